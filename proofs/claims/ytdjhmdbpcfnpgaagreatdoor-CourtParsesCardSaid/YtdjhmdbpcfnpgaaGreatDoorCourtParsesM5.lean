/- Lemmas for the proof. -/
import Derived.Test.YtdjhmdbpcfnpgaaGreatDoorCourtParsesM1
import Derived.Test.YtdjhmdbpcfnpgaaGreatDoorCourtParsesM2
import Derived.Test.YtdjhmdbpcfnpgaaGreatDoorCourtParsesM3
import Derived.Test.YtdjhmdbpcfnpgaaGreatDoorCourtParsesM4
import Derived.Shelf.Strings.Search1
import Derived.Shelf.Strings.Count
set_option maxHeartbeats 4000000
set_option maxRecDepth 100000
namespace Go.Proofs.YtdjhmdbpcfnpgaaGreatDoor
open Go.RowKit
def isT (r:Option (AV×Hp)):Bool:=match r with
 | some (.v (.bool true),_)=>true
 | _=>false
theorem Su {r:Option (AV×Hp)}(h:isT r=true):∃ h',r=some (.v (.bool true),h'):=by
 unfold isT at h
 split at h
 ·exact ⟨_,rfl⟩
 ·cases h
set_option maxRecDepth 1000000 in
theorem Tt:isT (Ov E13 3000 8 [] [])=true:=by kernel_rfl
theorem RA:∃ h,Ov E13 3000 8 [] []=some (.v (.bool true),h):=Su Tt
theorem Pw (w:World):Ret Tryz.prog 8 #[] w fun v w'=>v = .bool true/\w.grownBy w' none:=by
 obtain ⟨h,e⟩:=RA
 exact Rj (E:=E13) (Z:=fun _=>False) (us:=[]) Tc e (fun c hc=>hc.elim) (fun g x h=>by cases h) .nil
theorem TG {w:World}{Z:Nat->Prop}:VR w Z [] (.v (.bool true)) (.bool true):= .v rfl
def HT:Option Bool:=some true
def Lj:Cs Unit:=csN
def Lk (b:Bool):AV:=cdB.enc b
def Mx:List AV->Option AV:=Ea Lj (fun _=>HT) Lk
theorem He:XOk 8 Mx:=by
 refine ⟨⟨Tryz.call8⟩,fun xs x h w Z us _ _ hv=>?_⟩
 obtain ⟨a,ha,h⟩:=OB h
 obtain ⟨b,hb,rfl⟩:=Option.map_eq_some_iff.1 h
 have hb:=OI hb
 subst hb
 have:xs=[]:=by
  cases xs with
  | nil=>rfl
  | cons x xs=>cases ha
 subst this
 have:us=[]:=by have:=hv.len; simpa using this
 subst this
 exact Ret.mono (Pw w) fun v w' h=>⟨h.2,by rw [h.1]; exact TG⟩
/-- A block that a call made is given up. -/
theorem SOk.kill {f:FuncId}{ys:List AV}{Out Out2:AV->Hp->Prop}(b:Nat) (hs:SOk f ys Out) (h:∀ x h',Out x h'->Out2 x (h'.set b none)):SOk f ys Out2 :=
 ⟨hs.1,fun w Z us hz hg hv=>Ret.mono (hs.2 w Z us hz hg hv) fun v w' ⟨Z',R',x,h',hO,h1,h2,st⟩ =>
  let ⟨k1,k2⟩:=h1.kill b
  ⟨Z',R',x,h'.set b none,h x h' hO,k1,h2,st.trans k2.w⟩⟩
/-- How a Lean value is held by an abstract value and own blocks (the list tells which). -/
structure Oc (α:Type) where
 cd:Cd α
 at_:Hp->AV->α->List Nat->Prop
 loc:∀ {h h':Hp} {e:AV} {x:α} {F:List Nat},at_ h e x F->(∀ b ∈ F,h'[b]? = h[b]?)->at_ h' e x F
 own:∀ {h:Hp} {e:AV} {x:α} {F:List Nat} {b:Nat},at_ h e x F->b ∈ F->∃ B,h[b]? = some (some B)/\B.fz=false
 vr:∀ {w:World} {Z:Nat->Prop} {R:List RI} {h:Hp} {e:AV} {x:α} {F:List Nat} {u:Value},HR w Z R h->at_ h e x F->VR w Z R e u->VR w (fun c=>Z c\/∃ b ∈ F,∃ r,R[b]? = some r/\c=r.c) [] (cd.enc x) u
/-- A part of a heap. -/
structure Asn where
 at_:Hp->List Nat->Prop
 loc:∀ {h h':Hp} {F:List Nat},at_ h F->(∀ b ∈ F,h'[b]? = h[b]?)->at_ h' F
 own:∀ {h:Hp} {F:List Nat} {b:Nat},at_ h F->b ∈ F->∃ B,h[b]? = some (some B)/\B.fz=false
def TF (h:Hp):List Asn->List Nat->Prop
 | [],F=>F=[]
 | P::L,F=>∃ F1 F2,F=F1++F2/\P.at_ h F1/\TF h L F2
/-- The assertions hold of different blocks. -/
def T (h:Hp) (L:List Asn):Prop:=∃ F,TF h L F/\F.Nodup
theorem H7 {h:Hp}{b:Nat}{o:Option Blk}(e:h[b]? = some o):b < h.length:=(List.getElem?_eq_some_iff.1 e).1
theorem TF.loc {h h':Hp}:∀ {L:List Asn}{F:List Nat},TF h L F->(∀ b ∈ F,h'[b]? = h[b]?)->TF h' L F
 | [],_,e,_=>e
 | _::_,_,⟨F1,F2,e,p,q⟩,k=>⟨F1,F2,e,Asn.loc _ p (fun b hb=>k b (by rw [e]; exact List.mem_append_left _ hb)),TF.loc q fun b hb=>k b (by rw [e]; exact List.mem_append_right _ hb)⟩
theorem TF.own {h:Hp}:∀ {L:List Asn}{F:List Nat}{b:Nat},TF h L F->b ∈ F->∃ B,h[b]? = some (some B)/\B.fz=false
 | [],_,_,e,hb=>by rw [show _=[] from e] at hb; cases hb
 | _::_,_,_,⟨F1,F2,e,p,q⟩,hb=>by
  rw [e] at hb
  rcases List.mem_append.1 hb with hb | hb
  ·exact Asn.own _ p hb
  ·exact TF.own q hb
theorem TF.lt {h:Hp}{L:List Asn}{F:List Nat}{b:Nat}(t:TF h L F) (hb:b ∈ F):b < h.length:=let ⟨_,e,_⟩:=t.own hb; H7 e
theorem Asn.lt {P:Asn}{h:Hp}{F:List Nat}{b:Nat}(t:P.at_ h F) (hb:b ∈ F):b < h.length:=let ⟨_,e,_⟩:=P.own t hb; H7 e
theorem TF.front {h:Hp}{P:Asn}:∀ {i:Nat}{L:List Asn}{F:List Nat},TF h L F->L[i]? = some P->∃ F',TF h (P::L.eraseIdx i) F'/\F'.Perm F
 | _,[],_,_,e=>by simp at e
 | 0,Q::L,F,t,e=>by
  simp at e; subst e
  exact ⟨F,t,List.Perm.refl _⟩
 | i + 1,Q::L,F,⟨F1,F2,e0,p,q⟩,e=>by
  obtain ⟨F',⟨G1,G2,e1,p1,q1⟩,hp⟩:=TF.front q (by simpa using e)
  subst e0 e1
  refine ⟨G1++(F1++G2),⟨G1,_,rfl,p1,F1,G2,rfl,p,q1⟩,?_⟩
  have h1:(G1++(F1++G2)).Perm (F1++(G1++G2)):=by
   rw [<-List.append_assoc,<-List.append_assoc]
   exact List.Perm.append_right _ List.perm_append_comm
  exact h1.trans (List.Perm.append_left _ hp)
theorem T.front {h:Hp}{L:List Asn}{P:Asn}(i:Nat) (t:T h L) (e:L[i]? = some P):T h (P::L.eraseIdx i) :=
 let ⟨_,t1,hn⟩:=t; let ⟨F',t2,hp⟩:=t1.front e; ⟨F',t2,hp.nodup_iff.2 hn⟩
theorem F8 {F1 F2:List Nat}:(F1++F2).Nodup↔F1.Nodup/\F2.Nodup/\∀ a ∈ F1,a ∉ F2:=by
 rw [List.nodup_append]
 constructor
 ·rintro ⟨h1,h2,h3⟩
  exact ⟨h1,h2,fun a ha hb=>h3 a ha a hb rfl⟩
 ·rintro ⟨h1,h2,h3⟩
  exact ⟨h1,h2,fun a ha b hb e=>h3 a ha (e ▸ hb)⟩
/-- The first assertion turns into another; the rest is as it was. -/
theorem T.act {h:Hp}{P:Asn}{L:List Asn}(t:T h (P::L)):∃ F,P.at_ h F/\F.Nodup/\(∀ (h':Hp) (P':Asn) (F':List Nat),P'.at_ h' F'->F'.Nodup->(∀ b,b ∉ F->b < h.length->h'[b]? = h[b]?)->(∀ b ∈ F',b ∈ F\/h.length<=b)->T h' (P'::L))/\∀ h':Hp,(∀ b,b ∉ F->b < h.length->h'[b]? = h[b]?)->T h' L:=by
 obtain ⟨F,⟨F1,F2,rfl,p,q⟩,hn⟩:=t
 obtain ⟨n1,n2,n3⟩:=F8.1 hn
 have hq:∀ h':Hp,(∀ b,b ∉ F1->b < h.length->h'[b]? = h[b]?)->TF h' L F2:=fun h' hs=>q.loc fun b hb=>hs b (fun hb1=>n3 b hb1 hb) (q.lt hb)
 refine ⟨F1,p,n1,fun h' P' F' p' hn' hs hb=>⟨F'++F2,⟨F',F2,rfl,p',hq h' hs⟩,F8.2 ⟨hn',n2,fun a ha ha2=>?_⟩⟩,fun h' hs=>⟨F2,hq h' hs,n2⟩⟩
 rcases hb a ha with h1 | h1
 ·exact n3 a h1 ha2
 ·have:=q.lt ha2; omega
theorem T.drop {h:Hp}{P:Asn}{L:List Asn}(t:T h (P::L)):T h L:=let ⟨_,_,_,_,k⟩:=t.act; k h fun _ _ _=>rfl
/-- New blocks, a new assertion. -/
theorem T.add {h h':Hp}{P:Asn}{L:List Asn}{F:List Nat}(t:T h L) (p:P.at_ h' F) (hn:F.Nodup) (hs:∀ b,b < h.length->h'[b]? = h[b]?) (hb:∀ b ∈ F,h.length<=b):T h' (P::L):=by
 obtain ⟨F2,q,n2⟩:=t
 exact ⟨F++F2,⟨F,F2,rfl,p,q.loc fun b hb=>hs b (q.lt hb)⟩,F8.2 ⟨hn,n2,fun a ha ha2=>by have:=hb a ha; have:=q.lt ha2; omega⟩⟩
theorem T.nil {h:Hp}:T h []:=⟨[],rfl,List.nodup_nil⟩
/-- Two assertions as one. -/
def V3 (P Q:Asn):Asn where
 at_ h F:=∃ F1 F2,F=F1++F2/\P.at_ h F1/\Q.at_ h F2
 loc:=fun ⟨F1,F2,e,p,q⟩ k=>⟨F1,F2,e,P.loc p (fun b hb=>k b (by rw [e]; exact List.mem_append_left _ hb)),Q.loc q fun b hb=>k b (by rw [e]; exact List.mem_append_right _ hb)⟩
 own:=fun ⟨F1,F2,e,p,q⟩ hb=>by
  rw [e] at hb
  rcases List.mem_append.1 hb with hb | hb
  ·exact P.own p hb
  ·exact Q.own q hb
theorem T.join {h:Hp}{P Q:Asn}{L:List Asn}:T h (P::Q::L)↔T h (V3 P Q::L):=by
 constructor
 ·rintro ⟨F,⟨F1,F2,rfl,p,⟨G1,G2,rfl,q,r⟩⟩,hn⟩
  exact ⟨_,⟨F1++G1,G2,(List.append_assoc _ _ _).symm,⟨F1,G1,rfl,p,q⟩,r⟩,hn⟩
 ·rintro ⟨F,⟨F1,F2,rfl,⟨G1,G2,rfl,p,q⟩,r⟩,hn⟩
  exact ⟨_,⟨G1,G2++F2,List.append_assoc _ _ _,p,G2,F2,rfl,q,r⟩,hn⟩
/-- An own value. -/
def own_ {α:Type}(o:Oc α) (e:AV) (x:α):Asn:=⟨fun h F=>o.at_ h e x F,o.loc,o.own⟩
/-- A cell of its own (a variable that closures hold, a struct with an address). -/
def cel (p:AV) (k:Nat) (t:TypeId) (a:AV):Asn where
 at_ h F:=∃ b,p = .pt b 0 0/\F=[b]/\h[b]? = some (some ⟨k,t,[a],false⟩)
 loc:=fun ⟨b,e1,e2,e3⟩ k=>⟨b,e1,e2,(k b (by rw [e2]; simp)).trans e3⟩
 own:=fun ⟨b,e1,e2,e3⟩ hb=>by
  rw [e2] at hb
  simp at hb
  subst hb
  exact ⟨_,e3,rfl⟩
/-- A value as it is. -/
def ocV {α:Type}(c:Cd α):Oc α where
 cd:=c
 at_ _ e x F:=e=c.enc x/\F=[]
 loc h _:=h
 own h hb:=by rw [h.2] at hb; cases hb
 vr:=fun {w Z R h e x F u} _ ha hv=>by
  rw [ha.1] at hv
  exact (HV (c.nr x) hv).mono (fun _ _=>rfl) (fun _ h=> .inl h) (fun _ _ h=>h)
section
variable {α:Type}{p p':AV->α->List Nat->Prop}
def All3 (p:AV->α->List Nat->Prop):List AV->List α->List Nat->Prop
 | [],[],F=>F=[]
 | e::es,x::xs,F=>∃ F1 F2,F=F1++F2/\p e x F1/\All3 p es xs F2
 | _,_,_=>False
def All3h (p:AV->α->List Nat->Prop):Nat->AV->List AV->List α->List Nat->Prop
 | 0,e',e::es,_::xs,F=>e=e'/\All3 p es xs F
 | j + 1,e',e::es,x::xs,F=>∃ F1 F2,F=F1++F2/\p e x F1/\All3h p j e' es xs F2
 | _,_,_,_,_=>False
theorem All3.len:∀ {es:List AV}{xs:List α}{F:List Nat},All3 p es xs F->es.length=xs.length
 | [],[],_,_=>rfl
 | _::_,_::_,_,⟨_,_,_,_,h⟩=>by simp [All3.len h]
 | [],_::_,_,h=>h.elim
 | _::_,[],_,h=>h.elim
theorem All3.mono:∀ {es:List AV}{xs:List α}{F:List Nat},All3 p es xs F->(∀ e x F',(∀ b ∈ F',b ∈ F)->p e x F'->p' e x F')->All3 p' es xs F
 | [],[],_,h,_=>h
 | _::_,_::_,_,⟨F1,F2,e,h1,h2⟩,k=>⟨F1,F2,e,k _ _ F1 (fun b hb=>by rw [e]; exact List.mem_append_left _ hb) h1,h2.mono fun e' x F' hF=>k e' x F' fun b hb=>by rw [e]; exact List.mem_append_right _ (hF b hb)⟩
 | [],_::_,_,h,_=>h.elim
 | _::_,[],_,h,_=>h.elim
theorem All3h.mono:∀ {j:Nat}{e':AV}{es:List AV}{xs:List α}{F:List Nat},All3h p j e' es xs F->(∀ e x F',(∀ b ∈ F',b ∈ F)->p e x F'->p' e x F')->All3h p' j e' es xs F
 | 0,_,_::_,_::_,_,⟨h1,h2⟩,k=>⟨h1,h2.mono k⟩
 | _ + 1,_,_::_,_::_,_,⟨F1,F2,e,h1,h2⟩,k=>⟨F1,F2,e,k _ _ F1 (fun b hb=>by rw [e]; exact List.mem_append_left _ hb) h1,h2.mono fun e' x F' hF=>k e' x F' fun b hb=>by rw [e]; exact List.mem_append_right _ (hF b hb)⟩
 | 0,_,[],_,_,h,_=>by unfold All3h at h; exact h.elim
 | 0,_,_::_,[],_,h,_=>by unfold All3h at h; exact h.elim
 | _ + 1,_,[],_,_,h,_=>by unfold All3h at h; exact h.elim
 | _ + 1,_,_::_,[],_,h,_=>by unfold All3h at h; exact h.elim
theorem All3.get:∀ {es:List AV}{xs:List α}{F:List Nat}{i:Nat}{x:α},All3 p es xs F->xs[i]? = some x->∃ e Fi,es[i]? = some e/\p e x Fi/\∀ b ∈ Fi,b ∈ F
 | _::_,_::_,_,0,_,⟨F1,F2,e,h1,h2⟩,hx=>by
  simp at hx; subst hx
  exact ⟨_,F1,rfl,h1,fun b hb=>by rw [e]; exact List.mem_append_left _ hb⟩
 | _::_,_::_,_,i + 1,_,⟨F1,F2,e,h1,h2⟩,hx=>by
  obtain ⟨e',Fi,k1,k2,k3⟩:=h2.get (i:=i) (by simpa using hx)
  exact ⟨e',Fi,by simpa using k1,k2,fun b hb=>by rw [e]; exact List.mem_append_right _ (k3 b hb)⟩
 | [],[],_,_,_,_,hx=>by simp at hx
 | [],_::_,_,_,_,h,_=>h.elim
 | _::_,[],_,_,_,h,_=>h.elim
theorem All3h.at_:∀ {j:Nat}{e':AV}{es:List AV}{xs:List α}{F':List Nat},All3h p j e' es xs F'->es[j]? = some e'/\es.length=xs.length/\j < xs.length
 | 0,_,_::_,_::_,_,⟨h1,h2⟩=>⟨by simp [h1],by simp [h2.len],by simp⟩
 | _ + 1,_,_::_,_::_,_,⟨_,_,_,_,h2⟩=>by
  obtain ⟨k1,k2,k3⟩:=h2.at_
  exact ⟨by simpa using k1,by simp [k2],by simp; omega⟩
 | 0,_,[],_,_,h=>by unfold All3h at h; exact h.elim
 | 0,_,_::_,[],_,h=>by unfold All3h at h; exact h.elim
 | _ + 1,_,[],_,_,h=>by unfold All3h at h; exact h.elim
 | _ + 1,_,_::_,[],_,h=>by unfold All3h at h; exact h.elim
theorem All3.append:∀ {es:List AV}{xs:List α}{F:List Nat}{es':List AV}{xs':List α}{F':List Nat},All3 p es xs F->All3 p es' xs' F'->All3 p (es++es') (xs++xs') (F++F')
 | [],[],_,_,_,_,h,h'=>by rw [show _=[] from h]; exact h'
 | _::_,_::_,_,_,_,_,⟨F1,F2,e,h1,h2⟩,h'=>⟨F1,_,by rw [e,List.append_assoc],h1,h2.append h'⟩
 | [],_::_,_,_,_,_,h,_=>h.elim
 | _::_,[],_,_,_,_,h,_=>h.elim
theorem All3.mem:∀ {es:List AV}{xs:List α}{F:List Nat}{b:Nat},All3 p es xs F->b ∈ F->∃ e x F',p e x F'/\b ∈ F'
 | [],[],_,_,h,hb=>by rw [show _=[] from h] at hb; cases hb
 | _::_,_::_,_,_,⟨F1,F2,e,h1,h2⟩,hb=>by
  rw [e] at hb
  rcases List.mem_append.1 hb with hb | hb
  ·exact ⟨_,_,F1,h1,hb⟩
  ·exact h2.mem hb
 | [],_::_,_,_,h,_=>h.elim
 | _::_,[],_,_,h,_=>h.elim
end
/-- Leaves. -/
theorem JB {α:Type}{c:Cd α}{h:Hp}:∀ {xs:List α},All3 ((ocV c).at_ h) (xs.map c.enc) xs []
 | []=>rfl
 | _x::_=>⟨[],[],rfl,⟨rfl,rfl⟩,JB⟩
theorem All3.leaf_inv {α:Type}{c:Cd α}{h:Hp}:∀ {es:List AV}{xs:List α}{F:List Nat},All3 ((ocV c).at_ h) es xs F->es=xs.map c.enc/\F=[]
 | [],[],_,e=>⟨rfl,e⟩
 | _::_,_::_,_,⟨F1,F2,e,h1,h2⟩=>by
  obtain ⟨k1,k2⟩:=h2.leaf_inv
  exact ⟨by rw [k1,h1.1]; rfl,by rw [e,h1.2,k2]; rfl⟩
 | [],_::_,_,h=>h.elim
 | _::_,[],_,h=>h.elim
/-- An own slice of own values. -/
def ocL {α:Type}(k:Nat) (t:TypeId) (o:Oc α):Oc (List α) where
 cd:=cdL k o.cd
 at_ h e xs F:=(e = .e0/\xs=[]/\F=[])\/∃ b es F',e = .rf b 0 xs.length xs.length/\h[b]? = some (some ⟨k,t,es,false⟩)/\F=b::F'/\All3 (o.at_ h) es xs F'
 loc:=fun {h h' e x F} ha k=>by
  rcases ha with h1 | ⟨b,es,F',h1,h2,h3,h4⟩
  ·exact .inl h1
  ·subst h3
   exact .inr ⟨b,es,F',h1,(k b (by simp)).trans h2,rfl,h4.mono fun e x G hG h5=>o.loc h5 fun c hc=>k c (List.mem_cons_of_mem _ (hG c hc))⟩
 own:=fun {h e x F b} ha hb=>by
  rcases ha with ⟨_,_,h1⟩ | ⟨b',es,F',h1,h2,h3,h4⟩
  ·rw [h1] at hb; cases hb
  ·subst h3
   rcases List.mem_cons.1 hb with rfl | hb
   ·exact ⟨_,h2,rfl⟩
   ·obtain ⟨e,x,G,k1,k2⟩:=h4.mem hb
    exact o.own k1 k2
 vr:=fun {w Z R h e xs F u} hh ha hv=>by
  rcases ha with ⟨rfl,rfl,rfl⟩ | ⟨b,es,F',rfl,h2,rfl,h4⟩
  ·cases hv
   exact .sl (us:=[]) rfl rfl (Nat.le_refl _) (by unfold maxLen; omega) (fun h=>by omega) (fun i x u hx=>by simp at hx)
  ·obtain ⟨r,arr,us,g1,g2,g3,g4,g5,g6,g7,g8,g9,g10⟩:=hh.blk b _ h2
   have hl:=h4.len
   cases hv with
   | rf hr' q0 q1 q2 q3 =>
    rename_i c r'
    rw [g1] at hr'
    injection hr' with hr'
    subst hr'
    have hul:us.length=es.length:=g9.len
    refine .sl (us:=us) (by simp) (by simp; omega) (by omega) (by omega) (fun _=>⟨⟨r.c,0 * r.k,none⟩,rfl,rfl,.inr ⟨b,by simp,r,g1,rfl⟩,fun i u hu=>?_⟩) (fun i x u hx hu=>?_)
    ·obtain ⟨k1,k2,k3⟩:=g10 i u hu
     refine ⟨k1,k2,fun j q hq=>?_⟩
     have:=k3 j q hq
     rw [Nat.zero_mul,Nat.zero_add]
     simp only [World.cell?,g3]
     simpa using this
    ·rw [List.getElem?_map] at hx
     obtain ⟨y,hy,rfl⟩:=Option.map_eq_some_iff.1 hx
     obtain ⟨e,Fi,k1,k2,k3⟩:=h4.get hy
     have hvi:=g9.at_ i e u k1 hu
     exact (o.vr hh k2 hvi).mono (fun _ _=>rfl) (fun c hc=>hc.imp_right fun ⟨b',hb',hr⟩=>⟨b',List.mem_cons_of_mem _ (k3 b' hb'),hr⟩) (fun _ _ h=>h)
/-- What may be laid in a cell of k cells. -/
def Fit {α:Type}(o:Oc α) (k:Nat):Prop:=∀ (h:Hp) (e:AV) (x:α) (F:List Nat),o.at_ h e x F->e.nc=k/\e.notTp=true/\elm e.cel=e
theorem P8 {α:Type}{c:Cd α}{k:Nat}(h:∀ x,(c.enc x).nc=k/\(c.enc x).notTp=true/\elm (c.enc x).cel=c.enc x):Fit (ocV c) k:=fun _ e x _ hx=>by
 rw [hx.1]; exact h x
theorem All3.fit {α:Type}{o:Oc α}{k:Nat}(hf:Fit o k){h:Hp}:∀ {es:List AV}{xs:List α}{F:List Nat},All3 (o.at_ h) es xs F->∀ e ∈ es,e.nc=k/\e.notTp=true/\elm e.cel=e
 | [],[],_,_,e,he=>by cases he
 | _::_,_::_,_,⟨F1,F2,_,h1,h2⟩,e,he=>by
  rcases List.mem_cons.1 he with rfl | he
  ·exact hf _ _ _ _ h1
  ·exact h2.fit hf e he
 | [],_::_,_,h,_,_=>h.elim
 | _::_,[],_,h,_,_=>h.elim
/-- The address of an element. -/
def eAt:AV->Nat->AV
 | .rf b lo _ _,i=> .pt b (lo + i) 0
 | x,_=>x
def Hs:AV->Nat->AV
 | .pt b i o,n=> .pt b i (o + n)
 | x,_=>x
section
variable {α:Type}{o:Oc α}{k j:Nat}{t:TypeId}{e e':AV}{xs:List α}{x y:α}{h:Hp}{L:List Asn}{c:Cd α}
theorem T.e0 {k:Nat}{ty:TypeId}(t:T h L):T h (own_ (ocL k ty o) .e0 []::L):=t.add (F:=[]) (.inl ⟨rfl,rfl,rfl⟩) List.nodup_nil (fun _ _=>rfl) (fun _ h=>by cases h)
end
section
variable {P:Program}{α:Type}{o:Oc α}{k j m off:Nat}{t ty ty2 el:TypeId}{e e' y:AV}{xs ys vs:List α}{x v v':α}{h:Hp}{L:List Asn}{c:Cd α}{i:Int}{ki:IntKind}{g:Bool}
theorem Sz (ht:T h (own_ (ocL k t o) e xs::L)) (hu:P.underlying ty=some (.slice el)):K2 P ty e=some (eI xs.length):=by
 obtain ⟨F,p,_⟩:=ht.act
 rcases p with ⟨rfl,rfl,_⟩ | ⟨b,es,F',rfl,_⟩
 ·simp [K2,hu,eI]
 ·simp [K2,hu,eI]
theorem T4 (ht:T h (own_ (ocL k t o) e xs::L)) (hu:P.underlying ty=some (.slice el)) (hs:Bf P el=some k) (hv:idx xs i=some v):CX P h ty e (.v (.int ki i))=some (eAt e i.toNat):=by
 obtain ⟨F,p,_⟩:=ht.act
 obtain ⟨h0,h1⟩:=L7 hv
 rcases p with ⟨rfl,rfl,_⟩ | ⟨b,es,F',rfl,h2,_⟩
 ·simp at h1
 ·rw [T5 hu hs h2 rfl h0 (List.getElem?_eq_some_iff.1 h1).1]
  simp [eAt]
theorem VZ (e:AV) (n:Nat):Hs (eAt e n) 0=eAt e n:=by cases e <;> rfl
theorem UU {n:Nat}(ht:T h (own_ (ocL k t (ocV c)) e xs::L)) (hv:xs[n]? = some v) (hs:Bf P ty=some y.nc) (hn:y.notTp=true) (he:SM (c.enc v) off y=some (c.enc v')):∃ h',FO P h ty (Hs (eAt e n) off) y=some h'/\T h' (own_ (ocL k t (ocV c)) e (xs.set n v')::L):=by
 obtain ⟨F,p,hn',hk,_⟩:=ht.act
 rcases p with ⟨rfl,rfl,_⟩ | ⟨b,es,F',rfl,h2,rfl,h4⟩
 ·simp at hv
 ·obtain ⟨rfl,rfl⟩:=h4.leaf_inv
  have hb:=H7 h2
  refine ⟨h.set b (some ⟨k,t,(xs.set n v').map c.enc,false⟩),by simp [FO,eAt,Hs,h2,hv,hs,hn,he],hk _ _ [b] (.inr ⟨b,(xs.set n v').map c.enc,[],by simp,by simp [hb],rfl,JB⟩) (by simp) (fun b' hb' _=>?_) (fun b' hb'=> .inl hb')⟩
  rw [List.getElem?_set,if_neg (by intro e; subst e; simp at hb')]
theorem Qi {n:Nat}(ht:T h (own_ (ocL k t (ocV c)) e xs::L)) (hv:xs[n]? = some v) (hs:Bf P ty=some y.nc) (hn:y.notTp=true) (he:SM (c.enc v) 0 y=some (c.enc v')):∃ h',FO P h ty (eAt e n) y=some h'/\T h' (own_ (ocL k t (ocV c)) e (xs.set n v')::L):=by
 have:=UU (off:=0) ht hv hs hn he
 rwa [VZ] at this
/-- Loose elements. -/
def els {α:Type}(o:Oc α) (es:List AV) (xs:List α):Asn where
 at_ h F:=All3 (o.at_ h) es xs F
 loc:=fun h k=>h.mono fun _e _x _G hG h5=>o.loc h5 fun c hc=>k c (hG c hc)
 own:=fun h hb=>let ⟨_,_,_,q1,q2⟩:=h.mem hb; o.own q1 q2
theorem JQ (ht:T h L):T h (els (ocV c) (xs.map c.enc) xs::L):=ht.add (F:=[]) JB List.nodup_nil (fun _ _=>rfl) (fun _ h=>by cases h)
/-- The elements of an own slice. -/
theorem Sh (ht:T h (own_ (ocL k t o) y ys::L)) (hu:P.underlying ty2=some (.slice el)):∃ ey,T h (els o ey ys::L)/\Jx h k y=some ey/\I4 P ty2 y=true:=by
 obtain ⟨F,p,hn,hk,_⟩:=ht.act
 rcases p with ⟨rfl,rfl,rfl⟩ | ⟨b,es,F',rfl,h2,rfl,h4⟩
 ·exact ⟨[],hk h _ [] rfl List.nodup_nil (fun _ _ _=>rfl) (fun _ h=>by cases h),by simp [Jx],by simp [I4,hu]⟩
 ·refine ⟨es,hk h _ F' h4 (List.nodup_cons.1 hn).2 (fun _ _ _=>rfl) (fun b hb=> .inl (List.mem_cons_of_mem _ hb)),?_,by simp [I4,hu]⟩
  have hl:=h4.len
  simp [Jx,h2,<-hl]
/-- A growing own slice takes elements. -/
theorem SX {bytes:Nat}{i:TypeInfo}{z:AV}{ey:List AV}(ht:T h (own_ (ocL k t o) e xs::els o ey ys::L)) (hsy:I4 P ty2 y=true) (hel:Jx h k y=some ey) (hte:FW P ty=some t) (hi:P.info? t=some i) (hz:Eb P t=some z) (hk:i.size=k) (h0:Nat.blt 0 k=true) (hzn:z.nc=k) (hzt:z.notTp=true) (hib:i.bytes=bytes) (hc:FX bytes (xs.length + ys.length)=true) :
  ∃ e' h',DS P h ty ty2 e y=some (e',h')/\T h' (own_ (ocL k t o) e' (xs++ys)::L):=by
 subst hib hk
 obtain ⟨F,p,hn',hk,hk0⟩:=(T.join.1 ht).act
 obtain ⟨F1,Fy,rfl,px,hy4⟩:=p
 obtain ⟨n1,n2,n3⟩:=F8.1 hn'
 obtain ⟨c1,c2⟩:=NI hc
 have h0':0 < i.size:=Nat.le_of_ble_eq_true h0
 have hly:ey.length=ys.length:=All3.len hy4
 have hlt:∀ c,c ∈ F1++Fy->c < h.length:=fun c hc=>by
  rcases List.mem_append.1 hc with hc | hc
  ·obtain ⟨B,q,_⟩:=(ocL i.size t o).own px hc
   exact H7 q
  ·obtain ⟨B,q,_⟩:=(els o ey ys).own hy4 hc
   exact H7 q
 cases hey:ey with
 | nil =>
  subst hey
  have:ys=[]:=by cases ys with | nil=>rfl | cons a b=>simp at hly
  subst this
  refine ⟨e,h,?_,?_⟩
  ·rcases px with ⟨rfl,_⟩ | ⟨b,es,F',rfl,_⟩ <;> simp [DS,hsy,hte,hi,hz,hel]
  ·rw [List.append_nil]
   exact hk h _ F1 px n1 (fun _ _ _=>rfl) (fun b hb=> .inl (List.mem_append_left _ hb))
 | cons a r =>
  have he:ey.isEmpty=false:=by rw [hey]; rfl
  have hne:0 < ys.length:=by rw [<-hly,hey]; simp
  rcases px with ⟨rfl,rfl,rfl⟩ | ⟨bx,ex,Fx,rfl,hx2,rfl,hx4⟩
  ·have hc1:ey.length * i.bytes<=140737488355328/\ey.length<=140737488355328:=by
    rw [hly]; simp at c1 c2; exact ⟨c1,c2⟩
   refine ⟨.rf h.length 0 ys.length ys.length,h++[some ⟨i.size,t,ey,false⟩],?_,hk _ _ (h.length::Fy) (.inr ⟨h.length,ey,Fy,rfl,by simp,rfl,hy4.mono fun e x G hG h5=>o.loc h5 fun c hc=>List.getElem?_append_left (hlt c (List.mem_append_right _ (hG c hc)))⟩) (List.nodup_cons.2 ⟨fun hb=>by have:=hlt _ (List.mem_append_right _ hb); omega,n2⟩) (fun c _ hc=>List.getElem?_append_left hc) (fun c hc=>?_)⟩
   ·simp only [DS,hsy,hte,hi,hz,hel,he]
    rw [if_neg (by simp),if_neg (by simp),if_pos ⟨h0',hzn,hzt⟩,if_pos hc1,hly]
   ·rcases List.mem_cons.1 hc with rfl | hc
    ·exact .inr (Nat.le_refl _)
    ·exact .inl (List.mem_append_right _ hc)
  ·have hlx:ex.length=xs.length:=hx4.len
   have hbx:=H7 hx2
   have hbx':bx ∉ Fx:=(List.nodup_cons.1 n1).1
   have hby':bx ∉ Fy:=n3 bx (by simp)
   have same:∀ c,c≠bx->c < h.length->((h.set bx none)++[some ⟨i.size,t,ex++ey,false⟩])[c]? = h[c]?:=fun c hc hlt=>by
    rw [List.getElem?_append_left (by simpa using hlt),List.getElem?_set,if_neg (Ne.symm hc)]
   refine ⟨.rf h.length 0 (xs++ys).length (xs++ys).length,(h.set bx none)++[some ⟨i.size,t,ex++ey,false⟩],?_,hk _ _ (h.length::(Fx++Fy)) (.inr ⟨h.length,ex++ey,Fx++Fy,rfl,?_,rfl,All3.append (hx4.mono fun e x G hG h5=>o.loc h5 fun c hc=>same c (fun e=>hbx' (e ▸ hG c hc)) (hlt c (List.mem_append_left _ (List.mem_cons_of_mem _ (hG c hc))))) (hy4.mono fun e x G hG h5=>o.loc h5 fun c hc=>same c (fun e=>hby' (e ▸ hG c hc)) (hlt c (List.mem_append_right _ (hG c hc))))⟩) (List.nodup_cons.2 ⟨fun hb=>?_,?_⟩) (fun c hc hlt=>same c (fun e=>hc (by subst e; simp)) hlt) (fun c hc=>?_)⟩
   ·simp only [DS,hsy,hte,hi,hz,hel,he,hx2]
    rw [if_neg (by simp),if_neg (by simp),if_pos ⟨h0',hzn,hzt⟩,if_neg (by simp),if_neg (by omega),if_pos ⟨trivial,hlx.symm,by rw [hly]; exact c1,by rw [hly]; exact c2⟩]
    simp [hly]
   ·rw [List.getElem?_append_right (by simp)]; simp
   ·have:h.length < h.length:=hlt _ (by
     rcases List.mem_append.1 hb with hb | hb
     ·exact List.mem_append_left _ (List.mem_cons_of_mem _ hb)
     ·exact List.mem_append_right _ hb)
    omega
   ·exact F8.2 ⟨(List.nodup_cons.1 n1).2,n2,fun a ha ha2=>n3 a (List.mem_cons_of_mem _ ha) ha2⟩
   ·rcases List.mem_cons.1 hc with rfl | hc
    ·exact .inr (Nat.le_refl _)
    ·rcases List.mem_append.1 hc with h1 | h1
     ·exact .inl (List.mem_append_left _ (List.mem_cons_of_mem _ h1))
     ·exact .inl (List.mem_append_right _ h1)
theorem SY {bytes:Nat}{i:TypeInfo}{z:AV}(ht:T h (own_ (ocL k t o) e xs::own_ (ocL k t o) y ys::L)) (hu:P.underlying ty2=some (.slice el)) (hte:FW P ty=some t) (hi:P.info? t=some i) (hz:Eb P t=some z) (hk:i.size=k) (h0:Nat.blt 0 k=true) (hzn:z.nc=k) (hzt:z.notTp=true) (hib:i.bytes=bytes) (hc:FX bytes (xs.length + ys.length)=true) :
  ∃ e' h',DS P h ty ty2 e y=some (e',h')/\T h' (own_ (ocL k t o) e' (xs++ys)::L):=by
 obtain ⟨ey,h1,h2,h3⟩:=Sh (ht.front 1 rfl) hu
 exact SX (h1.front 1 rfl) h3 h2 hte hi hz hk h0 hzn hzt hib hc
/-- A block of elements. -/
theorem QW {es:List AV}{n:Nat}(ht:T h (els o es xs::L)) (hn:xs.length=n):T (h++[some ⟨k,t,es,false⟩]) (own_ (ocL k t o) (.rf h.length 0 n n) xs::L):=by
 obtain ⟨F,p,hn',hk,_⟩:=ht.act
 have hlt:∀ c,c ∈ F->c < h.length:=fun c hc=>by
  obtain ⟨B,q,_⟩:=(els o es xs).own p hc
  exact H7 q
 refine hk _ _ (h.length::F) (.inr ⟨h.length,es,F,by rw [hn],by simp,rfl,All3.mono p fun e x G hG h5=>o.loc h5 fun c hc=>List.getElem?_append_left (hlt c (hG c hc))⟩) (List.nodup_cons.2 ⟨fun hb=>by have:=hlt _ hb; omega,hn'⟩) (fun c _ hc=>List.getElem?_append_left hc) (fun c hc=>?_)
 rcases List.mem_cons.1 hc with rfl | hc
 ·exact .inr (Nat.le_refl _)
 ·exact .inl hc
def Kz (i:Nat):List AV->List (Nat×AV)
 | []=>[]
 | e::r=>(i,e)::Kz (i + 1) r
theorem NP {z:AV}(hz:z.nc=k):∀ {es pre:List AV},(∀ e ∈ es,e.nc=k/\e.notTp=true/\elm e.cel=e)->MU (pre++List.replicate es.length z) k (Kz pre.length es)=some (pre++es)
 | [],pre,_=>by simp [Kz,MU]
 | e::r,pre,hf=>by
  obtain ⟨h1,h2,h3⟩:=hf e (by simp)
  have:=NP hz (es:=r) (pre:=pre++[e]) (fun e' he=>hf e' (by simp [he]))
  simp only [Kz,MU,List.length_cons,List.replicate_succ]
  rw [if_pos ⟨by simp,h1,h2⟩,h3]
  have e1:(pre++z::List.replicate r.length z).set pre.length e=(pre++[e])++List.replicate r.length z:=by simp
  rw [e1]
  simpa using this
theorem S0 {i:TypeInfo}{z:AV}{es:List AV}{n:Nat}(hf:Fit o k) (ht:T h (els o es xs::L)) (hn:es.length=n) (hte:FW P ty=some t) (hi:P.info? t=some i) (hz:Eb P t=some z) (hk:i.size=k) (h0:Nat.blt 0 k=true) (hb:Nat.ble (n * k) 65536=true) (hzn:z.nc=k) (hzt:z.notTp=true) (hze:elm z.cel=z) :
  ∃ e' h',MT P h ty n (Kz 0 es)=some (e',h')/\T h' (own_ (ocL k t o) e' xs::L):=by
 obtain ⟨F,p,_⟩:=ht.act
 have hl:es.length=xs.length:=All3.len p
 have:=NP hzn (es:=es) (pre:=[]) (All3.fit hf p)
 subst hn
 simp only [List.nil_append,List.length_nil] at this
 refine ⟨_,_,?_,QW ht hl.symm⟩
 simp only [MT,hte,hi,hz,hk,hze]
 rw [if_pos ⟨Nat.le_of_ble_eq_true hb,Nat.le_of_ble_eq_true h0,hzn,hzt⟩,this]
theorem RV {i:TypeInfo}{z:AV}{bytes:Nat}{n:Int}{kn kc:IntKind}{x0:α}(ht:T h L) (hx:∀ h,o.at_ h z x0 []) (hte:FW P ty=some t) (hi:P.info? t=some i) (hz:Eb P t=some z) (hk:i.size=k) (hzn:z.nc=k) (hzt:z.notTp=true) (hib:i.bytes=bytes) (hc:TW bytes n=true) :
  ∃ e' h',JS P h ty (.v (.int kn n)) (.v (.int kc n))=some (e',h')/\T h' (own_ (ocL k t o) e' (List.replicate n.toNat x0)::L):=by
 simp only [TW,Bool.and_eq_true,decide_eq_true_eq] at hc
 subst hk hib
 have ha:∀ m,All3 (o.at_ h) (List.replicate m z) (List.replicate m x0) []:=fun m=>by
  induction m with
  | zero=>exact rfl
  | succ m ih=>exact ⟨[],[],rfl,hx h,ih⟩
 have ht':T h (els o (List.replicate n.toNat z) (List.replicate n.toNat x0)::L):=ht.add (F:=[]) (ha _) List.nodup_nil (fun _ _=>rfl) (fun _ h=>by cases h)
 refine ⟨_,_,?_,QW ht' (List.length_replicate)⟩
 simp only [JS,hte,Im,hi,hz]
 rw [if_pos ⟨trivial,hc.1.1,hc.1.2,hc.2,hzn,hzt⟩]
/-- A cell of its own is made, read, written. -/
theorem MQ {a:AV}(ht:T h L) (hn:a.notTp=true):∃ p h',KW h t a=some (p,h')/\T h' (cel p a.nc t a::L):=by
 refine ⟨.pt h.length 0 0,h++[some ⟨a.nc,t,[a],false⟩],by simp [KW,hn],ht.add (F:=[h.length]) ⟨h.length,rfl,rfl,by simp⟩ (by simp) (fun b hb=>List.getElem?_append_left hb) (fun b hb=>by simp at hb; omega)⟩
theorem F6 {p a:AV}(ht:T h (cel p k t a::L)) (hm:Bf P ty=some m) (hg:M2 P ty=some g) (he:QD a off m g=some y):Dp P h ty (Hs p off)=some y:=by
 obtain ⟨F,⟨b,rfl,rfl,h2⟩,_⟩:=ht.act
 simp [Dp,hm,hg,Hs,h2,he]
theorem ES {p a:AV}(ht:T h (cel p k t a::L)) (hm:Bf P ty=some m) (hg:M2 P ty=some g) (he:QD a 0 m g=some y):Dp P h ty p=some y:=by
 have:=F6 (off:=0) ht hm hg he
 obtain ⟨F,⟨b,rfl,rfl,h2⟩,_⟩:=ht.act
 exact this
theorem G6 {p a a':AV}(ht:T h (cel p k t a::L)) (hs:Bf P ty=some y.nc) (hn:y.notTp=true) (he:SM a off y=some a'):∃ h',FO P h ty (Hs p off) y=some h'/\T h' (cel p k t a'::L):=by
 obtain ⟨F,⟨b,rfl,rfl,h2⟩,hn',hk,_⟩:=ht.act
 have hb:=H7 h2
 refine ⟨h.set b (some ⟨k,t,[a'],false⟩),by simp [FO,Hs,h2,hs,hn,he],hk _ _ [b] ⟨b,rfl,rfl,by simp [hb]⟩ (by simp) (fun c hc _=>?_) (fun c hc=> .inl hc)⟩
 rw [List.getElem?_set,if_neg (by intro e; subst e; simp at hc)]
theorem I5 {p a a':AV}(ht:T h (cel p k t a::L)) (hs:Bf P ty=some y.nc) (hn:y.notTp=true) (he:SM a 0 y=some a'):∃ h',FO P h ty p y=some h'/\T h' (cel p k t a'::L):=by
 have:=G6 (off:=0) ht hs hn he
 obtain ⟨F,⟨b,rfl,rfl,h2⟩,_⟩:=ht.act
 exact this
theorem So {p a:AV}{fs:Array Field}{fd:Field}{f q:Nat}(ht:T h (cel p k t a::L)) (hu:P.underlying ty=some (.struct fs)) (hf:fs[f]? = some fd) (hs:Bf P fd.type=some (q + 1)):Df P ty p f=some (Hs p fd.offset):=by
 obtain ⟨F,⟨b,rfl,rfl,h2⟩,_⟩:=ht.act
 simp [Df,hu,hf,hs,Hs]
end
/-- What is own is written no more: it is a value as others. -/
def JV (F:List Nat) (h:Hp):Hp:=h.mapIdx fun i B=>if i ∈ F then none else B
theorem H8 {F:List Nat}{h:Hp}{b:Nat}{B:Blk}:(JV F h)[b]? = some (some B)↔b ∉ F/\h[b]? = some (some B):=by
 simp only [JV,List.getElem?_mapIdx]
 constructor
 ·intro hh
  obtain ⟨o,h1,h2⟩:=Option.map_eq_some_iff.1 hh
  split at h2
  ·cases h2
  ·next hb=>exact ⟨hb,by rw [h1,h2]⟩
 ·rintro ⟨h1,h2⟩
  rw [h2]; simp [h1]
theorem MA {F:List Nat}{h:Hp}{b:Nat}(hb:b ∉ F):(JV F h)[b]? = h[b]?:=by
 simp only [JV,List.getElem?_mapIdx]
 cases h[b]? <;> simp [hb]
section
variable {E:Env}{n:Nat}{l l':List (Nat×AV)}{hp:Hp}{α:Type}{o:Oc α}{e:AV}{x:α}{L:List Asn}
/-- Slots that stay, and slots that turn. -/
def LkT (l:List (Nat×AV)) (e y:AV):List (Nat×AV)->Prop
 | []=>True
 | (t,z)::r=>(lk l t=some z\/(lk l t=some e/\z=y))/\LkT l e y r
theorem LkT.at_ {e y:AV}:∀ {l':List (Nat×AV)},LkT l e y l'->∀ t z,lk l' t=some z->lk l t=some z\/(lk l t=some e/\z=y)
 | [],_,t,z,h=>by cases h
 | (k,z0)::r,⟨h1,h2⟩,t,z,h=>by
  rw [F7] at h
  split at h
  ·next hk=>injection h with h; subst hk h; exact h1
  ·exact h2.at_ t z h
/-- Values as a call sees them. -/
def SeeV (hp:Hp) (x y:AV):Prop:=∀ (w:World) (Z:Nat->Prop) (R:List RI) (u:Value),HR w Z R hp->VR w Z R x u->VR w (fun c=>Z c\/own R hp c) [] y u
def Sees (hp:Hp) (xs ys:List AV):Prop:=∀ (w:World) (Z:Nat->Prop) (R:List RI) (us:List Value),HR w Z R hp->VRs w Z R xs us->VRs w (fun c=>Z c\/own R hp c) [] ys us
theorem Sees.nil:Sees hp [] []:=fun w Z R us _ h=>by
 have:us=[]:=by have:=h.len; simpa using this
 subst this
 exact .nil
theorem Sees.cons {x y:AV}{xs ys:List AV}(h:SeeV hp x y) (hs:Sees hp xs ys):Sees hp (x::xs) (y::ys):=fun w Z R us hh hv=>by
 obtain ⟨u,us',rfl,hu,hn⟩:=hv.head
 exact .cons (h w Z R u hh hu) (hs w Z R us' hh hn)
theorem SeeV.id {x:AV}(hx:Cq x=true):SeeV hp x x:=fun _w _Z _R _u _ hv=>(HV hx hv).mono (fun _ _=>rfl) (fun _ h=> .inl h) (fun _ _ h=>h)
theorem SeeV.enc {c:Cd α}:SeeV hp (c.enc x) (c.enc x):= .id (c.nr x)
theorem SeeV.own {i:Nat}(ht:T hp L) (hi:L[i]? = some (own_ o e x)):SeeV hp e (o.cd.enc x):=fun w Z R u hh hv=>by
 obtain ⟨F,p,_⟩:=(ht.front i hi).act
 refine (o.vr hh p hv).mono (fun _ _=>rfl) (fun c hc=>hc.imp_right fun ⟨b,hb,r,hr,hc⟩=>?_) (fun _ _ h=>h)
 obtain ⟨B,k1,k2⟩:=o.own p hb
 exact ⟨b,B,r,k1,k2,hr,hc.symm⟩
theorem SeeV.ag {cs cs':List AV}(hs:Sees hp cs cs'):SeeV hp (.ag cs) (.ag cs'):=fun w Z R u hh hv=>by
 cases hv with
 | ag hl h1 hx =>
  have:=hs w Z R _ hh ⟨hl,hx⟩
  exact .ag this.len h1 this.at_
end
/-- The operations that are left, one by one, in the caller's blocks. -/
def RunL (E:Env) (cx:Cx) (ops:Array Oper) (rest:List Oper) (s:St) (K:St->Prop):Prop :=
 ∀ (ro:Option Nat) (base:Bs) (Q:Act->World->Prop) (a:Act) (w:World) (Z:Nat->Prop) (R:List RI),(cx.inR=false->ro=none)->SR E base w Z R s a->YI cx w Z R s.hp ->
  (∀ s' a' w' Z' R',K s'->SR E base w' Z' R' s' a'->Step w Z R s.hp w' Z' R' s'.hp->Q a' w')->LwL E.P ops Q rest a w
section
variable {E:Env}{cx:Cx}{ops:Array Oper}{pre rest rest':List Oper}{s s1:St}{K:St->Prop}{n m:Nat}{l l':List (Nat×AV)}{hp hp':Hp}{Q:Ex->St->Prop}{id:Nat}
theorem AH (hr:rest=[]) (k:K s):RunL E cx ops rest s K:=by
 subst hr
 exact fun ro base Q a w Z R _ sr _ q=>q s a w Z R k sr (Step.refl _ _ _ _)
theorem RunL.mono {K':St->Prop}(h:RunL E cx ops rest s K) (k:∀ s,K s->K' s):RunL E cx ops rest s K':=fun ro base Q a w Z R h1 h2 h3 q=>h ro base Q a w Z R h1 h2 h3 fun s' a' w' Z' R' hK=>q s' a' w' Z' R' (k s' hK)
theorem Kh (hE:EnvOk E) (n:Nat):∀ {pre:List Oper}{s:St},Ed E (evC E n) ⟨none,false⟩ ops pre s=some s1->RunL E cx ops rest s1 K->RunL E cx ops (pre++rest) s K
 | [],s,e,k=>by injection e with e; subst e; exact k
 | o::pre,s,e,kk=>by
  intro ro base Q a w Z R hro sr hy q
  unfold Ed at e
  split at e
  ·cases e
  ·next hw=>exact lwl_no (wantedA_eq sr hw) (Kh hE n e kk ro base Q _ w Z R hro (sr.put undef_vr) hy q)
  ·next hw =>
   split at e
   ·next s2 hs2=>exact lwl_op1 hE (code_sound hE n).1 hs2 sr (wantedA_eq sr hw) fun a' w' Z' R' sr' st=>Kh hE n e kk ro base Q a' w' Z' R' hro sr' (hy.step sr.hh st) fun s'' a'' w'' Z'' R'' hK sr'' st'=>q s'' a'' w'' Z'' R'' hK sr'' (st.trans st')
   ·cases e
theorem Ol (hE:EnvOk E) (m:Nat) (h:Ed E (evC E 0) ⟨none,false⟩ ops (rest.take m) s=some s1) (k:RunL E cx ops (rest.drop m) s1 K):RunL E cx ops rest s K:=by
 have:=Kh hE 0 h k
 rwa [List.take_append_drop] at this
theorem AG (hE:EnvOk E) (m:Nat){s:St}(l:List (Nat×AV)) (hp:Hp) (h:Mp (Ed E (evC E 0) ⟨none,false⟩ ops (rest.take m) s) l=some (n,xs2 l,hp)) (k:RunL E cx ops (rest.drop m) ⟨Fr n l,hp⟩ K):RunL E cx ops rest s K:=by
 obtain ⟨fr,h1,h2,h3⟩:=Es h
 refine Ol hE m h1 ?_
 exact fun ro base Q a w Z R hro sr hy q=>k ro base Q a w Z R hro (sr.forget h2 h3) hy q
theorem AL (hE:EnvOk E) (n:Nat){o:Oper}(hr:rest=o::rest') (h:Ed E (evC E n) ⟨none,false⟩ ops [o] s=some s1) (k:RunL E cx ops rest' s1 K):RunL E cx ops rest s K:=by
 subst hr
 exact Kh hE n (pre:=[o]) h k
theorem RunL.store (hE:EnvOk E){t:TypeId}{p q:Operand}{y z:AV}{ty:TypeId}{pos:String}{af:Array Edge}{g:Option (Nat×Bool)}(hr:rest=⟨none,.store t p q,ty,pos,af,g⟩::rest') (hw:BO ops (Fr n l) ⟨none,.store t p q,ty,pos,af,g⟩=some true) (hp1:opA E (Fr n l) p=some y) (hq1:opA E (Fr n l) q=some z) (h:FO E.P hp t y z=some hp') (k:RunL E cx ops rest' ⟨Fr n l,hp'⟩ K):RunL E cx ops rest ⟨Fr n l,hp⟩ K :=
 AL hE 0 hr (VY hw hp1 hq1 h) k
theorem SemY.regionL (h:RunL E cx ops ops.toList s fun s'=>Q .normal s'):SemY E cx (.region id ops false) s Q:=by
 intro ro base Qm a w Z R h1 h2 h3 kk
 exact wpIn_region_list (lwl_list ro (h ro base _ a w Z R h1 h2 h3 fun s' a' w' Z' R' hq sr st=>kk .normal s' a' w' Z' R' hq sr st))
end
section
variable {E:Env}{cx:Cx}{ops:Array Oper}{rest rest':List Oper}{K:St->Prop}{n:Nat}{l:List (Nat×AV)}{hp:Hp}
/-- A call that is gone through in the caller's blocks. -/
theorem NE (hP:E.P=E0.P) (hG:E.G=E0.G){e:Env}(he:EnvOk e) (heP:e.P=E0.P) (heG:e.G=E0.G){d:Nat}{f:Operand}{args:Array Operand}{tys:Array TypeId}{ty:TypeId}{pos:String}{af:Array Edge}{g:Option (Nat×Bool)}{fid:FuncId}{caps xs:List AV}{fn:Func}{c:Code}{Out:AV->Hp->Prop}(hr:rest=⟨some d,.call ⟨.value f,args,tys⟩,ty,pos,af,g⟩::rest') (hw:BO ops (Fr n l) ⟨some d,.call ⟨.value f,args,tys⟩,ty,pos,af,g⟩=some true)
  (hf:opA E (Fr n l) f=some (.fn fid [] caps)) (ha:Ff (opA E (Fr n l)) args.toList=some xs) (hfn:e.fn fid=some fn) (hc:fn.body=some c) (hle:(xs++caps).length<=fn.ntmps)
  (sem:SemY e ⟨none,false⟩ c ⟨Fr fn.ntmps (BF 0 (xs++caps)),hp⟩ fun x s'=>(x = .normal\/x = .ret)/\∃ ys,Dk e.P s'.fr s'.hp fn.results.toList=some ys/\Out (EB ys) s'.hp)
  (k:∀ x h',Out x h'->RunL E cx ops rest' ⟨Fr n ((d,x)::l),h'⟩ K):RunL E cx ops rest ⟨Fr n l,hp⟩ K:=by
 obtain ⟨P,fns,G,X,I⟩:=E
 obtain ⟨P',fns',G',X',I'⟩:=e
 simp only at hP hG heP heG
 subst hP hG heP heG
 subst hr
 intro ro base Q a w Z R hro sr hy q
 have hρ:∀ o x,opA ⟨E0.P,fns,E0.G,X,I⟩ (Fr n l) o=some x->VR w Z R x (a.eval o):=fun o x e=>opA_vr sr o x e
 refine Mb rfl (wantedA_eq sr hw) ?_
 have hvf:=hρ _ _ hf
 generalize hvq:a.eval f=vf at hvf
 cases hvf with
 | fn hl hl' hx hy' =>
  rename_i u1 u2
  have e1:u1=[]:=by simpa using hl
  subst e1
  obtain ⟨hff,hcall,_⟩:=he.fn fid fn hfn
  unfold Lw
  rw [Do (uf:=[]) (uc:=u2) rfl hvq rfl hcall w]
  simp only [List.nil_append]
  have hargs:VRs w Z R (xs++caps) (args.toList.map a.eval++u2):=(opds_vr hρ ha).append ⟨hl',hy'⟩
  refine Ret.mono (Mo he hfn hc hle sem sr.hh hargs sr.gl (fun y hy=>by cases hy)) fun v w' hS=>?_
  obtain ⟨Z',R',x,h',hO,h1,h2,st⟩:=hS
  have sr':=(sr.step h1 st).put (d:=some d) h2
  rw [show Ip (⟨Fr n l,hp⟩:St).fr (some d) x=Fr n ((d,x)::l) from CZ n l d _] at sr'
  exact k x h' hO ro base Q _ w' Z' R' hro sr' (hy.step sr.hh st) fun s' a' w'' Z'' R'' hK sr'' st'=>q s' a' w'' Z'' R'' hK sr'' (st.trans st')
theorem Jt {s s1:St}(hw:WkY E s s1) (h:RunL E cx ops rest s1 K):RunL E cx ops rest s K:=fun ro base Q a w Z R hro sr hy q=>by
 obtain ⟨Z',R',sr',st⟩:=hw base w Z R a sr
 exact h ro base Q a w Z' R' hro sr' (hy.step sr.hh st) fun s' a' w' Z2 R2 hK sr2 st2=>q s' a' w' Z2 R2 hK sr2 (st.trans st2)
/-- What a part did, told by states for each way out. -/
theorem JC {c:Code}{s:St}{Q:Ex->St->Prop}{e0:Ex}{A:St->Prop}(h:SemY E cx c s fun e s'=>e=e0/\∃ s2,A s2/\WkY E s' s2) (q:∀ s2,A s2->Q e0 s2):SemY E cx c s Q:=by
 intro ro base Qm a w Z R h1 h2 h3 k
 refine h ro base Qm a w Z R h1 h2 h3 fun e s' a' w' Z' R' hQ sr st=>?_
 obtain ⟨rfl,s2,hA,hw⟩:=hQ
 obtain ⟨Z2,R2,sr2,st2⟩:=hw base w' Z' R' a' sr
 exact k e s2 a' w' Z2 R2 (q s2 hA) sr2 (st.trans st2)
theorem IU {c:Code}{s:St}{Q:Ex->St->Prop}{e0:Ex}{A:St->Prop}{m:Nat}(h:SemYN E cx c m s fun e s'=>e=e0/\∃ s2,A s2/\WkY E s' s2) (q:∀ s2,A s2->Q e0 s2):SemYN E cx c m s Q:=by
 intro ro base Qm a w Z R h1 h2 h3 k
 refine h ro base Qm a w Z R h1 h2 h3 fun e s' a' w' Z' R' hQ sr st=>?_
 obtain ⟨rfl,s2,hA,hw⟩:=hQ
 obtain ⟨Z2,R2,sr2,st2⟩:=hw base w' Z' R' a' sr
 exact k e s2 a' w' Z2 R2 (q s2 hA) sr2 (st.trans st2)
theorem Sem.ofY {c:Code}{s:St}{Q:Ex->St->Prop}(h:SemY E cx c s Q):Sem E cx c s Q :=
 fun ro base Qm a w Z R h1 h2 h3 k=>h ro base Qm a w Z R h1 h2 (fun y hy=>by rw [h3] at hy; cases hy) fun e s' a' w' Z' R' hQ sr st=>k e s' a' w' Z' R' hQ sr st.w
end
def RunDT (E:Env) (cx:Cx) (ops:Array Oper) (T:Nat) (n0 k:Nat) (rest:List Oper) (s:St) (K:St->Prop):Prop :=
 ∀ (ro:Option Nat) (base:Bs) (Q:Act->World->Prop) (w0:World) (Z:Nat->Prop) (R0:List RI) (h0:Hp) (a:Act) (w:World) (R:List RI),(cx.inR=false->ro=none)->YI cx w0 Z R0 h0->HR w0 Z R0 h0->n0=h0.length->SR E base w Z R s a->w0.grownBy w none->Step w0 Z R0 h0 w Z R s.hp->(∀ (b:Nat) (B:Option Blk),h0[b]? = some B->s.hp[b]? = some B)->(∀ j,rest[j]? = ops[k + j]?) ->
  (∀ s' a' w' Z' R',K s'->SR E base w' Z' R' s' a'->Step w0 Z R0 h0 w' Z' R' s'.hp->Q a' w')->FE E.P ops (fun w'=>w0.grownBy w' none) (CY ops T) T Q k rest a w
section
variable {E:Env}{cx:Cx}{ops:Array Oper}{rest rest':List Oper}{s s1:St}{K:St->Prop}{n n0 k T:Nat}{l:List (Nat×AV)}{hp hp':Hp}{Q:Ex->St->Prop}{id:Nat}{x:AV}{d:Nat}
theorem O7 {o:Oper}(hops:∀ j,(o::rest')[j]? = ops[k + j]?) (hk:Nat.blt k T=true) (hq:isQ o.op=true):CY ops T k=false:=by
 have hok:ops[k]? = some o:=by have:=hops 0; simpa using this.symm
 have hlt:k < T:=Nat.le_of_ble_eq_true hk
 exact ID hok hq (by omega)
theorem OO {o:Oper}(hops:∀ j,(o::rest')[j]? = ops[k + j]?):∀ j,rest'[j]? = ops[k + 1 + j]?:=fun j=>by have:=hops (j + 1); simpa [Nat.add_assoc,Nat.add_comm 1 j] using this
theorem RunDT.done (hr:rest=[]) (kk:K s):RunDT E cx ops T n0 k rest s K:=by
 subst hr
 exact fun ro base Q w0 Z R0 h0 a w R _ _ _ _ sr hgr st _ _ q=>⟨fun _=>hgr,q s a w Z R kk sr st⟩
theorem RunDT.mono {K':St->Prop}(h:RunDT E cx ops T n0 k rest s K) (hk:∀ s,K s->K' s):RunDT E cx ops T n0 k rest s K':=fun ro base Q w0 Z R0 h0 a w R h1 h2 h3 h4 h5 h6 h7 h8 h9 q=>h ro base Q w0 Z R0 h0 a w R h1 h2 h3 h4 h5 h6 h7 h8 h9 fun s' a' w' Z' R' hK=>q s' a' w' Z' R' (hk s' hK)
/-- An operation that reads. -/
theorem RunDT.q {o:Oper}(hr:rest=o::rest') (hk:Nat.blt k T=true) (hq:isQ o.op=true) (hw:BO ops (Fr n l) o=some true) (hd:o.dst=some d) (h:Dx E.P (opA E (Fr n l)) hp o.op=some x) (hl:Sy n0 (opA E (Fr n l)) o.op=true) (kk:RunDT E cx ops T n0 (k + 1) rest' ⟨Fr n ((d,x)::l),hp⟩ K):RunDT E cx ops T n0 k rest ⟨Fr n l,hp⟩ K:=by
 subst hr
 intro ro base Q w0 Z R0 h0 a w R hro hy hh0 hn0 sr hgr st hpre hops q
 refine ⟨fun _=>hgr,?_⟩
 rw [if_pos (wantedA_eq sr hw),O7 hops hk hq,if_neg (by simp)]
 have hρ:∀ o x,opA E (Fr n l) o=some x->VR w Z R x (a.eval o):=fun o x e=>opA_vr sr o x e
 obtain ⟨u,hu,hrun⟩:=evOpQ_sound sr.hh hρ h
 have hquiet:∃ u,VR w Z R x u/\QuietAt E.P (Cf (fun w'=>w0.grownBy w' none) o) o u a:=by
  cases hl':L9 o.op with
  | false=>exact ⟨u,hu,fun w' _=>hrun w' fun h=>by rw [hl'] at h; cases h⟩
  | true =>
   obtain ⟨u1,hu1,hq1⟩:=Em hh0 sr hgr st hpre hl' (by rw [<-hn0]; exact hl) h
   exact ⟨u1,hu1,hq1.up (H6 hl')⟩
 obtain ⟨u,hu,hquiet⟩:=hquiet
 refine ⟨u,hquiet,?_⟩
 have sr':=sr.put (d:=o.dst) hu
 rw [hd,show Ip (⟨Fr n l,hp⟩:St).fr (some d) x=Fr n ((d,x)::l) from CZ n l d _] at sr'
 rw [hd]
 exact kk ro base Q w0 Z R0 h0 _ w R hro hy hh0 hn0 sr' hgr st hpre (OO hops) q
/-- One that is not wanted. -/
theorem RunDT.skip {o:Oper}(hr:rest=o::rest') (hw:BO ops (Fr n l) o=some false) (hd:o.dst=some d) (kk:RunDT E cx ops T n0 (k + 1) rest' ⟨Fr n ((d,.tp [])::l),hp⟩ K):RunDT E cx ops T n0 k rest ⟨Fr n l,hp⟩ K:=by
 subst hr
 intro ro base Q w0 Z R0 h0 a w R hro hy hh0 hn0 sr hgr st hpre hops q
 refine ⟨fun _=>hgr,?_⟩
 rw [if_neg (by rw [wantedA_eq sr hw]; simp)]
 have sr':=sr.put (d:=o.dst) (x:= .tp []) undef_vr
 rw [hd,show Ip (⟨Fr n l,hp⟩:St).fr (some d) (.tp [])=Fr n ((d,.tp [])::l) from CZ n l d _] at sr'
 rw [hd]
 exact kk ro base Q w0 Z R0 h0 _ w R hro hy hh0 hn0 sr' hgr st hpre (OO hops) q
theorem TM (hT:T=k) (h:RunL E cx ops rest s K):RunDT E cx ops T n0 k rest s K:=by
 subst hT
 intro ro base Q w0 Z R0 h0 a w R hro hy hh0 hn0 sr hgr st hpre hops q
 exact IE (h ro base Q a w Z R hro sr (hy.step hh0 st) fun s' a' w' Z' R' hK sr' st'=>q s' a' w' Z' R' hK sr' (st.trans st')) (Nat.le_refl _) (fun _=>hgr) (fun j hj=>IZ hj) hops
theorem Vk {a b:Nat}(h:a < b):Nat.blt a b=true:=by unfold Nat.blt; rw [Nat.ble_eq]; exact h
end
section
variable {P:Program}{h:Hp}{ρ:Operand->Option AV}{α:Type}{o:Oc α}{k:Nat}{t:TypeId}{e:AV}{xs:List α}{L:List Asn}
theorem FP {ty:TypeId}{x:Operand}{f:Nat}{a r:AV}(hx:ρ x=some a) (he:Df P ty a f=some r):Dx P ρ h (.fieldAddr ty x f)=some r:=by
 show (match ρ x with | some x=>Df P ty x f | none=>none)=some r
 rw [hx]; exact he
theorem J4 {x:Operand}{a:AV}(ha:∃ b i,a = .pt b i 0) (hx:ρ x=some a):Dx P ρ h (.nilCheck x)=some a:=by
 obtain ⟨b,i,rfl⟩:=ha
 simp only [Dx,hx]
theorem QS {ty:TypeId}{n:Nat}{ps:Array (Nat×Operand)}{xs:List (Nat×AV)}{r:AV×Hp}(hp:HX ρ ps.toList=some xs) (he:MT P h ty n xs=some r):GC P ρ h (.buildSlice ty n ps)=some r:=by
 show (match HX ρ ps.toList with | some ps=>MT P h ty n ps | none=>none)=some r
 rw [hp]; exact he
theorem VX {ty:TypeId}{x:Operand}{z:AV}{r:AV×Hp}(hx:ρ x=some z) (he:KW h ty z=some r):GC P ρ h (.box ty x)=some r:=by
 show (match ρ x with | some x=>KW h ty x | none=>none)=some r
 rw [hx]; exact he
theorem ON {ty:TypeId}{z:AV}{r:AV×Hp}(hx:Eb P ty=some z) (he:KW h ty z=some r):GC P ρ h (.alloc ty)=some r:=by
 show (match Eb P ty with | some z=>KW h ty z | none=>none)=some r
 rw [hx]; exact he
theorem FB (ht:T h (own_ (ocL k t o) e xs::L)):e.notTp=true/\e.notAg=true:=by
 obtain ⟨F,p,_⟩:=ht.act
 rcases p with ⟨rfl,_⟩ | ⟨b,es,F',rfl,_⟩ <;> exact ⟨rfl,rfl⟩
theorem Tu {p a:AV}(ht:T h (cel p k t a::L)):∃ b,p = .pt b 0 0:=by
 obtain ⟨F,⟨b,rfl,_⟩,_⟩:=ht.act
 exact ⟨b,rfl⟩
theorem Eo {p a:AV}(ht:T h (cel p k t a::L)):∃ b i,p = .pt b i 0:=let ⟨b,hb⟩:=Tu ht; ⟨b,0,hb⟩
/-- A pointer to a cell of its own seen as another pointer. -/
def cvB (P:Program) (a b k t:Nat):Bool:=match P.underlying a,P.underlying b with
 | some (.pointer t'),some .unsafePointer=>Nat.blt 0 k&&(match Bf P t' with | some (_ + 1)=>true | _=>false)
 | some .unsafePointer,some (.pointer u)=>Nat.blt 0 k&&Nat.beq t u&&Nat.beq (P.cellsOf u) k&&(P.info? u).isSome
 | _,_=>false
theorem Vm {t1 t2:TypeId}{x y:Operand}{a b:AV}{r:AV×Hp}(hx:ρ x=some a) (hy:ρ y=some b) (he:NO P h t1 a b=some r):KX P ρ h (.call ⟨.builtin .unsafeString,#[x,y],#[t1,t2]⟩)=some r:=by
 show (match Ff ρ [x,y],[t1,t2] with | some [x,n],[t,_]=>NO P h t x n | _,_=>none)=some r
 simp only [Ff,hx,hy]
 exact he
end
def Un (P:Program) (t:TypeId):Bool:=match P.underlying t with
 | some (.slice _)=>true
 | _=>false
theorem O0 {P:Program}{t:TypeId}(h:Un P t=true):∃ el,P.underlying t=some (.slice el):=by
 unfold Un at h
 split at h
 ·next el he=>exact ⟨el,he⟩
 ·cases h
def Vg:AV->Bool
 | .ag [_]=>false
 | _=>true
theorem RK {z:AV}(h:Vg z=true):elm z.cel=z:=by
 cases z with
 | ag cs =>
  match cs,h with
  | [],_=>rfl
  | [x],h=>cases h
  | x::y::l,_=>rfl
 | _=>rfl
def zeB (P:Program) (el:TypeId):Bool:=match Eb P el with
 | some z=>Vg z
 | none=>false
def VK (P:Program) (t:TypeId) (f off:Nat):Bool:=match P.underlying t with
 | some (.struct fs)=>match fs[f]? with
  | some fd=>match Bf P fd.type with
   | some (_ + 1)=>Nat.beq fd.offset off
   | _=>false
  | none=>false
 | _=>false
theorem RO {P:Program}{t:TypeId}{f off:Nat}(h:VK P t f off=true):∃ fs fd q,P.underlying t=some (.struct fs)/\fs[f]? = some fd/\Bf P fd.type=some (q + 1)/\fd.offset=off:=by
 unfold VK at h
 split at h
 ·next fs h1 =>
  split at h
  ·next fd h2 =>
   split at h
   ·next q h3=>exact ⟨fs,fd,q,h1,h2,h3,Nat.eq_of_beq_eq_true h⟩
   ·cases h
  ·cases h
 ·cases h
section
variable {P:Program}{h:Hp}{α:Type}{o:Oc α}{c:Cd α}{k bytes n:Nat}{t ty ty2:TypeId}{e y:AV}{xs ys:List α}{L:List Asn}{v:α}
theorem VU (ht:T h (own_ (ocL k t o) e xs::L)) (hu:Un P ty=true):K2 P ty e=some (eI xs.length):=let ⟨_,h1⟩:=O0 hu; Sz ht h1
theorem Vh {i:Int}{ki:IntKind}(ht:T h (own_ (ocL k t o) e xs::L)) (ha:apB P ty t k bytes=true) (hv:idx xs i=some v):CX P h ty e (.v (.int ki i))=some (eAt e i.toNat):=by
 obtain ⟨i',z,a1,a2,a3,a4,_⟩:=Kv ha
 have hu:P.underlying ty=some (.slice t):=by
  unfold FW at a1
  split at a1
  ·next e he=>injection a1 with a1; rw [he,a1]
  ·cases a1
 exact T4 ht hu (by rw [Bf,a2,<-a4]; rfl) hv
theorem JE (ht:T h (own_ (ocL k t o) e xs::own_ (ocL k t o) y ys::L)) (hu:Un P ty2=true) (ha:apB P ty t k bytes=true) (hc:FX bytes (xs.length + ys.length)=true):∃ e' h',DS P h ty ty2 e y=some (e',h')/\T h' (own_ (ocL k t o) e' (xs++ys)::L):=by
 obtain ⟨_,h1⟩:=O0 hu
 obtain ⟨i,z,a1,a2,a3,a4,a5,a6,a7,a8⟩:=Kv ha
 exact SY ht h1 a1 a2 a3 a4 (Vk a5) a6 a7 a8 hc
theorem JW {es:List AV}(hf:Fit o k) (ht:T h (els o es xs::L)) (hn:es.length=n) (ha:apB P ty t k bytes=true) (hz:zeB P t=true) (hb:Nat.ble (n * k) 65536=true):∃ e' h',MT P h ty n (Kz 0 es)=some (e',h')/\T h' (own_ (ocL k t o) e' xs::L):=by
 obtain ⟨i,z,a1,a2,a3,a4,a5,a6,a7,a8⟩:=Kv ha
 unfold zeB at hz
 rw [a3] at hz
 exact S0 hf ht hn a1 a2 a3 a4 (Vk a5) hb a6 a7 (RK hz)
theorem QR {z:AV}{m:Int}{kn kc:IntKind}{x0:α}(ht:T h L) (hx:∀ h,o.at_ h z x0 []) (ha:apB P ty t k bytes=true) (hz:Eb P t=some z) (hc:TW bytes m=true):∃ e' h',JS P h ty (.v (.int kn m)) (.v (.int kc m))=some (e',h')/\T h' (own_ (ocL k t o) e' (List.replicate m.toNat x0)::L):=by
 obtain ⟨i,z',a1,a2,a3,a4,a5,a6,a7,a8⟩:=Kv ha
 rw [hz] at a3
 injection a3 with a3
 subst a3
 exact RV ht hx a1 a2 hz a4 a6 a7 a8 hc
theorem DX {f off:Nat}{p a:AV}(ht:T h (cel p k t a::L)) (hf:VK P ty f off=true):Df P ty p f=some (Hs p off):=by
 obtain ⟨fs,fd,q,h1,h2,h3,rfl⟩:=RO hf
 exact So ht h1 h2 h3
end
/-- What a call is handed, own or not, as it is told. -/
def SeeD {α:Type}(hp:Hp) (c:Cd α) (x:AV) (v:α):Prop:=∃ y,SeeV hp x y/\c.dec y=some v
def SeesD {α:Type}(hp:Hp) (s:Cs α) (xs:List AV) (a:α):Prop:=∃ ys,Sees hp xs ys/\s.dec ys=some a
theorem SeesD.nil {hp:Hp}:SeesD hp csN [] ():=⟨[],.nil,rfl⟩
theorem AO {α β:Type}{hp:Hp}{c:Cd α}{s:Cs β}{x:AV}{xs:List AV}{v:α}{a:β}(h1:SeeD hp c x v) (h2:SeesD hp s xs a):SeesD hp (csC c s) (x::xs) (v,a):=by
 obtain ⟨y,k1,k2⟩:=h1
 obtain ⟨ys,q1,q2⟩:=h2
 refine ⟨y::ys,.cons k1 q1,?_⟩
 show ((c.dec y).bind fun x=>(s.dec ys).map fun y=>(x,y))=_
 rw [k2,q2]; rfl
theorem AZ {α:Type}{hp:Hp}{c:Cd α}{v:α}:SeeD hp c (c.enc v) v:=⟨_,.enc,c.de v⟩
theorem SeeD.e0 {α:Type}{hp:Hp}{c:Cd α}{k:Nat}:SeeD hp (cdL k c) .e0 []:=⟨.e0,.id rfl,rfl⟩
theorem SeeD.own {α:Type}{hp:Hp}{o:Oc α}{e:AV}{x:α}{L:List Asn}{i:Nat}(ht:T hp L) (hi:L[i]? = some (own_ o e x)):SeeD hp o.cd e x:=⟨_,.own ht hi,o.cd.de x⟩
section
variable {E:Env}{cx:Cx}{ops:Array Oper}{rest rest':List Oper}{K:St->Prop}{n n0 k T:Nat}{l:List (Nat×AV)}{hp:Hp}
theorem RunL.call {α β:Type}{s:Cs α}{F:α->Option β}{er:β->AV}{a:α}{b:β}{xs:List AV}(hE:EnvOk E){d:Nat}{f:Operand}{args:Array Operand}{tys:Array TypeId}{ty:TypeId}{pos:String}{af:Array Edge}{g:Option (Nat×Bool)}{fid:FuncId}(hr:rest=⟨some d,.call ⟨.value f,args,tys⟩,ty,pos,af,g⟩::rest') (hw:BO ops (Fr n l) ⟨some d,.call ⟨.value f,args,tys⟩,ty,pos,af,g⟩=some true)
  (hf:opA E (Fr n l) f=some (.fn fid [] [])) (hi:E.I fid=false) (hX:E.X fid=some (Ea s F er)) (ha:Ff (opA E (Fr n l)) args.toList=some xs) (hv:Sns hp s xs a) (hok:xs.all Cq=true\/Ci (er b)=true) (hF:F a=some b) (k:RunL E cx ops rest' ⟨Fr n ((d,er b)::l),hp⟩ K):RunL E cx ops rest ⟨Fr n l,hp⟩ K :=
 AL hE 0 hr (OP hw hf hi hX ha hv hok hF) k
end
section
variable {E:Env}{cx:Cx}{ops:Array Oper}{s:St}{Q:Ex->St->Prop}{id:Nat}{A:St->Prop}{c:Code}
theorem JD (h:SemY E cx c s fun e s'=>∃ s2,WkY E s' s2/\Q e s2):SemY E cx c s Q:=by
 intro ro base Qm a w Z R h1 h2 h3 k
 refine h ro base Qm a w Z R h1 h2 h3 fun e s' a' w' Z' R' hQ sr st=>?_
 obtain ⟨s2,hw,hq⟩:=hQ
 obtain ⟨Z2,R2,sr2,st2⟩:=hw base w' Z' R' a' sr
 exact k e s2 a' w' Z2 R2 hq sr2 (st.trans st2)
end
section
variable {E:Env}{cx:Cx}{ops:Array Oper}{rest rest':List Oper}{K:St->Prop}{n n0 k:Nat}{l:List (Nat×AV)}{hp:Hp}{α β:Type}{s:Cs α}{F:α->Option β}{er:β->AV}{u:α}{v:β}{fid:FuncId}{w:World}{Z:Nat->Prop}{R:List RI}
theorem Uy (hX:XOk fid (Ea s F er)) (hh:HR w Z R hp) (hg:GI E0 w Z){xs:List AV}{us:List Value}(hvs:VRs w Z R xs us) (hv:SeesD hp s xs u) (hok:Ci (er v)=true\/xs.all Cq=true/\s.dec xs=some u) (hF:F u=some v) :
  Ret E0.P fid us.toArray w fun x w'=>∃ Z',HR w' Z' R hp/\VR w' Z' R (er v) x/\Step w Z R hp w' Z' R hp/\w.grownBy w' none/\(Ci (er v)=true->Z'=Z):=by
 by_cases hf:Ci (er v)=true
 ·obtain ⟨ys,hv,hd⟩:=hv
  have hz1:∀ c,(Z c\/own R hp c)->c < w.heap.size:=fun c hc=>hc.elim (hh.zlt c) (fun ⟨b,B,r,h1,_,h3,h4⟩=>h4 ▸ hh.rltL h1 h3)
  have hg1:GI E0 w (fun c=>Z c\/own R hp c):=fun q y hy=>(hg q y hy).mono (fun _ _=>rfl) (fun _ h=> .inl h) (fun _ _ h=>h)
  refine Ret.mono (hX.2 ys (er v) (Ha hd hF) w _ us hz1 hg1 (hv w Z R us hh hvs)) fun x w' ⟨hs,hx⟩=>?_
  exact ⟨Z,hh.keep hs.size (fun c hc=>hs.block c hc (by simp)),I0 hf hx,⟨hs.os,hs.tape,hs.output,hs.size,fun c hc _=>hs.block c hc (by simp),fun _ h=> .inl h,fun _ h=>h,fun _ h=> .inl h,fun _ _ h=>h⟩,hs,fun _=>rfl⟩
 ·obtain ⟨hn,hd⟩:=hok.resolve_left hf
  refine Ret.mono (hX.2 xs (er v) (Ha hd hF) w Z us hh.zlt hg (Kp hn hvs)) fun x w' ⟨hs,hx⟩=>?_
  obtain ⟨k1,k2⟩:=hh.addZ hs
  exact ⟨_,k1,hx.up,k2,hs,fun h=>absurd h hf⟩
theorem Vp (hP:E.P=E0.P) (hG:E.G=E0.G){caps xs:List AV}{d:Option Nat}{f:Operand}{args:Array Operand}{tys:Array TypeId}{ty:TypeId}{pos:String}{af:Array Edge}{g:Option (Nat×Bool)}{base:Bs}{a:Act}(hX:XOk fid (Ea s F er)) (sr:SR E base w Z R ⟨Fr n l,hp⟩ a)
  (hf:opA E (Fr n l) f=some (.fn fid [] caps)) (ha:Ff (opA E (Fr n l)) args.toList=some xs) (hv:SeesD hp s (xs++caps) u) (hok:Ci (er v)=true\/(xs++caps).all Cq=true/\s.dec (xs++caps)=some u) (hF:F u=some v) {Q:Act->World->Prop}
  (kk:∀ x w' Z',HR w' Z' R hp->VR w' Z' R (er v) x->Step w Z R hp w' Z' R hp->w.grownBy w' none->(Ci (er v)=true->Z'=Z)->SR E base w' Z' R ⟨Fr n l,hp⟩ a->Q (a.put d x) w'):Lw E.P ⟨d,.call ⟨.value f,args,tys⟩,ty,pos,af,g⟩ a w Q:=by
 have hρ:∀ o x,opA E (Fr n l) o=some x->VR w Z R x (a.eval o):=fun o x e=>opA_vr sr o x e
 have hvf:=hρ _ _ hf
 have hva:∃ uc:List Value,a.eval f = .func (.func fid) #[] uc.toArray/\VRs w Z R caps uc:=by
  generalize a.eval f=vf at hvf
  cases hvf with
  | fn hl hl' hx hy =>
   rename_i u1 u2
   have e1:u1=[]:=by simpa using hl
   subst e1
   exact ⟨u2,rfl,hl',hy⟩
 obtain ⟨uc,hva,huc⟩:=hva
 have hcl:BI E.P fid:=hP ▸ hX.1
 unfold Lw
 rw [Do (uf:=[]) (uc:=uc) rfl hva rfl hcl w]
 have hret:=Uy hX sr.hh (by have:=sr.gl; exact fun q y hy=>this q y (by rw [hG]; exact hy)) ((opds_vr hρ ha).append huc) hv hok hF
 rw [<-hP] at hret
 simp only [List.nil_append]
 refine Ret.mono hret fun x w' ⟨Z',k1,k2,k3,k4,k5⟩=>?_
 exact kk x w' Z' k1 k2 k3 k4 k5 (sr.step k1 k3)
theorem Gt (hP:E.P=E0.P) (hG:E.G=E0.G) (hX:XOk fid (Ea s F er)){caps xs:List AV}{d:Nat}{f:Operand}{args:Array Operand}{tys:Array TypeId}{ty:TypeId}{pos:String}{af:Array Edge}{g:Option (Nat×Bool)}(hr:rest=⟨some d,.call ⟨.value f,args,tys⟩,ty,pos,af,g⟩::rest') (hw:BO ops (Fr n l) ⟨some d,.call ⟨.value f,args,tys⟩,ty,pos,af,g⟩=some true)
  (hf:opA E (Fr n l) f=some (.fn fid [] caps)) (ha:Ff (opA E (Fr n l)) args.toList=some xs) (hv:SeesD hp s (xs++caps) u) (hok:Ci (er v)=true\/(xs++caps).all Cq=true/\s.dec (xs++caps)=some u) (hF:F u=some v) (kk:RunL E cx ops rest' ⟨Fr n ((d,er v)::l),hp⟩ K):RunL E cx ops rest ⟨Fr n l,hp⟩ K:=by
 subst hr
 intro ro base Q a w Z R hro sr hy q
 refine Mb rfl (wantedA_eq sr hw) (Vp hP hG hX sr hf ha hv hok hF fun x w' Z' k1 k2 k3 k4 k5 sr'=>?_)
 refine kk ro base Q _ w' Z' R hro ?_ (hy.step sr.hh k3) fun s' a' w'' Z'' R'' hK sr'' st'=>q s' a' w'' Z'' R'' hK sr'' (k3.trans st')
 have:=sr'.put (d:=some d) k2
 rwa [CZ] at this
end
def QK:Hp->Bool
 | []=>true
 | none::r=>QK r
 | some B::r=>!B.fz&&B.es.all Cq&&QK r
theorem Km:∀ {h:Hp},QK h=true->∀ (b:Nat) (B:Blk),h[b]? = some (some B)->B.fz=false/\B.es.all Cq=true
 | [],_,b,B,hb=>by simp at hb
 | none::r,h,0,B,hb=>by simp at hb
 | none::r,h,b + 1,B,hb=>Km (h:=r) h b B (by simpa using hb)
 | some B0::r,h,b,B,hb=>by
  unfold QK at h
  simp only [Bool.and_eq_true,Bool.not_eq_true'] at h
  cases b with
  | zero =>
   have:B0=B:=by simpa using hb
   subst this
   exact h.1
  | succ b=>exact Km h.2 b B (by simpa using hb)
section
variable {w w':World}{Z Z':Nat->Prop}{R R':List RI}{h h':Hp}
theorem HR.joinF (hh:HR w Z R h) (st:StepW w Z [] [] w' Z' R' h') (hh':HR w' Z' R' h') (hf:QK h'=true):HR w' Z' (R++R') (h++h')/\Step w Z R h w' Z' (R++R') (h++h'):=by
 have hold:∀ c,c < w.heap.size->w'.heap[c]? = w.heap[c]?:=fun c hc=>st.block c hc fun ⟨b,B,r,hb,_⟩=>by simp at hb
 have hr:∀ (i:Nat) (x:RI),R[i]? = some x->(R++R')[i]? = some x:=fun i x hx=>by
  rw [List.getElem?_append_left (List.getElem?_eq_some_iff.1 hx).1]; exact hx
 have hnew:∀ c,own R' h' c->w.heap.size<=c:=fun c hc=>(st.own_ c hc).resolve_left fun ⟨b,B,r,hb,_⟩=>by simp at hb
 have hz':∀ c,Z' c->Z c\/w.heap.size<=c:=fun c hc=>(st.z' c hc).elim .inl fun h=>h.elim (fun ⟨b,B,r,hb,_⟩=>by simp at hb) .inr
 have hlen:=hh.len
 have hat:∀ (b:Nat) (B:Blk),(h++h')[b]? = some (some B)->(b < h.length/\h[b]? = some (some B)/\(R++R')[b]? = R[b]?)\/(∃ j,b=h.length + j/\h'[j]? = some (some B)/\(R++R')[b]? = R'[j]?):=fun b B hb=>by
  by_cases hlt:b < h.length
  ·rw [List.getElem?_append_left hlt] at hb
   exact .inl ⟨hlt,hb,List.getElem?_append_left (by omega)⟩
  ·rw [List.getElem?_append_right (by omega)] at hb
   exact .inr ⟨b - h.length,by omega,hb,by rw [List.getElem?_append_right (by omega),hlen]⟩
 have hRb:∀ (b:Nat) (B:Blk) (r:RI),h[b]? = some (some B)->R[b]? = some r->r.c < w.heap.size:=fun b B r h1 h2=>hh.rltL h1 h2
 have hRn:∀ (j:Nat) (B:Blk) (r:RI),h'[j]? = some (some B)->R'[j]? = some r->w.heap.size<=r.c:=fun j B r h1 h2=>hnew _ ⟨j,B,r,h1,(Km hf j B h1).1,h2,rfl⟩
 refine ⟨⟨by simp [hh.len,hh'.len],fun b B hB=>?_,fun b b' B B' r r' hB hfz hB' hfz' h1 h2 e=>?_,hh'.zlt⟩,⟨st.os,st.tape,st.output,st.size,fun c hc _=>hold c hc,fun c hc=>?_,st.z,fun c hc=>(hz' c hc).elim .inl fun h=> .inr (.inr h),hr⟩⟩
 ·rcases hat b B hB with ⟨hlt,hb,hRR⟩ | ⟨j,rfl,hb,hRR⟩
  ·obtain ⟨r,arr,us,g1,g2,g3,g4,g5,g6,g7,g8,g9,g10⟩:=hh.blk b B hb
   exact ⟨r,arr,us,hRR.trans g1,g2,(hold _ (hRb b B r hb g1)).trans g3,g4,g5,g6,(fun h=>st.z _ (g7 h)),(fun h hc=>(hz' _ hc).elim (g8 h) fun q=>by have:=hRb b B r hb g1; omega),⟨g9.len,fun i x u hx hu=>(g9.at_ i x u hx hu).mono (fun c hc=>hold c (hh.zlt c hc)) (fun c hc=>st.z c hc) hr⟩,g10⟩
  ·obtain ⟨r,arr,us,g1,g2,g3,g4,g5,g6,g7,g8,g9,g10⟩:=hh'.blk j B hb
   obtain ⟨f1,f2⟩:=Km hf j B hb
   exact ⟨r,arr,us,hRR.trans g1,g2,g3,g4,g5,g6,g7,g8,⟨g9.len,fun i x u hx hu=>(HV (List.all_eq_true.1 f2 x (List.mem_of_getElem? hx)) (g9.at_ i x u hx hu)).up⟩,g10⟩
 ·rcases hat b B hB with ⟨_,hb,hRR⟩ | ⟨j,rfl,hb,hRR⟩ <;> rcases hat b' B' hB' with ⟨_,hb',hRR'⟩ | ⟨j',rfl,hb',hRR'⟩ <;> rw [hRR] at h1 <;> rw [hRR'] at h2
  ·exact hh.inj b b' B B' r r' hb hfz hb' hfz' h1 h2 e
  ·have:=hRb b B r hb h1; have:=hRn j' B' r' hb' h2; omega
  ·have:=hRb b' B' r' hb' h2; have:=hRn j B r hb h1; omega
  ·rw [hh'.inj j j' B B' r r' hb hfz hb' hfz' h1 h2 e]
 ·obtain ⟨b,B,r,h1,h2,h3,rfl⟩:=hc
  rcases hat b B h1 with ⟨_,hb,hRR⟩ | ⟨j,rfl,hb,hRR⟩ <;> rw [hRR] at h3
  ·exact .inl ⟨b,B,r,hb,h2,h3,rfl⟩
  ·exact .inr (hRn j B r hb h3)
end
theorem SeeD.ag {α:Type}{hp:Hp}{s:Cs α}{hn:∀ x,(s.enc x).all J1=true}{xs:List AV}{a:α}(h:SeesD hp s xs a):SeeD hp (cdA s hn) (.ag xs) a:=by
 obtain ⟨ys,k1,k2⟩:=h
 exact ⟨.ag ys,.ag k1,k2⟩
theorem SeeV.fn {hp:Hp}{f:FuncId}{cs cs':List AV}(hs:Sees hp cs cs'):SeeV hp (.fn f [] cs) (.fn f [] cs'):=fun w Z R u hh hv=>by
 cases hv with
 | fn hl hl' hx hy =>
  have:=hs w Z R _ hh ⟨hl',hy⟩
  exact .fn hl this.len (fun i x u h=>by simp at h) this.at_
/-- A closure over cells. -/
theorem SeeD.fn {α:Type}{hp:Hp}{f:FuncId}{s:Cs α}{hn:∀ x,(s.enc x).all GD=true}{q:List AV}{a:α}(h:SeesD hp s q a):SeeD hp (cdF f s hn) (.fn f [] q) a:=by
 obtain ⟨ys,k1,k2⟩:=h
 refine ⟨.fn f [] ys,.fn k1,?_⟩
 show (if f=f then s.dec ys else none)=_
 rw [if_pos rfl]; exact k2
section
variable {E:Env}{cx:Cx}{ops:Array Oper}{rest rest':List Oper}{K:St->Prop}{n n0 k:Nat}{l:List (Nat×AV)}{hp:Hp}
end
/-- A nil slice is an empty frozen one, in structs too. -/
def UpV (x y:AV):Prop:=∀ (w:World) (Z:Nat->Prop) (R:List RI) (u:Value),VR w Z R x u->VR w Z R y u
theorem UpV.refl {x:AV}:UpV x x:=fun _ _ _ _ h=>h
theorem UpV.nil {k:Nat}:UpV .e0 (.sl k []):=fun _ _ _ _ h=>by
 cases h
 exact .sl (us:=[]) rfl rfl (Nat.le_refl _) (by unfold maxLen; omega) (fun h=>by omega) (fun i x u hx=>by simp at hx)
def UpVs:List AV->List AV->Prop
 | [],[]=>True
 | x::xs,y::ys=>UpV x y/\UpVs xs ys
 | _,_=>False
theorem UpVs.len:∀ {xs ys:List AV},UpVs xs ys->xs.length=ys.length
 | [],[],_=>rfl
 | _::_,_::_,h=>by simp [UpVs.len h.2]
 | [],_::_,h=>h.elim
 | _::_,[],h=>h.elim
theorem UpVs.get:∀ {xs ys:List AV}{i:Nat}{y:AV},UpVs xs ys->ys[i]? = some y->∃ x,xs[i]? = some x/\UpV x y
 | _::_,_::_,0,_,h,e=>by simp at e; subst e; exact ⟨_,rfl,h.1⟩
 | _::_,_::_,i + 1,_,h,e=>by
  obtain ⟨x,h1,h2⟩:=UpVs.get (i:=i) h.2 (by simpa using e)
  exact ⟨x,by simpa using h1,h2⟩
 | [],[],_,_,_,e=>by simp at e
 | [],_::_,_,_,h,_=>h.elim
 | _::_,[],_,_,h,_=>h.elim
theorem UpV.ag {xs ys:List AV}(h:UpVs xs ys):UpV (.ag xs) (.ag ys):=fun w Z R u hv=>by
 cases hv with
 | ag hl h1 hx =>
  refine .ag (by rw [hl,h.len]) h1 fun i y u hy hu=>?_
  obtain ⟨x,k1,k2⟩:=h.get hy
  exact k2 _ _ _ _ (hx i x u k1 hu)
def LkU (l:List (Nat×AV)):List (Nat×AV)->Prop
 | []=>True
 | (t,z)::r=>(∃ x,lk l t=some x/\UpV x z)/\LkU l r
theorem LkU.at_ {l:List (Nat×AV)}:∀ {l':List (Nat×AV)},LkU l l'->∀ t z,lk l' t=some z->∃ x,lk l t=some x/\UpV x z
 | [],_,t,z,h=>by cases h
 | (k,z0)::r,⟨h1,h2⟩,t,z,h=>by
  rw [F7] at h
  split at h
  ·next hk=>injection h with h; subst hk h; exact h1
  ·exact h2.at_ t z h
/-- A value in which an own thing is frozen. -/
def FzU (e z x y:AV):Prop:=∀ (w:World) (Z Z':Nat->Prop) (R:List RI) (u:Value),(∀ c,Z c->Z' c)->(∀ v,VR w Z R e v->VR w Z' R z v)->VR w Z R x u->VR w Z' R y u
section
variable {e z:AV}
theorem FzU.refl {x:AV}:FzU e z x x:=fun _ _ _ _ _ hz _ h=>h.mono (fun _ _=>rfl) hz (fun _ _ h=>h)
theorem IQ:FzU e z e z:=fun _ _ _ _ u _ k h=>k u h
def FzUs (e z:AV):List AV->List AV->Prop
 | [],[]=>True
 | x::xs,y::ys=>FzU e z x y/\FzUs e z xs ys
 | _,_=>False
theorem FzUs.len:∀ {xs ys:List AV},FzUs e z xs ys->xs.length=ys.length
 | [],[],_=>rfl
 | _::_,_::_,h=>by simp [FzUs.len h.2]
 | [],_::_,h=>h.elim
 | _::_,[],h=>h.elim
theorem FzUs.get:∀ {xs ys:List AV}{i:Nat}{y:AV},FzUs e z xs ys->ys[i]? = some y->∃ x,xs[i]? = some x/\FzU e z x y
 | _::_,_::_,0,_,h,q=>by simp at q; subst q; exact ⟨_,rfl,h.1⟩
 | _::_,_::_,i + 1,_,h,q=>by
  obtain ⟨x,h1,h2⟩:=FzUs.get (i:=i) h.2 (by simpa using q)
  exact ⟨x,by simpa using h1,h2⟩
 | [],[],_,_,_,q=>by simp at q
 | [],_::_,_,_,h,_=>h.elim
 | _::_,[],_,_,h,_=>h.elim
theorem FzU.ag {xs ys:List AV}(h:FzUs e z xs ys):FzU e z (.ag xs) (.ag ys):=fun w Z Z' R u hz k hv=>by
 cases hv with
 | ag hl h1 hx =>
  refine .ag (by rw [hl,h.len]) h1 fun i y u hy hu=>?_
  obtain ⟨x,k1,k2⟩:=h.get hy
  exact k2 _ _ _ _ _ hz k (hx i x u k1 hu)
theorem FzU.fn {f:FuncId}{xs ys:List AV}(h:FzUs e z xs ys):FzU e z (.fn f [] xs) (.fn f [] ys):=fun w Z Z' R u hz k hv=>by
 cases hv with
 | fn hl hl' hx hy =>
  refine .fn hl (by rw [hl',h.len]) (fun i x u h=>by simp at h) fun i y u hy' hu=>?_
  obtain ⟨x,k1,k2⟩:=h.get hy'
  exact k2 _ _ _ _ _ hz k (hy i x u k1 hu)
end
def LkF (l:List (Nat×AV)) (e z:AV):List (Nat×AV)->Prop
 | []=>True
 | (t,y)::r=>(∃ x,lk l t=some x/\FzU e z x y)/\LkF l e z r
theorem LkF.at_ {l:List (Nat×AV)}{e z:AV}:∀ {l':List (Nat×AV)},LkF l e z l'->∀ t y,lk l' t=some y->∃ x,lk l t=some x/\FzU e z x y
 | [],_,t,y,h=>by cases h
 | (k,z0)::r,⟨h1,h2⟩,t,y,h=>by
  rw [F7] at h
  split at h
  ·next hk=>injection h with h; subst hk h; exact h1
  ·exact h2.at_ t y h
theorem IW {E:Env}{n:Nat}{l l':List (Nat×AV)}{hp:Hp}{α:Type}{o:Oc α}{e:AV}{x:α}{L:List Asn}(ht:T hp (own_ o e x::L)) (hl:LkF l e (o.cd.enc x) l'):∃ hp',WkY E ⟨Fr n l,hp⟩ ⟨Fr n l',hp'⟩/\T hp' L:=by
 obtain ⟨F,p,hn',_,hk⟩:=ht.act
 refine ⟨JV F hp,fun base w Z R a sr=>?_,hk _ fun b hb _=>MA hb⟩
 have hown:∀ c,(∃ b ∈ F,∃ r,R[b]? = some r/\c=r.c)->own R hp c:=fun c ⟨b,hb,r,hr,hc⟩=>by
  obtain ⟨B,k1,k2⟩:=o.own p hb
  exact ⟨b,B,r,k1,k2,hr,hc.symm⟩
 have hown':∀ c,own R (JV F hp) c->own R hp c:=fun c ⟨b,B,r,h1,h2,h3,h4⟩=>⟨b,B,r,(H8.1 h1).2,h2,h3,h4⟩
 have hzo:∀ c,(Z c\/∃ b ∈ F,∃ r,R[b]? = some r/\c=r.c)->Z c\/own R hp c:=fun c hc=>hc.imp_right (hown c)
 have up':∀ {x:AV} {u:Value} {R':List RI},VR w Z R' x u->VR w (fun c=>Z c\/∃ b ∈ F,∃ r,R[b]? = some r/\c=r.c) R' x u:=fun hv=>hv.mono (fun _ _=>rfl) (fun _ h=> .inl h) (fun _ _ h=>h)
 refine ⟨fun c=>Z c\/∃ b ∈ F,∃ r,R[b]? = some r/\c=r.c,R,⟨⟨by simp [JV,sr.hh.len],fun b B hB=>?_,fun b b' B B' r r' h1 f1 h2 f2 g1 g2 e=>?_,fun c hc=>?_⟩,⟨?_,fun t x hx=>?_⟩,?_,fun g x hx=>up' (sr.gl g x hx),sr.bs⟩,⟨rfl,rfl,rfl,Nat.le_refl _,fun _ _ _=>rfl,fun c hc=> .inl (hown' c hc),fun _ h=> .inl h,fun c hc=>(hzo c hc).imp_right .inl,fun _ _ h=>h⟩⟩
 ·obtain ⟨hb,hB⟩:=H8.1 hB
  obtain ⟨r,arr,us,g1,g2,g3,g4,g5,g6,g7,g8,g9,g10⟩:=sr.hh.blk b B hB
  refine ⟨r,arr,us,g1,g2,g3,g4,g5,g6,fun hf=> .inl (g7 hf),fun hf hc=>?_,⟨g9.len,fun i x u hx hu=>up' (g9.at_ i x u hx hu)⟩,g10⟩
  rcases hc with hc | ⟨b',hb',r',hr',hc⟩
  ·exact g8 hf hc
  ·obtain ⟨B',k1,k2⟩:=o.own p hb'
   have:=sr.hh.inj b b' B B' r r' hB hf k1 k2 g1 hr' hc
   exact hb (this ▸ hb')
 ·exact sr.hh.inj b b' B B' r r' (H8.1 h1).2 f1 (H8.1 h2).2 f2 g1 g2 e
 ·rcases hzo c hc with hc | ⟨b,B,r,k1,_,k3,k4⟩
  ·exact sr.hh.zlt c hc
  ·exact k4 ▸ sr.hh.rltL k1 k3
 ·rw [Da]; have:=sr.fr.1; rw [Da] at this; exact this
 ·rw [DW] at hx
  split at hx
  ·next ht =>
   injection hx with hx
   obtain ⟨x0,h1,hf⟩:=hl.at_ t x hx
   exact hf _ _ _ _ _ (fun c h=> .inl h) (fun v hv=>(o.vr sr.hh p hv).up) (sr.fr.2 t x0 (by rw [DW,if_pos ht,h1]))
  ·cases hx
 ·exact sr.mks.imp fun q h3 h4 h5=>⟨h3,fun hc=>(hzo q hc).elim h4 h5,fun ho=>h5 (hown' q ho)⟩
/-- An own value that a cell holds is frozen; the cell holds it as a frozen one. -/
theorem Q3 {E:Env}{n:Nat}{l l':List (Nat×AV)}{hp:Hp}{α:Type}{o:Oc α}{e p:AV}{x:α}{k:Nat}{t:TypeId}{L:List Asn}(ht:T hp (own_ o e x::cel p k t e::L)) (hl:LkF l e (o.cd.enc x) l'):∃ hp',WkY E ⟨Fr n l,hp⟩ ⟨Fr n l',hp'⟩/\T hp' (cel p k t (o.cd.enc x)::L):=by
 obtain ⟨FF,⟨F,F',rfl,p1,F2,F3,rfl,⟨b0,rfl,rfl,hb0⟩,q3⟩,hnd⟩:=ht
 obtain ⟨n1,n2,n3⟩:=F8.1 hnd
 obtain ⟨_,n4,n5⟩:=F8.1 n2
 have p:o.at_ hp e x F:=p1
 have hb0F:b0 ∉ F:=fun h=>n3 b0 h (by simp)
 have hlt0:b0 < (JV F hp).length:=by
  have:=H7 hb0
  simpa [JV] using this
 have same:∀ b,b ∉ F->b≠b0->((JV F hp).set b0 (some ⟨k,t,[o.cd.enc x],false⟩))[b]? = hp[b]?:=fun b hb hne=>by
  rw [List.getElem?_set,if_neg (fun h=>hne h.symm)]
  exact MA hb
 refine ⟨(JV F hp).set b0 (some ⟨k,t,[o.cd.enc x],false⟩),fun base w Z R a sr=>?_,⟨[b0]++F3,⟨[b0],F3,rfl,⟨b0,rfl,rfl,by rw [List.getElem?_set,if_pos rfl,if_pos hlt0]⟩,q3.loc fun b hb=>same b (fun h=>n3 b h (by simp [hb])) (fun h=>n5 b0 (by simp) (h ▸ hb))⟩,n2⟩⟩
 have hown:∀ c,(∃ b ∈ F,∃ r,R[b]? = some r/\c=r.c)->own R hp c:=fun c ⟨b,hb,r,hr,hc⟩=>by
  obtain ⟨B,k1,k2⟩:=o.own p hb
  exact ⟨b,B,r,k1,k2,hr,hc.symm⟩
 have hzo:∀ c,(Z c\/∃ b ∈ F,∃ r,R[b]? = some r/\c=r.c)->Z c\/own R hp c:=fun c hc=>hc.imp_right (hown c)
 have up':∀ {x:AV} {u:Value} {R':List RI},VR w Z R' x u->VR w (fun c=>Z c\/∃ b ∈ F,∃ r,R[b]? = some r/\c=r.c) R' x u:=fun hv=>hv.mono (fun _ _=>rfl) (fun _ h=> .inl h) (fun _ _ h=>h)
 have hget:∀ (b:Nat) (B:Blk),((JV F hp).set b0 (some ⟨k,t,[o.cd.enc x],false⟩))[b]? = some (some B)->b ∉ F/\∃ B0,hp[b]? = some (some B0)/\B0.fz=B.fz/\B0.k=B.k/\B0.t=B.t/\B.es.length=B0.es.length/\∀ (i:Nat) (x':AV),B.es[i]? = some x'->∃ x0,B0.es[i]? = some x0/\∀ u,VR w Z R x0 u->VR w (fun c=>Z c\/∃ b ∈ F,∃ r,R[b]? = some r/\c=r.c) R x' u:=fun b B hB=>by
  rw [List.getElem?_set] at hB
  split at hB
  ·next e0 =>
   subst e0
   try rw [if_pos hlt0] at hB
   have hB:=(OI (OI hB)).symm
   subst hB
   refine ⟨hb0F,_,hb0,rfl,rfl,rfl,rfl,fun i x' hx=>?_⟩
   match i with
   | 0 =>
    simp at hx; subst hx
    exact ⟨_,rfl,fun u hu=>(o.vr sr.hh p hu).up⟩
   | i + 1=>simp at hx
  ·obtain ⟨h1,h2⟩:=H8.1 hB
   exact ⟨h1,B,h2,rfl,rfl,rfl,rfl,fun i x' hx=>⟨x',hx,fun u hu=>up' hu⟩⟩
 have hown':∀ c,own R ((JV F hp).set b0 (some ⟨k,t,[o.cd.enc x],false⟩)) c->own R hp c:=fun c ⟨b,B,r,h1,h2,h3,h4⟩=>by
  obtain ⟨_,B0,q1,q2,_⟩:=hget b B h1
  exact ⟨b,B0,r,q1,q2.trans h2,h3,h4⟩
 refine ⟨fun c=>Z c\/∃ b ∈ F,∃ r,R[b]? = some r/\c=r.c,R,⟨⟨by simp [JV,sr.hh.len],fun b B hB=>?_,fun b b' B B' r r' h1 f1 h2 f2 g1 g2 e=>?_,fun c hc=>?_⟩,⟨?_,fun t x hx=>?_⟩,?_,fun g x hx=>up' (sr.gl g x hx),sr.bs⟩,⟨rfl,rfl,rfl,Nat.le_refl _,fun _ _ _=>rfl,fun c hc=> .inl (hown' c hc),fun _ h=> .inl h,fun c hc=>(hzo c hc).imp_right .inl,fun _ _ h=>h⟩⟩
 ·obtain ⟨hbF,B0,q1,q2,q3,q4,q5,q6⟩:=hget b B hB
  obtain ⟨r,arr,us,g1,g2,g3,g4,g5,g6,g7,g8,g9,g10⟩:=sr.hh.blk b B0 q1
  rw [q3] at g2 g4 g10
  rw [q4] at g3
  rw [q2] at g7 g8
  refine ⟨r,arr,us,g1,g2,g3,g4,by rw [q5]; exact g5,g6,fun hf=> .inl (g7 hf),fun hf hc=>?_,⟨by rw [g9.len,q5],fun i x' u hx hu=>?_⟩,g10⟩
  ·rcases hc with hc | ⟨b',hb',r',hr',hc⟩
   ·exact g8 hf hc
   ·obtain ⟨B',k1,k2⟩:=o.own p hb'
    have:=sr.hh.inj b b' B0 B' r r' q1 (q2.trans hf) k1 k2 g1 hr' hc
    exact hbF (this ▸ hb')
  ·obtain ⟨x0,r1,r2⟩:=q6 i x' hx
   exact r2 u (g9.at_ i x0 u r1 hu)
 ·obtain ⟨_,B0,q1,q2,_⟩:=hget b B h1
  obtain ⟨_,B0',q1',q2',_⟩:=hget b' B' h2
  exact sr.hh.inj b b' B0 B0' r r' q1 (q2.trans f1) q1' (q2'.trans f2) g1 g2 e
 ·rcases hzo c hc with hc | ⟨b,B,r,k1,_,k3,k4⟩
  ·exact sr.hh.zlt c hc
  ·exact k4 ▸ sr.hh.rltL k1 k3
 ·rw [Da]; have:=sr.fr.1; rw [Da] at this; exact this
 ·rw [DW] at hx
  split at hx
  ·next ht =>
   injection hx with hx
   obtain ⟨x0,h1,hf⟩:=hl.at_ t x hx
   exact hf _ _ _ _ _ (fun c h=> .inl h) (fun v hv=>(o.vr sr.hh p hv).up) (sr.fr.2 t x0 (by rw [DW,if_pos ht,h1]))
  ·cases hx
 ·exact sr.mks.imp fun q h3 h4 h5=>⟨h3,fun hc=>(hzo q hc).elim h4 h5,fun ho=>h5 (hown' q ho)⟩
/-- One cell of one value. -/
theorem N3 {e:AV}(h:e.notTp=true/\e.notAg=true):e.cel=[e]:=by
 obtain ⟨h1,h2⟩:=h
 cases e <;> first | (exact (Bool.false_ne_true h1).elim) | (exact (Bool.false_ne_true h2).elim) | rfl
theorem Kl {e:AV}(h:e.notTp=true/\e.notAg=true):QD e 0 1 false=some e:=by
 unfold QD
 rw [N3 h]; rfl
theorem Mr {e y:AV}(h:e.notTp=true/\e.notAg=true) (hy:y.notTp=true/\y.notAg=true):SM e 0 y=some y:=by
 unfold SM
 rw [N3 h,N3 hy]
 obtain ⟨h1,h2⟩:=hy
 cases y <;> first | (exact (Bool.false_ne_true h1).elim) | (exact (Bool.false_ne_true h2).elim) | rfl
/-- What is thrown. -/
def Hq (e:Int):Value:= .iface 81 (.agg #[.int .i64 e])
def JJ (e:Int):List PanicEntry:=[{ v:=Hq e,recovered:=false }]
def SemX (E:Env) (cx:Cx) (c:Code) (s:St) (Q:Ex->St->Prop) (PQ:Int->St->Prop):Prop :=
 ∀ (ro:Option Nat) (base:Bs) (Qm:Exit->Act->World->Prop) (a:Act) (w:World) (Z:Nat->Prop) (R:List RI),(cx.inR=false->ro=none)->SR E base w Z R s a->YI cx w Z R s.hp ->
  (∀ e s' a' w' Z' R',Q e s'->SR E base w' Z' R' s' a'->Step w Z R s.hp w' Z' R' s'.hp->Qm (SE e) a' w') ->
  (∀ e s' a' w' Z' R',PQ e s'->SR E base w' Z' R' s' a'->Step w Z R s.hp w' Z' R' s'.hp->Qm (.panic (JJ e)) a' w')->c.wpIn (Fw ro) 0 E.P Qm a w
def SemXN (E:Env) (cx:Cx) (c:Code) (n:Nat) (s:St) (Q:Ex->St->Prop) (PQ:Int->St->Prop):Prop :=
 ∀ (ro:Option Nat) (base:Bs) (Qm:Exit->Act->World->Prop) (a:Act) (w:World) (Z:Nat->Prop) (R:List RI),(cx.inR=false->ro=none)->SR E base w Z R s a->YI cx w Z R s.hp ->
  (∀ e s' a' w' Z' R',Q e s'->SR E base w' Z' R' s' a'->Step w Z R s.hp w' Z' R' s'.hp->Qm (SE e) a' w') ->
  (∀ e s' a' w' Z' R',PQ e s'->SR E base w' Z' R' s' a'->Step w Z R s.hp w' Z' R' s'.hp->Qm (.panic (JJ e)) a' w')->Code.roundsIn (Fw ro) 0 E.P c Qm n a w
def RunX (E:Env) (cx:Cx) (ops:Array Oper) (rest:List Oper) (s:St) (K:St->Prop) (PK:Int->St->Prop):Prop :=
 ∀ (ro:Option Nat) (base:Bs) (Q:Exit->Act->World->Prop) (a:Act) (w:World) (Z:Nat->Prop) (R:List RI),(cx.inR=false->ro=none)->SR E base w Z R s a->YI cx w Z R s.hp ->
  (∀ s' a' w' Z' R',K s'->SR E base w' Z' R' s' a'->Step w Z R s.hp w' Z' R' s'.hp->Q .normal a' w') ->
  (∀ e s' a' w' Z' R',PK e s'->SR E base w' Z' R' s' a'->Step w Z R s.hp w' Z' R' s'.hp->Q (.panic (JJ e)) a' w')->wpListIn (Fw ro) 0 E.P ops Q rest a w
section
variable {E:Env}{cx:Cx}{ops:Array Oper}{rest rest':List Oper}{s s1:St}{K:St->Prop}{PK PQ PQ':Int->St->Prop}{n m:Nat}{l l':List (Nat×AV)}{hp hp':Hp}{Q Q':Ex->St->Prop}{id:Nat}{c c':Code}
theorem SemX.ofY (h:SemY E cx c s Q):SemX E cx c s Q PQ:=fun ro base Qm a w Z R h1 h2 h3 k _=>h ro base Qm a w Z R h1 h2 h3 k
theorem SemX.skip (q:Q .normal s):SemX E cx .skip s Q PQ:= .ofY (.skip q)
theorem SemX.exit {id:Nat}(q:Q (.exit id) s):SemX E cx (.exit id) s Q PQ:= .ofY (.exit q)
theorem SemX.ret (q:Q .ret s):SemX E cx .ret s Q PQ:= .ofY (.ret q)
theorem SemX.seq (h:SemX E cx c s (fun e s'=>match e with | .normal=>SemX E cx c' s' Q PQ | e=>Q e s') PQ):SemX E cx (.seq c c') s Q PQ:=by
 intro ro base Qm a w Z R h1 h2 h3 k p
 refine wpIn_seq (h ro base _ a w Z R h1 h2 h3 (fun e s' a' w' Z' R' hQ sr st=>?_) fun e s' a' w' Z' R' hP sr st=>p e s' a' w' Z' R' hP sr st)
 cases e with
 | normal=>exact hQ ro base Qm a' w' Z' R' h1 sr (h3.step h2.hh st) (fun e2 s2 a2 w2 Z2 R2 hQ2 sr2 st2=>k e2 s2 a2 w2 Z2 R2 hQ2 sr2 (st.trans st2)) fun e2 s2 a2 w2 Z2 R2 hQ2 sr2 st2=>p e2 s2 a2 w2 Z2 R2 hQ2 sr2 (st.trans st2)
 | exit id=>exact k _ s' a' w' Z' R' hQ sr st
 | ret=>exact k _ s' a' w' Z' R' hQ sr st
theorem SemX.cond_true {x:Operand}(hx:opA E s.fr x=some (.v (.bool true))) (h:SemX E cx c s Q PQ):SemX E cx (.cond x c c') s Q PQ :=
 fun ro base Qm a w Z R h1 h2 h3 k p=>wpIn_cond_true (opA_vr h2 _ _ hx).v_inv (h ro base Qm a w Z R h1 h2 h3 k p)
theorem SemX.cond_false {x:Operand}(hx:opA E s.fr x=some (.v (.bool false))) (h:SemX E cx c' s Q PQ):SemX E cx (.cond x c c') s Q PQ :=
 fun ro base Qm a w Z R h1 h2 h3 k p=>wpIn_cond_false (opA_vr h2 _ _ hx).v_inv (h ro base Qm a w Z R h1 h2 h3 k p)
theorem SemX.cond {x:Operand}{b:Bool}(hx:opA E s.fr x=some (.v (.bool b))) (h:b=true->SemX E cx c s Q PQ) (h':b=false->SemX E cx c' s Q PQ):SemX E cx (.cond x c c') s Q PQ:=by
 cases b with
 | true=>exact .cond_true hx (h rfl)
 | false=>exact .cond_false hx (h' rfl)
theorem SemX.block {id:Nat}(h:SemX E cx c s (fun e s'=>match e with | .exit id'=>if id'=id then Q .normal s' else Q (.exit id') s' | e=>Q e s') PQ):SemX E cx (.block id c) s Q PQ:=by
 intro ro base Qm a w Z R h1 h2 h3 k p
 refine wpIn_block (h ro base _ a w Z R h1 h2 h3 (fun e s' a' w' Z' R' hQ sr st=>?_) fun e s' a' w' Z' R' hP sr st=>p e s' a' w' Z' R' hP sr st)
 cases e with
 | normal=>exact k _ s' a' w' Z' R' hQ sr st
 | exit id' =>
  show if id'=id then Qm .normal a' w' else Qm (.exit id') a' w'
  simp only at hQ
  split at hQ
  ·next h=>rw [if_pos h]; exact k .normal s' a' w' Z' R' hQ sr st
  ·next h=>rw [if_neg h]; exact k _ s' a' w' Z' R' hQ sr st
 | ret=>exact k _ s' a' w' Z' R' hQ sr st
theorem SemX.loop (h:SemXN E cx c n s Q PQ):SemX E cx (.loop c) s Q PQ :=
 fun ro base Qm a w Z R h1 h2 h3 k p=>wpIn_loop_rounds n (h ro base Qm a w Z R h1 h2 h3 k p)
theorem IT (h:SemX E cx c s (fun e s'=>match e with | .normal=>SemXN E cx c n s' Q PQ | e=>Q e s') PQ):SemXN E cx c (n + 1) s Q PQ:=by
 intro ro base Qm a w Z R h1 h2 h3 k p
 show c.wpIn (Fw ro) 0 E.P (Exit.then (Code.roundsIn (Fw ro) 0 E.P c Qm n) Qm) a w
 refine h ro base _ a w Z R h1 h2 h3 (fun e s' a' w' Z' R' hQ sr st=>?_) fun e s' a' w' Z' R' hP sr st=>p e s' a' w' Z' R' hP sr st
 cases e with
 | normal=>exact hQ ro base Qm a' w' Z' R' h1 sr (h3.step h2.hh st) (fun e2 s2 a2 w2 Z2 R2 hQ2 sr2 st2=>k e2 s2 a2 w2 Z2 R2 hQ2 sr2 (st.trans st2)) fun e2 s2 a2 w2 Z2 R2 hQ2 sr2 st2=>p e2 s2 a2 w2 Z2 R2 hQ2 sr2 (st.trans st2)
 | exit id=>exact k _ s' a' w' Z' R' hQ sr st
 | ret=>exact k _ s' a' w' Z' R' hQ sr st
theorem SemX.mono (h:SemX E cx c s Q PQ) (hq:∀ e s,Q e s->Q' e s) (hp:∀ e s,PQ e s->PQ' e s):SemX E cx c s Q' PQ' :=
 fun ro base Qm a w Z R h1 h2 h3 k p=>h ro base Qm a w Z R h1 h2 h3 (fun e s' a' w' Z' R' hQ=>k e s' a' w' Z' R' (hq e s' hQ)) fun e s' a' w' Z' R' hQ=>p e s' a' w' Z' R' (hp e s' hQ)
theorem HB (hw:WkY E s s1) (h:SemX E cx c s1 Q PQ):SemX E cx c s Q PQ:=by
 intro ro base Qm a w Z R h1 h2 h3 k p
 obtain ⟨Z',R',h2',st⟩:=hw base w Z R a h2
 exact h ro base Qm a w Z' R' h1 h2' (h3.step h2.hh st) (fun e s' a' w' Z2 R2 hQ sr st2=>k e s' a' w' Z2 R2 hQ sr (st.trans st2)) fun e s' a' w' Z2 R2 hQ sr st2=>p e s' a' w' Z2 R2 hQ sr (st.trans st2)
theorem Er (hw:WkY E s s1) (h:SemXN E cx c n s1 Q PQ):SemXN E cx c n s Q PQ:=by
 intro ro base Qm a w Z R h1 h2 h3 k p
 obtain ⟨Z',R',h2',st⟩:=hw base w Z R a h2
 exact h ro base Qm a w Z' R' h1 h2' (h3.step h2.hh st) (fun e s' a' w' Z2 R2 hQ sr st2=>k e s' a' w' Z2 R2 hQ sr (st.trans st2)) fun e s' a' w' Z2 R2 hQ sr st2=>p e s' a' w' Z2 R2 hQ sr (st.trans st2)
theorem SemX.fr (h:MZ l l'=NA l') (k:SemX E cx c ⟨Fr n l',hp⟩ Q PQ):SemX E cx c ⟨Fr n l,hp⟩ Q PQ:=HB (NF h) k
theorem IR (h:SemX E cx c s (fun e s'=>∃ s2,WkY E s' s2/\Q e s2) PQ):SemX E cx c s Q PQ:=by
 intro ro base Qm a w Z R h1 h2 h3 k p
 refine h ro base Qm a w Z R h1 h2 h3 (fun e s' a' w' Z' R' hQ sr st=>?_) p
 obtain ⟨s2,hw,hq⟩:=hQ
 obtain ⟨Z2,R2,sr2,st2⟩:=hw base w' Z' R' a' sr
 exact k e s2 a' w' Z2 R2 hq sr2 (st.trans st2)
theorem Eu {e0:Ex}{A:St->Prop}(h:SemX E cx c s (fun e s'=>e=e0/\∃ s2,A s2/\WkY E s' s2) PQ) (q:∀ s2,A s2->Q e0 s2):SemX E cx c s Q PQ:=by
 intro ro base Qm a w Z R h1 h2 h3 k p
 refine h ro base Qm a w Z R h1 h2 h3 (fun e s' a' w' Z' R' hQ sr st=>?_) p
 obtain ⟨rfl,s2,hA,hw⟩:=hQ
 obtain ⟨Z2,R2,sr2,st2⟩:=hw base w' Z' R' a' sr
 exact k e s2 a' w' Z2 R2 (q s2 hA) sr2 (st.trans st2)
theorem IS {e0:Ex}{A:St->Prop}(h:SemXN E cx c m s (fun e s'=>e=e0/\∃ s2,A s2/\WkY E s' s2) PQ) (q:∀ s2,A s2->Q e0 s2):SemXN E cx c m s Q PQ:=by
 intro ro base Qm a w Z R h1 h2 h3 k p
 refine h ro base Qm a w Z R h1 h2 h3 (fun e s' a' w' Z' R' hQ sr st=>?_) p
 obtain ⟨rfl,s2,hA,hw⟩:=hQ
 obtain ⟨Z2,R2,sr2,st2⟩:=hw base w' Z' R' a' sr
 exact k e s2 a' w' Z2 R2 (q s2 hA) sr2 (st.trans st2)
theorem SemXN.mono (h:SemXN E cx c m s Q PQ) (hq:∀ e s,Q e s->Q' e s) (hp:∀ e s,PQ e s->PQ' e s):SemXN E cx c m s Q' PQ' :=
 fun ro base Qm a w Z R h1 h2 h3 k p=>h ro base Qm a w Z R h1 h2 h3 (fun e s' a' w' Z' R' hQ=>k e s' a' w' Z' R' (hq e s' hQ)) fun e s' a' w' Z' R' hQ=>p e s' a' w' Z' R' (hp e s' hQ)
theorem SemX.regionL (h:RunL E cx ops ops.toList s fun s'=>Q .normal s'):SemX E cx (.region id ops false) s Q PQ:= .ofY (.regionL h)
theorem Aq (h:RunX E cx ops ops.toList s (fun s'=>Q .normal s') PQ):SemX E cx (.region id ops false) s Q PQ:=by
 intro ro base Qm a w Z R h1 h2 h3 k p
 exact wpIn_region_list (h ro base _ a w Z R h1 h2 h3 (fun s' a' w' Z' R' hq sr st=>k .normal s' a' w' Z' R' hq sr st) p)
theorem RunX.done (hr:rest=[]) (k:K s):RunX E cx ops rest s K PK:=by
 subst hr
 exact fun ro base Q a w Z R _ sr _ q _=>q s a w Z R k sr (Step.refl _ _ _ _)
theorem lwl_pre (ro:Option Nat){P:Program}{post:List Oper}{Q:Exit->Act->World->Prop}:∀ {pre:List Oper}{a:Act}{w:World},LwL P ops (fun a w=>wpListIn (Fw ro) 0 P ops Q post a w) pre a w->wpListIn (Fw ro) 0 P ops Q (pre++post) a w
 | [],_,_,h=>h
 | o::pre,a,w,h=>by
  show wpListIn (Fw ro) 0 P ops Q (o::(pre++post)) a w
  unfold wpListIn
  split
  ·next hw=>exact lw_wpIn ro ((lwl_lw hw h).mono' fun a w h=>lwl_pre ro h)
  ·next hw =>
   unfold LwL at h
   rw [if_neg hw] at h
   exact ⟨fun _ _=>trivial,lwl_pre ro h⟩
theorem Q0 {pre post:List Oper}(hr:rest=pre++post) (h:RunL E cx ops pre s fun s'=>RunX E cx ops post s' K PK):RunX E cx ops rest s K PK:=by
 subst hr
 intro ro base Q a w Z R h1 h2 h3 k p
 exact lwl_pre ro (h ro base _ a w Z R h1 h2 h3 fun s' a' w' Z' R' hK sr st=>hK ro base Q a' w' Z' R' h1 sr (h3.step h2.hh st) (fun s2 a2 w2 Z2 R2 hQ2 sr2 st2=>k s2 a2 w2 Z2 R2 hQ2 sr2 (st.trans st2)) fun e2 s2 a2 w2 Z2 R2 hQ2 sr2 st2=>p e2 s2 a2 w2 Z2 R2 hQ2 sr2 (st.trans st2))
/-- The first m operations do not panic. -/
theorem RunX.pre (m:Nat) (h:RunL E cx ops (rest.take m) s fun s'=>RunX E cx ops (rest.drop m) s' K PK):RunX E cx ops rest s K PK:=Q0 (List.take_append_drop m rest).symm h
theorem Pn (hw:WkY E s s1) (h:RunX E cx ops rest s1 K PK):RunX E cx ops rest s K PK:=by
 intro ro base Qm a w Z R h1 h2 h3 k p
 obtain ⟨Z',R',h2',st⟩:=hw base w Z R a h2
 exact h ro base Qm a w Z' R' h1 h2' (h3.step h2.hh st) (fun s' a' w' Z2 R2 hQ sr st2=>k s' a' w' Z2 R2 hQ sr (st.trans st2)) fun e s' a' w' Z2 R2 hQ sr st2=>p e s' a' w' Z2 R2 hQ sr (st.trans st2)
theorem RunX.fr (h:MZ l l'=NA l') (k:RunX E cx ops rest ⟨Fr n l',hp⟩ K PK):RunX E cx ops rest ⟨Fr n l,hp⟩ K PK:=Pn (NF h) k
theorem Kt (m:Nat){A:St->Prop}(h:RunL E cx ops (rest.take m) s fun s'=>∃ s1,A s1/\WkY E s' s1) (q:∀ s1,A s1->RunX E cx ops (rest.drop m) s1 K PK):RunX E cx ops rest s K PK :=
 RunX.pre m (RunL.mono h fun _s' hs=>let ⟨s1,hA,hw⟩:=hs; Pn hw (q s1 hA))
end
/-- What a call hands back or throws. -/
def RetP (P:Program) (f:FuncId) (args:Array Value) (w:World) (S:Value->World->Prop) (SP:Int->World->Prop):Prop :=
 Calls P f args w fun e w'=>match e with
  | .returned v=>S v w'
  | .panicked c=>∃ e,c=JJ e/\SP e w'
  | _=>False
theorem RetP.mono {P:Program}{f:FuncId}{args:Array Value}{w:World}{S S':Value->World->Prop}{SP SP':Int->World->Prop}(h:RetP P f args w S SP) (hs:∀ v w',S v w'->S' v w') (hp:∀ e w',SP e w'->SP' e w'):RetP P f args w S' SP' :=
 Calls.mono h fun e w'=>by
  cases e with
  | returned v=>exact hs v w'
  | panicked c=>exact fun ⟨e,h1,h2⟩=>⟨e,h1,hp e w' h2⟩
  | outgrown=>exact fun h=>h
def erP {β:Type}(er:β->AV):β ⊕ Int->AV ⊕ Int
 | .inl b=> .inl (er b)
 | .inr e=> .inr e
def LX {α β:Type}(s:Cs α) (F:α->Option (β ⊕ Int)) (er:β->AV) (xs:List AV):Option (AV ⊕ Int):=(s.dec xs).bind fun a=>(F a).map (erP er)
theorem LY {α β:Type}{s:Cs α}{F:α->Option (β ⊕ Int)}{er:β->AV}{xs:List AV}{a:α}{r:β ⊕ Int}(h:s.dec xs=some a) (hF:F a=some r):LX s F er xs=some (erP er r):=by
 unfold LX
 rw [h,OS,hF]; rfl
/-- What is told of a function that may throw. -/
def Rz (f:FuncId) (g:List AV->Option (AV ⊕ Int)):Prop:=BI E0.P f/\∀ xs r,g xs=some r->∀ w Z us,(∀ c,Z c->c < w.heap.size)->GI E0 w Z->VRs w Z [] xs us ->
 RetP E0.P f us.toArray w (fun v w'=>∃ x,r = .inl x/\w.grownBy w' none/\VR w' (fun c=>Z c\/(w.heap.size<=c/\c < w'.heap.size)) [] x v) (fun e w'=>r = .inr e/\w.grownBy w' none)
/-- One result behind another, or the first that is thrown. -/
def B8 {α β:Type}(x:Option (α ⊕ Int)) (k:α->Option (β ⊕ Int)):Option (β ⊕ Int):=x.bind fun r=>match r with
 | .inl v=>k v
 | .inr e=>some (.inr e)
theorem Ao {α β:Type}{x:Option (α ⊕ Int)}{k:α->Option (β ⊕ Int)}{r:β ⊕ Int}(h:B8 x k=some r):(∃ v,x=some (.inl v)/\k v=some r)\/∃ e,x=some (.inr e)/\r = .inr e:=by
 obtain ⟨y,hy,h⟩:=OB h
 cases y with
 | inl v=>exact .inl ⟨v,hy,h⟩
 | inr e=>exact .inr ⟨e,hy,(OI h).symm⟩
section
variable {E:Env}{cx:Cx}{ops:Array Oper}{rest rest':List Oper}{K:St->Prop}{PK:Int->St->Prop}{n:Nat}{l:List (Nat×AV)}{hp:Hp}{α β:Type}{s:Cs α}{F:α->Option (β ⊕ Int)}{er:β->AV}{u:α}{v:β}{fid:FuncId}{w:World}{Z:Nat->Prop}{R:List RI}
theorem Tf (hX:Rz fid (LX s F er)) (hh:HR w Z R hp) (hg:GI E0 w Z){xs:List AV}{us:List Value}(hvs:VRs w Z R xs us) (hv:SeesD hp s xs u) (hok:Ci (er v)=true\/xs.all Cq=true/\s.dec xs=some u) (hF:F u=some (.inl v)) :
  Ret E0.P fid us.toArray w fun x w'=>∃ Z',HR w' Z' R hp/\VR w' Z' R (er v) x/\Step w Z R hp w' Z' R hp:=by
 by_cases hf:Ci (er v)=true
 ·obtain ⟨ys,hv,hd⟩:=hv
  have hz1:∀ c,(Z c\/own R hp c)->c < w.heap.size:=fun c hc=>hc.elim (hh.zlt c) (fun ⟨b,B,r,h1,_,h3,h4⟩=>h4 ▸ hh.rltL h1 h3)
  have hg1:GI E0 w (fun c=>Z c\/own R hp c):=fun q y hy=>(hg q y hy).mono (fun _ _=>rfl) (fun _ h=> .inl h) (fun _ _ h=>h)
  refine Calls.mono (hX.2 ys _ (LY hd hF) w _ us hz1 hg1 (hv w Z R us hh hvs)) fun e w' he=>?_
  cases e with
  | returned x =>
   obtain ⟨y,hy,hs,hx⟩:=he
   obtain rfl:er v=y:=Sum.inl.inj hy
   exact ⟨Z,hh.keep hs.size (fun c hc=>hs.block c hc (by simp)),I0 hf hx,⟨hs.os,hs.tape,hs.output,hs.size,fun c hc _=>hs.block c hc (by simp),fun _ h=> .inl h,fun _ h=>h,fun _ h=> .inl h,fun _ _ h=>h⟩⟩
  | panicked c=>obtain ⟨e,_,h,_⟩:=he; cases h
  | outgrown=>exact he
 ·obtain ⟨hn,hd⟩:=hok.resolve_left hf
  refine Calls.mono (hX.2 xs _ (LY hd hF) w Z us hh.zlt hg (Kp hn hvs)) fun e w' he=>?_
  cases e with
  | returned x =>
   obtain ⟨y,hy,hs,hx⟩:=he
   obtain rfl:er v=y:=Sum.inl.inj hy
   obtain ⟨k1,k2⟩:=hh.addZ hs
   exact ⟨_,k1,hx.up,k2⟩
  | panicked c=>obtain ⟨e,_,h,_⟩:=he; cases h
  | outgrown=>exact he
theorem Te (hX:Rz fid (LX s F er)) (hh:HR w Z R hp) (hg:GI E0 w Z){xs:List AV}{us:List Value}(hvs:VRs w Z R xs us) (hv:SeesD hp s xs u){e0:Int}(hF:F u=some (.inr e0)) :
  Calls E0.P fid us.toArray w fun e w'=>match e with | .panicked c=>c=JJ e0/\HR w' Z R hp/\Step w Z R hp w' Z R hp | _=>False:=by
 obtain ⟨ys,hv,hd⟩:=hv
 have hz1:∀ c,(Z c\/own R hp c)->c < w.heap.size:=fun c hc=>hc.elim (hh.zlt c) (fun ⟨b,B,r,h1,_,h3,h4⟩=>h4 ▸ hh.rltL h1 h3)
 have hg1:GI E0 w (fun c=>Z c\/own R hp c):=fun q y hy=>(hg q y hy).mono (fun _ _=>rfl) (fun _ h=> .inl h) (fun _ _ h=>h)
 refine Calls.mono (hX.2 ys _ (LY hd hF) w _ us hz1 hg1 (hv w Z R us hh hvs)) fun e w' he=>?_
 cases e with
 | returned x=>obtain ⟨y,hy,_⟩:=he; cases hy
 | panicked c =>
  obtain ⟨e,rfl,h,hs⟩:=he
  obtain rfl:e0=e:=Sum.inr.inj h
  exact ⟨rfl,hh.keep hs.size (fun c hc=>hs.block c hc (by simp)),⟨hs.os,hs.tape,hs.output,hs.size,fun c hc _=>hs.block c hc (by simp),fun _ h=> .inl h,fun _ h=>h,fun _ h=> .inl h,fun _ _ h=>h⟩⟩
 | outgrown=>exact he
/-- How a call begins. -/
theorem N2 {E:Env}{base:Bs}{a:Act}{caps xs:List AV}{d:Option Nat}{f:Operand}{args:Array Operand}{tys:Array TypeId}{ty:TypeId}{pos:String}{af:Array Edge}{g:Option (Nat×Bool)}(hcl:BI E.P fid) (sr:SR E base w Z R ⟨Fr n l,hp⟩ a) (hf:opA E (Fr n l) f=some (.fn fid [] caps)) (ha:Ff (opA E (Fr n l)) args.toList=some xs) :
  ∃ us:List Value,VRs w Z R (xs++caps) us/\(execOp a.eval ⟨d,.call ⟨.value f,args,tys⟩,ty,pos,af,g⟩).run E.P w = .ok (.enter fid us.toArray) w:=by
 have hρ:∀ o x,opA E (Fr n l) o=some x->VR w Z R x (a.eval o):=fun o x e=>opA_vr sr o x e
 have hvf:=hρ _ _ hf
 have hva:∃ uc:List Value,a.eval f = .func (.func fid) #[] uc.toArray/\VRs w Z R caps uc:=by
  generalize a.eval f=vf at hvf
  cases hvf with
  | fn hl hl' hx hy =>
   rename_i u1 u2
   have e1:u1=[]:=by simpa using hl
   subst e1
   exact ⟨u2,rfl,hl',hy⟩
 obtain ⟨uc,hva,huc⟩:=hva
 refine ⟨args.toList.map a.eval++uc,(opds_vr hρ ha).append huc,?_⟩
 rw [Do (uf:=[]) (uc:=uc) rfl hva rfl hcl w]
 simp only [List.nil_append]
/-- An operation that enters a function. -/
theorem Mh (ro:Option Nat){P:Program}{o:Oper}{a:Act}{us:List Value}{next:Act->World->Prop}{Q:Exit->Act->World->Prop}(hrun:(execOp a.eval o).run P w = .ok (.enter fid us.toArray) w)
  (h:Calls P fid us.toArray w fun e w'=>match e with | .returned v=>next (a.put o.dst v) w' | .panicked c=>Q (.panic c) a w' | _=>False):o.wpIn (Fw ro) 0 P a w next Q:=by
 refine ⟨fun _ _=>trivial,?_⟩
 rw [show (Fw ro).round=ro from rfl,semAt_run ro hrun (by simp)]
 refine ⟨(fun h=>by cases h),CallsIn.mono (D6 ro _ h) fun e w'' hh=>?_⟩
 cases e with
 | returned v=>exact hh
 | panicked c=>exact hh
 | outgrown=>exact hh.elim
theorem CB (hP:E.P=E0.P) (hG:E.G=E0.G) (hX:Rz fid (LX s F er)){caps xs:List AV}{d:Nat}{f:Operand}{args:Array Operand}{tys:Array TypeId}{ty:TypeId}{pos:String}{af:Array Edge}{g:Option (Nat×Bool)}(hr:rest=⟨some d,.call ⟨.value f,args,tys⟩,ty,pos,af,g⟩::rest') (hw:BO ops (Fr n l) ⟨some d,.call ⟨.value f,args,tys⟩,ty,pos,af,g⟩=some true)
  (hf:opA E (Fr n l) f=some (.fn fid [] caps)) (ha:Ff (opA E (Fr n l)) args.toList=some xs) (hv:SeesD hp s (xs++caps) u) (hok:Ci (er v)=true\/(xs++caps).all Cq=true/\s.dec (xs++caps)=some u) (hF:F u=some (.inl v)) (kk:RunX E cx ops rest' ⟨Fr n ((d,er v)::l),hp⟩ K PK):RunX E cx ops rest ⟨Fr n l,hp⟩ K PK:=by
 subst hr
 intro ro base Q a w Z R hro sr hy k p
 obtain ⟨us,hus,hrun⟩:=N2 (d:=some d) (tys:=tys) (ty:=ty) (pos:=pos) (af:=af) (g:=g) (hP ▸ hX.1) sr hf ha
 unfold wpListIn
 rw [if_pos (wantedA_eq sr hw)]
 refine Mh ro hrun ?_
 have hret:=Tf hX sr.hh (fun q y hy=>sr.gl q y (by rw [hG]; exact hy)) hus hv hok hF
 rw [<-hP] at hret
 refine Calls.mono hret fun e w' he=>?_
 cases e with
 | returned x =>
  obtain ⟨Z',k1,k2,k3⟩:=he
  refine kk ro base Q _ w' Z' R hro ?_ (hy.step sr.hh k3) (fun s' a' w'' Z'' R'' hK sr'' st'=>k s' a' w'' Z'' R'' hK sr'' (k3.trans st')) fun e s' a' w'' Z'' R'' hK sr'' st'=>p e s' a' w'' Z'' R'' hK sr'' (k3.trans st')
  have:=(sr.step k1 k3).put (d:=some d) k2
  rwa [CZ] at this
 | panicked c=>exact he.elim
 | outgrown=>exact he.elim
theorem CA (hP:E.P=E0.P) (hG:E.G=E0.G) (hX:Rz fid (LX s F er)){caps xs:List AV}{d:Nat}{f:Operand}{args:Array Operand}{tys:Array TypeId}{ty:TypeId}{pos:String}{af:Array Edge}{g:Option (Nat×Bool)}{e0:Int}(hr:rest=⟨some d,.call ⟨.value f,args,tys⟩,ty,pos,af,g⟩::rest') (hw:BO ops (Fr n l) ⟨some d,.call ⟨.value f,args,tys⟩,ty,pos,af,g⟩=some true)
  (hf:opA E (Fr n l) f=some (.fn fid [] caps)) (ha:Ff (opA E (Fr n l)) args.toList=some xs) (hv:SeesD hp s (xs++caps) u) (hF:F u=some (.inr e0)) (kk:PK e0 ⟨Fr n l,hp⟩):RunX E cx ops rest ⟨Fr n l,hp⟩ K PK:=by
 subst hr
 intro ro base Q a w Z R hro sr hy k p
 obtain ⟨us,hus,hrun⟩:=N2 (d:=some d) (tys:=tys) (ty:=ty) (pos:=pos) (af:=af) (g:=g) (hP ▸ hX.1) sr hf ha
 unfold wpListIn
 rw [if_pos (wantedA_eq sr hw)]
 refine Mh ro hrun ?_
 have hret:=Te hX sr.hh (fun q y hy=>sr.gl q y (by rw [hG]; exact hy)) hus hv hF
 rw [<-hP] at hret
 refine Calls.mono hret fun e w' he=>?_
 cases e with
 | returned x=>exact he.elim
 | panicked c =>
  obtain ⟨rfl,k1,k3⟩:=he
  exact p e0 ⟨Fr n l,hp⟩ a w' Z R kk (sr.step k1 k3) k3
 | outgrown=>exact he.elim
end
/-- A panic leaves a function that defers nothing. -/
theorem MB {E:Env}{base:Bs}(hbD:base.D=[]){w:World}{Z:Nat->Prop}{R:List RI}{s:St}{a:Act}{fn:Func}{chain:List PanicEntry}{RR:Ending->World->Prop}
  (hS:∀ w',w.heap.size<=w'.heap.size->w'.os=w.os->w'.tape=w.tape->w'.output=w.output->(∀ c,c < base.n->w'.heap[c]? = w.heap[c]?)->HR w' Z R s.hp->RR (.panicked chain) w') :
  ∀ {D:List Deferred} {w1:World},SR E base w1 Z R s { a with defers:=D }->w1.heap.size=w.heap.size->w1.os=w.os->w1.tape=w.tape->w1.output=w.output->(∀ c,c < base.n->w1.heap[c]? = w.heap[c]?) ->
  LeavesInM (Fw none) 0 E.P fn a.tmps RR D (.panicking chain) w1
 | [],w1,sr,hz,ho,ht',hp,hb=>hS w1 (Nat.le_of_eq hz.symm) ho ht' hp hb sr.hh
 | d'::D,w1,sr,hz,ho,ht',hp,hb=>by
  rcases sr.mks with ⟨Ds',e,_,_⟩ | ⟨⟨r,h1,h2,h3,h4,h5,h6⟩,hD⟩
  ·rw [hbD] at e; cases e
  ·subst h2
   have hb':∀ c,(Z c\/own R s.hp c)->(w1.putObj r (.deferred none)).heap[c]? = w1.heap[c]?:=fun c hc=>Dh (fun e=>by subst e; exact hc.elim h4 h5)
   exact ⟨by simp,.inl ⟨r,w1.putObj r (.deferred none),rfl,run_takeDeferred h3,MB hbD hS ⟨sr.hh.off (BM _ _ _) hb',sr.fr.off fun c hc=>hb' c (.inl hc),MksD.put hD h6,sr.gl.off fun c hc=>hb' c (.inl hc),by rw [BM]; exact sr.bs⟩ (by rw [BM]; exact hz) ho ht' hp (fun c hc=>(Dh (by omega)).trans (hb c hc))⟩⟩
theorem Ga {F:Fence}{n:Nat}{P:Program}{fn:Func}{tmps:Array Value}{R R':Ending->World->Prop}(hR:∀ e w,R e w->R' e w):∀ {D:List Deferred}{u:FrameMode}{w:World},LeavesInM F n P fn tmps R D u w->LeavesInM F n P fn tmps R' D u w
 | [],u,w,h=>by
  cases u with
  | returning=>obtain ⟨v,h1,h2⟩:=h; exact ⟨v,h1,hR _ _ h2⟩
  | panicking c=>exact hR _ _ h
  | run=>exact h.elim
 | d::ds,u,w,⟨h1,h2⟩=>⟨h1,h2.elim (fun ⟨r,w',a,b,c⟩=> .inl ⟨r,w',a,b,Ga hR c⟩) fun ⟨hn,fv,cap,f,args,a,b,c,hcall⟩=> .inr ⟨hn,fv,cap,f,args,a,b,c,CallsDIn.mono hcall fun e u' w' he=>by
   cases e with
   | returned v=>exact Ga hR he
   | panicked c=>exact Ga hR he
   | outgrown=>exact hR _ _ he⟩⟩
theorem O8 {e:Env}{f:FuncId}{fn:Func}{c:Code}(hff:e.P.funcs[f]? = some fn) (hc:fn.body=some c){args:List AV}(hle:args.length<=fn.ntmps){hp:Hp}{Out:AV->Hp->Prop}{PQ:Int->St->Prop}
  (sem:SemX e ⟨none,false⟩ c ⟨Fr fn.ntmps (BF 0 args),hp⟩ (fun x s'=>(x = .normal\/x = .ret)/\∃ ys,Dk e.P s'.fr s'.hp fn.results.toList=some ys/\Out (EB ys) s'.hp) PQ)
  {w:World} {Z:Nat->Prop} {R:List RI} {us:List Value} (hh:HR w Z R hp) (hv:VRs w Z R args us) (hg:GI e w Z) :
  RetP e.P f us.toArray w (fun v w'=>∃ Z' R' x h',Out x h'/\HR w' Z' R' h'/\VR w' Z' R' x v/\Step w Z R hp w' Z' R' h') fun q w'=>∃ Z' R' s',PQ q s'/\HR w' Z' R' s'.hp/\Step w Z R hp w' Z' R' s'.hp:=by
 refine callsIn_wide.1 (callsIn_of_wp_marks (F:=Fw none) (n:=0) hff hc trivial ?_)
 have hul:us.length=args.length:=hv.len
 have hsr:SR e (.of w.heap.size) w Z R ⟨Fr fn.ntmps (BF 0 args),hp⟩ { tmps:=us.toArray++Array.replicate (fn.ntmps - us.toArray.size) undef,defers:=[] }:=by
  refine ⟨hh,⟨by rw [Da]; simp; omega,fun t x hx=>?_⟩,rfl,hg,Nat.le_refl _⟩
  rw [DW] at hx
  split at hx
  ·injection hx with hx
   obtain ⟨j,h1,h2⟩:=IC _ 0 t x hx
   rw [Nat.zero_add] at h1
   subst h1
   obtain ⟨u,hu1,hu2⟩:=hv.get h2
   have e0:us.toArray++Array.replicate (fn.ntmps - us.toArray.size) undef=(us++List.replicate (fn.ntmps - us.length) undef).toArray:=by simp
   rw [e0,Array.getD_eq_getD_getElem?,List.getElem?_toArray,List.getElem?_append_left (List.getElem?_eq_some_iff.1 hu1).1,hu1]
   exact hu2
  ·cases hx
 refine sem none (.of w.heap.size) _ _ w Z R (fun _=>rfl) hsr (fun y hy=>by cases hy) (fun x s' a' w' Z' R' hQ sr' st=>?_) fun q s' a' w' Z' R' hQ sr' st=>?_
 ·obtain ⟨hex,ys,hys,hO⟩:=hQ
  have hl:=EA (base:= .of w.heap.size) rfl (E:=e) (w:=w') (a:=a') (fn:=fn) (S:=fun v w''=>∃ Z' R' x h',Out x h'/\HR w'' Z' R' h'/\VR w'' Z' R' x v/\Step w Z R hp w'' Z' R' h') hys (fun w'' u g1 g2 g3 g4 g5 g6 g7=>⟨Z',R',_,_,hO,g6,g7,⟨g2.trans st.os,g3.trans st.tape,g4.trans st.output,by rw [g1]; exact st.size,fun c hc hn=>(g5 c hc).trans (st.block c hc hn),st.own_,st.z,st.z',st.r⟩⟩) (D:=a'.defers) (w1:=w') sr' rfl rfl rfl rfl (fun _ _=>rfl)
  have hl':LeavesInM (Fw none) 0 e.P fn a'.tmps (fun e w'=>match e with
   | .returned v=>∃ Z' R' x h',Out x h'/\HR w' Z' R' h'/\VR w' Z' R' x v/\Step w Z R hp w' Z' R' h'
   | .panicked c=>∃ e,c=JJ e/\∃ Z' R' s',PQ e s'/\HR w' Z' R' s'.hp/\Step w Z R hp w' Z' R' s'.hp
   | _=>False) a'.defers .returning w':=Ga (fun e w'' he=>by
   cases e with
   | returned v=>exact he
   | panicked c=>exact he.elim
   | outgrown=>exact he.elim) hl
  rcases hex with rfl | rfl
  ·exact hl'
  ·exact hl'
 ·exact MB (base:= .of w.heap.size) rfl (w:=w') (a:=a') (fn:=fn) (fun w'' g1 g2 g3 g4 g5 g6=>⟨q,rfl,Z',R',s',hQ,g6,⟨g2.trans st.os,g3.trans st.tape,g4.trans st.output,Nat.le_trans st.size g1,fun c hc hn=>(g5 c hc).trans (st.block c hc hn),st.own_,st.z,st.z',st.r⟩⟩) (D:=a'.defers) (w1:=w') sr' rfl rfl rfl rfl (fun _ _=>rfl)
/-- A function of frozen things that may throw, told. -/
theorem IP {f:FuncId}{fn:Func}{c:Code}(hf:E0.P.funcs[f]? = some fn) (hc:fn.body=some c) (hcall:BI E0.P f){α β:Type}(s:Cs α) (F:α->Option (β ⊕ Int)) (er:β->AV) (hle:∀ a,(s.enc a).length<=fn.ntmps) (hfl:∀ b,S6 (er b)=true)
  (sem:∀ a r,F a=some r->SemX E0 ⟨none,false⟩ c ⟨Fr fn.ntmps (BF 0 (s.enc a)),[]⟩ (fun x s'=>∃ b,r = .inl b/\(x = .normal\/x = .ret)/\∃ ys,Dk E0.P s'.fr s'.hp fn.results.toList=some ys/\EB ys=er b) fun e _=>r = .inr e):Rz f (LX s F er):=by
 refine ⟨hcall,fun xs r h w Z us hz hg hv=>?_⟩
 unfold LX at h
 obtain ⟨a,ha,h⟩:=OB h
 obtain ⟨q,hq,rfl⟩:=Option.map_eq_some_iff.1 h
 have hv':=s.vr ha hv
 refine RetP.mono (O8 hf hc (hle a) (Out:=fun x _=>∃ b,q = .inl b/\x=er b) (SemX.mono (sem a q hq) (fun x s' ⟨b,h1,h2,ys,h3,h4⟩=>⟨h2,ys,h3,b,h1,h4⟩) fun _ _ h=>h) (LA hz) hv' hg) (fun v w' hS=>?_) fun e w' hS=>?_
 ·obtain ⟨Z',R',x,h',⟨b,rfl,rfl⟩,h1,h2,st⟩:=hS
  refine ⟨er b,rfl,⟨st.os,st.tape,st.output,st.size,fun c hc _=>st.block c hc HW⟩,(Mf (hfl b) h2).mono (fun _ _=>rfl) (fun c hc=>?_) (fun _ _ h=>h)⟩
  rcases st.z' c hc with h | h | h
  ·exact .inl h
  ·exact absurd h HW
  ·exact .inr ⟨h,h1.zlt c hc⟩
 ·obtain ⟨Z',R',s',h0,h1,st⟩:=hS
  subst h0
  exact ⟨rfl,⟨st.os,st.tape,st.output,st.size,fun c hc _=>st.block c hc HW⟩⟩
section
variable {E:Env}{cx:Cx}{ops:Array Oper}{rest rest':List Oper}{K:St->Prop}{PK:Int->St->Prop}{n:Nat}{l:List (Nat×AV)}{hp:Hp}{fid:FuncId}
/-- A call that may throw, gone through in the caller's blocks. -/
theorem Bi (hP:E.P=E0.P) (hG:E.G=E0.G){d:Nat}{f:Operand}{args:Array Operand}{tys:Array TypeId}{ty:TypeId}{pos:String}{af:Array Edge}{g:Option (Nat×Bool)}{caps xs:List AV}{fn:Func}{c:Code}{Out:AV->Hp->Prop}{PQ:Int->St->Prop}(hr:rest=⟨some d,.call ⟨.value f,args,tys⟩,ty,pos,af,g⟩::rest') (hw:BO ops (Fr n l) ⟨some d,.call ⟨.value f,args,tys⟩,ty,pos,af,g⟩=some true)
  (hf:opA E (Fr n l) f=some (.fn fid [] caps)) (ha:Ff (opA E (Fr n l)) args.toList=some xs) (hff:E0.P.funcs[fid]? = some fn) (hcl:BI E0.P fid) (hc:fn.body=some c) (hle:(xs++caps).length<=fn.ntmps)
  (sem:SemX E0 ⟨none,false⟩ c ⟨Fr fn.ntmps (BF 0 (xs++caps)),hp⟩ (fun x s'=>(x = .normal\/x = .ret)/\∃ ys,Dk E0.P s'.fr s'.hp fn.results.toList=some ys/\Out (EB ys) s'.hp) PQ)
  (kp:∀ e s',PQ e s'->PK e ⟨Fr n l,s'.hp⟩) (k:∀ x h',Out x h'->RunX E cx ops rest' ⟨Fr n ((d,x)::l),h'⟩ K PK):RunX E cx ops rest ⟨Fr n l,hp⟩ K PK:=by
 obtain ⟨P,fns,G,X,I⟩:=E
 simp only at hP hG
 subst hP hG
 subst hr
 intro ro base Q a w Z R hro sr hy q p
 obtain ⟨us,hus,hrun⟩:=N2 (E:=⟨E0.P,fns,E0.G,X,I⟩) (d:=some d) (tys:=tys) (ty:=ty) (pos:=pos) (af:=af) (g:=g) hcl sr hf ha
 unfold wpListIn
 rw [if_pos (wantedA_eq sr hw)]
 refine Mh ro hrun (Calls.mono (O8 hff hc hle sem sr.hh hus sr.gl) fun e w' he=>?_)
 cases e with
 | returned v =>
  obtain ⟨Z',R',x,h',hO,h1,h2,st⟩:=he
  have sr':=(sr.step h1 st).put (d:=some d) h2
  rw [show Ip (⟨Fr n l,h'⟩:St).fr (some d) x=Fr n ((d,x)::l) from CZ n l d _] at sr'
  exact k x h' hO ro base Q _ w' Z' R' hro sr' (hy.step sr.hh st) (fun s' a' w'' Z'' R'' hK sr'' st'=>q s' a' w'' Z'' R'' hK sr'' (st.trans st')) fun e s' a' w'' Z'' R'' hK sr'' st'=>p e s' a' w'' Z'' R'' hK sr'' (st.trans st')
 | panicked c =>
  obtain ⟨e,rfl,Z',R',s',hQ,h1,st⟩:=he
  exact p e ⟨Fr n l,s'.hp⟩ a w' Z' R' (kp e s' hQ) (sr.step h1 st) st
 | outgrown=>exact he.elim
end
theorem SemX.inl {β:Type}{E:Env}{cx:Cx}{c:Code}{s:St}{PQ:Int->St->Prop}{r:β}{P:β->Ex->St->Prop}(h:SemX E cx c s (fun e s=>∃ q,(Sum.inl r:β ⊕ Int) = .inl q/\P q e s) fun e _=>(Sum.inl r:β ⊕ Int) = .inr e):SemX E cx c s (P r) PQ :=
 SemX.mono h (fun _ _ ⟨_,h1,h2⟩=>Sum.inl.inj h1 ▸ h2) fun _ _ h=>nomatch h
theorem SemXN.inl {β:Type}{E:Env}{cx:Cx}{c:Code}{s:St}{n:Nat}{PQ:Int->St->Prop}{r:β}{P:β->Ex->St->Prop}(h:SemXN E cx c n s (fun e s=>∃ q,(Sum.inl r:β ⊕ Int) = .inl q/\P q e s) fun e _=>(Sum.inl r:β ⊕ Int) = .inr e):SemXN E cx c n s (P r) PQ :=
 SemXN.mono h (fun _ _ ⟨_,h1,h2⟩=>Sum.inl.inj h1 ▸ h2) fun _ _ h=>nomatch h
theorem SemX.inr {β:Type}{E:Env}{cx:Cx}{c:Code}{s:St}{Q:Ex->St->Prop}{PQ:Int->St->Prop}{e0:Int}{P:β->Ex->St->Prop}(h:SemX E cx c s (fun e s=>∃ q,(Sum.inr e0:β ⊕ Int) = .inl q/\P q e s) fun e _=>(Sum.inr e0:β ⊕ Int) = .inr e) (hp:∀ s,PQ e0 s):SemX E cx c s Q PQ :=
 SemX.mono h (fun _ _ ⟨_,h1,_⟩=>nomatch h1) fun _ s h=>Sum.inr.inj h ▸ hp s
theorem SemXN.inr {β:Type}{E:Env}{cx:Cx}{c:Code}{s:St}{n:Nat}{Q:Ex->St->Prop}{PQ:Int->St->Prop}{e0:Int}{P:β->Ex->St->Prop}(h:SemXN E cx c n s (fun e s=>∃ q,(Sum.inr e0:β ⊕ Int) = .inl q/\P q e s) fun e _=>(Sum.inr e0:β ⊕ Int) = .inr e) (hp:∀ s,PQ e0 s):SemXN E cx c n s Q PQ :=
 SemXN.mono h (fun _ _ ⟨_,h1,_⟩=>nomatch h1) fun _ s h=>Sum.inr.inj h ▸ hp s
/-- A result that lies in a cell. -/
theorem Rg {P:Program}{fr:List (Option AV)}{h:Hp}{a m k:Nat}{t t0:TypeId}{g:Bool}{p x y:AV}{L:List Asn}(hfr:fr[a]? = some (some p)) (ht:T h (cel p k t0 x::L)) (hm:Bf P t=some m) (hg:M2 P t=some g) (he:QD x 0 m g=some y):Dk P fr h [.cell a t]=some [y]:=by
 simp [Dk,hfr,ES ht hm hg he]
/-- What a cell of its own holds, told in another way. -/
theorem IV {E:Env}{hp:Hp}{p x y:AV}{k:Nat}{t:TypeId}{L:List Asn}(ht:T hp (cel p k t x::L)) (hu:UpV x y):∃ hp',(∀ (n:Nat) (l:List (Nat×AV)),WkY E ⟨Fr n l,hp⟩ ⟨Fr n l,hp'⟩)/\T hp' (cel p k t y::L):=by
 obtain ⟨F,⟨b,rfl,rfl,hb⟩,hn',hk,_⟩:=ht.act
 have hlt:=H7 hb
 have same:∀ c,c≠b->(hp.set b (some ⟨k,t,[y],false⟩))[c]? = hp[c]?:=fun c hc=>by rw [List.getElem?_set,if_neg (Ne.symm hc)]
 have hget:∀ (c:Nat) (B:Blk),(hp.set b (some ⟨k,t,[y],false⟩))[c]? = some (some B)->∃ B0,hp[c]? = some (some B0)/\B0.fz=B.fz/\B0.k=B.k/\B0.t=B.t/\B.es.length=B0.es.length/\∀ (i:Nat) (x':AV),B.es[i]? = some x'->∃ x0,B0.es[i]? = some x0/\UpV x0 x':=fun c B hB=>by
  by_cases hc:c=b
  ·subst hc
   rw [List.getElem?_set,if_pos rfl,if_pos hlt] at hB
   obtain rfl:=OI (OI hB)
   refine ⟨_,hb,rfl,rfl,rfl,rfl,fun i x' hx=>?_⟩
   match i with
   | 0=>simp at hx; subst hx; exact ⟨_,rfl,hu⟩
   | i + 1=>simp at hx
  ·rw [same c hc] at hB
   exact ⟨B,hB,rfl,rfl,rfl,rfl,fun i x' hx=>⟨x',hx,UpV.refl⟩⟩
 have hown:∀ (R:List RI) (c:Nat),own R (hp.set b (some ⟨k,t,[y],false⟩)) c->own R hp c:=fun R c ⟨b',B,r,h1,h2,h3,h4⟩=>by
  obtain ⟨B0,q1,q2,_⟩:=hget b' B h1
  exact ⟨b',B0,r,q1,q2.trans h2,h3,h4⟩
 refine ⟨hp.set b (some ⟨k,t,[y],false⟩),fun n l base w Z R a sr=>⟨Z,R,⟨⟨by simp [sr.hh.len],fun c B hB=>?_,fun c c' B B' r r' h1 f1 h2 f2 g1 g2 e=>?_,sr.hh.zlt⟩,sr.fr,sr.mks.imp fun q h3 h4 h5=>⟨h3,h4,fun ho=>h5 (hown R q ho)⟩,sr.gl,sr.bs⟩,⟨rfl,rfl,rfl,Nat.le_refl _,fun _ _ _=>rfl,fun c hc=> .inl (hown R c hc),fun _ h=>h,fun _ h=> .inl h,fun _ _ h=>h⟩⟩,hk _ _ [b] ⟨b,rfl,rfl,by simp [hlt]⟩ (by simp) (fun c hc _=>same c (fun e=>hc (by simp [e]))) (fun c hc=> .inl hc)⟩
 ·obtain ⟨B0,q1,q2,q3,q4,q5,q6⟩:=hget c B hB
  obtain ⟨r,arr,us,g1,g2,g3,g4,g5,g6,g7,g8,g9,g10⟩:=sr.hh.blk c B0 q1
  rw [q3] at g2 g4 g10
  rw [q4] at g3
  rw [q2] at g7 g8
  refine ⟨r,arr,us,g1,g2,g3,g4,by rw [q5]; exact g5,g6,g7,g8,⟨by rw [g9.len,q5],fun i x' u hx hu=>?_⟩,g10⟩
  obtain ⟨x0,r1,r2⟩:=q6 i x' hx
  exact r2 _ _ _ _ (g9.at_ i x0 u r1 hu)
 ·obtain ⟨B0,q1,q2,_⟩:=hget c B h1
  obtain ⟨B0',q1',q2',_⟩:=hget c' B' h2
  exact sr.hh.inj c c' B0 B0' r r' q1 (q2.trans f1) q1' (q2'.trans f2) g1 g2 e
/-- A slot that the state does not tell is written. -/
theorem SR.hide {E:Env}{base:Bs}{w:World}{Z:Nat->Prop}{R:List RI}{n d:Nat}{l:List (Nat×AV)}{hp:Hp}{a:Act}{u:Value}(sr:SR E base w Z R ⟨Fr n l,hp⟩ a) (hd:lk l d=none):SR E base w Z R ⟨Fr n l,hp⟩ (a.put (some d) u):=by
 refine ⟨sr.hh,⟨by simp [Act.put,sr.fr.1],fun t y hy=>?_⟩,sr.mks,sr.gl,sr.bs⟩
 have hne:t≠d:=fun e=>by
  subst e
  rw [DW] at hy
  split at hy
  ·injection hy with hy; rw [hd] at hy; cases hy
  ·cases hy
 have:=sr.fr.2 t y hy
 simp only [Act.put,Array.getD_eq_getD_getElem?,Array.getElem?_setIfInBounds_ne (Ne.symm hne)] at this ⊢
 exact this
/-- As RunDT; beside the state, one that tells more, by memory that was made in the region. -/
def RunDG (E:Env) (cx:Cx) (ops:Array Oper) (T n0 k:Nat) (rest:List Oper) (n:Nat) (l lg:List (Nat×AV)) (hp:Hp) (K:St->Prop):Prop :=
 ∀ (ro:Option Nat) (base:Bs) (Q:Act->World->Prop) (w0:World) (Z Zg:Nat->Prop) (R0:List RI) (h0:Hp) (a:Act) (w:World) (R:List RI),(cx.inR=false->ro=none)->YI cx w0 Z R0 h0->HR w0 Z R0 h0->n0=h0.length->SR E base w Z R ⟨Fr n l,hp⟩ a->SR E base w Zg R ⟨Fr n lg,hp⟩ a->(∀ c,Z c->Zg c)->w0.grownBy w none->Step w0 Z R0 h0 w Z R hp->(∀ (b:Nat) (B:Option Blk),h0[b]? = some B->hp[b]? = some B)->(∀ j,rest[j]? = ops[k + j]?) ->
  (∀ s' a' w' Z' R',K s'->SR E base w' Z' R' s' a'->Step w0 Z R0 h0 w' Z' R' s'.hp->Q a' w')->FE E.P ops (fun w'=>w0.grownBy w' none) (CY ops T) T Q k rest a w
section
variable {E:Env}{cx:Cx}{ops:Array Oper}{rest rest':List Oper}{K:St->Prop}{n n0 k T d:Nat}{l lg:List (Nat×AV)}{hp:Hp}{α β:Type}{s:Cs α}{F:α->Option β}{er:β->AV}{u:α}{v:β}{fid:FuncId}
/-- An operation that reads. -/
theorem RunDG.q {o:Oper}{x:AV}(hr:rest=o::rest') (hk:Nat.blt k T=true) (hq:isQ o.op=true) (hw:BO ops (Fr n l) o=some true) (hd:o.dst=some d) (h:Dx E.P (opA E (Fr n l)) hp o.op=some x) (hl:Sy n0 (opA E (Fr n l)) o.op=true) (kk:RunDG E cx ops T n0 (k + 1) rest' n ((d,x)::l) ((d,x)::lg) hp K):RunDG E cx ops T n0 k rest n l lg hp K:=by
 subst hr
 intro ro base Q w0 Z Zg R0 h0 a w R hro hy hh0 hn0 sr sg hz hgr st hpre hops q
 refine ⟨fun _=>hgr,?_⟩
 rw [if_pos (wantedA_eq sr hw),O7 hops hk hq,if_neg (by simp)]
 have hρ:∀ o x,opA E (Fr n l) o=some x->VR w Z R x (a.eval o):=fun o x e=>opA_vr sr o x e
 obtain ⟨u,hu,hrun⟩:=evOpQ_sound sr.hh hρ h
 have hquiet:∃ u,VR w Z R x u/\QuietAt E.P (Cf (fun w'=>w0.grownBy w' none) o) o u a:=by
  cases hl':L9 o.op with
  | false=>exact ⟨u,hu,fun w' _=>hrun w' fun h=>by rw [hl'] at h; cases h⟩
  | true =>
   obtain ⟨u1,hu1,hq1⟩:=Em hh0 sr hgr st hpre hl' (by rw [<-hn0]; exact hl) h
   exact ⟨u1,hu1,hq1.up (H6 hl')⟩
 obtain ⟨u,hu,hquiet⟩:=hquiet
 refine ⟨u,hquiet,?_⟩
 have sr':=sr.put (d:=o.dst) hu
 have sg':=sg.put (d:=o.dst) (hu.mono (fun _ _=>rfl) hz (fun _ _ h=>h))
 rw [hd,show Ip (⟨Fr n l,hp⟩:St).fr (some d) x=Fr n ((d,x)::l) from CZ n l d _] at sr'
 rw [hd,show Ip (⟨Fr n lg,hp⟩:St).fr (some d) x=Fr n ((d,x)::lg) from CZ n lg d _] at sg'
 rw [hd]
 exact kk ro base Q w0 Z Zg R0 h0 _ w R hro hy hh0 hn0 sr' sg' hz hgr st hpre (OO hops) q
end
theorem kr.{u}{α:Sort u}{a b:α}(h:a=b:=by kernel_rfl):a=b:=h
/-- The slots of a frame that are told. -/
def slG:Nat->List (Option AV)->List (Nat×AV)
 | _,[]=>[]
 | i,some x::r=>(i,x)::slG (i + 1) r
 | i,none::r=>slG (i + 1) r
theorem Qh:∀ (fr:List (Option AV)) (i t:Nat) (x:AV),lk (slG i fr) t=some x->∃ j,t=i + j/\fr[j]? = some (some x)
 | [],_,_,_,h=>by cases h
 | some y::r,i,t,x,h=>by
  rw [slG,F7] at h
  split at h
  ·next e=>injection h with h; subst e h; exact ⟨0,rfl,rfl⟩
  ·obtain ⟨j,h1,h2⟩:=Qh r (i + 1) t x h
   exact ⟨j + 1,by omega,by simpa using h2⟩
 | none::r,i,t,x,h=>by
  obtain ⟨j,h1,h2⟩:=Qh r (i + 1) t x h
  exact ⟨j + 1,by omega,by simpa using h2⟩
def frO (o:Option St):List (Nat×AV):=match o with
 | some s=>slG 0 s.fr
 | none=>[]
def US (o:Option St):Option (Nat×Hp):=match o with
 | some s=>some (s.fr.length,s.hp)
 | none=>none
section
variable {E:Env}{cx:Cx}{ops:Array Oper}{rest:List Oper}{K:St->Prop}{n n0 k0 m:Nat}{l l':List (Nat×AV)}{hp hp':Hp}{Q:Ex->St->Prop}{id:Nat}{c:Code}
theorem Mq {o:Option St}(h:US o=some (n,hp)):∃ fr,o=some ⟨fr,hp⟩/\fr.length=n/\frO o=slG 0 fr:=by
 unfold US at h
 split at h
 ·next s =>
  injection h with h
  injection h with h1 h2
  subst h2
  exact ⟨s.fr,rfl,h1,rfl⟩
 ·cases h
theorem SR.comp {base:Bs}{w:World}{Z:Nat->Prop}{R:List RI}{a:Act}{fr:List (Option AV)}(sr:SR E base w Z R ⟨fr,hp⟩ a) (hl:fr.length=n):SR E base w Z R ⟨Fr n (slG 0 fr),hp⟩ a:=by
 refine ⟨sr.hh,⟨?_,fun t x hx=>sr.fr.2 t x ?_⟩,sr.mks,sr.gl,sr.bs⟩
 ·rw [Da,<-hl]; exact sr.fr.1
 ·rw [DW] at hx
  split at hx
  ·injection hx with hx
   obtain ⟨j,h1,h2⟩:=Qh fr 0 t x hx
   rw [Nat.zero_add] at h1
   subst h1
   exact h2
  ·cases hx
/-- Some operations: the state behind them is computed. -/
theorem Gf (hE:EnvOk E) (m:Nat) (k:RunL E cx ops (rest.drop m) ⟨Fr n (frO (Ed E (evC E 0) ⟨none,false⟩ ops (rest.take m) ⟨Fr n l,hp⟩)),hp⟩ K) (h:US (Ed E (evC E 0) ⟨none,false⟩ ops (rest.take m) ⟨Fr n l,hp⟩)=some (n,hp):=by kernel_rfl):RunL E cx ops rest ⟨Fr n l,hp⟩ K:=by
 obtain ⟨fr,h1,h2,h3⟩:=Mq h
 rw [h3] at k
 refine Ol hE m h1 ?_
 exact fun ro base Q a w Z R hro sr hy q=>k ro base Q a w Z R hro (sr.comp h2) hy q
theorem U2 (hE:EnvOk E) (m:Nat) (k:RunS E ops (rest.drop m) ⟨Fr n (frO (Ed E (evC E 0) ⟨none,false⟩ ops (rest.take m) ⟨Fr n l,hp⟩)),hp⟩ K) (h:US (Ed E (evC E 0) ⟨none,false⟩ ops (rest.take m) ⟨Fr n l,hp⟩)=some (n,hp):=by kernel_rfl):RunS E ops rest ⟨Fr n l,hp⟩ K:=by
 obtain ⟨fr,h1,h2,h3⟩:=Mq h
 rw [h3] at k
 refine Om hE m h1 ?_
 exact fun base Q a w Z R sr q=>k base Q a w Z R (sr.comp h2) q
theorem U4 (hE:EnvOk E) (m:Nat) (hp':Hp) (k:RunY E cx ops (rest.drop m) ⟨Fr n (frO (Ed E (evC E 0) ⟨none,false⟩ ops (rest.take m) ⟨Fr n l,hp⟩)),hp'⟩ K) (h:US (Ed E (evC E 0) ⟨none,false⟩ ops (rest.take m) ⟨Fr n l,hp⟩)=some (n,hp'):=by kernel_rfl):RunY E cx ops rest ⟨Fr n l,hp⟩ K:=by
 obtain ⟨fr,h1,h2,h3⟩:=Mq h
 rw [h3] at k
 refine On hE m h1 ?_
 exact fun ro base Q a w Z R hro sr hy q=>k ro base Q a w Z R hro (sr.comp h2) hy q
/-- All that are left. -/
theorem GE (hE:EnvOk E) (l':List (Nat×AV)) (k:K ⟨Fr n l',hp⟩) (h:Mp (Ed E (evC E 0) ⟨none,false⟩ ops rest ⟨Fr n l,hp⟩) l'=some (n,xs2 l',hp):=by kernel_rfl):RunL E cx ops rest ⟨Fr n l,hp⟩ K :=
 AG hE rest.length l' hp (by rw [List.take_length]; exact h) (AH (by simp) k)
theorem Ak (hE:EnvOk E){s:St}(h:Mp (Ed E (evC E 0) ⟨none,false⟩ ops rest s) l'=some (n,xs2 l',hp):=by kernel_rfl):RunS E ops rest s fun s'=>Wk E s' ⟨Fr n l',hp⟩ :=
 AC hE rest.length l' hp (by rw [List.take_length]; exact h) (AE (by simp) Wk.refl)
theorem SU (hE:EnvOk E) (l':List (Nat×AV)) (k:Q .normal ⟨Fr n l',hp⟩) (h:Mp (Ed E (evC E 0) ⟨none,false⟩ ops ops.toList ⟨Fr n l,hp⟩) l'=some (n,xs2 l',hp):=by kernel_rfl):SemY E cx (.region id ops false) ⟨Fr n l,hp⟩ Q :=
 SemY.regionL (GE hE l' k h)
theorem Dr (hE:EnvOk E) (l':List (Nat×AV)) (k:SemY E cx c ⟨Fr n l',hp⟩ Q) (h:Mp (Ed E (evC E 0) ⟨none,false⟩ ops ops.toList ⟨Fr n l,hp⟩) l'=some (n,xs2 l',hp):=by kernel_rfl):SemY E cx (.seq (.region id ops false) c) ⟨Fr n l,hp⟩ Q :=
 Aw (SU hE l' k h)
theorem DH (hE:EnvOk E) (l':List (Nat×AV)) (hp':Hp) (k:Q .normal ⟨Fr n l',hp'⟩) (h:Mp (Ed E (evC E 0) ⟨none,false⟩ ops ops.toList ⟨Fr n l,hp⟩) l'=some (n,xs2 l',hp'):=by kernel_rfl):Sem E cx (.region id ops false) ⟨Fr n l,hp⟩ Q :=
 AI (Ak hE h) k
theorem AT (hE:EnvOk E) (l':List (Nat×AV)) (hp':Hp) (k:Sem E cx c ⟨Fr n l',hp'⟩ Q) (h:Mp (Ed E (evC E 0) ⟨none,false⟩ ops ops.toList ⟨Fr n l,hp⟩) l'=some (n,xs2 l',hp'):=by kernel_rfl):Sem E cx (.seq (.region id ops false) c) ⟨Fr n l,hp⟩ Q :=
 AF (DH hE l' hp' k h)
end
section
variable {E:Env}{cx:Cx}{ops:Array Oper}{rest:List Oper}{K:St->Prop}{PK:Int->St->Prop}{n:Nat}{l:List (Nat×AV)}{hp:Hp}
theorem Q1 (hT:E.P=E0.P){d:Nat}{x:Operand}{t1 t2:TypeId}{p1 p2:String}{a1 a2:Array Edge}{e:Int}(hr:rest=[⟨some d,.makeInterface 81 x,t1,p1,a1,none⟩,⟨none,.panic (.tmp d),t2,p2,a2,none⟩]) (hd:d < n) (hl:lk l d=none) (hx:opA E (Fr n l) x=some (.ag [.v (.int .i64 e)])) (kk:PK e ⟨Fr n l,hp⟩):RunX E cx ops rest ⟨Fr n l,hp⟩ K PK:=by
 subst hr
 intro ro base Q a w Z R hro sr hy k p
 have hv:=opA_vr sr x _ hx
 have hva:a.eval x = .agg #[.int .i64 e]:=by
  generalize a.eval x=u at hv
  cases hv with
  | ag h1 h2 h3 =>
   rename_i us
   match us,h1 with
   | [u],_ =>
    have:=(h3 0 _ u rfl rfl).v_inv
    rw [this]
 have hcon:E.P.concrete 81=true:=by rw [hT]; kernel_rfl
 unfold wpListIn
 rw [if_pos (by simp [Region.wanted])]
 have h1:(execOp a.eval ⟨some d,.makeInterface 81 x,t1,p1,a1,none⟩).run E.P w = .ok (.value (Hq e)) w:=by
  simp [execOp,hva,run_makeInterface _ _ _ hcon,Hq,Result.andThen]
 refine ⟨fun _ _=>trivial,?_⟩
 rw [show (Fw ro).round=ro from rfl,semAt_run ro h1 (by simp)]
 show wpListIn (Fw ro) 0 E.P ops Q [⟨none,.panic (.tmp d),t2,p2,a2,none⟩] (a.put (some d) (Hq e)) w
 unfold wpListIn
 rw [if_pos (by simp [Region.wanted])]
 have hsz:d < a.tmps.size:=by have:=sr.fr.1; rw [Da] at this; omega
 have he:(a.put (some d) (Hq e)).eval (.tmp d)=Hq e:=by
  simp [Act.eval,Act.put,hsz]
 have h2:(execOp (a.put (some d) (Hq e)).eval ⟨none,.panic (.tmp d),t2,p2,a2,none⟩).run E.P w = .halt (.panic (Hq e)) w:=by
  simp only [execOp,he]
  rfl
 refine ⟨fun _ _=>trivial,?_⟩
 have h3:((⟨none,.panic (.tmp d),t2,p2,a2,none⟩:Oper).semAt (Fw ro).round (a.put (some d) (Hq e)).eval).run E.P w = .halt (.panic (Hq e)) w:=by
  rw [<-h2]
  cases ro <;> rfl
 rw [h3]
 exact p e ⟨Fr n l,hp⟩ _ w Z R kk (sr.hide hl) (Step.refl _ _ _ _)
end
/- trestle/court.must -/
noncomputable def MS:Code:=Bc Tryz.f34
def BK (x0:Bool) (x1:Int):Option (Unit ⊕ Int):=if x0=true then some (.inl ()) else some (.inr x1)
def JO:Cs (Bool×Int×Unit):=csC cdB (csC cdI csN)
def JR (_:Unit):AV:= .tp []
def Nd:List AV->Option (AV ⊕ Int):=LX JO (fun a=>BK a.1 a.2.1) JR
theorem At:Rz 34 Nd:=by
 refine IP Tryz.func34 (c:=MS) ?h2 ⟨Tryz.call34⟩ JO (fun a=>BK a.1 a.2.1) JR (fun a=>(by show 2<=9; decide)) (fun _=>rfl) fun a r h=>?_
 case h2=>kernel_rfl
 obtain ⟨b,e,⟨⟩⟩:=a
 refine HB (s1:=⟨Fr 9 [(0,.v (.bool b)),(1,.v (.int .i64 e))],[]⟩) (NF kr) ?_
 refine SemX.seq (SemX.regionL (GE AD [(0,.v (.bool b)),(1,.v (.int .i64 e)),(5,.v (.bool (!b)))] ?_))
 have h':(if b=true then (some (.inl ()):Option (Unit ⊕ Int)) else some (.inr e))=some r:=h
 refine SemX.cond (b:=!b) kr (fun hb=>?_) (fun hb=>?_)
 ·have hb':b=false:=by cases b <;> simp at hb ⊢
  subst hb'
  obtain rfl:(.inr e:Unit ⊕ Int)=r:=OI h'
  refine Aq (RunX.pre 2 ?_)
  refine AG (n:=9) AD 2 [(0,.v (.bool false)),(1,.v (.int .i64 e)),(7,.ag [.v (.int .i64 e)])] [] kr ?_
  refine AH rfl ?_
  exact Q1 rfl rfl (by decide) kr kr rfl
 ·have hb':b=true:=by cases b <;> simp at hb ⊢
  subst hb'
  obtain rfl:(.inl ():Unit ⊕ Int)=r:=OI h'
  exact SemX.skip ⟨(),rfl,.inl rfl,[],kr,rfl⟩
/-- Where a panic leaves two cells and a number. -/
def pqP (N:Nat) (t1 t2:TypeId) (L:List Asn) (p2 p4:AV){β:Type}(r:β ⊕ (Int×Int)) (e:Int) (s:St):Prop :=
 ∃ (n m:Int) (x:AV) (xs:List AJ) (hp:Hp),r = .inr (e,n)/\WkY E0 s ⟨Fr N [(2,p2),(3,.v (.int .i64 n)),(4,p4)],hp⟩/\T hp (cel p2 1 t1 x::own_ (ocL 5 66 (ocV AA)) x xs::cel p4 1 t2 (.v (.int .i64 m))::L)
def OT {α β:Type}(x:Option (α ⊕ Int)) (n:Int) (k:α->Option (β ⊕ (Int×Int))):Option (β ⊕ (Int×Int)):=x.bind fun r=>match r with
 | .inl v=>k v
 | .inr e=>some (.inr (e,n))
theorem Ic {α β:Type}{x:Option (α ⊕ Int)}{n:Int}{k:α->Option (β ⊕ (Int×Int))}{r:β ⊕ (Int×Int)}(h:OT x n k=some r):(∃ v,x=some (.inl v)/\k v=some r)\/∃ e,x=some (.inr e)/\r = .inr (e,n):=by
 obtain ⟨y,hy,h⟩:=OB h
 cases y with
 | inl v=>exact .inl ⟨v,hy,h⟩
 | inr e=>exact .inr ⟨e,hy,(OI h).symm⟩
def VG {α β:Type}(x:Option (α ⊕ (Int×Int))) (k:α->Option (β ⊕ (Int×Int))):Option (β ⊕ (Int×Int)):=x.bind fun r=>match r with
 | .inl v=>k v
 | .inr e=>some (.inr e)
section
variable {β γ:Type}{E:Env}{cx:Cx}{c:Code}{s:St}{n N:Nat}{t1 t2:TypeId}{L:List Asn}{p2 p4:AV}{PQ:Int->St->Prop}
theorem PE {r:β}{P:β->Ex->St->Prop}(h:SemXN E cx c n s (fun e s=>∃ q,(Sum.inl r:β ⊕ (Int×Int)) = .inl q/\P q e s) (pqP N t1 t2 L p2 p4 (Sum.inl r:β ⊕ (Int×Int)))):SemXN E cx c n s (P r) PQ :=
 SemXN.mono h (fun _ _ ⟨_,h1,h2⟩=>Sum.inl.inj h1 ▸ h2) fun _ _ ⟨_,_,_,_,_,h,_⟩=>nomatch h
theorem PF {Q:Ex->St->Prop}{r:γ ⊕ (Int×Int)}{e0:Int×Int}{P:β->Ex->St->Prop}(h:SemXN E cx c n s (fun e s=>∃ q,(Sum.inr e0:β ⊕ (Int×Int)) = .inl q/\P q e s) (pqP N t1 t2 L p2 p4 (Sum.inr e0:β ⊕ (Int×Int)))) (hr:r = .inr e0):SemXN E cx c n s Q (pqP N t1 t2 L p2 p4 r) :=
 SemXN.mono h (fun _ _ ⟨_,h1,_⟩=>nomatch h1) fun _ _ ⟨n,m,x,xs,hp,h,k⟩=>⟨n,m,x,xs,hp,hr.trans (congrArg Sum.inr (Sum.inr.inj h)),k⟩
end
/-- The first n blocks are given up. -/
def PU:Nat->Hp->Hp
 | 0,h=>h
 | n + 1,h=>(PU n h).set n none
theorem O1 {w:World}{Z:Nat->Prop}{R:List RI}{h:Hp}(hh:HR w Z R h):∀ n,HR w Z R (PU n h)
 | 0=>hh
 | n + 1=>((O1 hh n).kill n).1
theorem NV {h:Hp}:∀ {n b:Nat}{B:Blk},(PU n h)[b]? = some (some B)->n<=b/\h[b]? = some (some B)
 | 0,b,B,e=>⟨Nat.zero_le _,e⟩
 | n + 1,b,B,e=>by
  unfold PU at e
  rw [List.getElem?_set] at e
  split at e
  ·split at e <;> cases e
  ·next hne =>
   obtain ⟨h1,h2⟩:=NV e
   exact ⟨by omega,h2⟩
def RunDX (E:Env) (ops:Array Oper) (T:Nat) (n0 k:Nat) (rest:List Oper) (s:St) (K:St->Prop):Prop :=
 ∀ (base:Bs) (Q:Act->World->Prop) (w0:World) (Z:Nat->Prop) (R0:List RI) (h0:Hp) (a:Act) (w:World) (R:List RI),HR w0 Z R0 h0->n0=h0.length->SR E base w Z R s a->w0.grownBy w none->Step w0 Z R0 h0 w Z R s.hp->(∀ (b:Nat) (B:Option Blk),h0[b]? = some B->s.hp[b]? = some B)->(∀ j,rest[j]? = ops[k + j]?) ->
  (∀ s' a' w' Z' R',K s'->SR E base w' Z' R' s' a'->StepW w0 Z R0 h0 w' Z' R' s'.hp->Q a' w')->FE E.P ops (fun w'=>w0.grownBy w' none) (CY ops T) T Q k rest a w
section
variable {E:Env}{cx:Cx}{ops:Array Oper}{pre rest rest':List Oper}{s s1:St}{K:St->Prop}{n n0 k T:Nat}{l:List (Nat×AV)}{hp hp':Hp}{Q:Ex->St->Prop}{id:Nat}{fid:FuncId}
theorem RunDX.done (hr:rest=[]) (kk:K s):RunDX E ops T n0 k rest s K:=by
 subst hr
 exact fun base Q w0 Z R0 h0 a w R _ _ sr hgr st _ _ q=>⟨fun _=>hgr,q s a w Z R kk sr st.w⟩
theorem TO (hT:T=k) (h:RunS E ops rest s K):RunDX E ops T n0 k rest s K:=by
 subst hT
 intro base Q w0 Z R0 h0 a w R _ _ sr hgr st _ hops q
 exact IE (h base Q a w Z R sr fun s' a' w' Z' R' hK sr' st'=>q s' a' w' Z' R' hK sr' (st.w.trans st')) (Nat.le_refl _) (fun _=>hgr) (fun j hj=>IZ hj) hops
theorem Gq (hE:EnvOk E):∀ {pre:List Oper}{s:St}{k:Nat},(pre.all fun o=>!isW o.op)=true->k + pre.length<=T->opsD E (evC E 0) ⟨none,false⟩ ops n0 pre s=some s1->RunDX E ops T n0 (k + pre.length) rest s1 K->RunDX E ops T n0 k (pre++rest) s K
 | [],s,k,_,_,e,kk=>by injection e with e; subst e; exact kk
 | o::pre,s,k,hp,hT,e,kk=>by
  intro base Q w0 Z R0 h0 a w R hh0 hn0 sr hgr st hpre hops q
  simp only [List.all_cons,Bool.and_eq_true,Bool.not_eq_true'] at hp
  obtain ⟨hW,hp⟩:=hp
  have hok:ops[k]? = some o:=by have:=hops 0; simpa using this.symm
  have hops':∀ j,(pre++rest)[j]? = ops[k + 1 + j]?:=fun j=>by have:=hops (j + 1); simpa [Nat.add_assoc,Nat.add_comm 1 j] using this
  have hk1:k + 1 + pre.length=k + (o::pre).length:=by simp; omega
  have kk':RunDX E ops T n0 (k + 1 + pre.length) rest s1 K:=by rw [hk1]; exact kk
  have hT':k + 1 + pre.length<=T:=by rw [hk1]; exact hT
  have hkT:¬ T<=k:=by omega
  show FE E.P ops _ _ _ Q k (o::(pre++rest)) a w
  refine ⟨fun _=>hgr,?_⟩
  unfold opsD at e
  rw [if_neg (by rw [hW]; simp)] at e
  split at e
  ·cases e
  ·next hw =>
   rw [if_neg (by rw [wantedA_eq sr hw]; simp)]
   exact Gq hE hp hT' e kk' base Q w0 Z R0 h0 _ w R hh0 hn0 (sr.put undef_vr) hgr st hpre hops' q
  ·next hw =>
   rw [if_pos (wantedA_eq sr hw)]
   have hρ:∀ o x,opA E s.fr o=some x->VR w Z R x (a.eval o):=fun o x e=>opA_vr sr o x e
   split at e
   ·next x hx =>
    split at e
    ·next hld =>
     have hq:=LC hx
     rw [if_neg (by rw [ID hok hq hkT]; simp)]
     obtain ⟨u,hu,hrun⟩:=evOpQ_sound sr.hh hρ hx
     have hquiet:∃ u,VR w Z R x u/\QuietAt E.P (Cf (fun w'=>w0.grownBy w' none) o) o u a:=by
      cases hl:L9 o.op with
      | false=>exact ⟨u,hu,fun w' _=>hrun w' fun h=>by rw [hl] at h; cases h⟩
      | true =>
       obtain ⟨u1,hu1,hq1⟩:=Em hh0 sr hgr st hpre hl (by rw [<-hn0]; exact hld) hx
       exact ⟨u1,hu1,hq1.up (H6 hl)⟩
     obtain ⟨u,hu,hquiet⟩:=hquiet
     exact ⟨u,hquiet,Gq hE hp hT' e kk' base Q w0 Z R0 h0 _ w R hh0 hn0 (sr.put hu) hgr st hpre hops' q⟩
    ·cases e
   ·split at e
    ·next x h' hx =>
     have hq:=HS hx
     rw [if_pos (Dv hok hq)]
     obtain ⟨u,w',R',h1,h2,h3,h4,h5⟩:=evOpN_sound hρ sr.hh hx
     exact JX h1 (Gq hE hp hT' e kk' base Q w0 Z R0 h0 _ w' R' hh0 hn0 ((sr.step h2 h4).put h3) (DU hgr h5) (st.trans h4) (fun b B hb=>H5 hx (hpre b B hb)) hops' q)
    ·split at e
     ·next f args tys ho =>
      split at e
      ·next fv xs hf hxs =>
       split at e
       ·next r hr =>
        obtain ⟨x,h'⟩:=r
        have hq:isQ o.op=false:=by rw [ho]; rfl
        rw [if_pos (Dv hok hq)]
        obtain ⟨g,uf,uc,hva,hcl,hret⟩:=Dz hE (code_sound hE 0).1 (hρ _ _ hf) (opds_vr hρ hxs) sr.hh sr.gl hr
        unfold Lw
        rw [Do (uf:=uf) (uc:=uc) ho hva rfl hcl w]
        refine Ret.mono hret fun v w' hS=>?_
        obtain ⟨hg1,R',k1,k2,k3⟩:=hS
        exact Gq hE hp hT' e kk' base Q w0 Z R0 h0 _ w' R' hh0 hn0 ((sr.step k1 k3).put k2) (DU hgr hg1) (st.trans k3) (fun b B hb=>Hx hr (hpre b B hb)) hops' q
       ·cases e
      ·cases e
     ·cases e
theorem TN (hE:EnvOk E) (m:Nat){s:St}(l:List (Nat×AV)) (hp:Hp) (hw:(((rest.take m).all fun o=>!isW o.op)&&Nat.ble (k + (rest.take m).length) T)=true) (h:Mp (opsD E (evC E 0) ⟨none,false⟩ ops n0 (rest.take m) s) l=some (n,xs2 l,hp)) (kk:RunDX E ops T n0 (k + (rest.take m).length) (rest.drop m) ⟨Fr n l,hp⟩ K):RunDX E ops T n0 k rest s K:=by
 obtain ⟨fr,h1,h2,h3⟩:=Es h
 rw [Bool.and_eq_true] at hw
 have:=Gq (k:=k) (T:=T) (pre:=rest.take m) (rest:=rest.drop m) hE hw.1 (Nat.le_of_ble_eq_true hw.2) h1 (fun base Q w0 Z R0 h0 a w R a1 a2 sr a5 a6 a7 a8 q=>kk base Q w0 Z R0 h0 a w R a1 a2 (sr.forget h2 h3) a5 a6 a7 a8 q)
 rwa [List.take_append_drop] at this
theorem RunDX.one (hE:EnvOk E){s s1:St}{o:Oper}(hr:rest=o::rest') (hW:(!isW o.op&&Nat.blt k T)=true) (h:opsD E (evC E 0) ⟨none,false⟩ ops n0 [o] s=some s1) (kk:RunDX E ops T n0 (k + 1) rest' s1 K):RunDX E ops T n0 k rest s K:=by
 subst hr
 rw [Bool.and_eq_true] at hW
 exact Gq (k:=k) hE (pre:=[o]) (by simpa using hW.1) (by have:=Nat.le_of_ble_eq_true hW.2; simpa using this) h kk
/-- An append to a block that was made in this region. -/
theorem RunDX.append (_hE:EnvOk E){o:Oper}{x:AV}{d:Nat}{hM:Hp}(hr:rest=o::rest') (hw:BO ops (Fr n l) o=some true) (hd:o.dst=some d) (hq:isQ o.op=false) (h:KX E.P (opA E (Fr n l)) hp o.op=some (x,hp')) (hm:KX E.P (opA E (Fr n l)) (PU n0 hp) o.op=some (x,hM)) (hpr:hp'.take n0=hp.take n0) (kk:RunDX E ops T n0 (k + 1) rest' ⟨Fr n ((d,x)::l),hp'⟩ K):RunDX E ops T n0 k rest ⟨Fr n l,hp⟩ K:=by
 subst hr
 intro base Q w0 Z R0 h0 a w R hh0 hn0 sr hgr st hpre hops q
 have hok':ops[k]? = some o:=by have:=hops 0; simpa using this.symm
 have hops':∀ j,rest'[j]? = ops[k + 1 + j]?:=fun j=>by have:=hops (j + 1); simpa [Nat.add_assoc,Nat.add_comm 1 j] using this
 refine ⟨fun _=>hgr,?_⟩
 rw [if_pos (wantedA_eq sr hw),if_pos (Dv hok' hq)]
 have hρ:∀ o x,opA E (Fr n l) o=some x->VR w Z R x (a.eval o):=fun o x e=>opA_vr sr o x e
 obtain ⟨u,w',R',h1,h2,h3,h4⟩:=evOpW_sound (o:=o) hρ sr.hh h
 obtain ⟨u2,w2,R2,g1,g2,g3,g4⟩:=evOpW_sound (o:=o) hρ (O1 sr.hh n0) hm
 rw [h1] at g1
 injection g1 with _ e2
 subst e2
 -- the blocks of before stay
 have hown:∀ c,own R (PU n0 hp) c->w0.heap.size<=c:=fun c ⟨b,B,r,k1,k2,k3,k4⟩=>by
  obtain ⟨hb,k1⟩:=NV k1
  rcases st.own_ c ⟨b,B,r,k1,k2,k3,k4⟩ with ⟨b0,B0,r0,q1,q2,q3,q4⟩ | h
  ·have hlt:b0 < h0.length:=(List.getElem?_eq_some_iff.1 q1).1
   have:=sr.hh.inj b b0 B B0 r r0 k1 k2 (hpre b0 _ q1) q2 k3 (st.r b0 r0 q3) (by rw [k4,q4])
   omega
  ·exact h
 have hgr2:w0.grownBy w' none:=⟨g4.os.trans hgr.os,g4.tape.trans hgr.tape,g4.output.trans hgr.output,Nat.le_trans hgr.size g4.size,fun c hc _=>by
  rw [g4.block c (Nat.lt_of_lt_of_le hc hgr.size) fun ho=>by have:=hown c ho; omega]
  exact hgr.block c hc (by simp)⟩
 refine JX h1 ?_
 have sr':=(sr.step h2 h4).put (d:=o.dst) h3
 rw [hd,show Ip (⟨Fr n l,hp⟩:St).fr (some d) x=Fr n ((d,x)::l) from CZ n l d _] at sr'
 rw [hd]
 exact kk base Q w0 Z R0 h0 _ w' R' hh0 hn0 sr' hgr2 (st.trans h4) (fun b B hb=>by
  have hlt:b < n0:=by rw [hn0]; exact (List.getElem?_eq_some_iff.1 hb).1
  have e:=congrArg (fun l=>l[b]?) hpr
  simp only [List.getElem?_take,hlt,if_true] at e
  show hp'[b]? = _
  rw [e]; exact hpre b B hb) hops' q
end
section
variable {P:Program}{ops:Array Oper}{C:World->Prop}{Q:Act->World->Prop}{loud:Nat->Bool}{T:Nat}
/-- What a quiet operation yields may come ahead of a loud one. -/
theorem QQ {n i j fuel:Nat}{oi oj:Oper}{v:Value}{listed:Array Bool}{a:Act}{w:World}(ht:Ih ops loud T n) (hi:ops[i]? = some oi) (hoj:ops[j]? = some oj) (hsel:∀ (j:Nat) (o:Oper) cs b,ops[j]? = some o->o.op≠ .select cs b) (hcl:Closed ops listed) (hsz:listed.size=ops.size)
  (ap1:∀ d,oi.dst=some d->d ∉ oj.looksAt ops) (ap2:∀ d,oi.dst=some d->oj.dst≠some d) (ap3:∀ d,oj.dst=some d->d ∉ oi.looksAt ops) (hr:i ∈ Region.ready .any ops listed) (hj:j ∈ Region.ready .any ops listed) (hji:j≠i) (hlj:loud j=false) (hya:YieldsM P ops C oj v a)
  (H:mOp P ops C loud i (wpM P ops C loud T Q (fuel + 1) (listed.setIfInBounds i true)) a w):mOp P ops C loud i (wpM P ops C loud T Q fuel ((listed.setIfInBounds j true).setIfInBounds i true)) (a.put oj.dst v) w:=by
 have ap2':∀ d,oj.dst=some d->oi.dst≠some d:=fun d hd hd'=>ap2 d hd' hd
 rw [OL hi ap3 ap2' (fun cs b=>hsel i oi cs b hi)]
 have hG:∀ u,YieldsM P ops C oj v (a.put oi.dst u):=fun u=>hya.same (execOp_put oj (fun cs b=>hsel j oj cs b hoj) a oi.dst u ap1) (wanted_put oj a oi.dst u ap1)
 have hr2:=ready_mono (md:= .any) (ops:=ops) hj hji
 refine HU (fun a' w'' h2=>?_) (OK hi hG H)
 obtain ⟨v',hy',h3⟩:=C0 hoj hlj (h2.2.2.2 j hr2)
 rw [Ii (Sb ht (hcl.set hr) (by simpa using hsz) hoj hlj (mem_ready.1 hr2).1 h2.2.c) h2.1 hy',Array.setIfInBounds_comm _ _ hji]
 exact h3
/-- As wpM_lex, from an operation on behind which the loud ones stand in one order. -/
theorem M5 (hs:Region.noSelect ops=true){n k0:Nat}(hsp:∀ k j,k0<=k->k < ops.size->j < ops.size->loud k=true->loud j=true->k < j->G9 ops n j k=true) (htl:Ih ops loud T n) (hTl:T < ops.size->loud T=true):∀ (l:List Oper) (k:Nat) (listed:Array Bool) (a:Act) (w:World),k0<=k->k + l.length=ops.size->(∀ j,l[j]? = ops[k + j]?) ->
  Region.lexFrom .any ops l.length k listed=true->Closed ops listed->listed.size=ops.size->(∀ j,j < k->listed.getD j true=true)->FE P ops C loud T Q k l a w->wpM P ops C loud T Q l.length listed a w
 | [],k,listed,a,w,_,hkl,_,hB,_,_,hlt,h=>by
  refine ⟨fun hn=>h.1 ?_,by simpa [Region.lexFrom] using hB,h.2⟩
  rcases Nat.lt_or_ge T k with h1 | h1
  ·exfalso
   have hTs:T < ops.size:=by simp at hkl; omega
   have h2:=hn T (Nat.le_refl _) hTs (hTl hTs)
   rw [hlt T h1] at h2
   cases h2
  ·exact h1
 | o::l,k,listed,a,w,hk0,hkl,hl,hB,hcl,hsz,hlt,h=>by
  have h0:ops[k]? = some o:=by simpa using (hl 0).symm
  have hk:k < ops.size:=(Array.getElem?_eq_some_iff.1 h0).1
  simp only [List.length_cons,Region.lexFrom,Bool.and_eq_true] at hB
  obtain ⟨⟨hr,hf⟩,hB'⟩:=hB
  have hr':k ∈ Region.ready .any ops listed:=by simpa using hr
  have rec_:∀ a w,FE P ops C loud T Q (k + 1) l a w->wpM P ops C loud T Q l.length (listed.setIfInBounds k true) a w:=fun a w hh =>
   M5 hs hsp htl hTl l (k + 1) _ a w (by omega) (by simp at hkl; omega) (fun j=>by have:=hl (j + 1); simpa [Nat.add_assoc,Nat.add_comm 1 j] using this) hB' (hcl.set hr') (by simpa using hsz) (fun j hj=>by
    by_cases hjk:k=j
    ·subst hjk
     have hlt':k < listed.size:=by omega
     simp [hlt']
    ·rw [getD_set_ne true hjk]; exact hlt j (by omega)) hh
  obtain ⟨hC,hh⟩:=h
  have hle:Ok ops loud T listed->k<=T:=fun hn=>by
   rcases Nat.lt_or_ge T k with h1 | h1
   ·exfalso
    have h2:=hn T (Nat.le_refl _) (by omega) (hTl (by omega))
    rw [hlt T h1] at h2
    cases h2
   ·exact h1
  have hst:mOp P ops C loud k (FE P ops C loud T Q (k + 1) l) a w:=by
   unfold mOp
   rw [h0]
   exact hh
  cases hlk:loud k with
  | false =>
   obtain ⟨v,hy,hK⟩:=C0 h0 hlk hst
   exact HA h0 hlk (Region.noSelect_spec hs) l.length listed a w (fun hn=>hC (hle hn)) hcl hsz (Region.free_spec h0 hf) hr' hy (rec_ _ _ hK)
  | true =>
   refine PD (n:=n) htl h0 (Region.noSelect_spec hs) l.length listed a w (fun j hj hjk hlj hun=>?_) hcl hsz (fun hn=>hC (hle hn)) (Region.free_spec h0 hf) hr' (HU rec_ hst)
   ·have hkj:k < j:=by
     rcases Nat.lt_trichotomy k j with h1 | h1 | h1
     ·exact h1
     ·exact absurd h1.symm hjk
     ·rw [hlt j h1] at hun; cases hun
    exact hsp k j hk0 hk hj hlk hlj hkj
/-- The walk, of which p and the operation behind it are taken in both orders. -/
def Ud (P:Program) (ops:Array Oper) (C:World->Prop) (loud:Nat->Bool) (T:Nat) (Q:Act->World->Prop) (p:Nat) (rest:List Oper) (a:Act) (w:World):Prop :=
 C w/\mOp P ops C loud p (fun a w=>C w/\mOp P ops C loud (p + 1) (FE P ops C loud T Q (p + 2) rest) a w) a w/\mOp P ops C loud (p + 1) (fun a w=>C w/\mOp P ops C loud p (FE P ops C loud T Q (p + 2) rest) a w) a w
def Np (P:Program) (ops:Array Oper) (C:World->Prop) (loud:Nat->Bool) (T:Nat) (Q:Act->World->Prop) (p:Nat):Nat->List Oper->Act->World->Prop
 | _,[],_,_=>False
 | k,_::rest,a,w=>if k=p then Ud P ops C loud T Q p (rest.drop 1) a w else (k<=T->C w)/\mOp P ops C loud k (Np P ops C loud T Q p (k + 1) rest) a w
end
/-- One operation of such a region, whatever stands behind it. -/
def Op1 (E:Env) (ops:Array Oper) (T n0 k:Nat) (o:Oper) (s:St) (Ks:St->Prop):Prop :=
 ∀ (base:Bs) (K:Act->World->Prop) (w0:World) (Z:Nat->Prop) (R0:List RI) (h0:Hp) (a:Act) (w:World) (R:List RI),HR w0 Z R0 h0->n0=h0.length->SR E base w Z R s a->w0.grownBy w none->Step w0 Z R0 h0 w Z R s.hp->(∀ (b:Nat) (B:Option Blk),h0[b]? = some B->s.hp[b]? = some B)->ops[k]? = some o ->
  (∀ s' a' w' R',Ks s'->SR E base w' Z R' s' a'->w0.grownBy w' none->Step w0 Z R0 h0 w' Z R' s'.hp->(∀ (b:Nat) (B:Option Blk),h0[b]? = some B->s'.hp[b]? = some B)->K a' w')->mOp E.P ops (fun w'=>w0.grownBy w' none) (CY ops T) k K a w
def RunDP (E:Env) (ops:Array Oper) (T p n0 k:Nat) (rest:List Oper) (s:St) (K:St->Prop):Prop :=
 ∀ (base:Bs) (Q:Act->World->Prop) (w0:World) (Z:Nat->Prop) (R0:List RI) (h0:Hp) (a:Act) (w:World) (R:List RI),HR w0 Z R0 h0->n0=h0.length->SR E base w Z R s a->w0.grownBy w none->Step w0 Z R0 h0 w Z R s.hp->(∀ (b:Nat) (B:Option Blk),h0[b]? = some B->s.hp[b]? = some B)->(∀ j,rest[j]? = ops[k + j]?) ->
  (∀ s' a' w' Z' R',K s'->SR E base w' Z' R' s' a'->StepW w0 Z R0 h0 w' Z' R' s'.hp->Q a' w')->Np E.P ops (fun w'=>w0.grownBy w' none) (CY ops T) T Q p k rest a w
section
variable {E:Env}{cx:Cx}{ops:Array Oper}{pre rest rest':List Oper}{s s1:St}{K Ks:St->Prop}{n n0 k T p:Nat}{l:List (Nat×AV)}{hp hp':Hp}{Q:Ex->St->Prop}{id:Nat}{fid:FuncId}{o:Oper}
theorem QY (hW:isW o.op=false) (e:opsD E (evC E 0) ⟨none,false⟩ ops n0 (o::pre) s=some s1):∃ s2,opsD E (evC E 0) ⟨none,false⟩ ops n0 [o] s=some s2/\opsD E (evC E 0) ⟨none,false⟩ ops n0 pre s2=some s1:=by
 have hW':¬ isW o.op=true:=by rw [hW]; simp
 unfold opsD at e
 rw [if_neg hW'] at e
 split at e
 ·cases e
 ·next hw=>exact ⟨_,by unfold opsD; rw [if_neg hW']; simp only [hw]; rfl,e⟩
 ·next hw =>
  split at e
  ·next x hx =>
   split at e
   ·next hld=>exact ⟨_,by unfold opsD; rw [if_neg hW']; simp only [hw,hx,hld,if_true]; rfl,e⟩
   ·cases e
  ·next hx =>
   split at e
   ·next x h' hn=>exact ⟨_,by unfold opsD; rw [if_neg hW']; simp only [hw,hx,hn]; rfl,e⟩
   ·next hn =>
    split at e
    ·next f args tys ho =>
     split at e
     ·next fv xs hf hxs =>
      split at e
      ·next r hr=>exact ⟨_,by unfold opsD; rw [if_neg hW']; simp only [hw,hx,hn,ho,hf,hxs,hr]; rfl,e⟩
      ·cases e
     ·cases e
    ·cases e
theorem SQ (hE:EnvOk E) (hW:isW o.op=false) (hk:k < T) (e:opsD E (evC E 0) ⟨none,false⟩ ops n0 [o] s=some s1) (kk:Ks s1):Op1 E ops T n0 k o s Ks:=by
 intro base K w0 Z R0 h0 a w R hh0 hn0 sr hgr st hpre hok q
 have hkT:¬ T<=k:=by omega
 unfold mOp
 rw [hok]
 dsimp only
 unfold opsD at e
 rw [if_neg (by rw [hW]; simp)] at e
 split at e
 ·cases e
 ·next hw =>
  rw [if_neg (by rw [wantedA_eq sr hw]; simp)]
  injection e with e
  subst e
  exact q _ _ w R kk (sr.put undef_vr) hgr st hpre
 ·next hw =>
  rw [if_pos (wantedA_eq sr hw)]
  have hρ:∀ o x,opA E s.fr o=some x->VR w Z R x (a.eval o):=fun o x e=>opA_vr sr o x e
  split at e
  ·next x hx =>
   split at e
   ·next hld =>
    injection e with e
    subst e
    have hq:=LC hx
    rw [if_neg (by rw [ID hok hq hkT]; simp)]
    obtain ⟨u,hu,hrun⟩:=evOpQ_sound sr.hh hρ hx
    have hquiet:∃ u,VR w Z R x u/\QuietAt E.P (Cf (fun w'=>w0.grownBy w' none) o) o u a:=by
     cases hl:L9 o.op with
     | false=>exact ⟨u,hu,fun w' _=>hrun w' fun h=>by rw [hl] at h; cases h⟩
     | true =>
      obtain ⟨u1,hu1,hq1⟩:=Em hh0 sr hgr st hpre hl (by rw [<-hn0]; exact hld) hx
      exact ⟨u1,hu1,hq1.up (H6 hl)⟩
    obtain ⟨u,hu,hquiet⟩:=hquiet
    exact ⟨u,hquiet,q _ _ w R kk (sr.put hu) hgr st hpre⟩
   ·cases e
  ·split at e
   ·next x h' hx =>
    injection e with e
    subst e
    have hq:=HS hx
    rw [if_pos (Dv hok hq)]
    obtain ⟨u,w',R',h1,h2,h3,h4,h5⟩:=evOpN_sound hρ sr.hh hx
    exact JX h1 (q _ _ w' R' kk ((sr.step h2 h4).put h3) (DU hgr h5) (st.trans h4) fun b B hb=>H5 hx (hpre b B hb))
   ·split at e
    ·next f args tys ho =>
     split at e
     ·next fv xs hf hxs =>
      split at e
      ·next r hr =>
       injection e with e
       subst e
       obtain ⟨x,h'⟩:=r
       have hq:isQ o.op=false:=by rw [ho]; rfl
       rw [if_pos (Dv hok hq)]
       obtain ⟨g,uf,uc,hva,hcl,hret⟩:=Dz hE (code_sound hE 0).1 (hρ _ _ hf) (opds_vr hρ hxs) sr.hh sr.gl hr
       unfold Lw
       rw [Do (uf:=uf) (uc:=uc) ho hva rfl hcl w]
       refine Ret.mono hret fun v w' hS=>?_
       obtain ⟨hg1,R',k1,k2,k3⟩:=hS
       exact q _ _ w' R' kk ((sr.step k1 k3).put k2) (DU hgr hg1) (st.trans k3) fun b B hb=>Hx hr (hpre b B hb)
      ·cases e
     ·cases e
    ·cases e
theorem Uz (hE:EnvOk E){s:St}(l:List (Nat×AV)) (hp:Hp) (hW:(!isW o.op&&Nat.blt k T)=true) (h:Mp (opsD E (evC E 0) ⟨none,false⟩ ops n0 [o] s) l=some (n,xs2 l,hp)) (kk:Ks ⟨Fr n l,hp⟩):Op1 E ops T n0 k o s Ks:=by
 obtain ⟨fr,h1,h2,h3⟩:=Es h
 simp only [Bool.and_eq_true,Bool.not_eq_true'] at hW
 intro base K w0 Z R0 h0 a w R hh0 hn0 sr hgr st hpre hok q
 exact SQ (Ks:=fun s=>s=⟨fr,hp⟩) hE hW.1 (Nat.le_of_ble_eq_true hW.2) h1 rfl base K w0 Z R0 h0 a w R hh0 hn0 sr hgr st hpre hok fun s' a' w' R' hs sr' hg' st' hp'=>by
  subst hs
  exact q _ a' w' R' kk (sr'.forget h2 h3) hg' st' hp'
theorem Op1.one (hE:EnvOk E) (hW:(!isW o.op&&Nat.blt k T)=true) (h:opsD E (evC E 0) ⟨none,false⟩ ops n0 [o] s=some s1) (kk:Ks s1):Op1 E ops T n0 k o s Ks:=by
 simp only [Bool.and_eq_true,Bool.not_eq_true'] at hW
 exact SQ hE hW.1 (Nat.le_of_ble_eq_true hW.2) h kk
/-- The walk up to the two. -/
theorem Kr (hE:EnvOk E):∀ {pre:List Oper}{s:St}{k:Nat},(pre.all fun o=>!isW o.op)=true->k + pre.length<=p->p + 2<=T->opsD E (evC E 0) ⟨none,false⟩ ops n0 pre s=some s1->RunDP E ops T p n0 (k + pre.length) rest s1 K->RunDP E ops T p n0 k (pre++rest) s K
 | [],s,k,_,_,_,e,kk=>by injection e with e; subst e; exact kk
 | o::pre,s,k,hp,hT,hpT,e,kk=>by
  intro base Q w0 Z R0 h0 a w R hh0 hn0 sr hgr st hpre hops q
  simp only [List.all_cons,Bool.and_eq_true,Bool.not_eq_true'] at hp
  obtain ⟨hW,hp⟩:=hp
  obtain ⟨s2,e1,e2⟩:=QY hW e
  have hok:ops[k]? = some o:=by have:=hops 0; simpa using this.symm
  have hops':∀ j,(pre++rest)[j]? = ops[k + 1 + j]?:=fun j=>by have:=hops (j + 1); simpa [Nat.add_assoc,Nat.add_comm 1 j] using this
  have hk1:k + 1 + pre.length=k + (o::pre).length:=by simp; omega
  have kk':RunDP E ops T p n0 (k + 1 + pre.length) rest s1 K:=by rw [hk1]; exact kk
  simp only [List.length_cons] at hT
  show Np E.P ops _ _ _ Q p k (o::(pre++rest)) a w
  unfold Np
  rw [if_neg (by omega)]
  refine ⟨fun _=>hgr,?_⟩
  refine SQ (Ks:=fun s=>s=s2) hE hW (by omega) e1 rfl base _ w0 Z R0 h0 a w R hh0 hn0 sr hgr st hpre hok fun s' a' w' R' hs sr' hg' st' hp'=>?_
  subst hs
  exact Kr hE hp (by omega) hpT e2 kk' base Q w0 Z R0 h0 a' w' R' hh0 hn0 sr' hg' st' hp' hops' q
theorem TK (hE:EnvOk E) (m:Nat){s:St}(l:List (Nat×AV)) (hp:Hp) (hw:(((rest.take m).all fun o=>!isW o.op)&&Nat.ble (k + (rest.take m).length) p&&Nat.ble (p + 2) T)=true) (h:Mp (opsD E (evC E 0) ⟨none,false⟩ ops n0 (rest.take m) s) l=some (n,xs2 l,hp)) (kk:RunDP E ops T p n0 (k + (rest.take m).length) (rest.drop m) ⟨Fr n l,hp⟩ K):RunDP E ops T p n0 k rest s K:=by
 obtain ⟨fr,h1,h2,h3⟩:=Es h
 simp only [Bool.and_eq_true] at hw
 have:=Kr (k:=k) (T:=T) (p:=p) (pre:=rest.take m) (rest:=rest.drop m) hE hw.1.1 (Nat.le_of_ble_eq_true hw.1.2) (Nat.le_of_ble_eq_true hw.2) h1 (fun base Q w0 Z R0 h0 a w R a1 a2 sr a5 a6 a7 a8 q=>kk base Q w0 Z R0 h0 a w R a1 a2 (sr.forget h2 h3) a5 a6 a7 a8 q)
 rwa [List.take_append_drop] at this
theorem RunDP.one (hE:EnvOk E) (hr:rest=o::rest') (hW:(!isW o.op&&Nat.blt k p&&Nat.ble (p + 2) T)=true) (h:opsD E (evC E 0) ⟨none,false⟩ ops n0 [o] s=some s1) (kk:RunDP E ops T p n0 (k + 1) rest' s1 K):RunDP E ops T p n0 k rest s K:=by
 subst hr
 simp only [Bool.and_eq_true] at hW
 exact Kr (k:=k) hE (pre:=[o]) (by simpa using hW.1.1) (by have:=Nat.le_of_ble_eq_true hW.1.2; simpa using this) (Nat.le_of_ble_eq_true hW.2) h kk
/-- The two, in both orders. -/
theorem RunDP.two {o1 o2:Oper}(hr:rest=o1::o2::rest') (hA:Op1 E ops T n0 p o1 s fun s1=>Op1 E ops T n0 (p + 1) o2 s1 fun s2=>RunDX E ops T n0 (p + 2) rest' s2 K) (hB:Op1 E ops T n0 (p + 1) o2 s fun s1=>Op1 E ops T n0 p o1 s1 fun s2=>RunDX E ops T n0 (p + 2) rest' s2 K):RunDP E ops T p n0 p rest s K:=by
 subst hr
 intro base Q w0 Z R0 h0 a w R hh0 hn0 sr hgr st hpre hops q
 have hk1:ops[p]? = some o1:=by have:=hops 0; simpa using this.symm
 have hk2:ops[p + 1]? = some o2:=by have:=hops 1; simpa using this.symm
 have hops':∀ j,rest'[j]? = ops[p + 2 + j]?:=fun j=>by have:=hops (j + 2); rw [show p + 2 + j=p + (j + 2) by omega]; simpa using this
 unfold Np
 rw [if_pos rfl]
 refine ⟨hgr,?_,?_⟩
 ·refine hA base _ w0 Z R0 h0 a w R hh0 hn0 sr hgr st hpre hk1 fun s1 a1 w1 R1 h1 sr1 hg1 st1 hp1=>⟨hg1,?_⟩
  exact h1 base _ w0 Z R0 h0 a1 w1 R1 hh0 hn0 sr1 hg1 st1 hp1 hk2 fun s2 a2 w2 R2 h2 sr2 hg2 st2 hp2=>h2 base Q w0 Z R0 h0 a2 w2 R2 hh0 hn0 sr2 hg2 st2 hp2 hops' q
 ·refine hB base _ w0 Z R0 h0 a w R hh0 hn0 sr hgr st hpre hk2 fun s1 a1 w1 R1 h1 sr1 hg1 st1 hp1=>⟨hg1,?_⟩
  exact h1 base _ w0 Z R0 h0 a1 w1 R1 hh0 hn0 sr1 hg1 st1 hp1 hk1 fun s2 a2 w2 R2 h2 sr2 hg2 st2 hp2=>h2 base Q w0 Z R0 h0 a2 w2 R2 hh0 hn0 sr2 hg2 st2 hp2 hops' q
end
section
variable {P:Program}{ops:Array Oper}{C:World->Prop}{Q:Act->World->Prop}{loud:Nat->Bool}{T:Nat}
/-- Loud operations that may come up now: one of them is the first loud one, if every other stands behind one of them. -/
theorem Jq {n:Nat}(L:List Nat) (hL:L≠[]) (ht:Ih ops loud T n) (hin:∀ i ∈ L,∃ o,ops[i]? = some o) (hsel:∀ (j:Nat) (o:Oper) cs b,ops[j]? = some o->o.op≠ .select cs b) :
  ∀ (fuel:Nat) (listed:Array Bool) (a:Act) (w:World),(∀ j,j < ops.size->j ∉ L->loud j=true->listed.getD j true=false->∃ i ∈ L,G9 ops n j i=true)->Closed ops listed->listed.size=ops.size->(Ok ops loud T listed->C w) ->
   (∀ i ∈ L,∀ oi,ops[i]? = some oi->∀ j oj,ops[j]? = some oj->j≠i->listed.getD j true=false->(∀ e ∈ oj.after,Region.binds .any e=true->e.on≠i)->oi.apart ops oj=true) ->
   (∀ i ∈ L,i ∈ Region.ready .any ops listed) ->
   (∀ i ∈ L,mOp P ops C loud i (wpM P ops C loud T Q fuel (listed.setIfInBounds i true)) a w)->wpM P ops C loud T Q (fuel + 1) listed a w:=by
 intro fuel
 obtain ⟨i0,hi0⟩:=List.exists_mem_of_ne_nil L hL
 obtain ⟨o0,ho0⟩:=hin i0 hi0
 induction fuel with
 | zero =>
  intro listed a w _ _ _ hC _ hr H
  refine ⟨hC,fun h=>(by have:=hr i0 hi0; rw [h] at this; cases this),fun j hj=>?_⟩
  by_cases hji:j ∈ L
  ·exact H j hji
  ·obtain ⟨u,w',h1⟩:=JY ho0 (H i0 hi0)
   have:=ready_mono hj (fun e=>hji (e ▸ hi0))
   rw [h1.2.1] at this
   cases this
 | succ fuel ih =>
  intro listed a w hT hcl hsz hC hfree hr H
  refine ⟨hC,fun h=>(by have:=hr i0 hi0; rw [h] at this; cases this),fun j hj=>?_⟩
  by_cases hji:j ∈ L
  ·exact H j hji
  obtain ⟨hjun,oj,hoj,hall⟩:=mem_ready.1 hj
  have hnl:∀ i ∈ L,¬ listed.getD i false=true:=fun i hi h1=>by
   obtain ⟨ox,hx⟩:=hin i hi
   have hun:=(mem_ready.1 (hr i hi)).1
   have hlt:i < ops.size:=(Array.getElem?_eq_some_iff.1 hx).1
   have h':i < listed.size:=by omega
   simp [h'] at hun h1; rw [hun] at h1; cases h1
  have hne:∀ i ∈ L,j≠i:=fun i hi e=>hji (e ▸ hi)
  have hnot:∀ i ∈ L,∀ e ∈ oj.after,Region.binds .any e=true->e.on≠i:=fun i hi e he hb heq=>hnl i hi (by rw [<-heq]; exact hall e he hb)
  have hjlt:j < ops.size:=(Array.getElem?_eq_some_iff.1 hoj).1
  have hlj:loud j=false:=by
   cases hlj:loud j with
   | false=>rfl
   | true =>
    obtain ⟨i,hi,hw⟩:=hT j hjlt hji hlj hjun
    exact absurd (Hc hcl n j i hw fun o ho e he hb=>by rw [hoj] at ho; injection ho with ho; subst ho; exact hall e he hb) (hnl i hi)
  have ap:∀ i ∈ L,∀ oi,ops[i]? = some oi->oi.apart ops oj=true:=fun i hi oi hoi=>hfree i hi oi hoi j oj hoj (hne i hi) hjun (hnot i hi)
  have hun':∀ k,(listed.setIfInBounds j true).getD k true=false->listed.getD k true=false:=fun k hun=>by
   by_cases hjk:j=k
   ·subst hjk; exact hjun
   ·rw [getD_set_ne true hjk] at hun; exact hun
  have hCw:Ok ops loud T (listed.setIfInBounds j true)->C w:=fun hn=>hC fun k hTk hk hlk=>hun' k (hn k hTk hk hlk)
  obtain ⟨ap1,ap2,ap3⟩:=Oper.apart_spec (ap i0 hi0 o0 ho0)
  obtain ⟨u,w',h1⟩:=JY ho0 (H i0 hi0)
  obtain ⟨v,hy,_⟩:=C0 hoj hlj (h1.2.2 j (ready_mono hj (hne i0 hi0)))
  have hya:YieldsM P ops C oj v a:=hy.same (execOp_put oj (fun cs b=>hsel j oj cs b hoj) _ o0.dst u ap1).symm (wanted_put oj _ o0.dst u ap1).symm
  refine hya.mOp hoj hlj ?_
  exact ih (listed.setIfInBounds j true) (a.put oj.dst v) w (fun k hk h1 h2 h3=>hT k hk h1 h2 (hun' k h3)) (hcl.set hj) (by simpa using hsz) hCw (fun i hi oi hoi k ok hk h1 h2 h3=>hfree i hi oi hoi k ok hk h1 (hun' k h2) h3) (fun i hi=>ready_mono (hr i hi) (Ne.symm (hne i hi)))
   (fun i hi=>by
    obtain ⟨oi,hoi⟩:=hin i hi
    obtain ⟨bp1,bp2,bp3⟩:=Oper.apart_spec (ap i hi oi hoi)
    exact QQ ht hoi hoj hsel hcl hsz bp1 bp2 bp3 (hr i hi) hj (hne i hi) hlj hya (H i hi))
/-- What holds of the region throughout. -/
structure MOk (ops:Array Oper) (T:Nat):Prop where
 ns:Region.noSelect ops=true
 tl:Ih ops (CY ops T) T ops.size
 tT:T < ops.size->CY ops T T=true
/-- What is checked of an operation that may come up now. -/
def G3 (ops:Array Oper) (m:List Bool) (i:Nat):Bool:=(Region.ready .any ops m.toArray).contains i&&Region.free .any ops m.toArray i
def Io (ops:Array Oper) (T:Nat) (m:List Bool) (L:List Nat):Bool :=
 (L.all fun i=>G3 ops m i)&&(List.range ops.size).all fun j=>L.contains j||!CY ops T j||m.toArray.getD j true||L.any fun i=>G9 ops ops.size j i
def PA (ops:Array Oper) (T p f:Nat) (m:List Bool):Bool :=
 Nat.beq (p + f) ops.size&&Region.lexFrom .any ops f p m.toArray&&((List.range p).all fun j=>m.toArray.getD j true)&&(List.range ops.size).all fun k=>!(Nat.ble p k&&CY ops T k)||(List.range ops.size).all fun j=>!(Nat.blt k j&&CY ops T j)||G9 ops ops.size j k
end
def RunM (E:Env) (ops:Array Oper) (T n0 f:Nat) (m:List Bool) (s:St) (K:St->Prop):Prop :=
 ∀ (base:Bs) (Q:Act->World->Prop) (w0:World) (Z:Nat->Prop) (R0:List RI) (h0:Hp) (a:Act) (w:World) (R:List RI),MOk ops T->Closed ops m.toArray->m.length=ops.size->HR w0 Z R0 h0->n0=h0.length->SR E base w Z R s a->w0.grownBy w none->Step w0 Z R0 h0 w Z R s.hp->(∀ (b:Nat) (B:Option Blk),h0[b]? = some B->s.hp[b]? = some B) ->
  (∀ s' a' w' Z' R',K s'->SR E base w' Z' R' s' a'->StepW w0 Z R0 h0 w' Z' R' s'.hp->Q a' w')->wpM E.P ops (fun w'=>w0.grownBy w' none) (CY ops T) T Q f m.toArray a w
section
variable {E:Env}{cx:Cx}{ops:Array Oper}{s s1:St}{K:St->Prop}{n0 f T i j k:Nat}{m:List Bool}{Q:Ex->St->Prop}{id:Nat}{o o2 o3:Oper}
theorem C9 (m:List Bool) (i:Nat):m.toArray.setIfInBounds i true=(m.set i true).toArray:=by simp
/-- An operation that is quiet. -/
theorem RunM.q (i:Nat) (hq:(G3 ops m i&&!CY ops T i)=true) (ho:ops[i]? = some o) (h:Op1 E ops T n0 i o s fun s'=>RunM E ops T n0 f (m.set i true) s' K):RunM E ops T n0 (f + 1) m s K:=by
 intro base Q w0 Z R0 h0 a w R hM hcl hsz hh0 hn0 sr hgr st hpre q
 unfold G3 at hq
 simp only [Bool.and_eq_true,Bool.not_eq_true'] at hq
 obtain ⟨⟨hr,hf⟩,hl⟩:=hq
 have hr':i ∈ Region.ready .any ops m.toArray:=by simpa using hr
 have hst:=h base (fun a w=>wpM E.P ops (fun w'=>w0.grownBy w' none) (CY ops T) T Q f (m.set i true).toArray a w) w0 Z R0 h0 a w R hh0 hn0 sr hgr st hpre ho fun s' a' w' R' hk sr' hg' st' hp' =>
  hk base Q w0 Z R0 h0 a' w' R' hM (by rw [<-C9]; exact hcl.set hr') (by simpa using hsz) hh0 hn0 sr' hg' st' hp' q
 obtain ⟨v,hy,hK⟩:=C0 ho hl hst
 refine HA ho hl (Region.noSelect_spec hM.ns) f m.toArray a w (fun _=>hgr) hcl (by simpa using hsz) (Region.free_spec ho hf) hr' hy ?_
 rw [C9]
 exact hK
/-- The loud ones that may come up now: each of them. -/
theorem RunM.loud (L:List Nat) (hne:L≠[]) (hl:Io ops T m L=true) (h:∀ i ∈ L,∃ o,ops[i]? = some o/\Op1 E ops T n0 i o s fun s'=>RunM E ops T n0 f (m.set i true) s' K):RunM E ops T n0 (f + 1) m s K:=by
 intro base Q w0 Z R0 h0 a w R hM hcl hsz hh0 hn0 sr hgr st hpre q
 unfold Io at hl
 simp only [Bool.and_eq_true] at hl
 obtain ⟨h1,h2⟩:=hl
 have hr:∀ i ∈ L,i ∈ Region.ready .any ops m.toArray/\Region.free .any ops m.toArray i=true:=fun i hi=>by
  have:=List.all_eq_true.1 h1 i hi
  unfold G3 at this
  simp only [Bool.and_eq_true] at this
  exact ⟨by simpa using this.1,this.2⟩
 refine Jq (n:=ops.size) L hne hM.tl (fun i hi=>⟨_,(h i hi).choose_spec.1⟩) (Region.noSelect_spec hM.ns) f m.toArray a w (fun j hj hjL hlj hun=>?_) hcl (by simpa using hsz) (fun _=>hgr) (fun i hi oi hoi=>Region.free_spec hoi (hr i hi).2) (fun i hi=>(hr i hi).1) fun i hi=>?_
 ·have:=List.all_eq_true.1 h2 j (by simpa using hj)
  simp only [Bool.or_eq_true,Bool.not_eq_true',List.any_eq_true] at this
  rcases this with ((h3 | h3) | h3) | h3
  ·exact absurd (by simpa using h3) hjL
  ·rw [hlj] at h3; cases h3
  ·rw [hun] at h3; cases h3
  ·exact h3
 ·obtain ⟨o,ho,hop⟩:=h i hi
  rw [C9]
  exact hop base (fun a w=>wpM E.P ops (fun w'=>w0.grownBy w' none) (CY ops T) T Q f (m.set i true).toArray a w) w0 Z R0 h0 a w R hh0 hn0 sr hgr st hpre ho fun s' a' w' R' hk sr' hg' st' hp' =>
   hk base Q w0 Z R0 h0 a' w' R' hM (by rw [<-C9]; exact hcl.set (hr i hi).1) (by simpa using hsz) hh0 hn0 sr' hg' st' hp' q
/-- What is left stands in one order. -/
theorem Tj (p:Nat) (hp:PA ops T p f m=true) (h:RunDX E ops T n0 p (ops.toList.drop p) s K):RunM E ops T n0 f m s K:=by
 intro base Q w0 Z R0 h0 a w R hM hcl hsz hh0 hn0 sr hgr st hpre q
 unfold PA at hp
 simp only [Bool.and_eq_true] at hp
 obtain ⟨⟨⟨h1,h2⟩,h3⟩,h4⟩:=hp
 have h1:=Nat.eq_of_beq_eq_true h1
 have hlen:(ops.toList.drop p).length=f:=by simp; omega
 have hops:∀ j,(ops.toList.drop p)[j]? = ops[p + j]?:=fun j=>by simp
 have:=M5 hM.ns (n:=ops.size) (k0:=p) (fun k j hk hks hj hlk hlj hkj=>?_) hM.tl hM.tT (ops.toList.drop p) p m.toArray a w (Nat.le_refl _) (by omega) hops (by rw [hlen]; exact h2) hcl (by simpa using hsz) (fun j hj=>List.all_eq_true.1 h3 j (by simpa using hj)) (h base Q w0 Z R0 h0 a w R hh0 hn0 sr hgr st hpre hops q)
 ·rwa [hlen] at this
 ·have a1:=List.all_eq_true.1 h4 k (by simpa using hks)
  simp only [hlk,Nat.ble_eq_true_of_le hk,Bool.and_self,Bool.not_true,Bool.false_or] at a1
  have a2:=List.all_eq_true.1 a1 j (by simpa using hj)
  have hb:Nat.blt k j=true:=Nat.ble_eq_true_of_le hkj
  simpa [hlj,hb] using a2
end
/-- As Op1, of an operation behind which nothing is read any more. -/
def OpZ (E:Env) (ops:Array Oper) (T k:Nat) (o:Oper) (s:St) (Ks:St->Prop):Prop :=
 ∀ (base:Bs) (K:Act->World->Prop) (w0:World) (Z:Nat->Prop) (a:Act) (w:World) (R:List RI),SR E base w Z R s a->w0.grownBy w none->ops[k]? = some o ->
  (∀ s' a' w' Z' R',Ks s'->SR E base w' Z' R' s' a'->w0.grownBy w' none->StepW w Z R s.hp w' Z' R' s'.hp->K a' w')->mOp E.P ops (fun w'=>w0.grownBy w' none) (CY ops T) k K a w
def RunZ (E:Env) (ops:Array Oper) (T f:Nat) (m:List Bool) (s:St) (K:St->Prop):Prop :=
 ∀ (base:Bs) (Q:Act->World->Prop) (w0:World) (Z:Nat->Prop) (a:Act) (w:World) (R:List RI),MOk ops T->Closed ops m.toArray->m.length=ops.size->SR E base w Z R s a->w0.grownBy w none ->
  (∀ s' a' w' Z' R',K s'->SR E base w' Z' R' s' a'->StepW w Z R s.hp w' Z' R' s'.hp->Q a' w')->wpM E.P ops (fun w'=>w0.grownBy w' none) (CY ops T) T Q f m.toArray a w
section
variable {E:Env}{cx:Cx}{ops:Array Oper}{s s1:St}{K Ks:St->Prop}{n n0 f T i j k:Nat}{m:List Bool}{o o2 o3:Oper}{l:List (Nat×AV)}{hp:Hp}{fid:FuncId}
theorem Tg (hE:EnvOk E) (hW:isW o.op=false) (hLd:L9 o.op=false) (hk:k < T) (e:opsD E (evC E 0) ⟨none,false⟩ ops n0 [o] s=some s1) (kk:Ks s1):OpZ E ops T k o s Ks:=by
 intro base K w0 Z a w R sr hgr hok q
 have hkT:¬ T<=k:=by omega
 unfold mOp
 rw [hok]
 dsimp only
 unfold opsD at e
 rw [if_neg (by rw [hW]; simp)] at e
 split at e
 ·cases e
 ·next hw =>
  rw [if_neg (by rw [wantedA_eq sr hw]; simp)]
  injection e with e
  subst e
  exact q _ _ w Z R kk (sr.put undef_vr) hgr (StepW.refl _ _ _ _)
 ·next hw =>
  rw [if_pos (wantedA_eq sr hw)]
  have hρ:∀ o x,opA E s.fr o=some x->VR w Z R x (a.eval o):=fun o x e=>opA_vr sr o x e
  split at e
  ·next x hx =>
   split at e
   ·injection e with e
    subst e
    have hq:=LC hx
    rw [if_neg (by rw [ID hok hq hkT]; simp)]
    obtain ⟨u,hu,hrun⟩:=evOpQ_sound sr.hh hρ hx
    exact ⟨u,(fun w' _=>hrun w' fun h=>by rw [hLd] at h; cases h),q _ _ w Z R kk (sr.put hu) hgr (StepW.refl _ _ _ _)⟩
   ·cases e
  ·split at e
   ·next x h' hx =>
    injection e with e
    subst e
    have hq:=HS hx
    rw [if_pos (Dv hok hq)]
    obtain ⟨u,w',R',h1,h2,h3,h4,h5⟩:=evOpN_sound hρ sr.hh hx
    exact JX h1 (q _ _ w' Z R' kk ((sr.step h2 h4).put h3) (DU hgr h5) h4.w)
   ·split at e
    ·next f args tys ho =>
     split at e
     ·next fv xs hf hxs =>
      split at e
      ·next r hr =>
       injection e with e
       subst e
       obtain ⟨x,h'⟩:=r
       have hq:isQ o.op=false:=by rw [ho]; rfl
       rw [if_pos (Dv hok hq)]
       obtain ⟨g,uf,uc,hva,hcl,hret⟩:=Dz hE (code_sound hE 0).1 (hρ _ _ hf) (opds_vr hρ hxs) sr.hh sr.gl hr
       unfold Lw
       rw [Do (uf:=uf) (uc:=uc) ho hva rfl hcl w]
       refine Ret.mono hret fun v w' hS=>?_
       obtain ⟨hg1,R',k1,k2,k3⟩:=hS
       exact q _ _ w' Z R' kk ((sr.step k1 k3).put k2) (DU hgr hg1) k3.w
      ·cases e
     ·cases e
    ·cases e
theorem U0 (hE:EnvOk E){s:St}(l:List (Nat×AV)) (hp:Hp) (hW:(!isW o.op&&!L9 o.op&&Nat.blt k T)=true) (h:Mp (opsD E (evC E 0) ⟨none,false⟩ ops 0 [o] s) l=some (n,xs2 l,hp)) (kk:Ks ⟨Fr n l,hp⟩):OpZ E ops T k o s Ks:=by
 obtain ⟨fr,h1,h2,h3⟩:=Es h
 simp only [Bool.and_eq_true,Bool.not_eq_true'] at hW
 intro base K w0 Z a w R sr hgr hok q
 exact Tg (Ks:=fun s=>s=⟨fr,hp⟩) hE hW.1.1 hW.1.2 (Nat.le_of_ble_eq_true hW.2) h1 rfl base K w0 Z a w R sr hgr hok fun s' a' w' Z' R' hs sr' hg' st'=>by
  subst hs
  exact q _ a' w' Z' R' kk (sr'.forget h2 h3) hg' st'
theorem OpZ.one (hE:EnvOk E) (hW:(!isW o.op&&!L9 o.op&&Nat.blt k T)=true) (h:opsD E (evC E 0) ⟨none,false⟩ ops 0 [o] s=some s1) (kk:Ks s1):OpZ E ops T k o s Ks:=by
 simp only [Bool.and_eq_true,Bool.not_eq_true'] at hW
 exact Tg hE hW.1.1 hW.1.2 (Nat.le_of_ble_eq_true hW.2) h kk
theorem RunM.z (h:RunZ E ops T f m s K):RunM E ops T n0 f m s K:=fun base Q w0 Z _ _ a w R hM hcl hsz _ _ sr hgr st _ q=>h base Q w0 Z a w R hM hcl hsz sr hgr fun s' a' w' Z' R' hK sr' st'=>q s' a' w' Z' R' hK sr' (st.w.trans st')
theorem RunZ.q (i:Nat) (hq:(G3 ops m i&&!CY ops T i)=true) (ho:ops[i]? = some o) (h:OpZ E ops T i o s fun s'=>RunZ E ops T f (m.set i true) s' K):RunZ E ops T (f + 1) m s K:=by
 intro base Q w0 Z a w R hM hcl hsz sr hgr q
 unfold G3 at hq
 simp only [Bool.and_eq_true,Bool.not_eq_true'] at hq
 obtain ⟨⟨hr,hf⟩,hl⟩:=hq
 have hr':i ∈ Region.ready .any ops m.toArray:=by simpa using hr
 have hst:=h base (fun a w=>wpM E.P ops (fun w'=>w0.grownBy w' none) (CY ops T) T Q f (m.set i true).toArray a w) w0 Z a w R sr hgr ho fun s' a' w' Z' R' hk sr' hg' st' =>
  hk base Q w0 Z' a' w' R' hM (by rw [<-C9]; exact hcl.set hr') (by simpa using hsz) sr' hg' fun s2 a2 w2 Z2 R2 hK sr2 st2=>q s2 a2 w2 Z2 R2 hK sr2 (st'.trans st2)
 obtain ⟨v,hy,hK⟩:=C0 ho hl hst
 refine HA ho hl (Region.noSelect_spec hM.ns) f m.toArray a w (fun _=>hgr) hcl (by simpa using hsz) (Region.free_spec ho hf) hr' hy ?_
 rw [C9]
 exact hK
theorem Tm (L:List Nat) (hne:L≠[]) (hl:Io ops T m L=true) (h:∀ i ∈ L,∃ o,ops[i]? = some o/\OpZ E ops T i o s fun s'=>RunZ E ops T f (m.set i true) s' K):RunZ E ops T (f + 1) m s K:=by
 intro base Q w0 Z a w R hM hcl hsz sr hgr q
 unfold Io at hl
 simp only [Bool.and_eq_true] at hl
 obtain ⟨h1,h2⟩:=hl
 have hr:∀ i ∈ L,i ∈ Region.ready .any ops m.toArray/\Region.free .any ops m.toArray i=true:=fun i hi=>by
  have:=List.all_eq_true.1 h1 i hi
  unfold G3 at this
  simp only [Bool.and_eq_true] at this
  exact ⟨by simpa using this.1,this.2⟩
 refine Jq (n:=ops.size) L hne hM.tl (fun i hi=>⟨_,(h i hi).choose_spec.1⟩) (Region.noSelect_spec hM.ns) f m.toArray a w (fun j hj hjL hlj hun=>?_) hcl (by simpa using hsz) (fun _=>hgr) (fun i hi oi hoi=>Region.free_spec hoi (hr i hi).2) (fun i hi=>(hr i hi).1) fun i hi=>?_
 ·have:=List.all_eq_true.1 h2 j (by simpa using hj)
  simp only [Bool.or_eq_true,Bool.not_eq_true',List.any_eq_true] at this
  rcases this with ((h3 | h3) | h3) | h3
  ·exact absurd (by simpa using h3) hjL
  ·rw [hlj] at h3; cases h3
  ·rw [hun] at h3; cases h3
  ·exact h3
 ·obtain ⟨o,ho,hop⟩:=h i hi
  rw [C9]
  exact hop base (fun a w=>wpM E.P ops (fun w'=>w0.grownBy w' none) (CY ops T) T Q f (m.set i true).toArray a w) w0 Z a w R sr hgr ho fun s' a' w' Z' R' hk sr' hg' st' =>
   hk base Q w0 Z' a' w' R' hM (by rw [<-C9]; exact hcl.set (hr i hi).1) (by simpa using hsz) sr' hg' fun s2 a2 w2 Z2 R2 hK sr2 st2=>q s2 a2 w2 Z2 R2 hK sr2 (st'.trans st2)
theorem U5 (hw:Wk E s s1) (h:RunZ E ops T f m s1 K):RunZ E ops T f m s K:=fun base Q w0 Z a w R hM hcl hsz sr hgr q=>by
 obtain ⟨Z',R',sr',st⟩:=hw base w Z R a sr
 exact h base Q w0 Z' a w R' hM hcl hsz sr' hgr fun s' a' w' Z2 R2 hK sr2 st2=>q s' a' w' Z2 R2 hK sr2 (st.trans st2)
/-- The stores. -/
theorem Tn (hp:PA ops T T f m=true) (h:RunS E ops (ops.toList.drop T) s K):RunZ E ops T f m s K:=by
 intro base Q w0 Z a w R hM hcl hsz sr hgr q
 unfold PA at hp
 simp only [Bool.and_eq_true] at hp
 obtain ⟨⟨⟨h1,h2⟩,h3⟩,h4⟩:=hp
 have h1:=Nat.eq_of_beq_eq_true h1
 have hlen:(ops.toList.drop T).length=f:=by simp; omega
 have hops:∀ j,(ops.toList.drop T)[j]? = ops[T + j]?:=fun j=>by simp
 have:=M5 (C:=fun w'=>w0.grownBy w' none) hM.ns (n:=ops.size) (k0:=T) (fun k j hk hks hj hlk hlj hkj=>?_) hM.tl hM.tT (ops.toList.drop T) T m.toArray a w (Nat.le_refl _) (by omega) hops (by rw [hlen]; exact h2) hcl (by simpa using hsz) (fun j hj=>List.all_eq_true.1 h3 j (by simpa using hj))
  (IE (h base Q a w Z R sr q) (Nat.le_refl _) (fun _=>hgr) (fun j hj=>IZ (by omega)) hops)
 ·rwa [hlen] at this
 ·have a1:=List.all_eq_true.1 h4 k (by simpa using hks)
  simp only [hlk,Nat.ble_eq_true_of_le hk,Bool.and_self,Bool.not_true,Bool.false_or] at a1
  have a2:=List.all_eq_true.1 a1 j (by simpa using hj)
  have hb:Nat.blt k j=true:=Nat.ble_eq_true_of_le hkj
  simpa [hlj,hb] using a2
end
/-- Every order of what is not free is gone through, in the world as it is. -/
def RunA (E:Env) (ops:Array Oper) (f:Nat) (m:List Bool) (s:St) (K:St->Prop):Prop :=
 ∀ (base:Bs) (Q:Act->World->Prop) (a:Act) (w:World) (Z:Nat->Prop) (R:List RI),Region.noSelect ops=true->Closed ops m.toArray->m.length=ops.size->SR E base w Z R s a ->
  (∀ s' a' w' Z' R',K s'->SR E base w' Z' R' s' a'->StepW w Z R s.hp w' Z' R' s'.hp->Q a' w')->wpM E.P ops (fun _=>True) (CY ops 0) 0 Q f m.toArray a w
section
variable {E:Env}{cx:Cx}{ops:Array Oper}{s s1:St}{K:St->Prop}{f i j:Nat}{m:List Bool}{Q:Ex->St->Prop}{id k:Nat}{o o2 o3:Oper}
theorem QO {i:Nat}(h:CY ops 0 i=false):Dc ops i=true:=by
 unfold CY at h
 simp only [Bool.or_eq_false_iff,Bool.and_eq_false_iff,Bool.not_eq_false'] at h
 rcases h.2 with h1 | h1
 ·cases h1
 ·exact h1
theorem TC (n:Nat):Ih ops (CY ops 0) 0 n:=fun j _ _ _ i _ hl hf=>by rw [QO hl] at hf; cases hf
theorem RunA.q (i:Nat) (hq:(G3 ops m i&&!CY ops 0 i)=true) (ho:ops[i]? = some o) (h:RunS E ops [o] s fun s'=>RunA E ops f (m.set i true) s' K):RunA E ops (f + 1) m s K:=by
 intro base Q a w Z R hns hcl hsz sr q
 unfold G3 at hq
 simp only [Bool.and_eq_true,Bool.not_eq_true'] at hq
 obtain ⟨⟨hr,hf⟩,hl⟩:=hq
 have hr':i ∈ Region.ready .any ops m.toArray:=by simpa using hr
 have hst:=h base (fun a w=>wpM E.P ops (fun _=>True) (CY ops 0) 0 Q f (m.set i true).toArray a w) a w Z R sr fun s' a' w' Z' R' hk sr' st' =>
  hk base Q a' w' Z' R' hns (by rw [<-C9]; exact hcl.set hr') (by simpa using hsz) sr' fun s2 a2 w2 Z2 R2 hK sr2 st2=>q s2 a2 w2 Z2 R2 hK sr2 (st'.trans st2)
 have hfr:FS o=true:=by have:=QO hl; simpa [Dc,ho] using this
 have hy:∃ v,YieldsM E.P ops (fun _=>True) o v a/\wpM E.P ops (fun _=>True) (CY ops 0) 0 Q f (m.set i true).toArray (a.put o.dst v) w:=by
  unfold LwL at hst
  split at hst
  ·next hw =>
   obtain ⟨u,h1,h2⟩:=hst
   exact ⟨u,.inl ⟨hw,fun w' _=>h1 w'⟩,h2⟩
  ·next hw=>exact ⟨undef,.inr ⟨by simpa using hw,rfl⟩,hst⟩
 obtain ⟨v,hy,hK⟩:=hy
 refine HA ho hl (Region.noSelect_spec hns) f m.toArray a w (fun _=>trivial) hcl (by simpa using hsz) (Region.free_spec ho hf) hr' hy ?_
 rw [C9]
 exact hK
theorem Ti (L:List Nat) (hne:L≠[]) (hl:(Io ops 0 m L&&L.all fun i=>!Dc ops i)=true) (h:∀ i ∈ L,∃ o,ops[i]? = some o/\RunS E ops [o] s fun s'=>RunA E ops f (m.set i true) s' K):RunA E ops (f + 1) m s K:=by
 intro base Q a w Z R hns hcl hsz sr q
 simp only [Bool.and_eq_true] at hl
 obtain ⟨hl,hfr⟩:=hl
 unfold Io at hl
 simp only [Bool.and_eq_true] at hl
 obtain ⟨h1,h2⟩:=hl
 have hr:∀ i ∈ L,i ∈ Region.ready .any ops m.toArray/\Region.free .any ops m.toArray i=true:=fun i hi=>by
  have:=List.all_eq_true.1 h1 i hi
  unfold G3 at this
  simp only [Bool.and_eq_true] at this
  exact ⟨by simpa using this.1,this.2⟩
 refine Jq (n:=ops.size) L hne (TC _) (fun i hi=>⟨_,(h i hi).choose_spec.1⟩) (Region.noSelect_spec hns) f m.toArray a w (fun j hj hjL hlj hun=>?_) hcl (by simpa using hsz) (fun _=>trivial) (fun i hi oi hoi=>Region.free_spec hoi (hr i hi).2) (fun i hi=>(hr i hi).1) fun i hi=>?_
 ·have:=List.all_eq_true.1 h2 j (by simpa using hj)
  simp only [Bool.or_eq_true,Bool.not_eq_true',List.any_eq_true] at this
  rcases this with ((h3 | h3) | h3) | h3
  ·exact absurd (by simpa using h3) hjL
  ·rw [hlj] at h3; cases h3
  ·rw [hun] at h3; cases h3
  ·exact h3
 ·obtain ⟨o,ho,hop⟩:=h i hi
  have hfi:Dc ops i=false:=by simpa using List.all_eq_true.1 hfr i hi
  have hli:CY ops 0 i=true:=by
   cases hh:CY ops 0 i with
   | true=>rfl
   | false=>rw [QO hh] at hfi; cases hfi
  have hfo:FS o=false:=by simpa [Dc,ho] using hfi
  rw [C9]
  have hst:=hop base (fun a w=>wpM E.P ops (fun _=>True) (CY ops 0) 0 Q f (m.set i true).toArray a w) a w Z R sr fun s' a' w' Z' R' hk sr' st' =>
   hk base Q a' w' Z' R' hns (by rw [<-C9]; exact hcl.set (hr i hi).1) (by simpa using hsz) sr' fun s2 a2 w2 Z2 R2 hK sr2 st2=>q s2 a2 w2 Z2 R2 hK sr2 (st'.trans st2)
  unfold mOp
  rw [ho]
  dsimp only
  unfold LwL at hst
  split at hst
  ·next hw =>
   rw [if_pos hw,if_pos hli]
   rw [hfo] at hst
   exact hst
  ·next hw=>rw [if_neg hw]; exact hst
theorem Tk {n:Nat}(hE:EnvOk E){s:St}(l:List (Nat×AV)) (hp:Hp) (h:Mp (Ed E (evC E 0) ⟨none,false⟩ ops [o] s) l=some (n,xs2 l,hp)) (k:K ⟨Fr n l,hp⟩):RunS E ops [o] s K :=
 AC (rest:=[o]) hE 1 l hp h (AE rfl k)
theorem RunA.done (h:(Region.ready .any ops m.toArray).isEmpty=true) (kk:K s):RunA E ops 0 m s K:=fun base Q a w Z R _ _ _ sr q =>
 ⟨fun _=>trivial,by simpa using h,q s a w Z R kk sr (StepW.refl _ _ _ _)⟩
end
/-- Every order of what is not free is gone through, in the world as it is. -/
def RunAL (E:Env) (ops:Array Oper) (f:Nat) (m:List Bool) (s:St) (K:St->Prop):Prop :=
 ∀ (base:Bs) (Q:Act->World->Prop) (a:Act) (w:World) (Z:Nat->Prop) (R:List RI),Region.noSelect ops=true->Closed ops m.toArray->m.length=ops.size->SR E base w Z R s a ->
  (∀ s' a' w' Z' R',K s'->SR E base w' Z' R' s' a'->Step w Z R s.hp w' Z' R' s'.hp->Q a' w')->wpM E.P ops (fun _=>True) (CY ops 0) 0 Q f m.toArray a w
section
variable {E:Env}{ops:Array Oper}{s:St}{K:St->Prop}{f:Nat}{m:List Bool}{Q:Ex->St->Prop}{id:Nat}{o o2:Oper}
theorem put_defs (a:Act) (d:Option Tmp) (u:Value):(a.put d u).defers=a.defers:=by cases d <;> rfl
theorem RU {P:Program}{C:World->Prop}{loud:Nat->Bool}{i:Nat}{K:Act->World->Prop}{a:Act}{w:World}(h:mOp P ops C loud i K a w):mOp P ops C loud i (fun a' w'=>K a' w'/\a'.defers=a.defers) a w:=by
 unfold mOp at *
 cases ho:ops[i]? with
 | none=>rw [ho] at h; exact h.elim
 | some o =>
  rw [ho] at h
  dsimp only at h ⊢
  split at h
  ·next hw =>
   rw [if_pos hw]
   split at h
   ·next hl =>
    rw [if_pos hl]
    unfold Lw at *
    generalize (execOp a.eval o).run P w=r at *
    cases r with
    | ok n w'=>cases n <;> simp only at h ⊢ <;> first | exact ⟨h,put_defs _ _ _⟩ | exact Ret.mono h (fun v w'' hh=>⟨hh,put_defs _ _ _⟩) | exact h
    | halt x w'=>exact h
   ·next hl=>rw [if_neg hl]; obtain ⟨v,hv,h⟩:=h; exact ⟨v,hv,h,put_defs _ _ _⟩
  ·next hw=>rw [if_neg hw]; exact ⟨h,put_defs _ _ _⟩
theorem PC {P:Program}{C:World->Prop}{loud:Nat->Bool}{T:Nat}{Q:Act->World->Prop}{D:List Deferred}:∀ {f:Nat}{l:Array Bool}{a:Act}{w:World},a.defers=D->wpM P ops C loud T (fun a' w'=>a'.defers=D->Q a' w') f l a w->wpM P ops C loud T Q f l a w
 | 0,l,a,w,e,h=>⟨h.1,h.2.1,h.2.2 e⟩
 | f + 1,l,a,w,e,h=>⟨h.1,fun h0=>h.2.1 h0 e,fun i hi=>HU (fun a' w' ⟨hk,hd⟩=>PC (hd.trans e) hk) (RU (h.2.2 i hi))⟩
theorem Qz (hE:EnvOk E) (hb:(Region.noSelect ops&&Nat.beq f ops.size)=true) (h:RunAL E ops f (List.replicate f false) s K){ro:Option Nat}{base:Bs}{Qm:Exit->Act->World->Prop}{a:Act}{w:World}{Z:Nat->Prop}{R:List RI}(sr:SR E base w Z R s a)
  (kk:∀ s' a' w' Z' R',K s'->SR E base w' Z' R' s' a'->Step w Z R s.hp w' Z' R' s'.hp->a'.defers=a.defers->Qm .normal a' w'):(Code.region id ops true).wpIn (Fw ro) 0 E.P Qm a w:=by
 simp only [Bool.and_eq_true] at hb
 have hf:=Nat.eq_of_beq_eq_true hb.2
 have hgd:w.grownBy w.drew none:=N4 w
 have st0:Step w Z R s.hp w.drew Z R s.hp:=⟨rfl,rfl,rfl,Nat.le_refl _,fun c hc _=>rfl,fun _ h=> .inl h,fun _ h=>h,fun _ h=> .inl h,fun _ _ h=>h⟩
 have hsrd:SR E base w.drew Z R s a:=⟨sr.hh.keep (Nat.le_refl _) (fun c hc=>hgd.block c hc (by simp)),sr.fr.off (fun c hc=>rfl),sr.mks.step st0,sr.gl.off (fun c hc=>rfl),sr.bs⟩
 have hrep:(List.replicate f false).toArray=Array.replicate ops.size false:=by rw [hf]; simp
 have hcl:Closed ops (Array.replicate ops.size false):=fun k o hk hlis=>by
  rw [getD_replicate_false] at hlis; cases hlis
 have hm:=h base (fun a' w=>a'.defers=a.defers->Qm .normal a' w) a w.drew Z R hb.1 (by rw [hrep]; exact hcl) (by simp [hf]) hsrd (fun s' a' w' Z' R' hq sr' st hd=>kk s' a' w' Z' R' hq sr' (st0.trans st) hd)
 have hm:=PC (Q:=fun a w=>Qm .normal a w) rfl hm
 rw [hrep,hf] at hm
 exact wpIn_region_any hE.mixed (IN (C:=fun _=>True) (loud:=CY ops 0) (T:=0) (n:=ops.size) (Q:=fun a w=>Qm .normal a w) ro 0 (TC _) (fun _ _ h=>h) _ _ _ _ hcl (by simp) hm)
theorem RunAL.q (i:Nat) (hq:(G3 ops m i&&!CY ops 0 i)=true) (ho:ops[i]? = some o) (h:RunL E ⟨none,false⟩ ops [o] s fun s'=>RunAL E ops f (m.set i true) s' K):RunAL E ops (f + 1) m s K:=by
 intro base Q a w Z R hns hcl hsz sr q
 unfold G3 at hq
 simp only [Bool.and_eq_true,Bool.not_eq_true'] at hq
 obtain ⟨⟨hr,hf⟩,hl⟩:=hq
 have hr':i ∈ Region.ready .any ops m.toArray:=by simpa using hr
 have hst:=h none base (fun a w=>wpM E.P ops (fun _=>True) (CY ops 0) 0 Q f (m.set i true).toArray a w) a w Z R (fun _=>rfl) sr (fun y hy=>by cases hy) fun s' a' w' Z' R' hk sr' st' =>
  hk base Q a' w' Z' R' hns (by rw [<-C9]; exact hcl.set hr') (by simpa using hsz) sr' fun s2 a2 w2 Z2 R2 hK sr2 st2=>q s2 a2 w2 Z2 R2 hK sr2 (st'.trans st2)
 have hfr:FS o=true:=by have:=QO hl; simpa [Dc,ho] using this
 have hy:∃ v,YieldsM E.P ops (fun _=>True) o v a/\wpM E.P ops (fun _=>True) (CY ops 0) 0 Q f (m.set i true).toArray (a.put o.dst v) w:=by
  unfold LwL at hst
  split at hst
  ·next hw =>
   obtain ⟨u,h1,h2⟩:=hst
   exact ⟨u,.inl ⟨hw,fun w' _=>h1 w'⟩,h2⟩
  ·next hw=>exact ⟨undef,.inr ⟨by simpa using hw,rfl⟩,hst⟩
 obtain ⟨v,hy,hK⟩:=hy
 refine HA ho hl (Region.noSelect_spec hns) f m.toArray a w (fun _=>trivial) hcl (by simpa using hsz) (Region.free_spec ho hf) hr' hy ?_
 rw [C9]
 exact hK
theorem RunAL.loud (L:List Nat) (hne:L≠[]) (hl:(Io ops 0 m L&&L.all fun i=>!Dc ops i)=true) (h:∀ i ∈ L,∃ o,ops[i]? = some o/\RunL E ⟨none,false⟩ ops [o] s fun s'=>RunAL E ops f (m.set i true) s' K):RunAL E ops (f + 1) m s K:=by
 intro base Q a w Z R hns hcl hsz sr q
 simp only [Bool.and_eq_true] at hl
 obtain ⟨hl,hfr⟩:=hl
 unfold Io at hl
 simp only [Bool.and_eq_true] at hl
 obtain ⟨h1,h2⟩:=hl
 have hr:∀ i ∈ L,i ∈ Region.ready .any ops m.toArray/\Region.free .any ops m.toArray i=true:=fun i hi=>by
  have:=List.all_eq_true.1 h1 i hi
  unfold G3 at this
  simp only [Bool.and_eq_true] at this
  exact ⟨by simpa using this.1,this.2⟩
 refine Jq (n:=ops.size) L hne (TC _) (fun i hi=>⟨_,(h i hi).choose_spec.1⟩) (Region.noSelect_spec hns) f m.toArray a w (fun j hj hjL hlj hun=>?_) hcl (by simpa using hsz) (fun _=>trivial) (fun i hi oi hoi=>Region.free_spec hoi (hr i hi).2) (fun i hi=>(hr i hi).1) fun i hi=>?_
 ·have:=List.all_eq_true.1 h2 j (by simpa using hj)
  simp only [Bool.or_eq_true,Bool.not_eq_true',List.any_eq_true] at this
  rcases this with ((h3 | h3) | h3) | h3
  ·exact absurd (by simpa using h3) hjL
  ·rw [hlj] at h3; cases h3
  ·rw [hun] at h3; cases h3
  ·exact h3
 ·obtain ⟨o,ho,hop⟩:=h i hi
  have hfi:Dc ops i=false:=by simpa using List.all_eq_true.1 hfr i hi
  have hli:CY ops 0 i=true:=by
   cases hh:CY ops 0 i with
   | true=>rfl
   | false=>rw [QO hh] at hfi; cases hfi
  have hfo:FS o=false:=by simpa [Dc,ho] using hfi
  rw [C9]
  have hst:=hop none base (fun a w=>wpM E.P ops (fun _=>True) (CY ops 0) 0 Q f (m.set i true).toArray a w) a w Z R (fun _=>rfl) sr (fun y hy=>by cases hy) fun s' a' w' Z' R' hk sr' st' =>
   hk base Q a' w' Z' R' hns (by rw [<-C9]; exact hcl.set (hr i hi).1) (by simpa using hsz) sr' fun s2 a2 w2 Z2 R2 hK sr2 st2=>q s2 a2 w2 Z2 R2 hK sr2 (st'.trans st2)
  unfold mOp
  rw [ho]
  dsimp only
  unfold LwL at hst
  split at hst
  ·next hw =>
   rw [if_pos hw,if_pos hli]
   rw [hfo] at hst
   exact hst
  ·next hw=>rw [if_neg hw]; exact hst
theorem Kg (i:Nat) (hl:(Io ops 0 m [i]&&[i].all fun i=>!Dc ops i)=true) (hi:ops[i]? = some o) (h:RunL E ⟨none,false⟩ ops [o] s fun s'=>RunAL E ops f (m.set i true) s' K):RunAL E ops (f + 1) m s K :=
 RunAL.loud [i] (by simp) hl fun x hx=>by
  obtain rfl:x=i:=by simpa using hx
  exact ⟨o,hi,h⟩
theorem Qy (i j:Nat) (hl:(Io ops 0 m [i,j]&&[i,j].all fun i=>!Dc ops i)=true) (hi:ops[i]? = some o) (hj:ops[j]? = some o2) (h:RunL E ⟨none,false⟩ ops [o] s fun s'=>RunAL E ops f (m.set i true) s' K) (h2:RunL E ⟨none,false⟩ ops [o2] s fun s'=>RunAL E ops f (m.set j true) s' K):RunAL E ops (f + 1) m s K :=
 RunAL.loud [i,j] (by simp) hl fun x hx=>by
  rcases (by simpa using hx:x=i\/x=j) with rfl | rfl
  ·exact ⟨o,hi,h⟩
  ·exact ⟨o2,hj,h2⟩
theorem RunAL.done (h:(Region.ready .any ops m.toArray).isEmpty=true) (kk:K s):RunAL E ops 0 m s K:=fun base Q a w Z R _ _ _ sr q =>
 ⟨fun _=>trivial,by simpa using h,q s a w Z R kk sr (Step.refl _ _ _ _)⟩
end
noncomputable def VD:Code:=pc (Bc Tryz.f32) [1,1,0]
noncomputable def UJ:Array Oper:=match VD with | .region _ ops _=>ops | _=>#[]
theorem UK {L:List Asn}{hp:Hp}(p2 x p4 p3:AV) (xs:List AJ) (m e:Int) (hT:T hp (cel p2 1 25 x::own_ (ocL 5 66 (ocV AA)) x xs::cel p4 1 28 (.v (.int .i64 m))::cel p3 1 81 (.v (.int .i64 e))::L)) :
  RunAL E0 UJ 4 (List.replicate 4 false) ⟨Fr 12 [(0,p2),(1,p4),(2,p3)],hp⟩ fun s'=>T s'.hp (cel p2 1 25 .e0::cel p4 1 28 (.v (.int .i64 e))::own_ (ocL 5 66 (ocV AA)) x xs::cel p3 1 81 (.v (.int .i64 e))::L):=by
 have hT1:T hp (cel p3 1 81 (.v (.int .i64 e))::cel p2 1 25 x::own_ (ocL 5 66 (ocV AA)) x xs::cel p4 1 28 (.v (.int .i64 m))::L):=hT.front 3 rfl
 obtain ⟨hp2,hs3,hT4⟩:=I5 (P:=Tryz.prog) (ty:=25) (y:= .e0) (a':= .e0) hT (by kernel_rfl) (by kernel_rfl) (Mr (FB (hT.front 1 rfl)) ⟨rfl,rfl⟩)
 have hT4b:T hp2 (cel p3 1 81 (.v (.int .i64 e))::cel p2 1 25 .e0::own_ (ocL 5 66 (ocV AA)) x xs::cel p4 1 28 (.v (.int .i64 m))::L):=hT4.front 3 rfl
 obtain ⟨hp6,hs7,hT8⟩:=I5 (P:=Tryz.prog) (ty:=28) (y:= .v (.int .i64 e)) (a':= .v (.int .i64 e)) (hT4.front 2 rfl) (by kernel_rfl) (by kernel_rfl) (by kernel_rfl)
 refine RunAL.q (o:=_) 0 (by kernel_rfl) rfl ?_
 refine AL AD 0 rfl (BY (x:=Hs p3 0) (AB rfl) rfl (FP (a:=p3) (by kernel_rfl) (DX (off:=0) hT1 (by kernel_rfl)))) (AH rfl ?_)
 refine Qy 1 2 (by kernel_rfl) rfl rfl ?_ ?_
 ·refine AL AD 0 rfl (BY (x:= .v (.int .i64 e)) (AB rfl) rfl (Dq (p:=Hs p3 0) (by kernel_rfl) (F6 (off:=0) (y:= .v (.int .i64 e)) (m:=1) (g:=false) hT1 (by kernel_rfl) (by kernel_rfl) (by kernel_rfl)))) (AH rfl ?_)
  refine Kg 2 (by kernel_rfl) rfl ?_
  refine RunL.store AD (y:=p2) (z:= .e0) rfl (AB rfl) (by kernel_rfl) (by kernel_rfl) hs3 (AH rfl ?_)
  refine Kg 3 (by kernel_rfl) rfl ?_
  refine RunL.store AD (y:=p4) (z:= .v (.int .i64 e)) rfl (AB rfl) (by kernel_rfl) (by kernel_rfl) hs7 (AH rfl ?_)
  exact RunAL.done (by kernel_rfl) (hT8.front 1 rfl)
 ·refine RunL.store AD (y:=p2) (z:= .e0) rfl (AB rfl) (by kernel_rfl) (by kernel_rfl) hs3 (AH rfl ?_)
  refine Kg 1 (by kernel_rfl) rfl ?_
  refine AL AD 0 rfl (BY (x:= .v (.int .i64 e)) (AB rfl) rfl (Dq (p:=Hs p3 0) (by kernel_rfl) (F6 (off:=0) (y:= .v (.int .i64 e)) (m:=1) (g:=false) hT4b (by kernel_rfl) (by kernel_rfl) (by kernel_rfl)))) (AH rfl ?_)
  refine Kg 3 (by kernel_rfl) rfl ?_
  refine RunL.store AD (y:=p4) (z:= .v (.int .i64 e)) rfl (AB rfl) (by kernel_rfl) (by kernel_rfl) hs7 (AH rfl ?_)
  exact RunAL.done (by kernel_rfl) (hT8.front 1 rfl)
def RW:TypeDesc->Bool
 | .interface _=>false
 | _=>true
section
variable {P:Program}{ops:Array Oper}{Q:Exit->Act->List Frame->World->Prop}{cs cs':List Frame}{a:Act}{w:World}{o:Oper}{i:Nat}{rest:List Nat}{v:Value}
theorem S7 {b:Array Operand}{c:Array TypeId}(ho:ops[i]? = some o) (hg:o.guard=none) (hop:o.op = .call ⟨.builtin .recover,b,c⟩) (hrec:recoverD cs=some (v,cs')) (k:wpOpsSIn (Fw none) 0 P ops Q rest (a.put o.dst v) cs' w):wpOpsSIn (Fw none) 0 P ops Q (i::rest) a cs w:=by
 unfold wpOpsSIn
 rw [ho]
 dsimp only
 refine ⟨fun _ _=>trivial,?_⟩
 rw [if_pos (by simp [Region.wanted,hg])]
 have hr:(execOp a.eval o).run P w = .ok .recover w:=by
  simp [execOp,hop,resolve,invoke]
  rfl
 rw [hr]
 dsimp only
 rw [hrec]
 exact k
theorem UE {x:Operand}{t u:TypeId}{d:TypeDesc}(ho:ops[i]? = some o) (hg:o.guard=none) (hop:o.op = .typeAssert x t u true) (hu:P.underlying u=some d) (hd:RW d=true) (hx:a.eval x = .iface u v) (k:wpOpsSIn (Fw none) 0 P ops Q rest (a.put o.dst (.tuple #[v,.bool true])) cs w):wpOpsSIn (Fw none) 0 P ops Q (i::rest) a cs w:=by
 unfold wpOpsSIn
 rw [ho]
 dsimp only
 refine ⟨fun _ _=>trivial,?_⟩
 rw [if_pos (by simp [Region.wanted,hg])]
 have hr:(execOp a.eval o).run P w = .ok (.value (.tuple #[v,.bool true])) w:=by
  simp only [execOp,hop,hx]
  rw [Sem.run_bind]
  have:(Instr.typeAssert (.iface u v) t u true).run P w = .ok (.tuple #[v,.bool true]) w:=by
   unfold Instr.typeAssert
   rw [Sem.run_bind,run_underlying hu]
   cases d <;> simp [Result.andThen,RW] at hd ⊢
  rw [this]
  rfl
 rw [hr]
 exact k
end
noncomputable def OV:Array Oper:=match Tryz.f32.body with | some (.seq (.region _ ops _) _)=>ops | _=>#[]
noncomputable def MH:Array Oper:=match Tryz.f32.body with | some (.seq _ (.seq (.region _ ops _) _))=>ops | _=>#[]
def Up (u0 u1:Value):List (Option AV):=some (.v u0)::some (.v u1)::List.replicate 10 none
def rcS (u0 u1:Value) (e:Int):St:=⟨Ip (Ip (Up u0 u1) (some 5) (.v (Hq e))) (some 6) (.tp [.ag [.v (.int .i64 e)],.v (.bool true)]),[]⟩
noncomputable def Va (u0 u1:Value) (e:Int):St:=(Gw E0 (OV.toList.drop 2) (rcS u0 u1 e)).getD ⟨[],[]⟩
noncomputable def SL (u0 u1:Value) (e:Int):St:=(Gw E0 MH.toList (Va u0 u1 e)).getD ⟨[],[]⟩
theorem V0 (u0 u1:Value) (e:Int):Gw E0 (OV.toList.drop 2) (rcS u0 u1 e)=some (Va u0 u1 e):=by kernel_rfl
theorem V1 (u0 u1:Value) (e:Int):Gw E0 MH.toList (Va u0 u1 e)=some (SL u0 u1 e):=by kernel_rfl
theorem Vb (u0 u1:Value) (e:Int):(SL u0 u1 e).hp=[some ⟨1,81,[.v (.int .i64 e)],false⟩]:=by kernel_rfl
theorem UM (u0 u1:Value) (e:Int):(SL u0 u1 e).fr[0]? = some (some (.v u0)):=by kernel_rfl
theorem UN (u0 u1:Value) (e:Int):(SL u0 u1 e).fr[1]? = some (some (.v u1)):=by kernel_rfl
theorem UO (u0 u1:Value) (e:Int):(SL u0 u1 e).fr[2]? = some (some (.pt 0 0 0)):=by kernel_rfl
theorem UP (u0 u1:Value) (e:Int):opA E0 (SL u0 u1 e).fr (.tmp 9)=some (.v (.bool true)):=by kernel_rfl
theorem UQ (u0 u1:Value) (e:Int):(SL u0 u1 e).fr.length=12:=by kernel_rfl
set_option maxHeartbeats 1000000 in
theorem Re {w1 : World} {Z : Nat → Prop} {R : List RI} {hp : Hp} {L : List Asn} {p2 x p4 : AV} {xs : List AJ} {m e : Int} {u0 u1 : Value} (hh : HR w1 Z R hp) (hg : GI E0 w1 Z) (hT : T hp (cel p2 1 25 x :: own_ (ocL 5 66 (ocV AA)) x xs :: cel p4 1 28 (.v (.int .i64 m)) :: L)) (h0 : VR w1 Z R p2 u0) (h1 : VR w1 Z R p4 u1) :
    CallsDIn (Fw none) 0 E0.P 32 #[u0, u1] (.panicking (JJ e)) w1 fun ex u' w2 => match ex with
      | .returned _ => settle u' = .returning ∧ ∃ Z2 R2 hp2 L2, HR w2 Z2 R2 hp2 ∧ Step w1 Z R hp w2 Z2 R2 hp2 ∧ T hp2 (cel p2 1 25 .e0 :: cel p4 1 28 (.v (.int .i64 e)) :: L2)
      | _ => False := by
  have o0 : u0.oneCell' = true := by
    obtain ⟨F, ⟨b, rfl, rfl, hb⟩, _⟩ := hT.act
    cases h0; rfl
  have o1 : u1.oneCell' = true := by
    obtain ⟨F, ⟨b, rfl, rfl, hb⟩, _⟩ := (hT.front 2 rfl).act
    cases h1; rfl
  refine callsDIn_of_wpSIn Tryz.func32 rfl trivial fun c₀ cs hm => ?_
  have hrec : recoverD (c₀ :: cs) = some (Hq e, { c₀ with mode := .panicking [{ v := Hq e, recovered := true }] } :: cs) := by simp [recoverD, hm, JJ]
  have hrec' : recoverD ({ c₀ with mode := .panicking [{ v := Hq e, recovered := true }] } :: cs) = none := by simp [recoverD]
  have sr0 : SR E0 (.of w1.heap.size) w1 Z [] ⟨Up u0 u1, []⟩ { tmps := #[u0, u1] ++ Array.replicate (Tryz.f32.ntmps - (#[u0, u1] : Array Value).size) undef, defers := [] } := by
    refine ⟨LA hh.zlt, ⟨rfl, fun t x hx => ?_⟩, rfl, hg, Nat.le_refl _⟩
    match t with
    | 0 => simp [Up] at hx; subst hx; exact .v o0
    | 1 => simp [Up] at hx; subst hx; exact .v o1
    | t + 2 =>
      have hx : (List.replicate 10 (none : Option AV))[t]? = some (some x) := hx
      rw [List.getElem?_replicate] at hx
      split at hx <;> cases hx
  refine wpSIn_seq (wpSIn_region ?_)
  show wpOpsSIn (Fw none) 0 E0.P OV _ (0 :: 1 :: List.range' 2 (OV.toList.drop 2).length) _ _ _
  refine S7 (o := _) rfl rfl rfl hrec ?_
  have hu0 : (match E0.P.underlying 81 with | some d => RW d | none => false) = true := by kernel_rfl
  obtain ⟨d, hu, hd⟩ : ∃ d, E0.P.underlying 81 = some d ∧ RW d = true := by
    cases hu : E0.P.underlying 81 with
    | none => rw [hu] at hu0; cases hu0
    | some d => rw [hu] at hu0; exact ⟨d, rfl, hu0⟩
  have sr01 := sr0.put (d := some 5) (x := .v (Hq e)) (u := Hq e) (.v rfl)
  refine UE (o := _) (u := 81) (v := .agg #[.int .i64 e]) rfl rfl rfl hu hd (opA_vr sr01 (.tmp 5) (.v (Hq e)) (by kernel_rfl)).v_inv ?_
  have sr1 := sr01.put (d := some 6) (x := .tp [.ag [.v (.int .i64 e)], .v (.bool true)]) (u := .tuple #[.agg #[.int .i64 e], .bool true]) (.tp (us := [.agg #[.int .i64 e], .bool true]) rfl (fun i x u hx hu => by
    match i with
    | 0 =>
      simp at hx hu; subst hx hu
      exact .ag (us := [.int .i64 e]) rfl rfl (fun i x u hx hu => by
        match i with
        | 0 => simp at hx hu; subst hx hu; exact .v rfl
        | i + 1 => simp at hx)
    | 1 => simp at hx hu; subst hx hu; exact .v rfl
    | i + 2 => simp at hx))
  refine D2 hrec' (rest := OV.toList.drop 2) (k := 2) (D := []) (V0 u0 u1 e) sr1 rfl (fun j => by simp) fun a2 w2 Z2 R2 sr2 hD2 st2 => ?_
  show (Code.seq _ _).wpSIn _ _ _ _ _ _ _
  refine wpSIn_seq (wpSIn_region ?_)
  show wpOpsSIn (Fw none) 0 E0.P MH _ (List.range' 0 MH.toList.length) _ _ _
  refine D2 hrec' (rest := MH.toList) (k := 0) (D := []) (V1 u0 u1 e) sr2 hD2 (fun j => by simp) fun a3 w3 Z3 R3 sr3 hD3 st3 => ?_
  show (Code.cond _ _ _).wpSIn _ _ _ _ _ _ _
  refine wpSIn_cond (t := true) (opA_vr sr3 _ _ (UP u0 u1 e)).v_inv ?_
  have st : Step w1 Z [] [] w3 Z3 R3 (SL u0 u1 e).hp := st2.trans st3
  have hh3 := sr3.hh
  rw [Vb] at st hh3
  obtain ⟨j1, j2⟩ := hh.joinF st.w hh3 (by kernel_rfl)
  have hz : ∀ b, Z b → w3.heap[b]? = w1.heap[b]? := fun c hc => st.block c (hh.zlt c hc) fun ⟨b, B, r, hb, _⟩ => by simp at hb
  have v0 : a3.tmps.getD 0 undef = u0 := (sr3.fr.2 0 _ (UM u0 u1 e)).v_inv
  have v1 : a3.tmps.getD 1 undef = u1 := (sr3.fr.2 1 _ (UN u0 u1 e)).v_inv
  have v2 := sr3.fr.2 2 _ (UO u0 u1 e)
  have sr4 : SR E0 (.of w1.heap.size) w3 Z3 (R ++ R3) ⟨Fr 12 [(0, p2), (1, p4), (2, .pt hp.length 0 0)], hp ++ [some ⟨1, 81, [.v (.int .i64 e)], false⟩]⟩ a3 := by
    refine ⟨j1, ⟨by rw [Da, ← sr3.fr.1, UQ], fun t x hx => ?_⟩, by rw [hD3]; rfl, sr3.gl, sr3.bs⟩
    rw [DW] at hx
    match t with
    | 0 => have hx : p2 = x := by simpa [lk] using hx
           subst hx; rw [v0]; exact h0.mono hz st.z j2.r
    | 1 => have hx : p4 = x := by simpa [lk] using hx
           subst hx; rw [v1]; exact h1.mono hz st.z j2.r
    | 2 => have hx : AV.pt hp.length 0 0 = x := by simpa [lk] using hx
           subst hx; exact UT (x := .pt 0 0 0) hh.len (by kernel_rfl) v2
    | t + 3 => simp [lk] at hx
  have hT4 : T (hp ++ [some ⟨1, 81, [.v (.int .i64 e)], false⟩]) (cel p2 1 25 x :: own_ (ocL 5 66 (ocV AA)) x xs :: cel p4 1 28 (.v (.int .i64 m)) :: cel (.pt hp.length 0 0) 1 81 (.v (.int .i64 e)) :: L) := by
    have := (hT.add (P := cel (.pt hp.length 0 0) 1 81 (.v (.int .i64 e))) (F := [hp.length]) (h' := hp ++ [some ⟨1, 81, [.v (.int .i64 e)], false⟩]) ⟨hp.length, rfl, rfl, by simp⟩ (by simp) (fun b hb => List.getElem?_append_left hb) (fun b hb => by simp at hb; omega))
    exact ((this.front 3 rfl).front 3 rfl).front 3 rfl
  refine wpSIn_of_wpIn rfl ?_
  refine Qz (ops := UJ) AD (by kernel_rfl) (UK _ _ _ _ _ _ _ hT4) sr4 fun s5 a5 w5 Z5 R5 hT5 sr5 st5 hD5 => ?_
  have h00 : (Array.mapM (OW a5.tmps) (#[] : Array ResultVar)).run E0.P w5 = .ok #[] w5 := J7 (us := []) (by simp)
  refine ⟨hD5.trans hD3, .panicking [{ v := Hq e, recovered := true }], rfl, .tuple #[], ?_, rfl, Z5, R5, s5.hp, _, sr5.hh, j2.trans st5, hT5⟩
  rw [J6, Sem.run_bind]
  rw [show Tryz.f32.results = #[] from rfl, h00]
  rfl
end Go.Proofs.YtdjhmdbpcfnpgaaGreatDoor
namespace Go.Proofs.YtdjhmdbpcfnpgaaGreatDoor
open Go.Shelf
open Go.RowKit Go.Lib
def Dm (s:List UInt8) (c:Int):Option Int:=some (Lib.indexByte s c.toNat.toUInt8)
def D8:Cs (List UInt8×Int×Unit):=csC cdS (csC (cdK .u8) csN)
def Gy (r:Int):AV:=cdI.enc r
def HZ:List AV->Option AV:=Ea D8 (fun a=>Dm a.1 a.2.1) Gy
theorem Hf:XOk 94 HZ:=by
 refine ⟨⟨Tryz.call94⟩,fun xs x h w Z us _ _ hv=>?_⟩
 obtain ⟨⟨s,c,u⟩,ha,hh⟩:=OB h
 obtain ⟨r,hb,rfl⟩:=Option.map_eq_some_iff.1 hh
 clear h hh
 replace hv:=D8.vr ha hv
 clear ha
 obtain ⟨u1,r1,rfl,h1,hv⟩:=hv.head
 obtain ⟨u2,r2,rfl,h2,hv⟩:=hv.head
 have:r2=[]:=List.eq_nil_of_length_eq_zero hv.len
 subst this
 have e2:=h2.v_inv
 subst e2
 have hb:r=Lib.indexByte s c.toNat.toUInt8:=(OI hb).symm
 subst hb
 cases h1 with
 | st hs hn =>
  rename_i sb
  refine Calls.mono (Any.stringslite_IndexByte QN sb c w) fun e w' he=>?_
  obtain ⟨rfl,rfl⟩:=he
  exact ⟨J3 _,by rw [hs]; exact .v rfl⟩
def HY (s sub:List UInt8):Option Int:=match sub with
 | [c]=>some ((Lib.countByte s c:Nat):Int)
 | _=>none
def Hl:Cs (List UInt8×List UInt8×Unit):=csC cdS (csC cdS csN)
def KV (r:Int):AV:=cdI.enc r
def LU:List AV->Option AV:=Ea Hl (fun a=>HY a.1 a.2.1) KV
theorem Lc:XOk 13 LU:=by
 refine ⟨⟨Tryz.call13⟩,fun xs x h w Z us _ _ hv=>?_⟩
 obtain ⟨⟨s,sub,u⟩,ha,hh⟩:=OB h
 obtain ⟨r,hb,rfl⟩:=Option.map_eq_some_iff.1 hh
 clear h hh
 replace hv:=Hl.vr ha hv
 clear ha
 obtain ⟨u1,r1,rfl,h1,hv⟩:=hv.head
 obtain ⟨u2,r2,rfl,h2,hv⟩:=hv.head
 have:r2=[]:=List.eq_nil_of_length_eq_zero hv.len
 subst this
 obtain ⟨sb,rfl,hs⟩:∃ sb,u1 = .string sb/\sb.data.toList=s:=by cases h1 with | st h _=>exact ⟨_,rfl,h⟩
 obtain ⟨c,rfl,hr⟩:∃ c,sub=[c]/\r=((Lib.countByte s c:Nat):Int):=by
  have hb:HY s sub=some r:=hb
  match sub,hb with
  | [c],hb=>exact ⟨c,rfl,(OI hb).symm⟩
 clear hb
 subst hr
 obtain ⟨sc,rfl,hs2⟩:∃ sc,u2 = .string sc/\sc.data.toList=[c]:=by cases h2 with | st h _=>exact ⟨_,rfl,h⟩
 have e:sc=ByteArray.mk #[c]:=by
  obtain ⟨d⟩:=sc
  congr 1
  apply Array.ext'
  exact hs2
 subst e
 refine Calls.mono (Any.strings_Count_one QM sb c w) fun e w' he=>?_
 obtain ⟨rfl,rfl⟩:=he
 exact ⟨J3 _,by rw [hs]; exact .v rfl⟩
/- internal/stringslite.Index -/
noncomputable def FR:Code:=Bc Tryz.f76
def CD (x0:(List UInt8)) (x1:(List UInt8)):Option (Int) :=
 (if ((x1.length:Int)==0)=true then some true else some (x1==x0)).bind fun j2 =>
 if j2=true then
 some 0
 else
 if ((x1.length:Int)==1)=true then
 (idx x1 0).bind fun v5 =>
 (Dm x0 (v5.toNat:Int)).bind fun v6 =>
 some v6
 else
 if (decide ((x1.length:Int)≥(x0.length:Int)))=true then
 some (-1)
 else
 none
def Dt:Cs ((List UInt8)×(List UInt8)×Unit):=(csC cdS (csC cdS csN))
def Du (r:Int):AV:=cdI.enc r
theorem IL (x0:(List UInt8)) (x1:(List UInt8)) (r:Int) (h:CD x0 x1=some r):Sem E0 ⟨none,false⟩ FR ⟨Fr 143 (BF 0 (Dt.enc (x0,x1,()))),[]⟩ fun e s'=>(e = .normal\/e = .ret)/\∃ xs,Dk E0.P s'.fr s'.hp Tryz.f76.results.toList=some xs/\EB xs=Du r:=by
 unfold CD at h;refine Bm (Cg (s1:=⟨Fr 143 [(0,.st x0),(1,.st x1)],[]⟩) AM ?_);refine AF ?_;refine AI (s1:=⟨Fr 143 [(0,.st x0),(1,.st x1)],[]⟩) ?_ ?_
 ·refine AC (n:=143) AD 1 [(0,.st x0),(1,.st x1)] [] (by kernel_rfl) ?_
  exact AE rfl AM
 refine AF ?_;refine AI (s1:=⟨Fr 143 [(0,.st x0),(1,.st x1),(5,.j (x1.length:Int))],[]⟩) ?_ ?_
 ·refine AC (n:=143) AD 3 [(0,.st x0),(1,.st x1),(5,.j (x1.length:Int))] [] (by kernel_rfl) ?_
  exact AE rfl AM
 refine AF ?_;refine A0 ?_;refine AF ?_;obtain ⟨j2,hj2,h⟩:=OB h;refine AI (s1:=⟨Fr 143 [(0,.st x0),(1,.st x1),(5,.j (x1.length:Int)),(16,.b j2)],[]⟩) ?_ ?_
 ·refine AC (n:=143) AD 3 [(0,.st x0),(1,.st x1),(5,.j (x1.length:Int)),(19,.b ((x1.length:Int)==0))] [] (by kernel_rfl) ?_
  rcases BE ((x1.length:Int)==0) with hc8 | hc8
  ·rw [if_pos hc8] at hj2
   rw [hc8];refine AC (n:=143) AD 5 [(0,.st x0),(1,.st x1),(5,.j (x1.length:Int)),(16,.b true)] [] (by kernel_rfl) ?_;have hq:=OI hj2; subst hq;exact AE rfl AM
  ·rw [BH hc8] at hj2
   rw [hc8];refine AC (n:=143) AD 5 [(0,.st x0),(1,.st x1),(5,.j (x1.length:Int)),(16,.b (x1==x0))] [] (by kernel_rfl) ?_;have hq:=OI hj2; subst hq;exact AE rfl AM
 refine AP (b:=j2) (by kernel_rfl) (fun hb3=>?_) (fun hb3=>?_)
 ·rw [if_pos hb3] at h
  refine AF ?_;refine AI (s1:=⟨Fr 143 [(4,.j 0)],[]⟩) ?_ ?_
  ·refine AC (n:=143) AD 1 [(4,.j 0)] [] (by kernel_rfl) ?_
   exact AE rfl AM
  refine AU ?_;have hq:=OI h; subst hq;exact ⟨⟨Fr 143 [(4,.j 0)],[]⟩,AM,.inr rfl,[.j 0],(by kernel_rfl),(by kernel_rfl)⟩
 ·rw [BH hb3] at h
  refine AF ?_;refine AI (s1:=⟨Fr 143 [(0,.st x0),(1,.st x1),(5,.j (x1.length:Int)),(24,.b ((x1.length:Int)==1))],[]⟩) ?_ ?_
  ·refine AC (n:=143) AD 3 [(0,.st x0),(1,.st x1),(5,.j (x1.length:Int)),(24,.b ((x1.length:Int)==1))] [] (by kernel_rfl) ?_
   exact AE rfl AM
  refine AP (b:=((x1.length:Int)==1)) (by kernel_rfl) (fun hb4=>?_) (fun hb4=>?_)
  ·rw [if_pos hb4] at h
   refine AF ?_;obtain ⟨v5,hv5,h⟩:=OB h;obtain ⟨v6,hv6,h⟩:=OB h;refine AI (s1:=⟨Fr 143 [(4,.j v6)],[]⟩) ?_ ?_
   ·refine AC (n:=143) AD 2 [(27,.st x0),(28,.st x1)] [] (by kernel_rfl) ?_
    refine AW AD 0 rfl (BY (AB rfl) rfl (D4 (a:= .st x1) (b:= .j 0) (by kernel_rfl) (by kernel_rfl) (DT (bs:=x1) (ki:= .i64) (by kernel_rfl) hv5))) ?_;refine Af (caps:=[]) (xs:=[.st x0,.v (.int .u8 (v5.toNat:Int))]) (u:=(x0,(v5.toNat:Int),())) rfl rfl Hf rfl (AB rfl) (by kernel_rfl) (by kernel_rfl) (Ah (A2 (c:=cdS) (v:=x0)) (Ah (A2 (c:=(cdK .u8)) (v:=(v5.toNat:Int))) BZ)) (.inl (by kernel_rfl)) hv6 ?_;refine AC (n:=143) AD 1 [(4,.j v6)] [] (by kernel_rfl) ?_;exact AE rfl AM
   refine AU ?_;have hq:=OI h; subst hq;exact ⟨⟨Fr 143 [(4,.j v6)],[]⟩,AM,.inr rfl,[.j v6],(by kernel_rfl),(by kernel_rfl)⟩
  ·rw [BH hb4] at h
   refine AF ?_;refine AI (s1:=⟨Fr 143 [(31,.b (decide ((x1.length:Int)≥(x0.length:Int))))],[]⟩) ?_ ?_
   ·refine AC (n:=143) AD 5 [(31,.b (decide ((x1.length:Int)≥(x0.length:Int))))] [] (by kernel_rfl) ?_
    exact AE rfl AM
   refine AP (b:=(decide ((x1.length:Int)≥(x0.length:Int)))) (by kernel_rfl) (fun hb7=>?_) (fun hb7=>?_)
   ·rw [if_pos hb7] at h
    refine AF ?_;refine AI (s1:=⟨Fr 143 [(4,.j (-1))],[]⟩) ?_ ?_
    ·refine AC (n:=143) AD 1 [(4,.j (-1))] [] (by kernel_rfl) ?_
     exact AE rfl AM
    refine AU ?_;have hq:=OI h; subst hq;exact ⟨⟨Fr 143 [(4,.j (-1))],[]⟩,AM,.inr rfl,[.j (-1)],(by kernel_rfl),(by kernel_rfl)⟩
   ·rw [BH hb7] at h
    refine AF ?_;cases h
def I9:List AV->Option AV:=Ea Dt (fun a=>CD a.1 a.2.1) Du
theorem GB:XOk 76 I9:=by
 refine Ap Tryz.func76 (c:=FR) ?h2 ⟨Tryz.call76⟩ Dt (fun a=>CD a.1 a.2.1) Du (fun a=>(by show 2<=143; decide)) ?h3 ?h4
 case h2=>kernel_rfl
 case h3=>intro b; kernel_rfl
 case h4=>exact fun a b h=>IL a.1 a.2.1 b h
/- internal/stringslite.Cut -/
noncomputable def GJ:Code:=Bc Tryz.f64
def DF (x0:(List UInt8)) (x1:(List UInt8)):Option ((List UInt8)×(List UInt8)×Bool) :=
 (CD x0 x1).bind fun v1 =>
 if (decide (v1≥0))=true then
 if (By 0 v1 x0.length)=true then
 if (By (wr .i64 (v1 + (x1.length:Int))) (x0.length:Int) x0.length)=true then
 some (((x0.take v1.toNat).drop (0:Int).toNat),((x0.take (x0.length:Int).toNat).drop (wr .i64 (v1 + (x1.length:Int))).toNat),true)
 else none
 else none
 else
 some (x0,[],false)
def EP:Cs ((List UInt8)×(List UInt8)×Unit):=(csC cdS (csC cdS csN))
def EQ (r:(List UInt8)×(List UInt8)×Bool):AV:= .tp [cdS.enc r.1,cdS.enc r.2.1,cdB.enc r.2.2]
theorem I7 (x0:(List UInt8)) (x1:(List UInt8)) (r:(List UInt8)×(List UInt8)×Bool) (h:DF x0 x1=some r):Sem E0 ⟨none,false⟩ GJ ⟨Fr 23 (BF 0 (EP.enc (x0,x1,()))),[]⟩ fun e s'=>(e = .normal\/e = .ret)/\∃ xs,Dk E0.P s'.fr s'.hp Tryz.f64.results.toList=some xs/\EB xs=EQ r:=by
 unfold DF at h;refine Bm (Cg (s1:=⟨Fr 23 [(0,.st x0),(1,.st x1)],[]⟩) AM ?_);refine AF ?_;refine AI (s1:=⟨Fr 23 [(0,.st x0),(1,.st x1)],[]⟩) ?_ ?_
 ·refine AC (n:=23) AD 3 [(0,.st x0),(1,.st x1)] [] (by kernel_rfl) ?_
  exact AE rfl AM
 refine AF ?_;refine AF ?_;obtain ⟨v1,hv1,h⟩:=OB h
 let p1:Nat×AV:=(7,.j v1)
 refine AI (s1:=⟨Fr 23 [(0,.st x0),(1,.st x1),p1],[]⟩) ?_ ?_
 ·refine AC (n:=23) AD 2 [(0,.st x0),(1,.st x1),(8,.st x0),(9,.st x1)] [] (by kernel_rfl) ?_
  refine Af (caps:=[]) (xs:=[.st x0,.st x1]) (u:=(x0,x1,())) rfl rfl GB rfl (AB rfl) (by kernel_rfl) (by kernel_rfl) (Ah (A2 (c:=cdS) (v:=x0)) (Ah (A2 (c:=cdS) (v:=x1)) BZ)) (.inl (by kernel_rfl)) hv1 ?_;refine AC (n:=23) AD 1 [(0,.st x0),(1,.st x1),p1] [] (by kernel_rfl) ?_;exact AE rfl AM
 refine AF ?_
 let p2:Nat×AV:=(12,.b (decide (v1≥0)))
 refine AI (s1:=⟨Fr 23 [(0,.st x0),(1,.st x1),p1,p2],[]⟩) ?_ ?_
 ·refine AC (n:=23) AD 2 [(0,.st x0),(1,.st x1),p1,p2] [] (by kernel_rfl) ?_
  exact AE rfl AM
 refine AP (b:=(decide (v1≥0))) (by kernel_rfl) (fun hb2=>?_) (fun hb2=>?_)
 ·rw [if_pos hb2] at h
  refine AF ?_;by_cases hk3:(By 0 v1 x0.length)=true
  case neg=>rw [if_neg hk3] at h; cases h
  rw [if_pos hk3] at h;by_cases hk4:(By (wr .i64 (v1 + (x1.length:Int))) (x0.length:Int) x0.length)=true
  case neg=>rw [if_neg hk4] at h; cases h
  rw [if_pos hk4] at h
  let p3:Nat×AV:=(6,.b true)
  let p4:Nat×AV:=(5,.st ((x0.take (x0.length:Int).toNat).drop (wr .i64 (v1 + (x1.length:Int))).toNat))
  let p5:Nat×AV:=(4,.st ((x0.take v1.toNat).drop (0:Int).toNat))
  refine Hu AD (s1:=⟨Fr 23 [p5,p4,p3],[]⟩) (by kernel_rfl) ?_ ?_
  ·refine BT (n:=23) AD 2 [(0,.st x0),(1,.st x1),p1,(13,.st x0),(14,.j v1)] [] (by kernel_rfl) (by kernel_rfl) ?_
   refine RunDS.one AD rfl (by kernel_rfl) (KZ (by kernel_rfl) (AB rfl) rfl (Di (a:= .st x0) (l:=none) (u:=(some (.j v1))) (m:=none) (by kernel_rfl) (by kernel_rfl) (by kernel_rfl) rfl (Ge (bs:=x0) (lo:=0) (hi:=v1) (by kernel_rfl) rfl (Ee (L5 hk3)) hk3)) (by kernel_rfl)) ?_;refine BT (n:=23) AD 5 [(15,.st ((x0.take v1.toNat).drop (0:Int).toNat)),(16,.st x0),(20,.j (wr .i64 (v1 + (x1.length:Int))))] [] (by kernel_rfl) (by kernel_rfl) ?_;refine RunDS.one AD rfl (by kernel_rfl) (KZ (by kernel_rfl) (AB rfl) rfl (Di (a:= .st x0) (l:=(some (.j (wr .i64 (v1 + (x1.length:Int)))))) (u:=none) (m:=none) (by kernel_rfl) (by kernel_rfl) (by kernel_rfl) rfl (Ge (bs:=x0) (lo:=(wr .i64 (v1 + (x1.length:Int)))) (hi:=(x0.length:Int)) (by kernel_rfl) (Ee (Hm hk4)) rfl hk4)) (by kernel_rfl)) ?_;refine BT (n:=23) AD 3 [p5,p4,p3] [] (by kernel_rfl) (by kernel_rfl) ?_;exact RunDS.done rfl AM
  refine AU ?_;have hq:=OI h; subst hq;exact ⟨⟨Fr 23 [p5,p4,p3],[]⟩,AM,.inr rfl,[.st ((x0.take v1.toNat).drop (0:Int).toNat),.st ((x0.take (x0.length:Int).toNat).drop (wr .i64 (v1 + (x1.length:Int))).toNat),.b true],(by kernel_rfl),(by kernel_rfl)⟩
 ·rw [BH hb2] at h
  refine AX ?_;refine AF ?_
  let p6:Nat×AV:=(6,.b false)
  refine AI (s1:=⟨Fr 23 [(4,.st x0),(5,.st []),p6],[]⟩) ?_ ?_
  ·refine AC (n:=23) AD 4 [(4,.st x0),(5,.st []),p6] [] (by kernel_rfl) ?_
   exact AE rfl AM
  refine AU ?_;have hq:=OI h; subst hq;exact ⟨⟨Fr 23 [(4,.st x0),(5,.st []),p6],[]⟩,AM,.inr rfl,[.st x0,.st [],.b false],(by kernel_rfl),(by kernel_rfl)⟩
def KB:List AV->Option AV:=Ea EP (fun a=>DF a.1 a.2.1) EQ
theorem KF:XOk 64 KB:=by
 refine Ap Tryz.func64 (c:=GJ) ?h2 ⟨Tryz.call64⟩ EP (fun a=>DF a.1 a.2.1) EQ (fun a=>(by show 2<=23; decide)) ?h3 ?h4
 case h2=>kernel_rfl
 case h3=>intro b; kernel_rfl
 case h4=>exact fun a b h=>I7 a.1 a.2.1 b h
/- strings.Cut -/
noncomputable def Ij:Code:=Bc Tryz.f33
def D5 (x0:(List UInt8)) (x1:(List UInt8)):Option ((List UInt8)×(List UInt8)×Bool) :=
 (DF x0 x1).bind fun v1 =>
 some (v1.1,v1.2.1,v1.2.2)
def Gk:Cs ((List UInt8)×(List UInt8)×Unit):=(csC cdS (csC cdS csN))
def Gn (r:(List UInt8)×(List UInt8)×Bool):AV:= .tp [cdS.enc r.1,cdS.enc r.2.1,cdB.enc r.2.2]
theorem LP (x0:(List UInt8)) (x1:(List UInt8)) (r:(List UInt8)×(List UInt8)×Bool) (h:D5 x0 x1=some r):Sem E0 ⟨none,false⟩ Ij ⟨Fr 13 (BF 0 (Gk.enc (x0,x1,()))),[]⟩ fun e s'=>(e = .normal\/e = .ret)/\∃ xs,Dk E0.P s'.fr s'.hp Tryz.f33.results.toList=some xs/\EB xs=Gn r:=by
 unfold D5 at h;refine Bm (Cg (s1:=⟨Fr 13 [(0,.st x0),(1,.st x1)],[]⟩) AM ?_);refine AF ?_;refine AI (s1:=⟨Fr 13 [(0,.st x0),(1,.st x1)],[]⟩) ?_ ?_
 ·refine AC (n:=13) AD 3 [(0,.st x0),(1,.st x1)] [] (by kernel_rfl) ?_
  exact AE rfl AM
 refine AF ?_;obtain ⟨v1,hv1,h⟩:=OB h
 let p1:Nat×AV:=(6,.b v1.2.2)
 refine AI (s1:=⟨Fr 13 [(4,.st v1.1),(5,.st v1.2.1),p1],[]⟩) ?_ ?_
 ·refine AC (n:=13) AD 2 [(7,.st x0),(8,.st x1)] [] (by kernel_rfl) ?_
  refine Af (caps:=[]) (xs:=[.st x0,.st x1]) (u:=(x0,x1,())) rfl rfl KF rfl (AB rfl) (by kernel_rfl) (by kernel_rfl) (Ah (A2 (c:=cdS) (v:=x0)) (Ah (A2 (c:=cdS) (v:=x1)) BZ)) (.inl (by kernel_rfl)) hv1 ?_;refine AC (n:=13) AD 6 [(4,.st v1.1),(5,.st v1.2.1),p1] [] (by kernel_rfl) ?_;exact AE rfl AM
 refine AU ?_;have hq:=OI h; subst hq;exact ⟨⟨Fr 13 [(4,.st v1.1),(5,.st v1.2.1),p1],[]⟩,AM,.inr rfl,[.st v1.1,.st v1.2.1,.b v1.2.2],(by kernel_rfl),(by kernel_rfl)⟩
def Mz:List AV->Option AV:=Ea Gk (fun a=>D5 a.1 a.2.1) Gn
theorem M9:XOk 33 Mz:=by
 refine Ap Tryz.func33 (c:=Ij) ?h2 ⟨Tryz.call33⟩ Gk (fun a=>D5 a.1 a.2.1) Gn (fun a=>(by show 2<=13; decide)) ?h3 ?h4
 case h2=>kernel_rfl
 case h3=>intro b; kernel_rfl
 case h4=>exact fun a b h=>LP a.1 a.2.1 b h
/- trestle/court.word -/
noncomputable def JG:Code:=Bc Tryz.f29
def Ef (x0:Int):Option ((List UInt8)) :=
 if (x0==1)=true then
 some [114,97,110,107]
 else
 if (x0==2)=true then
 some [101,108,100,101,114]
 else
 if (x0==3)=true then
 some [121,111,117,116,104]
 else
 if (x0==4)=true then
 some [115,105,100,101]
 else
 if (x0==5)=true then
 some [104,111,115,116]
 else
 if (x0==6)=true then
 some [116,111,110,103,117,101]
 else
 if (x0==7)=true then
 some [99,111,117,114,116]
 else
 if (x0==8)=true then
 some [110,97,109,101]
 else
 if (x0==9)=true then
 some [108,105,115,116]
 else
 if (x0==10)=true then
 some [108,111,116]
 else
 some []
def HG:Cs (Int×Unit):=(csC (cdK .u8) csN)
def HL (r:(List UInt8)):AV:=cdS.enc r
theorem Li (x0:Int) (r:(List UInt8)) (h:Ef x0=some r):Sem E0 ⟨none,false⟩ JG ⟨Fr 24 (BF 0 (HG.enc (x0,()))),[]⟩ fun e s'=>(e = .normal\/e = .ret)/\∃ xs,Dk E0.P s'.fr s'.hp Tryz.f29.results.toList=some xs/\EB xs=HL r:=by
 unfold Ef at h
 let p1:Nat×AV:=(0,.v (.int .u8 x0))
 refine Bm (Cg (s1:=⟨Fr 24 [p1],[]⟩) AM ?_);refine AF ?_;refine AI (s1:=⟨Fr 24 [p1],[]⟩) ?_ ?_
 ·refine AC (n:=24) AD 1 [p1] [] (by kernel_rfl) ?_
  exact AE rfl AM
 refine AF ?_;refine AF ?_
 let p2:Nat×AV:=(3,.v (.int .u8 x0))
 refine AI (s1:=⟨Fr 24 [p2],[]⟩) ?_ ?_
 ·refine AC (n:=24) AD 1 [p2] [] (by kernel_rfl) ?_
  exact AE rfl AM
 refine A0 ?_;refine AF ?_;refine AI (s1:=⟨Fr 24 [p2,(4,.b (x0==1))],[]⟩) ?_ ?_
 ·refine AC (n:=24) AD 2 [p2,(4,.b (x0==1))] [] (by kernel_rfl) ?_
  exact AE rfl AM
 refine AP (b:=(x0==1)) (by kernel_rfl) (fun hb1=>?_) (fun hb1=>?_)
 ·rw [if_pos hb1] at h
  refine AF ?_
  let p3:Nat×AV:=(2,.st [114,97,110,107])
  refine AI (s1:=⟨Fr 24 [p3],[]⟩) ?_ ?_
  ·refine AC (n:=24) AD 1 [p3] [] (by kernel_rfl) ?_
   exact AE rfl AM
  refine AU ?_;have hq:=OI h; subst hq;exact ⟨⟨Fr 24 [p3],[]⟩,AM,.inr rfl,[.st [114,97,110,107]],(by kernel_rfl),(by kernel_rfl)⟩
 ·rw [BH hb1] at h
  refine AF ?_;refine AI (s1:=⟨Fr 24 [p2,(6,.b (x0==2))],[]⟩) ?_ ?_
  ·refine AC (n:=24) AD 2 [p2,(6,.b (x0==2))] [] (by kernel_rfl) ?_
   exact AE rfl AM
  refine AP (b:=(x0==2)) (by kernel_rfl) (fun hb2=>?_) (fun hb2=>?_)
  ·rw [if_pos hb2] at h
   refine AF ?_
   let p4:Nat×AV:=(2,.st [101,108,100,101,114])
   refine AI (s1:=⟨Fr 24 [p4],[]⟩) ?_ ?_
   ·refine AC (n:=24) AD 1 [p4] [] (by kernel_rfl) ?_
    exact AE rfl AM
   refine AU ?_;have hq:=OI h; subst hq;exact ⟨⟨Fr 24 [p4],[]⟩,AM,.inr rfl,[.st [101,108,100,101,114]],(by kernel_rfl),(by kernel_rfl)⟩
  ·rw [BH hb2] at h
   refine AF ?_;refine AI (s1:=⟨Fr 24 [p2,(8,.b (x0==3))],[]⟩) ?_ ?_
   ·refine AC (n:=24) AD 2 [p2,(8,.b (x0==3))] [] (by kernel_rfl) ?_
    exact AE rfl AM
   refine AP (b:=(x0==3)) (by kernel_rfl) (fun hb3=>?_) (fun hb3=>?_)
   ·rw [if_pos hb3] at h
    refine AF ?_
    let p5:Nat×AV:=(2,.st [121,111,117,116,104])
    refine AI (s1:=⟨Fr 24 [p5],[]⟩) ?_ ?_
    ·refine AC (n:=24) AD 1 [p5] [] (by kernel_rfl) ?_
     exact AE rfl AM
    refine AU ?_;have hq:=OI h; subst hq;exact ⟨⟨Fr 24 [p5],[]⟩,AM,.inr rfl,[.st [121,111,117,116,104]],(by kernel_rfl),(by kernel_rfl)⟩
   ·rw [BH hb3] at h
    refine AF ?_;refine AI (s1:=⟨Fr 24 [p2,(10,.b (x0==4))],[]⟩) ?_ ?_
    ·refine AC (n:=24) AD 2 [p2,(10,.b (x0==4))] [] (by kernel_rfl) ?_
     exact AE rfl AM
    refine AP (b:=(x0==4)) (by kernel_rfl) (fun hb4=>?_) (fun hb4=>?_)
    ·rw [if_pos hb4] at h
     refine AF ?_
     let p6:Nat×AV:=(2,.st [115,105,100,101])
     refine AI (s1:=⟨Fr 24 [p6],[]⟩) ?_ ?_
     ·refine AC (n:=24) AD 1 [p6] [] (by kernel_rfl) ?_
      exact AE rfl AM
     refine AU ?_;have hq:=OI h; subst hq;exact ⟨⟨Fr 24 [p6],[]⟩,AM,.inr rfl,[.st [115,105,100,101]],(by kernel_rfl),(by kernel_rfl)⟩
    ·rw [BH hb4] at h
     refine AF ?_;refine AI (s1:=⟨Fr 24 [p2,(12,.b (x0==5))],[]⟩) ?_ ?_
     ·refine AC (n:=24) AD 2 [p2,(12,.b (x0==5))] [] (by kernel_rfl) ?_
      exact AE rfl AM
     refine AP (b:=(x0==5)) (by kernel_rfl) (fun hb5=>?_) (fun hb5=>?_)
     ·rw [if_pos hb5] at h
      refine AF ?_
      let p7:Nat×AV:=(2,.st [104,111,115,116])
      refine AI (s1:=⟨Fr 24 [p7],[]⟩) ?_ ?_
      ·refine AC (n:=24) AD 1 [p7] [] (by kernel_rfl) ?_
       exact AE rfl AM
      refine AU ?_;have hq:=OI h; subst hq;exact ⟨⟨Fr 24 [p7],[]⟩,AM,.inr rfl,[.st [104,111,115,116]],(by kernel_rfl),(by kernel_rfl)⟩
     ·rw [BH hb5] at h
      refine AF ?_;refine AI (s1:=⟨Fr 24 [p2,(14,.b (x0==6))],[]⟩) ?_ ?_
      ·refine AC (n:=24) AD 2 [p2,(14,.b (x0==6))] [] (by kernel_rfl) ?_
       exact AE rfl AM
      refine AP (b:=(x0==6)) (by kernel_rfl) (fun hb6=>?_) (fun hb6=>?_)
      ·rw [if_pos hb6] at h
       refine AF ?_
       let p8:Nat×AV:=(2,.st [116,111,110,103,117,101])
       refine AI (s1:=⟨Fr 24 [p8],[]⟩) ?_ ?_
       ·refine AC (n:=24) AD 1 [p8] [] (by kernel_rfl) ?_
        exact AE rfl AM
       refine AU ?_;have hq:=OI h; subst hq;exact ⟨⟨Fr 24 [p8],[]⟩,AM,.inr rfl,[.st [116,111,110,103,117,101]],(by kernel_rfl),(by kernel_rfl)⟩
      ·rw [BH hb6] at h
       refine AF ?_;refine AI (s1:=⟨Fr 24 [p2,(16,.b (x0==7))],[]⟩) ?_ ?_
       ·refine AC (n:=24) AD 2 [p2,(16,.b (x0==7))] [] (by kernel_rfl) ?_
        exact AE rfl AM
       refine AP (b:=(x0==7)) (by kernel_rfl) (fun hb7=>?_) (fun hb7=>?_)
       ·rw [if_pos hb7] at h
        refine AF ?_
        let p9:Nat×AV:=(2,.st [99,111,117,114,116])
        refine AI (s1:=⟨Fr 24 [p9],[]⟩) ?_ ?_
        ·refine AC (n:=24) AD 1 [p9] [] (by kernel_rfl) ?_
         exact AE rfl AM
        refine AU ?_;have hq:=OI h; subst hq;exact ⟨⟨Fr 24 [p9],[]⟩,AM,.inr rfl,[.st [99,111,117,114,116]],(by kernel_rfl),(by kernel_rfl)⟩
       ·rw [BH hb7] at h
        refine AF ?_;refine AI (s1:=⟨Fr 24 [p2,(18,.b (x0==8))],[]⟩) ?_ ?_
        ·refine AC (n:=24) AD 2 [p2,(18,.b (x0==8))] [] (by kernel_rfl) ?_
         exact AE rfl AM
        refine AP (b:=(x0==8)) (by kernel_rfl) (fun hb8=>?_) (fun hb8=>?_)
        ·rw [if_pos hb8] at h
         refine AF ?_
         let p10:Nat×AV:=(2,.st [110,97,109,101])
         refine AI (s1:=⟨Fr 24 [p10],[]⟩) ?_ ?_
         ·refine AC (n:=24) AD 1 [p10] [] (by kernel_rfl) ?_
          exact AE rfl AM
         refine AU ?_;have hq:=OI h; subst hq;exact ⟨⟨Fr 24 [p10],[]⟩,AM,.inr rfl,[.st [110,97,109,101]],(by kernel_rfl),(by kernel_rfl)⟩
        ·rw [BH hb8] at h
         refine AF ?_;refine AI (s1:=⟨Fr 24 [p2,(20,.b (x0==9))],[]⟩) ?_ ?_
         ·refine AC (n:=24) AD 2 [p2,(20,.b (x0==9))] [] (by kernel_rfl) ?_
          exact AE rfl AM
         refine AP (b:=(x0==9)) (by kernel_rfl) (fun hb9=>?_) (fun hb9=>?_)
         ·rw [if_pos hb9] at h
          refine AF ?_
          let p11:Nat×AV:=(2,.st [108,105,115,116])
          refine AI (s1:=⟨Fr 24 [p11],[]⟩) ?_ ?_
          ·refine AC (n:=24) AD 1 [p11] [] (by kernel_rfl) ?_
           exact AE rfl AM
          refine AU ?_;have hq:=OI h; subst hq;exact ⟨⟨Fr 24 [p11],[]⟩,AM,.inr rfl,[.st [108,105,115,116]],(by kernel_rfl),(by kernel_rfl)⟩
         ·rw [BH hb9] at h
          refine AF ?_;refine AI (s1:=⟨Fr 24 [(22,.b (x0==10))],[]⟩) ?_ ?_
          ·refine AC (n:=24) AD 2 [(22,.b (x0==10))] [] (by kernel_rfl) ?_
           exact AE rfl AM
          refine AP (b:=(x0==10)) (by kernel_rfl) (fun hb10=>?_) (fun hb10=>?_)
          ·rw [if_pos hb10] at h
           refine AF ?_;refine AI (s1:=⟨Fr 24 [(2,.st [108,111,116])],[]⟩) ?_ ?_
           ·refine AC (n:=24) AD 1 [(2,.st [108,111,116])] [] (by kernel_rfl) ?_
            exact AE rfl AM
           refine AU ?_;have hq:=OI h; subst hq;exact ⟨⟨Fr 24 [(2,.st [108,111,116])],[]⟩,AM,.inr rfl,[.st [108,111,116]],(by kernel_rfl),(by kernel_rfl)⟩
          ·rw [BH hb10] at h
           refine AX ?_;refine AF ?_;refine AI (s1:=⟨Fr 24 [(2,.st [])],[]⟩) ?_ ?_
           ·refine AC (n:=24) AD 1 [(2,.st [])] [] (by kernel_rfl) ?_
            exact AE rfl AM
           refine AU ?_;have hq:=OI h; subst hq;exact ⟨⟨Fr 24 [(2,.st [])],[]⟩,AM,.inr rfl,[.st []],(by kernel_rfl),(by kernel_rfl)⟩
def Ng:List AV->Option AV:=Ea HG (fun a=>Ef a.1) HL
theorem Nq:XOk 29 Ng:=by
 refine Ap Tryz.func29 (c:=JG) ?h2 ⟨Tryz.call29⟩ HG (fun a=>Ef a.1) HL (fun a=>(by show 1<=24; decide)) ?h3 ?h4
 case h2=>kernel_rfl
 case h3=>intro b; kernel_rfl
 case h4=>exact fun a b h=>Li a.1 b h
/- trestle/court.number -/
noncomputable def Fj:Code:=Bc Tryz.f68
def Bx (x0:(List UInt8)):Nat->Int->Int->Option (((Int)) ⊕ Int)
 | 0,_,_=>none
 | f + 1,c7,c8 =>
  if (decide (c8 < (x0.length:Int)))=true then
  (idx x0 c8).bind fun v10 =>
  (if (decide ((v10.toNat:Int)≥48))=true then (idx x0 c8).bind fun v11 =>
  some (decide ((v11.toNat:Int)<=57)) else some false).bind fun j12 =>
  B8 (BK j12 3) fun v16 =>
  (idx x0 c8).bind fun v17 =>
  Bx x0 f (wr .i64 ((wr .i64 (10 * c7)) + (wr .i64 (wr .u8 ((v17.toNat:Int) - 48))))) (wr .i64 (c8 + 1))
  else
  some (.inl c7)
def DJ (x0:(List UInt8)):Option ((Int) ⊕ Int) :=
 (if (decide ((x0.length:Int)≥1))=true then if (decide ((x0.length:Int)<=9))=true then if ((x0.length:Int)==1)=true then some true else (idx x0 0).bind fun v1 =>
 some ((v1.toNat:Int)!=48) else some false else some false).bind fun j2 =>
 B8 (BK j2 3) fun v6 =>
 B8 (Bx x0 100000 0 0) fun r20 =>
 some (.inl r20)
theorem GY {L:List Asn}(x0:(List UInt8)):∀ (f:Nat) (c7:Int) (c8:Int) (r:((Int)) ⊕ Int),Bx x0 f c7 c8=some r->∀ (hp:Hp),T hp (L)->SemXN E0 ⟨none,false⟩ (pc Fj [1,1,1,0,1,0,0]) f ⟨Fr 50 [(0,.st x0),(3,.j c7),(4,.j c8)],hp⟩ (fun e s=>∃ q,r = .inl q/\e=(.exit 0)/\∃ s2,(∃ (h':Hp),T h' (L)/\s2=⟨Fr 50 [(3,.j q)],h'⟩)/\WkY E0 s s2) fun e _=>r = .inr e:=by
 intro f;induction f with
 | zero=>intro c7 c8 r h; cases h
 | succ f ih0 =>
  intro c7 c8 r h  hp hT;unfold Bx at h;refine IT ?_;refine SemX.seq ?_;refine SemX.seq ?_;refine SemX.regionL ?_;refine AG (n:=50) AD 4 [(0,.st x0),(3,.j c7),(4,.j c8),(27,.b (decide (c8 < (x0.length:Int))))] hp (by kernel_rfl) ?_;refine AH rfl (SemX.fr (l':=[(0,.st x0),(3,.j c7),(4,.j c8),(27,.b (decide (c8 < (x0.length:Int))))]) (by kernel_rfl) ?_);refine SemX.cond (b:=(decide (c8 < (x0.length:Int)))) (by kernel_rfl) (fun hb9=>?_) (fun hb9=>?_)
  ·rw [if_pos hb9] at h
   refine SemX.skip ?_;refine SemX.seq ?_;refine SemX.block ?_;refine SemX.seq ?_;refine Aq ?_;obtain ⟨v10,hv10,h⟩:=OB h;obtain ⟨j12,hj12,h⟩:=OB h;refine Kt 10 (A:=fun s1=>∃ (h':Hp),T h' (L)/\s1=⟨Fr 50 [(0,.st x0),(3,.j c7),(4,.j c8),(39,.b j12)],h'⟩) ?_ ?_
   ·refine AG (n:=50) AD 2 [(0,.st x0),(3,.j c7),(4,.j c8),(30,.st x0),(31,.j c8)] hp (by kernel_rfl) ?_
    refine AL AD 0 rfl (BY (AB rfl) rfl (D4 (a:= .st x0) (b:= .j c8) (by kernel_rfl) (by kernel_rfl) (DT (bs:=x0) (ki:= .i64) (by kernel_rfl) hv10))) ?_;refine AG (n:=50) AD 2 [(0,.st x0),(3,.j c7),(4,.j c8),(34,.b (decide ((v10.toNat:Int)≥48)))] hp (by kernel_rfl) ?_;rcases BE (decide ((v10.toNat:Int)≥48)) with hc18 | hc18
    ·rw [if_pos hc18] at hj12
     rw [hc18];refine AG (n:=50) AD 2 [(0,.st x0),(3,.j c7),(4,.j c8),(34,.b true),(35,.st x0),(36,.j c8)] hp (by kernel_rfl) ?_;obtain ⟨v11,hv11,hj12⟩:=OB hj12;refine AL AD 0 rfl (BY (by kernel_rfl) rfl (D4 (a:= .st x0) (b:= .j c8) (by kernel_rfl) (by kernel_rfl) (DT (bs:=x0) (ki:= .i64) (by kernel_rfl) hv11))) ?_;refine AG (n:=50) AD 2 [(0,.st x0),(3,.j c7),(4,.j c8),(35,.st x0),(36,.j c8),(37,.v (.int .u8 (v11.toNat:Int))),(38,.b (decide ((v11.toNat:Int)<=57))),(39,.b (decide ((v11.toNat:Int)<=57)))] hp (by kernel_rfl) ?_;have hq:=OI hj12; subst hq;exact AH rfl ⟨_,⟨hp,hT,rfl⟩,WkY.f1⟩
    ·rw [BH hc18] at hj12
     rw [hc18];refine AG (n:=50) AD 5 [(0,.st x0),(3,.j c7),(4,.j c8),(35,.tp []),(36,.tp []),(37,.tp []),(38,.tp []),(39,.b false)] hp (by kernel_rfl) ?_;have hq:=OI hj12; subst hq;exact AH rfl ⟨_,⟨hp,hT,rfl⟩,WkY.f1⟩
   rintro _ ⟨hp14,hT15,rfl⟩;rcases Ao h with ⟨v16,hv16,h⟩ | ⟨v16x,hv16,hv16q⟩
   case inr=>exact CA (caps:=[]) (xs:=[.b j12,.j 3]) (u:=(j12,3,())) rfl rfl At rfl (AB rfl) (by kernel_rfl) (by kernel_rfl) (AO (AZ (c:=cdB) (v:=j12)) (AO (AZ (c:=cdI) (v:=3)) SeesD.nil)) hv16 hv16q
   refine CB (caps:=[]) (xs:=[.b j12,.j 3]) (u:=(j12,3,())) rfl rfl At rfl (AB rfl) (by kernel_rfl) (by kernel_rfl) (AO (AZ (c:=cdB) (v:=j12)) (AO (AZ (c:=cdI) (v:=3)) SeesD.nil)) (.inl (by kernel_rfl)) hv16 ?_;refine RunX.done rfl (SemX.fr (l':=[(0,.st x0),(3,.j c7),(4,.j c8)]) (by kernel_rfl) ?_);refine SemX.regionL ?_;refine AG (n:=50) AD 4 [(0,.st x0),(4,.j c8),(42,.j (wr .i64 (10 * c7))),(43,.st x0),(44,.j c8)] hp14 (by kernel_rfl) ?_;obtain ⟨v17,hv17,h⟩:=OB h;refine AL AD 0 rfl (BY (AB rfl) rfl (D4 (a:= .st x0) (b:= .j c8) (by kernel_rfl) (by kernel_rfl) (DT (bs:=x0) (ki:= .i64) (by kernel_rfl) hv17))) ?_;refine AG (n:=50) AD 4 [(0,.st x0),(3,.j (wr .i64 ((wr .i64 (10 * c7)) + (wr .i64 (wr .u8 ((v17.toNat:Int) - 48)))))),(4,.j c8)] hp14 (by kernel_rfl) ?_;refine AH rfl (SemX.fr (l':=[(0,.st x0),(3,.j (wr .i64 ((wr .i64 (10 * c7)) + (wr .i64 (wr .u8 ((v17.toNat:Int) - 48)))))),(4,.j c8)]) (by kernel_rfl) ?_);refine SemX.regionL ?_;refine AG (n:=50) AD 3 [(0,.st x0),(3,.j (wr .i64 ((wr .i64 (10 * c7)) + (wr .i64 (wr .u8 ((v17.toNat:Int) - 48)))))),(4,.j (wr .i64 (c8 + 1)))] hp14 (by kernel_rfl) ?_;refine AH rfl ?_;exact Er WkY.f1 (ih0 (wr .i64 ((wr .i64 (10 * c7)) + (wr .i64 (wr .u8 ((v17.toNat:Int) - 48))))) (wr .i64 (c8 + 1)) _ h  hp14 hT15)
  ·rw [BH hb9] at h
   refine SemX.exit ?_;have hq:=OI h; subst hq;exact ⟨_,rfl,rfl,_,⟨hp,hT,rfl⟩,WkY.f1⟩
theorem KU {L:List Asn}{hp:Hp}(x0:(List UInt8)) (r:(Int) ⊕ Int) (h:DJ x0=some r) (hT:T hp (L)):SemX E0 ⟨none,false⟩ Fj ⟨Fr 50 (BF 0 [.st x0]),hp⟩ (fun x s'=>∃ q,r = .inl q/\(x = .normal\/x = .ret)/\∃ ys,Dk E0.P s'.fr s'.hp Tryz.f68.results.toList=some ys/\(fun v h'=>v = .j q/\T h' (L)) (EB ys) s'.hp) fun e _=>r = .inr e:=by
 unfold DJ at h;refine IR (HB (s1:=⟨Fr 50 [(0,.st x0)],hp⟩) WkY.f1 ?_);refine SemX.seq ?_;refine SemX.regionL ?_;refine AG (n:=50) AD 1 [(0,.st x0)] hp (by kernel_rfl) ?_;refine AH rfl (SemX.fr (l':=[(0,.st x0)]) (by kernel_rfl) ?_);refine SemX.seq ?_;refine Aq ?_;obtain ⟨j2,hj2,h⟩:=OB h;refine Kt 18 (A:=fun s1=>∃ (h':Hp),T h' (L)/\s1=⟨Fr 50 [(0,.st x0),(22,.b j2)],h'⟩) ?_ ?_
 ·refine AG (n:=50) AD 4 [(0,.st x0),(8,.b (decide ((x0.length:Int)≥1)))] hp (by kernel_rfl) ?_
  rcases BE (decide ((x0.length:Int)≥1)) with hc24 | hc24
  ·rw [if_pos hc24] at hj2
   rw [hc24];refine AG (n:=50) AD 5 [(0,.st x0),(13,.b (decide ((x0.length:Int)<=9)))] hp (by kernel_rfl) ?_;rcases BE (decide ((x0.length:Int)<=9)) with hc25 | hc25
   ·rw [if_pos hc25] at hj2
    rw [hc25];refine AG (n:=50) AD 4 [(0,.st x0),(13,.b true),(17,.b ((x0.length:Int)==1))] hp (by kernel_rfl) ?_;rcases BE ((x0.length:Int)==1) with hc26 | hc26
    ·rw [if_pos hc26] at hj2
     rw [hc26];refine AG (n:=50) AD 5 [(0,.st x0),(22,.b true)] hp (by kernel_rfl) ?_;have hq:=OI hj2; subst hq;exact AH rfl ⟨_,⟨hp,hT,rfl⟩,WkY.f1⟩
    ·rw [BH hc26] at hj2
     rw [hc26];refine AG (n:=50) AD 1 [(0,.st x0),(13,.b true),(17,.b false),(18,.st x0)] hp (by kernel_rfl) ?_;obtain ⟨v1,hv1,hj2⟩:=OB hj2;refine AL AD 0 rfl (BY (by kernel_rfl) rfl (D4 (a:= .st x0) (b:= .j 0) (by kernel_rfl) (by kernel_rfl) (DT (bs:=x0) (ki:= .i64) (by kernel_rfl) hv1))) ?_;refine AG (n:=50) AD 3 [(0,.st x0),(22,.b ((v1.toNat:Int)!=48))] hp (by kernel_rfl) ?_;have hq:=OI hj2; subst hq;exact AH rfl ⟨_,⟨hp,hT,rfl⟩,WkY.f1⟩
   ·rw [BH hc25] at hj2
    rw [hc25];refine AG (n:=50) AD 9 [(0,.st x0),(22,.b false)] hp (by kernel_rfl) ?_;have hq:=OI hj2; subst hq;exact AH rfl ⟨_,⟨hp,hT,rfl⟩,WkY.f1⟩
  ·rw [BH hc24] at hj2
   rw [hc24];refine AG (n:=50) AD 14 [(0,.st x0),(22,.b false)] hp (by kernel_rfl) ?_;have hq:=OI hj2; subst hq;exact AH rfl ⟨_,⟨hp,hT,rfl⟩,WkY.f1⟩
 rintro _ ⟨hp4,hT5,rfl⟩;rcases Ao h with ⟨v6,hv6,h⟩ | ⟨v6x,hv6,hv6q⟩
 case inr=>exact CA (caps:=[]) (xs:=[.b j2,.j 3]) (u:=(j2,3,())) rfl rfl At rfl (AB rfl) (by kernel_rfl) (by kernel_rfl) (AO (AZ (c:=cdB) (v:=j2)) (AO (AZ (c:=cdI) (v:=3)) SeesD.nil)) hv6 hv6q
 refine CB (caps:=[]) (xs:=[.b j2,.j 3]) (u:=(j2,3,())) rfl rfl At rfl (AB rfl) (by kernel_rfl) (by kernel_rfl) (AO (AZ (c:=cdB) (v:=j2)) (AO (AZ (c:=cdI) (v:=3)) SeesD.nil)) (.inl (by kernel_rfl)) hv6 ?_;refine RunX.done rfl (SemX.fr (l':=[(0,.st x0)]) (by kernel_rfl) ?_);refine SemX.seq ?_;refine SemX.regionL ?_;refine AG (n:=50) AD 1 [(0,.st x0),(3,.j 0)] hp4 (by kernel_rfl) ?_;refine AH rfl (SemX.fr (l':=[(0,.st x0),(3,.j 0)]) (by kernel_rfl) ?_);refine SemX.seq ?_;refine SemX.seq ?_;refine SemX.regionL ?_;refine AG (n:=50) AD 1 [(0,.st x0),(3,.j 0),(4,.j 0)] hp4 (by kernel_rfl) ?_;refine AH rfl (SemX.fr (l':=[(0,.st x0),(3,.j 0),(4,.j 0)]) (by kernel_rfl) ?_);refine SemX.block ?_;refine SemX.loop (n:=100000) ?_;rcases Ao h with ⟨r20,hr20,h⟩ | ⟨er21,hr20,hr20q⟩
 case inr=>exact SemXN.inr (Er WkY.f1 (GY x0 _ 0 0 _ hr20  hp4 hT5)) (fun _=>hr20q)
 refine IS (SemXN.inl (Er WkY.f1 (GY x0 _ 0 0 _ hr20  hp4 hT5))) ?_;rintro _ ⟨hp22,hT23,rfl⟩;refine SemX.seq ?_;refine SemX.regionL ?_;refine AG (n:=50) AD 2 [(2,.j r20)] hp22 (by kernel_rfl) ?_;refine AH rfl (SemX.fr (l':=[(2,.j r20)]) (by kernel_rfl) ?_);refine SemX.ret ?_;have hq:=OI h; subst hq;exact ⟨⟨Fr 50 [(2,.j r20)],hp22⟩,WkY.f1,_,rfl,.inr rfl,[.j r20],(by kernel_rfl),⟨rfl,hT23⟩⟩
def H0:Cs ((List UInt8)×Unit):=(csC cdS csN)
def H3 (r:Int):AV:=cdI.enc r
def Ls:List AV->Option (AV ⊕ Int):=LX H0 (fun a=>DJ a.1) H3
theorem Et:Rz 68 Ls:=by
 refine IP Tryz.func68 (c:=Fj) ?h2 ⟨Tryz.call68⟩ H0 (fun a=>DJ a.1) H3 (fun a=>(by show 1<=50; decide)) ?h3 ?h4
 case h2=>kernel_rfl
 case h3=>intro b; kernel_rfl
 case h4 =>
  intro a r h;refine SemX.mono (KU (L:=[]) (hp:=[]) a.1 r h T.nil) (fun e s' hs=>?_) (fun _ _ hh=>hh);obtain ⟨q,h0,h1,ys,h2,h3,-⟩:=hs;exact ⟨q,h0,h1,ys,h2,h3⟩
/- strings.Index -/
noncomputable def Hj:Code:=Bc Tryz.f41
def CF (x0:(List UInt8)) (x1:(List UInt8)):Option (Int) :=
 (CD x0 x1).bind fun v1 =>
 some v1
def FJ:Cs ((List UInt8)×(List UInt8)×Unit):=(csC cdS (csC cdS csN))
def FN (r:Int):AV:=cdI.enc r
theorem KA (x0:(List UInt8)) (x1:(List UInt8)) (r:Int) (h:CF x0 x1=some r):Sem E0 ⟨none,false⟩ Hj ⟨Fr 8 (BF 0 (FJ.enc (x0,x1,()))),[]⟩ fun e s'=>(e = .normal\/e = .ret)/\∃ xs,Dk E0.P s'.fr s'.hp Tryz.f41.results.toList=some xs/\EB xs=FN r:=by
 unfold CF at h;refine Bm (Cg (s1:=⟨Fr 8 [(0,.st x0),(1,.st x1)],[]⟩) AM ?_);refine AF ?_;refine AI (s1:=⟨Fr 8 [(0,.st x0),(1,.st x1)],[]⟩) ?_ ?_
 ·refine AC (n:=8) AD 1 [(0,.st x0),(1,.st x1)] [] (by kernel_rfl) ?_
  exact AE rfl AM
 refine AF ?_;obtain ⟨v1,hv1,h⟩:=OB h
 let p1:Nat×AV:=(4,.j v1)
 refine AI (s1:=⟨Fr 8 [p1],[]⟩) ?_ ?_
 ·refine AC (n:=8) AD 2 [(5,.st x0),(6,.st x1)] [] (by kernel_rfl) ?_
  refine Af (caps:=[]) (xs:=[.st x0,.st x1]) (u:=(x0,x1,())) rfl rfl GB rfl (AB rfl) (by kernel_rfl) (by kernel_rfl) (Ah (A2 (c:=cdS) (v:=x0)) (Ah (A2 (c:=cdS) (v:=x1)) BZ)) (.inl (by kernel_rfl)) hv1 ?_;refine AC (n:=8) AD 1 [p1] [] (by kernel_rfl) ?_;exact AE rfl AM
 refine AU ?_;have hq:=OI h; subst hq;exact ⟨⟨Fr 8 [p1],[]⟩,AM,.inr rfl,[.j v1],(by kernel_rfl),(by kernel_rfl)⟩
def LV:List AV->Option AV:=Ea FJ (fun a=>CF a.1 a.2.1) FN
theorem Le:XOk 41 LV:=by
 refine Ap Tryz.func41 (c:=Hj) ?h2 ⟨Tryz.call41⟩ FJ (fun a=>CF a.1 a.2.1) FN (fun a=>(by show 2<=8; decide)) ?h3 ?h4
 case h2=>kernel_rfl
 case h3=>intro b; kernel_rfl
 case h4=>exact fun a b h=>KA a.1 a.2.1 b h
/-- An own block is shortened. -/
theorem Pp {E:Env}{n d:Nat}{l:List (Nat×AV)}{hp:Hp}{b k q m:Nat}{t:TypeId}{es zs:List AV}(hb:hp[b]? = some (some ⟨k,t,es++zs,false⟩)) (_:q<=m):WkY E ⟨Fr n ((d,.rf b 0 q m)::l),hp⟩ ⟨Fr n ((d,.rf b 0 q q)::l),hp.set b (some ⟨k,t,es,false⟩)⟩:=by
 intro base w Z R a sr
 obtain ⟨r,arr,us,g1,g2,g3,g4,g5,g6,g7,g8,g9,g10⟩:=sr.hh.blk b _ hb
 have hel:(es++zs).take es.length=es:=by rw [List.take_append_of_le_length (Nat.le_refl _),List.take_of_length_le (Nat.le_refl _)]
 have hput:=sr.hh.put (w':=w) (es:=es) (us:=us.take es.length) (arr:=arr) hb rfl g1 ⟨rfl,rfl,rfl,Nat.le_refl _,fun _ _ _=>rfl⟩ g3 g4 (by have:(es++zs).length<=r.cap:=g5; rw [List.length_append] at this; omega) (by have:=g9.take es.length; rwa [hel] at this) (fun i u hu=>by
  rw [List.getElem?_take] at hu
  split at hu
  ·exact g10 i u hu
  ·cases hu)
 refine ⟨Z,R,⟨hput.1,⟨?_,fun t x hx=>?_⟩,sr.mks.step hput.2,sr.gl.step sr.hh hput.2,sr.bs⟩,hput.2⟩
 ·have:=sr.fr.1; rw [Da] at this ⊢; exact this
 ·have hold:∀ x,(Fr n ((d,.rf b 0 q m)::l))[t]? = some (some x)->VR w Z R x (a.tmps.getD t undef):=fun x h=>sr.fr.2 t x h
  rw [DW] at hx
  by_cases ht:t < n
  ·rw [if_pos ht] at hx
   injection hx with hx
   rw [F7] at hx
   by_cases hd:d=t
   ·subst hd
    rw [if_pos rfl] at hx
    injection hx with hx
    subst hx
    have h2:=hold (.rf b 0 q m) (by rw [DW,if_pos ht,F7,if_pos rfl])
    generalize a.tmps.getD d undef=u at h2
    cases h2 with
    | rf hr h0 h1 h2 hm=>exact .rf hr (Nat.le_refl _) (Nat.le_trans h0 h1) h2 hm
   ·rw [if_neg hd] at hx
    exact hold x (by rw [DW,if_pos ht,F7,if_neg hd,hx])
  ·rw [if_neg ht] at hx; cases hx
def TU (i:Int) (m:Nat):Bool:=decide (0 < m)&&(decide (0<=i)&&decide (i<=(m:Int)))
section
variable {E:Env}{cx:Cx}{ops:Array Oper}{rest rest':List Oper}{K:St->Prop}{n k d:Nat}{l:List (Nat×AV)}{hp:Hp}{t ty:TypeId}{α:Type}{c:Cd α}{xs:List α}{e:AV}{L:List Asn}
theorem Pm (hE:EnvOk E){x y:Operand}{i:Int}{ki:IntKind}{t':TypeId}{pos:String}{af:Array Edge}{g:Option (Nat×Bool)}(ht:T hp (own_ (ocL k t (ocV c)) e xs::L)) (hc:TU i xs.length=true) (hr:rest=⟨some d,.slice ty x none (some y) none,t',pos,af,g⟩::rest') (hw:BO ops (Fr n l) ⟨some d,.slice ty x none (some y) none,t',pos,af,g⟩=some true)
  (hx:opA E (Fr n l) x=some e) (hy:opA E (Fr n l) y=some (.v (.int ki i))) (hu:E.P.underlying ty=some (.slice t)) (hs:Bf E.P t=some k) (kk:∀ e' hp',T hp' (own_ (ocL k t (ocV c)) e' (xs.take i.toNat)::L)->RunL E cx ops rest' ⟨Fr n ((d,e')::l),hp'⟩ K):RunL E cx ops rest ⟨Fr n l,hp⟩ K:=by
 unfold TU at hc
 simp only [Bool.and_eq_true,decide_eq_true_eq] at hc
 obtain ⟨h0,h1,h2⟩:=hc
 obtain ⟨F,p,hn',hk,_⟩:=ht.act
 rcases p with ⟨rfl,rfl,_⟩ | ⟨b,es,F',rfl,hb,rfl,h4⟩
 ·simp at h0
 ·obtain ⟨rfl,rfl⟩:=h4.leaf_inv
  have hi:i.toNat<=xs.length:=by omega
  have hsl:F4 E.P hp ty (.rf b 0 xs.length xs.length) none (some (.v (.int ki i))) none=some (.rf b 0 i.toNat xs.length):=by
   unfold F4
   have hni:¬ i < 0:=by omega
   simp only [hu,hb,LH,hni,if_false,hs]
   rw [if_pos ⟨Nat.zero_le _,hi,Nat.le_refl _,.inl rfl,trivial⟩,if_pos h0]
   simp
  refine AL hE 0 hr (BY hw rfl (Di hx rfl (by show (opA E (Fr n l) y).map some=_; rw [hy]; rfl) rfl hsl)) ?_
  refine Jt (Pp (es:=(xs.take i.toNat).map c.enc) (zs:=(xs.drop i.toNat).map c.enc) (by rw [hb,<-List.map_append,List.take_append_drop]) hi) ?_
  have hlt:=H7 hb
  have hl:(xs.take i.toNat).length=i.toNat:=by rw [List.length_take]; omega
  refine kk _ _ (hk _ _ [b] (.inr ⟨b,(xs.take i.toNat).map c.enc,[],by rw [hl],by simp [hlt],rfl,JB⟩) (by simp) (fun b' hb' _=>?_) (fun b' hb'=> .inl hb'))
  rw [List.getElem?_set,if_neg (by intro e; subst e; simp at hb')]
end
end Go.Proofs.YtdjhmdbpcfnpgaaGreatDoor
