/- Lemmas for the proof. -/
import Derived.Test.YteidjjolfapemaaDoorEveningRoundM1
import Derived.Test.YteidjjolfapemaaDoorEveningRoundM2
import Derived.Test.YteidjjolfapemaaDoorCards
import Derived.Test.YteidjjolfapemaaDoorTie
import Derived.WalkKit
import Derived.ProofKit
import Derived.OpenShut
import Derived.Deep.DeepHandedRow
import Derived.Lib.LaidTab
set_option maxHeartbeats 4000000
set_option maxRecDepth 100000
namespace Go.Proofs.YteidjjolfapemaaDoor
open Go.ChangeShapes Go.WideShapes Go.ChangeAt Go.RowKit
def Hj (vs:Array Value):Obj->Obj
 | .cells _ t frozen=> .cells vs t frozen
 | o=>o
theorem O9:ownKnob Tryd.prog.godebug=none:=by kernel_rfl
theorem P5:laidOutB Tryd.prog=true:=by kernel_rfl
theorem HI {x:TypeId}{l:List TypeId}(p:TypeId->Bool) (h:l.all p=true) (hx:x ∈ l):p x=true:=List.all_eq_true.1 h x hx
def isT (r:Option (AV×Hp)):Bool:=match r with
 | some (.v (.bool true),_)=>true
 | _=>false
theorem P4 {r:Option (AV×Hp)}(h:isT r=true):∃ h',r=some (.v (.bool true),h'):=by
 unfold isT at h
 split at h
 ·exact ⟨_,rfl⟩
 ·cases h
set_option maxRecDepth 1000000 in
theorem Qj:isT (MQ E0 1000 6 [] [])=true:=by kernel_rfl
theorem Oo:∃ h,MQ E0 1000 6 [] []=some (.v (.bool true),h):=P4 Qj
theorem NY (w:World):Ret Tryd.prog 6 #[] w fun v w'=>v = .bool true/\w.grownBy w' none:=by
 obtain ⟨h,e⟩:=Oo
 exact PE (Z:=fun _=>False) (us:=[]) AD e (fun c hc=>hc.elim) (fun g x h=>by cases h) .nil
theorem QT {w:World}{Z:Nat->Prop}:VR w Z [] (.v (.bool true)) (.bool true):= .v rfl
end Go.Proofs.YteidjjolfapemaaDoor
namespace Go.Proofs.YteidjjolfapemaaDoor
open Go.ChangeShapes Go.WideShapes Go.ChangeAt Go.RowKit
def PV {H:Type}:DataW H->List Value
 | .lit (.int k n)=>[Value.int k n]
 | _=>[.bool false]
def Qk {H:Type}:DataW H->List Value
 | .agg xs=>xs.flatMap PV
 | x=>PV x
def D4 {H:Type}:DataW H->Array Value
 | .agg xs=>(xs.flatMap Qk).toArray
 | _=>#[]
noncomputable def H3 (os:Os):World :=
 { World.holding Tryd.prog os ⟨#[],#[],[]⟩ with heap:=(((((World.holding Tryd.prog os ⟨#[],#[],[]⟩).heap.modify 1 (Hj (D4 (Rows.laid_internal_strconv_uint64pow10 (H:=Unit))))).modify 2 (Hj (D4 (Rows.laid_math_bits_deBruijn32tab (H:=Unit))))).modify 3 (Hj (D4 (Rows.laid_math_bits_deBruijn64tab (H:=Unit))))).modify 4 (Hj (D4 Rows.laid_unicode_utf8_first))).modify 5 (Hj (D4 (Rows.laid_unicode_utf8_acceptRanges (H:=Unit)))) }
/-- Structs. -/
def cdA {α:Type}(s:Cs α) (h:∀ x,(s.enc x).all HP=true):Cd α where
 enc x:= .ag (s.enc x)
 dec a:=match a with
  | .ag l=>s.dec l
  | _=>none
 de x:=s.de x
 vr:=fun {w Z a x u} hd hv=>by
  split at hd
  ·cases hv with
   | ag hl h1 hx =>
    have:=s.vr hd ⟨hl,hx⟩
    exact .ag this.len h1 this.at_
  ·cases hd
 nr x:=h x
def RunDY (E:Env) (ops:Array Oper) (n0 k:Nat) (rest:List Oper) (s:St) (K:St->Prop):Prop :=
 ∀ (base:Bs) (Q:Act->World->Prop) (w0:World) (Z:Nat->Prop) (R0:List RI) (h0:Hp) (a:Act) (w:World) (R:List RI),HR w0 Z R0 h0->n0=h0.length->B7 ops<=ops.size->SR E base w Z R s a->w0.grownBy w none->Step w0 Z R0 h0 w Z R s.hp->(∀ (b:Nat) (B:Option Blk),h0[b]? = some B->s.hp[b]? = some B)->B7 ops=Cj rest k->k + rest.length=ops.size->(∀ j,rest[j]? = ops[k + j]?) ->
  (∀ s' a' w' Z' R',K s'->SR E base w' Z' R' s' a'->Step w0 Z R0 h0 w' Z' R' s'.hp->Q a' w')->GD E.P ops (fun w'=>w0.grownBy w' none) (GS ops (B7 ops)) (B7 ops) Q k rest a w
section
variable {E:Env}{cx:Cx}{ops:Array Oper}{pre rest rest':List Oper}{s s1:St}{K:St->Prop}{n n0 k:Nat}{l:List (Nat×AV)}{hp hp':Hp}{Q:Ex->St->Prop}{id:Nat}
theorem RunDY.done (hr:rest=[]) (kk:K s):RunDY E ops n0 k rest s K:=by
 subst hr
 exact fun base Q w0 Z R0 h0 a w R _ _ _ sr hgr st _ _ _ _ q=>⟨fun _=>hgr,q s a w Z R kk sr st⟩
theorem GE (hE:EnvOk E):∀ {pre:List Oper}{s:St}{k:Nat},(pre.all fun o=>!isW o.op)=true->H6 E (evC E 0) ⟨none,false⟩ ops n0 pre s=some s1->RunDY E ops n0 (k + pre.length) rest s1 K->RunDY E ops n0 k (pre++rest) s K
 | [],s,k,_,e,kk=>by injection e with e; subst e; exact kk
 | o::pre,s,k,hp,e,kk=>by
  intro base Q w0 Z R0 h0 a w R hh0 hn0 hT sr hgr st hpre hTk hlen hops q
  simp only [List.all_cons,Bool.and_eq_true,Bool.not_eq_true'] at hp
  obtain ⟨hW,hp⟩:=hp
  have hok:ops[k]? = some o:=by have:=hops 0; simpa using this.symm
  have hops':∀ j,(pre++rest)[j]? = ops[k + 1 + j]?:=fun j=>by have:=hops (j + 1); simpa [Nat.add_assoc,Nat.add_comm 1 j] using this
  have hk1:k + 1 + pre.length=k + (o::pre).length:=by simp; omega
  have kk':RunDY E ops n0 (k + 1 + pre.length) rest s1 K:=by rw [hk1]; exact kk
  have hlen':k + 1 + (pre++rest).length=ops.size:=by simp at hlen ⊢; omega
  have hTk':B7 ops=Cj (pre++rest) (k + 1):=by
   rw [hTk]
   show Cj (o::(pre++rest)) k=_
   conv=>lhs; unfold Cj; rw [if_neg (by rw [hW]; simp)]
  have hkT:¬ B7 ops<=k:=by have:=Ge (pre++rest) (k + 1); omega
  show GD E.P ops _ _ _ Q k (o::(pre++rest)) a w
  refine ⟨fun _=>hgr,?_⟩
  unfold H6 at e
  rw [if_neg (by rw [hW]; simp)] at e
  split at e
  ·cases e
  ·next hw =>
   rw [if_neg (by rw [wantedA_eq sr hw]; simp)]
   exact GE hE hp e kk' base Q w0 Z R0 h0 _ w R hh0 hn0 hT (sr.put undef_vr) hgr st hpre hTk' hlen' hops' q
  ·next hw =>
   rw [if_pos (wantedA_eq sr hw)]
   have hρ:∀ o x,opA E s.fr o=some x->VR w Z R x (a.eval o):=fun o x e=>opA_vr sr o x e
   split at e
   ·next x hx =>
    split at e
    ·next hld =>
     have hq:=MZ hx
     rw [if_neg (by rw [JN hok hq hkT]; simp)]
     obtain ⟨u,hu,hrun⟩:=evOpQ_sound sr.hh hρ hx
     have hquiet:∃ u,VR w Z R x u/\QuietAt E.P (Cf (fun w'=>w0.grownBy w' none) o) o u a:=by
      cases hl:M5 o.op with
      | false=>exact ⟨u,hu,fun w' _=>hrun w' fun h=>by rw [hl] at h; cases h⟩
      | true =>
       obtain ⟨u1,hu1,hq1⟩:=Gl hh0 sr hgr st hpre hl (by rw [<-hn0]; exact hld) hx
       exact ⟨u1,hu1,hq1.up (JD hl)⟩
     obtain ⟨u,hu,hquiet⟩:=hquiet
     exact ⟨u,hquiet,GE hE hp e kk' base Q w0 Z R0 h0 _ w R hh0 hn0 hT (sr.put hu) hgr st hpre hTk' hlen' hops' q⟩
    ·cases e
   ·split at e
    ·next x h' hx =>
     have hq:=Ip hx
     rw [if_pos (GT hok hq)]
     obtain ⟨u,w',R',h1,h2,h3,h4,h5⟩:=evOpN_sound hρ sr.hh hx
     exact J5 h1 (GE hE hp e kk' base Q w0 Z R0 h0 _ w' R' hh0 hn0 hT ((sr.step h2 h4).put h3) (E9 hgr h5) (st.trans h4) (fun b B hb=>I4 hx (hpre b B hb)) hTk' hlen' hops' q)
    ·split at e
     ·next f args tys ho =>
      split at e
      ·next fv xs hf hxs =>
       split at e
       ·next r hr =>
        obtain ⟨x,h'⟩:=r
        have hq:isQ o.op=false:=by rw [ho]; rfl
        rw [if_pos (GT hok hq)]
        obtain ⟨g,uf,uc,hva,hcl,hret⟩:=Fc hE (code_sound hE 0).1 (hρ _ _ hf) (opds_vr hρ hxs) sr.hh sr.gl hr
        unfold Lw
        rw [Dz (uf:=uf) (uc:=uc) ho hva rfl hcl w]
        refine Ret.mono hret fun v w' hS=>?_
        obtain ⟨hg1,R',k1,k2,k3⟩:=hS
        exact GE hE hp e kk' base Q w0 Z R0 h0 _ w' R' hh0 hn0 hT ((sr.step k1 k3).put k2) (E9 hgr hg1) (st.trans k3) (fun b B hb=>I1 hr (hpre b B hb)) hTk' hlen' hops' q
       ·cases e
      ·cases e
     ·cases e
theorem RunDY.one (hE:EnvOk E){o:Oper}(hr:rest=o::rest') (hW:isW o.op=false) (h:H6 E (evC E 0) ⟨none,false⟩ ops n0 [o] s=some s1) (kk:RunDY E ops n0 (k + 1) rest' s1 K):RunDY E ops n0 k rest s K:=by
 subst hr
 exact GE (k:=k) hE (pre:=[o]) (by simp [hW]) h kk
end
theorem G9 {g:AV->Option AV}:∀ {xs:List AV},(∀ x ∈ xs,g x=some x)->Ku g xs=some xs
 | [],_=>rfl
 | x::xs,h=>by
  unfold Ku
  rw [h x (by simp),G9 fun y hy=>h y (List.mem_cons_of_mem _ hy)]
theorem Ho {h:Hp}{x:AV}(hn:Ev x=true):∀ n,Dr h n x=some x
 | 0=>by
  have:HP x=true:=by cases x <;> first | exact hn | (simp [Ev] at hn)
  unfold Dr
  rw [if_pos this]
 | n + 1=>by
  cases x <;> first | (simp [Ev] at hn; done) | (unfold Dr; rfl)
theorem LW {h:Hp}{x:AV}(hn:HP x=true) (n:Nat):Dr h (n + 1) x=some x:=by
 cases x with
 | fn f p q =>
  simp only [HP,Bool.and_eq_true] at hn
  show (match Ku (Dr h n) p,Ku (Dr h n) q with | some p,some q=>some (AV.fn f p q) | _,_=>none)=_
  rw [G9 (g:=Dr h n) fun y hy=>Ho (List.all_eq_true.1 hn.1 y hy) n,G9 (g:=Dr h n) fun y hy=>Ho (List.all_eq_true.1 hn.2 y hy) n]
 | _ =>
  refine Ho ?_ (n + 1)
  exact hn
theorem Hq {h:Hp}{x:AV}(hn:Bp x=true) (n:Nat):Dr h (n + 2) x=some x:=by
 cases x with
 | ag cs =>
  show (Ku (Dr h (n + 1)) cs).map AV.ag=_
  rw [G9 (g:=Dr h (n + 1)) fun y hy=>LW (List.all_eq_true.1 hn y hy) n]; rfl
 | _ =>
  refine LW ?_ (n + 1)
  exact hn
/-- What a call sees of an argument. -/
def Sm {α:Type}(n:Nat) (h:Hp) (c:Cd α) (x:AV) (v:α):Prop:=∃ y,Dr h n x=some y/\c.dec y=some v
def Sl {α:Type}(n:Nat) (h:Hp) (s:Cs α) (xs:List AV) (a:α):Prop:=∃ ys,Ku (Dr h n) xs=some ys/\s.dec ys=some a
section
variable {α β:Type}{n b k:Nat}{h:Hp}{c:Cd α}{t:TypeId}
theorem BU {v:α}:Sm (n + 2) h c (c.enc v) v:=⟨_,Hq (c.nr v) n,c.de v⟩
theorem Sm.e0:Sm n h (cdL k c) .e0 []:=⟨.e0,Ho rfl n,rfl⟩
theorem RR {xs:List α}(hb:h[b]? = some (some ⟨k,t,xs.map c.enc,false⟩)):Sm (n + 3) h (cdL k c) (.rf b 0 xs.length xs.length) xs:=by
 refine ⟨.sl k (xs.map c.enc),?_,(cdL k c).de xs⟩
 unfold Dr
 simp only [hb]
 rw [if_pos (by simp),List.drop_zero,List.take_of_length_le (by simp),G9]
 ·rfl
 ·intro y hy
  obtain ⟨z,_,rfl⟩:=List.mem_map.1 hy
  exact Hq (c.nr z) n
theorem Sm.rf {xs:List α}{m q:Nat}(hb:h[b]? = some (some ⟨k,t,xs.map c.enc,false⟩)) (hm:m<=xs.length):Sm (n + 3) h (cdL k c) (.rf b 0 m q) (xs.take m):=by
 refine ⟨.sl k ((xs.take m).map c.enc),?_,(cdL k c).de _⟩
 unfold Dr
 simp only [hb]
 rw [if_pos (by simp; omega),List.drop_zero,<-List.map_take,G9]
 ·rfl
 ·intro y hy
  obtain ⟨z,_,rfl⟩:=List.mem_map.1 hy
  exact Hq (c.nr z) n
theorem Sm.hd {xs:List α}(hb:h[b]? = some (mk k t (xs.map c.enc))):Sm (n + 3) h (cdL k c) (hd b (xs.map c.enc)) xs:=by
 cases xs with
 | nil=>exact .e0
 | cons x xs =>
  have:=RR (n:=n) (c:=c) (xs:=x::xs) (b:=b) (k:=k) hb
  simpa [Go.Proofs.YteidjjolfapemaaDoor.hd] using this
theorem Cz:Sl n h csN [] ():=⟨[],rfl,rfl⟩
theorem Am {s:Cs β}{x:AV}{xs:List AV}{v:α}{a:β}(h1:Sm n h c x v) (h2:Sl n h s xs a):Sl n h (csC c s) (x::xs) (v,a):=by
 obtain ⟨y,k1,k2⟩:=h1
 obtain ⟨ys,q1,q2⟩:=h2
 refine ⟨y::ys,?_,?_⟩
 ·unfold Ku; rw [k1,q1]
 ·show ((c.dec y).bind fun x=>(s.dec ys).map fun y=>(x,y))=_
  rw [k2,q2]; rfl
theorem Sm.ag {s:Cs α}{hn:∀ x,(s.enc x).all HP=true}{xs:List AV}{a:α}(h1:Sl n h s xs a):Sm (n + 1) h (cdA s hn) (.ag xs) a:=by
 obtain ⟨ys,k1,k2⟩:=h1
 refine ⟨.ag ys,?_,k2⟩
 show (Ku (Dr h n) xs).map AV.ag=_
 rw [k1]; rfl
end
/-- A closure of a given function. -/
def cdF {α:Type}(f:FuncId) (s:Cs α) (hn:∀ x,(s.enc x).all Ev=true):Cd α where
 enc x:= .fn f [] (s.enc x)
 dec a:=match a with
  | .fn g [] q=>if g=f then s.dec q else none
  | _=>none
 de x:=by simp [s.de]
 vr:=fun {w Z a x u} hd hv=>by
  split at hd
  ·split at hd
   ·next e =>
    subst e
    cases hv with
    | fn hl hl' hx hy =>
     have:=s.vr hd ⟨hl',hy⟩
     exact .fn hl this.len hx this.at_
   ·cases hd
  ·cases hd
 nr x:=by simp [Bp,HP,hn]
theorem Sm.fn {α:Type}{n:Nat}{h:Hp}{f:FuncId}{s:Cs α}{hn:∀ x,(s.enc x).all Ev=true}{q:List AV}{a:α}(h1:Sl n h s q a):Sm (n + 1) h (cdF f s hn) (.fn f [] q) a:=by
 obtain ⟨ys,k1,k2⟩:=h1
 refine ⟨.fn f [] ys,?_,?_⟩
 ·show (match Ku (Dr h n) [],Ku (Dr h n) q with | some p,some q=>some (AV.fn f p q) | _,_=>none)=_
  rw [k1]; rfl
 ·show (if f=f then s.dec ys else none)=_
  rw [if_pos rfl]; exact k2
section
variable {E:Env}{cx:Cx}{ops:Array Oper}{rest rest':List Oper}{K:St->Prop}{n n0 k:Nat}{l:List (Nat×AV)}{hp:Hp}{α β:Type}{s:Cs α}{F:α->Option β}{er:β->AV}{u:α}{v:β}{fid:FuncId}{w:World}{Z:Nat->Prop}{R:List RI}
/-- A told call, in a world. -/
theorem RU (hX:XOk fid (Ea s F er)) (hh:HR w Z R hp) (hg:GI E0 w Z){xs:List AV}{us:List Value}(hvs:VRs w Z R xs us) (hv:Sl 12 hp s xs u) (hok:CD (er v)=true\/xs.all Bp=true) (hF:F u=some v) :
  Ret E0.P fid us.toArray w fun x w'=>∃ Z',HR w' Z' R hp/\VR w' Z' R (er v) x/\Step w Z R hp w' Z' R hp/\w.grownBy w' none/\(CD (er v)=true->Z'=Z):=by
 obtain ⟨ys,h1,h2⟩:=hv
 by_cases hf:CD (er v)=true
 ·have hz1:∀ c,(Z c\/own R hp c)->c < w.heap.size:=fun c hc=>hc.elim (hh.zlt c) (fun ⟨b,B,r,h1,_,h3,h4⟩=>h4 ▸ hh.rltL h1 h3)
  have hg1:GI E0 w (fun c=>Z c\/own R hp c):=fun q y hy=>(hg q y hy).mono (fun _ _=>rfl) (fun _ h=> .inl h) (fun _ _ h=>h)
  refine Ret.mono (hX.2 ys (er v) (Fl h2 hF) w _ us hz1 hg1 (allV_vr (Ks hh 12) hvs h1)) fun x w' ⟨hs,hx⟩=>?_
  exact ⟨Z,hh.keep hs.size (fun c hc=>hs.block c hc (by simp)),HH hf hx,⟨hs.os,hs.tape,hs.output,hs.size,fun c hc _=>hs.block c hc (by simp),fun _ h=> .inl h,fun _ h=>h,fun _ h=> .inl h,fun _ _ h=>h⟩,hs,fun _=>rfl⟩
 ·have hn:=hok.resolve_left hf
  have e:xs=ys:=OI ((G9 fun y hy=>Hq (List.all_eq_true.1 hn y hy) 10).symm.trans h1)
  subst e
  refine Ret.mono (hX.2 xs (er v) (Fl h2 hF) w Z us hh.zlt hg (KY hn hvs)) fun x w' ⟨hs,hx⟩=>?_
  obtain ⟨k1,k2⟩:=hh.addZ hs
  exact ⟨_,k1,hx.up,k2,hs,fun h=>absurd h hf⟩
/-- .. at an operation. -/
theorem Ru (hP:E.P=E0.P) (hG:E.G=E0.G){caps xs:List AV}{d:Option Nat}{f:Operand}{args:Array Operand}{tys:Array TypeId}{ty:TypeId}{pos:String}{af:Array Edge}{g:Option (Nat×Bool)}{base:Bs}{a:Act}(hX:XOk fid (Ea s F er)) (sr:SR E base w Z R ⟨Fr n l,hp⟩ a)
  (hf:opA E (Fr n l) f=some (.fn fid [] caps)) (ha:Ed (opA E (Fr n l)) args.toList=some xs) (hv:Sl 12 hp s (xs++caps) u) (hok:CD (er v)=true\/(xs++caps).all Bp=true) (hF:F u=some v) {Q:Act->World->Prop}
  (kk:∀ x w' Z',HR w' Z' R hp->VR w' Z' R (er v) x->Step w Z R hp w' Z' R hp->w.grownBy w' none->(CD (er v)=true->Z'=Z)->SR E base w' Z' R ⟨Fr n l,hp⟩ a->Q (a.put d x) w'):Lw E.P ⟨d,.call ⟨.value f,args,tys⟩,ty,pos,af,g⟩ a w Q:=by
 have hρ:∀ o x,opA E (Fr n l) o=some x->VR w Z R x (a.eval o):=fun o x e=>opA_vr sr o x e
 have hvf:=hρ _ _ hf
 have hva:∃ uc:List Value,a.eval f = .func (.func fid) #[] uc.toArray/\VRs w Z R caps uc:=by
  generalize a.eval f=vf at hvf
  cases hvf with
  | fn hl hl' hx hy =>
   rename_i u1 u2
   have e1:u1=[]:=by simpa using hl
   subst e1
   exact ⟨u2,rfl,hl',hy⟩
 obtain ⟨uc,hva,huc⟩:=hva
 have hcl:A4 E.P fid:=hP ▸ hX.1
 unfold Lw
 rw [Dz (uf:=[]) (uc:=uc) rfl hva rfl hcl w]
 have hret:=RU hX sr.hh (by have:=sr.gl; exact fun q y hy=>this q y (by rw [hG]; exact hy)) ((opds_vr hρ ha).append huc) hv hok hF
 rw [<-hP] at hret
 simp only [List.nil_append]
 refine Ret.mono hret fun x w' ⟨Z',k1,k2,k3,k4,k5⟩=>?_
 exact kk x w' Z' k1 k2 k3 k4 k5 (sr.step k1 k3)
theorem Ae (hP:E.P=E0.P) (hG:E.G=E0.G) (hX:XOk fid (Ea s F er)){caps xs:List AV}{d:Nat}{f:Operand}{args:Array Operand}{tys:Array TypeId}{ty:TypeId}{pos:String}{af:Array Edge}{g:Option (Nat×Bool)}(hr:rest=⟨some d,.call ⟨.value f,args,tys⟩,ty,pos,af,g⟩::rest') (hw:Ad ops (Fr n l) ⟨some d,.call ⟨.value f,args,tys⟩,ty,pos,af,g⟩=some true)
  (hf:opA E (Fr n l) f=some (.fn fid [] caps)) (ha:Ed (opA E (Fr n l)) args.toList=some xs) (hv:Sl 12 hp s (xs++caps) u) (hok:CD (er v)=true\/(xs++caps).all Bp=true) (hF:F u=some v) (kk:RunS E ops rest' ⟨Fr n ((d,er v)::l),hp⟩ K):RunS E ops rest ⟨Fr n l,hp⟩ K:=by
 subst hr
 intro base Q a w Z R sr q
 refine Gm rfl (wantedA_eq sr hw) (Ru hP hG hX sr hf ha hv hok hF fun x w' Z' k1 k2 k3 k4 k5 sr'=>?_)
 refine kk base Q _ w' Z' R ?_ fun s' a' w'' Z'' R'' hK sr'' st'=>q s' a' w'' Z'' R'' hK sr'' (k3.w.trans st')
 have:=sr'.put (d:=some d) k2
 rwa [Be] at this
/-- What is left of a region that draws its order, of which nothing is read any more. -/
def RunDZ (E:Env) (ops:Array Oper) (k:Nat) (rest:List Oper) (s:St) (K:St->Prop):Prop :=
 ∀ (base:Bs) (Q:Act->World->Prop) (w0:World) (Z:Nat->Prop) (a:Act) (w:World) (R:List RI),B7 ops<=ops.size->SR E base w Z R s a->w0.grownBy w none->B7 ops=Cj rest k->k + rest.length=ops.size->(∀ j,rest[j]? = ops[k + j]?) ->
  (∀ s' a' w' Z' R',K s'->SR E base w' Z' R' s' a'->StepW w Z R s.hp w' Z' R' s'.hp->Q a' w')->GD E.P ops (fun w'=>w0.grownBy w' none) (GS ops (B7 ops)) (B7 ops) Q k rest a w
/-- From now on nothing is read. -/
theorem RunDS.z {s:St}(kk:RunDZ E ops k rest s K):RunDS E ops n0 k rest s K :=
 fun base Q w0 Z _ _ a w R _ _ hT sr hgr st _ hTk hlen hops q=>kk base Q w0 Z a w R hT sr hgr hTk hlen hops fun s' a' w' Z' R' hK sr' st'=>q s' a' w' Z' R' hK sr' (st.w.trans st')
theorem RunDZ.done {s:St}(hr:rest=[]) (kk:K s):RunDZ E ops k rest s K:=by
 subst hr
 exact fun base Q w0 Z a w R _ sr hgr _ _ _ q=>⟨fun _=>hgr,q s a w Z R kk sr (StepW.refl _ _ _ _)⟩
theorem QW {s:St}{o:Oper}(hr:rest=o::rest') (hW:isW o.op=true) (h:RunS E ops rest s K):RunDZ E ops k rest s K:=by
 subst hr
 intro base Q w0 Z a w R hT sr hgr hTk hlen hops q
 have hTk':B7 ops=k:=by rw [hTk]; unfold Cj; rw [if_pos hW]
 exact H4 (h base Q a w Z R sr fun s' a' w' Z' R' hK sr' st'=>q s' a' w' Z' R' hK sr' st') (by omega) (fun _=>hgr) (fun j hj=>Ir (by omega)) hops
theorem GF (hE:EnvOk E):∀ {pre:List Oper}{s s1:St}{k:Nat},(pre.all fun o=>!isW o.op&&!M5 o.op)=true->H6 E (evC E 0) ⟨none,false⟩ ops n0 pre s=some s1->RunDZ E ops (k + pre.length) rest s1 K->RunDZ E ops k (pre++rest) s K
 | [],s,s1,k,_,e,kk=>by injection e with e; subst e; exact kk
 | o::pre,s,s1,k,hp,e,kk=>by
  intro base Q w0 Z a w R hT sr hgr hTk hlen hops q
  simp only [List.all_cons,Bool.and_eq_true,Bool.not_eq_true'] at hp
  obtain ⟨⟨hW,hLd⟩,hp⟩:=hp
  have hok:ops[k]? = some o:=by have:=hops 0; simpa using this.symm
  have hops':∀ j,(pre++rest)[j]? = ops[k + 1 + j]?:=fun j=>by have:=hops (j + 1); simpa [Nat.add_assoc,Nat.add_comm 1 j] using this
  have hk1:k + 1 + pre.length=k + (o::pre).length:=by simp; omega
  have kk':RunDZ E ops (k + 1 + pre.length) rest s1 K:=by rw [hk1]; exact kk
  have hp':(pre.all fun o=>!isW o.op&&!M5 o.op)=true:=by simpa using hp
  have hlen':k + 1 + (pre++rest).length=ops.size:=by simp at hlen ⊢; omega
  have hTk':B7 ops=Cj (pre++rest) (k + 1):=by
   rw [hTk]
   show Cj (o::(pre++rest)) k=_
   conv=>lhs; unfold Cj; rw [if_neg (by rw [hW]; simp)]
  have hkT:¬ B7 ops<=k:=by have:=Ge (pre++rest) (k + 1); omega
  show GD E.P ops _ _ _ Q k (o::(pre++rest)) a w
  refine ⟨fun _=>hgr,?_⟩
  unfold H6 at e
  rw [if_neg (by rw [hW]; simp)] at e
  split at e
  ·cases e
  ·next hw =>
   rw [if_neg (by rw [wantedA_eq sr hw]; simp)]
   exact GF hE hp' e kk' base Q w0 Z _ w R hT (sr.put undef_vr) hgr hTk' hlen' hops' q
  ·next hw =>
   rw [if_pos (wantedA_eq sr hw)]
   have hρ:∀ o x,opA E s.fr o=some x->VR w Z R x (a.eval o):=fun o x e=>opA_vr sr o x e
   split at e
   ·next x hx =>
    split at e
    ·have hq:=MZ hx
     rw [if_neg (by rw [JN hok hq hkT]; simp)]
     obtain ⟨u,hu,hrun⟩:=evOpQ_sound sr.hh hρ hx
     exact ⟨u,(fun w' _=>hrun w' fun h=>by rw [hLd] at h; cases h),GF hE hp' e kk' base Q w0 Z _ w R hT (sr.put hu) hgr hTk' hlen' hops' q⟩
    ·cases e
   ·split at e
    ·next x h' hx =>
     have hq:=Ip hx
     rw [if_pos (GT hok hq)]
     obtain ⟨u,w',R',h1,h2,h3,h4,h5⟩:=evOpN_sound hρ sr.hh hx
     exact J5 h1 (GF hE hp' e kk' base Q w0 Z _ w' R' hT ((sr.step h2 h4).put h3) (E9 hgr h5) hTk' hlen' hops' fun s' a' w'' Z'' R'' hK sr'' st'=>q s' a' w'' Z'' R'' hK sr'' (h4.w.trans st'))
    ·split at e
     ·next f args tys ho =>
      split at e
      ·next fv xs hf hxs =>
       split at e
       ·next r hr =>
        obtain ⟨x,h'⟩:=r
        have hq:isQ o.op=false:=by rw [ho]; rfl
        rw [if_pos (GT hok hq)]
        obtain ⟨g,uf,uc,hva,hcl,hret⟩:=Fc hE (code_sound hE 0).1 (hρ _ _ hf) (opds_vr hρ hxs) sr.hh sr.gl hr
        unfold Lw
        rw [Dz (uf:=uf) (uc:=uc) ho hva rfl hcl w]
        refine Ret.mono hret fun v w' hS=>?_
        obtain ⟨hg1,R',k1,k2,k3⟩:=hS
        exact GF hE hp' e kk' base Q w0 Z _ w' R' hT ((sr.step k1 k3).put k2) (E9 hgr hg1) hTk' hlen' hops' fun s' a' w'' Z'' R'' hK sr'' st'=>q s' a' w'' Z'' R'' hK sr'' (k3.w.trans st')
       ·cases e
      ·cases e
     ·cases e
theorem RunDZ.one (hE:EnvOk E){s s1:St}{o:Oper}(hr:rest=o::rest') (hW:(!isW o.op&&!M5 o.op)=true) (h:H6 E (evC E 0) ⟨none,false⟩ ops n0 [o] s=some s1) (kk:RunDZ E ops (k + 1) rest' s1 K):RunDZ E ops k rest s K:=by
 subst hr
 exact GF (k:=k) hE (pre:=[o]) (by simpa using hW) h kk
end
/-- A function, entered: from what its body does; the interpreter need not take it. -/
theorem PD {E:Env}{c:Code}{Q:Ex->St->Prop}{f:FuncId}{fn:Func}{args:List AV}{h:Hp}(hff:E.P.funcs[f]? = some fn) (hc:fn.body=some c) (hle:args.length<=fn.ntmps)
  (hb:Sem E ⟨none,false⟩ c ⟨args.map some++List.replicate (fn.ntmps - args.length) (some (.tp [])),h⟩ fun e s=>(e = .normal\/e = .ret)/\∃ xs,EM E.P s.fr s.hp fn.results.toList=some xs/\Q .ret ⟨[some (Ef xs)],s.hp⟩)
  {w:World} {Z:Nat->Prop} {R:List RI} {us:List Value} (hh:HR w Z R h) (hv:VRs w Z R args us) (hg:GI E w Z) :
  Ret E.P f us.toArray w fun v w'=>∃ Z' R' x h',Q .ret ⟨[some x],h'⟩/\HR w' Z' R' h'/\VR w' Z' R' x v/\StepW w Z R h w' Z' R' h':=by
 refine callsIn_wide.1 (callsIn_of_wp_marks (F:=Fw none) (n:=0) hff hc trivial ?_)
 have hul:us.length=args.length:=hv.len
 have hsr:SR E (.of w.heap.size) w Z R ⟨args.map some++List.replicate (fn.ntmps - args.length) (some (.tp [])),h⟩ { tmps:=us.toArray++Array.replicate (fn.ntmps - us.toArray.size) undef,defers:=[] }:=by
  refine ⟨hh,⟨by simp [hul],fun t x hx=>?_⟩,rfl,hg,Nat.le_refl _⟩
  have e0:us.toArray++Array.replicate (fn.ntmps - us.toArray.size) undef=(us++List.replicate (fn.ntmps - us.length) undef).toArray:=by simp
  rw [e0,Array.getD_eq_getD_getElem?,List.getElem?_toArray]
  by_cases ht:t < args.length
  ·rw [List.getElem?_append_left (by simpa using ht),List.getElem?_map] at hx
   rw [List.getElem?_append_left (by omega)]
   cases hat:args[t]? with
   | none=>rw [hat] at hx; cases hx
   | some q =>
    rw [hat] at hx
    have hx:=OI (OI hx)
    subst hx
    obtain ⟨u,hu1,hu2⟩:=hv.get hat
    rw [hu1]; exact hu2
  ·rw [List.getElem?_append_right (by simp; omega),List.getElem?_replicate] at hx
   split at hx
   ·next hlt =>
    have hx:=OI (OI hx)
    subst hx
    rw [List.getElem?_append_right (by omega),List.getElem?_replicate,if_pos (by rw [hul]; simpa using hlt)]
    exact .tp (us:=[]) rfl (fun i x u hx=>by simp at hx)
   ·cases hx
 refine hb none (.of w.heap.size) _ _ w Z R (fun _=>rfl) hsr rfl fun e s' a' w' Z' R' hQ sr' st=>?_
 obtain ⟨hex,xs,hxs,hq⟩:=hQ
 have hl:=FS (base:= .of w.heap.size) rfl (E:=E) (w:=w') (a:=a') (fn:=fn) (S:=fun v w''=>∃ Z' R' x h',Q .ret ⟨[some x],h'⟩/\HR w'' Z' R' h'/\VR w'' Z' R' x v/\StepW w Z R h w'' Z' R' h') hxs (fun w'' u g1 g2 g3 g4 g5 g6 g7=>⟨Z',R',_,_,hq,g6,g7,⟨g2.trans st.os,g3.trans st.tape,g4.trans st.output,by rw [g1]; exact st.size,fun c hc hn=>(g5 c hc).trans (st.block c hc hn),st.own_,st.z,st.z'⟩⟩) (D:=a'.defers) (w1:=w') sr' rfl rfl rfl rfl (fun _ _=>rfl)
 rcases hex with rfl | rfl
 ·exact hl
 ·exact hl
/-- A contract out of what the body does. -/
theorem Br {f:FuncId}{fn:Func}{c:Code}(hf:E0.P.funcs[f]? = some fn) (hc:fn.body=some c) (hcall:A4 E0.P f){α β:Type}(s:Cs α) (F:α->Option β) (er:β->AV) (hle:∀ a,(s.enc a).length<=fn.ntmps) (hnr:∀ b,QJ (er b)=true)
  (sem:∀ a b,F a=some b->Sem E0 ⟨none,false⟩ c ⟨Fr fn.ntmps (At 0 (s.enc a)),[]⟩ fun e s'=>(e = .normal\/e = .ret)/\∃ xs,EM E0.P s'.fr s'.hp fn.results.toList=some xs/\Ef xs=er b) :
  XOk f (Ea s F er):=by
 refine ⟨hcall,fun xs x h w Z us hz hg hv=>?_⟩
 obtain ⟨a,ha,h⟩:=OB h
 obtain ⟨b,hb,rfl⟩:=Option.map_eq_some_iff.1 h
 have hh:HR w Z [] []:=⟨rfl,fun b B hB=>by simp at hB,fun b b' B B' r r' hB=>by simp at hB,hz⟩
 refine Ret.mono (PD hf hc (hle a) (Q:=fun _ s=>s.fr=[some (er b)]) (Sem.mono (CO (Wk.enter (hle a)) (sem a b hb)) fun e s' hs=>?_) hh (s.vr ha hv) hg) fun v w' hS=>?_
 ·obtain ⟨h1,xs,h2,h3⟩:=hs
  exact ⟨h1,xs,h2,by rw [h3]⟩
 ·obtain ⟨Z',R',x,h',hQ,k1,k2,st⟩:=hS
  have hx:x=er b:=by simpa using hQ
  subst hx
  refine ⟨⟨st.os,st.tape,st.output,st.size,fun c hc _=>st.block c hc (fun ⟨b,B,r,hb,_⟩=>by simp at hb)⟩,(Mc (hnr b) k2).mono (fun _ _=>rfl) (fun c hc=>?_) (fun _ _ h=>h)⟩
  rcases st.z' c hc with h1 | ⟨b,B,r,hb,_⟩ | h1
  ·exact .inl h1
  ·simp at hb
  ·exact .inr ⟨h1,k1.zlt c hc⟩
def Ct:Option Bool:=some true
def Jj:Cs Unit:=csN
def Jk (b:Bool):AV:=cdB.enc b
def Km:List AV->Option AV:=Ea Jj (fun _=>Ct) Jk
theorem Fo:XOk 6 Km:=by
 refine ⟨⟨Tryd.call6⟩,fun xs x h w Z us _ _ hv=>?_⟩
 obtain ⟨a,ha,h⟩:=OB h
 obtain ⟨b,hb,rfl⟩:=Option.map_eq_some_iff.1 h
 have hb:=OI hb
 subst hb
 have:xs=[]:=by
  cases xs with
  | nil=>rfl
  | cons x xs=>cases ha
 subst this
 have:us=[]:=by have:=hv.len; simpa using this
 subst this
 exact Ret.mono (NY w) fun v w' h=>⟨h.2,by rw [h.1]; exact QT⟩
/-- slices.Clone: nil for nil, else a new slice. -/
noncomputable def MJ:Code:=BW Tryd.f20
def Pe (xs:List Int):Option Blk:=some ⟨1,3,xs.map cdI.enc,false⟩
set_option maxRecDepth 100000 in
theorem Ng (xs:List Int) (hc:B8 8 xs.length=true):Sem E0 ⟨none,false⟩ MJ ⟨Fr 8 [(0,.sl 1 (xs.map cdI.enc))],[]⟩ fun e s'=>(e = .normal\/e = .ret)/\((xs=[]/\s'=⟨Fr 8 [(2,.e0)],[]⟩)\/s'=⟨Fr 8 [(2,.rf 0 0 xs.length xs.length)],[Pe xs]⟩):=by
 refine AC ?_
 refine AE (s1:=⟨Fr 8 [(0,.sl 1 (xs.map cdI.enc)),(2,.e0)],[]⟩) ?_ ?_
 ·refine Fa AD 1 (s1:=⟨Fr 8 [(0,.sl 1 (xs.map cdI.enc)),(2,.e0)],[]⟩) (by kernel_rfl) ?_
  exact AH rfl AM
 refine AC ?_
 refine AC (MG ?_)
 refine Fa AD 1 (s1:=⟨Fr 8 [(0,.sl 1 (xs.map cdI.enc)),(2,.e0),(3,.sl 1 (xs.map cdI.enc))],[]⟩) (by kernel_rfl) ?_
 refine Mx (k:=1) (el:=3) (es:=xs.map cdI.enc) rfl (AA rfl) (by kernel_rfl) (by kernel_rfl) fun b hb=>AH rfl ?_
 have hb:b=true->xs=[]:=fun h=>List.map_eq_nil_iff.1 (hb h)
 refine AP (b:=b) (by kernel_rfl) (fun hb1=>?_) (fun hb1=>?_)
 ·have hx:=hb hb1
  refine BQ ?_
  refine AC (AE (s1:=⟨Fr 8 [(2,.e0)],[]⟩) ?_ (AS ?_))
  ·refine Fa AD 1 (s1:=⟨Fr 8 [(0,.sl 1 (xs.map cdI.enc)),(2,.e0),(3,.sl 1 (xs.map cdI.enc)),(4,.v (.bool b))],[]⟩) (by kernel_rfl) ?_
   exact AH rfl AM
  ·exact ⟨_,Wk.refl,.inr rfl,.inl ⟨hx,rfl⟩⟩
 ·refine AT ?_
  refine BQ (AC (MG ?_))
  refine Fa AD 2 (s1:=⟨Fr 8 [(0,.sl 1 (xs.map cdI.enc)),(2,.e0),(3,.sl 1 (xs.map cdI.enc)),(4,.v (.bool b)),(5,.rf 0 0 0 0),(6,.sl 1 (xs.map cdI.enc))],[Pe []]⟩) (by kernel_rfl) ?_
  cases xs with
  | nil =>
   refine AI AD 0 rfl (NJ (x:= .rf 0 0 0 0) (hp':=[Pe []]) (AA rfl) rfl (by kernel_rfl) (by kernel_rfl) (by kernel_rfl)) ?_
   refine Fa AD 1 (s1:=⟨Fr 8 [(0,.sl 1 []),(2,.rf 0 0 0 0),(3,.sl 1 []),(4,.v (.bool b)),(5,.rf 0 0 0 0),(6,.sl 1 []),(7,.rf 0 0 0 0)],[Pe []]⟩) (by kernel_rfl) (AH rfl (AS ?_))
   exact ⟨⟨Fr 8 [(2,.rf 0 0 0 0)],[Pe []]⟩,AM,.inr rfl,.inr rfl⟩
  | cons y ys =>
   refine AI AD 0 rfl (NJ (AA rfl) rfl (by kernel_rfl) (by kernel_rfl) (D0 (a:= .rf 0 0 0 0) (b:= .sl 1 ((y::ys).map cdI.enc)) (by kernel_rfl) (by kernel_rfl) (Om (c:=cdI) (xs:=[]) (vs:=y::ys) (k:=1) (bytes:=8) (el:=3) (by kernel_rfl) (by kernel_rfl) Ou (List.cons_ne_nil _ _) (by kernel_rfl) (by rw [List.length_nil,Nat.zero_add]; exact hc)))) ?_
   refine Fa AD 1 (s1:=⟨Fr 8 [(0,.sl 1 ((y::ys).map cdI.enc)),(2,.rf 1 0 (y::ys).length (y::ys).length),(3,.sl 1 ((y::ys).map cdI.enc)),(4,.v (.bool b)),(5,.rf 0 0 0 0),(6,.sl 1 ((y::ys).map cdI.enc)),(7,.rf 1 0 (y::ys).length (y::ys).length)],[none,Pe (y::ys)]⟩) (by kernel_rfl) (AH rfl (AS ?_))
   exact ⟨⟨Fr 8 [(2,.rf 0 0 (y::ys).length (y::ys).length)],[Pe (y::ys)]⟩,A6 [1] ⟨⟨_,rfl,BV⟩,trivial⟩ ⟨lv,trivial⟩,.inr rfl,.inr rfl⟩
def ME (xs:List Int) (x:AV) (h':Hp):Prop:=(xs=[]/\x = .e0/\h'=[])\/(x = .rf 0 0 xs.length xs.length/\h'=[Pe xs])
theorem QP (xs:List Int) (hc:B8 8 xs.length=true):SOk 20 [.sl 1 (xs.map cdI.enc)] (ME xs):=by
 refine J9 AD rfl rfl (fn:=Tryd.f20) (c:=MJ) (by kernel_rfl) (by kernel_rfl) ⟨Tryd.call20⟩ (by show 1<=8; decide) (Sem.mono (Ng xs hc) ?_)
 rintro e s' ⟨he,⟨hx,rfl⟩ | rfl⟩
 ·exact ⟨he,[.e0],by kernel_rfl,.inl ⟨hx,rfl,rfl⟩⟩
 ·exact ⟨he,[.rf 0 0 xs.length xs.length],by kernel_rfl,.inr ⟨rfl,rfl⟩⟩
theorem Nq (xs:List Int):(xs.map cdI.enc).all F6=true:=by
 rw [List.all_eq_true]
 intro x hx
 obtain ⟨y,_,rfl⟩:=List.mem_map.1 hx
 rfl
theorem M2 {xs:List Int}:∀ x h',ME xs x h'->Kb x=true/\LA h'=true:=by
 rintro x h' (⟨_,rfl,rfl⟩ | ⟨rfl,rfl⟩)
 ·exact ⟨rfl,rfl⟩
 ·refine ⟨rfl,?_⟩
  show (!false&&(xs.map cdI.enc).all F6&&true)=true
  rw [Nq]; rfl
/-- An element of a slice whose cells were written. -/
theorem Qs {α:Type}{e:α->AV}{xs:List α}{P:Program}{h:Hp}{v:α}{n:Nat}{t t' el:TypeId}{b k:Nat}{ki:IntKind}{i:Int}(hn:xs.length=n) (hu:P.underlying t=some (.slice el)) (hs:Ap P el=some k) (hb:h[b]? = some (some ⟨k,t',xs.map e,false⟩)) (hv:idx xs i=some v):BJ P h t (.rf b 0 n n) (.v (.int ki i))=some (.pt b i.toNat 0):=by
 subst hn; exact LG hu hs hb hv
def G0 (lo hi:Int) (n:Nat):Bool:=Ce lo hi n&&decide (lo < hi)
theorem H7 {lo hi:Int}{n:Nat}(h:G0 lo hi n=true):0<=lo/\lo < hi/\hi<=n:=by
 simp only [G0,Ce,Bool.and_eq_true,decide_eq_true_eq] at h
 omega
theorem Mi {lo hi:Int}{n:Nat}(h:G0 lo hi n=true):Ce lo hi n=true:=by
 simp only [G0,Bool.and_eq_true] at h; exact h.1
theorem QM {α:Type}{xs:List α}{lo hi:Int}(h:G0 lo hi xs.length=true):(xs.take hi.toNat).drop lo.toNat≠[]:=by
 obtain ⟨h1,h2,h3⟩:=H7 h
 intro e
 have:=congrArg List.length e
 simp at this
 omega
section
variable {P:Program}{h:Hp}
theorem PH {α:Type}{e:α->AV}{xs:List α}{t t' el:TypeId}{b k:Nat}{lo hi:Int}{a b':Option AV}(hu:P.underlying t=some (.slice el)) (hs:Ap P el=some k) (hb:h[b]? = some (some ⟨k,t',xs.map e,false⟩)) (ha:IP a 0=some lo.toNat) (hb':IP b' xs.length=some hi.toNat) (hc:G0 lo hi xs.length=true) :
  Dk P h t (.rf b 0 xs.length xs.length) a b' none=some (.rf b (0 + lo.toNat) (hi.toNat - lo.toNat) (xs.length - lo.toNat)):=by
 obtain ⟨h1,h2,h3⟩:=H7 hc
 unfold Dk
 rw [hu]
 simp only [hb,ha,hb',show IP none xs.length=some xs.length from rfl]
 rw [if_pos ⟨by omega,by omega,by omega,.inl rfl,hs⟩,if_pos (by omega)]
theorem Oa {α:Type}{c:Cd α}{xs:List α}{t':TypeId}{b k:Nat}{lo hi:Int}(hn:∀ x,Bp (c.enc x)=true) (hb:h[b]? = some (some ⟨k,t',xs.map c.enc,false⟩)) (hc:G0 lo hi xs.length=true) :
  KE h [.rf b (0 + lo.toNat) (hi.toNat - lo.toNat) (xs.length - lo.toNat)]=some [.sl k (((xs.take hi.toNat).drop lo.toNat).map c.enc)]:=by
 obtain ⟨h1,h2,h3⟩:=H7 hc
 have e:QS h (.rf b (0 + lo.toNat) (hi.toNat - lo.toNat) (xs.length - lo.toNat))=some (.sl k (((xs.take hi.toNat).drop lo.toNat).map c.enc)):=by
  show Kr h (.rf b (0 + lo.toNat) (hi.toNat - lo.toNat) (xs.length - lo.toNat))=_
  unfold Kr
  simp only [hb]
  rw [if_pos ⟨by simp; omega,by simp [hn]⟩,Nat.zero_add,List.map_drop,List.map_take,List.drop_take]
 unfold KE
 rw [e]
 rfl
end
/-- How a Lean value is held by an abstract value and own blocks (the list tells which). -/
structure Oc (α:Type) where
 cd:Cd α
 at_:Hp->AV->α->List Nat->Prop
 loc:∀ {h h':Hp} {e:AV} {x:α} {F:List Nat},at_ h e x F->(∀ b ∈ F,h'[b]? = h[b]?)->at_ h' e x F
 own:∀ {h:Hp} {e:AV} {x:α} {F:List Nat} {b:Nat},at_ h e x F->b ∈ F->∃ B,h[b]? = some (some B)/\B.fz=false
 vr:∀ {w:World} {Z:Nat->Prop} {R:List RI} {h:Hp} {e:AV} {x:α} {F:List Nat} {u:Value},HR w Z R h->at_ h e x F->VR w Z R e u->VR w (fun c=>Z c\/∃ b ∈ F,∃ r,R[b]? = some r/\c=r.c) [] (cd.enc x) u
/-- A part of a heap. -/
structure Asn where
 at_:Hp->List Nat->Prop
 loc:∀ {h h':Hp} {F:List Nat},at_ h F->(∀ b ∈ F,h'[b]? = h[b]?)->at_ h' F
 own:∀ {h:Hp} {F:List Nat} {b:Nat},at_ h F->b ∈ F->∃ B,h[b]? = some (some B)/\B.fz=false
def TF (h:Hp):List Asn->List Nat->Prop
 | [],F=>F=[]
 | P::L,F=>∃ F1 F2,F=F1++F2/\P.at_ h F1/\TF h L F2
/-- The assertions hold of different blocks. -/
def T (h:Hp) (L:List Asn):Prop:=∃ F,TF h L F/\F.Nodup
theorem F5 {h:Hp}{b:Nat}{o:Option Blk}(e:h[b]? = some o):b < h.length:=(List.getElem?_eq_some_iff.1 e).1
theorem TF.loc {h h':Hp}:∀ {L:List Asn}{F:List Nat},TF h L F->(∀ b ∈ F,h'[b]? = h[b]?)->TF h' L F
 | [],_,e,_=>e
 | _::_,_,⟨F1,F2,e,p,q⟩,k=>⟨F1,F2,e,Asn.loc _ p (fun b hb=>k b (by rw [e]; exact List.mem_append_left _ hb)),TF.loc q fun b hb=>k b (by rw [e]; exact List.mem_append_right _ hb)⟩
theorem TF.own {h:Hp}:∀ {L:List Asn}{F:List Nat}{b:Nat},TF h L F->b ∈ F->∃ B,h[b]? = some (some B)/\B.fz=false
 | [],_,_,e,hb=>by rw [show _=[] from e] at hb; cases hb
 | _::_,_,_,⟨F1,F2,e,p,q⟩,hb=>by
  rw [e] at hb
  rcases List.mem_append.1 hb with hb | hb
  ·exact Asn.own _ p hb
  ·exact TF.own q hb
theorem TF.lt {h:Hp}{L:List Asn}{F:List Nat}{b:Nat}(t:TF h L F) (hb:b ∈ F):b < h.length:=let ⟨_,e,_⟩:=t.own hb; F5 e
theorem Asn.lt {P:Asn}{h:Hp}{F:List Nat}{b:Nat}(t:P.at_ h F) (hb:b ∈ F):b < h.length:=let ⟨_,e,_⟩:=P.own t hb; F5 e
theorem TF.front {h:Hp}{P:Asn}:∀ {i:Nat}{L:List Asn}{F:List Nat},TF h L F->L[i]? = some P->∃ F',TF h (P::L.eraseIdx i) F'/\F'.Perm F
 | _,[],_,_,e=>by simp at e
 | 0,Q::L,F,t,e=>by
  simp at e; subst e
  exact ⟨F,t,List.Perm.refl _⟩
 | i + 1,Q::L,F,⟨F1,F2,e0,p,q⟩,e=>by
  obtain ⟨F',⟨G1,G2,e1,p1,q1⟩,hp⟩:=TF.front q (by simpa using e)
  subst e0 e1
  refine ⟨G1++(F1++G2),⟨G1,_,rfl,p1,F1,G2,rfl,p,q1⟩,?_⟩
  have h1:(G1++(F1++G2)).Perm (F1++(G1++G2)):=by
   rw [<-List.append_assoc,<-List.append_assoc]
   exact List.Perm.append_right _ List.perm_append_comm
  exact h1.trans (List.Perm.append_left _ hp)
theorem T.front {h:Hp}{L:List Asn}{P:Asn}(i:Nat) (t:T h L) (e:L[i]? = some P):T h (P::L.eraseIdx i) :=
 let ⟨_,t1,hn⟩:=t; let ⟨F',t2,hp⟩:=t1.front e; ⟨F',t2,hp.nodup_iff.2 hn⟩
theorem GV {F1 F2:List Nat}:(F1++F2).Nodup↔F1.Nodup/\F2.Nodup/\∀ a ∈ F1,a ∉ F2:=by
 rw [List.nodup_append]
 constructor
 ·rintro ⟨h1,h2,h3⟩
  exact ⟨h1,h2,fun a ha hb=>h3 a ha a hb rfl⟩
 ·rintro ⟨h1,h2,h3⟩
  exact ⟨h1,h2,fun a ha b hb e=>h3 a ha (e ▸ hb)⟩
/-- The first assertion turns into another; the rest is as it was. -/
theorem T.act {h:Hp}{P:Asn}{L:List Asn}(t:T h (P::L)):∃ F,P.at_ h F/\F.Nodup/\(∀ (h':Hp) (P':Asn) (F':List Nat),P'.at_ h' F'->F'.Nodup->(∀ b,b ∉ F->b < h.length->h'[b]? = h[b]?)->(∀ b ∈ F',b ∈ F\/h.length<=b)->T h' (P'::L))/\∀ h':Hp,(∀ b,b ∉ F->b < h.length->h'[b]? = h[b]?)->T h' L:=by
 obtain ⟨F,⟨F1,F2,rfl,p,q⟩,hn⟩:=t
 obtain ⟨n1,n2,n3⟩:=GV.1 hn
 have hq:∀ h':Hp,(∀ b,b ∉ F1->b < h.length->h'[b]? = h[b]?)->TF h' L F2:=fun h' hs=>q.loc fun b hb=>hs b (fun hb1=>n3 b hb1 hb) (q.lt hb)
 refine ⟨F1,p,n1,fun h' P' F' p' hn' hs hb=>⟨F'++F2,⟨F',F2,rfl,p',hq h' hs⟩,GV.2 ⟨hn',n2,fun a ha ha2=>?_⟩⟩,fun h' hs=>⟨F2,hq h' hs,n2⟩⟩
 rcases hb a ha with h1 | h1
 ·exact n3 a h1 ha2
 ·have:=q.lt ha2; omega
theorem T.drop {h:Hp}{P:Asn}{L:List Asn}(t:T h (P::L)):T h L:=let ⟨_,_,_,_,k⟩:=t.act; k h fun _ _ _=>rfl
/-- New blocks, a new assertion. -/
theorem T.add {h h':Hp}{P:Asn}{L:List Asn}{F:List Nat}(t:T h L) (p:P.at_ h' F) (hn:F.Nodup) (hs:∀ b,b < h.length->h'[b]? = h[b]?) (hb:∀ b ∈ F,h.length<=b):T h' (P::L):=by
 obtain ⟨F2,q,n2⟩:=t
 exact ⟨F++F2,⟨F,F2,rfl,p,q.loc fun b hb=>hs b (q.lt hb)⟩,GV.2 ⟨hn,n2,fun a ha ha2=>by have:=hb a ha; have:=q.lt ha2; omega⟩⟩
theorem T.nil {h:Hp}:T h []:=⟨[],rfl,List.nodup_nil⟩
/-- Two assertions as one. -/
def Rq (P Q:Asn):Asn where
 at_ h F:=∃ F1 F2,F=F1++F2/\P.at_ h F1/\Q.at_ h F2
 loc:=fun ⟨F1,F2,e,p,q⟩ k=>⟨F1,F2,e,P.loc p (fun b hb=>k b (by rw [e]; exact List.mem_append_left _ hb)),Q.loc q fun b hb=>k b (by rw [e]; exact List.mem_append_right _ hb)⟩
 own:=fun ⟨F1,F2,e,p,q⟩ hb=>by
  rw [e] at hb
  rcases List.mem_append.1 hb with hb | hb
  ·exact P.own p hb
  ·exact Q.own q hb
theorem T.join {h:Hp}{P Q:Asn}{L:List Asn}:T h (P::Q::L)↔T h (Rq P Q::L):=by
 constructor
 ·rintro ⟨F,⟨F1,F2,rfl,p,⟨G1,G2,rfl,q,r⟩⟩,hn⟩
  exact ⟨_,⟨F1++G1,G2,(List.append_assoc _ _ _).symm,⟨F1,G1,rfl,p,q⟩,r⟩,hn⟩
 ·rintro ⟨F,⟨F1,F2,rfl,⟨G1,G2,rfl,p,q⟩,r⟩,hn⟩
  exact ⟨_,⟨G1,G2++F2,List.append_assoc _ _ _,p,G2,F2,rfl,q,r⟩,hn⟩
/-- An own value. -/
def own_ {α:Type}(o:Oc α) (e:AV) (x:α):Asn:=⟨fun h F=>o.at_ h e x F,o.loc,o.own⟩
/-- A cell of its own (a variable that closures hold, a struct with an address). -/
def cel (p:AV) (k:Nat) (t:TypeId) (a:AV):Asn where
 at_ h F:=∃ b,p = .pt b 0 0/\F=[b]/\h[b]? = some (some ⟨k,t,[a],false⟩)
 loc:=fun ⟨b,e1,e2,e3⟩ k=>⟨b,e1,e2,(k b (by rw [e2]; simp)).trans e3⟩
 own:=fun ⟨b,e1,e2,e3⟩ hb=>by
  rw [e2] at hb
  simp at hb
  subst hb
  exact ⟨_,e3,rfl⟩
/-- A value as it is. -/
def ocV {α:Type}(c:Cd α):Oc α where
 cd:=c
 at_ _ e x F:=e=c.enc x/\F=[]
 loc h _:=h
 own h hb:=by rw [h.2] at hb; cases hb
 vr:=fun {w Z R h e x F u} _ ha hv=>by
  rw [ha.1] at hv
  exact (Gn (c.nr x) hv).mono (fun _ _=>rfl) (fun _ h=> .inl h) (fun _ _ h=>h)
section
variable {α:Type}{p p':AV->α->List Nat->Prop}
def All3 (p:AV->α->List Nat->Prop):List AV->List α->List Nat->Prop
 | [],[],F=>F=[]
 | e::es,x::xs,F=>∃ F1 F2,F=F1++F2/\p e x F1/\All3 p es xs F2
 | _,_,_=>False
def All3h (p:AV->α->List Nat->Prop):Nat->AV->List AV->List α->List Nat->Prop
 | 0,e',e::es,_::xs,F=>e=e'/\All3 p es xs F
 | j + 1,e',e::es,x::xs,F=>∃ F1 F2,F=F1++F2/\p e x F1/\All3h p j e' es xs F2
 | _,_,_,_,_=>False
theorem All3.len:∀ {es:List AV}{xs:List α}{F:List Nat},All3 p es xs F->es.length=xs.length
 | [],[],_,_=>rfl
 | _::_,_::_,_,⟨_,_,_,_,h⟩=>by simp [All3.len h]
 | [],_::_,_,h=>h.elim
 | _::_,[],_,h=>h.elim
theorem All3.mono:∀ {es:List AV}{xs:List α}{F:List Nat},All3 p es xs F->(∀ e x F',(∀ b ∈ F',b ∈ F)->p e x F'->p' e x F')->All3 p' es xs F
 | [],[],_,h,_=>h
 | _::_,_::_,_,⟨F1,F2,e,h1,h2⟩,k=>⟨F1,F2,e,k _ _ F1 (fun b hb=>by rw [e]; exact List.mem_append_left _ hb) h1,h2.mono fun e' x F' hF=>k e' x F' fun b hb=>by rw [e]; exact List.mem_append_right _ (hF b hb)⟩
 | [],_::_,_,h,_=>h.elim
 | _::_,[],_,h,_=>h.elim
theorem All3h.mono:∀ {j:Nat}{e':AV}{es:List AV}{xs:List α}{F:List Nat},All3h p j e' es xs F->(∀ e x F',(∀ b ∈ F',b ∈ F)->p e x F'->p' e x F')->All3h p' j e' es xs F
 | 0,_,_::_,_::_,_,⟨h1,h2⟩,k=>⟨h1,h2.mono k⟩
 | _ + 1,_,_::_,_::_,_,⟨F1,F2,e,h1,h2⟩,k=>⟨F1,F2,e,k _ _ F1 (fun b hb=>by rw [e]; exact List.mem_append_left _ hb) h1,h2.mono fun e' x F' hF=>k e' x F' fun b hb=>by rw [e]; exact List.mem_append_right _ (hF b hb)⟩
 | 0,_,[],_,_,h,_=>by unfold All3h at h; exact h.elim
 | 0,_,_::_,[],_,h,_=>by unfold All3h at h; exact h.elim
 | _ + 1,_,[],_,_,h,_=>by unfold All3h at h; exact h.elim
 | _ + 1,_,_::_,[],_,h,_=>by unfold All3h at h; exact h.elim
theorem All3.get:∀ {es:List AV}{xs:List α}{F:List Nat}{i:Nat}{x:α},All3 p es xs F->xs[i]? = some x->∃ e Fi,es[i]? = some e/\p e x Fi/\∀ b ∈ Fi,b ∈ F
 | _::_,_::_,_,0,_,⟨F1,F2,e,h1,h2⟩,hx=>by
  simp at hx; subst hx
  exact ⟨_,F1,rfl,h1,fun b hb=>by rw [e]; exact List.mem_append_left _ hb⟩
 | _::_,_::_,_,i + 1,_,⟨F1,F2,e,h1,h2⟩,hx=>by
  obtain ⟨e',Fi,k1,k2,k3⟩:=h2.get (i:=i) (by simpa using hx)
  exact ⟨e',Fi,by simpa using k1,k2,fun b hb=>by rw [e]; exact List.mem_append_right _ (k3 b hb)⟩
 | [],[],_,_,_,_,hx=>by simp at hx
 | [],_::_,_,_,_,h,_=>h.elim
 | _::_,[],_,_,_,h,_=>h.elim
theorem All3h.at_:∀ {j:Nat}{e':AV}{es:List AV}{xs:List α}{F':List Nat},All3h p j e' es xs F'->es[j]? = some e'/\es.length=xs.length/\j < xs.length
 | 0,_,_::_,_::_,_,⟨h1,h2⟩=>⟨by simp [h1],by simp [h2.len],by simp⟩
 | _ + 1,_,_::_,_::_,_,⟨_,_,_,_,h2⟩=>by
  obtain ⟨k1,k2,k3⟩:=h2.at_
  exact ⟨by simpa using k1,by simp [k2],by simp; omega⟩
 | 0,_,[],_,_,h=>by unfold All3h at h; exact h.elim
 | 0,_,_::_,[],_,h=>by unfold All3h at h; exact h.elim
 | _ + 1,_,[],_,_,h=>by unfold All3h at h; exact h.elim
 | _ + 1,_,_::_,[],_,h=>by unfold All3h at h; exact h.elim
theorem All3.append:∀ {es:List AV}{xs:List α}{F:List Nat}{es':List AV}{xs':List α}{F':List Nat},All3 p es xs F->All3 p es' xs' F'->All3 p (es++es') (xs++xs') (F++F')
 | [],[],_,_,_,_,h,h'=>by rw [show _=[] from h]; exact h'
 | _::_,_::_,_,_,_,_,⟨F1,F2,e,h1,h2⟩,h'=>⟨F1,_,by rw [e,List.append_assoc],h1,h2.append h'⟩
 | [],_::_,_,_,_,_,h,_=>h.elim
 | _::_,[],_,_,_,_,h,_=>h.elim
theorem All3.mem:∀ {es:List AV}{xs:List α}{F:List Nat}{b:Nat},All3 p es xs F->b ∈ F->∃ e x F',p e x F'/\b ∈ F'
 | [],[],_,_,h,hb=>by rw [show _=[] from h] at hb; cases hb
 | _::_,_::_,_,_,⟨F1,F2,e,h1,h2⟩,hb=>by
  rw [e] at hb
  rcases List.mem_append.1 hb with hb | hb
  ·exact ⟨_,_,F1,h1,hb⟩
  ·exact h2.mem hb
 | [],_::_,_,_,h,_=>h.elim
 | _::_,[],_,_,h,_=>h.elim
end
/-- Leaves. -/
theorem HS {α:Type}{c:Cd α}{h:Hp}:∀ {xs:List α},All3 ((ocV c).at_ h) (xs.map c.enc) xs []
 | []=>rfl
 | _x::_=>⟨[],[],rfl,⟨rfl,rfl⟩,HS⟩
theorem All3.leaf_inv {α:Type}{c:Cd α}{h:Hp}:∀ {es:List AV}{xs:List α}{F:List Nat},All3 ((ocV c).at_ h) es xs F->es=xs.map c.enc/\F=[]
 | [],[],_,e=>⟨rfl,e⟩
 | _::_,_::_,_,⟨F1,F2,e,h1,h2⟩=>by
  obtain ⟨k1,k2⟩:=h2.leaf_inv
  exact ⟨by rw [k1,h1.1]; rfl,by rw [e,h1.2,k2]; rfl⟩
 | [],_::_,_,h=>h.elim
 | _::_,[],_,h=>h.elim
/-- An own slice of own values. -/
def ocL {α:Type}(k:Nat) (t:TypeId) (o:Oc α):Oc (List α) where
 cd:=cdL k o.cd
 at_ h e xs F:=(e = .e0/\xs=[]/\F=[])\/∃ b es F',e = .rf b 0 xs.length xs.length/\h[b]? = some (some ⟨k,t,es,false⟩)/\F=b::F'/\All3 (o.at_ h) es xs F'
 loc:=fun {h h' e x F} ha k=>by
  rcases ha with h1 | ⟨b,es,F',h1,h2,h3,h4⟩
  ·exact .inl h1
  ·subst h3
   exact .inr ⟨b,es,F',h1,(k b (by simp)).trans h2,rfl,h4.mono fun e x G hG h5=>o.loc h5 fun c hc=>k c (List.mem_cons_of_mem _ (hG c hc))⟩
 own:=fun {h e x F b} ha hb=>by
  rcases ha with ⟨_,_,h1⟩ | ⟨b',es,F',h1,h2,h3,h4⟩
  ·rw [h1] at hb; cases hb
  ·subst h3
   rcases List.mem_cons.1 hb with rfl | hb
   ·exact ⟨_,h2,rfl⟩
   ·obtain ⟨e,x,G,k1,k2⟩:=h4.mem hb
    exact o.own k1 k2
 vr:=fun {w Z R h e xs F u} hh ha hv=>by
  rcases ha with ⟨rfl,rfl,rfl⟩ | ⟨b,es,F',rfl,h2,rfl,h4⟩
  ·cases hv
   exact .sl (us:=[]) rfl rfl (Nat.le_refl _) (by unfold maxLen; omega) (fun h=>by omega) (fun i x u hx=>by simp at hx)
  ·obtain ⟨r,arr,us,g1,g2,g3,g4,g5,g6,g7,g8,g9,g10⟩:=hh.blk b _ h2
   have hl:=h4.len
   cases hv with
   | rf hr' q0 q1 q2 q3 =>
    rename_i c r'
    rw [g1] at hr'
    injection hr' with hr'
    subst hr'
    have hul:us.length=es.length:=g9.len
    refine .sl (us:=us) (by simp) (by simp; omega) (by omega) (by omega) (fun _=>⟨⟨r.c,0 * r.k,none⟩,rfl,rfl,.inr ⟨b,by simp,r,g1,rfl⟩,fun i u hu=>?_⟩) (fun i x u hx hu=>?_)
    ·obtain ⟨k1,k2,k3⟩:=g10 i u hu
     refine ⟨k1,k2,fun j q hq=>?_⟩
     have:=k3 j q hq
     rw [Nat.zero_mul,Nat.zero_add]
     simp only [World.cell?,g3]
     simpa using this
    ·rw [List.getElem?_map] at hx
     obtain ⟨y,hy,rfl⟩:=Option.map_eq_some_iff.1 hx
     obtain ⟨e,Fi,k1,k2,k3⟩:=h4.get hy
     have hvi:=g9.at_ i e u k1 hu
     exact (o.vr hh k2 hvi).mono (fun _ _=>rfl) (fun c hc=>hc.imp_right fun ⟨b',hb',hr⟩=>⟨b',List.mem_cons_of_mem _ (k3 b' hb'),hr⟩) (fun _ _ h=>h)
/-- What may be laid in a cell of k cells. -/
def Fit {α:Type}(o:Oc α) (k:Nat):Prop:=∀ (h:Hp) (e:AV) (x:α) (F:List Nat),o.at_ h e x F->e.nc=k/\e.notTp=true/\elm e.cel=e
theorem Px {α:Type}{c:Cd α}{k:Nat}(h:∀ x,(c.enc x).nc=k/\(c.enc x).notTp=true/\elm (c.enc x).cel=c.enc x):Fit (ocV c) k:=fun _ e x _ hx=>by
 rw [hx.1]; exact h x
theorem All3.fit {α:Type}{o:Oc α}{k:Nat}(hf:Fit o k){h:Hp}:∀ {es:List AV}{xs:List α}{F:List Nat},All3 (o.at_ h) es xs F->∀ e ∈ es,e.nc=k/\e.notTp=true/\elm e.cel=e
 | [],[],_,_,e,he=>by cases he
 | _::_,_::_,_,⟨F1,F2,_,h1,h2⟩,e,he=>by
  rcases List.mem_cons.1 he with rfl | he
  ·exact hf _ _ _ _ h1
  ·exact h2.fit hf e he
 | [],_::_,_,h,_,_=>h.elim
 | _::_,[],_,h,_,_=>h.elim
/-- The address of an element. -/
def eAt:AV->Nat->AV
 | .rf b lo _ _,i=> .pt b (lo + i) 0
 | x,_=>x
def HQ:AV->Nat->AV
 | .pt b i o,n=> .pt b i (o + n)
 | x,_=>x
section
variable {α:Type}{o:Oc α}{k j:Nat}{t:TypeId}{e e':AV}{xs:List α}{x y:α}{h:Hp}{L:List Asn}{c:Cd α}
theorem T.e0 {k:Nat}{ty:TypeId}(t:T h L):T h (own_ (ocL k ty o) .e0 []::L):=t.add (F:=[]) (.inl ⟨rfl,rfl,rfl⟩) List.nodup_nil (fun _ _=>rfl) (fun _ h=>by cases h)
end
section
variable {P:Program}{α:Type}{o:Oc α}{k j m off:Nat}{t ty ty2 el:TypeId}{e e' y:AV}{xs ys vs:List α}{x v v':α}{h:Hp}{L:List Asn}{c:Cd α}{i:Int}{ki:IntKind}{g:Bool}
theorem QC (ht:T h (own_ (ocL k t o) e xs::L)) (hu:P.underlying ty=some (.slice el)):Gs P ty e=some (eI xs.length):=by
 obtain ⟨F,p,_⟩:=ht.act
 rcases p with ⟨rfl,rfl,_⟩ | ⟨b,es,F',rfl,_⟩
 ·simp [Gs,hu,eI]
 ·simp [Gs,hu,eI]
theorem Qq (ht:T h (own_ (ocL k t o) e xs::L)) (hu:P.underlying ty=some (.slice el)) (hs:Ap P el=some k) (hv:idx xs i=some v):BJ P h ty e (.v (.int ki i))=some (eAt e i.toNat):=by
 obtain ⟨F,p,_⟩:=ht.act
 obtain ⟨h0,h1⟩:=E6 hv
 rcases p with ⟨rfl,rfl,_⟩ | ⟨b,es,F',rfl,h2,_⟩
 ·simp at h1
 ·rw [Qr hu hs h2 rfl h0 (List.getElem?_eq_some_iff.1 h1).1]
  simp [eAt]
theorem Qu {n:Nat}(ht:T h (own_ (ocL k t (ocV c)) e xs::L)) (hv:xs[n]? = some v) (hm:Ap P ty=some m) (hg:LV P ty=some g) (he:PX (c.enc v) off m g=some y):D5 P h ty (HQ (eAt e n) off)=some y:=by
 obtain ⟨F,p,_⟩:=ht.act
 rcases p with ⟨rfl,rfl,_⟩ | ⟨b,es,F',rfl,h2,_,h4⟩
 ·simp at hv
 ·obtain ⟨rfl,_⟩:=h4.leaf_inv
  simp [D5,hm,hg,eAt,HQ,h2,hv,he]
theorem Q2 (e:AV) (n:Nat):HQ (eAt e n) 0=eAt e n:=by cases e <;> rfl
theorem P9 {n:Nat}(ht:T h (own_ (ocL k t (ocV c)) e xs::L)) (hv:xs[n]? = some v) (hm:Ap P ty=some m) (hg:LV P ty=some g) (he:PX (c.enc v) 0 m g=some y):D5 P h ty (eAt e n)=some y:=by
 have:=Qu (off:=0) ht hv hm hg he
 rwa [Q2] at this
theorem Q5 {n:Nat}(ht:T h (own_ (ocL k t (ocV c)) e xs::L)) (hv:xs[n]? = some v) (hs:Ap P ty=some y.nc) (hn:y.notTp=true) (he:Qd (c.enc v) off y=some (c.enc v')):∃ h',Dl P h ty (HQ (eAt e n) off) y=some h'/\T h' (own_ (ocL k t (ocV c)) e (xs.set n v')::L):=by
 obtain ⟨F,p,hn',hk,_⟩:=ht.act
 rcases p with ⟨rfl,rfl,_⟩ | ⟨b,es,F',rfl,h2,rfl,h4⟩
 ·simp at hv
 ·obtain ⟨rfl,rfl⟩:=h4.leaf_inv
  have hb:=F5 h2
  refine ⟨h.set b (some ⟨k,t,(xs.set n v').map c.enc,false⟩),by simp [Dl,eAt,HQ,h2,hv,hs,hn,he],hk _ _ [b] (.inr ⟨b,(xs.set n v').map c.enc,[],by simp,by simp [hb],rfl,HS⟩) (by simp) (fun b' hb' _=>?_) (fun b' hb'=> .inl hb')⟩
  rw [List.getElem?_set,if_neg (by intro e; subst e; simp at hb')]
theorem OU {n:Nat}(ht:T h (own_ (ocL k t (ocV c)) e xs::L)) (hv:xs[n]? = some v) (hs:Ap P ty=some y.nc) (hn:y.notTp=true) (he:Qd (c.enc v) 0 y=some (c.enc v')):∃ h',Dl P h ty (eAt e n) y=some h'/\T h' (own_ (ocL k t (ocV c)) e (xs.set n v')::L):=by
 have:=Q5 (off:=0) ht hv hs hn he
 rwa [Q2] at this
/-- Loose elements. -/
def els {α:Type}(o:Oc α) (es:List AV) (xs:List α):Asn where
 at_ h F:=All3 (o.at_ h) es xs F
 loc:=fun h k=>h.mono fun _e _x _G hG h5=>o.loc h5 fun c hc=>k c (hG c hc)
 own:=fun h hb=>let ⟨_,_,_,q1,q2⟩:=h.mem hb; o.own q1 q2
theorem Im (ht:T h L):T h (els (ocV c) (xs.map c.enc) xs::L):=ht.add (F:=[]) HS List.nodup_nil (fun _ _=>rfl) (fun _ h=>by cases h)
/-- The elements of an own slice. -/
theorem Pt (ht:T h (own_ (ocL k t o) y ys::L)) (hu:P.underlying ty2=some (.slice el)):∃ ey,T h (els o ey ys::L)/\FM h k y=some ey/\GB P ty2 y=true:=by
 obtain ⟨F,p,hn,hk,_⟩:=ht.act
 rcases p with ⟨rfl,rfl,rfl⟩ | ⟨b,es,F',rfl,h2,rfl,h4⟩
 ·exact ⟨[],hk h _ [] rfl List.nodup_nil (fun _ _ _=>rfl) (fun _ h=>by cases h),by simp [FM],by simp [GB,hu]⟩
 ·refine ⟨es,hk h _ F' h4 (List.nodup_cons.1 hn).2 (fun _ _ _=>rfl) (fun b hb=> .inl (List.mem_cons_of_mem _ hb)),?_,by simp [GB,hu]⟩
  have hl:=h4.len
  simp [FM,h2,<-hl]
/-- A growing own slice takes elements. -/
theorem NV {bytes:Nat}{i:TypeInfo}{z:AV}{ey:List AV}(ht:T h (own_ (ocL k t o) e xs::els o ey ys::L)) (hsy:GB P ty2 y=true) (hel:FM h k y=some ey) (hte:De P ty=some t) (hi:P.info? t=some i) (hz:DM P t=some z) (hk:i.size=k) (h0:Nat.blt 0 k=true) (hzn:z.nc=k) (hzt:z.notTp=true) (hib:i.bytes=bytes) (hc:B8 bytes (xs.length + ys.length)=true) :
  ∃ e' h',Bc P h ty ty2 e y=some (e',h')/\T h' (own_ (ocL k t o) e' (xs++ys)::L):=by
 subst hib hk
 obtain ⟨F,p,hn',hk,hk0⟩:=(T.join.1 ht).act
 obtain ⟨F1,Fy,rfl,px,hy4⟩:=p
 obtain ⟨n1,n2,n3⟩:=GV.1 hn'
 obtain ⟨c1,c2⟩:=I3 hc
 have h0':0 < i.size:=Nat.le_of_ble_eq_true h0
 have hly:ey.length=ys.length:=All3.len hy4
 have hlt:∀ c,c ∈ F1++Fy->c < h.length:=fun c hc=>by
  rcases List.mem_append.1 hc with hc | hc
  ·obtain ⟨B,q,_⟩:=(ocL i.size t o).own px hc
   exact F5 q
  ·obtain ⟨B,q,_⟩:=(els o ey ys).own hy4 hc
   exact F5 q
 cases hey:ey with
 | nil =>
  subst hey
  have:ys=[]:=by cases ys with | nil=>rfl | cons a b=>simp at hly
  subst this
  refine ⟨e,h,?_,?_⟩
  ·rcases px with ⟨rfl,_⟩ | ⟨b,es,F',rfl,_⟩ <;> simp [Bc,hsy,hte,hi,hz,hel]
  ·rw [List.append_nil]
   exact hk h _ F1 px n1 (fun _ _ _=>rfl) (fun b hb=> .inl (List.mem_append_left _ hb))
 | cons a r =>
  have he:ey.isEmpty=false:=by rw [hey]; rfl
  have hne:0 < ys.length:=by rw [<-hly,hey]; simp
  rcases px with ⟨rfl,rfl,rfl⟩ | ⟨bx,ex,Fx,rfl,hx2,rfl,hx4⟩
  ·have hc1:ey.length * i.bytes<=140737488355328/\ey.length<=140737488355328:=by
    rw [hly]; simp at c1 c2; exact ⟨c1,c2⟩
   refine ⟨.rf h.length 0 ys.length ys.length,h++[some ⟨i.size,t,ey,false⟩],?_,hk _ _ (h.length::Fy) (.inr ⟨h.length,ey,Fy,rfl,by simp,rfl,hy4.mono fun e x G hG h5=>o.loc h5 fun c hc=>List.getElem?_append_left (hlt c (List.mem_append_right _ (hG c hc)))⟩) (List.nodup_cons.2 ⟨fun hb=>by have:=hlt _ (List.mem_append_right _ hb); omega,n2⟩) (fun c _ hc=>List.getElem?_append_left hc) (fun c hc=>?_)⟩
   ·simp only [Bc,hsy,hte,hi,hz,hel,he]
    rw [if_neg (by simp),if_neg (by simp),if_pos ⟨h0',hzn,hzt⟩,if_pos hc1,hly]
   ·rcases List.mem_cons.1 hc with rfl | hc
    ·exact .inr (Nat.le_refl _)
    ·exact .inl (List.mem_append_right _ hc)
  ·have hlx:ex.length=xs.length:=hx4.len
   have hbx:=F5 hx2
   have hbx':bx ∉ Fx:=(List.nodup_cons.1 n1).1
   have hby':bx ∉ Fy:=n3 bx (by simp)
   have same:∀ c,c≠bx->c < h.length->((h.set bx none)++[some ⟨i.size,t,ex++ey,false⟩])[c]? = h[c]?:=fun c hc hlt=>by
    rw [List.getElem?_append_left (by simpa using hlt),List.getElem?_set,if_neg (Ne.symm hc)]
   refine ⟨.rf h.length 0 (xs++ys).length (xs++ys).length,(h.set bx none)++[some ⟨i.size,t,ex++ey,false⟩],?_,hk _ _ (h.length::(Fx++Fy)) (.inr ⟨h.length,ex++ey,Fx++Fy,rfl,?_,rfl,All3.append (hx4.mono fun e x G hG h5=>o.loc h5 fun c hc=>same c (fun e=>hbx' (e ▸ hG c hc)) (hlt c (List.mem_append_left _ (List.mem_cons_of_mem _ (hG c hc))))) (hy4.mono fun e x G hG h5=>o.loc h5 fun c hc=>same c (fun e=>hby' (e ▸ hG c hc)) (hlt c (List.mem_append_right _ (hG c hc))))⟩) (List.nodup_cons.2 ⟨fun hb=>?_,?_⟩) (fun c hc hlt=>same c (fun e=>hc (by subst e; simp)) hlt) (fun c hc=>?_)⟩
   ·simp only [Bc,hsy,hte,hi,hz,hel,he,hx2]
    rw [if_neg (by simp),if_neg (by simp),if_pos ⟨h0',hzn,hzt⟩,if_neg (by simp),if_neg (by omega),if_pos ⟨trivial,hlx.symm,by rw [hly]; exact c1,by rw [hly]; exact c2⟩]
    simp [hly]
   ·rw [List.getElem?_append_right (by simp)]; simp
   ·have:h.length < h.length:=hlt _ (by
     rcases List.mem_append.1 hb with hb | hb
     ·exact List.mem_append_left _ (List.mem_cons_of_mem _ hb)
     ·exact List.mem_append_right _ hb)
    omega
   ·exact GV.2 ⟨(List.nodup_cons.1 n1).2,n2,fun a ha ha2=>n3 a (List.mem_cons_of_mem _ ha) ha2⟩
   ·rcases List.mem_cons.1 hc with rfl | hc
    ·exact .inr (Nat.le_refl _)
    ·rcases List.mem_append.1 hc with h1 | h1
     ·exact .inl (List.mem_append_left _ (List.mem_cons_of_mem _ h1))
     ·exact .inl (List.mem_append_right _ h1)
theorem Pm {bytes:Nat}{i:TypeInfo}{z:AV}(ht:T h (own_ (ocL k t o) e xs::own_ (ocL k t o) y ys::L)) (hu:P.underlying ty2=some (.slice el)) (hte:De P ty=some t) (hi:P.info? t=some i) (hz:DM P t=some z) (hk:i.size=k) (h0:Nat.blt 0 k=true) (hzn:z.nc=k) (hzt:z.notTp=true) (hib:i.bytes=bytes) (hc:B8 bytes (xs.length + ys.length)=true) :
  ∃ e' h',Bc P h ty ty2 e y=some (e',h')/\T h' (own_ (ocL k t o) e' (xs++ys)::L):=by
 obtain ⟨ey,h1,h2,h3⟩:=Pt (ht.front 1 rfl) hu
 exact NV (h1.front 1 rfl) h3 h2 hte hi hz hk h0 hzn hzt hib hc
theorem Ol {bytes:Nat}{i:TypeInfo}{z:AV}(ht:T h (own_ (ocL k t (ocV c)) e xs::L)) (hsy:GB P ty2 y=true) (hel:FM h k y=some (ys.map c.enc)) (hte:De P ty=some t) (hi:P.info? t=some i) (hz:DM P t=some z) (hk:i.size=k) (h0:Nat.blt 0 k=true) (hzn:z.nc=k) (hzt:z.notTp=true) (hib:i.bytes=bytes) (hc:B8 bytes (xs.length + ys.length)=true) :
  ∃ e' h',Bc P h ty ty2 e y=some (e',h')/\T h' (own_ (ocL k t (ocV c)) e' (xs++ys)::L) :=
 NV ((Im ht).front 1 rfl) hsy hel hte hi hz hk h0 hzn hzt hib hc
/-- A block of elements. -/
theorem N8 {es:List AV}{n:Nat}(ht:T h (els o es xs::L)) (hn:xs.length=n):T (h++[some ⟨k,t,es,false⟩]) (own_ (ocL k t o) (.rf h.length 0 n n) xs::L):=by
 obtain ⟨F,p,hn',hk,_⟩:=ht.act
 have hlt:∀ c,c ∈ F->c < h.length:=fun c hc=>by
  obtain ⟨B,q,_⟩:=(els o es xs).own p hc
  exact F5 q
 refine hk _ _ (h.length::F) (.inr ⟨h.length,es,F,by rw [hn],by simp,rfl,All3.mono p fun e x G hG h5=>o.loc h5 fun c hc=>List.getElem?_append_left (hlt c (hG c hc))⟩) (List.nodup_cons.2 ⟨fun hb=>by have:=hlt _ hb; omega,hn'⟩) (fun c _ hc=>List.getElem?_append_left hc) (fun c hc=>?_)
 rcases List.mem_cons.1 hc with rfl | hc
 ·exact .inr (Nat.le_refl _)
 ·exact .inl hc
def KM (i:Nat):List AV->List (Nat×AV)
 | []=>[]
 | e::r=>(i,e)::KM (i + 1) r
theorem K9 {z:AV}(hz:z.nc=k):∀ {es pre:List AV},(∀ e ∈ es,e.nc=k/\e.notTp=true/\elm e.cel=e)->KR (pre++List.replicate es.length z) k (KM pre.length es)=some (pre++es)
 | [],pre,_=>by simp [KM,KR]
 | e::r,pre,hf=>by
  obtain ⟨h1,h2,h3⟩:=hf e (by simp)
  have:=K9 hz (es:=r) (pre:=pre++[e]) (fun e' he=>hf e' (by simp [he]))
  simp only [KM,KR,List.length_cons,List.replicate_succ]
  rw [if_pos ⟨by simp,h1,h2⟩,h3]
  have e1:(pre++z::List.replicate r.length z).set pre.length e=(pre++[e])++List.replicate r.length z:=by simp
  rw [e1]
  simpa using this
theorem QD {i:TypeInfo}{z:AV}{es:List AV}{n:Nat}(hf:Fit o k) (ht:T h (els o es xs::L)) (hn:es.length=n) (hte:De P ty=some t) (hi:P.info? t=some i) (hz:DM P t=some z) (hk:i.size=k) (h0:Nat.blt 0 k=true) (hb:Nat.ble (n * k) 65536=true) (hzn:z.nc=k) (hzt:z.notTp=true) (hze:elm z.cel=z) :
  ∃ e' h',KQ P h ty n (KM 0 es)=some (e',h')/\T h' (own_ (ocL k t o) e' xs::L):=by
 obtain ⟨F,p,_⟩:=ht.act
 have hl:es.length=xs.length:=All3.len p
 have:=K9 hzn (es:=es) (pre:=[]) (All3.fit hf p)
 subst hn
 simp only [List.nil_append,List.length_nil] at this
 refine ⟨_,_,?_,N8 ht hl.symm⟩
 simp only [KQ,hte,hi,hz,hk,hze]
 rw [if_pos ⟨Nat.le_of_ble_eq_true hb,Nat.le_of_ble_eq_true h0,hzn,hzt⟩,this]
theorem O5 {i:TypeInfo}{z:AV}{bytes:Nat}{n:Int}{kn kc:IntKind}{x0:α}(ht:T h L) (hx:∀ h,o.at_ h z x0 []) (hte:De P ty=some t) (hi:P.info? t=some i) (hz:DM P t=some z) (hk:i.size=k) (hzn:z.nc=k) (hzt:z.notTp=true) (hib:i.bytes=bytes) (hc:LI bytes n=true) :
  ∃ e' h',Fz P h ty (.v (.int kn n)) (.v (.int kc n))=some (e',h')/\T h' (own_ (ocL k t o) e' (List.replicate n.toNat x0)::L):=by
 simp only [LI,Bool.and_eq_true,decide_eq_true_eq] at hc
 subst hk hib
 have ha:∀ m,All3 (o.at_ h) (List.replicate m z) (List.replicate m x0) []:=fun m=>by
  induction m with
  | zero=>exact rfl
  | succ m ih=>exact ⟨[],[],rfl,hx h,ih⟩
 have ht':T h (els o (List.replicate n.toNat z) (List.replicate n.toNat x0)::L):=ht.add (F:=[]) (ha _) List.nodup_nil (fun _ _=>rfl) (fun _ h=>by cases h)
 refine ⟨_,_,?_,N8 ht' (List.length_replicate)⟩
 simp only [Fz,hte,GR,hi,hz]
 rw [if_pos ⟨trivial,hc.1.1,hc.1.2,hc.2,hzn,hzt⟩]
/-- A cell of its own is made, read, written. -/
theorem Po {a:AV}(ht:T h L) (hn:a.notTp=true):∃ p h',K7 h t a=some (p,h')/\T h' (cel p a.nc t a::L):=by
 refine ⟨.pt h.length 0 0,h++[some ⟨a.nc,t,[a],false⟩],by simp [K7,hn],ht.add (F:=[h.length]) ⟨h.length,rfl,rfl,by simp⟩ (by simp) (fun b hb=>List.getElem?_append_left hb) (fun b hb=>by simp at hb; omega)⟩
theorem Hh {p a:AV}(ht:T h (cel p k t a::L)) (hm:Ap P ty=some m) (hg:LV P ty=some g) (he:PX a off m g=some y):D5 P h ty (HQ p off)=some y:=by
 obtain ⟨F,⟨b,rfl,rfl,h2⟩,_⟩:=ht.act
 simp [D5,hm,hg,HQ,h2,he]
theorem OT {p a a':AV}(ht:T h (cel p k t a::L)) (hs:Ap P ty=some y.nc) (hn:y.notTp=true) (he:Qd a off y=some a'):∃ h',Dl P h ty (HQ p off) y=some h'/\T h' (cel p k t a'::L):=by
 obtain ⟨F,⟨b,rfl,rfl,h2⟩,hn',hk,_⟩:=ht.act
 have hb:=F5 h2
 refine ⟨h.set b (some ⟨k,t,[a'],false⟩),by simp [Dl,HQ,h2,hs,hn,he],hk _ _ [b] ⟨b,rfl,rfl,by simp [hb]⟩ (by simp) (fun c hc _=>?_) (fun c hc=> .inl hc)⟩
 rw [List.getElem?_set,if_neg (by intro e; subst e; simp at hc)]
theorem Pz {p a:AV}{fs:Array Field}{fd:Field}{f q:Nat}(ht:T h (cel p k t a::L)) (hu:P.underlying ty=some (.struct fs)) (hf:fs[f]? = some fd) (hs:Ap P fd.type=some (q + 1)):Cl P ty p f=some (HQ p fd.offset):=by
 obtain ⟨F,⟨b,rfl,rfl,h2⟩,_⟩:=ht.act
 simp [Cl,hu,hf,hs,HQ]
end
/-- What is own is written no more: it is a value as others. -/
def Lv (F:List Nat) (h:Hp):Hp:=h.mapIdx fun i B=>if i ∈ F then none else B
theorem Hg {F:List Nat}{h:Hp}{b:Nat}{B:Blk}:(Lv F h)[b]? = some (some B)↔b ∉ F/\h[b]? = some (some B):=by
 simp only [Lv,List.getElem?_mapIdx]
 constructor
 ·intro hh
  obtain ⟨o,h1,h2⟩:=Option.map_eq_some_iff.1 hh
  split at h2
  ·cases h2
  ·next hb=>exact ⟨hb,by rw [h1,h2]⟩
 ·rintro ⟨h1,h2⟩
  rw [h2]; simp [h1]
theorem M6 {F:List Nat}{h:Hp}{b:Nat}(hb:b ∉ F):(Lv F h)[b]? = h[b]?:=by
 simp only [Lv,List.getElem?_mapIdx]
 cases h[b]? <;> simp [hb]
section
variable {E:Env}{n:Nat}{l l':List (Nat×AV)}{hp:Hp}{α:Type}{o:Oc α}{e:AV}{x:α}{L:List Asn}
/-- Slots that stay, and slots that turn. -/
def LkT (l:List (Nat×AV)) (e y:AV):List (Nat×AV)->Prop
 | []=>True
 | (t,z)::r=>(lk l t=some z\/(lk l t=some e/\z=y))/\LkT l e y r
theorem LkT.at_ {e y:AV}:∀ {l':List (Nat×AV)},LkT l e y l'->∀ t z,lk l' t=some z->lk l t=some z\/(lk l t=some e/\z=y)
 | [],_,t,z,h=>by cases h
 | (k,z0)::r,⟨h1,h2⟩,t,z,h=>by
  rw [Ep] at h
  split at h
  ·next hk=>injection h with h; subst hk h; exact h1
  ·exact h2.at_ t z h
/-- Values as a call sees them. -/
def SeeV (hp:Hp) (x y:AV):Prop:=∀ (w:World) (Z:Nat->Prop) (R:List RI) (u:Value),HR w Z R hp->VR w Z R x u->VR w (fun c=>Z c\/own R hp c) [] y u
def Sees (hp:Hp) (xs ys:List AV):Prop:=∀ (w:World) (Z:Nat->Prop) (R:List RI) (us:List Value),HR w Z R hp->VRs w Z R xs us->VRs w (fun c=>Z c\/own R hp c) [] ys us
theorem Sees.nil:Sees hp [] []:=fun w Z R us _ h=>by
 have:us=[]:=by have:=h.len; simpa using this
 subst this
 exact .nil
theorem Sees.cons {x y:AV}{xs ys:List AV}(h:SeeV hp x y) (hs:Sees hp xs ys):Sees hp (x::xs) (y::ys):=fun w Z R us hh hv=>by
 obtain ⟨u,us',rfl,hu,hn⟩:=hv.head
 exact .cons (h w Z R u hh hu) (hs w Z R us' hh hn)
theorem SeeV.id {x:AV}(hx:Bp x=true):SeeV hp x x:=fun _w _Z _R _u _ hv=>(Gn hx hv).mono (fun _ _=>rfl) (fun _ h=> .inl h) (fun _ _ h=>h)
theorem SeeV.enc {c:Cd α}:SeeV hp (c.enc x) (c.enc x):= .id (c.nr x)
theorem SeeV.own {i:Nat}(ht:T hp L) (hi:L[i]? = some (own_ o e x)):SeeV hp e (o.cd.enc x):=fun w Z R u hh hv=>by
 obtain ⟨F,p,_⟩:=(ht.front i hi).act
 refine (o.vr hh p hv).mono (fun _ _=>rfl) (fun c hc=>hc.imp_right fun ⟨b,hb,r,hr,hc⟩=>?_) (fun _ _ h=>h)
 obtain ⟨B,k1,k2⟩:=o.own p hb
 exact ⟨b,B,r,k1,k2,hr,hc.symm⟩
theorem SeeV.ag {cs cs':List AV}(hs:Sees hp cs cs'):SeeV hp (.ag cs) (.ag cs'):=fun w Z R u hh hv=>by
 cases hv with
 | ag hl h1 hx =>
  have:=hs w Z R _ hh ⟨hl,hx⟩
  exact .ag this.len h1 this.at_
end
/-- The operations that are left, one by one, in the caller's blocks. -/
def RunL (E:Env) (cx:Cx) (ops:Array Oper) (rest:List Oper) (s:St) (K:St->Prop):Prop :=
 ∀ (ro:Option Nat) (base:Bs) (Q:Act->World->Prop) (a:Act) (w:World) (Z:Nat->Prop) (R:List RI),(cx.inR=false->ro=none)->SR E base w Z R s a->YI cx w Z R s.hp ->
  (∀ s' a' w' Z' R',K s'->SR E base w' Z' R' s' a'->Step w Z R s.hp w' Z' R' s'.hp->Q a' w')->LwL E.P ops Q rest a w
section
variable {E:Env}{cx:Cx}{ops:Array Oper}{pre rest rest':List Oper}{s s1:St}{K:St->Prop}{n m:Nat}{l l':List (Nat×AV)}{hp hp':Hp}{Q:Ex->St->Prop}{id:Nat}
theorem As (hr:rest=[]) (k:K s):RunL E cx ops rest s K:=by
 subst hr
 exact fun ro base Q a w Z R _ sr _ q=>q s a w Z R k sr (Step.refl _ _ _ _)
theorem RunL.mono {K':St->Prop}(h:RunL E cx ops rest s K) (k:∀ s,K s->K' s):RunL E cx ops rest s K':=fun ro base Q a w Z R h1 h2 h3 q=>h ro base Q a w Z R h1 h2 h3 fun s' a' w' Z' R' hK=>q s' a' w' Z' R' (k s' hK)
theorem Ii (hE:EnvOk E) (n:Nat):∀ {pre:List Oper}{s:St},Ee E (evC E n) ⟨none,false⟩ ops pre s=some s1->RunL E cx ops rest s1 K->RunL E cx ops (pre++rest) s K
 | [],s,e,k=>by injection e with e; subst e; exact k
 | o::pre,s,e,kk=>by
  intro ro base Q a w Z R hro sr hy q
  unfold Ee at e
  split at e
  ·cases e
  ·next hw=>exact lwl_no (wantedA_eq sr hw) (Ii hE n e kk ro base Q _ w Z R hro (sr.put undef_vr) hy q)
  ·next hw =>
   split at e
   ·next s2 hs2=>exact lwl_op1 hE (code_sound hE n).1 hs2 sr (wantedA_eq sr hw) fun a' w' Z' R' sr' st=>Ii hE n e kk ro base Q a' w' Z' R' hro sr' (hy.step sr.hh st) fun s'' a'' w'' Z'' R'' hK sr'' st'=>q s'' a'' w'' Z'' R'' hK sr'' (st.trans st')
   ·cases e
theorem MF (hE:EnvOk E) (m:Nat) (h:Ee E (evC E 0) ⟨none,false⟩ ops (rest.take m) s=some s1) (k:RunL E cx ops (rest.drop m) s1 K):RunL E cx ops rest s K:=by
 have:=Ii hE 0 h k
 rwa [List.take_append_drop] at this
theorem NQ (hE:EnvOk E) (m:Nat){s:St}(l:List (Nat×AV)) (hp:Hp) (h:OO (Ee E (evC E 0) ⟨none,false⟩ ops (rest.take m) s) l=some (n,xs2 l,hp)) (k:RunL E cx ops (rest.drop m) ⟨Fr n l,hp⟩ K):RunL E cx ops rest s K:=by
 obtain ⟨fr,h1,h2,h3⟩:=Kg h
 refine MF hE m h1 ?_
 exact fun ro base Q a w Z R hro sr hy q=>k ro base Q a w Z R hro (sr.forget h2 h3) hy q
theorem AO (hE:EnvOk E) (n:Nat){o:Oper}(hr:rest=o::rest') (h:Ee E (evC E n) ⟨none,false⟩ ops [o] s=some s1) (k:RunL E cx ops rest' s1 K):RunL E cx ops rest s K:=by
 subst hr
 exact Ii hE n (pre:=[o]) h k
theorem RunL.store (hE:EnvOk E){t:TypeId}{p q:Operand}{y z:AV}{ty:TypeId}{pos:String}{af:Array Edge}{g:Option (Nat×Bool)}(hr:rest=⟨none,.store t p q,ty,pos,af,g⟩::rest') (hw:Ad ops (Fr n l) ⟨none,.store t p q,ty,pos,af,g⟩=some true) (hp1:opA E (Fr n l) p=some y) (hq1:opA E (Fr n l) q=some z) (h:Dl E.P hp t y z=some hp') (k:RunL E cx ops rest' ⟨Fr n l,hp'⟩ K):RunL E cx ops rest ⟨Fr n l,hp⟩ K :=
 AO hE 0 hr (Q0 hw hp1 hq1 h) k
theorem AG (h:RunL E cx ops ops.toList s fun s'=>Q .normal s'):SemY E cx (.region id ops false) s Q:=by
 intro ro base Qm a w Z R h1 h2 h3 kk
 exact wpIn_region_list (lwl_list ro (h ro base _ a w Z R h1 h2 h3 fun s' a' w' Z' R' hq sr st=>kk .normal s' a' w' Z' R' hq sr st))
end
section
variable {E:Env}{cx:Cx}{ops:Array Oper}{rest rest':List Oper}{K:St->Prop}{n:Nat}{l:List (Nat×AV)}{hp:Hp}
/-- A call that is gone through in the caller's blocks. -/
theorem D2 (hP:E.P=E0.P) (hG:E.G=E0.G){e:Env}(he:EnvOk e) (heP:e.P=E0.P) (heG:e.G=E0.G){d:Nat}{f:Operand}{args:Array Operand}{tys:Array TypeId}{ty:TypeId}{pos:String}{af:Array Edge}{g:Option (Nat×Bool)}{fid:FuncId}{caps xs:List AV}{fn:Func}{c:Code}{Out:AV->Hp->Prop}(hr:rest=⟨some d,.call ⟨.value f,args,tys⟩,ty,pos,af,g⟩::rest') (hw:Ad ops (Fr n l) ⟨some d,.call ⟨.value f,args,tys⟩,ty,pos,af,g⟩=some true)
  (hf:opA E (Fr n l) f=some (.fn fid [] caps)) (ha:Ed (opA E (Fr n l)) args.toList=some xs) (hfn:e.fn fid=some fn) (hc:fn.body=some c) (hle:(xs++caps).length<=fn.ntmps)
  (sem:SemY e ⟨none,false⟩ c ⟨Fr fn.ntmps (At 0 (xs++caps)),hp⟩ fun x s'=>(x = .normal\/x = .ret)/\∃ ys,EM e.P s'.fr s'.hp fn.results.toList=some ys/\Out (Ef ys) s'.hp)
  (k:∀ x h',Out x h'->RunL E cx ops rest' ⟨Fr n ((d,x)::l),h'⟩ K):RunL E cx ops rest ⟨Fr n l,hp⟩ K:=by
 obtain ⟨P,fns,G,X,I⟩:=E
 obtain ⟨P',fns',G',X',I'⟩:=e
 simp only at hP hG heP heG
 subst hP hG heP heG
 subst hr
 intro ro base Q a w Z R hro sr hy q
 have hρ:∀ o x,opA ⟨E0.P,fns,E0.G,X,I⟩ (Fr n l) o=some x->VR w Z R x (a.eval o):=fun o x e=>opA_vr sr o x e
 refine Gm rfl (wantedA_eq sr hw) ?_
 have hvf:=hρ _ _ hf
 generalize hvq:a.eval f=vf at hvf
 cases hvf with
 | fn hl hl' hx hy' =>
  rename_i u1 u2
  have e1:u1=[]:=by simpa using hl
  subst e1
  obtain ⟨hff,hcall,_⟩:=he.fn fid fn hfn
  unfold Lw
  rw [Dz (uf:=[]) (uc:=u2) rfl hvq rfl hcall w]
  simp only [List.nil_append]
  have hargs:VRs w Z R (xs++caps) (args.toList.map a.eval++u2):=(opds_vr hρ ha).append ⟨hl',hy'⟩
  refine Ret.mono (Ke he hfn hc hle sem sr.hh hargs sr.gl (fun y hy=>by cases hy)) fun v w' hS=>?_
  obtain ⟨Z',R',x,h',hO,h1,h2,st⟩:=hS
  have sr':=(sr.step h1 st).put (d:=some d) h2
  rw [show IZ (⟨Fr n l,hp⟩:St).fr (some d) x=Fr n ((d,x)::l) from Be n l d _] at sr'
  exact k x h' hO ro base Q _ w' Z' R' hro sr' (hy.step sr.hh st) fun s' a' w'' Z'' R'' hK sr'' st'=>q s' a' w'' Z'' R'' hK sr'' (st.trans st')
theorem Lh {s s1:St}(hw:WkY E s s1) (h:RunL E cx ops rest s1 K):RunL E cx ops rest s K:=fun ro base Q a w Z R hro sr hy q=>by
 obtain ⟨Z',R',sr',st⟩:=hw base w Z R a sr
 exact h ro base Q a w Z' R' hro sr' (hy.step sr.hh st) fun s' a' w' Z2 R2 hK sr2 st2=>q s' a' w' Z2 R2 hK sr2 (st.trans st2)
/-- What a part did, told by states for each way out. -/
theorem Iz {c:Code}{s:St}{Q:Ex->St->Prop}{e0:Ex}{A:St->Prop}(h:SemY E cx c s fun e s'=>e=e0/\∃ s2,A s2/\WkY E s' s2) (q:∀ s2,A s2->Q e0 s2):SemY E cx c s Q:=by
 intro ro base Qm a w Z R h1 h2 h3 k
 refine h ro base Qm a w Z R h1 h2 h3 fun e s' a' w' Z' R' hQ sr st=>?_
 obtain ⟨rfl,s2,hA,hw⟩:=hQ
 obtain ⟨Z2,R2,sr2,st2⟩:=hw base w' Z' R' a' sr
 exact k e s2 a' w' Z2 R2 (q s2 hA) sr2 (st.trans st2)
theorem Ec {c:Code}{s:St}{Q:Ex->St->Prop}{e0:Ex}{A:St->Prop}{m:Nat}(h:SemYN E cx c m s fun e s'=>e=e0/\∃ s2,A s2/\WkY E s' s2) (q:∀ s2,A s2->Q e0 s2):SemYN E cx c m s Q:=by
 intro ro base Qm a w Z R h1 h2 h3 k
 refine h ro base Qm a w Z R h1 h2 h3 fun e s' a' w' Z' R' hQ sr st=>?_
 obtain ⟨rfl,s2,hA,hw⟩:=hQ
 obtain ⟨Z2,R2,sr2,st2⟩:=hw base w' Z' R' a' sr
 exact k e s2 a' w' Z2 R2 (q s2 hA) sr2 (st.trans st2)
theorem NS {c:Code}{s:St}{Q:Ex->St->Prop}(h:SemY E cx c s Q):Sem E cx c s Q :=
 fun ro base Qm a w Z R h1 h2 h3 k=>h ro base Qm a w Z R h1 h2 (fun y hy=>by rw [h3] at hy; cases hy) fun e s' a' w' Z' R' hQ sr st=>k e s' a' w' Z' R' hQ sr st.w
end
def RunDT (E:Env) (cx:Cx) (ops:Array Oper) (T:Nat) (n0 k:Nat) (rest:List Oper) (s:St) (K:St->Prop):Prop :=
 ∀ (ro:Option Nat) (base:Bs) (Q:Act->World->Prop) (w0:World) (Z:Nat->Prop) (R0:List RI) (h0:Hp) (a:Act) (w:World) (R:List RI),(cx.inR=false->ro=none)->YI cx w0 Z R0 h0->HR w0 Z R0 h0->n0=h0.length->SR E base w Z R s a->w0.grownBy w none->Step w0 Z R0 h0 w Z R s.hp->(∀ (b:Nat) (B:Option Blk),h0[b]? = some B->s.hp[b]? = some B)->(∀ j,rest[j]? = ops[k + j]?) ->
  (∀ s' a' w' Z' R',K s'->SR E base w' Z' R' s' a'->Step w0 Z R0 h0 w' Z' R' s'.hp->Q a' w')->GD E.P ops (fun w'=>w0.grownBy w' none) (GS ops T) T Q k rest a w
section
variable {E:Env}{cx:Cx}{ops:Array Oper}{rest rest':List Oper}{s s1:St}{K:St->Prop}{n n0 k T:Nat}{l:List (Nat×AV)}{hp hp':Hp}{Q:Ex->St->Prop}{id:Nat}{x:AV}{d:Nat}
theorem PA {o:Oper}(hops:∀ j,(o::rest')[j]? = ops[k + j]?) (hk:Nat.blt k T=true) (hq:isQ o.op=true):GS ops T k=false:=by
 have hok:ops[k]? = some o:=by have:=hops 0; simpa using this.symm
 have hlt:k < T:=Nat.le_of_ble_eq_true hk
 exact JN hok hq (by omega)
theorem N9 {o:Oper}(hops:∀ j,(o::rest')[j]? = ops[k + j]?):∀ j,rest'[j]? = ops[k + 1 + j]?:=fun j=>by have:=hops (j + 1); simpa [Nat.add_assoc,Nat.add_comm 1 j] using this
theorem RunDT.done (hr:rest=[]) (kk:K s):RunDT E cx ops T n0 k rest s K:=by
 subst hr
 exact fun ro base Q w0 Z R0 h0 a w R _ _ _ _ sr hgr st _ _ q=>⟨fun _=>hgr,q s a w Z R kk sr st⟩
theorem RunDT.mono {K':St->Prop}(h:RunDT E cx ops T n0 k rest s K) (hk:∀ s,K s->K' s):RunDT E cx ops T n0 k rest s K':=fun ro base Q w0 Z R0 h0 a w R h1 h2 h3 h4 h5 h6 h7 h8 h9 q=>h ro base Q w0 Z R0 h0 a w R h1 h2 h3 h4 h5 h6 h7 h8 h9 fun s' a' w' Z' R' hK=>q s' a' w' Z' R' (hk s' hK)
/-- An operation that reads. -/
theorem RunDT.q {o:Oper}(hr:rest=o::rest') (hk:Nat.blt k T=true) (hq:isQ o.op=true) (hw:Ad ops (Fr n l) o=some true) (hd:o.dst=some d) (h:CV E.P (opA E (Fr n l)) hp o.op=some x) (hl:PY n0 (opA E (Fr n l)) o.op=true) (kk:RunDT E cx ops T n0 (k + 1) rest' ⟨Fr n ((d,x)::l),hp⟩ K):RunDT E cx ops T n0 k rest ⟨Fr n l,hp⟩ K:=by
 subst hr
 intro ro base Q w0 Z R0 h0 a w R hro hy hh0 hn0 sr hgr st hpre hops q
 refine ⟨fun _=>hgr,?_⟩
 rw [if_pos (wantedA_eq sr hw),PA hops hk hq,if_neg (by simp)]
 have hρ:∀ o x,opA E (Fr n l) o=some x->VR w Z R x (a.eval o):=fun o x e=>opA_vr sr o x e
 obtain ⟨u,hu,hrun⟩:=evOpQ_sound sr.hh hρ h
 have hquiet:∃ u,VR w Z R x u/\QuietAt E.P (Cf (fun w'=>w0.grownBy w' none) o) o u a:=by
  cases hl':M5 o.op with
  | false=>exact ⟨u,hu,fun w' _=>hrun w' fun h=>by rw [hl'] at h; cases h⟩
  | true =>
   obtain ⟨u1,hu1,hq1⟩:=Gl hh0 sr hgr st hpre hl' (by rw [<-hn0]; exact hl) h
   exact ⟨u1,hu1,hq1.up (JD hl')⟩
 obtain ⟨u,hu,hquiet⟩:=hquiet
 refine ⟨u,hquiet,?_⟩
 have sr':=sr.put (d:=o.dst) hu
 rw [hd,show IZ (⟨Fr n l,hp⟩:St).fr (some d) x=Fr n ((d,x)::l) from Be n l d _] at sr'
 rw [hd]
 exact kk ro base Q w0 Z R0 h0 _ w R hro hy hh0 hn0 sr' hgr st hpre (N9 hops) q
/-- One that is not wanted. -/
theorem RunDT.skip {o:Oper}(hr:rest=o::rest') (hw:Ad ops (Fr n l) o=some false) (hd:o.dst=some d) (kk:RunDT E cx ops T n0 (k + 1) rest' ⟨Fr n ((d,.tp [])::l),hp⟩ K):RunDT E cx ops T n0 k rest ⟨Fr n l,hp⟩ K:=by
 subst hr
 intro ro base Q w0 Z R0 h0 a w R hro hy hh0 hn0 sr hgr st hpre hops q
 refine ⟨fun _=>hgr,?_⟩
 rw [if_neg (by rw [wantedA_eq sr hw]; simp)]
 have sr':=sr.put (d:=o.dst) (x:= .tp []) undef_vr
 rw [hd,show IZ (⟨Fr n l,hp⟩:St).fr (some d) (.tp [])=Fr n ((d,.tp [])::l) from Be n l d _] at sr'
 rw [hd]
 exact kk ro base Q w0 Z R0 h0 _ w R hro hy hh0 hn0 sr' hgr st hpre (N9 hops) q
theorem Ju (hT:T=k) (h:RunL E cx ops rest s K):RunDT E cx ops T n0 k rest s K:=by
 subst hT
 intro ro base Q w0 Z R0 h0 a w R hro hy hh0 hn0 sr hgr st hpre hops q
 exact H4 (h ro base Q a w Z R hro sr (hy.step hh0 st) fun s' a' w' Z' R' hK sr' st'=>q s' a' w' Z' R' hK sr' (st.trans st')) (Nat.le_refl _) (fun _=>hgr) (fun j hj=>Ir hj) hops
theorem Jw (T:Nat) (hm:E.P.follows .mixedOrders=true) (hB:Region.lexB .any ops=true) (hb:JM ops (GS ops T) T=true) (h:RunDT E cx ops T s.hp.length 0 ops.toList s fun s'=>Q .normal s'):SemY E cx (.region id ops true) s Q:=by
 intro ro base Qm a w Z R hro sr hy kk
 have hgd:w.grownBy w.drew none:=Ll w
 have hops:ops.toList.toArray=ops:=by simp
 have st0:Step w Z R s.hp w.drew Z R s.hp:=⟨rfl,rfl,rfl,Nat.le_refl _,fun c hc _=>rfl,fun _ h=> .inl h,fun _ h=>h,fun _ h=> .inl h,fun _ _ h=>h⟩
 have hsrd:SR E base w.drew Z R s a:=⟨sr.hh.keep (Nat.le_refl _) (fun c hc=>hgd.block c hc (by simp)),sr.fr.off (fun c hc=>rfl),sr.mks.step st0,sr.gl.off (fun c hc=>rfl),sr.bs⟩
 have hm':=h ro base (fun a w=>Qm .normal a w) w.drew Z R s.hp a w.drew R hro (hy.step sr.hh st0) hsrd.hh rfl hsrd (JS _) (Step.refl _ _ _ _) (fun b B hb=>hb) (fun j=>by simp) (fun s' a' w' Z' R' hq sr' st=>kk .normal s' a' w' Z' R' hq sr' (st0.trans st))
 have:=Fn (P:=E.P) (id:=id) (l:=ops.toList) (a:=a) (w:=w) (C:=fun w'=>w.drew.grownBy w' none) (loud:=GS ops T) (T:=T) (Q':=Qm) ro 0 hm (by rw [hops]; exact hB) (by rw [hops]; exact hb) (by rw [hops]; exact hm')
 rw [hops] at this
 exact this
theorem RL {a b:Nat}(h:a < b):Nat.blt a b=true:=by unfold Nat.blt; rw [Nat.ble_eq]; exact h
theorem Iq {kk off:Nat}{t ty:TypeId}{q a:AV}{h0:Hp}{L:List Asn}{p:Operand}{ρ:Operand->Option AV}(ht:Go.Proofs.YteidjjolfapemaaDoor.T h0 (cel q kk t a::L)) (hp:ρ p=some (HQ q off)):PY h0.length ρ (.load ty p)=true:=by
 obtain ⟨F,⟨b,rfl,rfl,h2⟩,_⟩:=ht.act
 simp only [PY,hp,HQ]
 exact RL (F5 h2)
end
section
variable {P:Program}{h:Hp}{ρ:Operand->Option AV}{α:Type}{o:Oc α}{k:Nat}{t:TypeId}{e:AV}{xs:List α}{L:List Asn}
theorem Ia {ty:TypeId}{x:Operand}{f:Nat}{a r:AV}(hx:ρ x=some a) (he:Cl P ty a f=some r):CV P ρ h (.fieldAddr ty x f)=some r:=by
 show (match ρ x with | some x=>Cl P ty x f | none=>none)=some r
 rw [hx]; exact he
theorem Ib {x:Operand}{a:AV}(ha:∃ b i,a = .pt b i 0) (hx:ρ x=some a):CV P ρ h (.nilCheck x)=some a:=by
 obtain ⟨b,i,rfl⟩:=ha
 simp only [CV,hx]
theorem QI {ty:TypeId}{n:Nat}{ps:Array (Nat×Operand)}{xs:List (Nat×AV)}{r:AV×Hp}(hp:Fj ρ ps.toList=some xs) (he:KQ P h ty n xs=some r):FP P ρ h (.buildSlice ty n ps)=some r:=by
 show (match Fj ρ ps.toList with | some ps=>KQ P h ty n ps | none=>none)=some r
 rw [hp]; exact he
theorem FW (ht:T h (own_ (ocL k t o) e xs::L)):e.notTp=true/\e.notAg=true:=by
 obtain ⟨F,p,_⟩:=ht.act
 rcases p with ⟨rfl,_⟩ | ⟨b,es,F',rfl,_⟩ <;> exact ⟨rfl,rfl⟩
theorem JW {p a:AV}(ht:T h (cel p k t a::L)):p.notTp=true/\p.notAg=true:=by
 obtain ⟨F,⟨b,rfl,_⟩,_⟩:=ht.act
 exact ⟨rfl,rfl⟩
theorem Nc {p a:AV}(ht:T h (cel p k t a::L)):∃ b,p = .pt b 0 0:=by
 obtain ⟨F,⟨b,rfl,_⟩,_⟩:=ht.act
 exact ⟨b,rfl⟩
theorem EL {p a:AV}(ht:T h (cel p k t a::L)):∃ b i,p = .pt b i 0:=let ⟨b,hb⟩:=Nc ht; ⟨b,0,hb⟩
theorem R8 {op:BinOp}{ty t':TypeId}{x y:Operand}{p r:AV}(hp:∃ b,p = .pt b 0 0) (hx:ρ x=some p) (hy:ρ y=some (.v (.pointer none))) (hi:KT P ty=true) (hr:eqV op false=some r):CV P ρ h (.binOp op ty x y t')=some r:=by
 obtain ⟨b,rfl⟩:=hp
 simp [CV,hx,hy,KN,Qa,hi,hr]
theorem R9 {op:BinOp}{ty t':TypeId}{x y:Operand}{p r:AV}(hp:∃ b,p = .pt b 0 0) (hx:ρ x=some p) (hy:ρ y=some p) (hi:KT P ty=true) (hr:eqV op true=some r):CV P ρ h (.binOp op ty x y t')=some r:=by
 obtain ⟨b,rfl⟩:=hp
 simp [CV,hx,hy,KN,Qa,hi,hr]
/-- A pointer to a cell of its own seen as another pointer. -/
def cvB (P:Program) (a b k t:Nat):Bool:=match P.underlying a,P.underlying b with
 | some (.pointer t'),some .unsafePointer=>Nat.blt 0 k&&(match Ap P t' with | some (_ + 1)=>true | _=>false)
 | some .unsafePointer,some (.pointer u)=>Nat.blt 0 k&&Nat.beq t u&&Nat.beq (P.cellsOf u) k&&(P.info? u).isSome
 | _,_=>false
theorem Rh {E:Env}{ih:IH}{cx:Cx}{ops:Array Oper}{n d:Nat}{l:List (Nat×AV)}{a b:TypeId}{x:Operand}{p c:AV}{ty:TypeId}{pos:String}{af:Array Edge}{g:Option (Nat×Bool)}(ht:T h (cel p k t c::L)) (hw:Ad ops (Fr n l) ⟨some d,.convert a b x,ty,pos,af,g⟩=some true) (hx:opA E (Fr n l) x=some p) (hc:cvB E.P a b k t=true):Ee E ih cx ops [⟨some d,.convert a b x,ty,pos,af,g⟩] ⟨Fr n l,h⟩=some ⟨Fr n ((d,p)::l),h⟩:=by
 obtain ⟨F,⟨q,rfl,_,h2⟩,_⟩:=ht.act
 have e1:Jl E.P E.I (opA E (Fr n l)) h (.convert a b x)=some (.pt q 0 0):=by
  simp only [Jl,hx]
  unfold cvB at hc
  unfold KO
  split at hc
  ·next t' h3 h4 =>
   simp only [Bool.and_eq_true] at hc
   obtain ⟨c1,c2⟩:=hc
   split at c2
   ·next m hm =>
    simp only [h3,h4,h2]
    rw [if_pos ⟨by simp,Nat.le_of_ble_eq_true c1,by rw [hm]; rfl,by rw [hm]; simp⟩]
   ·cases c2
  ·next u h3 h4 =>
   simp only [Bool.and_eq_true] at hc
   obtain ⟨⟨⟨c1,c2⟩,c3⟩,c4⟩:=hc
   simp only [h3,h4,h2]
   rw [if_pos ⟨by simp,Nat.le_of_ble_eq_true c1,Nat.eq_of_beq_eq_true c2,Nat.eq_of_beq_eq_true c3,c4⟩]
  ·cases hc
 have e0:CV E.P (opA E (Fr n l)) h (.convert a b x)=none:=by
  simp only [CV,hx]
  unfold MR
  split <;> first | rfl | (next hq=>cases hq) | (rename_i h5; cases h5)
 unfold Ee op1
 simp only [hw,e0,FP,IV,e1,Be]
 rfl
theorem Ri {E:Env}{ih:IH}{cx:Cx}{ops:Array Oper}{n d:Nat}{l:List (Nat×AV)}{f x:Operand}{p:AV}{tys:Array TypeId}{fid:FuncId}{ty:TypeId}{pos:String}{af:Array Edge}{g:Option (Nat×Bool)}(hw:Ad ops (Fr n l) ⟨some d,.call ⟨.value f,#[x],tys⟩,ty,pos,af,g⟩=some true) (hf:opA E (Fr n l) f=some (.fn fid [] [])) (hx:opA E (Fr n l) x=some p) (hi:E.I fid=true):Ee E ih cx ops [⟨some d,.call ⟨.value f,#[x],tys⟩,ty,pos,af,g⟩] ⟨Fr n l,h⟩=some ⟨Fr n ((d,p)::l),h⟩:=by
 have e1:Jl E.P E.I (opA E (Fr n l)) h (.call ⟨.value f,#[x],tys⟩)=some p:=by
  simp [Jl,hf,Ed,hx,hi]
 unfold Ee op1
 simp only [hw,CV,FP,IV,e1,Be]
 rfl
/-- The bytes of a string as numbers. -/
def Aw (bs:List UInt8):List Int:=bs.map fun b=>(b.toNat:Int)
theorem Mz (a b:List UInt8):Aw (a++b)=Aw a++Aw b:=List.map_append
theorem FI (a:List UInt8):(Aw a).length=a.length:=List.length_map _
theorem MO {bs:List UInt8}:FM h 1 (.st bs)=some ((Aw bs).map (cdK .u8).enc):=by
 simp [FM,Aw,cdK,List.map_map,Function.comp_def]
theorem MI:∀ (bs:List UInt8),Jz ((Aw bs).map (cdK .u8).enc)=some bs
 | []=>rfl
 | b::bs=>by
  have:=MI bs
  simp only [Aw,List.map_cons] at this ⊢
  show (if 0<=(b.toNat:Int)/\(b.toNat:Int) < 256 then (Jz _).map fun l=>(b.toNat:Int).toNat.toUInt8::l else none)=_
  rw [if_pos ⟨by omega,by have:=b.toNat_lt; omega⟩,this]
  simp
theorem SA {args:Array Operand}{tys:Array TypeId}{a:AV}(ht:T h (own_ (ocL k t o) a xs::L)) (hx:Ed ρ args.toList=some [a]) (hn:decide (0 < xs.length)=true):CV P ρ h (.call ⟨.builtin .unsafeSliceData,args,tys⟩)=some (eAt a (0:Int).toNat):=by
 obtain ⟨F,p,_⟩:=ht.act
 have hn:=of_decide_eq_true hn
 rcases p with ⟨rfl,rfl,_⟩ | ⟨b,es,F',rfl,h2,_⟩
 ·simp at hn
 ·obtain ⟨m,hm⟩:∃ m,xs.length=m + 1:=⟨xs.length - 1,by omega⟩
  simp [CV,hx,hm,eAt]
theorem PN {ty el:TypeId}{bs:List UInt8}(ht:T h (own_ (ocL 1 el (ocV (cdK .u8))) e (Aw bs)::L)) (hu:P.underlying ty=some (.pointer el)) (hc:P.cellsOf el=1) (hn:decide (0 < bs.length)=true) (hk:okB bs=true):∃ h',I5 P h ty (eAt e (0:Int).toNat) (.v (.int .i64 ((Aw bs).length:Int)))=some (.st bs,h')/\T h' L:=by
 obtain ⟨F,p,hn',_,hk0⟩:=ht.act
 have hn:=of_decide_eq_true hn
 have hl:=FI bs
 rcases p with ⟨rfl,h1,_⟩ | ⟨b,es,F',rfl,h2,rfl,h4⟩
 ·rw [h1] at hl; simp at hl; omega
 ·obtain ⟨rfl,rfl⟩:=h4.leaf_inv
  refine ⟨h.set b none,?_,hk0 _ fun c hc hlt=>?_⟩
  ·rw [show eAt (.rf b 0 (Aw bs).length (Aw bs).length) (0:Int).toNat = .pt b 0 0 from rfl]
   simp only [I5,hu,h2]
   have ht':(((Aw bs).map (cdK .u8).enc).take ((Aw bs).length:Int).toNat)=(Aw bs).map (cdK .u8).enc:=by
    rw [List.take_of_length_le]; simp
   simp only [ht',MI,hk]
   rw [if_pos ⟨trivial,trivial,trivial,hc,by omega,by simp⟩]
   rfl
  ·rw [List.getElem?_set,if_neg (by intro e; subst e; simp at hc)]
theorem Q9 {t1 t2:TypeId}{x y:Operand}{a b:AV}{r:AV×Hp}(hx:ρ x=some a) (hy:ρ y=some b) (he:I5 P h t1 a b=some r):IV P ρ h (.call ⟨.builtin .unsafeString,#[x,y],#[t1,t2]⟩)=some r:=by
 show (match Ed ρ [x,y],[t1,t2] with | some [x,n],[t,_]=>I5 P h t x n | _,_=>none)=some r
 simp only [Ed,hx,hy]
 exact he
end
def RK (P:Program) (t:TypeId):Bool:=match P.underlying t with
 | some (.slice _)=>true
 | _=>false
theorem Ma {P:Program}{t:TypeId}(h:RK P t=true):∃ el,P.underlying t=some (.slice el):=by
 unfold RK at h
 split at h
 ·next el he=>exact ⟨el,he⟩
 ·cases h
def Rn:AV->Bool
 | .ag [_]=>false
 | _=>true
theorem Ov {z:AV}(h:Rn z=true):elm z.cel=z:=by
 cases z with
 | ag cs =>
  match cs,h with
  | [],_=>rfl
  | [x],h=>cases h
  | x::y::l,_=>rfl
 | _=>rfl
def zeB (P:Program) (el:TypeId):Bool:=match DM P el with
 | some z=>Rn z
 | none=>false
def RZ (P:Program) (t:TypeId) (f off:Nat):Bool:=match P.underlying t with
 | some (.struct fs)=>match fs[f]? with
  | some fd=>match Ap P fd.type with
   | some (_ + 1)=>Nat.beq fd.offset off
   | _=>false
  | none=>false
 | _=>false
theorem O0 {P:Program}{t:TypeId}{f off:Nat}(h:RZ P t f off=true):∃ fs fd q,P.underlying t=some (.struct fs)/\fs[f]? = some fd/\Ap P fd.type=some (q + 1)/\fd.offset=off:=by
 unfold RZ at h
 split at h
 ·next fs h1 =>
  split at h
  ·next fd h2 =>
   split at h
   ·next q h3=>exact ⟨fs,fd,q,h1,h2,h3,Nat.eq_of_beq_eq_true h⟩
   ·cases h
  ·cases h
 ·cases h
section
variable {P:Program}{h:Hp}{α:Type}{o:Oc α}{c:Cd α}{k bytes n:Nat}{t ty ty2:TypeId}{e y:AV}{xs ys:List α}{L:List Asn}{v:α}
theorem QA (ht:T h (own_ (ocL k t o) e xs::L)) (hu:RK P ty=true):Gs P ty e=some (eI xs.length):=let ⟨_,h1⟩:=Ma hu; QC ht h1
theorem Re {i:Int}{ki:IntKind}(ht:T h (own_ (ocL k t o) e xs::L)) (ha:apB P ty t k bytes=true) (hv:idx xs i=some v):BJ P h ty e (.v (.int ki i))=some (eAt e i.toNat):=by
 obtain ⟨i',z,a1,a2,a3,a4,_⟩:=GJ ha
 have hu:P.underlying ty=some (.slice t):=by
  unfold De at a1
  split at a1
  ·next e he=>injection a1 with a1; rw [he,a1]
  ·cases a1
 exact Qq ht hu (by rw [Ap,a2,<-a4]; rfl) hv
theorem KJ (ht:T h (own_ (ocL k t o) e xs::own_ (ocL k t o) y ys::L)) (hu:RK P ty2=true) (ha:apB P ty t k bytes=true) (hc:B8 bytes (xs.length + ys.length)=true):∃ e' h',Bc P h ty ty2 e y=some (e',h')/\T h' (own_ (ocL k t o) e' (xs++ys)::L):=by
 obtain ⟨_,h1⟩:=Ma hu
 obtain ⟨i,z,a1,a2,a3,a4,a5,a6,a7,a8⟩:=GJ ha
 exact Pm ht h1 a1 a2 a3 a4 (RL a5) a6 a7 a8 hc
theorem K0 (ht:T h (own_ (ocL k t (ocV c)) e xs::L)) (hsy:GB P ty2 y=true) (hel:FM h k y=some (ys.map c.enc)) (ha:apB P ty t k bytes=true) (hc:B8 bytes (xs.length + ys.length)=true):∃ e' h',Bc P h ty ty2 e y=some (e',h')/\T h' (own_ (ocL k t (ocV c)) e' (xs++ys)::L):=by
 obtain ⟨i,z,a1,a2,a3,a4,a5,a6,a7,a8⟩:=GJ ha
 exact Ol ht hsy hel a1 a2 a3 a4 (RL a5) a6 a7 a8 hc
theorem KU {es:List AV}(hf:Fit o k) (ht:T h (els o es xs::L)) (hn:es.length=n) (ha:apB P ty t k bytes=true) (hz:zeB P t=true) (hb:Nat.ble (n * k) 65536=true):∃ e' h',KQ P h ty n (KM 0 es)=some (e',h')/\T h' (own_ (ocL k t o) e' xs::L):=by
 obtain ⟨i,z,a1,a2,a3,a4,a5,a6,a7,a8⟩:=GJ ha
 unfold zeB at hz
 rw [a3] at hz
 exact QD hf ht hn a1 a2 a3 a4 (RL a5) hb a6 a7 (Ov hz)
theorem N3 {z:AV}{m:Int}{kn kc:IntKind}{x0:α}(ht:T h L) (hx:∀ h,o.at_ h z x0 []) (ha:apB P ty t k bytes=true) (hz:DM P t=some z) (hc:LI bytes m=true):∃ e' h',Fz P h ty (.v (.int kn m)) (.v (.int kc m))=some (e',h')/\T h' (own_ (ocL k t o) e' (List.replicate m.toNat x0)::L):=by
 obtain ⟨i,z',a1,a2,a3,a4,a5,a6,a7,a8⟩:=GJ ha
 rw [hz] at a3
 injection a3 with a3
 subst a3
 exact O5 ht hx a1 a2 hz a4 a6 a7 a8 hc
theorem F4 {f off:Nat}{p a:AV}(ht:T h (cel p k t a::L)) (hf:RZ P ty f off=true):Cl P ty p f=some (HQ p off):=by
 obtain ⟨fs,fd,q,h1,h2,h3,rfl⟩:=O0 hf
 exact Pz ht h1 h2 h3
end
/-- What a call is handed, own or not, as it is told. -/
def SeeD {α:Type}(hp:Hp) (c:Cd α) (x:AV) (v:α):Prop:=∃ y,SeeV hp x y/\c.dec y=some v
def SeesD {α:Type}(hp:Hp) (s:Cs α) (xs:List AV) (a:α):Prop:=∃ ys,Sees hp xs ys/\s.dec ys=some a
theorem SeesD.nil {hp:Hp}:SeesD hp csN [] ():=⟨[],.nil,rfl⟩
theorem FG {α β:Type}{hp:Hp}{c:Cd α}{s:Cs β}{x:AV}{xs:List AV}{v:α}{a:β}(h1:SeeD hp c x v) (h2:SeesD hp s xs a):SeesD hp (csC c s) (x::xs) (v,a):=by
 obtain ⟨y,k1,k2⟩:=h1
 obtain ⟨ys,q1,q2⟩:=h2
 refine ⟨y::ys,.cons k1 q1,?_⟩
 show ((c.dec y).bind fun x=>(s.dec ys).map fun y=>(x,y))=_
 rw [k2,q2]; rfl
theorem HT {α:Type}{hp:Hp}{c:Cd α}{v:α}:SeeD hp c (c.enc v) v:=⟨_,.enc,c.de v⟩
theorem SeeD.e0 {α:Type}{hp:Hp}{c:Cd α}{k:Nat}:SeeD hp (cdL k c) .e0 []:=⟨.e0,.id rfl,rfl⟩
theorem SeeD.own {α:Type}{hp:Hp}{o:Oc α}{e:AV}{x:α}{L:List Asn}{i:Nat}(ht:T hp L) (hi:L[i]? = some (own_ o e x)):SeeD hp o.cd e x:=⟨_,.own ht hi,o.cd.de x⟩
section
variable {E:Env}{cx:Cx}{ops:Array Oper}{rest rest':List Oper}{K:St->Prop}{n n0 k T:Nat}{l:List (Nat×AV)}{hp:Hp}
theorem NP (hE:EnvOk E){kk d:Nat}{t a b:TypeId}{x:Operand}{p c:AV}{ty:TypeId}{pos:String}{af:Array Edge}{g:Option (Nat×Bool)}{L:List Asn}(hr:rest=⟨some d,.convert a b x,ty,pos,af,g⟩::rest') (ht:Go.Proofs.YteidjjolfapemaaDoor.T hp (cel p kk t c::L)) (hw:Ad ops (Fr n l) ⟨some d,.convert a b x,ty,pos,af,g⟩=some true) (hx:opA E (Fr n l) x=some p) (hc:cvB E.P a b kk t=true) (k:RunL E cx ops rest' ⟨Fr n ((d,p)::l),hp⟩ K):RunL E cx ops rest ⟨Fr n l,hp⟩ K :=
 AO hE 0 hr (Rh ht hw hx hc) k
theorem Oj (hE:EnvOk E){d:Nat}{f x:Operand}{p:AV}{tys:Array TypeId}{fid:FuncId}{ty:TypeId}{pos:String}{af:Array Edge}{g:Option (Nat×Bool)}(hr:rest=⟨some d,.call ⟨.value f,#[x],tys⟩,ty,pos,af,g⟩::rest') (hw:Ad ops (Fr n l) ⟨some d,.call ⟨.value f,#[x],tys⟩,ty,pos,af,g⟩=some true) (hf:opA E (Fr n l) f=some (.fn fid [] [])) (hx:opA E (Fr n l) x=some p) (hi:E.I fid=true) (k:RunL E cx ops rest' ⟨Fr n ((d,p)::l),hp⟩ K):RunL E cx ops rest ⟨Fr n l,hp⟩ K :=
 AO hE 0 hr (Ri hw hf hx hi) k
theorem RunL.call {α β:Type}{s:Cs α}{F:α->Option β}{er:β->AV}{a:α}{b:β}{xs:List AV}(hE:EnvOk E){d:Nat}{f:Operand}{args:Array Operand}{tys:Array TypeId}{ty:TypeId}{pos:String}{af:Array Edge}{g:Option (Nat×Bool)}{fid:FuncId}(hr:rest=⟨some d,.call ⟨.value f,args,tys⟩,ty,pos,af,g⟩::rest') (hw:Ad ops (Fr n l) ⟨some d,.call ⟨.value f,args,tys⟩,ty,pos,af,g⟩=some true)
  (hf:opA E (Fr n l) f=some (.fn fid [] [])) (hi:E.I fid=false) (hX:E.X fid=some (Ea s F er)) (ha:Ed (opA E (Fr n l)) args.toList=some xs) (hv:Sns hp s xs a) (hok:xs.all Bp=true\/CD (er b)=true) (hF:F a=some b) (k:RunL E cx ops rest' ⟨Fr n ((d,er b)::l),hp⟩ K):RunL E cx ops rest ⟨Fr n l,hp⟩ K :=
 AO hE 0 hr (L2 hw hf hi hX ha hv hok hF) k
end
section
variable {E:Env}{cx:Cx}{ops:Array Oper}{s:St}{Q:Ex->St->Prop}{id:Nat}{A:St->Prop}{c:Code}
theorem Dt (h:SemY E cx c s fun e s'=>∃ s2,WkY E s' s2/\Q e s2):SemY E cx c s Q:=by
 intro ro base Qm a w Z R h1 h2 h3 k
 refine h ro base Qm a w Z R h1 h2 h3 fun e s' a' w' Z' R' hQ sr st=>?_
 obtain ⟨s2,hw,hq⟩:=hQ
 obtain ⟨Z2,R2,sr2,st2⟩:=hw base w' Z' R' a' sr
 exact k e s2 a' w' Z2 R2 hq sr2 (st.trans st2)
end
theorem kr.{u}{α:Sort u}{a b:α}(h:a=b:=by kernel_rfl):a=b:=h
/-- The slots of a frame that are told. -/
def slG:Nat->List (Option AV)->List (Nat×AV)
 | _,[]=>[]
 | i,some x::r=>(i,x)::slG (i + 1) r
 | i,none::r=>slG (i + 1) r
theorem OR:∀ (fr:List (Option AV)) (i t:Nat) (x:AV),lk (slG i fr) t=some x->∃ j,t=i + j/\fr[j]? = some (some x)
 | [],_,_,_,h=>by cases h
 | some y::r,i,t,x,h=>by
  rw [slG,Ep] at h
  split at h
  ·next e=>injection h with h; subst e h; exact ⟨0,rfl,rfl⟩
  ·obtain ⟨j,h1,h2⟩:=OR r (i + 1) t x h
   exact ⟨j + 1,by omega,by simpa using h2⟩
 | none::r,i,t,x,h=>by
  obtain ⟨j,h1,h2⟩:=OR r (i + 1) t x h
  exact ⟨j + 1,by omega,by simpa using h2⟩
def frO (o:Option St):List (Nat×AV):=match o with
 | some s=>slG 0 s.fr
 | none=>[]
def Rl (o:Option St):Option (Nat×Hp):=match o with
 | some s=>some (s.fr.length,s.hp)
 | none=>none
section
variable {E:Env}{cx:Cx}{ops:Array Oper}{rest:List Oper}{K:St->Prop}{n n0 k0 m:Nat}{l l':List (Nat×AV)}{hp hp':Hp}{Q:Ex->St->Prop}{id:Nat}{c:Code}
theorem PF {o:Option St}(h:Rl o=some (n,hp)):∃ fr,o=some ⟨fr,hp⟩/\fr.length=n/\frO o=slG 0 fr:=by
 unfold Rl at h
 split at h
 ·next s =>
  injection h with h
  injection h with h1 h2
  subst h2
  exact ⟨s.fr,rfl,h1,rfl⟩
 ·cases h
theorem SR.comp {base:Bs}{w:World}{Z:Nat->Prop}{R:List RI}{a:Act}{fr:List (Option AV)}(sr:SR E base w Z R ⟨fr,hp⟩ a) (hl:fr.length=n):SR E base w Z R ⟨Fr n (slG 0 fr),hp⟩ a:=by
 refine ⟨sr.hh,⟨?_,fun t x hx=>sr.fr.2 t x ?_⟩,sr.mks,sr.gl,sr.bs⟩
 ·rw [EP,<-hl]; exact sr.fr.1
 ·rw [D1] at hx
  split at hx
  ·injection hx with hx
   obtain ⟨j,h1,h2⟩:=OR fr 0 t x hx
   rw [Nat.zero_add] at h1
   subst h1
   exact h2
  ·cases hx
/-- Some operations: the state behind them is computed. -/
theorem Af (hE:EnvOk E) (m:Nat) (k:RunL E cx ops (rest.drop m) ⟨Fr n (frO (Ee E (evC E 0) ⟨none,false⟩ ops (rest.take m) ⟨Fr n l,hp⟩)),hp⟩ K) (h:Rl (Ee E (evC E 0) ⟨none,false⟩ ops (rest.take m) ⟨Fr n l,hp⟩)=some (n,hp):=by kernel_rfl):RunL E cx ops rest ⟨Fr n l,hp⟩ K:=by
 obtain ⟨fr,h1,h2,h3⟩:=PF h
 rw [h3] at k
 refine MF hE m h1 ?_
 exact fun ro base Q a w Z R hro sr hy q=>k ro base Q a w Z R hro (sr.comp h2) hy q
/-- All that are left. -/
theorem A5 (hE:EnvOk E) (l':List (Nat×AV)) (k:K ⟨Fr n l',hp⟩) (h:OO (Ee E (evC E 0) ⟨none,false⟩ ops rest ⟨Fr n l,hp⟩) l'=some (n,xs2 l',hp):=by kernel_rfl):RunL E cx ops rest ⟨Fr n l,hp⟩ K :=
 NQ hE rest.length l' hp (by rw [List.take_length]; exact h) (As (by simp) k)
theorem AJ (hE:EnvOk E){s:St}(h:OO (Ee E (evC E 0) ⟨none,false⟩ ops rest s) l'=some (n,xs2 l',hp):=by kernel_rfl):RunS E ops rest s fun s'=>Wk E s' ⟨Fr n l',hp⟩ :=
 AB hE rest.length l' hp (by rw [List.take_length]; exact h) (AH (by simp) Wk.refl)
theorem Pj (hE:EnvOk E) (l':List (Nat×AV)) (k:Q .normal ⟨Fr n l',hp⟩) (h:OO (Ee E (evC E 0) ⟨none,false⟩ ops ops.toList ⟨Fr n l,hp⟩) l'=some (n,xs2 l',hp):=by kernel_rfl):SemY E cx (.region id ops false) ⟨Fr n l,hp⟩ Q :=
 AG (A5 hE l' k h)
theorem Ar (hE:EnvOk E) (l':List (Nat×AV)) (k:SemY E cx c ⟨Fr n l',hp⟩ Q) (h:OO (Ee E (evC E 0) ⟨none,false⟩ ops ops.toList ⟨Fr n l,hp⟩) l'=some (n,xs2 l',hp):=by kernel_rfl):SemY E cx (.seq (.region id ops false) c) ⟨Fr n l,hp⟩ Q :=
 AN (Pj hE l' k h)
theorem C4 (hE:EnvOk E) (l':List (Nat×AV)) (hp':Hp) (k:Q .normal ⟨Fr n l',hp'⟩) (h:OO (Ee E (evC E 0) ⟨none,false⟩ ops ops.toList ⟨Fr n l,hp⟩) l'=some (n,xs2 l',hp'):=by kernel_rfl):Sem E cx (.region id ops false) ⟨Fr n l,hp⟩ Q :=
 AE (AJ hE h) k
theorem AL (hE:EnvOk E) (l':List (Nat×AV)) (hp':Hp) (k:Sem E cx c ⟨Fr n l',hp'⟩ Q) (h:OO (Ee E (evC E 0) ⟨none,false⟩ ops ops.toList ⟨Fr n l,hp⟩) l'=some (n,xs2 l',hp'):=by kernel_rfl):Sem E cx (.seq (.region id ops false) c) ⟨Fr n l,hp⟩ Q :=
 AC (C4 hE l' hp' k h)
end
/- trestle/trestlelaw09.Sizes -/
noncomputable def Cy:Env:=E0
theorem EH:EnvOk Cy:=AD
noncomputable def FC:Code:=BW Tryd.f19
def CX (x0:(List Int)):Nat->(List Int)->Int->Int->Option (((List Int)×Int))
 | 0,_,_,_=>none
 | f + 1,c2,c3,c4 =>
  if (decide (c4 < (((x0.take (mnI (x0.length:Int) 8).toNat).drop (0:Int).toNat).length:Int)))=true then
  (idx ((x0.take (mnI (x0.length:Int) 8).toNat).drop (0:Int).toNat) c4).bind fun v6 =>
  if (B8 8 (c2.length + 1))=true then
  CX x0 f (c2++[(wr .i64 (1 + (wr .i64 (v6.tmod 6))))]) (wr .i64 (c3 + (wr .i64 (1 + (wr .i64 (v6.tmod 6)))))) (wr .i64 (c4 + 1))
  else none
  else
  some (c2,c3)
def Cr (x0:(List Int)):Option ((List Int)×Int) :=
 if (Ce 0 (mnI (x0.length:Int) 8) x0.length)=true then
 (CX x0 100000 [] 0 0).bind fun r10 =>
 if (r10.2==0)=true then
 some ([1],1)
 else
 some (r10.1,r10.2)
 else none
def Dv:Cs ((List Int)×Unit):=(csC (cdL 1 (cdK .u8)) csN)
def Dy (r:(List Int)×Int):AV:= .tp [(cdL 1 cdI).enc r.1,cdI.enc r.2]
theorem IY (x0:(List Int)):∀ (f:Nat) (c2:(List Int)) (c3:Int) (c4:Int) (r:((List Int)×Int)),CX x0 f c2 c3 c4=some r->SemN Cy ⟨none,false⟩ (pc FC [1,1,1,0,1,0,0]) f ⟨Fr 37 [(4,hd 0 (c2.map cdI.enc)),(5,.v (.int .i64 c3)),(12,.sl 1 (((x0.take (mnI (x0.length:Int) 8).toNat).drop (0:Int).toNat).map (cdK .u8).enc)),(13,.v (.int .i64 (((x0.take (mnI (x0.length:Int) 8).toNat).drop (0:Int).toNat).length:Int))),(14,.v (.int .i64 c4))],[mk 1 3 (c2.map cdI.enc)]⟩ (fun e s=>e=(.exit 0)/\Wk Cy s ⟨Fr 37 [(4,hd 0 (r.1.map cdI.enc)),(5,.v (.int .i64 r.2))],[mk 1 3 (r.1.map cdI.enc)]⟩):=by
 have he:=EH
 intro f;induction f with
 | zero=>intro c2 c3 c4 r h; cases h
 | succ f ih0 =>
  intro c2 c3 c4 r h
  have ih:=fun (c2:(List Int)) (c3:Int) (c4:Int)=>ih0 c2 c3 c4 r
  unfold CX at h;refine Bt ?_
  let p1:Option Blk:=mk 1 3 (c2.map cdI.enc)
  let p2:Nat×AV:=(14,.v (.int .i64 c4))
  let p3:Nat×AV:=(13,.v (.int .i64 (((x0.take (mnI (x0.length:Int) 8).toNat).drop (0:Int).toNat).length:Int)))
  let p4:Nat×AV:=(12,.sl 1 (((x0.take (mnI (x0.length:Int) 8).toNat).drop (0:Int).toNat).map (cdK .u8).enc))
  let p5:Nat×AV:=(5,.v (.int .i64 c3))
  refine AL he [(4,hd 0 (c2.map cdI.enc)),p5,p4,p3,p2,(15,.v (.bool (decide (c4 < (((x0.take (mnI (x0.length:Int) 8).toNat).drop (0:Int).toNat).length:Int)))))] [p1] ?_;refine AC ?_;refine AP (b:=(decide (c4 < (((x0.take (mnI (x0.length:Int) 8).toNat).drop (0:Int).toNat).length:Int)))) kr (fun hb5=>?_) (fun hb5=>?_)
  ·rw [if_pos hb5] at h
   refine AT ?_;refine AC ?_;refine AW ?_;refine AC ?_;obtain ⟨v6,hv6,h⟩:=OB h
   let p6:Nat×AV:=(7,.v (.int .u8 v6))
   refine AE (s1:=⟨Fr 37 [(4,hd 0 (c2.map cdI.enc)),p5,p6,p4,p3,p2],[p1]⟩) ?_ ?_
   ·refine AI he 0 rfl (Bd (AA rfl) rfl (AR (a:= .sl 1 (((x0.take (mnI (x0.length:Int) 8).toNat).drop (0:Int).toNat).map (cdK .u8).enc)) (b:= .v (.int .i64 c4)) kr kr (F9 (e:=(cdK .u8).enc) (el:=5) (k:=1) (ki:= .i64) kr kr hv6))) ?_
    exact AJ he
   refine AC ?_;by_cases hk7:(B8 8 (c2.length + 1))=true
   case neg=>rw [if_neg hk7] at h; cases h
   rw [if_pos hk7] at h
   let p7:Option Blk:=mk 1 3 ((c2++[(wr .i64 (1 + (wr .i64 (v6.tmod 6))))]).map cdI.enc)
   let p8:Nat×AV:=(4,hd 0 ((c2++[(wr .i64 (1 + (wr .i64 (v6.tmod 6))))]).map cdI.enc))
   refine AE (s1:=⟨Fr 37 [p8,p5,p6,p4,p3,p2],[p7]⟩) ?_ ?_
   ·let p9:Option Blk:=mk 1 3 ([(wr .i64 (1 + (wr .i64 (v6.tmod 6))))].map cdI.enc)
    refine AB (n:=37) he 6 [p5,p6,p4,p3,p2,(18,hd 0 (c2.map cdI.enc)),(23,hd 1 ([(wr .i64 (1 + (wr .i64 (v6.tmod 6))))].map cdI.enc))] [p1,p9] kr ?_;refine AI he 0 rfl (NJ (AA rfl) rfl kr kr (D0 (a:=hd 0 (c2.map cdI.enc)) (b:=hd 1 ([(wr .i64 (1 + (wr .i64 (v6.tmod 6))))].map cdI.enc)) kr kr (Ik (c:=cdI) (xs:=c2) (vs:=[(wr .i64 (1 + (wr .i64 (v6.tmod 6))))]) (k:=1) (bytes:=8) (el:=3) kr kr (Il (t:=3) kr) (List.cons_ne_nil _ _) kr hk7))) ?_;refine AB (n:=37) he 1 [(4,hd 2 ((c2++[(wr .i64 (1 + (wr .i64 (v6.tmod 6))))]).map cdI.enc)),p5,p6,p4,p3,p2] [none,p9,p7] kr ?_;exact AH rfl (A6 [2] ⟨⟨_,rfl,ET⟩,trivial⟩ ⟨EW (b':=2) kr kr,lv,lv,lv,lv,lv,trivial⟩)
   let p10:Nat×AV:=(5,.v (.int .i64 (wr .i64 (c3 + (wr .i64 (1 + (wr .i64 (v6.tmod 6))))))))
   refine C4 he [p8,p10,p4,p3,p2] [p7] ?_
   let p11:Nat×AV:=(14,.v (.int .i64 (wr .i64 (c4 + 1))))
   refine C4 he [p8,p10,p4,p3,p11] [p7] ?_;exact Ak (s1:=⟨Fr 37 [p8,p10,p4,p3,p11],[p7]⟩) (A6 [0] ⟨⟨_,rfl,ET⟩,trivial⟩ ⟨EW (b':=0) kr kr,lv,lv,lv,lv,trivial⟩) (ih (c2++[(wr .i64 (1 + (wr .i64 (v6.tmod 6))))]) (wr .i64 (c3 + (wr .i64 (1 + (wr .i64 (v6.tmod 6)))))) (wr .i64 (c4 + 1)) h)
  ·rw [B3 hb5] at h
   refine CT ?_;have hq:=OI h; subst hq;exact ⟨rfl,(A6 [0] ⟨⟨_,rfl,ET⟩,trivial⟩ ⟨EW (b':=0) kr kr,lv,trivial⟩)⟩
theorem JK (x0:(List Int)) (r:(List Int)×Int) (h:Cr x0=some r):Sem Cy ⟨none,false⟩ FC ⟨Fr 37 (At 0 (Dv.enc (x0,()))),[]⟩ fun e s'=>(e = .normal\/e = .ret)/\∃ xs,EM Cy.P s'.fr s'.hp Tryd.f19.results.toList=some xs/\Ef xs=Dy r:=by
 have he:=EH
 unfold Cr at h
 let p1:Nat×AV:=(0,.sl 1 (x0.map (cdK .u8).enc))
 refine BQ (CO (s1:=⟨Fr 37 [p1],[]⟩) AM ?_);refine AL he [p1] [] ?_;refine AL he [p1,(4,.e0)] [] ?_
 let p2:Nat×AV:=(5,.v (.int .i64 0))
 refine AL he [p1,(4,.e0),p2] [] ?_;refine AC ?_;refine AC ?_;by_cases hk1:(Ce 0 (mnI (x0.length:Int) 8) x0.length)=true
 case neg=>rw [if_neg hk1] at h; cases h
 rw [if_pos hk1] at h
 let p3:Nat×AV:=(14,.v (.int .i64 0))
 let p4:Nat×AV:=(13,.v (.int .i64 (((x0.take (mnI (x0.length:Int) 8).toNat).drop (0:Int).toNat).length:Int)))
 let p5:Nat×AV:=(12,.sl 1 (((x0.take (mnI (x0.length:Int) 8).toNat).drop (0:Int).toNat).map (cdK .u8).enc))
 refine AE (s1:=⟨Fr 37 [(4,.e0),p2,p5,p4,p3],[]⟩) ?_ ?_
 ·let p6:Nat×AV:=(8,.sl 1 (x0.map (cdK .u8).enc))
  refine AB (n:=37) he 2 [(4,.e0),p2,p6,(9,.sl 1 (x0.map (cdK .u8).enc))] [] kr ?_;refine AI he 0 rfl (Bd (AA rfl) rfl (Ca (a:= .sl 1 (x0.map (cdK .u8).enc)) kr (Bb (el:=5) kr))) ?_;refine AB (n:=37) he 1 [(4,.e0),p2,p6,(11,.v (.int .i64 (mnI (x0.length:Int) 8)))] [] kr ?_;refine AI he 0 rfl (Bd (AA rfl) rfl (Eq (a:= .sl 1 (x0.map (cdK .u8).enc)) (l:=none) (u:=(some (.v (.int .i64 (mnI (x0.length:Int) 8))))) (m:=none) kr kr kr rfl (Kj (xs:=x0) (e:=(cdK .u8).enc) (k:=1) (el:=5) (lo:=0) (hi:=(mnI (x0.length:Int) 8)) kr kr rfl (FT (IL hk1)) hk1))) ?_;refine AI he 0 rfl (Bd (AA rfl) rfl (Ca (a:= .sl 1 (((x0.take (mnI (x0.length:Int) 8).toNat).drop (0:Int).toNat).map (cdK .u8).enc)) kr (Bb (el:=5) kr))) ?_;exact AJ he
 refine AW ?_;obtain ⟨r10,hr10,h⟩:=OB h;refine Cg (n:=100000) ?_;refine BF (Ak (s1:=⟨Fr 37 [(4,hd 0 ([].map cdI.enc)),p2,p5,p4,p3],[mk 1 3 ([].map cdI.enc)]⟩) (Wk.trans (s1:=⟨Fr 37 [(4,hd 0 ([].map cdI.enc)),p2,p5,p4,p3],[mk 1 3 ([].map cdI.enc)]⟩) Wk.none (A6 [0] ⟨⟨_,rfl,I0⟩,trivial⟩ ⟨lv,lv,lv,lv,lv,trivial⟩)) (IY x0 _ [] 0 0 _ hr10)) ?_;refine AC ?_
 let p7:Option Blk:=mk 1 3 (r10.1.map cdI.enc)
 refine AL he [(4,hd 0 (r10.1.map cdI.enc)),(5,.v (.int .i64 r10.2)),(33,.v (.bool (r10.2==0)))] [p7] ?_;refine AP (b:=(r10.2==0)) kr (fun hb11=>?_) (fun hb11=>?_)
 ·rw [if_pos hb11] at h
  refine AC ?_
  let p8:Nat×AV:=(3,.v (.int .i64 1))
  refine AE (s1:=⟨Fr 37 [(2,hd 0 ([1].map cdI.enc)),p8],[mk 1 3 ([1].map cdI.enc)]⟩) ?_ ?_
  ·refine AB (n:=37) he 3 [(2,hd 1 ([1].map cdI.enc)),p8] [p7,mk 1 3 ([1].map cdI.enc)] kr ?_
   exact AH rfl (A6 [1] ⟨⟨_,rfl,ET⟩,trivial⟩ ⟨EW (b':=1) kr kr,lv,trivial⟩)
  refine AS ?_;have hq:=OI h; subst hq;exact ⟨⟨Fr 37 [(2,.sl 1 ([1].map cdI.enc)),p8],[]⟩,(Wk.trans (s1:=⟨Fr 37 [(2,.sl 1 ([1].map cdI.enc)),p8],[none]⟩) (Fb 0 (.inl kr) ⟨.inl rfl,trivial⟩ ⟨⟨hd 0 ([1].map cdI.enc),kr,Nt (t:=3) kr IM⟩,⟨.v (.int .i64 1),kr,.inl rfl⟩,trivial⟩) (A6 [] trivial ⟨lv,lv,trivial⟩)),.inr rfl,[.sl 1 ([1].map cdI.enc),.v (.int .i64 1)],kr,kr⟩
 ·rw [B3 hb11] at h
  refine AT ?_
  let p9:Nat×AV:=(3,.v (.int .i64 r10.2))
  refine AL he [(2,hd 0 (r10.1.map cdI.enc)),p9] [p7] ?_;refine AS ?_;have hq:=OI h; subst hq;exact ⟨⟨Fr 37 [(2,.sl 1 (r10.1.map cdI.enc)),p9],[]⟩,(Wk.trans (s1:=⟨Fr 37 [(2,.sl 1 (r10.1.map cdI.enc)),p9],[none]⟩) (Fb 0 (.inl kr) ⟨.inl rfl,trivial⟩ ⟨⟨hd 0 (r10.1.map cdI.enc),kr,Nt (t:=3) kr IM⟩,⟨.v (.int .i64 r10.2),kr,.inl rfl⟩,trivial⟩) (A6 [] trivial ⟨lv,lv,trivial⟩)),.inr rfl,[.sl 1 (r10.1.map cdI.enc),.v (.int .i64 r10.2)],kr,kr⟩
def Hm:List AV->Option AV:=Ea Dv (fun a=>Cr a.1) Dy
theorem Hu:XOk 19 Hm:=by
 refine EnvOk.x (E:=Cy) (BY EH (fn:=Tryd.f19) (c:=FC) ?h1 ?h2 ⟨Tryd.call19⟩ Dv (fun a=>Cr a.1) Dy (fun a=>(by show 1<=37; decide)) ?h3 ?h4) rfl rfl
 case h1=>kernel_rfl
 case h2=>kernel_rfl
 case h3=>intro b; kernel_rfl
 case h4=>exact fun a b h=>JK a.1 b h
/- trestle/trestlelaw09.Made -/
noncomputable def BD:Env:=(E0.withX 19 Hm)
theorem CI:EnvOk BD:=(EnvOk.withX AD Hu.1 Hu.2)
noncomputable def Cw:Code:=BW Tryd.f7
def Cm (x1:(List (List (Int×Int)))) (v1:(List Int)×Int):Nat->(List Int)->Int->Option (((List Int)))
 | 0,_,_=>none
 | f + 1,c3,c4 =>
  if (decide (c4 < ((List.replicate v1.2.toNat (0:Int)).length:Int)))=true then
  (idx c3 c4).bind fun v6 =>
  Cm x1 v1 f (c3.set c4.toNat c4) (wr .i64 (c4 + 1))
  else
  some c3
def Co (x1:(List (List (Int×Int)))) (v1:(List Int)×Int) (c12:Int) (v14:(List (Int×Int))):Nat->(List Int)->(List (List (List Int)))->Int->Option (((List Int)×(List (List (List Int)))))
 | 0,_,_,_=>none
 | f + 1,c16,c17,c18 =>
  if (decide (c18 < (((v14.take (mnI (v14.length:Int) 20).toNat).drop (0:Int).toNat).length:Int)))=true then
  (idx ((v14.take (mnI (v14.length:Int) 20).toNat).drop (0:Int).toNat) c18).bind fun v20 =>
  if v1.2=(0:Int) then none else
  if v1.2=(0:Int) then none else
  (idx c16 ((wr .i64 v20.2).tmod v1.2)).bind fun v23 =>
  (idx c16 ((wr .i64 v20.1).tmod v1.2)).bind fun v24 =>
  (idx c16 ((wr .i64 v20.1).tmod v1.2)).bind fun v25 =>
  (idx (c16.set (((wr .i64 v20.1).tmod v1.2).toNat) v23) ((wr .i64 v20.2).tmod v1.2)).bind fun v26 =>
  Co x1 v1 c12 v14 f ((c16.set (((wr .i64 v20.1).tmod v1.2).toNat) v23).set (((wr .i64 v20.2).tmod v1.2).toNat) v24) c17 (wr .i64 (c18 + 1))
  else
  some (c16,c17)
def Cp (x1:(List (List (Int×Int)))) (v1:(List Int)×Int) (c12:Int) (r29:(List Int)×(List (List (List Int)))):Nat->(List (List Int))->Int->Int->Option (((List (List Int))))
 | 0,_,_,_=>none
 | f + 1,c30,c31,c32 =>
  if (decide (c32 < (v1.1.length:Int)))=true then
  (idx v1.1 c32).bind fun v34 =>
  if (G0 c31 (wr .i64 (c31 + v34)) r29.1.length)=true then
  if (B8 8 ((r29.1.take (wr .i64 (c31 + v34)).toNat).drop c31.toNat).length)=true then
  if (B8 24 (c30.length + 1))=true then
  Cp x1 v1 c12 r29 f (c30++[((r29.1.take (wr .i64 (c31 + v34)).toNat).drop c31.toNat)]) (wr .i64 (c31 + v34)) (wr .i64 (c32 + 1))
  else none
  else none
  else none
  else
  some c30
def Cn (x1:(List (List (Int×Int)))) (v1:(List Int)×Int):Nat->(List Int)->(List (List (List Int)))->Int->Option (((List (List (List Int)))))
 | 0,_,_,_=>none
 | f + 1,c10,c11,c12 =>
  if (decide (c12 < (((x1.take (mnI (x1.length:Int) 10).toNat).drop (0:Int).toNat).length:Int)))=true then
  (idx ((x1.take (mnI (x1.length:Int) 10).toNat).drop (0:Int).toNat) c12).bind fun v14 =>
  if (Ce 0 (mnI (v14.length:Int) 20) v14.length)=true then
  (Co x1 v1 c12 v14 100000 c10 c11 0).bind fun r29 =>
  (Cp x1 v1 c12 r29 100000 [] 0 0).bind fun r39 =>
  if (B8 24 (r29.2.length + 1))=true then
  Cn x1 v1 f r29.1 (r29.2++[r39]) (wr .i64 (c12 + 1))
  else none
  else none
  else
  some c11
def Do (x0:(List Int)) (x1:(List (List (Int×Int)))):Option ((List (List (List Int)))×(List Int)×Int) :=
 (Cr x0).bind fun v1 =>
 if (LI 8 v1.2)=true then
 (Cm x1 v1 100000 (List.replicate v1.2.toNat (0:Int)) 0).bind fun r8 =>
 if (Ce 0 (mnI (x1.length:Int) 10) x1.length)=true then
 (Cn x1 v1 100000 r8 [] 0).bind fun r42 =>
 some (r42,v1.1,v1.2)
 else none
 else none
def Fd:Cs ((List Int)×(List (List (Int×Int)))×Unit):=(csC (cdL 1 (cdK .u8)) (csC (cdL 1 (cdL 2 (C8 (cdK .u8) (cdK .u8) (fun _=>rfl) (fun _=>rfl)))) csN))
def Ff (r:(List (List (List Int)))×(List Int)×Int):AV:= .tp [(cdL 1 (cdL 1 (cdL 1 cdI))).enc r.1,(cdL 1 cdI).enc r.2.1,cdI.enc r.2.2]
theorem JG (x1:(List (List (Int×Int)))) (v1:(List Int)×Int):∀ (f:Nat) (c3:(List Int)) (c4:Int) (r:((List Int))),Cm x1 v1 f c3 c4=some r->SemN BD ⟨none,false⟩ (pc Cw [1,1,1,0,1,0,0]) f ⟨Fr 112 [(1,.sl 1 (x1.map (cdL 2 (C8 (cdK .u8) (cdK .u8) (fun _=>rfl) (fun _=>rfl))).enc)),(7,.sl 1 (v1.1.map cdI.enc)),(8,.v (.int .i64 v1.2)),(9,.rf 0 0 c3.length c3.length),(30,.v (.int .i64 ((List.replicate v1.2.toNat (0:Int)).length:Int))),(31,.v (.int .i64 c4))],[some ⟨1,3,(c3.map cdI.enc),false⟩]⟩ (fun e s=>e=(.exit 0)/\Wk BD s ⟨Fr 112 [(1,.sl 1 (x1.map (cdL 2 (C8 (cdK .u8) (cdK .u8) (fun _=>rfl) (fun _=>rfl))).enc)),(7,.sl 1 (v1.1.map cdI.enc)),(8,.v (.int .i64 v1.2)),(9,.rf 0 0 r.length r.length)],[some ⟨1,3,(r.map cdI.enc),false⟩]⟩):=by
 have he:=CI
 intro f;induction f with
 | zero=>intro c3 c4 r h; cases h
 | succ f ih0 =>
  intro c3 c4 r h
  have ih:=fun (c3:(List Int)) (c4:Int)=>ih0 c3 c4 r
  unfold Cm at h;refine Bt ?_
  let p1:Option Blk:=some ⟨1,3,(c3.map cdI.enc),false⟩
  let p2:Nat×AV:=(31,.v (.int .i64 c4))
  let p3:Nat×AV:=(30,.v (.int .i64 ((List.replicate v1.2.toNat (0:Int)).length:Int)))
  let p4:Nat×AV:=(9,.rf 0 0 c3.length c3.length)
  let p5:Nat×AV:=(8,.v (.int .i64 v1.2))
  let p6:Nat×AV:=(7,.sl 1 (v1.1.map cdI.enc))
  let p7:Nat×AV:=(1,.sl 1 (x1.map (cdL 2 (C8 (cdK .u8) (cdK .u8) (fun _=>rfl) (fun _=>rfl))).enc))
  refine AL he [p7,p6,p5,p4,p3,p2,(32,.v (.bool (decide (c4 < ((List.replicate v1.2.toNat (0:Int)).length:Int)))))] [p1] ?_;refine AC ?_;refine AP (b:=(decide (c4 < ((List.replicate v1.2.toNat (0:Int)).length:Int)))) kr (fun hb5=>?_) (fun hb5=>?_)
  ·rw [if_pos hb5] at h
   refine AT ?_;refine AC ?_;refine AW ?_;refine AL he [p7,p6,p5,p4,(10,.v (.int .i64 c4)),p3,p2] [p1] ?_;obtain ⟨v6,hv6,h⟩:=OB h
   let p8:Option Blk:=some ⟨1,3,((c3.set c4.toNat c4).map cdI.enc),false⟩
   let p9:Nat×AV:=(9,.rf 0 0 (c3.set c4.toNat c4).length (c3.set c4.toNat c4).length)
   refine AE (s1:=⟨Fr 112 [p7,p6,p5,p9,p3,p2],[p8]⟩) ?_ ?_
   ·refine AB (n:=112) he 3 [p7,p6,p5,p4,p3,p2,(34,.rf 0 0 c3.length c3.length),(35,.v (.int .i64 c4)),(36,.v (.int .i64 c4))] [p1] kr ?_
    refine AI he 0 rfl (Bd (AA rfl) rfl (AR (a:= .rf 0 0 c3.length c3.length) (b:= .v (.int .i64 c4)) kr kr (LG (e:=cdI.enc) (xs:=c3) (t':=3) (el:=3) (k:=1) (ki:= .i64) kr kr kr hv6))) ?_;refine RunS.store he (y:= .pt 0 c4.toNat 0) (z:= .v (.int .i64 c4)) rfl (AA rfl) kr kr (Ms (t':=3) (k:=1) (e:=cdI.enc) (xs:=c3) (v:=v6) (v':=c4) kr (E6 hv6).2 kr kr kr) ?_;exact AH rfl (A6 [0] ⟨⟨_,rfl,BV⟩,trivial⟩ ⟨lv,lv,lv,QE (b':=0) (n:=c3.length) kr (by simp) kr,lv,lv,trivial⟩)
   let p10:Nat×AV:=(31,.v (.int .i64 (wr .i64 (c4 + 1))))
   refine C4 he [p7,p6,p5,p9,p3,p10] [p8] ?_;exact Ak (s1:=⟨Fr 112 [p7,p6,p5,p9,p3,p10],[p8]⟩) (A6 [0] ⟨⟨_,rfl,BV⟩,trivial⟩ ⟨lv,lv,lv,lv,lv,lv,trivial⟩) (ih (c3.set c4.toNat c4) (wr .i64 (c4 + 1)) h)
  ·rw [B3 hb5] at h
   refine CT ?_;have hq:=OI h; subst hq;exact ⟨rfl,(A6 [0] ⟨⟨_,rfl,BV⟩,trivial⟩ ⟨lv,lv,lv,lv,trivial⟩)⟩
theorem JI (x1:(List (List (Int×Int)))) (v1:(List Int)×Int) (c12:Int) (v14:(List (Int×Int))):∀ (f:Nat) (c16:(List Int)) (c17:(List (List (List Int)))) (c18:Int) (r:((List Int)×(List (List (List Int))))),Co x1 v1 c12 v14 f c16 c17 c18=some r->SemN BD ⟨none,false⟩ (pc Cw [1,1,1,1,1,0,1,0,0,1,1,0,0,1,0,1,0,0]) f ⟨Fr 112 [(7,.sl 1 (v1.1.map cdI.enc)),(8,.v (.int .i64 v1.2)),(9,.rf 0 0 c16.length c16.length),(11,hd 1 (c17.map (cdL 1 (cdL 1 cdI)).enc)),(43,.sl 1 (((x1.take (mnI (x1.length:Int) 10).toNat).drop (0:Int).toNat).map (cdL 2 (C8 (cdK .u8) (cdK .u8) (fun _=>rfl) (fun _=>rfl))).enc)),(44,.v (.int .i64 (((x1.take (mnI (x1.length:Int) 10).toNat).drop (0:Int).toNat).length:Int))),(45,.v (.int .i64 c12)),(53,.sl 2 (((v14.take (mnI (v14.length:Int) 20).toNat).drop (0:Int).toNat).map (C8 (cdK .u8) (cdK .u8) (fun _=>rfl) (fun _=>rfl)).enc)),(54,.v (.int .i64 (((v14.take (mnI (v14.length:Int) 20).toNat).drop (0:Int).toNat).length:Int))),(55,.v (.int .i64 c18))],[some ⟨1,3,(c16.map cdI.enc),false⟩,mk 1 43 (c17.map (cdL 1 (cdL 1 cdI)).enc)]⟩ (fun e s=>e=(.exit 4)/\Wk BD s ⟨Fr 112 [(7,.sl 1 (v1.1.map cdI.enc)),(8,.v (.int .i64 v1.2)),(9,.rf 0 0 r.1.length r.1.length),(11,hd 1 (r.2.map (cdL 1 (cdL 1 cdI)).enc)),(43,.sl 1 (((x1.take (mnI (x1.length:Int) 10).toNat).drop (0:Int).toNat).map (cdL 2 (C8 (cdK .u8) (cdK .u8) (fun _=>rfl) (fun _=>rfl))).enc)),(44,.v (.int .i64 (((x1.take (mnI (x1.length:Int) 10).toNat).drop (0:Int).toNat).length:Int))),(45,.v (.int .i64 c12))],[some ⟨1,3,(r.1.map cdI.enc),false⟩,mk 1 43 (r.2.map (cdL 1 (cdL 1 cdI)).enc)]⟩):=by
 have he:=CI
 intro f;induction f with
 | zero=>intro c16 c17 c18 r h; cases h
 | succ f ih0 =>
  intro c16 c17 c18 r h
  have ih:=fun (c16:(List Int)) (c17:(List (List (List Int)))) (c18:Int)=>ih0 c16 c17 c18 r
  unfold Co at h;refine Bt ?_;refine AL he [(7,.sl 1 (v1.1.map cdI.enc)),(8,.v (.int .i64 v1.2)),(9,.rf 0 0 c16.length c16.length),(11,hd 1 (c17.map (cdL 1 (cdL 1 cdI)).enc)),(43,.sl 1 (((x1.take (mnI (x1.length:Int) 10).toNat).drop (0:Int).toNat).map (cdL 2 (C8 (cdK .u8) (cdK .u8) (fun _=>rfl) (fun _=>rfl))).enc)),(44,.v (.int .i64 (((x1.take (mnI (x1.length:Int) 10).toNat).drop (0:Int).toNat).length:Int))),(45,.v (.int .i64 c12)),(53,.sl 2 (((v14.take (mnI (v14.length:Int) 20).toNat).drop (0:Int).toNat).map (C8 (cdK .u8) (cdK .u8) (fun _=>rfl) (fun _=>rfl)).enc)),(54,.v (.int .i64 (((v14.take (mnI (v14.length:Int) 20).toNat).drop (0:Int).toNat).length:Int))),(55,.v (.int .i64 c18)),(56,.v (.bool (decide (c18 < (((v14.take (mnI (v14.length:Int) 20).toNat).drop (0:Int).toNat).length:Int)))))] [some ⟨1,3,(c16.map cdI.enc),false⟩,mk 1 43 (c17.map (cdL 1 (cdL 1 cdI)).enc)] ?_;refine AC ?_;refine AP (b:=(decide (c18 < (((v14.take (mnI (v14.length:Int) 20).toNat).drop (0:Int).toNat).length:Int)))) kr (fun hb19=>?_) (fun hb19=>?_)
  ·rw [if_pos hb19] at h
   refine AT ?_;refine AC ?_;refine AW ?_;refine AC ?_;obtain ⟨v20,hv20,h⟩:=OB h;refine AE (s1:=⟨Fr 112 [(7,.sl 1 (v1.1.map cdI.enc)),(8,.v (.int .i64 v1.2)),(9,.rf 0 0 c16.length c16.length),(11,hd 1 (c17.map (cdL 1 (cdL 1 cdI)).enc)),(15,.pt 2 0 0),(43,.sl 1 (((x1.take (mnI (x1.length:Int) 10).toNat).drop (0:Int).toNat).map (cdL 2 (C8 (cdK .u8) (cdK .u8) (fun _=>rfl) (fun _=>rfl))).enc)),(44,.v (.int .i64 (((x1.take (mnI (x1.length:Int) 10).toNat).drop (0:Int).toNat).length:Int))),(45,.v (.int .i64 c12)),(53,.sl 2 (((v14.take (mnI (v14.length:Int) 20).toNat).drop (0:Int).toNat).map (C8 (cdK .u8) (cdK .u8) (fun _=>rfl) (fun _=>rfl)).enc)),(54,.v (.int .i64 (((v14.take (mnI (v14.length:Int) 20).toNat).drop (0:Int).toNat).length:Int))),(55,.v (.int .i64 c18))],[some ⟨1,3,(c16.map cdI.enc),false⟩,mk 1 43 (c17.map (cdL 1 (cdL 1 cdI)).enc),some ⟨2,49,[.ag [.v (.int .u8 v20.1),.v (.int .u8 v20.2)]],false⟩]⟩) ?_ ?_
   ·refine AI he 0 rfl (Bd (AA rfl) rfl (AR (a:= .sl 2 (((v14.take (mnI (v14.length:Int) 20).toNat).drop (0:Int).toNat).map (C8 (cdK .u8) (cdK .u8) (fun _=>rfl) (fun _=>rfl)).enc)) (b:= .v (.int .i64 c18)) kr kr (F9 (e:=(C8 (cdK .u8) (cdK .u8) (fun _=>rfl) (fun _=>rfl)).enc) (el:=49) (k:=2) (ki:= .i64) kr kr hv20))) ?_
    exact AJ he
   refine AC ?_;by_cases hz21:v1.2=(0:Int)
   ·rw [if_pos hz21] at h; cases h
   rw [if_neg hz21] at h;by_cases hz22:v1.2=(0:Int)
   ·rw [if_pos hz22] at h; cases h
   rw [if_neg hz22] at h;refine GG he (s1:=⟨Fr 112 [(7,.sl 1 (v1.1.map cdI.enc)),(8,.v (.int .i64 v1.2)),(9,.rf 0 0 c16.length c16.length),(11,hd 1 (c17.map (cdL 1 (cdL 1 cdI)).enc)),(16,.v (.int .i64 ((wr .i64 v20.1).tmod v1.2))),(17,.v (.int .i64 ((wr .i64 v20.2).tmod v1.2))),(43,.sl 1 (((x1.take (mnI (x1.length:Int) 10).toNat).drop (0:Int).toNat).map (cdL 2 (C8 (cdK .u8) (cdK .u8) (fun _=>rfl) (fun _=>rfl))).enc)),(44,.v (.int .i64 (((x1.take (mnI (x1.length:Int) 10).toNat).drop (0:Int).toNat).length:Int))),(45,.v (.int .i64 c12)),(53,.sl 2 (((v14.take (mnI (v14.length:Int) 20).toNat).drop (0:Int).toNat).map (C8 (cdK .u8) (cdK .u8) (fun _=>rfl) (fun _=>rfl)).enc)),(54,.v (.int .i64 (((v14.take (mnI (v14.length:Int) 20).toNat).drop (0:Int).toNat).length:Int))),(55,.v (.int .i64 c18))],[some ⟨1,3,(c16.map cdI.enc),false⟩,mk 1 43 (c17.map (cdL 1 (cdL 1 cdI)).enc)]⟩) kr ?_ ?_
   ·refine BH (n:=112) he 4 [(7,.sl 1 (v1.1.map cdI.enc)),(8,.v (.int .i64 v1.2)),(9,.rf 0 0 c16.length c16.length),(11,hd 1 (c17.map (cdL 1 (cdL 1 cdI)).enc)),(15,.pt 2 0 0),(43,.sl 1 (((x1.take (mnI (x1.length:Int) 10).toNat).drop (0:Int).toNat).map (cdL 2 (C8 (cdK .u8) (cdK .u8) (fun _=>rfl) (fun _=>rfl))).enc)),(44,.v (.int .i64 (((x1.take (mnI (x1.length:Int) 10).toNat).drop (0:Int).toNat).length:Int))),(45,.v (.int .i64 c12)),(53,.sl 2 (((v14.take (mnI (v14.length:Int) 20).toNat).drop (0:Int).toNat).map (C8 (cdK .u8) (cdK .u8) (fun _=>rfl) (fun _=>rfl)).enc)),(54,.v (.int .i64 (((v14.take (mnI (v14.length:Int) 20).toNat).drop (0:Int).toNat).length:Int))),(55,.v (.int .i64 c18)),(61,.v (.int .i64 (wr .i64 v20.1))),(62,.v (.int .i64 v1.2))] [some ⟨1,3,(c16.map cdI.enc),false⟩,mk 1 43 (c17.map (cdL 1 (cdL 1 cdI)).enc),some ⟨2,49,[.ag [.v (.int .u8 v20.1),.v (.int .u8 v20.2)]],false⟩] kr kr ?_
    refine RunDS.one he rfl kr (H5 kr (AA rfl) rfl (Q3 (a:= .v (.int .i64 (wr .i64 v20.1))) (b:= .v (.int .i64 v1.2)) kr kr (NZ hz21)) kr) ?_;refine BH (n:=112) he 4 [(7,.sl 1 (v1.1.map cdI.enc)),(8,.v (.int .i64 v1.2)),(9,.rf 0 0 c16.length c16.length),(11,hd 1 (c17.map (cdL 1 (cdL 1 cdI)).enc)),(43,.sl 1 (((x1.take (mnI (x1.length:Int) 10).toNat).drop (0:Int).toNat).map (cdL 2 (C8 (cdK .u8) (cdK .u8) (fun _=>rfl) (fun _=>rfl))).enc)),(44,.v (.int .i64 (((x1.take (mnI (x1.length:Int) 10).toNat).drop (0:Int).toNat).length:Int))),(45,.v (.int .i64 c12)),(53,.sl 2 (((v14.take (mnI (v14.length:Int) 20).toNat).drop (0:Int).toNat).map (C8 (cdK .u8) (cdK .u8) (fun _=>rfl) (fun _=>rfl)).enc)),(54,.v (.int .i64 (((v14.take (mnI (v14.length:Int) 20).toNat).drop (0:Int).toNat).length:Int))),(55,.v (.int .i64 c18)),(63,.v (.int .i64 ((wr .i64 v20.1).tmod v1.2))),(66,.v (.int .i64 (wr .i64 v20.2))),(67,.v (.int .i64 v1.2))] [some ⟨1,3,(c16.map cdI.enc),false⟩,mk 1 43 (c17.map (cdL 1 (cdL 1 cdI)).enc),some ⟨2,49,[.ag [.v (.int .u8 v20.1),.v (.int .u8 v20.2)]],false⟩] kr kr ?_;refine RunDS.one he rfl kr (H5 kr (AA rfl) rfl (Q3 (a:= .v (.int .i64 (wr .i64 v20.2))) (b:= .v (.int .i64 v1.2)) kr kr (NZ hz22)) kr) ?_;refine BH (n:=112) he 2 [(7,.sl 1 (v1.1.map cdI.enc)),(8,.v (.int .i64 v1.2)),(9,.rf 0 0 c16.length c16.length),(11,hd 1 (c17.map (cdL 1 (cdL 1 cdI)).enc)),(16,.v (.int .i64 ((wr .i64 v20.1).tmod v1.2))),(17,.v (.int .i64 ((wr .i64 v20.2).tmod v1.2))),(43,.sl 1 (((x1.take (mnI (x1.length:Int) 10).toNat).drop (0:Int).toNat).map (cdL 2 (C8 (cdK .u8) (cdK .u8) (fun _=>rfl) (fun _=>rfl))).enc)),(44,.v (.int .i64 (((x1.take (mnI (x1.length:Int) 10).toNat).drop (0:Int).toNat).length:Int))),(45,.v (.int .i64 c12)),(53,.sl 2 (((v14.take (mnI (v14.length:Int) 20).toNat).drop (0:Int).toNat).map (C8 (cdK .u8) (cdK .u8) (fun _=>rfl) (fun _=>rfl)).enc)),(54,.v (.int .i64 (((v14.take (mnI (v14.length:Int) 20).toNat).drop (0:Int).toNat).length:Int))),(55,.v (.int .i64 c18))] [some ⟨1,3,(c16.map cdI.enc),false⟩,mk 1 43 (c17.map (cdL 1 (cdL 1 cdI)).enc),some ⟨2,49,[.ag [.v (.int .u8 v20.1),.v (.int .u8 v20.2)]],false⟩] kr kr ?_
    exact RunDS.done rfl (A6 [0,1] ⟨⟨_,rfl,BV⟩,⟨_,rfl,ET⟩,trivial⟩ ⟨lv,lv,lv,EW (b':=1) kr kr,lv,lv,lv,lv,lv,lv,lv,lv,trivial⟩)
   obtain ⟨v23,hv23,h⟩:=OB h;obtain ⟨v24,hv24,h⟩:=OB h;obtain ⟨v25,hv25,h⟩:=OB h;obtain ⟨v26,hv26,h⟩:=OB h;refine GG he (s1:=⟨Fr 112 [(7,.sl 1 (v1.1.map cdI.enc)),(8,.v (.int .i64 v1.2)),(9,.rf 0 0 ((c16.set (((wr .i64 v20.1).tmod v1.2).toNat) v23).set (((wr .i64 v20.2).tmod v1.2).toNat) v24).length ((c16.set (((wr .i64 v20.1).tmod v1.2).toNat) v23).set (((wr .i64 v20.2).tmod v1.2).toNat) v24).length),(11,hd 1 (c17.map (cdL 1 (cdL 1 cdI)).enc)),(43,.sl 1 (((x1.take (mnI (x1.length:Int) 10).toNat).drop (0:Int).toNat).map (cdL 2 (C8 (cdK .u8) (cdK .u8) (fun _=>rfl) (fun _=>rfl))).enc)),(44,.v (.int .i64 (((x1.take (mnI (x1.length:Int) 10).toNat).drop (0:Int).toNat).length:Int))),(45,.v (.int .i64 c12)),(53,.sl 2 (((v14.take (mnI (v14.length:Int) 20).toNat).drop (0:Int).toNat).map (C8 (cdK .u8) (cdK .u8) (fun _=>rfl) (fun _=>rfl)).enc)),(54,.v (.int .i64 (((v14.take (mnI (v14.length:Int) 20).toNat).drop (0:Int).toNat).length:Int))),(55,.v (.int .i64 c18))],[some ⟨1,3,(((c16.set (((wr .i64 v20.1).tmod v1.2).toNat) v23).set (((wr .i64 v20.2).tmod v1.2).toNat) v24).map cdI.enc),false⟩,mk 1 43 (c17.map (cdL 1 (cdL 1 cdI)).enc)]⟩) kr ?_ ?_
   ·refine BH (n:=112) he 6 [(7,.sl 1 (v1.1.map cdI.enc)),(8,.v (.int .i64 v1.2)),(9,.rf 0 0 c16.length c16.length),(11,hd 1 (c17.map (cdL 1 (cdL 1 cdI)).enc)),(16,.v (.int .i64 ((wr .i64 v20.1).tmod v1.2))),(43,.sl 1 (((x1.take (mnI (x1.length:Int) 10).toNat).drop (0:Int).toNat).map (cdL 2 (C8 (cdK .u8) (cdK .u8) (fun _=>rfl) (fun _=>rfl))).enc)),(44,.v (.int .i64 (((x1.take (mnI (x1.length:Int) 10).toNat).drop (0:Int).toNat).length:Int))),(45,.v (.int .i64 c12)),(53,.sl 2 (((v14.take (mnI (v14.length:Int) 20).toNat).drop (0:Int).toNat).map (C8 (cdK .u8) (cdK .u8) (fun _=>rfl) (fun _=>rfl)).enc)),(54,.v (.int .i64 (((v14.take (mnI (v14.length:Int) 20).toNat).drop (0:Int).toNat).length:Int))),(55,.v (.int .i64 c18)),(69,.rf 0 0 c16.length c16.length),(70,.v (.int .i64 ((wr .i64 v20.1).tmod v1.2))),(71,.rf 0 0 c16.length c16.length),(72,.v (.int .i64 ((wr .i64 v20.2).tmod v1.2))),(73,.rf 0 0 c16.length c16.length),(74,.v (.int .i64 ((wr .i64 v20.2).tmod v1.2)))] [some ⟨1,3,(c16.map cdI.enc),false⟩,mk 1 43 (c17.map (cdL 1 (cdL 1 cdI)).enc)] kr kr ?_
    refine RunDS.one he rfl kr (H5 kr (AA rfl) rfl (AR (a:= .rf 0 0 c16.length c16.length) (b:= .v (.int .i64 ((wr .i64 v20.2).tmod v1.2))) kr kr (LG (e:=cdI.enc) (xs:=c16) (t':=3) (el:=3) (k:=1) (ki:= .i64) kr kr kr hv23)) kr) ?_;refine RunDS.one he rfl kr (H5 kr (AA rfl) rfl (FA (p:= .pt 0 (((wr .i64 v20.2).tmod v1.2).toNat) 0) kr (Mb (B:=⟨1,3,(c16.map cdI.enc),false⟩) (m:=1) (g:=false) (e:=cdI.enc) (xs:=c16) kr kr kr rfl (E6 hv23).2 kr)) kr) ?_;refine BH (n:=112) he 2 [(7,.sl 1 (v1.1.map cdI.enc)),(8,.v (.int .i64 v1.2)),(9,.rf 0 0 c16.length c16.length),(11,hd 1 (c17.map (cdL 1 (cdL 1 cdI)).enc)),(43,.sl 1 (((x1.take (mnI (x1.length:Int) 10).toNat).drop (0:Int).toNat).map (cdL 2 (C8 (cdK .u8) (cdK .u8) (fun _=>rfl) (fun _=>rfl))).enc)),(44,.v (.int .i64 (((x1.take (mnI (x1.length:Int) 10).toNat).drop (0:Int).toNat).length:Int))),(45,.v (.int .i64 c12)),(53,.sl 2 (((v14.take (mnI (v14.length:Int) 20).toNat).drop (0:Int).toNat).map (C8 (cdK .u8) (cdK .u8) (fun _=>rfl) (fun _=>rfl)).enc)),(54,.v (.int .i64 (((v14.take (mnI (v14.length:Int) 20).toNat).drop (0:Int).toNat).length:Int))),(55,.v (.int .i64 c18)),(69,.rf 0 0 c16.length c16.length),(70,.v (.int .i64 ((wr .i64 v20.1).tmod v1.2))),(71,.rf 0 0 c16.length c16.length),(72,.v (.int .i64 ((wr .i64 v20.2).tmod v1.2))),(76,.v (.int .i64 v23)),(77,.rf 0 0 c16.length c16.length),(78,.v (.int .i64 ((wr .i64 v20.1).tmod v1.2)))] [some ⟨1,3,(c16.map cdI.enc),false⟩,mk 1 43 (c17.map (cdL 1 (cdL 1 cdI)).enc)] kr kr ?_;refine RunDS.one he rfl kr (H5 kr (AA rfl) rfl (AR (a:= .rf 0 0 c16.length c16.length) (b:= .v (.int .i64 ((wr .i64 v20.1).tmod v1.2))) kr kr (LG (e:=cdI.enc) (xs:=c16) (t':=3) (el:=3) (k:=1) (ki:= .i64) kr kr kr hv24)) kr) ?_;refine RunDS.one he rfl kr (H5 kr (AA rfl) rfl (FA (p:= .pt 0 (((wr .i64 v20.1).tmod v1.2).toNat) 0) kr (Mb (B:=⟨1,3,(c16.map cdI.enc),false⟩) (m:=1) (g:=false) (e:=cdI.enc) (xs:=c16) kr kr kr rfl (E6 hv24).2 kr)) kr) ?_
    refine RunDS.one he rfl kr (H5 kr (AA rfl) rfl (AR (a:= .rf 0 0 c16.length c16.length) (b:= .v (.int .i64 ((wr .i64 v20.1).tmod v1.2))) kr kr (LG (e:=cdI.enc) (xs:=c16) (t':=3) (el:=3) (k:=1) (ki:= .i64) kr kr kr hv25)) kr) ?_;refine Mw rfl rfl ?_;refine RunS.store he (y:= .pt 0 (((wr .i64 v20.1).tmod v1.2).toNat) 0) (z:= .v (.int .i64 v23)) rfl (AA rfl) kr kr (Ms (t':=3) (k:=1) (e:=cdI.enc) (xs:=c16) (v:=v25) (v':=v23) kr (E6 hv25).2 kr kr kr) ?_;refine AI he 0 rfl (Bd (AA rfl) rfl (AR (a:= .rf 0 0 c16.length c16.length) (b:= .v (.int .i64 ((wr .i64 v20.2).tmod v1.2))) kr kr (Qs (e:=cdI.enc) (xs:=(c16.set (((wr .i64 v20.1).tmod v1.2).toNat) v23)) (n:=c16.length) (t':=3) (el:=3) (k:=1) (ki:= .i64) (by simp only [List.length_set]) kr kr kr hv26))) ?_;refine RunS.store he (y:= .pt 0 (((wr .i64 v20.2).tmod v1.2).toNat) 0) (z:= .v (.int .i64 v24)) rfl (AA rfl) kr kr (Ms (t':=3) (k:=1) (e:=cdI.enc) (xs:=(c16.set (((wr .i64 v20.1).tmod v1.2).toNat) v23)) (v:=v26) (v':=v24) kr (E6 hv26).2 kr kr kr) ?_;exact AH rfl (A6 [0,1] ⟨⟨_,rfl,BV⟩,⟨_,rfl,ET⟩,trivial⟩ ⟨lv,lv,QE (b':=0) (n:=c16.length) kr (by simp) kr,EW (b':=1) kr kr,lv,lv,lv,lv,lv,lv,trivial⟩)
   refine C4 he [(7,.sl 1 (v1.1.map cdI.enc)),(8,.v (.int .i64 v1.2)),(9,.rf 0 0 ((c16.set (((wr .i64 v20.1).tmod v1.2).toNat) v23).set (((wr .i64 v20.2).tmod v1.2).toNat) v24).length ((c16.set (((wr .i64 v20.1).tmod v1.2).toNat) v23).set (((wr .i64 v20.2).tmod v1.2).toNat) v24).length),(11,hd 1 (c17.map (cdL 1 (cdL 1 cdI)).enc)),(43,.sl 1 (((x1.take (mnI (x1.length:Int) 10).toNat).drop (0:Int).toNat).map (cdL 2 (C8 (cdK .u8) (cdK .u8) (fun _=>rfl) (fun _=>rfl))).enc)),(44,.v (.int .i64 (((x1.take (mnI (x1.length:Int) 10).toNat).drop (0:Int).toNat).length:Int))),(45,.v (.int .i64 c12)),(53,.sl 2 (((v14.take (mnI (v14.length:Int) 20).toNat).drop (0:Int).toNat).map (C8 (cdK .u8) (cdK .u8) (fun _=>rfl) (fun _=>rfl)).enc)),(54,.v (.int .i64 (((v14.take (mnI (v14.length:Int) 20).toNat).drop (0:Int).toNat).length:Int))),(55,.v (.int .i64 (wr .i64 (c18 + 1))))] [some ⟨1,3,(((c16.set (((wr .i64 v20.1).tmod v1.2).toNat) v23).set (((wr .i64 v20.2).tmod v1.2).toNat) v24).map cdI.enc),false⟩,mk 1 43 (c17.map (cdL 1 (cdL 1 cdI)).enc)] ?_;exact Ak (s1:=⟨Fr 112 [(7,.sl 1 (v1.1.map cdI.enc)),(8,.v (.int .i64 v1.2)),(9,.rf 0 0 ((c16.set (((wr .i64 v20.1).tmod v1.2).toNat) v23).set (((wr .i64 v20.2).tmod v1.2).toNat) v24).length ((c16.set (((wr .i64 v20.1).tmod v1.2).toNat) v23).set (((wr .i64 v20.2).tmod v1.2).toNat) v24).length),(11,hd 1 (c17.map (cdL 1 (cdL 1 cdI)).enc)),(43,.sl 1 (((x1.take (mnI (x1.length:Int) 10).toNat).drop (0:Int).toNat).map (cdL 2 (C8 (cdK .u8) (cdK .u8) (fun _=>rfl) (fun _=>rfl))).enc)),(44,.v (.int .i64 (((x1.take (mnI (x1.length:Int) 10).toNat).drop (0:Int).toNat).length:Int))),(45,.v (.int .i64 c12)),(53,.sl 2 (((v14.take (mnI (v14.length:Int) 20).toNat).drop (0:Int).toNat).map (C8 (cdK .u8) (cdK .u8) (fun _=>rfl) (fun _=>rfl)).enc)),(54,.v (.int .i64 (((v14.take (mnI (v14.length:Int) 20).toNat).drop (0:Int).toNat).length:Int))),(55,.v (.int .i64 (wr .i64 (c18 + 1))))],[some ⟨1,3,(((c16.set (((wr .i64 v20.1).tmod v1.2).toNat) v23).set (((wr .i64 v20.2).tmod v1.2).toNat) v24).map cdI.enc),false⟩,mk 1 43 (c17.map (cdL 1 (cdL 1 cdI)).enc)]⟩) (A6 [0,1] ⟨⟨_,rfl,BV⟩,⟨_,rfl,ET⟩,trivial⟩ ⟨lv,lv,lv,EW (b':=1) kr kr,lv,lv,lv,lv,lv,lv,trivial⟩) (ih ((c16.set (((wr .i64 v20.1).tmod v1.2).toNat) v23).set (((wr .i64 v20.2).tmod v1.2).toNat) v24) c17 (wr .i64 (c18 + 1)) h)
  ·rw [B3 hb19] at h
   refine CT ?_;have hq:=OI h; subst hq;exact ⟨rfl,(A6 [0,1] ⟨⟨_,rfl,BV⟩,⟨_,rfl,ET⟩,trivial⟩ ⟨lv,lv,lv,EW (b':=1) kr kr,lv,lv,lv,trivial⟩)⟩
theorem JJ (x1:(List (List (Int×Int)))) (v1:(List Int)×Int) (c12:Int) (r29:(List Int)×(List (List (List Int)))):∀ (f:Nat) (c30:(List (List Int))) (c31:Int) (c32:Int) (r:((List (List Int)))),Cp x1 v1 c12 r29 f c30 c31 c32=some r->SemN BD ⟨none,false⟩ (pc Cw [1,1,1,1,1,0,1,0,0,1,1,0,0,1,1,1,1,0,1,0,0]) f ⟨Fr 112 [(7,.sl 1 (v1.1.map cdI.enc)),(8,.v (.int .i64 v1.2)),(9,.rf 0 0 r29.1.length r29.1.length),(11,hd 1 (r29.2.map (cdL 1 (cdL 1 cdI)).enc)),(18,hd 2 (c30.map (cdL 1 cdI).enc)),(19,.v (.int .i64 c31)),(43,.sl 1 (((x1.take (mnI (x1.length:Int) 10).toNat).drop (0:Int).toNat).map (cdL 2 (C8 (cdK .u8) (cdK .u8) (fun _=>rfl) (fun _=>rfl))).enc)),(44,.v (.int .i64 (((x1.take (mnI (x1.length:Int) 10).toNat).drop (0:Int).toNat).length:Int))),(45,.v (.int .i64 c12)),(84,.sl 1 (v1.1.map cdI.enc)),(85,.v (.int .i64 (v1.1.length:Int))),(86,.v (.int .i64 c32))],[some ⟨1,3,(r29.1.map cdI.enc),false⟩,mk 1 43 (r29.2.map (cdL 1 (cdL 1 cdI)).enc),mk 1 27 (c30.map (cdL 1 cdI).enc)]⟩ (fun e s=>e=(.exit 6)/\Wk BD s ⟨Fr 112 [(7,.sl 1 (v1.1.map cdI.enc)),(8,.v (.int .i64 v1.2)),(9,.rf 0 0 r29.1.length r29.1.length),(11,hd 1 (r29.2.map (cdL 1 (cdL 1 cdI)).enc)),(18,hd 2 (r.map (cdL 1 cdI).enc)),(43,.sl 1 (((x1.take (mnI (x1.length:Int) 10).toNat).drop (0:Int).toNat).map (cdL 2 (C8 (cdK .u8) (cdK .u8) (fun _=>rfl) (fun _=>rfl))).enc)),(44,.v (.int .i64 (((x1.take (mnI (x1.length:Int) 10).toNat).drop (0:Int).toNat).length:Int))),(45,.v (.int .i64 c12))],[some ⟨1,3,(r29.1.map cdI.enc),false⟩,mk 1 43 (r29.2.map (cdL 1 (cdL 1 cdI)).enc),mk 1 27 (r.map (cdL 1 cdI).enc)]⟩):=by
 have he:=CI
 intro f;induction f with
 | zero=>intro c30 c31 c32 r h; cases h
 | succ f ih0 =>
  intro c30 c31 c32 r h
  have ih:=fun (c30:(List (List Int))) (c31:Int) (c32:Int)=>ih0 c30 c31 c32 r
  unfold Cp at h;refine Bt ?_
  let p1:Option Blk:=mk 1 27 (c30.map (cdL 1 cdI).enc)
  let p2:Option Blk:=mk 1 43 (r29.2.map (cdL 1 (cdL 1 cdI)).enc)
  let p3:Option Blk:=some ⟨1,3,(r29.1.map cdI.enc),false⟩
  let p4:Nat×AV:=(86,.v (.int .i64 c32))
  let p5:Nat×AV:=(85,.v (.int .i64 (v1.1.length:Int)))
  let p6:Nat×AV:=(84,.sl 1 (v1.1.map cdI.enc))
  let p7:Nat×AV:=(45,.v (.int .i64 c12))
  let p8:Nat×AV:=(44,.v (.int .i64 (((x1.take (mnI (x1.length:Int) 10).toNat).drop (0:Int).toNat).length:Int)))
  let p9:Nat×AV:=(43,.sl 1 (((x1.take (mnI (x1.length:Int) 10).toNat).drop (0:Int).toNat).map (cdL 2 (C8 (cdK .u8) (cdK .u8) (fun _=>rfl) (fun _=>rfl))).enc))
  let p10:Nat×AV:=(19,.v (.int .i64 c31))
  let p11:Nat×AV:=(18,hd 2 (c30.map (cdL 1 cdI).enc))
  let p12:Nat×AV:=(11,hd 1 (r29.2.map (cdL 1 (cdL 1 cdI)).enc))
  let p13:Nat×AV:=(9,.rf 0 0 r29.1.length r29.1.length)
  let p14:Nat×AV:=(8,.v (.int .i64 v1.2))
  let p15:Nat×AV:=(7,.sl 1 (v1.1.map cdI.enc))
  refine AL he [p15,p14,p13,p12,p11,p10,p9,p8,p7,p6,p5,p4,(87,.v (.bool (decide (c32 < (v1.1.length:Int)))))] [p3,p2,p1] ?_;refine AC ?_;refine AP (b:=(decide (c32 < (v1.1.length:Int)))) kr (fun hb33=>?_) (fun hb33=>?_)
  ·rw [if_pos hb33] at h
   refine AT ?_;refine AC ?_;refine AW ?_;refine AC ?_;obtain ⟨v34,hv34,h⟩:=OB h
   let p16:Nat×AV:=(21,.v (.int .i64 v34))
   refine AE (s1:=⟨Fr 112 [p15,p14,p13,p12,p11,p10,p16,p9,p8,p7,p6,p5,p4],[p3,p2,p1]⟩) ?_ ?_
   ·refine AI he 0 rfl (Bd (AA rfl) rfl (AR (a:= .sl 1 (v1.1.map cdI.enc)) (b:= .v (.int .i64 c32)) kr kr (F9 (e:=cdI.enc) (el:=3) (k:=1) (ki:= .i64) kr kr hv34))) ?_
    exact AJ he
   refine AC ?_;by_cases hk35:(G0 c31 (wr .i64 (c31 + v34)) r29.1.length)=true
   case neg=>rw [if_neg hk35] at h; cases h
   rw [if_pos hk35] at h;by_cases hk36:(B8 8 ((r29.1.take (wr .i64 (c31 + v34)).toNat).drop c31.toNat).length)=true
   case neg=>rw [if_neg hk36] at h; cases h
   rw [if_pos hk36] at h;by_cases hk37:(B8 24 (c30.length + 1))=true
   case neg=>rw [if_neg hk37] at h; cases h
   rw [if_pos hk37] at h
   let p17:Option Blk:=mk 1 27 ((c30++[((r29.1.take (wr .i64 (c31 + v34)).toNat).drop c31.toNat)]).map (cdL 1 cdI).enc)
   let p18:Nat×AV:=(18,hd 2 ((c30++[((r29.1.take (wr .i64 (c31 + v34)).toNat).drop c31.toNat)]).map (cdL 1 cdI).enc))
   refine AE (s1:=⟨Fr 112 [p15,p14,p13,p12,p18,p10,p16,p9,p8,p7,p6,p5,p4],[p3,p2,p17]⟩) ?_ ?_
   ·let p19:Nat×AV:=(95,.v (.int .i64 (wr .i64 (c31 + v34))))
    let p20:Nat×AV:=(91,.rf 0 0 r29.1.length r29.1.length)
    let p21:Nat×AV:=(90,hd 2 (c30.map (cdL 1 cdI).enc))
    refine AB (n:=112) he 6 [p15,p14,p13,p12,p10,p16,p9,p8,p7,p6,p5,p4,p21,p20,(92,.v (.int .i64 c31)),p19] [p3,p2,p1] kr ?_;refine AI he 0 rfl (Bd (AA rfl) rfl (Eq (a:= .rf 0 0 r29.1.length r29.1.length) (l:=(some (.v (.int .i64 c31)))) (u:=(some (.v (.int .i64 (wr .i64 (c31 + v34)))))) (m:=none) kr kr kr rfl (PH (xs:=r29.1) (e:=cdI.enc) (t':=3) (k:=1) (el:=3) (lo:=c31) (hi:=(wr .i64 (c31 + v34))) kr kr kr (FT (K4 (Mi hk35))) (FT (IL (Mi hk35))) hk35))) ?_;refine Jv rfl rfl (QP ((r29.1.take (wr .i64 (c31 + v34)).toNat).drop c31.toNat) hk36) rfl (AA rfl) kr (xs:=[.rf 0 (0 + c31.toNat) ((wr .i64 (c31 + v34)).toNat - c31.toNat) (r29.1.length - c31.toNat)]) kr (Oa (c:=cdI) (xs:=r29.1) (t':=3) (k:=1) R6 kr hk35) M2 ?_;rintro x h' (⟨hx,rfl,rfl⟩ | ⟨rfl,rfl⟩)
    ·exact absurd hx (QM hk35)
    refine NR (s1:=⟨Fr 112 [p15,p14,p13,p12,p10,p16,p9,p8,p7,p6,p5,p4,p21,p20,(92,.v (.int .i64 c31)),p19,(96,.rf 0 (0 + c31.toNat) ((wr .i64 (c31 + v34)).toNat - c31.toNat) (r29.1.length - c31.toNat)),(97,.sl 1 (((r29.1.take (wr .i64 (c31 + v34)).toNat).drop c31.toNat).map cdI.enc))],[p3,p2,p1,none]⟩) (Fb 3 (.inl kr) ⟨.inr (.inl rfl),.inr (.inl rfl),.inr (.inl rfl),.inl rfl,trivial⟩ ⟨⟨.sl 1 (v1.1.map cdI.enc),kr,.inl rfl⟩,⟨.v (.int .i64 v1.2),kr,.inl rfl⟩,⟨.rf 0 0 r29.1.length r29.1.length,kr,.inl rfl⟩,⟨hd 1 (r29.2.map (cdL 1 (cdL 1 cdI)).enc),kr,.inl rfl⟩,⟨.v (.int .i64 c31),kr,.inl rfl⟩,⟨.v (.int .i64 v34),kr,.inl rfl⟩,⟨.sl 1 (((x1.take (mnI (x1.length:Int) 10).toNat).drop (0:Int).toNat).map (cdL 2 (C8 (cdK .u8) (cdK .u8) (fun _=>rfl) (fun _=>rfl))).enc),kr,.inl rfl⟩,⟨.v (.int .i64 (((x1.take (mnI (x1.length:Int) 10).toNat).drop (0:Int).toNat).length:Int)),kr,.inl rfl⟩,⟨.v (.int .i64 c12),kr,.inl rfl⟩,⟨.sl 1 (v1.1.map cdI.enc),kr,.inl rfl⟩,⟨.v (.int .i64 (v1.1.length:Int)),kr,.inl rfl⟩,⟨.v (.int .i64 c32),kr,.inl rfl⟩,⟨hd 2 (c30.map (cdL 1 cdI).enc),kr,.inl rfl⟩,⟨.rf 0 0 r29.1.length r29.1.length,kr,.inl rfl⟩,⟨.v (.int .i64 c31),kr,.inl rfl⟩,⟨.v (.int .i64 (wr .i64 (c31 + v34))),kr,.inl rfl⟩,⟨.rf 0 (0 + c31.toNat) ((wr .i64 (c31 + v34)).toNat - c31.toNat) (r29.1.length - c31.toNat),kr,.inl rfl⟩,⟨.rf 3 0 ((r29.1.take (wr .i64 (c31 + v34)).toNat).drop c31.toNat).length ((r29.1.take (wr .i64 (c31 + v34)).toNat).drop c31.toNat).length,kr,Qp (c:=cdI) (xs:=((r29.1.take (wr .i64 (c31 + v34)).toNat).drop c31.toNat)) (t:=3) kr⟩,trivial⟩) ?_
    let p22:Option Blk:=mk 1 27 ([((r29.1.take (wr .i64 (c31 + v34)).toNat).drop c31.toNat)].map (cdL 1 cdI).enc)
    refine AB (n:=112) he 1 [p15,p14,p13,p12,p10,p16,p9,p8,p7,p6,p5,p4,p21,(98,hd 4 ([((r29.1.take (wr .i64 (c31 + v34)).toNat).drop c31.toNat)].map (cdL 1 cdI).enc))] [p3,p2,p1,none,p22] kr ?_;refine AI he 0 rfl (NJ (AA rfl) rfl kr kr (D0 (a:=hd 2 (c30.map (cdL 1 cdI).enc)) (b:=hd 4 ([((r29.1.take (wr .i64 (c31 + v34)).toNat).drop c31.toNat)].map (cdL 1 cdI).enc)) kr kr (Ik (c:=(cdL 1 cdI)) (xs:=c30) (vs:=[((r29.1.take (wr .i64 (c31 + v34)).toNat).drop c31.toNat)]) (k:=1) (bytes:=24) (el:=27) kr kr (Il (t:=27) kr) (List.cons_ne_nil _ _) kr hk37))) ?_;refine AB (n:=112) he 1 [p15,p14,p13,p12,(18,hd 5 ((c30++[((r29.1.take (wr .i64 (c31 + v34)).toNat).drop c31.toNat)]).map (cdL 1 cdI).enc)),p10,p16,p9,p8,p7,p6,p5,p4] [p3,p2,none,none,p22,p17] kr ?_;exact AH rfl (A6 [0,1,5] ⟨⟨_,rfl,BV⟩,⟨_,rfl,ET⟩,⟨_,rfl,ET⟩,trivial⟩ ⟨lv,lv,lv,EW (b':=1) kr kr,EW (b':=5) kr kr,lv,lv,lv,lv,lv,lv,lv,lv,trivial⟩)
   let p23:Nat×AV:=(19,.v (.int .i64 (wr .i64 (c31 + v34))))
   refine C4 he [p15,p14,p13,p12,p18,p23,p9,p8,p7,p6,p5,p4] [p3,p2,p17] ?_
   let p24:Nat×AV:=(86,.v (.int .i64 (wr .i64 (c32 + 1))))
   refine C4 he [p15,p14,p13,p12,p18,p23,p9,p8,p7,p6,p5,p24] [p3,p2,p17] ?_;exact Ak (s1:=⟨Fr 112 [p15,p14,p13,p12,p18,p23,p9,p8,p7,p6,p5,p24],[p3,p2,p17]⟩) (A6 [0,1,2] ⟨⟨_,rfl,BV⟩,⟨_,rfl,ET⟩,⟨_,rfl,ET⟩,trivial⟩ ⟨lv,lv,lv,EW (b':=1) kr kr,EW (b':=2) kr kr,lv,lv,lv,lv,lv,lv,lv,trivial⟩) (ih (c30++[((r29.1.take (wr .i64 (c31 + v34)).toNat).drop c31.toNat)]) (wr .i64 (c31 + v34)) (wr .i64 (c32 + 1)) h)
  ·rw [B3 hb33] at h
   refine CT ?_;have hq:=OI h; subst hq;exact ⟨rfl,(A6 [0,1,2] ⟨⟨_,rfl,BV⟩,⟨_,rfl,ET⟩,⟨_,rfl,ET⟩,trivial⟩ ⟨lv,lv,lv,EW (b':=1) kr kr,EW (b':=2) kr kr,lv,lv,lv,trivial⟩)⟩
theorem JH (x1:(List (List (Int×Int)))) (v1:(List Int)×Int):∀ (f:Nat) (c10:(List Int)) (c11:(List (List (List Int)))) (c12:Int) (r:((List (List (List Int))))),Cn x1 v1 f c10 c11 c12=some r->SemN BD ⟨none,false⟩ (pc Cw [1,1,1,1,1,0,1,0,0]) f ⟨Fr 112 [(7,.sl 1 (v1.1.map cdI.enc)),(8,.v (.int .i64 v1.2)),(9,.rf 0 0 c10.length c10.length),(11,hd 1 (c11.map (cdL 1 (cdL 1 cdI)).enc)),(43,.sl 1 (((x1.take (mnI (x1.length:Int) 10).toNat).drop (0:Int).toNat).map (cdL 2 (C8 (cdK .u8) (cdK .u8) (fun _=>rfl) (fun _=>rfl))).enc)),(44,.v (.int .i64 (((x1.take (mnI (x1.length:Int) 10).toNat).drop (0:Int).toNat).length:Int))),(45,.v (.int .i64 c12))],[some ⟨1,3,(c10.map cdI.enc),false⟩,mk 1 43 (c11.map (cdL 1 (cdL 1 cdI)).enc)]⟩ (fun e s=>e=(.exit 2)/\Wk BD s ⟨Fr 112 [(7,.sl 1 (v1.1.map cdI.enc)),(8,.v (.int .i64 v1.2)),(11,hd 0 (r.map (cdL 1 (cdL 1 cdI)).enc))],[mk 1 43 (r.map (cdL 1 (cdL 1 cdI)).enc)]⟩):=by
 have he:=CI
 intro f;induction f with
 | zero=>intro c10 c11 c12 r h; cases h
 | succ f ih0 =>
  intro c10 c11 c12 r h
  have ih:=fun (c10:(List Int)) (c11:(List (List (List Int)))) (c12:Int)=>ih0 c10 c11 c12 r
  unfold Cn at h;refine Bt ?_
  let p1:Option Blk:=mk 1 43 (c11.map (cdL 1 (cdL 1 cdI)).enc)
  let p2:Option Blk:=some ⟨1,3,(c10.map cdI.enc),false⟩
  let p3:Nat×AV:=(45,.v (.int .i64 c12))
  let p4:Nat×AV:=(44,.v (.int .i64 (((x1.take (mnI (x1.length:Int) 10).toNat).drop (0:Int).toNat).length:Int)))
  let p5:Nat×AV:=(43,.sl 1 (((x1.take (mnI (x1.length:Int) 10).toNat).drop (0:Int).toNat).map (cdL 2 (C8 (cdK .u8) (cdK .u8) (fun _=>rfl) (fun _=>rfl))).enc))
  let p6:Nat×AV:=(11,hd 1 (c11.map (cdL 1 (cdL 1 cdI)).enc))
  let p7:Nat×AV:=(9,.rf 0 0 c10.length c10.length)
  let p8:Nat×AV:=(8,.v (.int .i64 v1.2))
  let p9:Nat×AV:=(7,.sl 1 (v1.1.map cdI.enc))
  refine AL he [p9,p8,p7,p6,p5,p4,p3,(46,.v (.bool (decide (c12 < (((x1.take (mnI (x1.length:Int) 10).toNat).drop (0:Int).toNat).length:Int)))))] [p2,p1] ?_;refine AC ?_;refine AP (b:=(decide (c12 < (((x1.take (mnI (x1.length:Int) 10).toNat).drop (0:Int).toNat).length:Int)))) kr (fun hb13=>?_) (fun hb13=>?_)
  ·rw [if_pos hb13] at h
   refine AT ?_;refine AC ?_;refine AW ?_;refine AC ?_;obtain ⟨v14,hv14,h⟩:=OB h;refine AE (s1:=⟨Fr 112 [p9,p8,p7,p6,(13,.sl 2 (v14.map (C8 (cdK .u8) (cdK .u8) (fun _=>rfl) (fun _=>rfl)).enc)),p5,p4,p3],[p2,p1]⟩) ?_ ?_
   ·refine AI he 0 rfl (Bd (AA rfl) rfl (AR (a:= .sl 1 (((x1.take (mnI (x1.length:Int) 10).toNat).drop (0:Int).toNat).map (cdL 2 (C8 (cdK .u8) (cdK .u8) (fun _=>rfl) (fun _=>rfl))).enc)) (b:= .v (.int .i64 c12)) kr kr (F9 (e:=(cdL 2 (C8 (cdK .u8) (cdK .u8) (fun _=>rfl) (fun _=>rfl))).enc) (el:=48) (k:=1) (ki:= .i64) kr kr hv14))) ?_
    exact AJ he
   refine AC ?_;refine AC ?_;by_cases hk15:(Ce 0 (mnI (v14.length:Int) 20) v14.length)=true
   case neg=>rw [if_neg hk15] at h; cases h
   rw [if_pos hk15] at h
   let p10:Nat×AV:=(54,.v (.int .i64 (((v14.take (mnI (v14.length:Int) 20).toNat).drop (0:Int).toNat).length:Int)))
   let p11:Nat×AV:=(53,.sl 2 (((v14.take (mnI (v14.length:Int) 20).toNat).drop (0:Int).toNat).map (C8 (cdK .u8) (cdK .u8) (fun _=>rfl) (fun _=>rfl)).enc))
   refine AE (s1:=⟨Fr 112 [p9,p8,p7,p6,p5,p4,p3,p11,p10,(55,.v (.int .i64 0))],[p2,p1]⟩) ?_ ?_
   ·let p12:Nat×AV:=(49,.sl 2 (v14.map (C8 (cdK .u8) (cdK .u8) (fun _=>rfl) (fun _=>rfl)).enc))
    refine AB (n:=112) he 2 [p9,p8,p7,p6,p5,p4,p3,p12,(50,.sl 2 (v14.map (C8 (cdK .u8) (cdK .u8) (fun _=>rfl) (fun _=>rfl)).enc))] [p2,p1] kr ?_;refine AI he 0 rfl (Bd (AA rfl) rfl (Ca (a:= .sl 2 (v14.map (C8 (cdK .u8) (cdK .u8) (fun _=>rfl) (fun _=>rfl)).enc)) kr (Bb (el:=49) kr))) ?_;refine AB (n:=112) he 1 [p9,p8,p7,p6,p5,p4,p3,p12,(52,.v (.int .i64 (mnI (v14.length:Int) 20)))] [p2,p1] kr ?_;refine AI he 0 rfl (Bd (AA rfl) rfl (Eq (a:= .sl 2 (v14.map (C8 (cdK .u8) (cdK .u8) (fun _=>rfl) (fun _=>rfl)).enc)) (l:=none) (u:=(some (.v (.int .i64 (mnI (v14.length:Int) 20))))) (m:=none) kr kr kr rfl (Kj (xs:=v14) (e:=(C8 (cdK .u8) (cdK .u8) (fun _=>rfl) (fun _=>rfl)).enc) (k:=2) (el:=49) (lo:=0) (hi:=(mnI (v14.length:Int) 20)) kr kr rfl (FT (IL hk15)) hk15))) ?_;refine AI he 0 rfl (Bd (AA rfl) rfl (Ca (a:= .sl 2 (((v14.take (mnI (v14.length:Int) 20).toNat).drop (0:Int).toNat).map (C8 (cdK .u8) (cdK .u8) (fun _=>rfl) (fun _=>rfl)).enc)) kr (Bb (el:=49) kr))) ?_;exact AJ he
   refine AW ?_;obtain ⟨r29,hr29,h⟩:=OB h;refine Cg (n:=100000) ?_;refine BF (Ak (s1:=⟨Fr 112 [p9,p8,p7,p6,p5,p4,p3,p11,p10,(55,.v (.int .i64 0))],[p2,p1]⟩) (A6 [0,1] ⟨⟨_,rfl,BV⟩,⟨_,rfl,ET⟩,trivial⟩ ⟨lv,lv,lv,EW (b':=1) kr kr,lv,lv,lv,lv,lv,lv,trivial⟩) (JI x1 v1 c12 v14 _ c10 c11 0 _ hr29)) ?_
   let p13:Option Blk:=mk 1 43 (r29.2.map (cdL 1 (cdL 1 cdI)).enc)
   let p14:Option Blk:=some ⟨1,3,(r29.1.map cdI.enc),false⟩
   let p15:Nat×AV:=(11,hd 1 (r29.2.map (cdL 1 (cdL 1 cdI)).enc))
   let p16:Nat×AV:=(9,.rf 0 0 r29.1.length r29.1.length)
   refine AL he [p9,p8,p16,p15,(18,.e0),p5,p4,p3] [p14,p13] ?_
   let p17:Nat×AV:=(19,.v (.int .i64 0))
   refine AL he [p9,p8,p16,p15,(18,.e0),p17,p5,p4,p3] [p14,p13] ?_;refine AC ?_;refine AC ?_
   let p18:Nat×AV:=(86,.v (.int .i64 0))
   let p19:Nat×AV:=(85,.v (.int .i64 (v1.1.length:Int)))
   let p20:Nat×AV:=(84,.sl 1 (v1.1.map cdI.enc))
   refine AE (s1:=⟨Fr 112 [p9,p8,p16,p15,(18,.e0),p17,p5,p4,p3,p20,p19,p18],[p14,p13]⟩) ?_ ?_
   ·refine AB (n:=112) he 1 [p9,p8,p16,p15,(18,.e0),p17,p5,p4,p3,p20] [p14,p13] kr ?_
    refine AI he 0 rfl (Bd (AA rfl) rfl (Ca (a:= .sl 1 (v1.1.map cdI.enc)) kr (Bb (el:=3) kr))) ?_;exact AJ he
   refine AW ?_;obtain ⟨r39,hr39,h⟩:=OB h;refine Cg (n:=100000) ?_
   let p21:Nat×AV:=(18,hd 2 ([].map (cdL 1 cdI).enc))
   refine BF (Ak (s1:=⟨Fr 112 [p9,p8,p16,p15,p21,p17,p5,p4,p3,p20,p19,p18],[p14,p13,mk 1 27 ([].map (cdL 1 cdI).enc)]⟩) (Wk.trans (s1:=⟨Fr 112 [p9,p8,p16,p15,p21,p17,p5,p4,p3,p20,p19,p18],[p14,p13,mk 1 27 ([].map (cdL 1 cdI).enc)]⟩) Wk.none (A6 [0,1,2] ⟨⟨_,rfl,BV⟩,⟨_,rfl,ET⟩,⟨_,rfl,I0⟩,trivial⟩ ⟨lv,lv,lv,EW (b':=1) kr kr,lv,lv,lv,lv,lv,lv,lv,lv,trivial⟩)) (JJ x1 v1 c12 r29 _ [] 0 0 _ hr39)) ?_;by_cases hk40:(B8 24 (r29.2.length + 1))=true
   case neg=>rw [if_neg hk40] at h; cases h
   rw [if_pos hk40] at h
   let p22:Option Blk:=mk 1 43 ((r29.2++[r39]).map (cdL 1 (cdL 1 cdI)).enc)
   let p23:Nat×AV:=(11,hd 1 ((r29.2++[r39]).map (cdL 1 (cdL 1 cdI)).enc))
   refine AE (s1:=⟨Fr 112 [p9,p8,p16,p23,p5,p4,p3],[p14,p22]⟩) ?_ ?_
   ·let p24:Nat×AV:=(104,hd 1 (r29.2.map (cdL 1 (cdL 1 cdI)).enc))
    refine AB (n:=112) he 2 [p9,p8,p16,p5,p4,p3,p24,(105,hd 2 (r39.map (cdL 1 cdI).enc))] [p14,p13,mk 1 27 (r39.map (cdL 1 cdI).enc)] kr ?_;refine NR (s1:=⟨Fr 112 [p9,p8,p16,p5,p4,p3,p24,(105,.sl 1 (r39.map (cdL 1 cdI).enc))],[p14,p13,none]⟩) (Fb 2 (.inl kr) ⟨.inr (.inl rfl),.inr (.inl rfl),.inl rfl,trivial⟩ ⟨⟨.sl 1 (v1.1.map cdI.enc),kr,.inl rfl⟩,⟨.v (.int .i64 v1.2),kr,.inl rfl⟩,⟨.rf 0 0 r29.1.length r29.1.length,kr,.inl rfl⟩,⟨.sl 1 (((x1.take (mnI (x1.length:Int) 10).toNat).drop (0:Int).toNat).map (cdL 2 (C8 (cdK .u8) (cdK .u8) (fun _=>rfl) (fun _=>rfl))).enc),kr,.inl rfl⟩,⟨.v (.int .i64 (((x1.take (mnI (x1.length:Int) 10).toNat).drop (0:Int).toNat).length:Int)),kr,.inl rfl⟩,⟨.v (.int .i64 c12),kr,.inl rfl⟩,⟨hd 1 (r29.2.map (cdL 1 (cdL 1 cdI)).enc),kr,.inl rfl⟩,⟨hd 2 (r39.map (cdL 1 cdI).enc),kr,Nt (t:=27) kr IM⟩,trivial⟩) ?_
    let p25:Option Blk:=mk 1 43 ([r39].map (cdL 1 (cdL 1 cdI)).enc)
    refine AB (n:=112) he 1 [p9,p8,p16,p5,p4,p3,p24,(106,hd 3 ([r39].map (cdL 1 (cdL 1 cdI)).enc))] [p14,p13,none,p25] kr ?_;refine AI he 0 rfl (NJ (AA rfl) rfl kr kr (D0 (a:=hd 1 (r29.2.map (cdL 1 (cdL 1 cdI)).enc)) (b:=hd 3 ([r39].map (cdL 1 (cdL 1 cdI)).enc)) kr kr (Ik (c:=(cdL 1 (cdL 1 cdI))) (xs:=r29.2) (vs:=[r39]) (k:=1) (bytes:=24) (el:=43) kr kr (Il (t:=43) kr) (List.cons_ne_nil _ _) kr hk40))) ?_;refine AB (n:=112) he 1 [p9,p8,p16,(11,hd 4 ((r29.2++[r39]).map (cdL 1 (cdL 1 cdI)).enc)),p5,p4,p3] [p14,none,none,p25,p22] kr ?_;exact AH rfl (A6 [0,4] ⟨⟨_,rfl,BV⟩,⟨_,rfl,ET⟩,trivial⟩ ⟨lv,lv,lv,EW (b':=4) kr kr,lv,lv,lv,trivial⟩)
   let p26:Nat×AV:=(45,.v (.int .i64 (wr .i64 (c12 + 1))))
   refine C4 he [p9,p8,p16,p23,p5,p4,p26] [p14,p22] ?_;exact Ak (s1:=⟨Fr 112 [p9,p8,p16,p23,p5,p4,p26],[p14,p22]⟩) (A6 [0,1] ⟨⟨_,rfl,BV⟩,⟨_,rfl,ET⟩,trivial⟩ ⟨lv,lv,lv,EW (b':=1) kr kr,lv,lv,lv,trivial⟩) (ih r29.1 (r29.2++[r39]) (wr .i64 (c12 + 1)) h)
  ·rw [B3 hb13] at h
   refine CT ?_;have hq:=OI h; subst hq;exact ⟨rfl,(A6 [1] ⟨⟨_,rfl,ET⟩,trivial⟩ ⟨lv,lv,EW (b':=1) kr kr,trivial⟩)⟩
theorem Jm (x0:(List Int)) (x1:(List (List (Int×Int)))) (r:(List (List (List Int)))×(List Int)×Int) (h:Do x0 x1=some r):Sem BD ⟨none,false⟩ Cw ⟨Fr 112 (At 0 (Fd.enc (x0,x1,()))),[]⟩ fun e s'=>(e = .normal\/e = .ret)/\∃ xs,EM BD.P s'.fr s'.hp Tryd.f7.results.toList=some xs/\Ef xs=Ff r:=by
 have he:=CI
 unfold Do at h
 let p1:Nat×AV:=(1,.sl 1 (x1.map (cdL 2 (C8 (cdK .u8) (cdK .u8) (fun _=>rfl) (fun _=>rfl))).enc))
 let p2:Nat×AV:=(0,.sl 1 (x0.map (cdK .u8).enc))
 refine BQ (CO (s1:=⟨Fr 112 [p2,p1],[]⟩) AM ?_);refine AL he [p2,p1] [] ?_;refine AC ?_;obtain ⟨v1,hv1,h⟩:=OB h
 let p3:Nat×AV:=(8,.v (.int .i64 v1.2))
 let p4:Nat×AV:=(7,.sl 1 (v1.1.map cdI.enc))
 refine AE (s1:=⟨Fr 112 [p1,p4,p3],[]⟩) ?_ ?_
 ·refine AB (n:=112) he 1 [p1,(23,.sl 1 (x0.map (cdK .u8).enc))] [] kr ?_
  refine RunS.call he (fid:=19) (s:=Dv) (F:=fun a=>Cr a.1) (er:=Dy) (xs:=[.sl 1 (x0.map (cdK .u8).enc)]) (a:=(x0,())) rfl (AA rfl) kr kr kr kr (Sns.cons (Sn.enc (c:=(cdL 1 (cdK .u8))) (v:=x0)) Sns.nil) (.inl kr) hv1 ?_;exact AJ he
 refine AC ?_;by_cases hk2:(LI 8 v1.2)=true
 case neg=>rw [if_neg hk2] at h; cases h
 rw [if_pos hk2] at h
 let p5:Option Blk:=some ⟨1,3,((List.replicate v1.2.toNat (0:Int)).map cdI.enc),false⟩
 let p6:Nat×AV:=(9,.rf 0 0 (List.replicate v1.2.toNat (0:Int)).length (List.replicate v1.2.toNat (0:Int)).length)
 refine AE (s1:=⟨Fr 112 [p1,p4,p3,p6],[p5]⟩) ?_ ?_
 ·refine AB (n:=112) he 1 [p1,p4,p3,(27,.v (.int .i64 v1.2))] [] kr ?_
  refine AI he 0 rfl (Qc (AA rfl) rfl kr (N5 (x:= .v (.int .i64 v1.2)) (y:= .v (.int .i64 v1.2)) kr kr (Pd (c:=cdI) (z:=(0:Int)) (k:=1) (bytes:=8) (el:=3) kr kr hk2))) ?_;exact AJ he
 refine AC ?_;refine AC ?_
 let p7:Nat×AV:=(30,.v (.int .i64 ((List.replicate v1.2.toNat (0:Int)).length:Int)))
 refine AE (s1:=⟨Fr 112 [p1,p4,p3,p6,p7,(31,.v (.int .i64 0))],[p5]⟩) ?_ ?_
 ·refine AB (n:=112) he 1 [p1,p4,p3,p6,(29,.rf 0 0 (List.replicate v1.2.toNat (0:Int)).length (List.replicate v1.2.toNat (0:Int)).length)] [p5] kr ?_
  refine AI he 0 rfl (Bd (AA rfl) rfl (Ca (a:= .rf 0 0 (List.replicate v1.2.toNat (0:Int)).length (List.replicate v1.2.toNat (0:Int)).length) kr (Qw (xs:=(List.replicate v1.2.toNat (0:Int))) (el:=3) kr))) ?_;exact AJ he
 refine AW ?_;obtain ⟨r8,hr8,h⟩:=OB h;refine Cg (n:=100000) ?_;refine BF (Ak (s1:=⟨Fr 112 [p1,p4,p3,p6,p7,(31,.v (.int .i64 0))],[p5]⟩) (A6 [0] ⟨⟨_,rfl,BV⟩,trivial⟩ ⟨lv,lv,lv,lv,lv,lv,trivial⟩) (JG x1 v1 _ (List.replicate v1.2.toNat (0:Int)) 0 _ hr8)) ?_
 let p8:Option Blk:=some ⟨1,3,(r8.map cdI.enc),false⟩
 let p9:Nat×AV:=(9,.rf 0 0 r8.length r8.length)
 refine AL he [p1,p4,p3,p9,(11,.e0)] [p8] ?_;refine AC ?_;refine AC ?_;by_cases hk9:(Ce 0 (mnI (x1.length:Int) 10) x1.length)=true
 case neg=>rw [if_neg hk9] at h; cases h
 rw [if_pos hk9] at h
 let p10:Nat×AV:=(45,.v (.int .i64 0))
 let p11:Nat×AV:=(44,.v (.int .i64 (((x1.take (mnI (x1.length:Int) 10).toNat).drop (0:Int).toNat).length:Int)))
 let p12:Nat×AV:=(43,.sl 1 (((x1.take (mnI (x1.length:Int) 10).toNat).drop (0:Int).toNat).map (cdL 2 (C8 (cdK .u8) (cdK .u8) (fun _=>rfl) (fun _=>rfl))).enc))
 refine AE (s1:=⟨Fr 112 [p4,p3,p9,(11,.e0),p12,p11,p10],[p8]⟩) ?_ ?_
 ·let p13:Nat×AV:=(39,.sl 1 (x1.map (cdL 2 (C8 (cdK .u8) (cdK .u8) (fun _=>rfl) (fun _=>rfl))).enc))
  refine AB (n:=112) he 2 [p4,p3,p9,(11,.e0),p13,(40,.sl 1 (x1.map (cdL 2 (C8 (cdK .u8) (cdK .u8) (fun _=>rfl) (fun _=>rfl))).enc))] [p8] kr ?_;refine AI he 0 rfl (Bd (AA rfl) rfl (Ca (a:= .sl 1 (x1.map (cdL 2 (C8 (cdK .u8) (cdK .u8) (fun _=>rfl) (fun _=>rfl))).enc)) kr (Bb (el:=48) kr))) ?_;refine AB (n:=112) he 1 [p4,p3,p9,(11,.e0),p13,(42,.v (.int .i64 (mnI (x1.length:Int) 10)))] [p8] kr ?_;refine AI he 0 rfl (Bd (AA rfl) rfl (Eq (a:= .sl 1 (x1.map (cdL 2 (C8 (cdK .u8) (cdK .u8) (fun _=>rfl) (fun _=>rfl))).enc)) (l:=none) (u:=(some (.v (.int .i64 (mnI (x1.length:Int) 10))))) (m:=none) kr kr kr rfl (Kj (xs:=x1) (e:=(cdL 2 (C8 (cdK .u8) (cdK .u8) (fun _=>rfl) (fun _=>rfl))).enc) (k:=1) (el:=48) (lo:=0) (hi:=(mnI (x1.length:Int) 10)) kr kr rfl (FT (IL hk9)) hk9))) ?_;refine AI he 0 rfl (Bd (AA rfl) rfl (Ca (a:= .sl 1 (((x1.take (mnI (x1.length:Int) 10).toNat).drop (0:Int).toNat).map (cdL 2 (C8 (cdK .u8) (cdK .u8) (fun _=>rfl) (fun _=>rfl))).enc)) kr (Bb (el:=48) kr))) ?_;exact AJ he
 refine AW ?_;obtain ⟨r42,hr42,h⟩:=OB h;refine Cg (n:=100000) ?_
 let p14:Option Blk:=mk 1 43 ([].map (cdL 1 (cdL 1 cdI)).enc)
 let p15:Nat×AV:=(11,hd 1 ([].map (cdL 1 (cdL 1 cdI)).enc))
 refine BF (Ak (s1:=⟨Fr 112 [p4,p3,p9,p15,p12,p11,p10],[p8,p14]⟩) (Wk.trans (s1:=⟨Fr 112 [p4,p3,p9,p15,p12,p11,p10],[p8,p14]⟩) Wk.none (A6 [0,1] ⟨⟨_,rfl,BV⟩,⟨_,rfl,I0⟩,trivial⟩ ⟨lv,lv,lv,lv,lv,lv,lv,trivial⟩)) (JH x1 v1 _ r8 [] 0 _ hr42)) ?_
 let p16:Nat×AV:=(6,.v (.int .i64 v1.2))
 let p17:Nat×AV:=(5,.sl 1 (v1.1.map cdI.enc))
 refine AL he [(4,hd 0 (r42.map (cdL 1 (cdL 1 cdI)).enc)),p17,p16] [mk 1 43 (r42.map (cdL 1 (cdL 1 cdI)).enc)] ?_;refine AS ?_;have hq:=OI h; subst hq
 let p18:Nat×AV:=(4,.sl 1 (r42.map (cdL 1 (cdL 1 cdI)).enc))
 exact ⟨⟨Fr 112 [p18,p17,p16],[]⟩,(Wk.trans (s1:=⟨Fr 112 [p18,p17,p16],[none]⟩) (Fb 0 (.inl kr) ⟨.inl rfl,trivial⟩ ⟨⟨hd 0 (r42.map (cdL 1 (cdL 1 cdI)).enc),kr,Nt (t:=43) kr IM⟩,⟨.sl 1 (v1.1.map cdI.enc),kr,.inl rfl⟩,⟨.v (.int .i64 v1.2),kr,.inl rfl⟩,trivial⟩) (A6 [] trivial ⟨lv,lv,lv,trivial⟩)),.inr rfl,[.sl 1 (r42.map (cdL 1 (cdL 1 cdI)).enc),.sl 1 (v1.1.map cdI.enc),.v (.int .i64 v1.2)],kr,kr⟩
def LR:List AV->Option AV:=Ea Fd (fun a=>Do a.1 a.2.1) Ff
theorem Lb:XOk 7 LR:=by
 refine EnvOk.x (E:=BD) (BY CI (fn:=Tryd.f7) (c:=Cw) ?h1 ?h2 ⟨Tryd.call7⟩ Fd (fun a=>Do a.1 a.2.1) Ff (fun a=>(by show 2<=112; decide)) ?h3 ?h4) rfl rfl
 case h1=>kernel_rfl
 case h2=>kernel_rfl
 case h3=>intro b; kernel_rfl
 case h4=>exact fun a b h=>Jm a.1 a.2.1 b h
/- trestle/evening.guests -/
noncomputable def DD:Env:=E0
theorem Ek:EnvOk DD:=AD
noncomputable def FJ:Code:=BW Tryd.f25
def Aj (x0:Int):Option (Bool) :=
 (if (decide (x0≥1))=true then some (decide (x0<=64)) else some false).bind fun j2 =>
 some j2
def CH:Cs (Int×Unit):=(csC cdI csN)
def CJ (r:Bool):AV:=cdB.enc r
theorem Hc (x0:Int) (r:Bool) (h:Aj x0=some r):Sem DD ⟨none,false⟩ FJ ⟨Fr 9 (At 0 (CH.enc (x0,()))),[]⟩ fun e s'=>(e = .normal\/e = .ret)/\∃ xs,EM DD.P s'.fr s'.hp Tryd.f25.results.toList=some xs/\Ef xs=CJ r:=by
 have he:=Ek
 unfold Aj at h;refine BQ (CO (s1:=⟨Fr 9 [(0,.v (.int .i64 x0))],[]⟩) AM ?_);refine AL he [(0,.v (.int .i64 x0))] [] ?_;refine AC ?_;obtain ⟨j2,hj2,h⟩:=OB h;refine AE (s1:=⟨Fr 9 [(2,.v (.bool j2))],[]⟩) ?_ ?_
 ·refine AB (n:=9) he 3 [(0,.v (.int .i64 x0)),(5,.v (.bool (decide (x0≥1))))] [] kr ?_
  rcases BE (decide (x0≥1)) with hc3 | hc3
  ·rw [if_pos hc3] at hj2
   rw [hc3];refine AB (n:=9) he 4 [(2,.v (.bool (decide (x0<=64))))] [] kr ?_;have hq:=OI hj2; subst hq;exact AH rfl AM
  ·rw [B3 hc3] at hj2
   rw [hc3];refine AB (n:=9) he 4 [(2,.v (.bool false))] [] kr ?_;have hq:=OI hj2; subst hq;exact AH rfl AM
 refine AS ?_;have hq:=OI h; subst hq;exact ⟨⟨Fr 9 [(2,.v (.bool j2))],[]⟩,AM,.inr rfl,[.v (.bool j2)],kr,kr⟩
def EO:List AV->Option AV:=Ea CH (fun a=>Aj a.1) CJ
theorem Cb:XOk 25 EO:=by
 refine EnvOk.x (E:=DD) (BY Ek (fn:=Tryd.f25) (c:=FJ) ?h1 ?h2 ⟨Tryd.call25⟩ CH (fun a=>Aj a.1) CJ (fun a=>(by show 1<=9; decide)) ?h3 ?h4) rfl rfl
 case h1=>kernel_rfl
 case h2=>kernel_rfl
 case h3=>intro b; kernel_rfl
 case h4=>exact fun a b h=>Hc a.1 b h
/- trestle/evening.fit -/
noncomputable def CU:Env:=(E0.withX 25 EO)
theorem EG:EnvOk CU:=(EnvOk.withX AD Cb.1 Cb.2)
noncomputable def FB:Code:=BW Tryd.f42
def EU (x0:Int) (x1:(List Int)):Nat->Int->Int->Option ((Int) ⊕ (Bool))
 | 0,_,_=>none
 | f + 1,c1,c2 =>
  if (decide (c2 < (x1.length:Int)))=true then
  (idx x1 c2).bind fun v4 =>
  (if (decide (v4 < 1))=true then some true else some (decide (v4 > c1))).bind fun j6 =>
  if j6=true then
  some (.inr false)
  else
  EU x0 x1 f (wr .i64 (c1 - v4)) (wr .i64 (c2 + 1))
  else
  some (.inl c1)
def Dm (x0:Int) (x1:(List Int)):Option (Bool) :=
 (EU x0 x1 100000 x0 0).bind fun r11 =>
 match r11 with
 | (.inl w12) =>
  (Aj x0).bind fun v13 =>
  (if v13=true then some (w12==0) else some false).bind fun j15 =>
  some j15
 | (.inr w17) =>
  some w17
def Du:Cs (Int×(List Int)×Unit):=(csC cdI (csC (cdL 1 cdI) csN))
def Dx (r:Bool):AV:=cdB.enc r
theorem F3 (x0:Int) (x1:(List Int)):∀ (f:Nat) (c1:Int) (c2:Int) (r:(Int) ⊕ (Bool)),EU x0 x1 f c1 c2=some r->SemN CU ⟨none,false⟩ (pc FB [1,1,0,1,0,0]) f ⟨Fr 32 [(0,.v (.int .i64 x0)),(5,.v (.int .i64 c1)),(9,.sl 1 (x1.map cdI.enc)),(10,.v (.int .i64 (x1.length:Int))),(11,.v (.int .i64 c2))],[]⟩ (fun e s=>match r with
 | (.inl w)=>e=(.exit 0)/\Wk CU s ⟨Fr 32 [(0,.v (.int .i64 x0)),(5,.v (.int .i64 w))],[]⟩
 | (.inr w)=>e = .ret/\Wk CU s ⟨Fr 32 [(4,.v (.bool w))],[]⟩):=by
 have he:=EG
 intro f;induction f with
 | zero=>intro c1 c2 r h; cases h
 | succ f ih0 =>
  intro c1 c2 r h
  have ih:=fun (c1:Int) (c2:Int)=>ih0 c1 c2 r
  unfold EU at h;refine Bt ?_;refine AL he [(0,.v (.int .i64 x0)),(5,.v (.int .i64 c1)),(9,.sl 1 (x1.map cdI.enc)),(10,.v (.int .i64 (x1.length:Int))),(11,.v (.int .i64 c2)),(12,.v (.bool (decide (c2 < (x1.length:Int)))))] [] ?_;refine AC ?_;refine AP (b:=(decide (c2 < (x1.length:Int)))) kr (fun hb3=>?_) (fun hb3=>?_)
  ·rw [if_pos hb3] at h
   refine AT ?_;refine AC ?_;refine AW ?_;refine AC ?_;obtain ⟨v4,hv4,h⟩:=OB h;refine AE (s1:=⟨Fr 32 [(0,.v (.int .i64 x0)),(5,.v (.int .i64 c1)),(7,.v (.int .i64 v4)),(9,.sl 1 (x1.map cdI.enc)),(10,.v (.int .i64 (x1.length:Int))),(11,.v (.int .i64 c2))],[]⟩) ?_ ?_
   ·refine AI he 0 rfl (Bd (AA rfl) rfl (AR (a:= .sl 1 (x1.map cdI.enc)) (b:= .v (.int .i64 c2)) kr kr (F9 (e:=cdI.enc) (el:=3) (k:=1) (ki:= .i64) kr kr hv4))) ?_
    exact AJ he
   refine AC ?_;refine AC ?_;obtain ⟨j6,hj6,h⟩:=OB h;refine AE (s1:=⟨Fr 32 [(0,.v (.int .i64 x0)),(5,.v (.int .i64 c1)),(7,.v (.int .i64 v4)),(9,.sl 1 (x1.map cdI.enc)),(10,.v (.int .i64 (x1.length:Int))),(11,.v (.int .i64 c2)),(21,.v (.bool j6))],[]⟩) ?_ ?_
   ·refine AB (n:=32) he 3 [(0,.v (.int .i64 x0)),(5,.v (.int .i64 c1)),(7,.v (.int .i64 v4)),(9,.sl 1 (x1.map cdI.enc)),(10,.v (.int .i64 (x1.length:Int))),(11,.v (.int .i64 c2)),(17,.v (.bool (decide (v4 < 1))))] [] kr ?_
    rcases BE (decide (v4 < 1)) with hc9 | hc9
    ·rw [if_pos hc9] at hj6
     rw [hc9];refine AB (n:=32) he 4 [(0,.v (.int .i64 x0)),(5,.v (.int .i64 c1)),(7,.v (.int .i64 v4)),(9,.sl 1 (x1.map cdI.enc)),(10,.v (.int .i64 (x1.length:Int))),(11,.v (.int .i64 c2)),(18,.tp []),(19,.tp []),(20,.tp []),(21,.v (.bool true))] [] kr ?_;have hq:=OI hj6; subst hq;exact AH rfl AM
    ·rw [B3 hc9] at hj6
     rw [hc9];refine AB (n:=32) he 4 [(0,.v (.int .i64 x0)),(5,.v (.int .i64 c1)),(7,.v (.int .i64 v4)),(9,.sl 1 (x1.map cdI.enc)),(10,.v (.int .i64 (x1.length:Int))),(11,.v (.int .i64 c2)),(18,.v (.int .i64 v4)),(19,.v (.int .i64 c1)),(20,.v (.bool (decide (v4 > c1)))),(21,.v (.bool (decide (v4 > c1))))] [] kr ?_;have hq:=OI hj6; subst hq;exact AH rfl AM
   refine AP (b:=j6) kr (fun hb7=>?_) (fun hb7=>?_)
   ·rw [if_pos hb7] at h
    refine AL he [(4,.v (.bool false))] [] ?_;refine AS ?_;have hq:=OI h; subst hq;exact ⟨rfl,AM⟩
   ·rw [B3 hb7] at h
    refine AT ?_;refine C4 he [(0,.v (.int .i64 x0)),(5,.v (.int .i64 (wr .i64 (c1 - v4)))),(9,.sl 1 (x1.map cdI.enc)),(10,.v (.int .i64 (x1.length:Int))),(11,.v (.int .i64 c2))] [] ?_;refine C4 he [(0,.v (.int .i64 x0)),(5,.v (.int .i64 (wr .i64 (c1 - v4)))),(9,.sl 1 (x1.map cdI.enc)),(10,.v (.int .i64 (x1.length:Int))),(11,.v (.int .i64 (wr .i64 (c2 + 1))))] [] ?_;exact Ak (s1:=⟨Fr 32 [(0,.v (.int .i64 x0)),(5,.v (.int .i64 (wr .i64 (c1 - v4)))),(9,.sl 1 (x1.map cdI.enc)),(10,.v (.int .i64 (x1.length:Int))),(11,.v (.int .i64 (wr .i64 (c2 + 1))))],[]⟩) AM (ih (wr .i64 (c1 - v4)) (wr .i64 (c2 + 1)) h)
  ·rw [B3 hb3] at h
   refine CT ?_;have hq:=OI h; subst hq;exact ⟨rfl,AM⟩
theorem I6 (x0:Int) (x1:(List Int)) (r:Bool) (h:Dm x0 x1=some r):Sem CU ⟨none,false⟩ FB ⟨Fr 32 (At 0 (Du.enc (x0,x1,()))),[]⟩ fun e s'=>(e = .normal\/e = .ret)/\∃ xs,EM CU.P s'.fr s'.hp Tryd.f42.results.toList=some xs/\Ef xs=Dx r:=by
 have he:=EG
 unfold Dm at h;refine BQ (CO (s1:=⟨Fr 32 [(0,.v (.int .i64 x0)),(1,.sl 1 (x1.map cdI.enc))],[]⟩) AM ?_);refine AL he [(0,.v (.int .i64 x0)),(1,.sl 1 (x1.map cdI.enc))] [] ?_;refine AL he [(0,.v (.int .i64 x0)),(1,.sl 1 (x1.map cdI.enc)),(5,.v (.int .i64 x0))] [] ?_;refine AC ?_;refine AC ?_;refine AE (s1:=⟨Fr 32 [(0,.v (.int .i64 x0)),(5,.v (.int .i64 x0)),(9,.sl 1 (x1.map cdI.enc)),(10,.v (.int .i64 (x1.length:Int))),(11,.v (.int .i64 0))],[]⟩) ?_ ?_
 ·refine AB (n:=32) he 1 [(0,.v (.int .i64 x0)),(5,.v (.int .i64 x0)),(9,.sl 1 (x1.map cdI.enc))] [] kr ?_
  refine AI he 0 rfl (Bd (AA rfl) rfl (Ca (a:= .sl 1 (x1.map cdI.enc)) kr (Bb (el:=3) kr))) ?_;exact AJ he
 refine AW ?_;obtain ⟨r11,hr11,h⟩:=OB h;refine Cg (n:=100000) ?_;rcases r11 with w12 | w17
 ·try dsimp only at h
  refine BF (Ak (s1:=⟨Fr 32 [(0,.v (.int .i64 x0)),(5,.v (.int .i64 x0)),(9,.sl 1 (x1.map cdI.enc)),(10,.v (.int .i64 (x1.length:Int))),(11,.v (.int .i64 0))],[]⟩) AM (F3 x0 x1 _ x0 0 _ hr11)) ?_;refine AC ?_;obtain ⟨v13,hv13,h⟩:=OB h;obtain ⟨j15,hj15,h⟩:=OB h;refine AE (s1:=⟨Fr 32 [(4,.v (.bool j15))],[]⟩) ?_ ?_
  ·refine AB (n:=32) he 1 [(5,.v (.int .i64 w12)),(26,.v (.int .i64 x0))] [] kr ?_
   refine RunS.call he (fid:=25) (s:=CH) (F:=fun a=>Aj a.1) (er:=CJ) (xs:=[.v (.int .i64 x0)]) (a:=(x0,())) rfl (AA rfl) kr kr kr kr (Sns.cons (Sn.enc (c:=cdI) (v:=x0)) Sns.nil) (.inl kr) hv13 ?_;refine AB (n:=32) he 1 [(5,.v (.int .i64 w12)),(28,.v (.bool v13))] [] kr ?_;rcases BE v13 with hc16 | hc16
   ·rw [if_pos hc16] at hj15
    rw [hc16];refine AB (n:=32) he 4 [(4,.v (.bool (w12==0)))] [] kr ?_;have hq:=OI hj15; subst hq;exact AH rfl AM
   ·rw [B3 hc16] at hj15
    rw [hc16];refine AB (n:=32) he 4 [(4,.v (.bool false))] [] kr ?_;have hq:=OI hj15; subst hq;exact AH rfl AM
  refine AS ?_;have hq:=OI h; subst hq;exact ⟨⟨Fr 32 [(4,.v (.bool j15))],[]⟩,AM,.inr rfl,[.v (.bool j15)],kr,kr⟩
 ·try dsimp only at h
  refine BF (Ak (s1:=⟨Fr 32 [(0,.v (.int .i64 x0)),(5,.v (.int .i64 x0)),(9,.sl 1 (x1.map cdI.enc)),(10,.v (.int .i64 (x1.length:Int))),(11,.v (.int .i64 0))],[]⟩) AM (F3 x0 x1 _ x0 0 _ hr11)) ?_;have hq:=OI h; subst hq;exact ⟨⟨Fr 32 [(4,.v (.bool w17))],[]⟩,AM,.inr rfl,[.v (.bool w17)],kr,kr⟩
def Hl:List AV->Option AV:=Ea Du (fun a=>Dm a.1 a.2.1) Dx
theorem Ht:XOk 42 Hl:=by
 refine EnvOk.x (E:=CU) (BY EG (fn:=Tryd.f42) (c:=FB) ?h1 ?h2 ⟨Tryd.call42⟩ Du (fun a=>Dm a.1 a.2.1) Dx (fun a=>(by show 2<=32; decide)) ?h3 ?h4) rfl rfl
 case h1=>kernel_rfl
 case h2=>kernel_rfl
 case h3=>intro b; kernel_rfl
 case h4=>exact fun a b h=>I6 a.1 a.2.1 b h
/- trestle/evening.check -/
noncomputable def An:Env:=E0
theorem Bw:EnvOk An:=AD
noncomputable def CY:Code:=BW Tryd.f28
def DI (x0:Int) (x1:(List Int)) (x2:(List (List Int))) (c9:Int) (v11:(List Int)) (c18:Int) (c20:Bool) (c22:Int) (v24:Int) (j32:Bool×(List Bool)) (v33:Bool):Option ((Int)) :=
 if (!v33)=true then
 some (wr .i64 (c18 + 1))
 else
 some c18
def BS (x0:Int) (x1:(List Int)) (x2:(List (List Int))) (c9:Int) (v11:(List Int)):Nat->Int->Bool->Bool->(List Bool)->Int->Option ((Int×Bool×Bool×(List Bool)))
 | 0,_,_,_,_,_=>none
 | f + 1,c18,c19,c20,c21,c22 =>
  if (decide (c22 < (v11.length:Int)))=true then
  (idx v11 c22).bind fun v24 =>
  (if (decide (v24 < 0))=true then some (c21,true) else some (c21,(decide (v24≥x0)))).bind fun j27 =>
  if j27.2=true then
  BS x0 x1 x2 c9 v11 f c18 c19 true j27.1 (wr .i64 (c22 + 1))
  else
  (if c19=true then some (true,j27.1) else (idx j27.1 v24).bind fun v29 =>
  some (v29,j27.1)).bind fun j32 =>
  (idx j32.2 v24).bind fun v33 =>
  (DI x0 x1 x2 c9 v11 c18 c20 c22 v24 j32 v33).bind fun r36 =>
  (idx j32.2 v24).bind fun v37 =>
  BS x0 x1 x2 c9 v11 f r36 j32.1 c20 (j32.2.set v24.toNat true) (wr .i64 (c22 + 1))
  else
  some (c18,c19,c20,c21)
def Bn (x0:Int) (x1:(List Int)) (x2:(List (List Int))):Nat->Int->Bool->Bool->(List Bool)->Int->Option ((Int×Bool×Bool) ⊕ (Int))
 | 0,_,_,_,_,_=>none
 | f + 1,c5,c6,c7,c8,c9 =>
  if (decide (c9 < (x2.length:Int)))=true then
  (idx x2 c9).bind fun v11 =>
  (if ((v11.length:Int)==0)=true then some (c8,true) else if (decide ((x1.length:Int) > 0))=true then (idx x1 c9).bind fun v12 =>
  some (c8,((v11.length:Int)!=v12)) else some (c8,false)).bind fun j15 =>
  if j15.2=true then
  some (.inr 2)
  else
  (BS x0 x1 x2 c9 v11 100000 c5 c6 c7 j15.1 0).bind fun r44 =>
  Bn x0 x1 x2 f r44.1 r44.2.1 r44.2.2.1 r44.2.2.2 (wr .i64 (c9 + 1))
  else
  some (.inl (c5,c6,c7))
def BN (x0:Int) (x1:(List Int)) (x2:(List (List Int))):Option (Int) :=
 (if (decide ((x1.length:Int) > 0))=true then some ((x1.length:Int)!=(x2.length:Int)) else some false).bind fun j2 =>
 if j2=true then
 some 2
 else
 if (LI 1 x0)=true then
 (Bn x0 x1 x2 100000 0 false false (List.replicate x0.toNat false) 0).bind fun r50 =>
 match r50 with
 | (.inl w51) =>
  if w51.2.2=true then
  some 6
  else
  if w51.2.1=true then
  some 5
  else
  if (decide (w51.1 < x0))=true then
  some 2
  else
  some 0
 | (.inr w55) =>
  some w55
 else none
def DA:Cs (Int×(List Int)×(List (List Int))×Unit):=(csC cdI (csC (cdL 1 cdI) (csC (cdL 1 (cdL 1 cdI)) csN)))
def DF (r:Int):AV:=cdI.enc r
theorem HF (x0:Int) (x1:(List Int)) (x2:(List (List Int))) (c9:Int) (v11:(List Int)) (c18:Int) (c20:Bool) (c22:Int) (v24:Int) (j32:Bool×(List Bool)) (v33:Bool) (r:(Int)) (h:DI x0 x1 x2 c9 v11 c18 c20 c22 v24 j32 v33=some r):Sem An ⟨none,false⟩ (pc CY [1,1,1,1,0,1,0,0,1,1,0,0,1,1,1,0,0,1,1,0,0,1,1,1,0,1]) ⟨Fr 91 [(0,.v (.int .i64 x0)),(1,.sl 1 (x1.map cdI.enc)),(7,.v (.int .i64 c18)),(8,.v (.bool j32.1)),(9,.v (.bool c20)),(10,.rf 0 0 j32.2.length j32.2.length),(14,.v (.int .i64 v24)),(27,.sl 1 (x2.map (cdL 1 cdI).enc)),(28,.v (.int .i64 (x2.length:Int))),(29,.v (.int .i64 c9)),(51,.sl 1 (v11.map cdI.enc)),(52,.v (.int .i64 (v11.length:Int))),(53,.v (.int .i64 c22)),(75,.v (.bool (!v33)))],[some ⟨1,4,(j32.2.map cdB.enc),false⟩]⟩ (fun e s=>e = .normal/\Wk An s ⟨Fr 91 [(0,.v (.int .i64 x0)),(1,.sl 1 (x1.map cdI.enc)),(7,.v (.int .i64 r)),(8,.v (.bool j32.1)),(9,.v (.bool c20)),(10,.rf 0 0 j32.2.length j32.2.length),(14,.v (.int .i64 v24)),(27,.sl 1 (x2.map (cdL 1 cdI).enc)),(28,.v (.int .i64 (x2.length:Int))),(29,.v (.int .i64 c9)),(51,.sl 1 (v11.map cdI.enc)),(52,.v (.int .i64 (v11.length:Int))),(53,.v (.int .i64 c22))],[some ⟨1,4,(j32.2.map cdB.enc),false⟩]⟩):=by
 unfold DI at h;refine AP (b:=(!v33)) kr (fun hb34=>?_) (fun hb34=>?_)
 ·rw [if_pos hb34] at h
  refine C4 Bw [(0,.v (.int .i64 x0)),(1,.sl 1 (x1.map cdI.enc)),(7,.v (.int .i64 (wr .i64 (c18 + 1)))),(8,.v (.bool j32.1)),(9,.v (.bool c20)),(10,.rf 0 0 j32.2.length j32.2.length),(14,.v (.int .i64 v24)),(27,.sl 1 (x2.map (cdL 1 cdI).enc)),(28,.v (.int .i64 (x2.length:Int))),(29,.v (.int .i64 c9)),(51,.sl 1 (v11.map cdI.enc)),(52,.v (.int .i64 (v11.length:Int))),(53,.v (.int .i64 c22))] [some ⟨1,4,(j32.2.map cdB.enc),false⟩] ?_;have hq:=OI h; subst hq;exact ⟨rfl,(A6 [0] ⟨⟨_,rfl,BV⟩,trivial⟩ ⟨lv,lv,lv,lv,lv,lv,lv,lv,lv,lv,lv,lv,lv,trivial⟩)⟩
 ·rw [B3 hb34] at h
  refine AT ?_;have hq:=OI h; subst hq;exact ⟨rfl,(A6 [0] ⟨⟨_,rfl,BV⟩,trivial⟩ ⟨lv,lv,lv,lv,lv,lv,lv,lv,lv,lv,lv,lv,lv,trivial⟩)⟩
theorem Hb (x0:Int) (x1:(List Int)) (x2:(List (List Int))) (c9:Int) (v11:(List Int)):∀ (f:Nat) (c18:Int) (c19:Bool) (c20:Bool) (c21:(List Bool)) (c22:Int) (r:(Int×Bool×Bool×(List Bool))),BS x0 x1 x2 c9 v11 f c18 c19 c20 c21 c22=some r->SemN An ⟨none,false⟩ (pc CY [1,1,1,1,0,1,0,0,1,1,0,0,1,1,1,0,0]) f ⟨Fr 91 [(0,.v (.int .i64 x0)),(1,.sl 1 (x1.map cdI.enc)),(7,.v (.int .i64 c18)),(8,.v (.bool c19)),(9,.v (.bool c20)),(10,.rf 0 0 c21.length c21.length),(27,.sl 1 (x2.map (cdL 1 cdI).enc)),(28,.v (.int .i64 (x2.length:Int))),(29,.v (.int .i64 c9)),(51,.sl 1 (v11.map cdI.enc)),(52,.v (.int .i64 (v11.length:Int))),(53,.v (.int .i64 c22))],[some ⟨1,4,(c21.map cdB.enc),false⟩]⟩ (fun e s=>e=(.exit 2)/\Wk An s ⟨Fr 91 [(0,.v (.int .i64 x0)),(1,.sl 1 (x1.map cdI.enc)),(7,.v (.int .i64 r.1)),(8,.v (.bool r.2.1)),(9,.v (.bool r.2.2.1)),(10,.rf 0 0 r.2.2.2.length r.2.2.2.length),(27,.sl 1 (x2.map (cdL 1 cdI).enc)),(28,.v (.int .i64 (x2.length:Int))),(29,.v (.int .i64 c9))],[some ⟨1,4,(r.2.2.2.map cdB.enc),false⟩]⟩):=by
 have he:=Bw
 intro f;induction f with
 | zero=>intro c18 c19 c20 c21 c22 r h; cases h
 | succ f ih0 =>
  intro c18 c19 c20 c21 c22 r h
  have ih:=fun (c18:Int) (c19:Bool) (c20:Bool) (c21:(List Bool)) (c22:Int)=>ih0 c18 c19 c20 c21 c22 r
  unfold BS at h;refine Bt ?_;refine AL he [(0,.v (.int .i64 x0)),(1,.sl 1 (x1.map cdI.enc)),(7,.v (.int .i64 c18)),(8,.v (.bool c19)),(9,.v (.bool c20)),(10,.rf 0 0 c21.length c21.length),(27,.sl 1 (x2.map (cdL 1 cdI).enc)),(28,.v (.int .i64 (x2.length:Int))),(29,.v (.int .i64 c9)),(51,.sl 1 (v11.map cdI.enc)),(52,.v (.int .i64 (v11.length:Int))),(53,.v (.int .i64 c22)),(54,.v (.bool (decide (c22 < (v11.length:Int)))))] [some ⟨1,4,(c21.map cdB.enc),false⟩] ?_;refine AC ?_;refine AP (b:=(decide (c22 < (v11.length:Int)))) kr (fun hb23=>?_) (fun hb23=>?_)
  ·rw [if_pos hb23] at h
   refine AT ?_;refine AC ?_;refine AW ?_;refine AC ?_;obtain ⟨v24,hv24,h⟩:=OB h;refine AE (s1:=⟨Fr 91 [(0,.v (.int .i64 x0)),(1,.sl 1 (x1.map cdI.enc)),(7,.v (.int .i64 c18)),(8,.v (.bool c19)),(9,.v (.bool c20)),(10,.rf 0 0 c21.length c21.length),(14,.v (.int .i64 v24)),(27,.sl 1 (x2.map (cdL 1 cdI).enc)),(28,.v (.int .i64 (x2.length:Int))),(29,.v (.int .i64 c9)),(51,.sl 1 (v11.map cdI.enc)),(52,.v (.int .i64 (v11.length:Int))),(53,.v (.int .i64 c22))],[some ⟨1,4,(c21.map cdB.enc),false⟩]⟩) ?_ ?_
   ·refine AI he 0 rfl (Bd (AA rfl) rfl (AR (a:= .sl 1 (v11.map cdI.enc)) (b:= .v (.int .i64 c22)) kr kr (F9 (e:=cdI.enc) (el:=3) (k:=1) (ki:= .i64) kr kr hv24))) ?_
    exact AJ he
   refine AC ?_;refine AC ?_;obtain ⟨j27,hj27,h⟩:=OB h;refine AE (s1:=⟨Fr 91 [(0,.v (.int .i64 x0)),(1,.sl 1 (x1.map cdI.enc)),(7,.v (.int .i64 c18)),(8,.v (.bool c19)),(9,.v (.bool c20)),(10,.rf 0 0 j27.1.length j27.1.length),(14,.v (.int .i64 v24)),(27,.sl 1 (x2.map (cdL 1 cdI).enc)),(28,.v (.int .i64 (x2.length:Int))),(29,.v (.int .i64 c9)),(51,.sl 1 (v11.map cdI.enc)),(52,.v (.int .i64 (v11.length:Int))),(53,.v (.int .i64 c22)),(63,.v (.bool j27.2))],[some ⟨1,4,(j27.1.map cdB.enc),false⟩]⟩) ?_ ?_
   ·refine AB (n:=91) he 3 [(0,.v (.int .i64 x0)),(1,.sl 1 (x1.map cdI.enc)),(7,.v (.int .i64 c18)),(8,.v (.bool c19)),(9,.v (.bool c20)),(10,.rf 0 0 c21.length c21.length),(14,.v (.int .i64 v24)),(27,.sl 1 (x2.map (cdL 1 cdI).enc)),(28,.v (.int .i64 (x2.length:Int))),(29,.v (.int .i64 c9)),(51,.sl 1 (v11.map cdI.enc)),(52,.v (.int .i64 (v11.length:Int))),(53,.v (.int .i64 c22)),(59,.v (.bool (decide (v24 < 0))))] [some ⟨1,4,(c21.map cdB.enc),false⟩] kr ?_
    rcases BE (decide (v24 < 0)) with hc39 | hc39
    ·rw [if_pos hc39] at hj27
     rw [hc39];refine AB (n:=91) he 4 [(0,.v (.int .i64 x0)),(1,.sl 1 (x1.map cdI.enc)),(7,.v (.int .i64 c18)),(8,.v (.bool c19)),(9,.v (.bool c20)),(10,.rf 0 0 c21.length c21.length),(14,.v (.int .i64 v24)),(27,.sl 1 (x2.map (cdL 1 cdI).enc)),(28,.v (.int .i64 (x2.length:Int))),(29,.v (.int .i64 c9)),(51,.sl 1 (v11.map cdI.enc)),(52,.v (.int .i64 (v11.length:Int))),(53,.v (.int .i64 c22)),(60,.tp []),(61,.tp []),(62,.tp []),(63,.v (.bool true))] [some ⟨1,4,(c21.map cdB.enc),false⟩] kr ?_;have hq:=OI hj27; subst hq;exact AH rfl (A6 [0] ⟨⟨_,rfl,BV⟩,trivial⟩ ⟨lv,lv,lv,lv,lv,lv,lv,lv,lv,lv,lv,lv,lv,lv,trivial⟩)
    ·rw [B3 hc39] at hj27
     rw [hc39];refine AB (n:=91) he 4 [(0,.v (.int .i64 x0)),(1,.sl 1 (x1.map cdI.enc)),(7,.v (.int .i64 c18)),(8,.v (.bool c19)),(9,.v (.bool c20)),(10,.rf 0 0 c21.length c21.length),(14,.v (.int .i64 v24)),(27,.sl 1 (x2.map (cdL 1 cdI).enc)),(28,.v (.int .i64 (x2.length:Int))),(29,.v (.int .i64 c9)),(51,.sl 1 (v11.map cdI.enc)),(52,.v (.int .i64 (v11.length:Int))),(53,.v (.int .i64 c22)),(60,.v (.int .i64 v24)),(61,.v (.int .i64 x0)),(62,.v (.bool (decide (v24≥x0)))),(63,.v (.bool (decide (v24≥x0))))] [some ⟨1,4,(c21.map cdB.enc),false⟩] kr ?_;have hq:=OI hj27; subst hq;exact AH rfl (A6 [0] ⟨⟨_,rfl,BV⟩,trivial⟩ ⟨lv,lv,lv,lv,lv,lv,lv,lv,lv,lv,lv,lv,lv,lv,trivial⟩)
   refine AP (b:=j27.2) kr (fun hb28=>?_) (fun hb28=>?_)
   ·rw [if_pos hb28] at h
    refine AL he [(0,.v (.int .i64 x0)),(1,.sl 1 (x1.map cdI.enc)),(7,.v (.int .i64 c18)),(8,.v (.bool c19)),(9,.v (.bool true)),(10,.rf 0 0 j27.1.length j27.1.length),(27,.sl 1 (x2.map (cdL 1 cdI).enc)),(28,.v (.int .i64 (x2.length:Int))),(29,.v (.int .i64 c9)),(51,.sl 1 (v11.map cdI.enc)),(52,.v (.int .i64 (v11.length:Int))),(53,.v (.int .i64 c22))] [some ⟨1,4,(j27.1.map cdB.enc),false⟩] ?_;refine CT ?_;refine C4 he [(0,.v (.int .i64 x0)),(1,.sl 1 (x1.map cdI.enc)),(7,.v (.int .i64 c18)),(8,.v (.bool c19)),(9,.v (.bool true)),(10,.rf 0 0 j27.1.length j27.1.length),(27,.sl 1 (x2.map (cdL 1 cdI).enc)),(28,.v (.int .i64 (x2.length:Int))),(29,.v (.int .i64 c9)),(51,.sl 1 (v11.map cdI.enc)),(52,.v (.int .i64 (v11.length:Int))),(53,.v (.int .i64 (wr .i64 (c22 + 1))))] [some ⟨1,4,(j27.1.map cdB.enc),false⟩] ?_;exact Ak (s1:=⟨Fr 91 [(0,.v (.int .i64 x0)),(1,.sl 1 (x1.map cdI.enc)),(7,.v (.int .i64 c18)),(8,.v (.bool c19)),(9,.v (.bool true)),(10,.rf 0 0 j27.1.length j27.1.length),(27,.sl 1 (x2.map (cdL 1 cdI).enc)),(28,.v (.int .i64 (x2.length:Int))),(29,.v (.int .i64 c9)),(51,.sl 1 (v11.map cdI.enc)),(52,.v (.int .i64 (v11.length:Int))),(53,.v (.int .i64 (wr .i64 (c22 + 1))))],[some ⟨1,4,(j27.1.map cdB.enc),false⟩]⟩) (A6 [0] ⟨⟨_,rfl,BV⟩,trivial⟩ ⟨lv,lv,lv,lv,lv,lv,lv,lv,lv,lv,lv,lv,trivial⟩) (ih c18 c19 true j27.1 (wr .i64 (c22 + 1)) h)
   ·rw [B3 hb28] at h
    refine AT ?_;refine AC ?_;obtain ⟨j32,hj32,h⟩:=OB h;refine AE (s1:=⟨Fr 91 [(0,.v (.int .i64 x0)),(1,.sl 1 (x1.map cdI.enc)),(7,.v (.int .i64 c18)),(8,.v (.bool j32.1)),(9,.v (.bool c20)),(10,.rf 0 0 j32.2.length j32.2.length),(14,.v (.int .i64 v24)),(27,.sl 1 (x2.map (cdL 1 cdI).enc)),(28,.v (.int .i64 (x2.length:Int))),(29,.v (.int .i64 c9)),(51,.sl 1 (v11.map cdI.enc)),(52,.v (.int .i64 (v11.length:Int))),(53,.v (.int .i64 c22))],[some ⟨1,4,(j32.2.map cdB.enc),false⟩]⟩) ?_ ?_
    ·refine AB (n:=91) he 2 [(0,.v (.int .i64 x0)),(1,.sl 1 (x1.map cdI.enc)),(7,.v (.int .i64 c18)),(9,.v (.bool c20)),(10,.rf 0 0 j27.1.length j27.1.length),(14,.v (.int .i64 v24)),(27,.sl 1 (x2.map (cdL 1 cdI).enc)),(28,.v (.int .i64 (x2.length:Int))),(29,.v (.int .i64 c9)),(51,.sl 1 (v11.map cdI.enc)),(52,.v (.int .i64 (v11.length:Int))),(53,.v (.int .i64 c22)),(65,.v (.bool c19))] [some ⟨1,4,(j27.1.map cdB.enc),false⟩] kr ?_
     rcases BE c19 with hc38 | hc38
     ·rw [if_pos hc38] at hj32
      rw [hc38];refine AB (n:=91) he 6 [(0,.v (.int .i64 x0)),(1,.sl 1 (x1.map cdI.enc)),(7,.v (.int .i64 c18)),(8,.v (.bool true)),(9,.v (.bool c20)),(10,.rf 0 0 j27.1.length j27.1.length),(14,.v (.int .i64 v24)),(27,.sl 1 (x2.map (cdL 1 cdI).enc)),(28,.v (.int .i64 (x2.length:Int))),(29,.v (.int .i64 c9)),(51,.sl 1 (v11.map cdI.enc)),(52,.v (.int .i64 (v11.length:Int))),(53,.v (.int .i64 c22)),(66,.tp []),(67,.tp []),(68,.tp []),(69,.tp [])] [some ⟨1,4,(j27.1.map cdB.enc),false⟩] kr ?_;have hq:=OI hj32; subst hq;exact AH rfl (A6 [0] ⟨⟨_,rfl,BV⟩,trivial⟩ ⟨lv,lv,lv,lv,lv,lv,lv,lv,lv,lv,lv,lv,lv,trivial⟩)
     ·rw [B3 hc38] at hj32
      rw [hc38];refine AB (n:=91) he 2 [(0,.v (.int .i64 x0)),(1,.sl 1 (x1.map cdI.enc)),(7,.v (.int .i64 c18)),(9,.v (.bool c20)),(10,.rf 0 0 j27.1.length j27.1.length),(14,.v (.int .i64 v24)),(27,.sl 1 (x2.map (cdL 1 cdI).enc)),(28,.v (.int .i64 (x2.length:Int))),(29,.v (.int .i64 c9)),(51,.sl 1 (v11.map cdI.enc)),(52,.v (.int .i64 (v11.length:Int))),(53,.v (.int .i64 c22)),(65,.v (.bool false)),(66,.rf 0 0 j27.1.length j27.1.length),(67,.v (.int .i64 v24))] [some ⟨1,4,(j27.1.map cdB.enc),false⟩] kr ?_;obtain ⟨v29,hv29,hj32⟩:=OB hj32;refine AI he 0 rfl (Bd kr rfl (AR (a:= .rf 0 0 j27.1.length j27.1.length) (b:= .v (.int .i64 v24)) kr kr (LG (e:=cdB.enc) (xs:=j27.1) (t':=4) (el:=4) (k:=1) (ki:= .i64) kr kr kr hv29))) ?_;refine AI he 0 rfl (Bd kr rfl (FA (p:= .pt 0 v24.toNat 0) kr (Mb (B:=⟨1,4,(j27.1.map cdB.enc),false⟩) (m:=1) (g:=false) (e:=cdB.enc) (xs:=j27.1) kr kr kr rfl (E6 hv29).2 kr))) ?_;refine AB (n:=91) he 2 [(0,.v (.int .i64 x0)),(1,.sl 1 (x1.map cdI.enc)),(7,.v (.int .i64 c18)),(8,.v (.bool v29)),(9,.v (.bool c20)),(10,.rf 0 0 j27.1.length j27.1.length),(14,.v (.int .i64 v24)),(27,.sl 1 (x2.map (cdL 1 cdI).enc)),(28,.v (.int .i64 (x2.length:Int))),(29,.v (.int .i64 c9)),(51,.sl 1 (v11.map cdI.enc)),(52,.v (.int .i64 (v11.length:Int))),(53,.v (.int .i64 c22)),(66,.rf 0 0 j27.1.length j27.1.length),(67,.v (.int .i64 v24)),(68,.pt 0 v24.toNat 0),(69,.v (.bool v29))] [some ⟨1,4,(j27.1.map cdB.enc),false⟩] kr ?_;have hq:=OI hj32; subst hq;exact AH rfl (A6 [0] ⟨⟨_,rfl,BV⟩,trivial⟩ ⟨lv,lv,lv,lv,lv,lv,lv,lv,lv,lv,lv,lv,lv,trivial⟩)
    refine AC ?_;refine AC ?_;obtain ⟨v33,hv33,h⟩:=OB h;refine AE (s1:=⟨Fr 91 [(0,.v (.int .i64 x0)),(1,.sl 1 (x1.map cdI.enc)),(7,.v (.int .i64 c18)),(8,.v (.bool j32.1)),(9,.v (.bool c20)),(10,.rf 0 0 j32.2.length j32.2.length),(14,.v (.int .i64 v24)),(27,.sl 1 (x2.map (cdL 1 cdI).enc)),(28,.v (.int .i64 (x2.length:Int))),(29,.v (.int .i64 c9)),(51,.sl 1 (v11.map cdI.enc)),(52,.v (.int .i64 (v11.length:Int))),(53,.v (.int .i64 c22)),(75,.v (.bool (!v33)))],[some ⟨1,4,(j32.2.map cdB.enc),false⟩]⟩) ?_ ?_
    ·refine AB (n:=91) he 2 [(0,.v (.int .i64 x0)),(1,.sl 1 (x1.map cdI.enc)),(7,.v (.int .i64 c18)),(8,.v (.bool j32.1)),(9,.v (.bool c20)),(10,.rf 0 0 j32.2.length j32.2.length),(14,.v (.int .i64 v24)),(27,.sl 1 (x2.map (cdL 1 cdI).enc)),(28,.v (.int .i64 (x2.length:Int))),(29,.v (.int .i64 c9)),(51,.sl 1 (v11.map cdI.enc)),(52,.v (.int .i64 (v11.length:Int))),(53,.v (.int .i64 c22)),(71,.rf 0 0 j32.2.length j32.2.length),(72,.v (.int .i64 v24))] [some ⟨1,4,(j32.2.map cdB.enc),false⟩] kr ?_
     refine AI he 0 rfl (Bd (AA rfl) rfl (AR (a:= .rf 0 0 j32.2.length j32.2.length) (b:= .v (.int .i64 v24)) kr kr (LG (e:=cdB.enc) (xs:=j32.2) (t':=4) (el:=4) (k:=1) (ki:= .i64) kr kr kr hv33))) ?_;refine AI he 0 rfl (Bd (AA rfl) rfl (FA (p:= .pt 0 v24.toNat 0) kr (Mb (B:=⟨1,4,(j32.2.map cdB.enc),false⟩) (m:=1) (g:=false) (e:=cdB.enc) (xs:=j32.2) kr kr kr rfl (E6 hv33).2 kr))) ?_;exact AJ he
    obtain ⟨r36,hr36,h⟩:=OB h;refine Pi (HF x0 x1 x2 c9 v11 c18 c20 c22 v24 j32 v33 _ hr36) ?_;obtain ⟨v37,hv37,h⟩:=OB h;refine AE (s1:=⟨Fr 91 [(0,.v (.int .i64 x0)),(1,.sl 1 (x1.map cdI.enc)),(7,.v (.int .i64 r36)),(8,.v (.bool j32.1)),(9,.v (.bool c20)),(10,.rf 0 0 (j32.2.set v24.toNat true).length (j32.2.set v24.toNat true).length),(27,.sl 1 (x2.map (cdL 1 cdI).enc)),(28,.v (.int .i64 (x2.length:Int))),(29,.v (.int .i64 c9)),(51,.sl 1 (v11.map cdI.enc)),(52,.v (.int .i64 (v11.length:Int))),(53,.v (.int .i64 c22))],[some ⟨1,4,((j32.2.set v24.toNat true).map cdB.enc),false⟩]⟩) ?_ ?_
    ·refine AB (n:=91) he 2 [(0,.v (.int .i64 x0)),(1,.sl 1 (x1.map cdI.enc)),(7,.v (.int .i64 r36)),(8,.v (.bool j32.1)),(9,.v (.bool c20)),(10,.rf 0 0 j32.2.length j32.2.length),(27,.sl 1 (x2.map (cdL 1 cdI).enc)),(28,.v (.int .i64 (x2.length:Int))),(29,.v (.int .i64 c9)),(51,.sl 1 (v11.map cdI.enc)),(52,.v (.int .i64 (v11.length:Int))),(53,.v (.int .i64 c22)),(78,.rf 0 0 j32.2.length j32.2.length),(79,.v (.int .i64 v24))] [some ⟨1,4,(j32.2.map cdB.enc),false⟩] kr ?_
     refine AI he 0 rfl (Bd (AA rfl) rfl (AR (a:= .rf 0 0 j32.2.length j32.2.length) (b:= .v (.int .i64 v24)) kr kr (LG (e:=cdB.enc) (xs:=j32.2) (t':=4) (el:=4) (k:=1) (ki:= .i64) kr kr kr hv37))) ?_;refine RunS.store he (y:= .pt 0 v24.toNat 0) (z:= .v (.bool true)) rfl (AA rfl) kr kr (Ms (t':=4) (k:=1) (e:=cdB.enc) (xs:=j32.2) (v:=v37) (v':=true) kr (E6 hv37).2 kr kr kr) ?_;exact AH rfl (A6 [0] ⟨⟨_,rfl,BV⟩,trivial⟩ ⟨lv,lv,lv,lv,lv,QE (b':=0) (n:=j32.2.length) kr (by simp) kr,lv,lv,lv,lv,lv,lv,trivial⟩)
    refine C4 he [(0,.v (.int .i64 x0)),(1,.sl 1 (x1.map cdI.enc)),(7,.v (.int .i64 r36)),(8,.v (.bool j32.1)),(9,.v (.bool c20)),(10,.rf 0 0 (j32.2.set v24.toNat true).length (j32.2.set v24.toNat true).length),(27,.sl 1 (x2.map (cdL 1 cdI).enc)),(28,.v (.int .i64 (x2.length:Int))),(29,.v (.int .i64 c9)),(51,.sl 1 (v11.map cdI.enc)),(52,.v (.int .i64 (v11.length:Int))),(53,.v (.int .i64 (wr .i64 (c22 + 1))))] [some ⟨1,4,((j32.2.set v24.toNat true).map cdB.enc),false⟩] ?_;exact Ak (s1:=⟨Fr 91 [(0,.v (.int .i64 x0)),(1,.sl 1 (x1.map cdI.enc)),(7,.v (.int .i64 r36)),(8,.v (.bool j32.1)),(9,.v (.bool c20)),(10,.rf 0 0 (j32.2.set v24.toNat true).length (j32.2.set v24.toNat true).length),(27,.sl 1 (x2.map (cdL 1 cdI).enc)),(28,.v (.int .i64 (x2.length:Int))),(29,.v (.int .i64 c9)),(51,.sl 1 (v11.map cdI.enc)),(52,.v (.int .i64 (v11.length:Int))),(53,.v (.int .i64 (wr .i64 (c22 + 1))))],[some ⟨1,4,((j32.2.set v24.toNat true).map cdB.enc),false⟩]⟩) (A6 [0] ⟨⟨_,rfl,BV⟩,trivial⟩ ⟨lv,lv,lv,lv,lv,lv,lv,lv,lv,lv,lv,lv,trivial⟩) (ih r36 j32.1 c20 (j32.2.set v24.toNat true) (wr .i64 (c22 + 1)) h)
  ·rw [B3 hb23] at h
   refine CT ?_;have hq:=OI h; subst hq;exact ⟨rfl,(A6 [0] ⟨⟨_,rfl,BV⟩,trivial⟩ ⟨lv,lv,lv,lv,lv,lv,lv,lv,lv,trivial⟩)⟩
theorem E5 (x0:Int) (x1:(List Int)) (x2:(List (List Int))):∀ (f:Nat) (c5:Int) (c6:Bool) (c7:Bool) (c8:(List Bool)) (c9:Int) (r:(Int×Bool×Bool) ⊕ (Int)),Bn x0 x1 x2 f c5 c6 c7 c8 c9=some r->SemN An ⟨none,false⟩ (pc CY [1,1,1,1,0,1,0,0]) f ⟨Fr 91 [(0,.v (.int .i64 x0)),(1,.sl 1 (x1.map cdI.enc)),(7,.v (.int .i64 c5)),(8,.v (.bool c6)),(9,.v (.bool c7)),(10,.rf 0 0 c8.length c8.length),(27,.sl 1 (x2.map (cdL 1 cdI).enc)),(28,.v (.int .i64 (x2.length:Int))),(29,.v (.int .i64 c9))],[some ⟨1,4,(c8.map cdB.enc),false⟩]⟩ (fun e s=>match r with
 | (.inl w)=>e=(.exit 0)/\Wk An s ⟨Fr 91 [(0,.v (.int .i64 x0)),(7,.v (.int .i64 w.1)),(8,.v (.bool w.2.1)),(9,.v (.bool w.2.2))],[]⟩
 | (.inr w)=>e = .ret/\Wk An s ⟨Fr 91 [(6,.v (.int .i64 w))],[]⟩):=by
 have he:=Bw
 intro f;induction f with
 | zero=>intro c5 c6 c7 c8 c9 r h; cases h
 | succ f ih0 =>
  intro c5 c6 c7 c8 c9 r h
  have ih:=fun (c5:Int) (c6:Bool) (c7:Bool) (c8:(List Bool)) (c9:Int)=>ih0 c5 c6 c7 c8 c9 r
  unfold Bn at h;refine Bt ?_;refine AL he [(0,.v (.int .i64 x0)),(1,.sl 1 (x1.map cdI.enc)),(7,.v (.int .i64 c5)),(8,.v (.bool c6)),(9,.v (.bool c7)),(10,.rf 0 0 c8.length c8.length),(27,.sl 1 (x2.map (cdL 1 cdI).enc)),(28,.v (.int .i64 (x2.length:Int))),(29,.v (.int .i64 c9)),(30,.v (.bool (decide (c9 < (x2.length:Int)))))] [some ⟨1,4,(c8.map cdB.enc),false⟩] ?_;refine AC ?_;refine AP (b:=(decide (c9 < (x2.length:Int)))) kr (fun hb10=>?_) (fun hb10=>?_)
  ·rw [if_pos hb10] at h
   refine AT ?_;refine AC ?_;refine AW ?_;refine AC ?_;obtain ⟨v11,hv11,h⟩:=OB h;refine AE (s1:=⟨Fr 91 [(0,.v (.int .i64 x0)),(1,.sl 1 (x1.map cdI.enc)),(7,.v (.int .i64 c5)),(8,.v (.bool c6)),(9,.v (.bool c7)),(10,.rf 0 0 c8.length c8.length),(11,.v (.int .i64 c9)),(12,.sl 1 (v11.map cdI.enc)),(27,.sl 1 (x2.map (cdL 1 cdI).enc)),(28,.v (.int .i64 (x2.length:Int))),(29,.v (.int .i64 c9))],[some ⟨1,4,(c8.map cdB.enc),false⟩]⟩) ?_ ?_
   ·refine AB (n:=91) he 1 [(0,.v (.int .i64 x0)),(1,.sl 1 (x1.map cdI.enc)),(7,.v (.int .i64 c5)),(8,.v (.bool c6)),(9,.v (.bool c7)),(10,.rf 0 0 c8.length c8.length),(27,.sl 1 (x2.map (cdL 1 cdI).enc)),(28,.v (.int .i64 (x2.length:Int))),(29,.v (.int .i64 c9)),(31,.v (.int .i64 c9))] [some ⟨1,4,(c8.map cdB.enc),false⟩] kr ?_
    refine AI he 0 rfl (Bd (AA rfl) rfl (AR (a:= .sl 1 (x2.map (cdL 1 cdI).enc)) (b:= .v (.int .i64 c9)) kr kr (F9 (e:=(cdL 1 cdI).enc) (el:=27) (k:=1) (ki:= .i64) kr kr hv11))) ?_;exact AJ he
   refine AC ?_;refine AC ?_;obtain ⟨j15,hj15,h⟩:=OB h;refine AE (s1:=⟨Fr 91 [(0,.v (.int .i64 x0)),(1,.sl 1 (x1.map cdI.enc)),(7,.v (.int .i64 c5)),(8,.v (.bool c6)),(9,.v (.bool c7)),(10,.rf 0 0 j15.1.length j15.1.length),(12,.sl 1 (v11.map cdI.enc)),(27,.sl 1 (x2.map (cdL 1 cdI).enc)),(28,.v (.int .i64 (x2.length:Int))),(29,.v (.int .i64 c9)),(50,.v (.bool j15.2))],[some ⟨1,4,(j15.1.map cdB.enc),false⟩]⟩) ?_ ?_
   ·refine AB (n:=91) he 1 [(0,.v (.int .i64 x0)),(1,.sl 1 (x1.map cdI.enc)),(7,.v (.int .i64 c5)),(8,.v (.bool c6)),(9,.v (.bool c7)),(10,.rf 0 0 c8.length c8.length),(11,.v (.int .i64 c9)),(12,.sl 1 (v11.map cdI.enc)),(27,.sl 1 (x2.map (cdL 1 cdI).enc)),(28,.v (.int .i64 (x2.length:Int))),(29,.v (.int .i64 c9)),(34,.sl 1 (v11.map cdI.enc))] [some ⟨1,4,(c8.map cdB.enc),false⟩] kr ?_
    refine AI he 0 rfl (Bd (AA rfl) rfl (Ca (a:= .sl 1 (v11.map cdI.enc)) kr (Bb (el:=3) kr))) ?_;refine AB (n:=91) he 2 [(0,.v (.int .i64 x0)),(1,.sl 1 (x1.map cdI.enc)),(7,.v (.int .i64 c5)),(8,.v (.bool c6)),(9,.v (.bool c7)),(10,.rf 0 0 c8.length c8.length),(11,.v (.int .i64 c9)),(12,.sl 1 (v11.map cdI.enc)),(27,.sl 1 (x2.map (cdL 1 cdI).enc)),(28,.v (.int .i64 (x2.length:Int))),(29,.v (.int .i64 c9)),(37,.v (.bool ((v11.length:Int)==0)))] [some ⟨1,4,(c8.map cdB.enc),false⟩] kr ?_;rcases BE ((v11.length:Int)==0) with hc45 | hc45
    ·rw [if_pos hc45] at hj15
     rw [hc45];refine AB (n:=91) he 13 [(0,.v (.int .i64 x0)),(1,.sl 1 (x1.map cdI.enc)),(7,.v (.int .i64 c5)),(8,.v (.bool c6)),(9,.v (.bool c7)),(10,.rf 0 0 c8.length c8.length),(12,.sl 1 (v11.map cdI.enc)),(27,.sl 1 (x2.map (cdL 1 cdI).enc)),(28,.v (.int .i64 (x2.length:Int))),(29,.v (.int .i64 c9)),(38,.tp []),(39,.tp []),(40,.tp []),(41,.tp []),(42,.tp []),(43,.tp []),(44,.tp []),(45,.tp []),(46,.tp []),(47,.tp []),(48,.tp []),(49,.tp []),(50,.v (.bool true))] [some ⟨1,4,(c8.map cdB.enc),false⟩] kr ?_;have hq:=OI hj15; subst hq;exact AH rfl (A6 [0] ⟨⟨_,rfl,BV⟩,trivial⟩ ⟨lv,lv,lv,lv,lv,lv,lv,lv,lv,lv,lv,trivial⟩)
    ·rw [B3 hc45] at hj15
     rw [hc45];refine AB (n:=91) he 1 [(0,.v (.int .i64 x0)),(1,.sl 1 (x1.map cdI.enc)),(7,.v (.int .i64 c5)),(8,.v (.bool c6)),(9,.v (.bool c7)),(10,.rf 0 0 c8.length c8.length),(11,.v (.int .i64 c9)),(12,.sl 1 (v11.map cdI.enc)),(27,.sl 1 (x2.map (cdL 1 cdI).enc)),(28,.v (.int .i64 (x2.length:Int))),(29,.v (.int .i64 c9)),(37,.v (.bool false)),(38,.sl 1 (x1.map cdI.enc))] [some ⟨1,4,(c8.map cdB.enc),false⟩] kr ?_;refine AI he 0 rfl (Bd kr rfl (Ca (a:= .sl 1 (x1.map cdI.enc)) kr (Bb (el:=3) kr))) ?_;refine AB (n:=91) he 2 [(0,.v (.int .i64 x0)),(1,.sl 1 (x1.map cdI.enc)),(7,.v (.int .i64 c5)),(8,.v (.bool c6)),(9,.v (.bool c7)),(10,.rf 0 0 c8.length c8.length),(11,.v (.int .i64 c9)),(12,.sl 1 (v11.map cdI.enc)),(27,.sl 1 (x2.map (cdL 1 cdI).enc)),(28,.v (.int .i64 (x2.length:Int))),(29,.v (.int .i64 c9)),(37,.v (.bool false)),(38,.sl 1 (x1.map cdI.enc)),(39,.v (.int .i64 (x1.length:Int))),(40,.v (.bool (decide ((x1.length:Int) > 0)))),(41,.v (.bool (decide ((x1.length:Int) > 0))))] [some ⟨1,4,(c8.map cdB.enc),false⟩] kr ?_;rcases BE (decide ((x1.length:Int) > 0)) with hc46 | hc46
     ·rw [if_pos hc46] at hj15
      rw [hc46];refine AB (n:=91) he 1 [(0,.v (.int .i64 x0)),(1,.sl 1 (x1.map cdI.enc)),(7,.v (.int .i64 c5)),(8,.v (.bool c6)),(9,.v (.bool c7)),(10,.rf 0 0 c8.length c8.length),(11,.v (.int .i64 c9)),(12,.sl 1 (v11.map cdI.enc)),(27,.sl 1 (x2.map (cdL 1 cdI).enc)),(28,.v (.int .i64 (x2.length:Int))),(29,.v (.int .i64 c9)),(37,.v (.bool false)),(38,.sl 1 (x1.map cdI.enc)),(39,.v (.int .i64 (x1.length:Int))),(40,.v (.bool true)),(41,.v (.bool true)),(42,.sl 1 (v11.map cdI.enc))] [some ⟨1,4,(c8.map cdB.enc),false⟩] kr ?_;refine AI he 0 rfl (Bd kr rfl (Ca (a:= .sl 1 (v11.map cdI.enc)) kr (Bb (el:=3) kr))) ?_;refine AB (n:=91) he 2 [(0,.v (.int .i64 x0)),(1,.sl 1 (x1.map cdI.enc)),(7,.v (.int .i64 c5)),(8,.v (.bool c6)),(9,.v (.bool c7)),(10,.rf 0 0 c8.length c8.length),(12,.sl 1 (v11.map cdI.enc)),(27,.sl 1 (x2.map (cdL 1 cdI).enc)),(28,.v (.int .i64 (x2.length:Int))),(29,.v (.int .i64 c9)),(37,.v (.bool false)),(38,.sl 1 (x1.map cdI.enc)),(39,.v (.int .i64 (x1.length:Int))),(40,.v (.bool true)),(41,.v (.bool true)),(42,.sl 1 (v11.map cdI.enc)),(43,.v (.int .i64 (v11.length:Int))),(44,.sl 1 (x1.map cdI.enc)),(45,.v (.int .i64 c9))] [some ⟨1,4,(c8.map cdB.enc),false⟩] kr ?_;obtain ⟨v12,hv12,hj15⟩:=OB hj15;refine AI he 0 rfl (Bd kr rfl (AR (a:= .sl 1 (x1.map cdI.enc)) (b:= .v (.int .i64 c9)) kr kr (F9 (e:=cdI.enc) (el:=3) (k:=1) (ki:= .i64) kr kr hv12))) ?_;refine AB (n:=91) he 4 [(0,.v (.int .i64 x0)),(1,.sl 1 (x1.map cdI.enc)),(7,.v (.int .i64 c5)),(8,.v (.bool c6)),(9,.v (.bool c7)),(10,.rf 0 0 c8.length c8.length),(12,.sl 1 (v11.map cdI.enc)),(27,.sl 1 (x2.map (cdL 1 cdI).enc)),(28,.v (.int .i64 (x2.length:Int))),(29,.v (.int .i64 c9)),(38,.sl 1 (x1.map cdI.enc)),(39,.v (.int .i64 (x1.length:Int))),(40,.v (.bool true)),(41,.v (.bool true)),(42,.sl 1 (v11.map cdI.enc)),(43,.v (.int .i64 (v11.length:Int))),(44,.sl 1 (x1.map cdI.enc)),(45,.v (.int .i64 c9)),(46,.pe (.v (.int .i64 v12)) 0),(47,.v (.int .i64 v12)),(48,.v (.bool ((v11.length:Int)!=v12))),(49,.v (.bool ((v11.length:Int)!=v12))),(50,.v (.bool ((v11.length:Int)!=v12)))] [some ⟨1,4,(c8.map cdB.enc),false⟩] kr ?_
      have hq:=OI hj15; subst hq;exact AH rfl (A6 [0] ⟨⟨_,rfl,BV⟩,trivial⟩ ⟨lv,lv,lv,lv,lv,lv,lv,lv,lv,lv,lv,trivial⟩)
     ·rw [B3 hc46] at hj15
      rw [hc46];refine AB (n:=91) he 9 [(0,.v (.int .i64 x0)),(1,.sl 1 (x1.map cdI.enc)),(7,.v (.int .i64 c5)),(8,.v (.bool c6)),(9,.v (.bool c7)),(10,.rf 0 0 c8.length c8.length),(12,.sl 1 (v11.map cdI.enc)),(27,.sl 1 (x2.map (cdL 1 cdI).enc)),(28,.v (.int .i64 (x2.length:Int))),(29,.v (.int .i64 c9)),(38,.sl 1 (x1.map cdI.enc)),(39,.v (.int .i64 (x1.length:Int))),(40,.v (.bool false)),(41,.v (.bool false)),(42,.tp []),(43,.tp []),(44,.tp []),(45,.tp []),(46,.tp []),(47,.tp []),(48,.tp []),(49,.v (.bool false)),(50,.v (.bool false))] [some ⟨1,4,(c8.map cdB.enc),false⟩] kr ?_;have hq:=OI hj15; subst hq;exact AH rfl (A6 [0] ⟨⟨_,rfl,BV⟩,trivial⟩ ⟨lv,lv,lv,lv,lv,lv,lv,lv,lv,lv,lv,trivial⟩)
   refine AP (b:=j15.2) kr (fun hb16=>?_) (fun hb16=>?_)
   ·rw [if_pos hb16] at h
    refine AC ?_;refine AE (s1:=⟨Fr 91 [(6,.v (.int .i64 2))],[]⟩) ?_ ?_
    ·refine AB (n:=91) he 1 [(6,.v (.int .i64 2))] [some ⟨1,4,(j15.1.map cdB.enc),false⟩] kr ?_
     exact AH rfl (A6 [] trivial ⟨lv,trivial⟩)
    refine AS ?_;have hq:=OI h; subst hq;exact ⟨rfl,AM⟩
   ·rw [B3 hb16] at h
    refine AT ?_;refine AC ?_;refine AE (s1:=⟨Fr 91 [(0,.v (.int .i64 x0)),(1,.sl 1 (x1.map cdI.enc)),(7,.v (.int .i64 c5)),(8,.v (.bool c6)),(9,.v (.bool c7)),(10,.rf 0 0 j15.1.length j15.1.length),(27,.sl 1 (x2.map (cdL 1 cdI).enc)),(28,.v (.int .i64 (x2.length:Int))),(29,.v (.int .i64 c9)),(51,.sl 1 (v11.map cdI.enc)),(52,.v (.int .i64 (v11.length:Int))),(53,.v (.int .i64 0))],[some ⟨1,4,(j15.1.map cdB.enc),false⟩]⟩) ?_ ?_
    ·refine AB (n:=91) he 1 [(0,.v (.int .i64 x0)),(1,.sl 1 (x1.map cdI.enc)),(7,.v (.int .i64 c5)),(8,.v (.bool c6)),(9,.v (.bool c7)),(10,.rf 0 0 j15.1.length j15.1.length),(27,.sl 1 (x2.map (cdL 1 cdI).enc)),(28,.v (.int .i64 (x2.length:Int))),(29,.v (.int .i64 c9)),(51,.sl 1 (v11.map cdI.enc))] [some ⟨1,4,(j15.1.map cdB.enc),false⟩] kr ?_
     refine AI he 0 rfl (Bd (AA rfl) rfl (Ca (a:= .sl 1 (v11.map cdI.enc)) kr (Bb (el:=3) kr))) ?_;exact AJ he
    refine AW ?_;obtain ⟨r44,hr44,h⟩:=OB h;refine Cg (n:=100000) ?_;refine BF (Ak (s1:=⟨Fr 91 [(0,.v (.int .i64 x0)),(1,.sl 1 (x1.map cdI.enc)),(7,.v (.int .i64 c5)),(8,.v (.bool c6)),(9,.v (.bool c7)),(10,.rf 0 0 j15.1.length j15.1.length),(27,.sl 1 (x2.map (cdL 1 cdI).enc)),(28,.v (.int .i64 (x2.length:Int))),(29,.v (.int .i64 c9)),(51,.sl 1 (v11.map cdI.enc)),(52,.v (.int .i64 (v11.length:Int))),(53,.v (.int .i64 0))],[some ⟨1,4,(j15.1.map cdB.enc),false⟩]⟩) (A6 [0] ⟨⟨_,rfl,BV⟩,trivial⟩ ⟨lv,lv,lv,lv,lv,lv,lv,lv,lv,lv,lv,lv,trivial⟩) (Hb x0 x1 x2 c9 v11 _ c5 c6 c7 j15.1 0 _ hr44)) ?_;refine C4 he [(0,.v (.int .i64 x0)),(1,.sl 1 (x1.map cdI.enc)),(7,.v (.int .i64 r44.1)),(8,.v (.bool r44.2.1)),(9,.v (.bool r44.2.2.1)),(10,.rf 0 0 r44.2.2.2.length r44.2.2.2.length),(27,.sl 1 (x2.map (cdL 1 cdI).enc)),(28,.v (.int .i64 (x2.length:Int))),(29,.v (.int .i64 (wr .i64 (c9 + 1))))] [some ⟨1,4,(r44.2.2.2.map cdB.enc),false⟩] ?_;exact Ak (s1:=⟨Fr 91 [(0,.v (.int .i64 x0)),(1,.sl 1 (x1.map cdI.enc)),(7,.v (.int .i64 r44.1)),(8,.v (.bool r44.2.1)),(9,.v (.bool r44.2.2.1)),(10,.rf 0 0 r44.2.2.2.length r44.2.2.2.length),(27,.sl 1 (x2.map (cdL 1 cdI).enc)),(28,.v (.int .i64 (x2.length:Int))),(29,.v (.int .i64 (wr .i64 (c9 + 1))))],[some ⟨1,4,(r44.2.2.2.map cdB.enc),false⟩]⟩) (A6 [0] ⟨⟨_,rfl,BV⟩,trivial⟩ ⟨lv,lv,lv,lv,lv,lv,lv,lv,lv,trivial⟩) (ih r44.1 r44.2.1 r44.2.2.1 r44.2.2.2 (wr .i64 (c9 + 1)) h)
  ·rw [B3 hb10] at h
   refine CT ?_;have hq:=OI h; subst hq;exact ⟨rfl,(A6 [] trivial ⟨lv,lv,lv,lv,trivial⟩)⟩
theorem Hz (x0:Int) (x1:(List Int)) (x2:(List (List Int))) (r:Int) (h:BN x0 x1 x2=some r):Sem An ⟨none,false⟩ CY ⟨Fr 91 (At 0 (DA.enc (x0,x1,x2,()))),[]⟩ fun e s'=>(e = .normal\/e = .ret)/\∃ xs,EM An.P s'.fr s'.hp Tryd.f28.results.toList=some xs/\Ef xs=DF r:=by
 have he:=Bw
 unfold BN at h;refine BQ (CO (s1:=⟨Fr 91 [(0,.v (.int .i64 x0)),(1,.sl 1 (x1.map cdI.enc)),(2,.sl 1 (x2.map (cdL 1 cdI).enc))],[]⟩) AM ?_);refine AL he [(0,.v (.int .i64 x0)),(1,.sl 1 (x1.map cdI.enc)),(2,.sl 1 (x2.map (cdL 1 cdI).enc))] [] ?_;refine AC ?_;refine AC ?_;obtain ⟨j2,hj2,h⟩:=OB h;refine AE (s1:=⟨Fr 91 [(0,.v (.int .i64 x0)),(1,.sl 1 (x1.map cdI.enc)),(2,.sl 1 (x2.map (cdL 1 cdI).enc)),(24,.v (.bool j2))],[]⟩) ?_ ?_
 ·refine AB (n:=91) he 1 [(0,.v (.int .i64 x0)),(1,.sl 1 (x1.map cdI.enc)),(2,.sl 1 (x2.map (cdL 1 cdI).enc)),(15,.sl 1 (x1.map cdI.enc))] [] kr ?_
  refine AI he 0 rfl (Bd (AA rfl) rfl (Ca (a:= .sl 1 (x1.map cdI.enc)) kr (Bb (el:=3) kr))) ?_;refine AB (n:=91) he 2 [(0,.v (.int .i64 x0)),(1,.sl 1 (x1.map cdI.enc)),(2,.sl 1 (x2.map (cdL 1 cdI).enc)),(18,.v (.bool (decide ((x1.length:Int) > 0))))] [] kr ?_;rcases BE (decide ((x1.length:Int) > 0)) with hc56 | hc56
  ·rw [if_pos hc56] at hj2
   rw [hc56];refine AB (n:=91) he 1 [(0,.v (.int .i64 x0)),(1,.sl 1 (x1.map cdI.enc)),(2,.sl 1 (x2.map (cdL 1 cdI).enc)),(18,.v (.bool true)),(19,.sl 1 (x1.map cdI.enc))] [] kr ?_;refine AI he 0 rfl (Bd kr rfl (Ca (a:= .sl 1 (x1.map cdI.enc)) kr (Bb (el:=3) kr))) ?_;refine AB (n:=91) he 1 [(0,.v (.int .i64 x0)),(1,.sl 1 (x1.map cdI.enc)),(2,.sl 1 (x2.map (cdL 1 cdI).enc)),(18,.v (.bool true)),(20,.v (.int .i64 (x1.length:Int))),(21,.sl 1 (x2.map (cdL 1 cdI).enc))] [] kr ?_;refine AI he 0 rfl (Bd kr rfl (Ca (a:= .sl 1 (x2.map (cdL 1 cdI).enc)) kr (Bb (el:=27) kr))) ?_;refine AB (n:=91) he 2 [(0,.v (.int .i64 x0)),(1,.sl 1 (x1.map cdI.enc)),(2,.sl 1 (x2.map (cdL 1 cdI).enc)),(24,.v (.bool ((x1.length:Int)!=(x2.length:Int))))] [] kr ?_;have hq:=OI hj2; subst hq;exact AH rfl AM
  ·rw [B3 hc56] at hj2
   rw [hc56];refine AB (n:=91) he 6 [(0,.v (.int .i64 x0)),(1,.sl 1 (x1.map cdI.enc)),(2,.sl 1 (x2.map (cdL 1 cdI).enc)),(24,.v (.bool false))] [] kr ?_;have hq:=OI hj2; subst hq;exact AH rfl AM
 refine AP (b:=j2) kr (fun hb3=>?_) (fun hb3=>?_)
 ·rw [if_pos hb3] at h
  refine AL he [(6,.v (.int .i64 2))] [] ?_;refine AS ?_;have hq:=OI h; subst hq;exact ⟨⟨Fr 91 [(6,.v (.int .i64 2))],[]⟩,AM,.inr rfl,[.v (.int .i64 2)],kr,kr⟩
 ·rw [B3 hb3] at h
  refine AT ?_;refine AL he [(0,.v (.int .i64 x0)),(1,.sl 1 (x1.map cdI.enc)),(2,.sl 1 (x2.map (cdL 1 cdI).enc)),(7,.v (.int .i64 0)),(8,.v (.bool false)),(9,.v (.bool false))] [] ?_;refine AC ?_;by_cases hk4:(LI 1 x0)=true
  case neg=>rw [if_neg hk4] at h; cases h
  rw [if_pos hk4] at h;refine AE (s1:=⟨Fr 91 [(0,.v (.int .i64 x0)),(1,.sl 1 (x1.map cdI.enc)),(2,.sl 1 (x2.map (cdL 1 cdI).enc)),(7,.v (.int .i64 0)),(8,.v (.bool false)),(9,.v (.bool false)),(10,.rf 0 0 (List.replicate x0.toNat false).length (List.replicate x0.toNat false).length)],[some ⟨1,4,((List.replicate x0.toNat false).map cdB.enc),false⟩]⟩) ?_ ?_
  ·refine AB (n:=91) he 1 [(0,.v (.int .i64 x0)),(1,.sl 1 (x1.map cdI.enc)),(2,.sl 1 (x2.map (cdL 1 cdI).enc)),(7,.v (.int .i64 0)),(8,.v (.bool false)),(9,.v (.bool false)),(25,.v (.int .i64 x0))] [] kr ?_
   refine AI he 0 rfl (Qc (AA rfl) rfl kr (N5 (x:= .v (.int .i64 x0)) (y:= .v (.int .i64 x0)) kr kr (Pd (c:=cdB) (z:=false) (k:=1) (bytes:=1) (el:=4) kr kr hk4))) ?_;exact AJ he
  refine AC ?_;refine AC ?_;refine AE (s1:=⟨Fr 91 [(0,.v (.int .i64 x0)),(1,.sl 1 (x1.map cdI.enc)),(7,.v (.int .i64 0)),(8,.v (.bool false)),(9,.v (.bool false)),(10,.rf 0 0 (List.replicate x0.toNat false).length (List.replicate x0.toNat false).length),(27,.sl 1 (x2.map (cdL 1 cdI).enc)),(28,.v (.int .i64 (x2.length:Int))),(29,.v (.int .i64 0))],[some ⟨1,4,((List.replicate x0.toNat false).map cdB.enc),false⟩]⟩) ?_ ?_
  ·refine AB (n:=91) he 1 [(0,.v (.int .i64 x0)),(1,.sl 1 (x1.map cdI.enc)),(7,.v (.int .i64 0)),(8,.v (.bool false)),(9,.v (.bool false)),(10,.rf 0 0 (List.replicate x0.toNat false).length (List.replicate x0.toNat false).length),(27,.sl 1 (x2.map (cdL 1 cdI).enc))] [some ⟨1,4,((List.replicate x0.toNat false).map cdB.enc),false⟩] kr ?_
   refine AI he 0 rfl (Bd (AA rfl) rfl (Ca (a:= .sl 1 (x2.map (cdL 1 cdI).enc)) kr (Bb (el:=27) kr))) ?_;exact AJ he
  refine AW ?_;obtain ⟨r50,hr50,h⟩:=OB h;refine Cg (n:=100000) ?_;rcases r50 with w51 | w55
  ·try dsimp only at h
   refine BF (Ak (s1:=⟨Fr 91 [(0,.v (.int .i64 x0)),(1,.sl 1 (x1.map cdI.enc)),(7,.v (.int .i64 0)),(8,.v (.bool false)),(9,.v (.bool false)),(10,.rf 0 0 (List.replicate x0.toNat false).length (List.replicate x0.toNat false).length),(27,.sl 1 (x2.map (cdL 1 cdI).enc)),(28,.v (.int .i64 (x2.length:Int))),(29,.v (.int .i64 0))],[some ⟨1,4,((List.replicate x0.toNat false).map cdB.enc),false⟩]⟩) (A6 [0] ⟨⟨_,rfl,BV⟩,trivial⟩ ⟨lv,lv,lv,lv,lv,lv,lv,lv,lv,trivial⟩) (E5 x0 x1 x2 _ 0 false false (List.replicate x0.toNat false) 0 _ hr50)) ?_;refine AC ?_;refine AW ?_;refine AL he [(0,.v (.int .i64 x0)),(7,.v (.int .i64 w51.1)),(8,.v (.bool w51.2.1)),(83,.v (.bool w51.2.2))] [] ?_;refine AP (b:=w51.2.2) kr (fun hb52=>?_) (fun hb52=>?_)
   ·rw [if_pos hb52] at h
    refine AL he [(6,.v (.int .i64 6))] [] ?_;refine AS ?_;have hq:=OI h; subst hq;exact ⟨⟨Fr 91 [(6,.v (.int .i64 6))],[]⟩,AM,.inr rfl,[.v (.int .i64 6)],kr,kr⟩
   ·rw [B3 hb52] at h
    refine AL he [(0,.v (.int .i64 x0)),(7,.v (.int .i64 w51.1)),(85,.v (.bool w51.2.1))] [] ?_;refine AP (b:=w51.2.1) kr (fun hb53=>?_) (fun hb53=>?_)
    ·rw [if_pos hb53] at h
     refine AL he [(6,.v (.int .i64 5))] [] ?_;refine AS ?_;have hq:=OI h; subst hq;exact ⟨⟨Fr 91 [(6,.v (.int .i64 5))],[]⟩,AM,.inr rfl,[.v (.int .i64 5)],kr,kr⟩
    ·rw [B3 hb53] at h
     refine AL he [(87,.v (.bool (decide (w51.1 < x0))))] [] ?_;refine AP (b:=(decide (w51.1 < x0))) kr (fun hb54=>?_) (fun hb54=>?_)
     ·rw [if_pos hb54] at h
      refine AL he [(6,.v (.int .i64 2))] [] ?_;refine AS ?_;have hq:=OI h; subst hq;exact ⟨⟨Fr 91 [(6,.v (.int .i64 2))],[]⟩,AM,.inr rfl,[.v (.int .i64 2)],kr,kr⟩
     ·rw [B3 hb54] at h
      refine AT ?_;refine AL he [(6,.v (.int .i64 0))] [] ?_;refine AS ?_;have hq:=OI h; subst hq;exact ⟨⟨Fr 91 [(6,.v (.int .i64 0))],[]⟩,AM,.inr rfl,[.v (.int .i64 0)],kr,kr⟩
  ·try dsimp only at h
   refine BF (Ak (s1:=⟨Fr 91 [(0,.v (.int .i64 x0)),(1,.sl 1 (x1.map cdI.enc)),(7,.v (.int .i64 0)),(8,.v (.bool false)),(9,.v (.bool false)),(10,.rf 0 0 (List.replicate x0.toNat false).length (List.replicate x0.toNat false).length),(27,.sl 1 (x2.map (cdL 1 cdI).enc)),(28,.v (.int .i64 (x2.length:Int))),(29,.v (.int .i64 0))],[some ⟨1,4,((List.replicate x0.toNat false).map cdB.enc),false⟩]⟩) (A6 [0] ⟨⟨_,rfl,BV⟩,trivial⟩ ⟨lv,lv,lv,lv,lv,lv,lv,lv,lv,trivial⟩) (E5 x0 x1 x2 _ 0 false false (List.replicate x0.toNat false) 0 _ hr50)) ?_;have hq:=OI h; subst hq;exact ⟨⟨Fr 91 [(6,.v (.int .i64 w55))],[]⟩,AM,.inr rfl,[.v (.int .i64 w55)],kr,kr⟩
def Gb:List AV->Option AV:=Ea DA (fun a=>BN a.1 a.2.1 a.2.2.1) DF
theorem Es:XOk 28 Gb:=by
 refine EnvOk.x (E:=An) (BY Bw (fn:=Tryd.f28) (c:=CY) ?h1 ?h2 ⟨Tryd.call28⟩ DA (fun a=>BN a.1 a.2.1 a.2.2.1) DF (fun a=>(by show 3<=91; decide)) ?h3 ?h4) rfl rfl
 case h1=>kernel_rfl
 case h2=>kernel_rfl
 case h3=>intro b; kernel_rfl
 case h4=>exact fun a b h=>Hz a.1 a.2.1 a.2.2.1 b h
/- trestle/evening.Check -/
noncomputable def Bh:Env:=(((E0.withX 25 EO).withX 42 Hl).withX 28 Gb)
theorem DT:EnvOk Bh:=(EnvOk.withX (EnvOk.withX (EnvOk.withX AD Cb.1 Cb.2) Ht.1 Ht.2) Es.1 Es.2)
noncomputable def EA:Code:=BW Tryd.f45
def A8 (x0:Int) (x1:(List Int)) (x2:(List (List (List Int)))):Nat->Int->Option ((Unit) ⊕ (Int×Int))
 | 0,_=>none
 | f + 1,c7 =>
  if (decide (c7 < (x2.length:Int)))=true then
  (idx x2 c7).bind fun v9 =>
  (BN x0 x1 v9).bind fun v10 =>
  if (v10 != 0)=true then
  some (.inr (c7,v10))
  else
  A8 x0 x1 x2 f (wr .i64 (c7 + 1))
  else
  some (.inl ())
def CW (x0:Int) (x1:(List Int)) (x2:(List (List (List Int)))):Option (Int×Int) :=
 (Aj x0).bind fun v1 =>
 (if (!v1)=true then some true else if (decide ((x1.length:Int) > 0))=true then (Dm x0 x1).bind fun v2 =>
 some (!v2) else some false).bind fun j4 =>
 if j4=true then
 some (0,90)
 else
 if (decide ((x2.length:Int) > 64))=true then
 some (0,7)
 else
 (A8 x0 x1 x2 100000 0).bind fun r14 =>
 match r14 with
 | (.inl w15) =>
  some (0,0)
 | (.inr w16) =>
  some (w16.1,w16.2)
def C9:Cs (Int×(List Int)×(List (List (List Int)))×Unit):=(csC cdI (csC (cdL 1 cdI) (csC (cdL 1 (cdL 1 (cdL 1 cdI))) csN)))
def DE (r:Int×Int):AV:= .tp [cdI.enc r.1,cdI.enc r.2]
theorem E4 (x0:Int) (x1:(List Int)) (x2:(List (List (List Int)))):∀ (f:Nat) (c7:Int) (r:(Unit) ⊕ (Int×Int)),A8 x0 x1 x2 f c7=some r->SemN Bh ⟨none,false⟩ (pc EA [1,1,0,1,0,0]) f ⟨Fr 46 [(0,.v (.int .i64 x0)),(1,.sl 1 (x1.map cdI.enc)),(30,.sl 1 (x2.map (cdL 1 (cdL 1 cdI)).enc)),(31,.v (.int .i64 (x2.length:Int))),(32,.v (.int .i64 c7))],[]⟩ (fun e s=>match r with
 | (.inl w)=>e=(.exit 1)/\Wk Bh s ⟨Fr 46 [],[]⟩
 | (.inr w)=>e = .ret/\Wk Bh s ⟨Fr 46 [(6,.v (.int .i64 w.1)),(7,.v (.int .i64 w.2))],[]⟩):=by
 have he:=DT
 intro f;induction f with
 | zero=>intro c7 r h; cases h
 | succ f ih0 =>
  intro c7 r h
  have ih:=fun (c7:Int)=>ih0 c7 r
  unfold A8 at h;refine Bt ?_
  let p1:Nat×AV:=(32,.v (.int .i64 c7))
  let p2:Nat×AV:=(31,.v (.int .i64 (x2.length:Int)))
  let p3:Nat×AV:=(30,.sl 1 (x2.map (cdL 1 (cdL 1 cdI)).enc))
  let p4:Nat×AV:=(1,.sl 1 (x1.map cdI.enc))
  let p5:Nat×AV:=(0,.v (.int .i64 x0))
  refine AL he [p5,p4,p3,p2,p1,(33,.v (.bool (decide (c7 < (x2.length:Int)))))] [] ?_;refine AC ?_;refine AP (b:=(decide (c7 < (x2.length:Int)))) kr (fun hb8=>?_) (fun hb8=>?_)
  ·rw [if_pos hb8] at h
   refine AT ?_;refine AC ?_;refine AW ?_;refine AC ?_;obtain ⟨v9,hv9,h⟩:=OB h
   let p6:Nat×AV:=(8,.v (.int .i64 c7))
   refine AE (s1:=⟨Fr 46 [p5,p4,p6,(9,.sl 1 (v9.map (cdL 1 cdI).enc)),p3,p2,p1],[]⟩) ?_ ?_
   ·refine AB (n:=46) he 1 [p5,p4,p3,p2,p1,(34,.v (.int .i64 c7))] [] kr ?_
    refine AI he 0 rfl (Bd (AA rfl) rfl (AR (a:= .sl 1 (x2.map (cdL 1 (cdL 1 cdI)).enc)) (b:= .v (.int .i64 c7)) kr kr (F9 (e:=(cdL 1 (cdL 1 cdI)).enc) (el:=43) (k:=1) (ki:= .i64) kr kr hv9))) ?_;exact AJ he
   refine AC ?_;obtain ⟨v10,hv10,h⟩:=OB h;refine AE (s1:=⟨Fr 46 [p5,p4,p6,(10,.v (.int .i64 v10)),p3,p2,p1],[]⟩) ?_ ?_
   ·refine AB (n:=46) he 3 [p5,p4,p6,p3,p2,p1,(37,.v (.int .i64 x0)),(38,.sl 1 (x1.map cdI.enc)),(39,.sl 1 (v9.map (cdL 1 cdI).enc))] [] kr ?_
    refine RunS.call he (fid:=28) (s:=DA) (F:=fun a=>BN a.1 a.2.1 a.2.2.1) (er:=DF) (xs:=[.v (.int .i64 x0),.sl 1 (x1.map cdI.enc),.sl 1 (v9.map (cdL 1 cdI).enc)]) (a:=(x0,x1,v9,())) rfl (AA rfl) kr kr kr kr (Sns.cons (Sn.enc (c:=cdI) (v:=x0)) (Sns.cons (Sn.enc (c:=(cdL 1 cdI)) (v:=x1)) (Sns.cons (Sn.enc (c:=(cdL 1 (cdL 1 cdI))) (v:=v9)) Sns.nil))) (.inl kr) hv10 ?_;exact AJ he
   refine AL he [p5,p4,p6,(10,.v (.int .i64 v10)),p3,p2,p1,(42,.v (.bool (v10 != 0)))] [] ?_;refine AP (b:=(v10 != 0)) kr (fun hb11=>?_) (fun hb11=>?_)
   ·rw [if_pos hb11] at h
    refine AL he [(6,.v (.int .i64 c7)),(7,.v (.int .i64 v10))] [] ?_;refine AS ?_;have hq:=OI h; subst hq;exact ⟨rfl,AM⟩
   ·rw [B3 hb11] at h
    refine AT ?_
    let p7:Nat×AV:=(32,.v (.int .i64 (wr .i64 (c7 + 1))))
    refine C4 he [p5,p4,p3,p2,p7] [] ?_;exact Ak (s1:=⟨Fr 46 [p5,p4,p3,p2,p7],[]⟩) AM (ih (wr .i64 (c7 + 1)) h)
  ·rw [B3 hb8] at h
   refine CT ?_;have hq:=OI h; subst hq;exact ⟨rfl,AM⟩
theorem Hx (x0:Int) (x1:(List Int)) (x2:(List (List (List Int)))) (r:Int×Int) (h:CW x0 x1 x2=some r):Sem Bh ⟨none,false⟩ EA ⟨Fr 46 (At 0 (C9.enc (x0,x1,x2,()))),[]⟩ fun e s'=>(e = .normal\/e = .ret)/\∃ xs,EM Bh.P s'.fr s'.hp Tryd.f45.results.toList=some xs/\Ef xs=DE r:=by
 have he:=DT
 unfold CW at h;refine BQ (CO (s1:=⟨Fr 46 [(0,.v (.int .i64 x0)),(1,.sl 1 (x1.map cdI.enc)),(2,.sl 1 (x2.map (cdL 1 (cdL 1 cdI)).enc))],[]⟩) AM ?_);refine AL he [(0,.v (.int .i64 x0)),(1,.sl 1 (x1.map cdI.enc)),(2,.sl 1 (x2.map (cdL 1 (cdL 1 cdI)).enc))] [] ?_;refine AC ?_;refine AW ?_;refine AC ?_;obtain ⟨v1,hv1,h⟩:=OB h;obtain ⟨j4,hj4,h⟩:=OB h;refine AE (s1:=⟨Fr 46 [(0,.v (.int .i64 x0)),(1,.sl 1 (x1.map cdI.enc)),(2,.sl 1 (x2.map (cdL 1 (cdL 1 cdI)).enc)),(11,.v (.bool j4))],[]⟩) ?_ ?_
 ·refine AB (n:=46) he 1 [(0,.v (.int .i64 x0)),(1,.sl 1 (x1.map cdI.enc)),(2,.sl 1 (x2.map (cdL 1 (cdL 1 cdI)).enc)),(12,.v (.int .i64 x0))] [] kr ?_
  refine RunS.call he (fid:=25) (s:=CH) (F:=fun a=>Aj a.1) (er:=CJ) (xs:=[.v (.int .i64 x0)]) (a:=(x0,())) rfl (AA rfl) kr kr kr kr (Sns.cons (Sn.enc (c:=cdI) (v:=x0)) Sns.nil) (.inl kr) hv1 ?_;refine AB (n:=46) he 2 [(0,.v (.int .i64 x0)),(1,.sl 1 (x1.map cdI.enc)),(2,.sl 1 (x2.map (cdL 1 (cdL 1 cdI)).enc)),(15,.v (.bool (!v1)))] [] kr ?_;rcases BE (!v1) with hc17 | hc17
  ·rw [if_pos hc17] at hj4
   rw [hc17];refine AB (n:=46) he 11 [(0,.v (.int .i64 x0)),(1,.sl 1 (x1.map cdI.enc)),(2,.sl 1 (x2.map (cdL 1 (cdL 1 cdI)).enc)),(11,.v (.bool true))] [] kr ?_;have hq:=OI hj4; subst hq;exact AH rfl AM
  ·rw [B3 hc17] at hj4
   rw [hc17];refine AB (n:=46) he 1 [(0,.v (.int .i64 x0)),(1,.sl 1 (x1.map cdI.enc)),(2,.sl 1 (x2.map (cdL 1 (cdL 1 cdI)).enc)),(15,.v (.bool false)),(16,.sl 1 (x1.map cdI.enc))] [] kr ?_;refine AI he 0 rfl (Bd kr rfl (Ca (a:= .sl 1 (x1.map cdI.enc)) kr (Bb (el:=3) kr))) ?_;refine AB (n:=46) he 2 [(0,.v (.int .i64 x0)),(1,.sl 1 (x1.map cdI.enc)),(2,.sl 1 (x2.map (cdL 1 (cdL 1 cdI)).enc)),(15,.v (.bool false)),(19,.v (.bool (decide ((x1.length:Int) > 0))))] [] kr ?_;rcases BE (decide ((x1.length:Int) > 0)) with hc18 | hc18
   ·rw [if_pos hc18] at hj4
    rw [hc18];refine AB (n:=46) he 2 [(0,.v (.int .i64 x0)),(1,.sl 1 (x1.map cdI.enc)),(2,.sl 1 (x2.map (cdL 1 (cdL 1 cdI)).enc)),(15,.v (.bool false)),(19,.v (.bool true)),(20,.v (.int .i64 x0)),(21,.sl 1 (x1.map cdI.enc))] [] kr ?_;obtain ⟨v2,hv2,hj4⟩:=OB hj4;refine RunS.call he (fid:=42) (s:=Du) (F:=fun a=>Dm a.1 a.2.1) (er:=Dx) (xs:=[.v (.int .i64 x0),.sl 1 (x1.map cdI.enc)]) (a:=(x0,x1,())) rfl kr kr kr kr kr (Sns.cons (Sn.enc (c:=cdI) (v:=x0)) (Sns.cons (Sn.enc (c:=(cdL 1 cdI)) (v:=x1)) Sns.nil)) (.inl kr) hv2 ?_;refine AB (n:=46) he 4 [(0,.v (.int .i64 x0)),(1,.sl 1 (x1.map cdI.enc)),(2,.sl 1 (x2.map (cdL 1 (cdL 1 cdI)).enc)),(11,.v (.bool (!v2)))] [] kr ?_;have hq:=OI hj4; subst hq;exact AH rfl AM
   ·rw [B3 hc18] at hj4
    rw [hc18];refine AB (n:=46) he 7 [(0,.v (.int .i64 x0)),(1,.sl 1 (x1.map cdI.enc)),(2,.sl 1 (x2.map (cdL 1 (cdL 1 cdI)).enc)),(11,.v (.bool false))] [] kr ?_;have hq:=OI hj4; subst hq;exact AH rfl AM
 refine AP (b:=j4) kr (fun hb5=>?_) (fun hb5=>?_)
 ·rw [if_pos hb5] at h
  refine AL he [(6,.v (.int .i64 0)),(7,.v (.int .i64 90))] [] ?_;refine AS ?_;have hq:=OI h; subst hq;exact ⟨⟨Fr 46 [(6,.v (.int .i64 0)),(7,.v (.int .i64 90))],[]⟩,AM,.inr rfl,[.v (.int .i64 0),.v (.int .i64 90)],kr,kr⟩
 ·rw [B3 hb5] at h
  refine AC ?_;refine AE (s1:=⟨Fr 46 [(0,.v (.int .i64 x0)),(1,.sl 1 (x1.map cdI.enc)),(2,.sl 1 (x2.map (cdL 1 (cdL 1 cdI)).enc)),(26,.v (.bool (decide ((x2.length:Int) > 64))))],[]⟩) ?_ ?_
  ·refine AB (n:=46) he 1 [(0,.v (.int .i64 x0)),(1,.sl 1 (x1.map cdI.enc)),(2,.sl 1 (x2.map (cdL 1 (cdL 1 cdI)).enc)),(27,.sl 1 (x2.map (cdL 1 (cdL 1 cdI)).enc))] [] kr ?_
   refine AI he 0 rfl (Bd (AA rfl) rfl (Ca (a:= .sl 1 (x2.map (cdL 1 (cdL 1 cdI)).enc)) kr (Bb (el:=43) kr))) ?_;exact AJ he
  refine AP (b:=(decide ((x2.length:Int) > 64))) kr (fun hb6=>?_) (fun hb6=>?_)
  ·rw [if_pos hb6] at h
   refine AL he [(6,.v (.int .i64 0)),(7,.v (.int .i64 7))] [] ?_;refine AS ?_;have hq:=OI h; subst hq;exact ⟨⟨Fr 46 [(6,.v (.int .i64 0)),(7,.v (.int .i64 7))],[]⟩,AM,.inr rfl,[.v (.int .i64 0),.v (.int .i64 7)],kr,kr⟩
  ·rw [B3 hb6] at h
   refine AT ?_;refine AC ?_;refine AC ?_;refine AE (s1:=⟨Fr 46 [(0,.v (.int .i64 x0)),(1,.sl 1 (x1.map cdI.enc)),(30,.sl 1 (x2.map (cdL 1 (cdL 1 cdI)).enc)),(31,.v (.int .i64 (x2.length:Int))),(32,.v (.int .i64 0))],[]⟩) ?_ ?_
   ·refine AB (n:=46) he 1 [(0,.v (.int .i64 x0)),(1,.sl 1 (x1.map cdI.enc)),(30,.sl 1 (x2.map (cdL 1 (cdL 1 cdI)).enc))] [] kr ?_
    refine AI he 0 rfl (Bd (AA rfl) rfl (Ca (a:= .sl 1 (x2.map (cdL 1 (cdL 1 cdI)).enc)) kr (Bb (el:=43) kr))) ?_;exact AJ he
   refine AW ?_;obtain ⟨r14,hr14,h⟩:=OB h;refine Cg (n:=100000) ?_;rcases r14 with w15 | w16
   ·try dsimp only at h
    refine BF (Ak (s1:=⟨Fr 46 [(0,.v (.int .i64 x0)),(1,.sl 1 (x1.map cdI.enc)),(30,.sl 1 (x2.map (cdL 1 (cdL 1 cdI)).enc)),(31,.v (.int .i64 (x2.length:Int))),(32,.v (.int .i64 0))],[]⟩) AM (E4 x0 x1 x2 _ 0 _ hr14)) ?_;refine AL he [(6,.v (.int .i64 0)),(7,.v (.int .i64 0))] [] ?_;refine AS ?_;have hq:=OI h; subst hq;exact ⟨⟨Fr 46 [(6,.v (.int .i64 0)),(7,.v (.int .i64 0))],[]⟩,AM,.inr rfl,[.v (.int .i64 0),.v (.int .i64 0)],kr,kr⟩
   ·try dsimp only at h
    refine BF (Ak (s1:=⟨Fr 46 [(0,.v (.int .i64 x0)),(1,.sl 1 (x1.map cdI.enc)),(30,.sl 1 (x2.map (cdL 1 (cdL 1 cdI)).enc)),(31,.v (.int .i64 (x2.length:Int))),(32,.v (.int .i64 0))],[]⟩) AM (E4 x0 x1 x2 _ 0 _ hr14)) ?_;have hq:=OI h; subst hq;exact ⟨⟨Fr 46 [(6,.v (.int .i64 w16.1)),(7,.v (.int .i64 w16.2))],[]⟩,AM,.inr rfl,[.v (.int .i64 w16.1),.v (.int .i64 w16.2)],kr,kr⟩
def Ga:List AV->Option AV:=Ea C9 (fun a=>CW a.1 a.2.1 a.2.2.1) DE
theorem Gg:XOk 45 Ga:=by
 refine EnvOk.x (E:=Bh) (BY DT (fn:=Tryd.f45) (c:=EA) ?h1 ?h2 ⟨Tryd.call45⟩ C9 (fun a=>CW a.1 a.2.1 a.2.2.1) DE (fun a=>(by show 3<=46; decide)) ?h3 ?h4) rfl rfl
 case h1=>kernel_rfl
 case h2=>kernel_rfl
 case h3=>intro b; kernel_rfl
 case h4=>exact fun a b h=>Hx a.1 a.2.1 a.2.2.1 b h
/- trestle/evening.valid -/
noncomputable def DU:Env:=(E0.withX 45 Ga)
theorem E1:EnvOk DU:=(EnvOk.withX AD Gg.1 Gg.2)
noncomputable def Fs:Code:=BW Tryd.f21
def Bz (x0:Int) (x1:(List (List (List Int)))):Option (Bool) :=
 (CW x0 [] x1).bind fun v1 =>
 some (v1.2==0)
def DB:Cs (Int×(List (List (List Int)))×Unit):=(csC cdI (csC (cdL 1 (cdL 1 (cdL 1 cdI))) csN))
def DG (r:Bool):AV:=cdB.enc r
theorem H0 (x0:Int) (x1:(List (List (List Int)))) (r:Bool) (h:Bz x0 x1=some r):Sem DU ⟨none,false⟩ Fs ⟨Fr 15 (At 0 (DB.enc (x0,x1,()))),[]⟩ fun e s'=>(e = .normal\/e = .ret)/\∃ xs,EM DU.P s'.fr s'.hp Tryd.f21.results.toList=some xs/\Ef xs=DG r:=by
 have he:=E1
 unfold Bz at h
 let p1:Nat×AV:=(1,.sl 1 (x1.map (cdL 1 (cdL 1 cdI)).enc))
 refine BQ (CO (s1:=⟨Fr 15 [(0,.v (.int .i64 x0)),p1],[]⟩) AM ?_);refine AL he [(0,.v (.int .i64 x0)),p1] [] ?_;refine AC ?_;obtain ⟨v1,hv1,h⟩:=OB h;refine AE (s1:=⟨Fr 15 [(6,.v (.int .i64 v1.2))],[]⟩) ?_ ?_
 ·refine AB (n:=15) he 2 [(8,.v (.int .i64 x0)),(9,.sl 1 (x1.map (cdL 1 (cdL 1 cdI)).enc))] [] kr ?_
  refine RunS.call he (fid:=45) (s:=C9) (F:=fun a=>CW a.1 a.2.1 a.2.2.1) (er:=DE) (xs:=[.v (.int .i64 x0),.e0,.sl 1 (x1.map (cdL 1 (cdL 1 cdI)).enc)]) (a:=(x0,[],x1,())) rfl (AA rfl) kr kr kr kr (Sns.cons (Sn.enc (c:=cdI) (v:=x0)) (Sns.cons Sn.e0 (Sns.cons (Sn.enc (c:=(cdL 1 (cdL 1 (cdL 1 cdI)))) (v:=x1)) Sns.nil))) (.inl kr) hv1 ?_;exact AJ he
 refine AL he [(4,.v (.bool (v1.2==0)))] [] ?_;refine AS ?_;have hq:=OI h; subst hq;exact ⟨⟨Fr 15 [(4,.v (.bool (v1.2==0)))],[]⟩,AM,.inr rfl,[.v (.bool (v1.2==0))],kr,kr⟩
def Gc:List AV->Option AV:=Ea DB (fun a=>Bz a.1 a.2.1) DG
theorem Gi:XOk 21 Gc:=by
 refine EnvOk.x (E:=DU) (BY E1 (fn:=Tryd.f21) (c:=Fs) ?h1 ?h2 ⟨Tryd.call21⟩ DB (fun a=>Bz a.1 a.2.1) DG (fun a=>(by show 2<=15; decide)) ?h3 ?h4) rfl rfl
 case h1=>kernel_rfl
 case h2=>kernel_rfl
 case h3=>intro b; kernel_rfl
 case h4=>exact fun a b h=>H0 a.1 a.2.1 b h
/- internal/strconv.small -/
noncomputable def Ft:Code:=BW Tryd.f72
def Db (x0:Int):Option ((List UInt8)) :=
 if (decide (x0 < 10))=true then
 if (Ce x0 (wr .i64 (x0 + 1)) ([48,49,50,51,52,53,54,55,56,57,97,98,99,100,101,102,103,104,105,106,107,108,109,110,111,112,113,114,115,116,117,118,119,120,121,122]:List UInt8).length)=true then
 some ((([48,49,50,51,52,53,54,55,56,57,97,98,99,100,101,102,103,104,105,106,107,108,109,110,111,112,113,114,115,116,117,118,119,120,121,122]:List UInt8).take (wr .i64 (x0 + 1)).toNat).drop x0.toNat)
 else none
 else
 if (Ce (wr .i64 (x0 * 2)) (wr .i64 ((wr .i64 (x0 * 2)) + 2)) ([48,48,48,49,48,50,48,51,48,52,48,53,48,54,48,55,48,56,48,57,49,48,49,49,49,50,49,51,49,52,49,53,49,54,49,55,49,56,49,57,50,48,50,49,50,50,50,51,50,52,50,53,50,54,50,55,50,56,50,57,51,48,51,49,51,50,51,51,51,52,51,53,51,54,51,55,51,56,51,57,52,48,52,49,52,50,52,51,52,52,52,53,52,54,52,55,52,56,52,57,53,48,53,49,53,50,53,51,53,52,53,53,53,54,53,55,53,56,53,57,54,48,54,49,54,50,54,51,54,52,54,53,54,54,54,55,54,56,54,57,55,48,55,49,55,50,55,51,55,52,55,53,55,54,55,55,55,56,55,57,56,48,56,49,56,50,56,51,56,52,56,53,56,54,56,55,56,56,56,57,57,48,57,49,57,50,57,51,57,52,57,53,57,54,57,55,57,56,57,57]:List UInt8).length)=true then
 some ((([48,48,48,49,48,50,48,51,48,52,48,53,48,54,48,55,48,56,48,57,49,48,49,49,49,50,49,51,49,52,49,53,49,54,49,55,49,56,49,57,50,48,50,49,50,50,50,51,50,52,50,53,50,54,50,55,50,56,50,57,51,48,51,49,51,50,51,51,51,52,51,53,51,54,51,55,51,56,51,57,52,48,52,49,52,50,52,51,52,52,52,53,52,54,52,55,52,56,52,57,53,48,53,49,53,50,53,51,53,52,53,53,53,54,53,55,53,56,53,57,54,48,54,49,54,50,54,51,54,52,54,53,54,54,54,55,54,56,54,57,55,48,55,49,55,50,55,51,55,52,55,53,55,54,55,55,55,56,55,57,56,48,56,49,56,50,56,51,56,52,56,53,56,54,56,55,56,56,56,57,57,48,57,49,57,50,57,51,57,52,57,53,57,54,57,55,57,56,57,57]:List UInt8).take (wr .i64 ((wr .i64 (x0 * 2)) + 2)).toNat).drop (wr .i64 (x0 * 2)).toNat)
 else none
def EE:Cs (Int×Unit):=(csC cdI csN)
def EJ (r:(List UInt8)):AV:=cdS.enc r
theorem IB (x0:Int) (r:(List UInt8)) (h:Db x0=some r):Sem E0 ⟨none,false⟩ Ft ⟨Fr 15 (At 0 (EE.enc (x0,()))),[]⟩ fun e s'=>(e = .normal\/e = .ret)/\∃ xs,EM E0.P s'.fr s'.hp Tryd.f72.results.toList=some xs/\Ef xs=EJ r:=by
 unfold Db at h
 let p1:Nat×AV:=(0,.v (.int .i64 x0))
 refine BQ (CO (s1:=⟨Fr 15 [p1],[]⟩) AM ?_);refine AL AD [p1] [] ?_;refine AC ?_;refine AL AD [p1,(4,.v (.bool (decide (x0 < 10))))] [] ?_;refine AP (b:=(decide (x0 < 10))) kr (fun hb1=>?_) (fun hb1=>?_)
 ·rw [if_pos hb1] at h
  refine AC ?_;by_cases hk2:(Ce x0 (wr .i64 (x0 + 1)) ([48,49,50,51,52,53,54,55,56,57,97,98,99,100,101,102,103,104,105,106,107,108,109,110,111,112,113,114,115,116,117,118,119,120,121,122]:List UInt8).length)=true
  case neg=>rw [if_neg hk2] at h; cases h
  rw [if_pos hk2] at h
  let p2:Nat×AV:=(2,.st ((([48,49,50,51,52,53,54,55,56,57,97,98,99,100,101,102,103,104,105,106,107,108,109,110,111,112,113,114,115,116,117,118,119,120,121,122]:List UInt8).take (wr .i64 (x0 + 1)).toNat).drop x0.toNat))
  refine AE (s1:=⟨Fr 15 [p2],[]⟩) ?_ ?_
  ·refine AB (n:=15) AD 3 [(5,.v (.int .i64 x0)),(7,.v (.int .i64 (wr .i64 (x0 + 1))))] [] kr ?_
   refine AI AD 0 rfl (Bd (AA rfl) rfl (Eq (a:= .st [48,49,50,51,52,53,54,55,56,57,97,98,99,100,101,102,103,104,105,106,107,108,109,110,111,112,113,114,115,116,117,118,119,120,121,122]) (l:=(some (.v (.int .i64 x0)))) (u:=(some (.v (.int .i64 (wr .i64 (x0 + 1)))))) (m:=none) kr kr kr rfl (Gq (bs:=[48,49,50,51,52,53,54,55,56,57,97,98,99,100,101,102,103,104,105,106,107,108,109,110,111,112,113,114,115,116,117,118,119,120,121,122]) (lo:=x0) (hi:=(wr .i64 (x0 + 1))) kr (FT (K4 hk2)) (FT (IL hk2)) hk2))) ?_;exact AJ AD
  refine AS ?_;have hq:=OI h; subst hq;exact ⟨⟨Fr 15 [p2],[]⟩,AM,.inr rfl,[.st ((([48,49,50,51,52,53,54,55,56,57,97,98,99,100,101,102,103,104,105,106,107,108,109,110,111,112,113,114,115,116,117,118,119,120,121,122]:List UInt8).take (wr .i64 (x0 + 1)).toNat).drop x0.toNat)],kr,kr⟩
 ·rw [B3 hb1] at h
  refine AT ?_;refine AC ?_;by_cases hk3:(Ce (wr .i64 (x0 * 2)) (wr .i64 ((wr .i64 (x0 * 2)) + 2)) ([48,48,48,49,48,50,48,51,48,52,48,53,48,54,48,55,48,56,48,57,49,48,49,49,49,50,49,51,49,52,49,53,49,54,49,55,49,56,49,57,50,48,50,49,50,50,50,51,50,52,50,53,50,54,50,55,50,56,50,57,51,48,51,49,51,50,51,51,51,52,51,53,51,54,51,55,51,56,51,57,52,48,52,49,52,50,52,51,52,52,52,53,52,54,52,55,52,56,52,57,53,48,53,49,53,50,53,51,53,52,53,53,53,54,53,55,53,56,53,57,54,48,54,49,54,50,54,51,54,52,54,53,54,54,54,55,54,56,54,57,55,48,55,49,55,50,55,51,55,52,55,53,55,54,55,55,55,56,55,57,56,48,56,49,56,50,56,51,56,52,56,53,56,54,56,55,56,56,56,57,57,48,57,49,57,50,57,51,57,52,57,53,57,54,57,55,57,56,57,57]:List UInt8).length)=true
  case neg=>rw [if_neg hk3] at h; cases h
  rw [if_pos hk3] at h
  let p3:Nat×AV:=(2,.st ((([48,48,48,49,48,50,48,51,48,52,48,53,48,54,48,55,48,56,48,57,49,48,49,49,49,50,49,51,49,52,49,53,49,54,49,55,49,56,49,57,50,48,50,49,50,50,50,51,50,52,50,53,50,54,50,55,50,56,50,57,51,48,51,49,51,50,51,51,51,52,51,53,51,54,51,55,51,56,51,57,52,48,52,49,52,50,52,51,52,52,52,53,52,54,52,55,52,56,52,57,53,48,53,49,53,50,53,51,53,52,53,53,53,54,53,55,53,56,53,57,54,48,54,49,54,50,54,51,54,52,54,53,54,54,54,55,54,56,54,57,55,48,55,49,55,50,55,51,55,52,55,53,55,54,55,55,55,56,55,57,56,48,56,49,56,50,56,51,56,52,56,53,56,54,56,55,56,56,56,57,57,48,57,49,57,50,57,51,57,52,57,53,57,54,57,55,57,56,57,57]:List UInt8).take (wr .i64 ((wr .i64 (x0 * 2)) + 2)).toNat).drop (wr .i64 (x0 * 2)).toNat))
  refine AE (s1:=⟨Fr 15 [p3],[]⟩) ?_ ?_
  ·refine AB (n:=15) AD 5 [(10,.v (.int .i64 (wr .i64 (x0 * 2)))),(13,.v (.int .i64 (wr .i64 ((wr .i64 (x0 * 2)) + 2))))] [] kr ?_
   refine AI AD 0 rfl (Bd (AA rfl) rfl (Eq (a:= .st [48,48,48,49,48,50,48,51,48,52,48,53,48,54,48,55,48,56,48,57,49,48,49,49,49,50,49,51,49,52,49,53,49,54,49,55,49,56,49,57,50,48,50,49,50,50,50,51,50,52,50,53,50,54,50,55,50,56,50,57,51,48,51,49,51,50,51,51,51,52,51,53,51,54,51,55,51,56,51,57,52,48,52,49,52,50,52,51,52,52,52,53,52,54,52,55,52,56,52,57,53,48,53,49,53,50,53,51,53,52,53,53,53,54,53,55,53,56,53,57,54,48,54,49,54,50,54,51,54,52,54,53,54,54,54,55,54,56,54,57,55,48,55,49,55,50,55,51,55,52,55,53,55,54,55,55,55,56,55,57,56,48,56,49,56,50,56,51,56,52,56,53,56,54,56,55,56,56,56,57,57,48,57,49,57,50,57,51,57,52,57,53,57,54,57,55,57,56,57,57]) (l:=(some (.v (.int .i64 (wr .i64 (x0 * 2)))))) (u:=(some (.v (.int .i64 (wr .i64 ((wr .i64 (x0 * 2)) + 2)))))) (m:=none) kr kr kr rfl (Gq (bs:=[48,48,48,49,48,50,48,51,48,52,48,53,48,54,48,55,48,56,48,57,49,48,49,49,49,50,49,51,49,52,49,53,49,54,49,55,49,56,49,57,50,48,50,49,50,50,50,51,50,52,50,53,50,54,50,55,50,56,50,57,51,48,51,49,51,50,51,51,51,52,51,53,51,54,51,55,51,56,51,57,52,48,52,49,52,50,52,51,52,52,52,53,52,54,52,55,52,56,52,57,53,48,53,49,53,50,53,51,53,52,53,53,53,54,53,55,53,56,53,57,54,48,54,49,54,50,54,51,54,52,54,53,54,54,54,55,54,56,54,57,55,48,55,49,55,50,55,51,55,52,55,53,55,54,55,55,55,56,55,57,56,48,56,49,56,50,56,51,56,52,56,53,56,54,56,55,56,56,56,57,57,48,57,49,57,50,57,51,57,52,57,53,57,54,57,55,57,56,57,57]) (lo:=(wr .i64 (x0 * 2))) (hi:=(wr .i64 ((wr .i64 (x0 * 2)) + 2))) kr (FT (K4 hk3)) (FT (IL hk3)) hk3))) ?_;exact AJ AD
  refine AS ?_;have hq:=OI h; subst hq;exact ⟨⟨Fr 15 [p3],[]⟩,AM,.inr rfl,[.st ((([48,48,48,49,48,50,48,51,48,52,48,53,48,54,48,55,48,56,48,57,49,48,49,49,49,50,49,51,49,52,49,53,49,54,49,55,49,56,49,57,50,48,50,49,50,50,50,51,50,52,50,53,50,54,50,55,50,56,50,57,51,48,51,49,51,50,51,51,51,52,51,53,51,54,51,55,51,56,51,57,52,48,52,49,52,50,52,51,52,52,52,53,52,54,52,55,52,56,52,57,53,48,53,49,53,50,53,51,53,52,53,53,53,54,53,55,53,56,53,57,54,48,54,49,54,50,54,51,54,52,54,53,54,54,54,55,54,56,54,57,55,48,55,49,55,50,55,51,55,52,55,53,55,54,55,55,55,56,55,57,56,48,56,49,56,50,56,51,56,52,56,53,56,54,56,55,56,56,56,57,57,48,57,49,57,50,57,51,57,52,57,53,57,54,57,55,57,56,57,57]:List UInt8).take (wr .i64 ((wr .i64 (x0 * 2)) + 2)).toNat).drop (wr .i64 (x0 * 2)).toNat)],kr,kr⟩
def Ja:List AV->Option AV:=Ea EE (fun a=>Db a.1) EJ
theorem Jf:XOk 72 Ja:=by
 refine Br Tryd.func72 (c:=Ft) ?h2 ⟨Tryd.call72⟩ EE (fun a=>Db a.1) EJ (fun a=>(by show 1<=15; decide)) ?h3 ?h4
 case h2=>kernel_rfl
 case h3=>intro b; kernel_rfl
 case h4=>exact fun a b h=>IB a.1 b h
/- internal/strconv.FormatInt -/
noncomputable def EQ:Code:=BW Tryd.f64
def CM (x0:Int) (x1:Int):Option ((List UInt8)) :=
 if (x1==10)=true then
 (if (decide ((0:Int)<=x0))=true then some (decide (x0 < 100)) else some false).bind fun j3 =>
 if j3=true then
 (Db x0).bind fun v5 =>
 some v5
 else
 none
 else
 none
def C0:Cs (Int×Int×Unit):=(csC cdI (csC cdI csN))
def C2 (r:(List UInt8)):AV:=cdS.enc r
theorem GY (x0:Int) (x1:Int) (r:(List UInt8)) (h:CM x0 x1=some r):Sem E0 ⟨none,false⟩ EQ ⟨Fr 54 (At 0 (C0.enc (x0,x1,()))),[]⟩ fun e s'=>(e = .normal\/e = .ret)/\∃ xs,EM E0.P s'.fr s'.hp Tryd.f64.results.toList=some xs/\Ef xs=C2 r:=by
 unfold CM at h;refine BQ (CO (s1:=⟨Fr 54 [(0,.v (.int .i64 x0)),(1,.v (.int .i64 x1))],[]⟩) AM ?_);refine AL AD [(0,.v (.int .i64 x0)),(1,.v (.int .i64 x1))] [] ?_;refine AC ?_;refine AL AD [(0,.v (.int .i64 x0)),(11,.v (.bool (x1==10)))] [] ?_;refine AP (b:=(x1==10)) kr (fun hb1=>?_) (fun hb1=>?_)
 ·rw [if_pos hb1] at h
  refine AC ?_;refine AC ?_;obtain ⟨j3,hj3,h⟩:=OB h;refine AE (s1:=⟨Fr 54 [(0,.v (.int .i64 x0)),(17,.v (.bool j3))],[]⟩) ?_ ?_
  ·refine AB (n:=54) AD 3 [(0,.v (.int .i64 x0)),(14,.v (.bool (decide ((0:Int)<=x0))))] [] kr ?_
   rcases BE (decide ((0:Int)<=x0)) with hc6 | hc6
   ·rw [if_pos hc6] at hj3
    rw [hc6];refine AB (n:=54) AD 3 [(0,.v (.int .i64 x0)),(17,.v (.bool (decide (x0 < 100))))] [] kr ?_;have hq:=OI hj3; subst hq;exact AH rfl AM
   ·rw [B3 hc6] at hj3
    rw [hc6];refine AB (n:=54) AD 3 [(0,.v (.int .i64 x0)),(17,.v (.bool false))] [] kr ?_;have hq:=OI hj3; subst hq;exact AH rfl AM
  refine AP (b:=j3) kr (fun hb4=>?_) (fun hb4=>?_)
  ·rw [if_pos hb4] at h
   refine AC ?_;obtain ⟨v5,hv5,h⟩:=OB h;refine AE (s1:=⟨Fr 54 [(4,.st v5)],[]⟩) ?_ ?_
   ·refine AB (n:=54) AD 1 [(18,.v (.int .i64 x0))] [] kr ?_
    refine Ae (caps:=[]) (xs:=[.v (.int .i64 x0)]) (u:=(x0,())) rfl rfl Jf rfl (AA rfl) kr kr (Am (BU (c:=cdI) (v:=x0)) Cz) (.inl kr) hv5 ?_;exact AJ AD
   refine AS ?_;have hq:=OI h; subst hq;exact ⟨⟨Fr 54 [(4,.st v5)],[]⟩,AM,.inr rfl,[.st v5],kr,kr⟩
  ·rw [B3 hb4] at h
   refine AT ?_;refine AC ?_;cases h
 ·rw [B3 hb1] at h
  refine AT ?_;refine AC ?_;cases h
def HL:List AV->Option AV:=Ea C0 (fun a=>CM a.1 a.2.1) C2
theorem HO:XOk 64 HL:=by
 refine Br Tryd.func64 (c:=EQ) ?h2 ⟨Tryd.call64⟩ C0 (fun a=>CM a.1 a.2.1) C2 (fun a=>(by show 2<=54; decide)) ?h3 ?h4
 case h2=>kernel_rfl
 case h3=>intro b; kernel_rfl
 case h4=>exact fun a b h=>GY a.1 a.2.1 b h
/- internal/strconv.Itoa -/
noncomputable def GM:Code:=BW Tryd.f47
def D9 (x0:Int):Option ((List UInt8)) :=
 (CM x0 10).bind fun v1 =>
 some v1
def Ej:Cs (Int×Unit):=(csC cdI csN)
def Em (r:(List UInt8)):AV:=cdS.enc r
theorem Id (x0:Int) (r:(List UInt8)) (h:D9 x0=some r):Sem E0 ⟨none,false⟩ GM ⟨Fr 5 (At 0 (Ej.enc (x0,()))),[]⟩ fun e s'=>(e = .normal\/e = .ret)/\∃ xs,EM E0.P s'.fr s'.hp Tryd.f47.results.toList=some xs/\Ef xs=Em r:=by
 unfold D9 at h;refine BQ (CO (s1:=⟨Fr 5 [(0,.v (.int .i64 x0))],[]⟩) AM ?_);refine AL AD [(0,.v (.int .i64 x0))] [] ?_;refine AC ?_;obtain ⟨v1,hv1,h⟩:=OB h;refine AE (s1:=⟨Fr 5 [(2,.st v1)],[]⟩) ?_ ?_
 ·refine AB (n:=5) AD 1 [(3,.v (.int .i64 x0))] [] kr ?_
  refine Ae (caps:=[]) (xs:=[.v (.int .i64 x0),.v (.int .i64 10)]) (u:=(x0,10,())) rfl rfl HO rfl (AA rfl) kr kr (Am (BU (c:=cdI) (v:=x0)) (Am (BU (c:=cdI) (v:=10)) Cz)) (.inl kr) hv1 ?_;exact AJ AD
 refine AS ?_;have hq:=OI h; subst hq;exact ⟨⟨Fr 5 [(2,.st v1)],[]⟩,AM,.inr rfl,[.st v1],kr,kr⟩
def Jo:List AV->Option AV:=Ea Ej (fun a=>D9 a.1) Em
theorem Js:XOk 47 Jo:=by
 refine Br Tryd.func47 (c:=GM) ?h2 ⟨Tryd.call47⟩ Ej (fun a=>D9 a.1) Em (fun a=>(by show 1<=5; decide)) ?h3 ?h4
 case h2=>kernel_rfl
 case h3=>intro b; kernel_rfl
 case h4=>exact fun a b h=>Id a.1 b h
/- strconv.Itoa -/
noncomputable def GL:Code:=BW Tryd.f23
def Bf (x0:Int):Option ((List UInt8)) :=
 (D9 x0).bind fun v1 =>
 some v1
def DR:Cs (Int×Unit):=(csC cdI csN)
def DY (r:(List UInt8)):AV:=cdS.enc r
theorem Ic (x0:Int) (r:(List UInt8)) (h:Bf x0=some r):Sem E0 ⟨none,false⟩ GL ⟨Fr 5 (At 0 (DR.enc (x0,()))),[]⟩ fun e s'=>(e = .normal\/e = .ret)/\∃ xs,EM E0.P s'.fr s'.hp Tryd.f23.results.toList=some xs/\Ef xs=DY r:=by
 unfold Bf at h;refine BQ (CO (s1:=⟨Fr 5 [(0,.v (.int .i64 x0))],[]⟩) AM ?_);refine AL AD [(0,.v (.int .i64 x0))] [] ?_;refine AC ?_;obtain ⟨v1,hv1,h⟩:=OB h;refine AE (s1:=⟨Fr 5 [(2,.st v1)],[]⟩) ?_ ?_
 ·refine AB (n:=5) AD 1 [(3,.v (.int .i64 x0))] [] kr ?_
  refine Ae (caps:=[]) (xs:=[.v (.int .i64 x0)]) (u:=(x0,())) rfl rfl Js rfl (AA rfl) kr kr (Am (BU (c:=cdI) (v:=x0)) Cz) (.inl kr) hv1 ?_;exact AJ AD
 refine AS ?_;have hq:=OI h; subst hq;exact ⟨⟨Fr 5 [(2,.st v1)],[]⟩,AM,.inr rfl,[.st v1],kr,kr⟩
def G5:List AV->Option AV:=Ea DR (fun a=>Bf a.1) DY
theorem G8:XOk 23 G5:=by
 refine Br Tryd.func23 (c:=GL) ?h2 ⟨Tryd.call23⟩ DR (fun a=>Bf a.1) DY (fun a=>(by show 1<=5; decide)) ?h3 ?h4
 case h2=>kernel_rfl
 case h3=>intro b; kernel_rfl
 case h4=>exact fun a b h=>Ic a.1 b h
/- (*strings.Builder).copyCheck -/
noncomputable def A0:Env:=E0
theorem CC:EnvOk A0:=AD
noncomputable def CP:Code:=BW Tryd.f46
def BC  : Option (Unit) :=
 some ()
theorem Dq {L:List Asn}{hp:Hp}(u0:AV) (r:Unit) (h:BC  = some r) (hT:T hp ((cel u0 2 54 (.ag [.v (.pointer none),.e0]))::L)):SemY A0 ⟨none,false⟩ CP ⟨Fr 20 (At 0 [u0]),hp⟩ fun x s'=>(x = .normal\/x = .ret)/\∃ ys,EM A0.P s'.fr s'.hp Tryd.f46.results.toList=some ys/\(fun v h'=>v = .tp []/\T h' ((cel u0 2 54 (.ag [u0,.e0]))::L)) (Ef ys) s'.hp:=by
 have he:=CC
 unfold BC at h;refine Dt (Eh (s1:=⟨Fr 20 [(0,u0)],hp⟩) WkY.f1 ?_);refine AN ?_;refine AG ?_;refine Af he 1 ?_;refine AO he 0 rfl (Bd (AA rfl) rfl (Ib (EL hT) kr)) ?_;refine AO he 0 rfl (Bd (AA rfl) rfl (Ia (a:=u0) kr (F4 (off:=0) hT kr))) ?_;refine AO he 0 rfl (Bd (AA rfl) rfl (FA (p:=HQ u0 0) kr (Hh (off:=0) (y:= .v (.pointer none)) (m:=1) (g:=false) hT kr kr kr))) ?_;refine A5 he [(0,u0),(6,.v (.bool true))] ?_;refine SemY.cond_true kr ?_;refine AG ?_;refine Af he 2 ?_;refine NP he rfl hT (AA rfl) kr kr ?_;refine Oj (p:=u0) (fid:=63) he rfl (AA rfl) kr kr kr ?_;refine NP he rfl hT (AA rfl) kr kr ?_;refine AO he 0 rfl (Bd (AA rfl) rfl (Ib (EL hT) kr)) ?_;refine AO he 0 rfl (Bd (AA rfl) rfl (Ia (a:=u0) kr (F4 (off:=0) hT kr))) ?_;obtain ⟨hp1,hs2,hT3⟩:=OT (off:=0) (P:=Tryd.prog) (ty:=52) (y:=u0) (a':= .ag [u0,.e0]) hT (by have hq:=JW (hT.front 0 rfl); revert hq; generalize u0=zz; intro hq; cases zz <;> first | (exact (Bool.false_ne_true hq.1).elim) | (exact (Bool.false_ne_true hq.2).elim) | skip; all_goals (first | rfl | kernel_rfl | exact rfl)) (by have hq:=JW (hT.front 0 rfl); revert hq; generalize u0=zz; intro hq; cases zz <;> first | (exact (Bool.false_ne_true hq.1).elim) | (exact (Bool.false_ne_true hq.2).elim) | skip; all_goals (first | rfl | kernel_rfl | exact rfl)) (by have hq:=JW (hT.front 0 rfl); revert hq; generalize u0=zz; intro hq; cases zz <;> first | (exact (Bool.false_ne_true hq.1).elim) | (exact (Bool.false_ne_true hq.2).elim) | skip; all_goals (first | rfl | kernel_rfl | exact rfl));refine RunL.store he (y:=HQ u0 0) (z:=u0) rfl (AA rfl) kr kr hs2 ?_;refine As rfl ?_;have hq:=OI h; subst hq;exact ⟨⟨Fr 20 [],hp1⟩,WkY.f1,.inl rfl,[],kr,⟨rfl,hT3⟩⟩
/- (*strings.Builder).WriteString -/
noncomputable def Ac:Env:=E0
theorem Bq:EnvOk Ac:=AD
noncomputable def CB:Code:=BW Tryd.f22
def A1 (x0:(List UInt8)):Option (Int×(List Int)) :=
 BC.bind fun _v1 =>
 if (B8 1 (([]:(List Int)).length + (Aw x0).length))=true then
 some ((x0.length:Int),(([]:(List Int))++(Aw x0)))
 else none
theorem Dc {L:List Asn}{hp:Hp}(u0:AV) (x0:(List UInt8)) (r:Int×(List Int)) (h:A1 x0=some r) (hT:T hp ((cel u0 2 54 (.ag [.v (.pointer none),.e0]))::L)):SemY Ac ⟨none,false⟩ CB ⟨Fr 19 (At 0 [u0,.st x0]),hp⟩ fun x s'=>(x = .normal\/x = .ret)/\∃ ys,EM Ac.P s'.fr s'.hp Tryd.f22.results.toList=some ys/\(fun v h'=>∃ (z0:AV),v = .tp [.v (.int .i64 r.1),.v .nilIface]/\T h' ((cel u0 2 54 (.ag [u0,z0]))::(own_ (ocL 1 5 (ocV (cdK .u8))) z0 r.2)::L)) (Ef ys) s'.hp:=by
 have he:=Bq
 unfold A1 at h;refine Dt (Eh (s1:=⟨Fr 19 [(0,u0),(1,.st x0)],hp⟩) WkY.f1 ?_);refine Ar he [(0,u0),(1,.st x0)] ?_;refine AN ?_;refine AG ?_;refine Af he 1 ?_;obtain ⟨v1,hv1,h⟩:=OB h;refine D2 (E:=Ac) (e:=A0) rfl rfl CC rfl rfl (fid:=46) (caps:=[]) (xs:=[u0]) (fn:=Tryd.f46) (c:=CP) (Out:=fun v h'=>v = .tp []/\T h' ((cel u0 2 54 (.ag [u0,.e0]))::L)) rfl (AA rfl) kr kr kr kr (by show 1<=20; decide) (Dq u0 _ hv1 hT) ?_;rintro xx hp2 ⟨hqhp2,hT3⟩; subst xx;refine As rfl (SemY.fr (l':=[(0,u0),(1,.st x0)]) kr ?_);refine AN ?_;refine AG ?_;refine Af he 2 ?_;refine AO he 0 rfl (Bd (AA rfl) rfl (Ib (EL hT3) kr)) ?_;refine AO he 0 rfl (Bd (AA rfl) rfl (Ia (a:=u0) kr (F4 (off:=1) hT3 kr))) ?_;refine AO he 0 rfl (Bd (AA rfl) rfl (FA (p:=HQ u0 1) kr (Hh (off:=1) (y:= .e0) (m:=1) (g:=false) hT3 kr kr kr))) ?_;refine Af he 1 ?_;by_cases hk9:(B8 1 (([]:(List Int)).length + (Aw x0).length))=true
 case neg=>rw [if_neg hk9] at h; cases h
 rw [if_pos hk9] at h
 have hT4:=(T.e0 (k:=1) (ty:=5) (o:=(ocV (cdK .u8))) hT3)
 obtain ⟨e8,hp5,hb6,hT7⟩:=K0 (P:=Tryd.prog) (ty:=24) (ty2:=9) (bytes:=1) (y:= .st x0) (ys:=(Aw x0)) hT4 kr MO kr hk9;refine AO he 0 rfl (NJ (AA rfl) rfl kr kr (D0 (a:= .e0) (b:= .st x0) kr kr hb6)) ?_
 have hT10:=(hT7.front 1 rfl)
 refine AO he 0 rfl (Bd (AA rfl) rfl (Ib (EL hT10) kr)) ?_;refine AO he 0 rfl (Bd (AA rfl) rfl (Ia (a:=u0) kr (F4 (off:=1) hT10 kr))) ?_;obtain ⟨hp11,hs12,hT13⟩:=OT (off:=1) (P:=Tryd.prog) (ty:=24) (y:=e8) (a':= .ag [u0,e8]) hT10 (by have hq:=FW (hT10.front 1 rfl); revert hq; generalize e8=zz; intro hq; cases zz <;> first | (exact (Bool.false_ne_true hq.1).elim) | (exact (Bool.false_ne_true hq.2).elim) | skip; all_goals (first | rfl | kernel_rfl | exact rfl)) (by have hq:=FW (hT10.front 1 rfl); revert hq; generalize e8=zz; intro hq; cases zz <;> first | (exact (Bool.false_ne_true hq.1).elim) | (exact (Bool.false_ne_true hq.2).elim) | skip; all_goals (first | rfl | kernel_rfl | exact rfl)) (by have hq:=FW (hT10.front 1 rfl); revert hq; generalize e8=zz; intro hq; cases zz <;> first | (exact (Bool.false_ne_true hq.1).elim) | (exact (Bool.false_ne_true hq.2).elim) | skip; all_goals (first | rfl | kernel_rfl | exact rfl));refine RunL.store he (y:=HQ u0 1) (z:=e8) rfl (AA rfl) kr kr hs12 ?_;refine As rfl (SemY.fr (l':=[(1,.st x0)]) kr ?_)
 let p1:Nat×AV:=(4,.v (.int .i64 (x0.length:Int)))
 refine Ar he [p1,(5,.v .nilIface)] ?_;refine SemY.ret ?_;have hq:=OI h; subst hq;exact ⟨⟨Fr 19 [p1,(5,.v .nilIface)],hp11⟩,WkY.f1,.inr rfl,[.v (.int .i64 (x0.length:Int)),.v .nilIface],kr,⟨e8,rfl,hT13⟩⟩
/- (*strings.Builder).copyCheck -/
noncomputable def Ax:Env:=E0
theorem Bx:EnvOk Ax:=AD
noncomputable def CG:Code:=BW Tryd.f46
def A3  : Option (Unit) :=
 some ()
theorem Dd {L:List Asn}{hp:Hp}(u0:AV) (u1:AV) (x0:(List UInt8)) (r:Unit) (h:A3  = some r) (hT:T hp ((cel u0 2 54 (.ag [u0,u1]))::(own_ (ocL 1 5 (ocV (cdK .u8))) u1 (Aw x0))::L)):SemY Ax ⟨none,false⟩ CG ⟨Fr 20 (At 0 [u0]),hp⟩ fun x s'=>(x = .normal\/x = .ret)/\∃ ys,EM Ax.P s'.fr s'.hp Tryd.f46.results.toList=some ys/\(fun v h'=>v = .tp []/\T h' ((cel u0 2 54 (.ag [u0,u1]))::(own_ (ocL 1 5 (ocV (cdK .u8))) u1 (Aw x0))::L)) (Ef ys) s'.hp:=by
 have he:=Bx
 unfold A3 at h;refine Dt (Eh (s1:=⟨Fr 20 [(0,u0)],hp⟩) WkY.f1 ?_);refine AN ?_;refine AG ?_;refine Af he 1 ?_;refine AO he 0 rfl (Bd (AA rfl) rfl (Ib (EL hT) kr)) ?_;refine AO he 0 rfl (Bd (AA rfl) rfl (Ia (a:=u0) kr (F4 (off:=0) hT kr))) ?_;refine AO he 0 rfl (Bd (AA rfl) rfl (FA (p:=HQ u0 0) kr (Hh (off:=0) (y:=u0) (m:=1) (g:=false) hT kr kr kr))) ?_;refine AO he 0 rfl (Bd (x:= .v (.bool false)) (AA rfl) rfl (R8 (Nc hT) kr kr kr kr)) ?_;refine As rfl (SemY.fr (l':=[(0,u0),(6,.v (.bool false))]) kr ?_);refine SemY.cond_false kr ?_;refine AN ?_;refine AG ?_;refine Af he 1 ?_;refine AO he 0 rfl (Bd (AA rfl) rfl (Ib (EL hT) kr)) ?_;refine AO he 0 rfl (Bd (AA rfl) rfl (Ia (a:=u0) kr (F4 (off:=0) hT kr))) ?_;refine AO he 0 rfl (Bd (AA rfl) rfl (FA (p:=HQ u0 0) kr (Hh (off:=0) (y:=u0) (m:=1) (g:=false) hT kr kr kr))) ?_;refine Af he 1 ?_;refine AO he 0 rfl (Bd (x:= .v (.bool false)) (AA rfl) rfl (R9 (Nc hT) kr kr kr kr)) ?_;refine As rfl (SemY.fr (l':=[(19,.v (.bool false))]) kr ?_);refine SemY.cond_false kr ?_;refine SemY.skip ?_;have hq:=OI h; subst hq;exact ⟨⟨Fr 20 [],hp⟩,WkY.f1,.inl rfl,[],kr,⟨rfl,hT⟩⟩
end Go.Proofs.YteidjjolfapemaaDoor
