/- Lemmas for the proof. -/
import Derived.Test.YtdjhmdbpcfnpgaaGreatDoorCourtMergesM1
import Derived.Test.YtdjhmdbpcfnpgaaGreatDoorCourtMergesM2
import Derived.Test.YtdjhmdbpcfnpgaaGreatDoorCourtMergesM3
import Derived.Test.YtdjhmdbpcfnpgaaGreatDoorCourtMergesM4
set_option maxHeartbeats 4000000
set_option maxRecDepth 100000
namespace Go.Proofs.YtdjhmdbpcfnpgaaGreatDoor
open Go.RowKit
def isT (r:Option (AV×Hp)):Bool:=match r with
 | some (.v (.bool true),_)=>true
 | _=>false
theorem QG {r:Option (AV×Hp)}(h:isT r=true):∃ h',r=some (.v (.bool true),h'):=by
 unfold isT at h
 split at h
 ·exact ⟨_,rfl⟩
 ·cases h
set_option maxRecDepth 1000000 in
theorem Q3:isT (MT E13 3000 8 [] [])=true:=by kernel_rfl
theorem Oo:∃ h,MT E13 3000 8 [] []=some (.v (.bool true),h):=QG Q3
theorem Nc (w:World):Ret Tryz.prog 8 #[] w fun v w'=>v = .bool true/\w.grownBy w' none:=by
 obtain ⟨h,e⟩:=Oo
 exact PI (E:=E13) (Z:=fun _=>False) (us:=[]) Qx e (fun c hc=>hc.elim) (fun g x h=>by cases h) .nil
theorem Qh {w:World}{Z:Nat->Prop}:VR w Z [] (.v (.bool true)) (.bool true):= .v rfl
def GL:Option Bool:=some true
def Jp:Cs Unit:=csN
def Jq (b:Bool):AV:=cdB.enc b
def Kp:List AV->Option AV:=ER Jp (fun _=>GL) Jq
theorem GQ:XOk 8 Kp:=by
 refine ⟨⟨Tryz.call8⟩,fun xs x h w Z us _ _ hv=>?_⟩
 obtain ⟨a,ha,h⟩:=OB h
 obtain ⟨b,hb,rfl⟩:=Option.map_eq_some_iff.1 h
 have hb:=OI hb
 subst hb
 have:xs=[]:=by
  cases xs with
  | nil=>rfl
  | cons x xs=>cases ha
 subst this
 have:us=[]:=by have:=hv.len; simpa using this
 subst this
 exact Ret.mono (Nc w) fun v w' h=>⟨h.2,by rw [h.1]; exact Qh⟩
section
variable {E:Env}{cx:Cx}{ops:Array Oper}{rest rest':List Oper}{K:St->Prop}{n n0 k:Nat}{l:List (Nat×AV)}{hp:Hp}{α β:Type}{s:Cs α}{F:α->Option β}{er:β->AV}{u:α}{v:β}{fid:FuncId}{w:World}{Z:Nat->Prop}{R:List RI}
theorem Ry (hX:XOk fid (ER s F er)) (hh:HR w Z R hp) (hg:GI E0 w Z){xs:List AV}{us:List Value}(hvs:VRs w Z R xs us) (hv:SeesD hp s xs u) (hok:C2 (er v)=true\/xs.all Ch=true/\s.dec xs=some u) (hF:F u=some v) :
  Ret E0.P fid us.toArray w fun x w'=>∃ Z',HR w' Z' R hp/\VR w' Z' R (er v) x/\Step w Z R hp w' Z' R hp/\w.grownBy w' none/\(C2 (er v)=true->Z'=Z):=by
 by_cases hf:C2 (er v)=true
 ·obtain ⟨ys,hv,hd⟩:=hv
  have hz1:∀ c,(Z c\/own R hp c)->c < w.heap.size:=fun c hc=>hc.elim (hh.zlt c) (fun ⟨b,B,r,h1,_,h3,h4⟩=>h4 ▸ hh.rltL h1 h3)
  have hg1:GI E0 w (fun c=>Z c\/own R hp c):=fun q y hy=>(hg q y hy).mono (fun _ _=>rfl) (fun _ h=> .inl h) (fun _ _ h=>h)
  refine Ret.mono (hX.2 ys (er v) (GN hd hF) w _ us hz1 hg1 (hv w Z R us hh hvs)) fun x w' ⟨hs,hx⟩=>?_
  exact ⟨Z,hh.keep hs.size (fun c hc=>hs.block c hc (by simp)),Hd hf hx,⟨hs.os,hs.tape,hs.output,hs.size,fun c hc _=>hs.block c hc (by simp),fun _ h=> .inl h,fun _ h=>h,fun _ h=> .inl h,fun _ _ h=>h⟩,hs,fun _=>rfl⟩
 ·obtain ⟨hn,hd⟩:=hok.resolve_left hf
  refine Ret.mono (hX.2 xs (er v) (GN hd hF) w Z us hh.zlt hg (Kc hn hvs)) fun x w' ⟨hs,hx⟩=>?_
  obtain ⟨k1,k2⟩:=hh.addZ hs
  exact ⟨_,k1,hx.up,k2,hs,fun h=>absurd h hf⟩
theorem Sf (hP:E.P=E0.P) (hG:E.G=E0.G){caps xs:List AV}{d:Option Nat}{f:Operand}{args:Array Operand}{tys:Array TypeId}{ty:TypeId}{pos:String}{af:Array Edge}{g:Option (Nat×Bool)}{base:Bs}{a:Act}(hX:XOk fid (ER s F er)) (sr:SR E base w Z R ⟨Fr n l,hp⟩ a)
  (hf:opA E (Fr n l) f=some (.fn fid [] caps)) (ha:FT (opA E (Fr n l)) args.toList=some xs) (hv:SeesD hp s (xs++caps) u) (hok:C2 (er v)=true\/(xs++caps).all Ch=true/\s.dec (xs++caps)=some u) (hF:F u=some v) {Q:Act->World->Prop}
  (kk:∀ x w' Z',HR w' Z' R hp->VR w' Z' R (er v) x->Step w Z R hp w' Z' R hp->w.grownBy w' none->(C2 (er v)=true->Z'=Z)->SR E base w' Z' R ⟨Fr n l,hp⟩ a->Q (a.put d x) w'):Lw E.P ⟨d,.call ⟨.value f,args,tys⟩,ty,pos,af,g⟩ a w Q:=by
 have hρ:∀ o x,opA E (Fr n l) o=some x->VR w Z R x (a.eval o):=fun o x e=>opA_vr sr o x e
 have hvf:=hρ _ _ hf
 have hva:∃ uc:List Value,a.eval f = .func (.func fid) #[] uc.toArray/\VRs w Z R caps uc:=by
  generalize a.eval f=vf at hvf
  cases hvf with
  | fn hl hl' hx hy =>
   rename_i u1 u2
   have e1:u1=[]:=by simpa using hl
   subst e1
   exact ⟨u2,rfl,hl',hy⟩
 obtain ⟨uc,hva,huc⟩:=hva
 have hcl:BX E.P fid:=hP ▸ hX.1
 unfold Lw
 rw [DY (uf:=[]) (uc:=uc) rfl hva rfl hcl w]
 have hret:=Ry hX sr.hh (by have:=sr.gl; exact fun q y hy=>this q y (by rw [hG]; exact hy)) ((opds_vr hρ ha).append huc) hv hok hF
 rw [<-hP] at hret
 simp only [List.nil_append]
 refine Ret.mono hret fun x w' ⟨Z',k1,k2,k3,k4,k5⟩=>?_
 exact kk x w' Z' k1 k2 k3 k4 k5 (sr.step k1 k3)
theorem Dg (hP:E.P=E0.P) (hG:E.G=E0.G) (hX:XOk fid (ER s F er)){caps xs:List AV}{d:Nat}{f:Operand}{args:Array Operand}{tys:Array TypeId}{ty:TypeId}{pos:String}{af:Array Edge}{g:Option (Nat×Bool)}(hr:rest=⟨some d,.call ⟨.value f,args,tys⟩,ty,pos,af,g⟩::rest') (hw:Be ops (Fr n l) ⟨some d,.call ⟨.value f,args,tys⟩,ty,pos,af,g⟩=some true)
  (hf:opA E (Fr n l) f=some (.fn fid [] caps)) (ha:FT (opA E (Fr n l)) args.toList=some xs) (hv:SeesD hp s (xs++caps) u) (hok:C2 (er v)=true\/(xs++caps).all Ch=true/\s.dec (xs++caps)=some u) (hF:F u=some v) (kk:RunL E cx ops rest' ⟨Fr n ((d,er v)::l),hp⟩ K):RunL E cx ops rest ⟨Fr n l,hp⟩ K:=by
 subst hr
 intro ro base Q a w Z R hro sr hy q
 refine HD rfl (wantedA_eq sr hw) (Sf hP hG hX sr hf ha hv hok hF fun x w' Z' k1 k2 k3 k4 k5 sr'=>?_)
 refine kk ro base Q _ w' Z' R hro ?_ (hy.step sr.hh k3) fun s' a' w'' Z'' R'' hK sr'' st'=>q s' a' w'' Z'' R'' hK sr'' (k3.trans st')
 have:=sr'.put (d:=some d) k2
 rwa [CX] at this
end
def LK:Hp->Bool
 | []=>true
 | none::r=>LK r
 | some B::r=>!B.fz&&B.es.all Ch&&LK r
theorem I1:∀ {h:Hp},LK h=true->∀ (b:Nat) (B:Blk),h[b]? = some (some B)->B.fz=false/\B.es.all Ch=true
 | [],_,b,B,hb=>by simp at hb
 | none::r,h,0,B,hb=>by simp at hb
 | none::r,h,b + 1,B,hb=>I1 (h:=r) h b B (by simpa using hb)
 | some B0::r,h,b,B,hb=>by
  unfold LK at h
  simp only [Bool.and_eq_true,Bool.not_eq_true'] at h
  cases b with
  | zero =>
   have:B0=B:=by simpa using hb
   subst this
   exact h.1
  | succ b=>exact I1 h.2 b B (by simpa using hb)
theorem N2 {α:Type}{k:Nat}{t:TypeId}{c:Cd α}(xs:List α):LK [some ⟨k,t,xs.map c.enc,false⟩]=true:=by
 have:(xs.map c.enc).all Ch=true:=by
  rw [List.all_eq_true]
  intro x hx
  obtain ⟨y,_,rfl⟩:=List.mem_map.1 hx
  exact c.nr y
 show (!false&&(xs.map c.enc).all Ch&&true)=true
 rw [this]; rfl
section
variable {w w':World}{Z Z':Nat->Prop}{R R':List RI}{h h':Hp}
theorem HR.joinF (hh:HR w Z R h) (st:StepW w Z [] [] w' Z' R' h') (hh':HR w' Z' R' h') (hf:LK h'=true):HR w' Z' (R++R') (h++h')/\Step w Z R h w' Z' (R++R') (h++h'):=by
 have hold:∀ c,c < w.heap.size->w'.heap[c]? = w.heap[c]?:=fun c hc=>st.block c hc fun ⟨b,B,r,hb,_⟩=>by simp at hb
 have hr:∀ (i:Nat) (x:RI),R[i]? = some x->(R++R')[i]? = some x:=fun i x hx=>by
  rw [List.getElem?_append_left (List.getElem?_eq_some_iff.1 hx).1]; exact hx
 have hnew:∀ c,own R' h' c->w.heap.size<=c:=fun c hc=>(st.own_ c hc).resolve_left fun ⟨b,B,r,hb,_⟩=>by simp at hb
 have hz':∀ c,Z' c->Z c\/w.heap.size<=c:=fun c hc=>(st.z' c hc).elim .inl fun h=>h.elim (fun ⟨b,B,r,hb,_⟩=>by simp at hb) .inr
 have hlen:=hh.len
 have hat:∀ (b:Nat) (B:Blk),(h++h')[b]? = some (some B)->(b < h.length/\h[b]? = some (some B)/\(R++R')[b]? = R[b]?)\/(∃ j,b=h.length + j/\h'[j]? = some (some B)/\(R++R')[b]? = R'[j]?):=fun b B hb=>by
  by_cases hlt:b < h.length
  ·rw [List.getElem?_append_left hlt] at hb
   exact .inl ⟨hlt,hb,List.getElem?_append_left (by omega)⟩
  ·rw [List.getElem?_append_right (by omega)] at hb
   exact .inr ⟨b - h.length,by omega,hb,by rw [List.getElem?_append_right (by omega),hlen]⟩
 have hRb:∀ (b:Nat) (B:Blk) (r:RI),h[b]? = some (some B)->R[b]? = some r->r.c < w.heap.size:=fun b B r h1 h2=>hh.rltL h1 h2
 have hRn:∀ (j:Nat) (B:Blk) (r:RI),h'[j]? = some (some B)->R'[j]? = some r->w.heap.size<=r.c:=fun j B r h1 h2=>hnew _ ⟨j,B,r,h1,(I1 hf j B h1).1,h2,rfl⟩
 refine ⟨⟨by simp [hh.len,hh'.len],fun b B hB=>?_,fun b b' B B' r r' hB hfz hB' hfz' h1 h2 e=>?_,hh'.zlt⟩,⟨st.os,st.tape,st.output,st.size,fun c hc _=>hold c hc,fun c hc=>?_,st.z,fun c hc=>(hz' c hc).elim .inl fun h=> .inr (.inr h),hr⟩⟩
 ·rcases hat b B hB with ⟨hlt,hb,hRR⟩ | ⟨j,rfl,hb,hRR⟩
  ·obtain ⟨r,arr,us,g1,g2,g3,g4,g5,g6,g7,g8,g9,g10⟩:=hh.blk b B hb
   exact ⟨r,arr,us,hRR.trans g1,g2,(hold _ (hRb b B r hb g1)).trans g3,g4,g5,g6,(fun h=>st.z _ (g7 h)),(fun h hc=>(hz' _ hc).elim (g8 h) fun q=>by have:=hRb b B r hb g1; omega),⟨g9.len,fun i x u hx hu=>(g9.at_ i x u hx hu).mono (fun c hc=>hold c (hh.zlt c hc)) (fun c hc=>st.z c hc) hr⟩,g10⟩
  ·obtain ⟨r,arr,us,g1,g2,g3,g4,g5,g6,g7,g8,g9,g10⟩:=hh'.blk j B hb
   obtain ⟨f1,f2⟩:=I1 hf j B hb
   exact ⟨r,arr,us,hRR.trans g1,g2,g3,g4,g5,g6,g7,g8,⟨g9.len,fun i x u hx hu=>(FC (List.all_eq_true.1 f2 x (List.mem_of_getElem? hx)) (g9.at_ i x u hx hu)).up⟩,g10⟩
 ·rcases hat b B hB with ⟨_,hb,hRR⟩ | ⟨j,rfl,hb,hRR⟩ <;> rcases hat b' B' hB' with ⟨_,hb',hRR'⟩ | ⟨j',rfl,hb',hRR'⟩ <;> rw [hRR] at h1 <;> rw [hRR'] at h2
  ·exact hh.inj b b' B B' r r' hb hfz hb' hfz' h1 h2 e
  ·have:=hRb b B r hb h1; have:=hRn j' B' r' hb' h2; omega
  ·have:=hRb b' B' r' hb' h2; have:=hRn j B r hb h1; omega
  ·rw [hh'.inj j j' B B' r r' hb hfz hb' hfz' h1 h2 e]
 ·obtain ⟨b,B,r,h1,h2,h3,rfl⟩:=hc
  rcases hat b B h1 with ⟨_,hb,hRR⟩ | ⟨j,rfl,hb,hRR⟩ <;> rw [hRR] at h3
  ·exact .inl ⟨b,B,r,hb,h2,h3,rfl⟩
  ·exact .inr (hRn j B r hb h3)
end
theorem SeeV.view {hp:Hp}{x y:AV}(n:Nat) (h:Du hp n x=some y):SeeV hp x y:=fun _w _Z _R u hh hv=>HH hh n x y u hv h
theorem SeeD.sm {α:Type}{n:Nat}{hp:Hp}{c:Cd α}{x:AV}{v:α}(h:Sm n hp c x v):SeeD hp c x v:=let ⟨y,h1,h2⟩:=h; ⟨y,.view n h1,h2⟩
/-- A cell of its own that holds a frozen thing. -/
theorem SeeD.cel {α:Type}{hp:Hp}{c:Cd α}{p:AV}{v:α}{k:Nat}{t:TypeId}{L:List Asn}{i:Nat}(ht:T hp L) (hi:L[i]? = some (cel p k t (c.enc v))):SeeD hp (cdP c) p v:=by
 obtain ⟨F,⟨b,rfl,_,hb⟩,_⟩:=(ht.front i hi).act
 exact .sm (n:=3) (.pt hb (BH (n:=0)))
theorem SeeD.ag {α:Type}{hp:Hp}{s:Cs α}{hn:∀ x,(s.enc x).all IL=true}{xs:List AV}{a:α}(h:SeesD hp s xs a):SeeD hp (cdA s hn) (.ag xs) a:=by
 obtain ⟨ys,k1,k2⟩:=h
 exact ⟨.ag ys,.ag k1,k2⟩
theorem SeeV.fn {hp:Hp}{f:FuncId}{cs cs':List AV}(hs:Sees hp cs cs'):SeeV hp (.fn f [] cs) (.fn f [] cs'):=fun w Z R u hh hv=>by
 cases hv with
 | fn hl hl' hx hy =>
  have:=hs w Z R _ hh ⟨hl',hy⟩
  exact .fn hl this.len (fun i x u h=>by simp at h) this.at_
/-- A closure over cells. -/
theorem SeeD.fn {α:Type}{hp:Hp}{f:FuncId}{s:Cs α}{hn:∀ x,(s.enc x).all FW=true}{q:List AV}{a:α}(h:SeesD hp s q a):SeeD hp (cdF f s hn) (.fn f [] q) a:=by
 obtain ⟨ys,k1,k2⟩:=h
 refine ⟨.fn f [] ys,.fn k1,?_⟩
 show (if f=f then s.dec ys else none)=_
 rw [if_pos rfl]; exact k2
section
variable {E:Env}{cx:Cx}{ops:Array Oper}{rest rest':List Oper}{K:St->Prop}{n n0 k:Nat}{l:List (Nat×AV)}{hp:Hp}
/-- A call of frozen things that hands own blocks back, whose elements hold frozen things. -/
theorem J4 {xs:List AV}{Out:AV->Hp->Prop}(hP:E.P=E0.P) (hG:E.G=E0.G){d:Nat}{f:Operand}{args:Array Operand}{tys:Array TypeId}{ty:TypeId}{pos:String}{af:Array Edge}{g:Option (Nat×Bool)}{fid:FuncId}(hs:SOk fid xs Out) (hr:rest=⟨some d,.call ⟨.value f,args,tys⟩,ty,pos,af,g⟩::rest') (hw:Be ops (Fr n l) ⟨some d,.call ⟨.value f,args,tys⟩,ty,pos,af,g⟩=some true)
  (hf:opA E (Fr n l) f=some (.fn fid [] [])) (ha:FT (opA E (Fr n l)) args.toList=some xs) (hv:xs.all Ch=true) (hfl:∀ x h',Out x h'->Gy x=true/\LK h'=true) (k:∀ x h',Out x h'->RunL E cx ops rest' ⟨Fr n ((d,shN hp.length x)::l),hp++h'⟩ K):RunL E cx ops rest ⟨Fr n l,hp⟩ K:=by
 obtain ⟨P,fns,G,X,I⟩:=E
 simp only at hP hG
 subst hP hG
 subst hr
 intro ro base Q a w Z R hro sr hy q
 have hρ:∀ o x,opA ⟨E0.P,fns,E0.G,X,I⟩ (Fr n l) o=some x->VR w Z R x (a.eval o):=fun o x e=>opA_vr sr o x e
 refine HD rfl (wantedA_eq sr hw) ?_
 have hva:a.eval f = .func (.func fid) ([]:List Value).toArray ([]:List Value).toArray:=by
  have:=hρ _ _ hf
  generalize a.eval f=vf at this
  cases this with
  | fn hl hl' hx hy =>
   rename_i u1 u2
   have e1:u1=[]:=by simpa using hl
   have e2:u2=[]:=by simpa using hl'
   subst e1 e2; rfl
 unfold Lw
 rw [DY (uf:=[]) (uc:=[]) rfl hva rfl hs.1 w]
 simp only [List.nil_append,List.append_nil]
 have hvs:VRs w Z R xs (args.toList.map a.eval):=opds_vr hρ ha
 have hvs2:VRs w Z [] xs (args.toList.map a.eval):=⟨hvs.len,fun i x u hx hu=>FC (List.all_eq_true.1 hv x (List.mem_of_getElem? hx)) (hvs.at_ i x u hx hu)⟩
 refine Ret.mono (hs.2 w _ _ sr.hh.zlt sr.gl hvs2) fun v w' hS=>?_
 obtain ⟨Z',R',x,h',hO,h1,h2,st⟩:=hS
 obtain ⟨f1,f2⟩:=hfl x h' hO
 obtain ⟨j1,j2⟩:=sr.hh.joinF st h1 f2
 have hlen:R.length=hp.length:=sr.hh.len
 have hx:=OM (w:=w') (Z':=Z') (R:=R) hlen f1 h2
 have sr':=(sr.step j1 j2).put (d:=some d) hx
 rw [show HU (⟨Fr n l,hp⟩:St).fr (some d) (shN hp.length x)=Fr n ((d,shN hp.length x)::l) from CX n l d _] at sr'
 exact k x h' hO ro base Q _ w' Z' (R++R') hro sr' (hy.step sr.hh j2) fun s' a' w'' Z'' R'' hK sr'' st'=>q s' a' w'' Z'' R'' hK sr'' (j2.trans st')
end
/-- A nil slice is an empty frozen one, in structs too. -/
def UpV (x y:AV):Prop:=∀ (w:World) (Z:Nat->Prop) (R:List RI) (u:Value),VR w Z R x u->VR w Z R y u
theorem UpV.refl {x:AV}:UpV x x:=fun _ _ _ _ h=>h
theorem UpV.nil {k:Nat}:UpV .e0 (.sl k []):=fun _ _ _ _ h=>by
 cases h
 exact .sl (us:=[]) rfl rfl (Nat.le_refl _) (by unfold maxLen; omega) (fun h=>by omega) (fun i x u hx=>by simp at hx)
def UpVs:List AV->List AV->Prop
 | [],[]=>True
 | x::xs,y::ys=>UpV x y/\UpVs xs ys
 | _,_=>False
theorem UpVs.len:∀ {xs ys:List AV},UpVs xs ys->xs.length=ys.length
 | [],[],_=>rfl
 | _::_,_::_,h=>by simp [UpVs.len h.2]
 | [],_::_,h=>h.elim
 | _::_,[],h=>h.elim
theorem UpVs.get:∀ {xs ys:List AV}{i:Nat}{y:AV},UpVs xs ys->ys[i]? = some y->∃ x,xs[i]? = some x/\UpV x y
 | _::_,_::_,0,_,h,e=>by simp at e; subst e; exact ⟨_,rfl,h.1⟩
 | _::_,_::_,i + 1,_,h,e=>by
  obtain ⟨x,h1,h2⟩:=UpVs.get (i:=i) h.2 (by simpa using e)
  exact ⟨x,by simpa using h1,h2⟩
 | [],[],_,_,_,e=>by simp at e
 | [],_::_,_,_,h,_=>h.elim
 | _::_,[],_,_,h,_=>h.elim
theorem UpV.ag {xs ys:List AV}(h:UpVs xs ys):UpV (.ag xs) (.ag ys):=fun w Z R u hv=>by
 cases hv with
 | ag hl h1 hx =>
  refine .ag (by rw [hl,h.len]) h1 fun i y u hy hu=>?_
  obtain ⟨x,k1,k2⟩:=h.get hy
  exact k2 _ _ _ _ (hx i x u k1 hu)
def LkU (l:List (Nat×AV)):List (Nat×AV)->Prop
 | []=>True
 | (t,z)::r=>(∃ x,lk l t=some x/\UpV x z)/\LkU l r
theorem LkU.at_ {l:List (Nat×AV)}:∀ {l':List (Nat×AV)},LkU l l'->∀ t z,lk l' t=some z->∃ x,lk l t=some x/\UpV x z
 | [],_,t,z,h=>by cases h
 | (k,z0)::r,⟨h1,h2⟩,t,z,h=>by
  rw [lk_put] at h
  split at h
  ·next hk=>injection h with h; subst hk h; exact h1
  ·exact h2.at_ t z h
/-- A value in which an own thing is frozen. -/
def FzU (e z x y:AV):Prop:=∀ (w:World) (Z Z':Nat->Prop) (R:List RI) (u:Value),(∀ c,Z c->Z' c)->(∀ v,VR w Z R e v->VR w Z' R z v)->VR w Z R x u->VR w Z' R y u
section
variable {e z:AV}
theorem FzU.refl {x:AV}:FzU e z x x:=fun _ _ _ _ _ hz _ h=>h.mono (fun _ _=>rfl) hz (fun _ _ h=>h)
theorem Hk:FzU e z e z:=fun _ _ _ _ u _ k h=>k u h
def FzUs (e z:AV):List AV->List AV->Prop
 | [],[]=>True
 | x::xs,y::ys=>FzU e z x y/\FzUs e z xs ys
 | _,_=>False
theorem FzUs.len:∀ {xs ys:List AV},FzUs e z xs ys->xs.length=ys.length
 | [],[],_=>rfl
 | _::_,_::_,h=>by simp [FzUs.len h.2]
 | [],_::_,h=>h.elim
 | _::_,[],h=>h.elim
theorem FzUs.get:∀ {xs ys:List AV}{i:Nat}{y:AV},FzUs e z xs ys->ys[i]? = some y->∃ x,xs[i]? = some x/\FzU e z x y
 | _::_,_::_,0,_,h,q=>by simp at q; subst q; exact ⟨_,rfl,h.1⟩
 | _::_,_::_,i + 1,_,h,q=>by
  obtain ⟨x,h1,h2⟩:=FzUs.get (i:=i) h.2 (by simpa using q)
  exact ⟨x,by simpa using h1,h2⟩
 | [],[],_,_,_,q=>by simp at q
 | [],_::_,_,_,h,_=>h.elim
 | _::_,[],_,_,h,_=>h.elim
theorem FzU.ag {xs ys:List AV}(h:FzUs e z xs ys):FzU e z (.ag xs) (.ag ys):=fun w Z Z' R u hz k hv=>by
 cases hv with
 | ag hl h1 hx =>
  refine .ag (by rw [hl,h.len]) h1 fun i y u hy hu=>?_
  obtain ⟨x,k1,k2⟩:=h.get hy
  exact k2 _ _ _ _ _ hz k (hx i x u k1 hu)
theorem FzU.fn {f:FuncId}{xs ys:List AV}(h:FzUs e z xs ys):FzU e z (.fn f [] xs) (.fn f [] ys):=fun w Z Z' R u hz k hv=>by
 cases hv with
 | fn hl hl' hx hy =>
  refine .fn hl (by rw [hl',h.len]) (fun i x u h=>by simp at h) fun i y u hy' hu=>?_
  obtain ⟨x,k1,k2⟩:=h.get hy'
  exact k2 _ _ _ _ _ hz k (hy i x u k1 hu)
end
def LkF (l:List (Nat×AV)) (e z:AV):List (Nat×AV)->Prop
 | []=>True
 | (t,y)::r=>(∃ x,lk l t=some x/\FzU e z x y)/\LkF l e z r
theorem LkF.at_ {l:List (Nat×AV)}{e z:AV}:∀ {l':List (Nat×AV)},LkF l e z l'->∀ t y,lk l' t=some y->∃ x,lk l t=some x/\FzU e z x y
 | [],_,t,y,h=>by cases h
 | (k,z0)::r,⟨h1,h2⟩,t,y,h=>by
  rw [lk_put] at h
  split at h
  ·next hk=>injection h with h; subst hk h; exact h1
  ·exact h2.at_ t y h
theorem Hn {E:Env}{n:Nat}{l l':List (Nat×AV)}{hp:Hp}{α:Type}{o:Oc α}{e:AV}{x:α}{L:List Asn}(ht:T hp (own_ o e x::L)) (hl:LkF l e (o.cd.enc x) l'):∃ hp',WkY E ⟨Fr n l,hp⟩ ⟨Fr n l',hp'⟩/\T hp' L:=by
 obtain ⟨F,p,hn',_,hk⟩:=ht.act
 refine ⟨L2 F hp,fun base w Z R a sr=>?_,hk _ fun b hb _=>M8 hb⟩
 have hown:∀ c,(∃ b ∈ F,∃ r,R[b]? = some r/\c=r.c)->own R hp c:=fun c ⟨b,hb,r,hr,hc⟩=>by
  obtain ⟨B,k1,k2⟩:=o.own p hb
  exact ⟨b,B,r,k1,k2,hr,hc.symm⟩
 have hown':∀ c,own R (L2 F hp) c->own R hp c:=fun c ⟨b,B,r,h1,h2,h3,h4⟩=>⟨b,B,r,(Hy.1 h1).2,h2,h3,h4⟩
 have hzo:∀ c,(Z c\/∃ b ∈ F,∃ r,R[b]? = some r/\c=r.c)->Z c\/own R hp c:=fun c hc=>hc.imp_right (hown c)
 have up':∀ {x:AV} {u:Value} {R':List RI},VR w Z R' x u->VR w (fun c=>Z c\/∃ b ∈ F,∃ r,R[b]? = some r/\c=r.c) R' x u:=fun hv=>hv.mono (fun _ _=>rfl) (fun _ h=> .inl h) (fun _ _ h=>h)
 refine ⟨fun c=>Z c\/∃ b ∈ F,∃ r,R[b]? = some r/\c=r.c,R,⟨⟨by simp [L2,sr.hh.len],fun b B hB=>?_,fun b b' B B' r r' h1 f1 h2 f2 g1 g2 e=>?_,fun c hc=>?_⟩,⟨?_,fun t x hx=>?_⟩,?_,fun g x hx=>up' (sr.gl g x hx),sr.bs⟩,⟨rfl,rfl,rfl,Nat.le_refl _,fun _ _ _=>rfl,fun c hc=> .inl (hown' c hc),fun _ h=> .inl h,fun c hc=>(hzo c hc).imp_right .inl,fun _ _ h=>h⟩⟩
 ·obtain ⟨hb,hB⟩:=Hy.1 hB
  obtain ⟨r,arr,us,g1,g2,g3,g4,g5,g6,g7,g8,g9,g10⟩:=sr.hh.blk b B hB
  refine ⟨r,arr,us,g1,g2,g3,g4,g5,g6,fun hf=> .inl (g7 hf),fun hf hc=>?_,⟨g9.len,fun i x u hx hu=>up' (g9.at_ i x u hx hu)⟩,g10⟩
  rcases hc with hc | ⟨b',hb',r',hr',hc⟩
  ·exact g8 hf hc
  ·obtain ⟨B',k1,k2⟩:=o.own p hb'
   have:=sr.hh.inj b b' B B' r r' hB hf k1 k2 g1 hr' hc
   exact hb (this ▸ hb')
 ·exact sr.hh.inj b b' B B' r r' (Hy.1 h1).2 f1 (Hy.1 h2).2 f2 g1 g2 e
 ·rcases hzo c hc with hc | ⟨b,B,r,k1,_,k3,k4⟩
  ·exact sr.hh.zlt c hc
  ·exact k4 ▸ sr.hh.rltL k1 k3
 ·rw [EP]; have:=sr.fr.1; rw [EP] at this; exact this
 ·rw [Fr_get] at hx
  split at hx
  ·next ht =>
   injection hx with hx
   obtain ⟨x0,h1,hf⟩:=hl.at_ t x hx
   exact hf _ _ _ _ _ (fun c h=> .inl h) (fun v hv=>(o.vr sr.hh p hv).up) (sr.fr.2 t x0 (by rw [Fr_get,if_pos ht,h1]))
  ·cases hx
 ·exact sr.mks.imp fun q h3 h4 h5=>⟨h3,fun hc=>(hzo q hc).elim h4 h5,fun ho=>h5 (hown' q ho)⟩
/-- What slices.Clone makes is own. -/
theorem J8 {α:Type}{c:Cd α}{k:Nat}{t:TypeId}{h:Hp}{L:List Asn}{xs:List α}{x:AV}{h':Hp}(ht:T h L) (hO:(xs=[]/\x = .e0/\h'=[])\/(x = .rf 0 0 xs.length xs.length/\h'=[some ⟨k,t,xs.map c.enc,false⟩])):∃ e hp,e=shN h.length x/\hp=h++h'/\T hp (own_ (ocL k t (ocV c)) e xs::L):=by
 rcases hO with ⟨rfl,rfl,rfl⟩ | ⟨rfl,rfl⟩
 ·exact ⟨.e0,h,rfl,by simp,T.e0 ht⟩
 ·exact ⟨.rf h.length 0 xs.length xs.length,h++[some ⟨k,t,xs.map c.enc,false⟩],rfl,rfl,N9 (Ix ht) rfl⟩
theorem J7 {α:Type}{c:Cd α}{k:Nat}{t:TypeId}{xs:List α}:∀ (x:AV) (h':Hp),((xs=[]/\x = .e0/\h'=[])\/(x = .rf 0 0 xs.length xs.length/\h'=[some ⟨k,t,xs.map c.enc,false⟩]))->Gy x=true/\LK h'=true:=by
 rintro x h' (⟨rfl,rfl,rfl⟩ | ⟨rfl,rfl⟩)
 ·exact ⟨rfl,rfl⟩
 ·exact ⟨rfl,N2 xs⟩
abbrev Cl5:=Int×List UInt8×Bool×List (List UInt8)×Int
def Py:Cd Cl5:=cdA (csC (cdK .u8) (csC cdS (csC cdB (csC (cdL 1 cdS) (csE cdI))))) (fun _=>rfl)
/-- A clause, its names in an own slice. -/
def ocS (t:TypeId):Oc Cl5 where
 cd:=Py
 at_ h e x F:=∃ en,e = .ag [.v (.int .u8 x.1),.st x.2.1,.v (.bool x.2.2.1),en,.v (.int .i64 x.2.2.2.2)]/\(ocL 1 t (ocV cdS)).at_ h en x.2.2.2.1 F
 loc:=fun ⟨en,h1,h2⟩ k=>⟨en,h1,(ocL 1 t (ocV cdS)).loc h2 k⟩
 own:=fun ⟨_,_,h2⟩ hb=>(ocL 1 t (ocV cdS)).own h2 hb
 vr:=fun {w Z R h e x F u} hh ha hv=>by
  obtain ⟨en,rfl,h2⟩:=ha
  cases hv with
  | ag hl h1 hx =>
   rename_i us
   have flat:∀ {y:AV} {q:Value},Ch y=true->VR w Z R y q->VR w (fun c=>Z c\/∃ b ∈ F,∃ r,R[b]? = some r/\c=r.c) [] y q:=fun hy hq=>(FC hy hq).mono (fun _ _=>rfl) (fun _ h=> .inl h) (fun _ _ h=>h)
   refine .ag (by rw [hl]; rfl) h1 fun i y q hy hq=>?_
   match i,hy with
   | 0,hy =>
    obtain rfl:=OI hy
    exact flat rfl (hx 0 _ q rfl hq)
   | 1,hy =>
    obtain rfl:=OI hy
    exact flat rfl (hx 1 _ q rfl hq)
   | 2,hy =>
    obtain rfl:=OI hy
    exact flat rfl (hx 2 _ q rfl hq)
   | 3,hy =>
    obtain rfl:=OI hy
    exact (ocL 1 t (ocV cdS)).vr hh h2 (hx 3 _ q rfl hq)
   | 4,hy =>
    obtain rfl:=OI hy
    exact flat rfl (hx 4 _ q rfl hq)
   | j + 5,hy=>simp [csC,csE] at hy
/-- The first m clauses have names of their own, the others frozen ones. -/
def atM (t:TypeId) (h:Hp):Nat->List AV->List Cl5->List Nat->Prop
 | 0,es,xs,F=>es=xs.map Py.enc/\F=[]
 | m + 1,e::es,x::xs,F=>∃ F1 F2,F=F1++F2/\(ocS t).at_ h e x F1/\atM t h m es xs F2
 | _ + 1,_,_,_=>False
theorem NX {t:TypeId}{h:Hp}:∀ {xs:List Cl5}{es:List AV}{F:List Nat},atM t h xs.length es xs F->All3 ((ocS t).at_ h) es xs F
 | [],es,F,⟨h1,h2⟩=>by subst h1; exact h2
 | x::xs,e::es,F,⟨F1,F2,h1,h2,h3⟩=>⟨F1,F2,h1,h2,NX h3⟩
 | x::xs,[],F,h=>h.elim
/-- The struct as the interpreter has it. -/
def clE (x:Cl5) (en:AV):AV:= .ag [.v (.int .u8 x.1),.st x.2.1,.v (.bool x.2.2.1),en,.v (.int .i64 x.2.2.2.2)]
section
variable {h:Hp}{e en:AV}{x:Cl5}{xs:List Cl5}{t tn ty:TypeId}{L:List Asn}{P:Program}{i:Nat}
theorem Mh (ht:T h (own_ (ocS tn) e x::L)):∃ en,e=clE x en/\T h (own_ (ocL 1 tn (ocV cdS)) en x.2.2.2.1::L):=by
 obtain ⟨F,⟨en,h1,h2⟩,hn,hk,_⟩:=ht.act
 exact ⟨en,h1,hk h _ F h2 hn (fun _ _ _=>rfl) (fun b hb=> .inl hb)⟩
theorem JR (x:Cl5){ns:List (List UInt8)}(ht:T h (own_ (ocL 1 tn (ocV cdS)) en ns::L)):T h (own_ (ocS tn) (clE x en) (x.1,x.2.1,x.2.2.1,ns,x.2.2.2.2)::L):=by
 obtain ⟨F,h2,hn,hk,_⟩:=ht.act
 exact hk h _ F ⟨en,rfl,h2⟩ hn (fun _ _ _=>rfl) (fun b hb=> .inl hb)
theorem MB {ns:List (List UInt8)}(ht:T h (own_ (ocL 1 tn (ocV cdS)) en ns::L)):en.cel=[en]:=by
 obtain ⟨F,p,_⟩:=ht.act
 rcases p with ⟨rfl,_⟩ | ⟨b,es,F',rfl,_⟩ <;> rfl
theorem Q8:Fit (ocS tn) 5:=fun h e x F hx=>by
 obtain ⟨en,rfl,h2⟩:=hx
 rcases h2 with ⟨rfl,_⟩ | ⟨b,es,F',rfl,_⟩
 ·exact ⟨rfl,rfl,rfl⟩
 ·exact ⟨rfl,rfl,rfl⟩
/-- The names of a clause of an own slice, borrowed. -/
theorem Mb (ht:T h (own_ (ocL 5 t (ocS tn)) e xs::L)) (hv:xs[i]? = some x) (hm:Bp P ty=some 1) (hg:LY P ty=some false):∃ en,Eb P h ty (I4 (eAt e i) 3)=some en/\T h (own_ (ocL 1 tn (ocV cdS)) en x.2.2.2.1::QF 5 t (ocS tn) e xs i (clE x en) x::L):=by
 obtain ⟨e',ht'⟩:=ht.focus Q8 hv
 obtain ⟨en,rfl,ht2⟩:=Mh ht'
 have hc:=MB ht2
 refine ⟨en,?_,ht2⟩
 obtain ⟨F2,q,_⟩:=(T.drop ht2).act
 obtain ⟨b,es,F',rfl,h2,_,h4,_⟩:=q
 obtain ⟨a1,_,_⟩:=h4.at_
 have hg':Pg (clE x en) 3 1 false=some en:=rfl
 simp [Eb,hm,hg,eAt,I4,h2,a1,hg']
/-- A part of an element is written: the element that is held apart goes back as the new one. -/
theorem Qd {α:Type}{o:Oc α}{k n off:Nat}{xs:List α}{x0 x:α}{e' y v:AV}(ht:T h (QF k t o e xs n e' x0::own_ o y x::L)) (hv:QZ e' off v=some y) (hs:Bp P ty=some v.nc) (hnt:v.notTp=true):∃ h',ED P h ty (I4 (eAt e n) off) v=some h'/\T h' (own_ (ocL k t o) e (xs.set n x)::L):=by
 obtain ⟨F,p,hn',hk,_⟩:=(T.join.1 ht).act
 obtain ⟨F1,F2,rfl,⟨b,es,F',rfl,h2,rfl,h4,⟨h5,h6⟩,_⟩,q⟩:=p
 obtain ⟨a1,a2,a3⟩:=h4.at_
 have hb:=Hw h2
 obtain ⟨F'',k1,k2⟩:=h4.fill q
 have hbn:b ∉ F'':=fun hb'=>by
  have:=k2.mem_iff.1 hb'
  rcases List.mem_append.1 this with h1 | h1
  ·exact (DG.1 hn').2.2 b (by simp) h1
  ·exact (List.nodup_cons.1 (DG.1 hn').1).1 h1
 have same:∀ c,c≠b->(h.set b (some ⟨k,t,es.set n y,false⟩))[c]? = h[c]?:=fun c hc=>by rw [List.getElem?_set,if_neg (Ne.symm hc)]
 refine ⟨h.set b (some ⟨k,t,es.set n y,false⟩),by simp [ED,eAt,I4,h2,a1,hs,hnt,hv],hk _ _ (b::F'') (.inr ⟨b,es.set n y,F'',by simp,by simp [hb],rfl,k1.mono fun e x G hG h5=>o.loc h5 fun c hc=>same c fun e=>hbn (e ▸ hG c hc)⟩) (List.nodup_cons.2 ⟨hbn,k2.nodup_iff.2 ?_⟩) (fun c hc _=>same c fun e=>hc (by subst e; simp)) (fun c hc=> .inl ?_)⟩
 ·obtain ⟨n1,n2,n3⟩:=DG.1 hn'
  exact DG.2 ⟨n2,(List.nodup_cons.1 n1).2,fun a ha ha2=>n3 a (List.mem_cons_of_mem _ ha2) ha⟩
 ·rcases List.mem_cons.1 hc with rfl | hc
  ·simp
  ·rcases List.mem_append.1 (k2.mem_iff.1 hc) with h1 | h1
   ·exact List.mem_append_right _ h1
   ·exact List.mem_append_left _ (List.mem_cons_of_mem _ h1)
/-- The word of a clause of an own slice is written. -/
theorem PK {s:List UInt8}(ht:T h (own_ (ocL 5 t (ocS tn)) e xs::L)) (hv:xs[i]? = some x) (hs:Bp P ty=some 1):∃ h',ED P h ty (I4 (eAt e i) 1) (.st s)=some h'/\T h' (own_ (ocL 5 t (ocS tn)) e (xs.set i (x.1,s,x.2.2))::L):=by
 obtain ⟨e',ht'⟩:=ht.focus Q8 hv
 obtain ⟨en,rfl,ht2⟩:=Mh ht'
 have hc:=MB ht2
 have ht3:=JR (x.1,s,x.2.2) ht2
 have ht4:T h (QF 5 t (ocS tn) e xs i (clE x en) x::own_ (ocS tn) (clE (x.1,s,x.2.2) en) (x.1,s,x.2.2)::L):=ht3.front 1 rfl
 exact Qd ht4 rfl hs rfl
end
theorem Li {t:TypeId}{h h':Hp}:∀ {m:Nat}{es:List AV}{xs:List Cl5}{F:List Nat},atM t h m es xs F->(∀ b ∈ F,h'[b]? = h[b]?)->atM t h' m es xs F
 | 0,_,_,_,hm,_=>hm
 | m + 1,e::es,x::xs,F,⟨F1,F2,h1,h2,h3⟩,k=>⟨F1,F2,h1,(ocS t).loc h2 fun b hb=>k b (by rw [h1]; exact List.mem_append_left _ hb),Li h3 fun b hb=>k b (by rw [h1]; exact List.mem_append_right _ hb)⟩
 | _ + 1,[],_,_,hm,_=>by unfold atM at hm; exact hm.elim
 | _ + 1,_::_,[],_,hm,_=>by unfold atM at hm; exact hm.elim
theorem NY {t:TypeId}{h:Hp}{b:Nat}:∀ {m:Nat}{es:List AV}{xs:List Cl5}{F:List Nat},atM t h m es xs F->b ∈ F->∃ B,h[b]? = some (some B)/\B.fz=false
 | 0,_,_,_,⟨_,h2⟩,hb=>by rw [h2] at hb; cases hb
 | m + 1,e::es,x::xs,F,⟨F1,F2,h1,h2,h3⟩,hb=>by
  rw [h1] at hb
  rcases List.mem_append.1 hb with hb | hb
  ·exact (ocS t).own h2 hb
  ·exact NY h3 hb
 | _ + 1,[],_,_,hm,_=>by unfold atM at hm; exact hm.elim
 | _ + 1,_::_,[],_,hm,_=>by unfold atM at hm; exact hm.elim
theorem KR {t:TypeId}{h:Hp}{e'':AV}{x'':Cl5}{Fy:List Nat}(hp:(ocS t).at_ h e'' x'' Fy):∀ {m:Nat}{es:List AV}{xs:List Cl5}{F:List Nat}{x:Cl5},atM t h m es xs F->xs[m]? = some x->es[m]? = some (Py.enc x)/\∃ F'',atM t h (m + 1) (es.set m e'') (xs.set m x'') F''/\F''.Perm (Fy++F)
 | 0,es,[],F,x,_,hx=>by simp at hx
 | 0,es,y::xs,F,x,⟨h1,h2⟩,hx=>by
  obtain rfl:y=x:=by simpa using hx
  subst h1 h2
  exact ⟨rfl,Fy++[],⟨Fy,[],rfl,hp,rfl,rfl⟩,List.Perm.refl _⟩
 | m + 1,e::es,y::xs,F,x,⟨F1,F2,h1,h2,h3⟩,hx=>by
  obtain ⟨k1,F'',k2,k3⟩:=KR hp h3 (show xs[m]? = some x by simpa using hx)
  refine ⟨by simpa using k1,F1++F'',⟨F1,F'',rfl,h2,k2⟩,?_⟩
  rw [h1]
  refine (List.Perm.append_left F1 k3).trans ?_
  rw [<-List.append_assoc,<-List.append_assoc]
  exact List.Perm.append_right _ List.perm_append_comm
 | _ + 1,[],_,_,_,hm,_=>by unfold atM at hm; exact hm.elim
 | _ + 1,_::_,[],_,_,hm,_=>by unfold atM at hm; exact hm.elim
/-- An own slice of clauses of which the first m have names of their own. -/
def Oa (t tn:TypeId) (e:AV) (xs:List Cl5) (m:Nat):Asn where
 at_ h F:=(e = .e0/\xs=[]/\F=[])\/∃ b es F',e = .rf b 0 xs.length xs.length/\h[b]? = some (some ⟨5,t,es,false⟩)/\F=b::F'/\atM tn h m es xs F'
 loc:=fun {h h' F} ha k=>by
  rcases ha with h1 | ⟨b,es,F',h1,h2,h3,h4⟩
  ·exact .inl h1
  ·subst h3
   exact .inr ⟨b,es,F',h1,(k b (by simp)).trans h2,rfl,Li h4 fun c hc=>k c (List.mem_cons_of_mem _ hc)⟩
 own:=fun {h F b} ha hb=>by
  rcases ha with ⟨_,_,h1⟩ | ⟨b',es,F',h1,h2,h3,h4⟩
  ·rw [h1] at hb; cases hb
  ·subst h3
   rcases List.mem_cons.1 hb with rfl | hb
   ·exact ⟨_,h2,rfl⟩
   ·exact NY h4 hb
section
variable {h:Hp}{e:AV}{x:Cl5}{xs:List Cl5}{t tn ty:TypeId}{L:List Asn}{P:Program}{m:Nat}
theorem RQ (ht:T h (own_ (ocL 5 t (ocV Py)) e xs::L)):T h (Oa t tn e xs 0::L):=by
 obtain ⟨F,p,hn,hk,_⟩:=ht.act
 refine hk h _ F ?_ hn (fun _ _ _=>rfl) (fun b hb=> .inl hb)
 rcases p with h1 | ⟨b,es,F',h1,h2,h3,h4⟩
 ·exact .inl h1
 ·obtain ⟨k1,k2⟩:=h4.leaf_inv
  exact .inr ⟨b,es,F',h1,h2,h3,k1,k2⟩
theorem PC (ht:T h (Oa t tn e xs xs.length::L)):T h (own_ (ocL 5 t (ocS tn)) e xs::L):=by
 obtain ⟨F,p,hn,hk,_⟩:=ht.act
 refine hk h _ F ?_ hn (fun _ _ _=>rfl) (fun b hb=> .inl hb)
 rcases p with h1 | ⟨b,es,F',h1,h2,h3,h4⟩
 ·exact .inl h1
 ·exact .inr ⟨b,es,F',h1,h2,h3,NX h4⟩
/-- The names of the first clause that has none of its own. -/
theorem ldM (ht:T h (Oa t tn e xs m::L)) (hv:xs[m]? = some x) (hm:Bp P ty=some 1) (hg:LY P ty=some false):Eb P h ty (I4 (eAt e m) 3)=some ((cdL 1 cdS).enc x.2.2.2.1):=by
 obtain ⟨F,p,_⟩:=ht.act
 rcases p with ⟨_,rfl,_⟩ | ⟨b,es,F',rfl,h2,_,h4⟩
 ·simp at hv
 ·obtain ⟨k1,_⟩:=KR (t:=tn) (h:=h) (e'':=clE x .e0) (x'':=(x.1,x.2.1,x.2.2.1,[],x.2.2.2.2)) (Fy:=[]) ⟨.e0,rfl,.inl ⟨rfl,rfl,rfl⟩⟩ h4 hv
  have hg':Pg (Py.enc x) 3 1 false=some ((cdL 1 cdS).enc x.2.2.2.1):=rfl
  simp [Eb,hm,hg,eAt,I4,h2,k1,hg']
theorem stM {y:AV}{ns:List (List UInt8)}(ht:T h (Oa t tn e xs m::own_ (ocL 1 tn (ocV cdS)) y ns::L)) (hv:xs[m]? = some x) (hs:Bp P ty=some 1):∃ h',ED P h ty (I4 (eAt e m) 3) y=some h'/\T h' (Oa t tn e (xs.set m (x.1,x.2.1,x.2.2.1,ns,x.2.2.2.2)) (m + 1)::L):=by
 have hy:=MB (ht.front 1 rfl)
 have hyn:y.nc=1/\y.notTp=true:=by
  obtain ⟨F,p,_⟩:=(ht.front 1 rfl).act
  rcases p with ⟨rfl,_⟩ | ⟨b,es,F',rfl,_⟩ <;> exact ⟨rfl,rfl⟩
 obtain ⟨F,p,hn',hk,_⟩:=(T.join.1 ht).act
 obtain ⟨F1,F2,rfl,p,q⟩:=p
 rcases p with ⟨_,rfl,_⟩ | ⟨b,es,F',rfl,h2,rfl,h4⟩
 ·simp at hv
 ·have hb:=Hw h2
  obtain ⟨k1,F'',k2,k3⟩:=KR (t:=tn) (h:=h) (e'':=clE x y) (x'':=(x.1,x.2.1,x.2.2.1,ns,x.2.2.2.2)) (Fy:=F2) ⟨y,rfl,q⟩ h4 hv
  have hbn:b ∉ F'':=fun hb'=>by
   have:=k3.mem_iff.1 hb'
   rcases List.mem_append.1 this with h1 | h1
   ·exact (DG.1 hn').2.2 b (by simp) h1
   ·exact (List.nodup_cons.1 (DG.1 hn').1).1 h1
  have same:∀ c,c≠b->(h.set b (some ⟨5,t,es.set m (clE x y),false⟩))[c]? = h[c]?:=fun c hc=>by rw [List.getElem?_set,if_neg (Ne.symm hc)]
  have hset:QZ (Py.enc x) 3 y=some (clE x y):=by
   have e1:(Py.enc x).cel=[.v (.int .u8 x.1),.st x.2.1,.v (.bool x.2.2.1),(cdL 1 cdS).enc x.2.2.2.1,.v (.int .i64 x.2.2.2.2)]:=rfl
   unfold QZ
   rw [hy,e1]
   rfl
  refine ⟨h.set b (some ⟨5,t,es.set m (clE x y),false⟩),by simp [ED,eAt,I4,h2,k1,hs,hyn,hset],hk _ _ (b::F'') (.inr ⟨b,es.set m (clE x y),F'',by simp,by simp [hb],rfl,Li k2 fun c hc=>same c fun e=>hbn (e ▸ hc)⟩) (List.nodup_cons.2 ⟨hbn,k3.nodup_iff.2 ?_⟩) (fun c hc _=>same c fun e=>hc (by subst e; simp)) (fun c hc=> .inl ?_)⟩
  ·obtain ⟨n1,n2,n3⟩:=DG.1 hn'
   exact DG.2 ⟨n2,(List.nodup_cons.1 n1).2,fun a ha ha2=>n3 a (List.mem_cons_of_mem _ ha2) ha⟩
  ·rcases List.mem_cons.1 hc with rfl | hc
   ·simp
   ·rcases List.mem_append.1 (k3.mem_iff.1 hc) with h1 | h1
    ·exact List.mem_append_right _ h1
    ·exact List.mem_append_left _ (List.mem_cons_of_mem _ h1)
end
/-- One cell of one value. -/
theorem SB {e:AV}(h:e.notTp=true/\e.notAg=true):e.cel=[e]:=by
 obtain ⟨h1,h2⟩:=h
 cases e <;> first | (exact (Bool.false_ne_true h1).elim) | (exact (Bool.false_ne_true h2).elim) | rfl
section
variable {P:Program}{h:Hp}{k bytes m off:Nat}{t tn ty:TypeId}{e en:AV}{xs:List Cl5}{x:Cl5}{L:List Asn}{i:Int}{ki:IntKind}
theorem RD (ht:T h (Oa t tn e xs m::L)) (ha:apB P ty t 5 bytes=true) (hv:idx xs i=some x):CW P h ty e (.v (.int ki i))=some (eAt e i.toNat):=by
 obtain ⟨i',z,a1,a2,a3,a4,_⟩:=Gh ha
 have hu:P.underlying ty=some (.slice t):=by
  unfold Ey at a1
  split at a1
  ·next e he=>injection a1 with a1; rw [he,a1]
  ·cases a1
 obtain ⟨F,p,_⟩:=ht.act
 obtain ⟨h0,h1⟩:=FS hv
 rcases p with ⟨rfl,rfl,_⟩ | ⟨b,es,F',rfl,h2,_⟩
 ·simp at h1
 ·rw [RG hu (by rw [Bp,a2,<-a4]; rfl) h2 rfl h0 (List.getElem?_eq_some_iff.1 h1).1]
  simp [eAt]
theorem Pe {f n:Nat}(ht:T h (Oa t tn e xs m::L)) (hv:xs[n]? = some x) (hf:Rm P ty f off=true):C4 P ty (eAt e n) f=some (I4 (eAt e n) off):=by
 obtain ⟨fs,fd,q,h1,h2,h3,rfl⟩:=MY hf
 obtain ⟨F,p,_⟩:=ht.act
 rcases p with ⟨rfl,rfl,_⟩ | ⟨b,es,F',rfl,_,_⟩
 ·simp at hv
 ·simp [C4,h1,h2,h3,I4,eAt]
theorem Of {j:Nat}{ns:List (List UInt8)}(ht:T h (own_ (ocL 1 tn (ocV cdS)) en ns::QF 5 t (ocS tn) e xs j (clE x en) x::L)):T h (own_ (ocL 5 t (ocS tn)) e (xs.set j (x.1,x.2.1,x.2.2.1,ns,x.2.2.2.2))::L):=T.merge (JR x ht)
end
/-- The first n blocks are given up. -/
def M9:Nat->Hp->Hp
 | 0,h=>h
 | n + 1,h=>(M9 n h).set n none
theorem MZ {w:World}{Z:Nat->Prop}{R:List RI}{h:Hp}(hh:HR w Z R h):∀ n,HR w Z R (M9 n h)
 | 0=>hh
 | n + 1=>((MZ hh n).kill n).1
theorem LL {h:Hp}:∀ {n b:Nat}{B:Blk},(M9 n h)[b]? = some (some B)->n<=b/\h[b]? = some (some B)
 | 0,b,B,e=>⟨Nat.zero_le _,e⟩
 | n + 1,b,B,e=>by
  unfold M9 at e
  rw [List.getElem?_set] at e
  split at e
  ·split at e <;> cases e
  ·next hne =>
   obtain ⟨h1,h2⟩:=LL e
   exact ⟨by omega,h2⟩
def RunDX (E:Env) (ops:Array Oper) (T:Nat) (n0 k:Nat) (rest:List Oper) (s:St) (K:St->Prop):Prop :=
 ∀ (base:Bs) (Q:Act->World->Prop) (w0:World) (Z:Nat->Prop) (R0:List RI) (h0:Hp) (a:Act) (w:World) (R:List RI),HR w0 Z R0 h0->n0=h0.length->SR E base w Z R s a->w0.grownBy w none->Step w0 Z R0 h0 w Z R s.hp->(∀ (b:Nat) (B:Option Blk),h0[b]? = some B->s.hp[b]? = some B)->(∀ j,rest[j]? = ops[k + j]?) ->
  (∀ s' a' w' Z' R',K s'->SR E base w' Z' R' s' a'->StepW w0 Z R0 h0 w' Z' R' s'.hp->Q a' w')->Ek E.P ops (fun w'=>w0.grownBy w' none) (F4 ops T) T Q k rest a w
section
variable {E:Env}{cx:Cx}{ops:Array Oper}{pre rest rest':List Oper}{s s1:St}{K:St->Prop}{n n0 k T:Nat}{l:List (Nat×AV)}{hp hp':Hp}{Q:Ex->St->Prop}{id:Nat}{fid:FuncId}
theorem RunDX.done (hr:rest=[]) (kk:K s):RunDX E ops T n0 k rest s K:=by
 subst hr
 exact fun base Q w0 Z R0 h0 a w R _ _ sr hgr st _ _ q=>⟨fun _=>hgr,q s a w Z R kk sr st.w⟩
theorem G8 (hT:T=k) (h:RunS E ops rest s K):RunDX E ops T n0 k rest s K:=by
 subst hT
 intro base Q w0 Z R0 h0 a w R _ _ sr hgr st _ hops q
 exact Hg (h base Q a w Z R sr fun s' a' w' Z' R' hK sr' st'=>q s' a' w' Z' R' hK sr' (st.w.trans st')) (Nat.le_refl _) (fun _=>hgr) (fun j hj=>H1 hj) hops
theorem Fu (hE:EnvOk E):∀ {pre:List Oper}{s:St}{k:Nat},(pre.all fun o=>!isW o.op)=true->k + pre.length<=T->opsD E (evC E 0) ⟨none,false⟩ ops n0 pre s=some s1->RunDX E ops T n0 (k + pre.length) rest s1 K->RunDX E ops T n0 k (pre++rest) s K
 | [],s,k,_,_,e,kk=>by injection e with e; subst e; exact kk
 | o::pre,s,k,hp,hT,e,kk=>by
  intro base Q w0 Z R0 h0 a w R hh0 hn0 sr hgr st hpre hops q
  simp only [List.all_cons,Bool.and_eq_true,Bool.not_eq_true'] at hp
  obtain ⟨hW,hp⟩:=hp
  have hok:ops[k]? = some o:=by have:=hops 0; simpa using this.symm
  have hops':∀ j,(pre++rest)[j]? = ops[k + 1 + j]?:=fun j=>by have:=hops (j + 1); simpa [Nat.add_assoc,Nat.add_comm 1 j] using this
  have hk1:k + 1 + pre.length=k + (o::pre).length:=by simp; omega
  have kk':RunDX E ops T n0 (k + 1 + pre.length) rest s1 K:=by rw [hk1]; exact kk
  have hT':k + 1 + pre.length<=T:=by rw [hk1]; exact hT
  have hkT:¬ T<=k:=by omega
  show Ek E.P ops _ _ _ Q k (o::(pre++rest)) a w
  refine ⟨fun _=>hgr,?_⟩
  unfold opsD at e
  rw [if_neg (by rw [hW]; simp)] at e
  split at e
  ·cases e
  ·next hw =>
   rw [if_neg (by rw [wantedA_eq sr hw]; simp)]
   exact Fu hE hp hT' e kk' base Q w0 Z R0 h0 _ w R hh0 hn0 (sr.put undef_vr) hgr st hpre hops' q
  ·next hw =>
   rw [if_pos (wantedA_eq sr hw)]
   have hρ:∀ o x,opA E s.fr o=some x->VR w Z R x (a.eval o):=fun o x e=>opA_vr sr o x e
   split at e
   ·next x hx =>
    split at e
    ·next hld =>
     have hq:=KA hx
     rw [if_neg (by rw [Hf hok hq hkT]; simp)]
     obtain ⟨u,hu,hrun⟩:=evOpQ_sound sr.hh hρ hx
     have hquiet:∃ u,VR w Z R x u/\QuietAt E.P (Cf (fun w'=>w0.grownBy w' none) o) o u a:=by
      cases hl:L0 o.op with
      | false=>exact ⟨u,hu,fun w' _=>hrun w' fun h=>by rw [hl] at h; cases h⟩
      | true =>
       obtain ⟨u1,hu1,hq1⟩:=FI hh0 sr hgr st hpre hl (by rw [<-hn0]; exact hld) hx
       exact ⟨u1,hu1,hq1.up (He hl)⟩
     obtain ⟨u,hu,hquiet⟩:=hquiet
     exact ⟨u,hquiet,Fu hE hp hT' e kk' base Q w0 Z R0 h0 _ w R hh0 hn0 (sr.put hu) hgr st hpre hops' q⟩
    ·cases e
   ·split at e
    ·next x h' hx =>
     have hq:=HC hx
     rw [if_pos (Dr hok hq)]
     obtain ⟨u,w',R',h1,h2,h3,h4,h5⟩:=evOpN_sound hρ sr.hh hx
     exact Ie h1 (Fu hE hp hT' e kk' base Q w0 Z R0 h0 _ w' R' hh0 hn0 ((sr.step h2 h4).put h3) (DX hgr h5) (st.trans h4) (fun b B hb=>Gu hx (hpre b B hb)) hops' q)
    ·split at e
     ·next f args tys ho =>
      split at e
      ·next fv xs hf hxs =>
       split at e
       ·next r hr =>
        obtain ⟨x,h'⟩:=r
        have hq:isQ o.op=false:=by rw [ho]; rfl
        rw [if_pos (Dr hok hq)]
        obtain ⟨g,uf,uc,hva,hcl,hret⟩:=ES hE (code_sound hE 0).1 (hρ _ _ hf) (opds_vr hρ hxs) sr.hh sr.gl hr
        unfold Lw
        rw [DY (uf:=uf) (uc:=uc) ho hva rfl hcl w]
        refine Ret.mono hret fun v w' hS=>?_
        obtain ⟨hg1,R',k1,k2,k3⟩:=hS
        exact Fu hE hp hT' e kk' base Q w0 Z R0 h0 _ w' R' hh0 hn0 ((sr.step k1 k3).put k2) (DX hgr hg1) (st.trans k3) (fun b B hb=>Gi hr (hpre b B hb)) hops' q
       ·cases e
      ·cases e
     ·cases e
theorem Dv (hE:EnvOk E) (m:Nat){s:St}(l:List (Nat×AV)) (hp:Hp) (hw:(((rest.take m).all fun o=>!isW o.op)&&Nat.ble (k + (rest.take m).length) T)=true) (h:Mo (opsD E (evC E 0) ⟨none,false⟩ ops n0 (rest.take m) s) l=some (n,xs2 l,hp)) (kk:RunDX E ops T n0 (k + (rest.take m).length) (rest.drop m) ⟨Fr n l,hp⟩ K):RunDX E ops T n0 k rest s K:=by
 obtain ⟨fr,h1,h2,h3⟩:=HF h
 rw [Bool.and_eq_true] at hw
 have:=Fu (k:=k) (T:=T) (pre:=rest.take m) (rest:=rest.drop m) hE hw.1 (Nat.le_of_ble_eq_true hw.2) h1 (fun base Q w0 Z R0 h0 a w R a1 a2 sr a5 a6 a7 a8 q=>kk base Q w0 Z R0 h0 a w R a1 a2 (sr.forget h2 h3) a5 a6 a7 a8 q)
 rwa [List.take_append_drop] at this
theorem RunDX.one (hE:EnvOk E){s s1:St}{o:Oper}(hr:rest=o::rest') (hW:(!isW o.op&&Nat.blt k T)=true) (h:opsD E (evC E 0) ⟨none,false⟩ ops n0 [o] s=some s1) (kk:RunDX E ops T n0 (k + 1) rest' s1 K):RunDX E ops T n0 k rest s K:=by
 subst hr
 rw [Bool.and_eq_true] at hW
 exact Fu (k:=k) hE (pre:=[o]) (by simpa using hW.1) (by have:=Nat.le_of_ble_eq_true hW.2; simpa using this) h kk
/-- An append to a block that was made in this region. -/
theorem RunDX.append (_hE:EnvOk E){o:Oper}{x:AV}{d:Nat}{hM:Hp}(hr:rest=o::rest') (hw:Be ops (Fr n l) o=some true) (hd:o.dst=some d) (hq:isQ o.op=false) (h:Il E.P (opA E (Fr n l)) hp o.op=some (x,hp')) (hm:Il E.P (opA E (Fr n l)) (M9 n0 hp) o.op=some (x,hM)) (hpr:hp'.take n0=hp.take n0) (kk:RunDX E ops T n0 (k + 1) rest' ⟨Fr n ((d,x)::l),hp'⟩ K):RunDX E ops T n0 k rest ⟨Fr n l,hp⟩ K:=by
 subst hr
 intro base Q w0 Z R0 h0 a w R hh0 hn0 sr hgr st hpre hops q
 have hok':ops[k]? = some o:=by have:=hops 0; simpa using this.symm
 have hops':∀ j,rest'[j]? = ops[k + 1 + j]?:=fun j=>by have:=hops (j + 1); simpa [Nat.add_assoc,Nat.add_comm 1 j] using this
 refine ⟨fun _=>hgr,?_⟩
 rw [if_pos (wantedA_eq sr hw),if_pos (Dr hok' hq)]
 have hρ:∀ o x,opA E (Fr n l) o=some x->VR w Z R x (a.eval o):=fun o x e=>opA_vr sr o x e
 obtain ⟨u,w',R',h1,h2,h3,h4⟩:=evOpW_sound (o:=o) hρ sr.hh h
 obtain ⟨u2,w2,R2,g1,g2,g3,g4⟩:=evOpW_sound (o:=o) hρ (MZ sr.hh n0) hm
 rw [h1] at g1
 injection g1 with _ e2
 subst e2
 -- the blocks of before stay
 have hown:∀ c,own R (M9 n0 hp) c->w0.heap.size<=c:=fun c ⟨b,B,r,k1,k2,k3,k4⟩=>by
  obtain ⟨hb,k1⟩:=LL k1
  rcases st.own_ c ⟨b,B,r,k1,k2,k3,k4⟩ with ⟨b0,B0,r0,q1,q2,q3,q4⟩ | h
  ·have hlt:b0 < h0.length:=(List.getElem?_eq_some_iff.1 q1).1
   have:=sr.hh.inj b b0 B B0 r r0 k1 k2 (hpre b0 _ q1) q2 k3 (st.r b0 r0 q3) (by rw [k4,q4])
   omega
  ·exact h
 have hgr2:w0.grownBy w' none:=⟨g4.os.trans hgr.os,g4.tape.trans hgr.tape,g4.output.trans hgr.output,Nat.le_trans hgr.size g4.size,fun c hc _=>by
  rw [g4.block c (Nat.lt_of_lt_of_le hc hgr.size) fun ho=>by have:=hown c ho; omega]
  exact hgr.block c hc (by simp)⟩
 refine Ie h1 ?_
 have sr':=(sr.step h2 h4).put (d:=o.dst) h3
 rw [hd,show HU (⟨Fr n l,hp⟩:St).fr (some d) x=Fr n ((d,x)::l) from CX n l d _] at sr'
 rw [hd]
 exact kk base Q w0 Z R0 h0 _ w' R' hh0 hn0 sr' hgr2 (st.trans h4) (fun b B hb=>by
  have hlt:b < n0:=by rw [hn0]; exact (List.getElem?_eq_some_iff.1 hb).1
  have e:=congrArg (fun l=>l[b]?) hpr
  simp only [List.getElem?_take,hlt,if_true] at e
  show hp'[b]? = _
  rw [e]; exact hpre b B hb) hops' q
end
section
variable {P:Program}{ops:Array Oper}{C:World->Prop}{Q:Act->World->Prop}{loud:Nat->Bool}{T:Nat}
/-- What a quiet operation yields may come ahead of a loud one. -/
theorem LN {n i j fuel:Nat}{oi oj:Oper}{v:Value}{listed:Array Bool}{a:Act}{w:World}(ht:Hm ops loud T n) (hi:ops[i]? = some oi) (hoj:ops[j]? = some oj) (hsel:∀ (j:Nat) (o:Oper) cs b,ops[j]? = some o->o.op≠ .select cs b) (hcl:Closed ops listed) (hsz:listed.size=ops.size)
  (ap1:∀ d,oi.dst=some d->d ∉ oj.looksAt ops) (ap2:∀ d,oi.dst=some d->oj.dst≠some d) (ap3:∀ d,oj.dst=some d->d ∉ oi.looksAt ops) (hr:i ∈ Region.ready .any ops listed) (hj:j ∈ Region.ready .any ops listed) (hji:j≠i) (hlj:loud j=false) (hya:YieldsM P ops C oj v a)
  (H:mOp P ops C loud i (wpM P ops C loud T Q (fuel + 1) (listed.setIfInBounds i true)) a w):mOp P ops C loud i (wpM P ops C loud T Q fuel ((listed.setIfInBounds j true).setIfInBounds i true)) (a.put oj.dst v) w:=by
 have ap2':∀ d,oj.dst=some d->oi.dst≠some d:=fun d hd hd'=>ap2 d hd' hd
 rw [L9 hi ap3 ap2' (fun cs b=>hsel i oi cs b hi)]
 have hG:∀ u,YieldsM P ops C oj v (a.put oi.dst u):=fun u=>hya.same (execOp_put oj (fun cs b=>hsel j oj cs b hoj) a oi.dst u ap1) (wanted_put oj a oi.dst u ap1)
 have hr2:=ready_mono (md:= .any) (ops:=ops) hj hji
 refine EG (fun a' w'' h2=>?_) (L8 hi hG H)
 obtain ⟨v',hy',h3⟩:=DP hoj hlj (h2.2.2.2 j hr2)
 rw [HL (Pz ht (hcl.set hr) (by simpa using hsz) hoj hlj (mem_ready.1 hr2).1 h2.2.c) h2.1 hy',Array.setIfInBounds_comm _ _ hji]
 exact h3
/-- Two loud operations that may come up now: one of them is the first loud one, if every other stands behind the one. -/
theorem OX {n i i2:Nat}{oi oi2:Oper}(ht:Hm ops loud T n) (hi:ops[i]? = some oi) (hi2:ops[i2]? = some oi2) (hsel:∀ (j:Nat) (o:Oper) cs b,ops[j]? = some o->o.op≠ .select cs b) :
  ∀ (fuel:Nat) (listed:Array Bool) (a:Act) (w:World),(∀ j,j < ops.size->j≠i->j≠i2->loud j=true->listed.getD j true=false->Ej ops n j i=true)->Closed ops listed->listed.size=ops.size->(Lg ops loud T listed->C w) ->
   (∀ j oj,ops[j]? = some oj->j≠i->listed.getD j true=false->(∀ e ∈ oj.after,Region.binds .any e=true->e.on≠i)->oi.apart ops oj=true) ->
   (∀ j oj,ops[j]? = some oj->j≠i2->listed.getD j true=false->(∀ e ∈ oj.after,Region.binds .any e=true->e.on≠i2)->oi2.apart ops oj=true) ->
   i ∈ Region.ready .any ops listed->i2 ∈ Region.ready .any ops listed ->
   mOp P ops C loud i (wpM P ops C loud T Q fuel (listed.setIfInBounds i true)) a w->mOp P ops C loud i2 (wpM P ops C loud T Q fuel (listed.setIfInBounds i2 true)) a w->wpM P ops C loud T Q (fuel + 1) listed a w:=by
 intro fuel
 induction fuel with
 | zero =>
  intro listed a w _ _ _ hC _ _ hr _ H H2
  refine ⟨hC,fun h=>(by rw [h] at hr; cases hr),fun j hj=>?_⟩
  by_cases hji:j=i
  ·subst hji; exact H
  ·obtain ⟨u,w',h1⟩:=Gw hi H
   have:=ready_mono hj hji
   rw [h1.2.1] at this
   cases this
 | succ fuel ih =>
  intro listed a w hT hcl hsz hC hfree hfree2 hr hr2 H H2
  refine ⟨hC,fun h=>(by rw [h] at hr; cases hr),fun j hj=>?_⟩
  by_cases hji:j=i
  ·subst hji; exact H
  by_cases hji2:j=i2
  ·subst hji2; exact H2
  obtain ⟨hjun,oj,hoj,hall⟩:=mem_ready.1 hj
  have notl:∀ {x:Nat} {ox:Oper},ops[x]? = some ox->x ∈ Region.ready .any ops listed->¬ listed.getD x false=true:=fun {x ox} hx hxr h1=>by
   have hun:=(mem_ready.1 hxr).1
   have hlt:x < ops.size:=(Array.getElem?_eq_some_iff.1 hx).1
   have h':x < listed.size:=by omega
   simp [h'] at hun h1; rw [hun] at h1; cases h1
  have hnl:=notl hi hr
  have hnl2:=notl hi2 hr2
  have hnot:∀ e ∈ oj.after,Region.binds .any e=true->e.on≠i:=fun e he hb heq=>hnl (by rw [<-heq]; exact hall e he hb)
  have hnot2:∀ e ∈ oj.after,Region.binds .any e=true->e.on≠i2:=fun e he hb heq=>hnl2 (by rw [<-heq]; exact hall e he hb)
  have hjlt:j < ops.size:=(Array.getElem?_eq_some_iff.1 hoj).1
  have hlj:loud j=false:=by
   cases hlj:loud j with
   | false=>rfl
   | true =>
    exact absurd (GP hcl n j i (hT j hjlt hji hji2 hlj hjun) fun o ho e he hb=>by rw [hoj] at ho; injection ho with ho; subst ho; exact hall e he hb) hnl
  obtain ⟨ap1,ap2,ap3⟩:=Oper.apart_spec (hfree j oj hoj hji hjun hnot)
  obtain ⟨bp1,bp2,bp3⟩:=Oper.apart_spec (hfree2 j oj hoj hji2 hjun hnot2)
  have hun':∀ k,(listed.setIfInBounds j true).getD k true=false->listed.getD k true=false:=fun k hun=>by
   by_cases hjk:j=k
   ·subst hjk; exact hjun
   ·rw [getD_set_ne true hjk] at hun; exact hun
  have hCw:Lg ops loud T (listed.setIfInBounds j true)->C w:=fun hn=>hC fun k hTk hk hlk=>hun' k (hn k hTk hk hlk)
  obtain ⟨u,w',h1⟩:=Gw hi H
  obtain ⟨v,hy,_⟩:=DP hoj hlj (h1.2.2 j (ready_mono hj hji))
  have hya:YieldsM P ops C oj v a:=hy.same (execOp_put oj (fun cs b=>hsel j oj cs b hoj) _ oi.dst u ap1).symm (wanted_put oj _ oi.dst u ap1).symm
  refine hya.mOp hoj hlj ?_
  exact ih (listed.setIfInBounds j true) (a.put oj.dst v) w (fun k hk h1 h2 h3 h4=>hT k hk h1 h2 h3 (hun' k h4)) (hcl.set hj) (by simpa using hsz) hCw (fun k ok hk h1 h2 h3=>hfree k ok hk h1 (hun' k h2) h3) (fun k ok hk h1 h2 h3=>hfree2 k ok hk h1 (hun' k h2) h3) (ready_mono hr (Ne.symm hji)) (ready_mono hr2 (Ne.symm hji2))
   (LN ht hi hoj hsel hcl hsz ap1 ap2 ap3 hr hj hji hlj hya H) (LN ht hi2 hoj hsel hcl hsz bp1 bp2 bp3 hr2 hj hji2 hlj hya H2)
/-- As wpM_lex, from an operation on behind which the loud ones stand in one order. -/
theorem Ms (hs:Region.noSelect ops=true){n k0:Nat}(hsp:∀ k j,k0<=k->k < ops.size->j < ops.size->loud k=true->loud j=true->k < j->Ej ops n j k=true) (htl:Hm ops loud T n) (hTl:T < ops.size->loud T=true):∀ (l:List Oper) (k:Nat) (listed:Array Bool) (a:Act) (w:World),k0<=k->k + l.length=ops.size->(∀ j,l[j]? = ops[k + j]?) ->
  Region.lexFrom .any ops l.length k listed=true->Closed ops listed->listed.size=ops.size->(∀ j,j < k->listed.getD j true=true)->Ek P ops C loud T Q k l a w->wpM P ops C loud T Q l.length listed a w
 | [],k,listed,a,w,_,hkl,_,hB,_,_,hlt,h=>by
  refine ⟨fun hn=>h.1 ?_,by simpa [Region.lexFrom] using hB,h.2⟩
  rcases Nat.lt_or_ge T k with h1 | h1
  ·exfalso
   have hTs:T < ops.size:=by simp at hkl; omega
   have h2:=hn T (Nat.le_refl _) hTs (hTl hTs)
   rw [hlt T h1] at h2
   cases h2
  ·exact h1
 | o::l,k,listed,a,w,hk0,hkl,hl,hB,hcl,hsz,hlt,h=>by
  have h0:ops[k]? = some o:=by simpa using (hl 0).symm
  have hk:k < ops.size:=(Array.getElem?_eq_some_iff.1 h0).1
  simp only [List.length_cons,Region.lexFrom,Bool.and_eq_true] at hB
  obtain ⟨⟨hr,hf⟩,hB'⟩:=hB
  have hr':k ∈ Region.ready .any ops listed:=by simpa using hr
  have rec_:∀ a w,Ek P ops C loud T Q (k + 1) l a w->wpM P ops C loud T Q l.length (listed.setIfInBounds k true) a w:=fun a w hh =>
   Ms hs hsp htl hTl l (k + 1) _ a w (by omega) (by simp at hkl; omega) (fun j=>by have:=hl (j + 1); simpa [Nat.add_assoc,Nat.add_comm 1 j] using this) hB' (hcl.set hr') (by simpa using hsz) (fun j hj=>by
    by_cases hjk:k=j
    ·subst hjk
     have hlt':k < listed.size:=by omega
     simp [hlt']
    ·rw [getD_set_ne true hjk]; exact hlt j (by omega)) hh
  obtain ⟨hC,hh⟩:=h
  have hle:Lg ops loud T listed->k<=T:=fun hn=>by
   rcases Nat.lt_or_ge T k with h1 | h1
   ·exfalso
    have h2:=hn T (Nat.le_refl _) (by omega) (hTl (by omega))
    rw [hlt T h1] at h2
    cases h2
   ·exact h1
  have hst:mOp P ops C loud k (Ek P ops C loud T Q (k + 1) l) a w:=by
   unfold mOp
   rw [h0]
   exact hh
  cases hlk:loud k with
  | false =>
   obtain ⟨v,hy,hK⟩:=DP h0 hlk hst
   exact Jf h0 hlk (Region.noSelect_spec hs) l.length listed a w (fun hn=>hC (hle hn)) hcl hsz (Region.free_spec h0 hf) hr' hy (rec_ _ _ hK)
  | true =>
   refine IF (n:=n) htl h0 (Region.noSelect_spec hs) l.length listed a w (fun j hj hjk hlj hun=>?_) hcl hsz (fun hn=>hC (hle hn)) (Region.free_spec h0 hf) hr' (EG rec_ hst)
   ·have hkj:k < j:=by
     rcases Nat.lt_trichotomy k j with h1 | h1 | h1
     ·exact h1
     ·exact absurd h1.symm hjk
     ·rw [hlt j h1] at hun; cases hun
    exact hsp k j hk0 hk hj hlk hlj hkj
/-- The walk, of which p and the operation behind it are taken in both orders. -/
def Rh (P:Program) (ops:Array Oper) (C:World->Prop) (loud:Nat->Bool) (T:Nat) (Q:Act->World->Prop) (p:Nat) (rest:List Oper) (a:Act) (w:World):Prop :=
 C w/\mOp P ops C loud p (fun a w=>C w/\mOp P ops C loud (p + 1) (Ek P ops C loud T Q (p + 2) rest) a w) a w/\mOp P ops C loud (p + 1) (fun a w=>C w/\mOp P ops C loud p (Ek P ops C loud T Q (p + 2) rest) a w) a w
def IG (P:Program) (ops:Array Oper) (C:World->Prop) (loud:Nat->Bool) (T:Nat) (Q:Act->World->Prop) (p:Nat):Nat->List Oper->Act->World->Prop
 | _,[],_,_=>False
 | k,_::rest,a,w=>if k=p then Rh P ops C loud T Q p (rest.drop 1) a w else (k<=T->C w)/\mOp P ops C loud k (IG P ops C loud T Q p (k + 1) rest) a w
/-- One of two operations is this pair. -/
def PD (ops:Array Oper) (loud:Nat->Bool) (T p:Nat):Bool :=
 ((List.range ops.size).all fun k=>!loud k||(List.range ops.size).all fun j=>!(decide (k < j)&&loud j)||(k==p&&j==p + 1)||Ej ops ops.size j k) &&
 ((List.range ops.size).all fun j=>!decide (T<=j)||(if loud j then (List.range ops.size).all fun i=>loud i||Ec ops i||Ej ops ops.size j i else Ec ops j&&decide (j≠T))) &&
 (decide (p + 2<=T)&&loud p&&loud (p + 1)&&match ops[p]?,ops[p + 1]? with
  | some o,some o2=>o2.apart ops o&&o2.after.all fun e=>!Region.binds .any e||e.on != p
  | _,_=>false)
structure PU (ops:Array Oper) (loud:Nat->Bool) (T p:Nat):Prop where
 sp:∀ k j,k < ops.size->j < ops.size->loud k=true->loud j=true->k < j->(k=p/\j=p + 1)\/Ej ops ops.size j k=true
 tl:Hm ops loud T ops.size
 tT:T < ops.size->loud T=true
 le:p + 2<=T
 l1:loud p=true
 l2:loud (p + 1)=true
 ap:∀ o o2,ops[p]? = some o->ops[p + 1]? = some o2->o2.apart ops o=true/\∀ e ∈ o2.after,Region.binds .any e=true->e.on≠p
theorem NE {p:Nat}(h:PD ops loud T p=true):PU ops loud T p:=by
 unfold PD at h
 simp only [Bool.and_eq_true] at h
 obtain ⟨⟨h1,h2⟩,⟨⟨h3,h4⟩,h5⟩,h6⟩:=h
 have htl:∀ j,T<=j->j < ops.size->(if loud j=true then (List.range ops.size).all (fun i=>loud i||Ec ops i||Ej ops ops.size j i)=true else (Ec ops j&&decide (j≠T))=true):=fun j hTj hj=>by
  have:=List.all_eq_true.1 h2 j (by simpa using hj)
  simp only [hTj,decide_true,Bool.not_true,Bool.false_or] at this
  split
  ·next hl=>rw [if_pos hl] at this; exact this
  ·next hl=>rw [if_neg hl] at this; exact this
 refine ⟨fun k j hk hj hlk hlj hkj=>?_,fun j hTj hj hlj i hi hli hfr=>?_,fun hT=>?_,of_decide_eq_true h3,h4,h5,fun o o2 ho ho2=>?_⟩
 ·have a1:=List.all_eq_true.1 h1 k (by simpa using hk)
  simp only [hlk,Bool.not_true,Bool.false_or] at a1
  have a2:=List.all_eq_true.1 a1 j (by simpa using hj)
  simp only [hkj,hlj,decide_true,Bool.and_self,Bool.not_true,Bool.false_or,Bool.or_eq_true,Bool.and_eq_true,beq_iff_eq] at a2
  exact a2
 ·have a1:=htl j hTj hj
  rw [if_pos hlj] at a1
  have a2:=List.all_eq_true.1 a1 i (by simpa using hi)
  simpa [hli,hfr] using a2
 ·cases hl:loud T with
  | true=>rfl
  | false =>
   have a1:=htl T (Nat.le_refl _) hT
   rw [if_neg (by rw [hl]; simp)] at a1
   simp at a1
 ·rw [ho,ho2] at h6
  simp only [Bool.and_eq_true,Array.all_eq_true_iff_forall_mem] at h6
  refine ⟨h6.1,fun e he hb=>?_⟩
  have:=h6.2 e he
  simpa [hb] using this
theorem Mt (hs : Region.noSelect ops = true) {p : Nat} (hp : PU ops loud T p) : ∀ (l : List Oper) (k : Nat) (listed : Array Bool) (a : Act) (w : World), k ≤ p → k + l.length = ops.size → (∀ j, l[j]? = ops[k + j]?) →
    Region.lexFrom .any ops l.length k listed = true → Closed ops listed → listed.size = ops.size → (∀ j, j < k → listed.getD j true = true) → IG P ops C loud T Q p k l a w → wpM P ops C loud T Q l.length listed a w
  | [], _, _, _, _, _, _, _, _, _, _, _, h => h.elim
  | o :: l, k, listed, a, w, hkp, hkl, hl, hB, hcl, hsz, hlt, h => by
    have h0 : ops[k]? = some o := by simpa using (hl 0).symm
    have hk : k < ops.size := (Array.getElem?_eq_some_iff.1 h0).1
    simp only [List.length_cons, Region.lexFrom, Bool.and_eq_true] at hB
    obtain ⟨⟨hr, hf⟩, hB'⟩ := hB
    have hr' : k ∈ Region.ready .any ops listed := by simpa using hr
    have hsz' : (listed.setIfInBounds k true).size = ops.size := by simpa using hsz
    have hlt2 : ∀ {q : Nat} {ls : Array Bool}, q < ls.size → (∀ j, j < q → ls.getD j true = true) → ∀ j, j < q + 1 → (ls.setIfInBounds q true).getD j true = true := fun {q ls} hq hh j hj => by
      by_cases hjk : q = j
      · subst hjk; simp [hq]
      · rw [getD_set_ne true hjk]; exact hh j (by omega)
    have hlt' := hlt2 (ls := listed) (by omega) hlt
    have hnext : ∀ j, l[j]? = ops[k + 1 + j]? := fun j => by have := hl (j + 1); simpa [Nat.add_assoc, Nat.add_comm 1 j] using this
    unfold IG at h
    by_cases hkpe : k = p
    · subst hkpe
      rw [if_pos rfl] at h
      obtain ⟨hC, hA, hB2⟩ := h
      -- the second operation
      match l, hkl, hnext, hB' with
      | [], hkl, _, _ => have := hp.le; have h1 : ops.size ≤ k + 1 := by simp at hkl; omega
                         exact absurd hp.l2 (by
                           have hTl := hp.tT
                           intro hl2
                           rcases Gw h0 hA with ⟨u, w', _, h3⟩
                           unfold mOp at h3
                           rw [Array.getElem?_eq_none (by omega)] at h3
                           exact h3)
      | o2 :: l2, hkl, hnext, hB' =>
        have h02 : ops[k + 1]? = some o2 := by simpa using (hnext 0).symm
        have hk2 : k + 1 < ops.size := (Array.getElem?_eq_some_iff.1 h02).1
        simp only [List.length_cons, Region.lexFrom, Bool.and_eq_true] at hB'
        obtain ⟨⟨hr2, hf2⟩, hB2'⟩ := hB'
        have hr2' : k + 1 ∈ Region.ready .any ops (listed.setIfInBounds k true) := by simpa using hr2
        obtain ⟨hap, hno⟩ := hp.ap o o2 h0 h02
        have hne : k ≠ k + 1 := by omega
        -- ready already ahead of the first
        have hr20 : k + 1 ∈ Region.ready .any ops listed := by
          obtain ⟨q1, oq, q2, q3⟩ := mem_ready.1 hr2'
          rw [h02] at q2
          injection q2 with q2
          subst q2
          refine mem_ready.2 ⟨by rw [getD_set_ne true hne] at q1; exact q1, o2, h02, fun e he hb => ?_⟩
          have := q3 e he hb
          rwa [getD_set_ne false (Ne.symm (hno e he hb))] at this
        have hfr1 := Region.free_spec h0 hf
        have hfr2 : ∀ j oj, ops[j]? = some oj → j ≠ k + 1 → listed.getD j true = false → (∀ e ∈ oj.after, Region.binds .any e = true → e.on ≠ k + 1) → o2.apart ops oj = true := fun j oj hj h1 h2 h3 => by
          by_cases hjk : j = k
          · subst hjk
            rw [h0] at hj
            injection hj with hj
            subst hj
            exact hap
          · exact Region.free_spec h02 hf2 j oj hj h1 (by rw [getD_set_ne true (Ne.symm hjk)]; exact h2) h3
        have hge : ∀ j, listed.getD j true = false → j ≠ k → j ≠ k + 1 → k + 1 < j := fun j hun h1 h2 => by
          rcases Nat.lt_or_ge j k with h | h
          · rw [hlt j h] at hun; cases hun
          · omega
        have hwait : ∀ j, j < ops.size → j ≠ k → j ≠ k + 1 → loud j = true → listed.getD j true = false → Ej ops ops.size j k = true ∧ Ej ops ops.size j (k + 1) = true := fun j hj h1 h2 h3 h4 => by
          have := hge j h4 h1 h2
          refine ⟨(hp.sp k j hk hj hp.l1 h3 (by omega)).resolve_left fun h => by omega, (hp.sp (k + 1) j hk2 hj hp.l2 h3 this).resolve_left fun h => by omega⟩
        have tail : ∀ a w, Ek P ops C loud T Q (k + 2) l2 a w → wpM P ops C loud T Q l2.length ((listed.setIfInBounds k true).setIfInBounds (k + 1) true) a w := fun a w hh =>
          Ms hs (n := ops.size) (k0 := k + 2) (fun x j h1 h2 h3 h4 h5 h6 => (hp.sp x j h2 h3 h4 h5 h6).resolve_left fun h => by omega) hp.tl hp.tT l2 (k + 2) _ a w (Nat.le_refl _) (by simp at hkl; omega) (fun j => by rw [show k + 2 + j = k + 1 + (j + 1) by omega]; simpa using hnext (j + 1)) hB2' ((hcl.set hr').set hr2') (by simpa using hsz) (hlt2 (ls := listed.setIfInBounds k true) (by omega) hlt') hh
        refine OX (n := ops.size) hp.tl h0 h02 (Region.noSelect_spec hs) (l2.length + 1) listed a w (fun j hj h1 h2 h3 h4 => (hwait j hj h1 h2 h3 h4).1) hcl hsz (fun _ => hC) hfr1 hfr2 hr' hr20 (EG (fun a' w' hh => ?_) hA) (EG (fun a' w' hh => ?_) hB2)
        · have hun' : ∀ j, (listed.setIfInBounds k true).getD j true = false → listed.getD j true = false ∧ j ≠ k := fun j hun => by
            by_cases hjk : k = j
            · subst hjk
              have : k < listed.size := by omega
              simp [this] at hun
            · rw [getD_set_ne true hjk] at hun; exact ⟨hun, Ne.symm hjk⟩
          exact IF (n := ops.size) hp.tl h02 (Region.noSelect_spec hs) l2.length (listed.setIfInBounds k true) a' w' (fun j hj h1 h2 h3 => (hwait j hj (hun' j h3).2 h1 h2 (hun' j h3).1).2) (hcl.set hr') hsz' (fun _ => hh.1) (Region.free_spec h02 hf2) hr2' (EG tail hh.2)
        · have hun' : ∀ j, (listed.setIfInBounds (k + 1) true).getD j true = false → listed.getD j true = false ∧ j ≠ k + 1 := fun j hun => by
            by_cases hjk : k + 1 = j
            · subst hjk
              have : k + 1 < listed.size := by omega
              simp [this] at hun
            · rw [getD_set_ne true hjk] at hun; exact ⟨hun, Ne.symm hjk⟩
          refine IF (n := ops.size) hp.tl h0 (Region.noSelect_spec hs) l2.length (listed.setIfInBounds (k + 1) true) a' w' (fun j hj h1 h2 h3 => (hwait j hj h1 (hun' j h3).2 h2 (hun' j h3).1).1) (hcl.set hr20) (by simpa using hsz) (fun _ => hh.1) (fun j oj hj h1 h2 h3 => hfr1 j oj hj h1 (hun' j h2).1 h3) (ready_mono hr' hne) (EG (fun a2 w2 h2 => ?_) hh.2)
          have := tail a2 w2 h2
          rwa [Array.setIfInBounds_comm _ _ hne] at this
    · rw [if_neg hkpe] at h
      obtain ⟨hC, hst⟩ := h
      have hkp' : k < p := by omega
      have rec_ : ∀ a w, IG P ops C loud T Q p (k + 1) l a w → wpM P ops C loud T Q l.length (listed.setIfInBounds k true) a w := fun a w hh =>
        Mt hs hp l (k + 1) _ a w (by omega) (by simp at hkl; omega) hnext hB' (hcl.set hr') hsz' hlt' hh
      have hle : Lg ops loud T listed → k ≤ T := fun _ => by have := hp.le; omega
      cases hlk : loud k with
      | false =>
        obtain ⟨v, hy, hK⟩ := DP h0 hlk hst
        exact Jf h0 hlk (Region.noSelect_spec hs) l.length listed a w (fun hn => hC (hle hn)) hcl hsz (Region.free_spec h0 hf) hr' hy (rec_ _ _ hK)
      | true =>
        refine IF (n := ops.size) hp.tl h0 (Region.noSelect_spec hs) l.length listed a w (fun j hj hjk hlj hun => ?_) hcl hsz (fun hn => hC (hle hn)) (Region.free_spec h0 hf) hr' (EG rec_ hst)
        have hkj : k < j := by
          rcases Nat.lt_trichotomy k j with h1 | h1 | h1
          · exact h1
          · exact absurd h1.symm hjk
          · rw [hlt j h1] at hun; cases hun
        exact (hp.sp k j hk hj hlk hlj hkj).resolve_left fun h => hkpe h.1
theorem Jz {id p:Nat}{Q':Exit->Act->World->Prop}{a:Act}{w:World}{l:List Oper}(ro:Option Nat) (m:Nat) (hm:P.follows .mixedOrders=true) (hB:Region.lexB .any l.toArray=true) (hb:PD l.toArray loud T p=true)
  (h:IG P l.toArray C loud T (fun a w=>Q' .normal a w) p 0 l a w.drew):(Code.region id l.toArray true).wpIn (Fw ro) m P Q' a w:=by
 simp only [Region.lexB,Bool.and_eq_true] at hB
 have hp:=NE hb
 have hcl:Closed l.toArray (Array.replicate l.toArray.size false):=fun k o hk hlis=>by
  rw [getD_replicate_false] at hlis; cases hlis
 refine wpIn_region_any hm (G6 (C:=C) (loud:=loud) (T:=T) (n:=l.toArray.size) (Q:=fun a w=>Q' .normal a w) ro m hp.tl (fun _ _ h=>h) _ _ _ _ hcl (by simp) ?_)
 have:=Mt (P:=P) (C:=C) (loud:=loud) (T:=T) (Q:=fun a w=>Q' .normal a w) (ops:=l.toArray) hB.1 hp l 0 (Array.replicate l.toArray.size false) a w.drew (Nat.zero_le _) (by simp) (by simp) (by simpa using hB.2) hcl (by simp) (fun j hj=>by omega) h
 simpa using this
end
/-- One operation of such a region, whatever stands behind it. -/
def Op1 (E:Env) (ops:Array Oper) (T n0 k:Nat) (o:Oper) (s:St) (Ks:St->Prop):Prop :=
 ∀ (base:Bs) (K:Act->World->Prop) (w0:World) (Z:Nat->Prop) (R0:List RI) (h0:Hp) (a:Act) (w:World) (R:List RI),HR w0 Z R0 h0->n0=h0.length->SR E base w Z R s a->w0.grownBy w none->Step w0 Z R0 h0 w Z R s.hp->(∀ (b:Nat) (B:Option Blk),h0[b]? = some B->s.hp[b]? = some B)->ops[k]? = some o ->
  (∀ s' a' w' R',Ks s'->SR E base w' Z R' s' a'->w0.grownBy w' none->Step w0 Z R0 h0 w' Z R' s'.hp->(∀ (b:Nat) (B:Option Blk),h0[b]? = some B->s'.hp[b]? = some B)->K a' w')->mOp E.P ops (fun w'=>w0.grownBy w' none) (F4 ops T) k K a w
def RunDP (E:Env) (ops:Array Oper) (T p n0 k:Nat) (rest:List Oper) (s:St) (K:St->Prop):Prop :=
 ∀ (base:Bs) (Q:Act->World->Prop) (w0:World) (Z:Nat->Prop) (R0:List RI) (h0:Hp) (a:Act) (w:World) (R:List RI),HR w0 Z R0 h0->n0=h0.length->SR E base w Z R s a->w0.grownBy w none->Step w0 Z R0 h0 w Z R s.hp->(∀ (b:Nat) (B:Option Blk),h0[b]? = some B->s.hp[b]? = some B)->(∀ j,rest[j]? = ops[k + j]?) ->
  (∀ s' a' w' Z' R',K s'->SR E base w' Z' R' s' a'->StepW w0 Z R0 h0 w' Z' R' s'.hp->Q a' w')->IG E.P ops (fun w'=>w0.grownBy w' none) (F4 ops T) T Q p k rest a w
section
variable {E:Env}{cx:Cx}{ops:Array Oper}{pre rest rest':List Oper}{s s1:St}{K Ks:St->Prop}{n n0 k T p:Nat}{l:List (Nat×AV)}{hp hp':Hp}{Q:Ex->St->Prop}{id:Nat}{fid:FuncId}{o:Oper}
theorem NS (hE:EnvOk E) (T p:Nat) (hB:Region.lexB .any ops=true) (hb:PD ops (F4 ops T) T p=true) (h:RunDP E ops T p s.hp.length 0 ops.toList s fun s'=>Wk E s' s1) (q:Q .normal s1):Sem E cx (.region id ops true) s Q:=by
 intro ro base Qm a w Z R _ sr _ kk
 have hgd:w.grownBy w.drew none:=Ln w
 have hops:ops.toList.toArray=ops:=by simp
 have st0:Step w Z R s.hp w.drew Z R s.hp:=⟨rfl,rfl,rfl,Nat.le_refl _,fun c hc _=>rfl,fun _ h=> .inl h,fun _ h=>h,fun _ h=> .inl h,fun _ _ h=>h⟩
 have hsrd:SR E base w.drew Z R s a:=⟨sr.hh.keep (Nat.le_refl _) (fun c hc=>hgd.block c hc (by simp)),sr.fr.off (fun c hc=>rfl),sr.mks.step st0,sr.gl.off (fun c hc=>rfl),sr.bs⟩
 have hm:=h base (fun a w=>Qm .normal a w) w.drew Z R s.hp a w.drew R hsrd.hh rfl hsrd (IV _) (Step.refl _ _ _ _) (fun b B hb=>hb) (fun j=>by simp) (fun s' a' w' Z' R' hw sr' st=>by
  obtain ⟨Z2,R2,sr2,st2⟩:=hw base w' Z' R' a' sr'
  exact kk .normal s1 a' w' Z2 R2 q sr2 ((st0.w.trans st).trans st2))
 have:=Jz (P:=E.P) (id:=id) (l:=ops.toList) (a:=a) (w:=w) (C:=fun w'=>w.drew.grownBy w' none) (loud:=F4 ops T) (T:=T) (p:=p) (Q':=Qm) ro 0 hE.mixed (by rw [hops]; exact hB) (by rw [hops]; exact hb) (by rw [hops]; exact hm)
 rw [hops] at this
 exact this
theorem OE (hW:isW o.op=false) (e:opsD E (evC E 0) ⟨none,false⟩ ops n0 (o::pre) s=some s1):∃ s2,opsD E (evC E 0) ⟨none,false⟩ ops n0 [o] s=some s2/\opsD E (evC E 0) ⟨none,false⟩ ops n0 pre s2=some s1:=by
 have hW':¬ isW o.op=true:=by rw [hW]; simp
 unfold opsD at e
 rw [if_neg hW'] at e
 split at e
 ·cases e
 ·next hw=>exact ⟨_,by unfold opsD; rw [if_neg hW']; simp only [hw]; rfl,e⟩
 ·next hw =>
  split at e
  ·next x hx =>
   split at e
   ·next hld=>exact ⟨_,by unfold opsD; rw [if_neg hW']; simp only [hw,hx,hld,if_true]; rfl,e⟩
   ·cases e
  ·next hx =>
   split at e
   ·next x h' hn=>exact ⟨_,by unfold opsD; rw [if_neg hW']; simp only [hw,hx,hn]; rfl,e⟩
   ·next hn =>
    split at e
    ·next f args tys ho =>
     split at e
     ·next fv xs hf hxs =>
      split at e
      ·next r hr=>exact ⟨_,by unfold opsD; rw [if_neg hW']; simp only [hw,hx,hn,ho,hf,hxs,hr]; rfl,e⟩
      ·cases e
     ·cases e
    ·cases e
theorem Op1.d (hE:EnvOk E) (hW:isW o.op=false) (hk:k < T) (e:opsD E (evC E 0) ⟨none,false⟩ ops n0 [o] s=some s1) (kk:Ks s1):Op1 E ops T n0 k o s Ks:=by
 intro base K w0 Z R0 h0 a w R hh0 hn0 sr hgr st hpre hok q
 have hkT:¬ T<=k:=by omega
 unfold mOp
 rw [hok]
 dsimp only
 unfold opsD at e
 rw [if_neg (by rw [hW]; simp)] at e
 split at e
 ·cases e
 ·next hw =>
  rw [if_neg (by rw [wantedA_eq sr hw]; simp)]
  injection e with e
  subst e
  exact q _ _ w R kk (sr.put undef_vr) hgr st hpre
 ·next hw =>
  rw [if_pos (wantedA_eq sr hw)]
  have hρ:∀ o x,opA E s.fr o=some x->VR w Z R x (a.eval o):=fun o x e=>opA_vr sr o x e
  split at e
  ·next x hx =>
   split at e
   ·next hld =>
    injection e with e
    subst e
    have hq:=KA hx
    rw [if_neg (by rw [Hf hok hq hkT]; simp)]
    obtain ⟨u,hu,hrun⟩:=evOpQ_sound sr.hh hρ hx
    have hquiet:∃ u,VR w Z R x u/\QuietAt E.P (Cf (fun w'=>w0.grownBy w' none) o) o u a:=by
     cases hl:L0 o.op with
     | false=>exact ⟨u,hu,fun w' _=>hrun w' fun h=>by rw [hl] at h; cases h⟩
     | true =>
      obtain ⟨u1,hu1,hq1⟩:=FI hh0 sr hgr st hpre hl (by rw [<-hn0]; exact hld) hx
      exact ⟨u1,hu1,hq1.up (He hl)⟩
    obtain ⟨u,hu,hquiet⟩:=hquiet
    exact ⟨u,hquiet,q _ _ w R kk (sr.put hu) hgr st hpre⟩
   ·cases e
  ·split at e
   ·next x h' hx =>
    injection e with e
    subst e
    have hq:=HC hx
    rw [if_pos (Dr hok hq)]
    obtain ⟨u,w',R',h1,h2,h3,h4,h5⟩:=evOpN_sound hρ sr.hh hx
    exact Ie h1 (q _ _ w' R' kk ((sr.step h2 h4).put h3) (DX hgr h5) (st.trans h4) fun b B hb=>Gu hx (hpre b B hb))
   ·split at e
    ·next f args tys ho =>
     split at e
     ·next fv xs hf hxs =>
      split at e
      ·next r hr =>
       injection e with e
       subst e
       obtain ⟨x,h'⟩:=r
       have hq:isQ o.op=false:=by rw [ho]; rfl
       rw [if_pos (Dr hok hq)]
       obtain ⟨g,uf,uc,hva,hcl,hret⟩:=ES hE (code_sound hE 0).1 (hρ _ _ hf) (opds_vr hρ hxs) sr.hh sr.gl hr
       unfold Lw
       rw [DY (uf:=uf) (uc:=uc) ho hva rfl hcl w]
       refine Ret.mono hret fun v w' hS=>?_
       obtain ⟨hg1,R',k1,k2,k3⟩:=hS
       exact q _ _ w' R' kk ((sr.step k1 k3).put k2) (DX hgr hg1) (st.trans k3) fun b B hb=>Gi hr (hpre b B hb)
      ·cases e
     ·cases e
    ·cases e
theorem Lh (hE:EnvOk E){s:St}(l:List (Nat×AV)) (hp:Hp) (hW:(!isW o.op&&Nat.blt k T)=true) (h:Mo (opsD E (evC E 0) ⟨none,false⟩ ops n0 [o] s) l=some (n,xs2 l,hp)) (kk:Ks ⟨Fr n l,hp⟩):Op1 E ops T n0 k o s Ks:=by
 obtain ⟨fr,h1,h2,h3⟩:=HF h
 simp only [Bool.and_eq_true,Bool.not_eq_true'] at hW
 intro base K w0 Z R0 h0 a w R hh0 hn0 sr hgr st hpre hok q
 exact Op1.d (Ks:=fun s=>s=⟨fr,hp⟩) hE hW.1 (Nat.le_of_ble_eq_true hW.2) h1 rfl base K w0 Z R0 h0 a w R hh0 hn0 sr hgr st hpre hok fun s' a' w' R' hs sr' hg' st' hp'=>by
  subst hs
  exact q _ a' w' R' kk (sr'.forget h2 h3) hg' st' hp'
theorem Op1.one (hE:EnvOk E) (hW:(!isW o.op&&Nat.blt k T)=true) (h:opsD E (evC E 0) ⟨none,false⟩ ops n0 [o] s=some s1) (kk:Ks s1):Op1 E ops T n0 k o s Ks:=by
 simp only [Bool.and_eq_true,Bool.not_eq_true'] at hW
 exact Op1.d hE hW.1 (Nat.le_of_ble_eq_true hW.2) h kk
theorem Kz (hP:E.P=E0.P) (hG:E.G=E0.G){xs ys:List AV}{Out:AV->Hp->Prop}{d:Nat}{f:Operand}{args:Array Operand}{tys:Array TypeId}{ty:TypeId}{pos:String}{af:Array Edge}{g:Option (Nat×Bool)}(hs:SOk fid ys Out) (hr:o=⟨some d,.call ⟨.value f,args,tys⟩,ty,pos,af,g⟩) (hw:Be ops (Fr n l) ⟨some d,.call ⟨.value f,args,tys⟩,ty,pos,af,g⟩=some true)
  (hf:opA E (Fr n l) f=some (.fn fid [] [])) (ha:FT (opA E (Fr n l)) args.toList=some xs) (hv:La hp xs=some ys) (hfl:∀ x h',Out x h'->Gy x=true/\Jr h'=true) (kk:∀ x h',Out x h'->Ks ⟨Fr n ((d,shN hp.length x)::l),hp++h'⟩):Op1 E ops T n0 k o ⟨Fr n l,hp⟩ Ks:=by
 subst hr
 intro base K w0 Z R0 h0 a w R hh0 hn0 sr hgr st hpre hko q
 have hq:isQ (.call ⟨.value f,args,tys⟩:Op)=false:=rfl
 unfold mOp
 rw [hko]
 dsimp only
 rw [if_pos (wantedA_eq sr hw),if_pos (Dr hko hq)]
 have hρ:∀ o x,opA E (Fr n l) o=some x->VR w Z R x (a.eval o):=fun o x e=>opA_vr sr o x e
 have hva:a.eval f = .func (.func fid) ([]:List Value).toArray ([]:List Value).toArray:=by
  have:=hρ _ _ hf
  generalize a.eval f=vf at this
  cases this with
  | fn hl hl' hx hy =>
   rename_i u1 u2
   have e1:u1=[]:=by simpa using hl
   have e2:u2=[]:=by simpa using hl'
   subst e1 e2; rfl
 have hcl:BX E.P fid:=hP ▸ hs.1
 unfold Lw
 rw [DY (uf:=[]) (uc:=[]) rfl hva rfl hcl w]
 simp only [List.nil_append,List.append_nil]
 have hz1:∀ c,(Z c\/own R hp c)->c < w.heap.size:=fun c hc=>hc.elim (sr.hh.zlt c) (fun ⟨b,B,r,h1,_,h3,h4⟩=>h4 ▸ sr.hh.rltL h1 h3)
 have hg1:GI E0 w (fun c=>Z c\/own R hp c):=fun q y hy=>(sr.gl q y (by rw [hG]; exact hy)).mono (fun _ _=>rfl) (fun _ h=> .inl h) (fun _ _ h=>h)
 have hret:=hs.2 w _ _ hz1 hg1 (Jd sr.hh (opds_vr hρ ha) hv)
 rw [<-hP] at hret
 refine Ret.mono hret fun v w' hS=>?_
 obtain ⟨Z',R',x,h',hO,h1,h2,st1⟩:=hS
 obtain ⟨f1,f2⟩:=hfl x h' hO
 obtain ⟨j1,j2⟩:=sr.hh.join hz1 st1 h1 f2
 have hlen1:R.length=hp.length:=sr.hh.len
 have hx:=OM (w:=w') (Z':=Z) (R:=R) hlen1 f1 h2
 have sr':=(sr.step j1 j2).put (d:=some d) hx
 rw [show HU (⟨Fr n l,hp⟩:St).fr (some d) (shN hp.length x)=Fr n ((d,shN hp.length x)::l) from CX n l d _] at sr'
 have hg2:w.grownBy w' none:=⟨st1.os,st1.tape,st1.output,st1.size,fun c hc _=>st1.block c hc fun ⟨b,B,r,hb,_⟩=>by simp at hb⟩
 exact q _ _ w' (R++R') (kk x h' hO) sr' (DX hgr hg2) (st.trans j2) (fun b B hb=>by
  have hlt:b < hp.length:=(List.getElem?_eq_some_iff.1 (hpre b B hb)).1
  show (hp++h')[b]? = _
  rw [List.getElem?_append_left hlt]; exact hpre b B hb)
/-- The walk up to the two. -/
theorem I8 (hE:EnvOk E):∀ {pre:List Oper}{s:St}{k:Nat},(pre.all fun o=>!isW o.op)=true->k + pre.length<=p->p + 2<=T->opsD E (evC E 0) ⟨none,false⟩ ops n0 pre s=some s1->RunDP E ops T p n0 (k + pre.length) rest s1 K->RunDP E ops T p n0 k (pre++rest) s K
 | [],s,k,_,_,_,e,kk=>by injection e with e; subst e; exact kk
 | o::pre,s,k,hp,hT,hpT,e,kk=>by
  intro base Q w0 Z R0 h0 a w R hh0 hn0 sr hgr st hpre hops q
  simp only [List.all_cons,Bool.and_eq_true,Bool.not_eq_true'] at hp
  obtain ⟨hW,hp⟩:=hp
  obtain ⟨s2,e1,e2⟩:=OE hW e
  have hok:ops[k]? = some o:=by have:=hops 0; simpa using this.symm
  have hops':∀ j,(pre++rest)[j]? = ops[k + 1 + j]?:=fun j=>by have:=hops (j + 1); simpa [Nat.add_assoc,Nat.add_comm 1 j] using this
  have hk1:k + 1 + pre.length=k + (o::pre).length:=by simp; omega
  have kk':RunDP E ops T p n0 (k + 1 + pre.length) rest s1 K:=by rw [hk1]; exact kk
  simp only [List.length_cons] at hT
  show IG E.P ops _ _ _ Q p k (o::(pre++rest)) a w
  unfold IG
  rw [if_neg (by omega)]
  refine ⟨fun _=>hgr,?_⟩
  refine Op1.d (Ks:=fun s=>s=s2) hE hW (by omega) e1 rfl base _ w0 Z R0 h0 a w R hh0 hn0 sr hgr st hpre hok fun s' a' w' R' hs sr' hg' st' hp'=>?_
  subst hs
  exact I8 hE hp (by omega) hpT e2 kk' base Q w0 Z R0 h0 a' w' R' hh0 hn0 sr' hg' st' hp' hops' q
theorem Mv (hE:EnvOk E) (m:Nat){s:St}(l:List (Nat×AV)) (hp:Hp) (hw:(((rest.take m).all fun o=>!isW o.op)&&Nat.ble (k + (rest.take m).length) p&&Nat.ble (p + 2) T)=true) (h:Mo (opsD E (evC E 0) ⟨none,false⟩ ops n0 (rest.take m) s) l=some (n,xs2 l,hp)) (kk:RunDP E ops T p n0 (k + (rest.take m).length) (rest.drop m) ⟨Fr n l,hp⟩ K):RunDP E ops T p n0 k rest s K:=by
 obtain ⟨fr,h1,h2,h3⟩:=HF h
 simp only [Bool.and_eq_true] at hw
 have:=I8 (k:=k) (T:=T) (p:=p) (pre:=rest.take m) (rest:=rest.drop m) hE hw.1.1 (Nat.le_of_ble_eq_true hw.1.2) (Nat.le_of_ble_eq_true hw.2) h1 (fun base Q w0 Z R0 h0 a w R a1 a2 sr a5 a6 a7 a8 q=>kk base Q w0 Z R0 h0 a w R a1 a2 (sr.forget h2 h3) a5 a6 a7 a8 q)
 rwa [List.take_append_drop] at this
theorem RunDP.one (hE:EnvOk E) (hr:rest=o::rest') (hW:(!isW o.op&&Nat.blt k p&&Nat.ble (p + 2) T)=true) (h:opsD E (evC E 0) ⟨none,false⟩ ops n0 [o] s=some s1) (kk:RunDP E ops T p n0 (k + 1) rest' s1 K):RunDP E ops T p n0 k rest s K:=by
 subst hr
 simp only [Bool.and_eq_true] at hW
 exact I8 (k:=k) hE (pre:=[o]) (by simpa using hW.1.1) (by have:=Nat.le_of_ble_eq_true hW.1.2; simpa using this) (Nat.le_of_ble_eq_true hW.2) h kk
/-- The two, in both orders. -/
theorem RunDP.two {o1 o2:Oper}(hr:rest=o1::o2::rest') (hA:Op1 E ops T n0 p o1 s fun s1=>Op1 E ops T n0 (p + 1) o2 s1 fun s2=>RunDX E ops T n0 (p + 2) rest' s2 K) (hB:Op1 E ops T n0 (p + 1) o2 s fun s1=>Op1 E ops T n0 p o1 s1 fun s2=>RunDX E ops T n0 (p + 2) rest' s2 K):RunDP E ops T p n0 p rest s K:=by
 subst hr
 intro base Q w0 Z R0 h0 a w R hh0 hn0 sr hgr st hpre hops q
 have hk1:ops[p]? = some o1:=by have:=hops 0; simpa using this.symm
 have hk2:ops[p + 1]? = some o2:=by have:=hops 1; simpa using this.symm
 have hops':∀ j,rest'[j]? = ops[p + 2 + j]?:=fun j=>by have:=hops (j + 2); rw [show p + 2 + j=p + (j + 2) by omega]; simpa using this
 unfold IG
 rw [if_pos rfl]
 refine ⟨hgr,?_,?_⟩
 ·refine hA base _ w0 Z R0 h0 a w R hh0 hn0 sr hgr st hpre hk1 fun s1 a1 w1 R1 h1 sr1 hg1 st1 hp1=>⟨hg1,?_⟩
  exact h1 base _ w0 Z R0 h0 a1 w1 R1 hh0 hn0 sr1 hg1 st1 hp1 hk2 fun s2 a2 w2 R2 h2 sr2 hg2 st2 hp2=>h2 base Q w0 Z R0 h0 a2 w2 R2 hh0 hn0 sr2 hg2 st2 hp2 hops' q
 ·refine hB base _ w0 Z R0 h0 a w R hh0 hn0 sr hgr st hpre hk2 fun s1 a1 w1 R1 h1 sr1 hg1 st1 hp1=>⟨hg1,?_⟩
  exact h1 base _ w0 Z R0 h0 a1 w1 R1 hh0 hn0 sr1 hg1 st1 hp1 hk1 fun s2 a2 w2 R2 h2 sr2 hg2 st2 hp2=>h2 base Q w0 Z R0 h0 a2 w2 R2 hh0 hn0 sr2 hg2 st2 hp2 hops' q
end
noncomputable def DS:Code:=CC Tryz.f80
def As (xs:List (List UInt8)):Option Blk:=some ⟨1,9,xs.map cdS.enc,false⟩
set_option maxRecDepth 100000 in
theorem EB (xs:List (List UInt8)) (hc:EO 16 xs.length=true):Sem E0 ⟨none,false⟩ DS ⟨Fr 8 [(0,.sl 1 (xs.map cdS.enc))],[]⟩ fun e s'=>(e = .normal\/e = .ret)/\((xs=[]/\s'=⟨Fr 8 [(2,.e0)],[]⟩)\/s'=⟨Fr 8 [(2,.rf 0 0 xs.length xs.length)],[As xs]⟩):=by
 refine AF ?_
 refine AL (s1:=⟨Fr 8 [(0,.sl 1 (xs.map cdS.enc)),(2,.e0)],[]⟩) ?_ ?_
 ·refine F8 AB 1 (s1:=⟨Fr 8 [(0,.sl 1 (xs.map cdS.enc)),(2,.e0)],[]⟩) (by kernel_rfl) ?_
  exact AH rfl AK
 refine AF ?_
 refine AF (MO ?_)
 refine F8 AB 1 (s1:=⟨Fr 8 [(0,.sl 1 (xs.map cdS.enc)),(2,.e0),(3,.sl 1 (xs.map cdS.enc))],[]⟩) (by kernel_rfl) ?_
 refine Mx (k:=1) (el:=9) (es:=xs.map cdS.enc) rfl (AC rfl) (by kernel_rfl) (by kernel_rfl) fun b hb=>AH rfl ?_
 have hb:b=true->xs=[]:=fun h=>List.map_eq_nil_iff.1 (hb h)
 refine AQ (b:=b) (by kernel_rfl) (fun hb1=>?_) (fun hb1=>?_)
 ·have hx:=hb hb1
  refine Bf ?_
  refine AF (AL (s1:=⟨Fr 8 [(2,.e0)],[]⟩) ?_ (Ah ?_))
  ·refine F8 AB 1 (s1:=⟨Fr 8 [(0,.sl 1 (xs.map cdS.enc)),(2,.e0),(3,.sl 1 (xs.map cdS.enc)),(4,.v (.bool b))],[]⟩) (by kernel_rfl) ?_
   exact AH rfl AK
  ·exact ⟨_,Wk.refl,.inr rfl,.inl ⟨hx,rfl⟩⟩
 ·refine Ac ?_
  refine Bf (AF (MO ?_))
  refine F8 AB 2 (s1:=⟨Fr 8 [(0,.sl 1 (xs.map cdS.enc)),(2,.e0),(3,.sl 1 (xs.map cdS.enc)),(4,.v (.bool b)),(5,.rf 0 0 0 0),(6,.sl 1 (xs.map cdS.enc))],[As []]⟩) (by kernel_rfl) ?_
  cases xs with
  | nil =>
   refine Ab AB 0 rfl (QU (x:= .rf 0 0 0 0) (hp':=[As []]) (AC rfl) rfl (by kernel_rfl) (by kernel_rfl) (by kernel_rfl)) ?_
   refine F8 AB 1 (s1:=⟨Fr 8 [(0,.sl 1 []),(2,.rf 0 0 0 0),(3,.sl 1 []),(4,.v (.bool b)),(5,.rf 0 0 0 0),(6,.sl 1 []),(7,.rf 0 0 0 0)],[As []]⟩) (by kernel_rfl) (AH rfl (Ah ?_))
   exact ⟨⟨Fr 8 [(2,.rf 0 0 0 0)],[As []]⟩,AK,.inr rfl,.inr rfl⟩
  | cons y ys =>
   refine Ab AB 0 rfl (QU (AC rfl) rfl (by kernel_rfl) (by kernel_rfl) (DZ (a:= .rf 0 0 0 0) (b:= .sl 1 ((y::ys).map cdS.enc)) (by kernel_rfl) (by kernel_rfl) (HA (c:=cdS) (xs:=[]) (vs:=y::ys) (k:=1) (bytes:=16) (el:=9) (by kernel_rfl) (by kernel_rfl) Iw (List.cons_ne_nil _ _) (by kernel_rfl) (by rw [List.length_nil,Nat.zero_add]; exact hc)))) ?_
   refine F8 AB 1 (s1:=⟨Fr 8 [(0,.sl 1 ((y::ys).map cdS.enc)),(2,.rf 1 0 (y::ys).length (y::ys).length),(3,.sl 1 ((y::ys).map cdS.enc)),(4,.v (.bool b)),(5,.rf 0 0 0 0),(6,.sl 1 ((y::ys).map cdS.enc)),(7,.rf 1 0 (y::ys).length (y::ys).length)],[none,As (y::ys)]⟩) (by kernel_rfl) (AH rfl (Ah ?_))
   exact ⟨⟨Fr 8 [(2,.rf 0 0 (y::ys).length (y::ys).length)],[As (y::ys)]⟩,A7 [1] ⟨⟨_,rfl,HM⟩,trivial⟩ ⟨lv,trivial⟩,.inr rfl,.inr rfl⟩
def DJ (xs:List (List UInt8)) (x:AV) (h':Hp):Prop:=(xs=[]/\x = .e0/\h'=[])\/(x = .rf 0 0 xs.length xs.length/\h'=[As xs])
theorem Ci (xs:List (List UInt8)) (hc:EO 16 xs.length=true):SOk 80 [.sl 1 (xs.map cdS.enc)] (DJ xs):=by
 refine KI AB rfl rfl (fn:=Tryz.f80) (c:=DS) (by kernel_rfl) (by kernel_rfl) ⟨Tryz.call80⟩ (by show 1<=8; decide) (Sem.mono (EB xs hc) ?_)
 rintro e s' ⟨he,⟨hx,rfl⟩ | rfl⟩
 ·exact ⟨he,[.e0],by kernel_rfl,.inl ⟨hx,rfl,rfl⟩⟩
 ·exact ⟨he,[.rf 0 0 xs.length xs.length],by kernel_rfl,.inr ⟨rfl,rfl⟩⟩
theorem DT {xs:List (List UInt8)}:∀ x h',DJ xs x h'->Gy x=true/\Jr h'=true:=by
 rintro x h' (⟨_,rfl,rfl⟩ | ⟨rfl,rfl⟩)
 ·exact ⟨rfl,rfl⟩
 ·refine ⟨rfl,?_⟩
  show (!false&&(xs.map cdS.enc).all GY&&true)=true
  have:(xs.map cdS.enc).all GY=true:=by
   rw [List.all_eq_true]
   intro x hx
   obtain ⟨y,_,rfl⟩:=List.mem_map.1 hx
   rfl
  rw [this]; rfl
def Ik:Cs (List (List UInt8)×Unit):=csC (cdL 1 cdS) csN
/- trestle/trestlelaw03.Copy -/
noncomputable def GA:Code:=CC Tryz.f50
def Cg (x0:(List AE)):Nat->(List AE)->Int->Option (((List AE)))
 | 0,_,_=>none
 | f + 1,c1,c2 =>
  if (decide (c2 < (x0.length:Int)))=true then
  (idx x0 c2).bind fun v4 =>
  if (EO 16 v4.2.2.2.1.length)=true then
  if (EO 16 (v4.2.2.2.1.length + 1))=true then
  if (Gn 0 (v4.2.2.2.1.length:Int) (v4.2.2.2.1++[[115,112,97,114,101]]).length)=true then
  if (EO 64 (c1.length + 1))=true then
  Cg x0 f (c1++[(v4.1,v4.2.1,v4.2.2.1,((v4.2.2.2.1++[[115,112,97,114,101]]).take ((v4.2.2.2.1.length:Int).toNat)),v4.2.2.2.2)]) (wr .i64 (c2 + 1))
  else none
  else none
  else none
  else none
  else
  some c1
def Dy (x0:(List AE)):Option ((List AE)) :=
 (Cg x0 100000 [] 0).bind fun r17 =>
 some r17
def EA:Cs ((List AE)×Unit):=(csC (cdL 5 AA) csN)
def GE (r:(List AE)):AV:=(cdL 5 AA).enc r
theorem Im (x0:(List AE)):∀ (f:Nat) (c1:(List AE)) (c2:Int) (r:((List AE))),Cg x0 f c1 c2=some r->SemN E0 ⟨none,false⟩ (pc GA [1,1,0,1,0,0]) f ⟨Fr 28 [(3,hd 0 (c1.map AA.enc)),(6,.sl 5 (x0.map AA.enc)),(7,.j (x0.length:Int)),(8,.j c2)],[mk 5 66 (c1.map AA.enc)]⟩ (fun e s=>e=(.exit 0)/\Wk E0 s ⟨Fr 28 [(3,hd 0 (r.map AA.enc))],[mk 5 66 (r.map AA.enc)]⟩):=by
 intro f;induction f with
 | zero=>intro c1 c2 r h; cases h
 | succ f ih0 =>
  intro c1 c2 r h
  have ih:=fun (c1:(List AE)) (c2:Int)=>ih0 c1 c2 r
  unfold Cg at h;refine B4 ?_;refine AO AB [(3,hd 0 (c1.map AA.enc)),(6,.sl 5 (x0.map AA.enc)),(7,.j (x0.length:Int)),(8,.j c2),(9,.b (decide (c2 < (x0.length:Int))))] [mk 5 66 (c1.map AA.enc)] ?_;refine AF ?_;refine AQ (b:=(decide (c2 < (x0.length:Int)))) kr (fun hb3=>?_) (fun hb3=>?_)
  ·rw [if_pos hb3] at h
   refine Ac ?_;refine AF ?_;refine Ao ?_;refine AF ?_;obtain ⟨v4,hv4,h⟩:=OB h;refine AL (s1:=⟨Fr 28 [(3,hd 0 (c1.map AA.enc)),(5,.pt 1 0 0),(6,.sl 5 (x0.map AA.enc)),(7,.j (x0.length:Int)),(8,.j c2)],[mk 5 66 (c1.map AA.enc),some ⟨5,66,[.ag [.v (.int .u8 v4.1),.st v4.2.1,.b v4.2.2.1,.sl 1 (v4.2.2.2.1.map cdS.enc),.j v4.2.2.2.2]],false⟩]⟩) ?_ ?_
   ·refine Ab AB 0 rfl (DQ (AC rfl) rfl (Ad (a:= .sl 5 (x0.map AA.enc)) (b:= .j c2) kr kr (EF (e:=AA.enc) (el:=66) (k:=5) (ki:= .i64) kr kr hv4))) ?_
    exact Ai AB
   refine AF ?_;by_cases hk5:(EO 16 v4.2.2.2.1.length)=true
   case neg=>rw [if_neg hk5] at h; cases h
   rw [if_pos hk5] at h;by_cases hk6:(EO 16 (v4.2.2.2.1.length + 1))=true
   case neg=>rw [if_neg hk6] at h; cases h
   rw [if_pos hk6] at h;by_cases hk7:(Gn 0 (v4.2.2.2.1.length:Int) (v4.2.2.2.1++[[115,112,97,114,101]]).length)=true
   case neg=>rw [if_neg hk7] at h; cases h
   rw [if_pos hk7] at h;refine NS (s1:=⟨Fr 28 [(3,hd 0 (c1.map AA.enc)),(5,.pt 1 0 0),(6,.sl 5 (x0.map AA.enc)),(7,.j (x0.length:Int)),(8,.j c2)],[mk 5 66 (c1.map AA.enc),some ⟨5,66,[.ag [.v (.int .u8 v4.1),.st v4.2.1,.b v4.2.2.1,.rf 2 0 ((v4.2.2.2.1.length:Int).toNat) ((v4.2.2.2.1++[[115,112,97,114,101]]).length),.j v4.2.2.2.2]],false⟩,some ⟨1,9,((v4.2.2.2.1++[[115,112,97,114,101]]).map cdS.enc),false⟩]⟩) AB 10 2 kr kr ?_ ?_
   ·refine Mv (n:=28) AB 2 [(3,hd 0 (c1.map AA.enc)),(5,.pt 1 0 0),(6,.sl 5 (x0.map AA.enc)),(7,.j (x0.length:Int)),(8,.j c2),(13,.sl 1 (v4.2.2.2.1.map cdS.enc))] [mk 5 66 (c1.map AA.enc),some ⟨5,66,[.ag [.v (.int .u8 v4.1),.st v4.2.1,.b v4.2.2.1,.sl 1 (v4.2.2.2.1.map cdS.enc),.j v4.2.2.2.2]],false⟩] kr kr ?_
    refine RunDP.two rfl ?_ ?_
    ·refine Kz rfl rfl (Ci v4.2.2.2.1 hk5) rfl (AC rfl) kr (xs:=[.sl 1 (v4.2.2.2.1.map cdS.enc)]) kr kr DT ?_
     rintro x h' (⟨hx,rfl,rfl⟩ | ⟨rfl,rfl⟩)
     ·rw [hx]
      refine Lh (n:=28) AB [(3,hd 0 (c1.map AA.enc)),(5,.pt 1 0 0),(6,.sl 5 (x0.map AA.enc)),(7,.j (x0.length:Int)),(8,.j c2),(13,.sl 1 (([]:List (List UInt8)).map cdS.enc)),(14,.e0),(15,hd 2 ([[115,112,97,114,101]].map cdS.enc))] [mk 5 66 (c1.map AA.enc),some ⟨5,66,[.ag [.v (.int .u8 v4.1),.st v4.2.1,.b v4.2.2.1,.sl 1 (([]:List (List UInt8)).map cdS.enc),.j v4.2.2.2.2]],false⟩,mk 1 9 ([[115,112,97,114,101]].map cdS.enc)] kr kr ?_;refine RunDX.append AB rfl (AC rfl) rfl rfl (DZ (a:= .e0) (b:=hd 2 ([[115,112,97,114,101]].map cdS.enc)) kr kr (Iu (c:=cdS) (vs:=[[115,112,97,114,101]]) (k:=1) (bytes:=16) (el:=9) kr kr (FA (t:=9) kr) (List.cons_ne_nil _ _) kr)) (DZ (a:= .e0) (b:=hd 2 ([[115,112,97,114,101]].map cdS.enc)) kr kr (Iu (c:=cdS) (vs:=[[115,112,97,114,101]]) (k:=1) (bytes:=16) (el:=9) kr kr (FA (t:=9) kr) (List.cons_ne_nil _ _) kr)) kr ?_;refine Dv (n:=28) AB 2 [(3,hd 0 (c1.map AA.enc)),(5,.pt 1 0 0),(6,.sl 5 (x0.map AA.enc)),(7,.j (x0.length:Int)),(8,.j c2),(16,hd 3 ([[115,112,97,114,101]].map cdS.enc)),(18,.sl 1 (([]:List (List UInt8)).map cdS.enc))] [mk 5 66 (c1.map AA.enc),some ⟨5,66,[.ag [.v (.int .u8 v4.1),.st v4.2.1,.b v4.2.2.1,.sl 1 (([]:List (List UInt8)).map cdS.enc),.j v4.2.2.2.2]],false⟩,mk 1 9 ([[115,112,97,114,101]].map cdS.enc),mk 1 9 ([[115,112,97,114,101]].map cdS.enc)] kr kr ?_;refine RunDX.one AB rfl kr (HJ kr (AC rfl) rfl (DI (a:= .sl 1 (([]:List (List UInt8)).map cdS.enc)) kr (CD (el:=9) kr)) kr) ?_;refine Dv (n:=28) AB 2 [(3,hd 0 (c1.map AA.enc)),(5,.pt 1 0 0),(6,.sl 5 (x0.map AA.enc)),(7,.j (x0.length:Int)),(8,.j c2),(20,.rf 3 0 0 1),(21,.pt 1 0 3)] [mk 5 66 (c1.map AA.enc),some ⟨5,66,[.ag [.v (.int .u8 v4.1),.st v4.2.1,.b v4.2.2.1,.sl 1 (([]:List (List UInt8)).map cdS.enc),.j v4.2.2.2.2]],false⟩,mk 1 9 ([[115,112,97,114,101]].map cdS.enc),mk 1 9 ([[115,112,97,114,101]].map cdS.enc)] kr kr ?_
      refine G8 rfl ?_;refine AD (n:=28) AB 1 [(3,hd 0 (c1.map AA.enc)),(5,.pt 1 0 0),(6,.sl 5 (x0.map AA.enc)),(7,.j (x0.length:Int)),(8,.j c2)] [mk 5 66 (c1.map AA.enc),some ⟨5,66,[.ag [.v (.int .u8 v4.1),.st v4.2.1,.b v4.2.2.1,.rf 3 0 0 1,.j v4.2.2.2.2]],false⟩,mk 1 9 ([[115,112,97,114,101]].map cdS.enc),mk 1 9 ([[115,112,97,114,101]].map cdS.enc)] kr ?_;exact AH rfl (A7 [0,1,3] ⟨⟨_,rfl,Ll⟩,⟨_,rfl,GR⟩,⟨_,rfl,HM⟩,trivial⟩ ⟨L7 (b':=0) kr kr,lv,lv,lv,lv,trivial⟩)
     ·refine Lh (n:=28) AB [(3,hd 0 (c1.map AA.enc)),(5,.pt 1 0 0),(6,.sl 5 (x0.map AA.enc)),(7,.j (x0.length:Int)),(8,.j c2),(13,.sl 1 (v4.2.2.2.1.map cdS.enc)),(14,.rf 2 0 v4.2.2.2.1.length v4.2.2.2.1.length),(15,hd 3 ([[115,112,97,114,101]].map cdS.enc))] [mk 5 66 (c1.map AA.enc),some ⟨5,66,[.ag [.v (.int .u8 v4.1),.st v4.2.1,.b v4.2.2.1,.sl 1 (v4.2.2.2.1.map cdS.enc),.j v4.2.2.2.2]],false⟩,some ⟨1,9,(v4.2.2.2.1.map cdS.enc),false⟩,mk 1 9 ([[115,112,97,114,101]].map cdS.enc)] kr kr ?_
      refine RunDX.append AB rfl (AC rfl) rfl rfl (DZ (a:= .rf 2 0 v4.2.2.2.1.length v4.2.2.2.1.length) (b:=hd 3 ([[115,112,97,114,101]].map cdS.enc)) kr kr (HA (c:=cdS) (xs:=v4.2.2.2.1) (vs:=[[115,112,97,114,101]]) (k:=1) (bytes:=16) (el:=9) kr kr (FA (t:=9) kr) (List.cons_ne_nil _ _) kr hk6)) (DZ (a:= .rf 2 0 v4.2.2.2.1.length v4.2.2.2.1.length) (b:=hd 3 ([[115,112,97,114,101]].map cdS.enc)) kr kr (HA (c:=cdS) (xs:=v4.2.2.2.1) (vs:=[[115,112,97,114,101]]) (k:=1) (bytes:=16) (el:=9) kr kr (FA (t:=9) kr) (List.cons_ne_nil _ _) kr hk6)) kr ?_;refine Dv (n:=28) AB 2 [(3,hd 0 (c1.map AA.enc)),(5,.pt 1 0 0),(6,.sl 5 (x0.map AA.enc)),(7,.j (x0.length:Int)),(8,.j c2),(16,.rf 4 0 (v4.2.2.2.1++[[115,112,97,114,101]]).length (v4.2.2.2.1++[[115,112,97,114,101]]).length),(18,.sl 1 (v4.2.2.2.1.map cdS.enc))] [mk 5 66 (c1.map AA.enc),some ⟨5,66,[.ag [.v (.int .u8 v4.1),.st v4.2.1,.b v4.2.2.1,.sl 1 (v4.2.2.2.1.map cdS.enc),.j v4.2.2.2.2]],false⟩,none,mk 1 9 ([[115,112,97,114,101]].map cdS.enc),some ⟨1,9,((v4.2.2.2.1++[[115,112,97,114,101]]).map cdS.enc),false⟩] kr kr ?_;refine RunDX.one AB rfl kr (HJ kr (AC rfl) rfl (DI (a:= .sl 1 (v4.2.2.2.1.map cdS.enc)) kr (CD (el:=9) kr)) kr) ?_;refine RunDX.one AB rfl kr (HJ kr (AC rfl) rfl (JT (a:= .rf 4 0 (v4.2.2.2.1++[[115,112,97,114,101]]).length (v4.2.2.2.1++[[115,112,97,114,101]]).length) (l:=none) (u:=(some (.j (v4.2.2.2.1.length:Int)))) (m:=none) kr kr kr rfl (Mq (xs:=(v4.2.2.2.1++[[115,112,97,114,101]])) (e:=cdS.enc) (t':=9) (k:=1) (el:=9) kr kr kr hk7 (by simp))) kr) ?_;refine Dv (n:=28) AB 1 [(3,hd 0 (c1.map AA.enc)),(5,.pt 1 0 0),(6,.sl 5 (x0.map AA.enc)),(7,.j (x0.length:Int)),(8,.j c2),(20,.rf 4 0 ((v4.2.2.2.1.length:Int).toNat) ((v4.2.2.2.1++[[115,112,97,114,101]]).length)),(21,.pt 1 0 3)] [mk 5 66 (c1.map AA.enc),some ⟨5,66,[.ag [.v (.int .u8 v4.1),.st v4.2.1,.b v4.2.2.1,.sl 1 (v4.2.2.2.1.map cdS.enc),.j v4.2.2.2.2]],false⟩,none,mk 1 9 ([[115,112,97,114,101]].map cdS.enc),some ⟨1,9,((v4.2.2.2.1++[[115,112,97,114,101]]).map cdS.enc),false⟩] kr kr ?_
      refine G8 rfl ?_;refine AD (n:=28) AB 1 [(3,hd 0 (c1.map AA.enc)),(5,.pt 1 0 0),(6,.sl 5 (x0.map AA.enc)),(7,.j (x0.length:Int)),(8,.j c2)] [mk 5 66 (c1.map AA.enc),some ⟨5,66,[.ag [.v (.int .u8 v4.1),.st v4.2.1,.b v4.2.2.1,.rf 4 0 ((v4.2.2.2.1.length:Int).toNat) ((v4.2.2.2.1++[[115,112,97,114,101]]).length),.j v4.2.2.2.2]],false⟩,none,mk 1 9 ([[115,112,97,114,101]].map cdS.enc),some ⟨1,9,((v4.2.2.2.1++[[115,112,97,114,101]]).map cdS.enc),false⟩] kr ?_;exact AH rfl (A7 [0,1,4] ⟨⟨_,rfl,Ll⟩,⟨_,rfl,GR⟩,⟨_,rfl,HM⟩,trivial⟩ ⟨L7 (b':=0) kr kr,lv,lv,lv,lv,trivial⟩)
    ·refine Lh (n:=28) AB [(3,hd 0 (c1.map AA.enc)),(5,.pt 1 0 0),(6,.sl 5 (x0.map AA.enc)),(7,.j (x0.length:Int)),(8,.j c2),(13,.sl 1 (v4.2.2.2.1.map cdS.enc)),(15,hd 2 ([[115,112,97,114,101]].map cdS.enc))] [mk 5 66 (c1.map AA.enc),some ⟨5,66,[.ag [.v (.int .u8 v4.1),.st v4.2.1,.b v4.2.2.1,.sl 1 (v4.2.2.2.1.map cdS.enc),.j v4.2.2.2.2]],false⟩,mk 1 9 ([[115,112,97,114,101]].map cdS.enc)] kr kr ?_
     have hk10:=hk5
     refine Kz rfl rfl (Ci v4.2.2.2.1 hk10) rfl (AC rfl) kr (xs:=[.sl 1 (v4.2.2.2.1.map cdS.enc)]) kr kr DT ?_;rintro x h' (⟨hx,rfl,rfl⟩ | ⟨rfl,rfl⟩)
     ·rw [hx]
      refine RunDX.append AB rfl (AC rfl) rfl rfl (DZ (a:= .e0) (b:=hd 2 ([[115,112,97,114,101]].map cdS.enc)) kr kr (Iu (c:=cdS) (vs:=[[115,112,97,114,101]]) (k:=1) (bytes:=16) (el:=9) kr kr (FA (t:=9) kr) (List.cons_ne_nil _ _) kr)) (DZ (a:= .e0) (b:=hd 2 ([[115,112,97,114,101]].map cdS.enc)) kr kr (Iu (c:=cdS) (vs:=[[115,112,97,114,101]]) (k:=1) (bytes:=16) (el:=9) kr kr (FA (t:=9) kr) (List.cons_ne_nil _ _) kr)) kr ?_;refine Dv (n:=28) AB 2 [(3,hd 0 (c1.map AA.enc)),(5,.pt 1 0 0),(6,.sl 5 (x0.map AA.enc)),(7,.j (x0.length:Int)),(8,.j c2),(16,hd 3 ([[115,112,97,114,101]].map cdS.enc)),(18,.sl 1 (([]:List (List UInt8)).map cdS.enc))] [mk 5 66 (c1.map AA.enc),some ⟨5,66,[.ag [.v (.int .u8 v4.1),.st v4.2.1,.b v4.2.2.1,.sl 1 (([]:List (List UInt8)).map cdS.enc),.j v4.2.2.2.2]],false⟩,mk 1 9 ([[115,112,97,114,101]].map cdS.enc),mk 1 9 ([[115,112,97,114,101]].map cdS.enc)] kr kr ?_;refine RunDX.one AB rfl kr (HJ kr (AC rfl) rfl (DI (a:= .sl 1 (([]:List (List UInt8)).map cdS.enc)) kr (CD (el:=9) kr)) kr) ?_;refine Dv (n:=28) AB 2 [(3,hd 0 (c1.map AA.enc)),(5,.pt 1 0 0),(6,.sl 5 (x0.map AA.enc)),(7,.j (x0.length:Int)),(8,.j c2),(20,.rf 3 0 0 1),(21,.pt 1 0 3)] [mk 5 66 (c1.map AA.enc),some ⟨5,66,[.ag [.v (.int .u8 v4.1),.st v4.2.1,.b v4.2.2.1,.sl 1 (([]:List (List UInt8)).map cdS.enc),.j v4.2.2.2.2]],false⟩,mk 1 9 ([[115,112,97,114,101]].map cdS.enc),mk 1 9 ([[115,112,97,114,101]].map cdS.enc)] kr kr ?_;refine G8 rfl ?_;refine AD (n:=28) AB 1 [(3,hd 0 (c1.map AA.enc)),(5,.pt 1 0 0),(6,.sl 5 (x0.map AA.enc)),(7,.j (x0.length:Int)),(8,.j c2)] [mk 5 66 (c1.map AA.enc),some ⟨5,66,[.ag [.v (.int .u8 v4.1),.st v4.2.1,.b v4.2.2.1,.rf 3 0 0 1,.j v4.2.2.2.2]],false⟩,mk 1 9 ([[115,112,97,114,101]].map cdS.enc),mk 1 9 ([[115,112,97,114,101]].map cdS.enc)] kr ?_;exact AH rfl (A7 [0,1,3] ⟨⟨_,rfl,Ll⟩,⟨_,rfl,GR⟩,⟨_,rfl,HM⟩,trivial⟩ ⟨L7 (b':=0) kr kr,lv,lv,lv,lv,trivial⟩)
     ·have hk11:=hk6
      refine RunDX.append AB rfl (AC rfl) rfl rfl (DZ (a:= .rf 3 0 v4.2.2.2.1.length v4.2.2.2.1.length) (b:=hd 2 ([[115,112,97,114,101]].map cdS.enc)) kr kr (HA (c:=cdS) (xs:=v4.2.2.2.1) (vs:=[[115,112,97,114,101]]) (k:=1) (bytes:=16) (el:=9) kr kr (FA (t:=9) kr) (List.cons_ne_nil _ _) kr hk11)) (DZ (a:= .rf 3 0 v4.2.2.2.1.length v4.2.2.2.1.length) (b:=hd 2 ([[115,112,97,114,101]].map cdS.enc)) kr kr (HA (c:=cdS) (xs:=v4.2.2.2.1) (vs:=[[115,112,97,114,101]]) (k:=1) (bytes:=16) (el:=9) kr kr (FA (t:=9) kr) (List.cons_ne_nil _ _) kr hk11)) kr ?_;refine Dv (n:=28) AB 2 [(3,hd 0 (c1.map AA.enc)),(5,.pt 1 0 0),(6,.sl 5 (x0.map AA.enc)),(7,.j (x0.length:Int)),(8,.j c2),(16,.rf 4 0 (v4.2.2.2.1++[[115,112,97,114,101]]).length (v4.2.2.2.1++[[115,112,97,114,101]]).length),(18,.sl 1 (v4.2.2.2.1.map cdS.enc))] [mk 5 66 (c1.map AA.enc),some ⟨5,66,[.ag [.v (.int .u8 v4.1),.st v4.2.1,.b v4.2.2.1,.sl 1 (v4.2.2.2.1.map cdS.enc),.j v4.2.2.2.2]],false⟩,mk 1 9 ([[115,112,97,114,101]].map cdS.enc),none,some ⟨1,9,((v4.2.2.2.1++[[115,112,97,114,101]]).map cdS.enc),false⟩] kr kr ?_;refine RunDX.one AB rfl kr (HJ kr (AC rfl) rfl (DI (a:= .sl 1 (v4.2.2.2.1.map cdS.enc)) kr (CD (el:=9) kr)) kr) ?_
      have hk12:=hk7
      refine RunDX.one AB rfl kr (HJ kr (AC rfl) rfl (JT (a:= .rf 4 0 (v4.2.2.2.1++[[115,112,97,114,101]]).length (v4.2.2.2.1++[[115,112,97,114,101]]).length) (l:=none) (u:=(some (.j (v4.2.2.2.1.length:Int)))) (m:=none) kr kr kr rfl (Mq (xs:=(v4.2.2.2.1++[[115,112,97,114,101]])) (e:=cdS.enc) (t':=9) (k:=1) (el:=9) kr kr kr hk12 (by simp))) kr) ?_;refine Dv (n:=28) AB 1 [(3,hd 0 (c1.map AA.enc)),(5,.pt 1 0 0),(6,.sl 5 (x0.map AA.enc)),(7,.j (x0.length:Int)),(8,.j c2),(20,.rf 4 0 ((v4.2.2.2.1.length:Int).toNat) ((v4.2.2.2.1++[[115,112,97,114,101]]).length)),(21,.pt 1 0 3)] [mk 5 66 (c1.map AA.enc),some ⟨5,66,[.ag [.v (.int .u8 v4.1),.st v4.2.1,.b v4.2.2.1,.sl 1 (v4.2.2.2.1.map cdS.enc),.j v4.2.2.2.2]],false⟩,mk 1 9 ([[115,112,97,114,101]].map cdS.enc),none,some ⟨1,9,((v4.2.2.2.1++[[115,112,97,114,101]]).map cdS.enc),false⟩] kr kr ?_;refine G8 rfl ?_;refine AD (n:=28) AB 1 [(3,hd 0 (c1.map AA.enc)),(5,.pt 1 0 0),(6,.sl 5 (x0.map AA.enc)),(7,.j (x0.length:Int)),(8,.j c2)] [mk 5 66 (c1.map AA.enc),some ⟨5,66,[.ag [.v (.int .u8 v4.1),.st v4.2.1,.b v4.2.2.1,.rf 4 0 ((v4.2.2.2.1.length:Int).toNat) ((v4.2.2.2.1++[[115,112,97,114,101]]).length),.j v4.2.2.2.2]],false⟩,mk 1 9 ([[115,112,97,114,101]].map cdS.enc),none,some ⟨1,9,((v4.2.2.2.1++[[115,112,97,114,101]]).map cdS.enc),false⟩] kr ?_;exact AH rfl (A7 [0,1,4] ⟨⟨_,rfl,Ll⟩,⟨_,rfl,GR⟩,⟨_,rfl,HM⟩,trivial⟩ ⟨L7 (b':=0) kr kr,lv,lv,lv,lv,trivial⟩)
   by_cases hk15:(EO 64 (c1.length + 1))=true
   case neg=>rw [if_neg hk15] at h; cases h
   rw [if_pos hk15] at h;refine AL (s1:=⟨Fr 28 [(3,hd 0 ((c1++[(v4.1,v4.2.1,v4.2.2.1,((v4.2.2.2.1++[[115,112,97,114,101]]).take ((v4.2.2.2.1.length:Int).toNat)),v4.2.2.2.2)]).map AA.enc)),(6,.sl 5 (x0.map AA.enc)),(7,.j (x0.length:Int)),(8,.j c2)],[mk 5 66 ((c1++[(v4.1,v4.2.1,v4.2.2.1,((v4.2.2.2.1++[[115,112,97,114,101]]).take ((v4.2.2.2.1.length:Int).toNat)),v4.2.2.2.2)]).map AA.enc)]⟩) ?_ ?_
   ·refine AD (n:=28) AB 2 [(6,.sl 5 (x0.map AA.enc)),(7,.j (x0.length:Int)),(8,.j c2),(22,hd 0 (c1.map AA.enc)),(23,.ag [.v (.int .u8 v4.1),.st v4.2.1,.b v4.2.2.1,.rf 2 0 ((v4.2.2.2.1.length:Int).toNat) ((v4.2.2.2.1++[[115,112,97,114,101]]).length),.j v4.2.2.2.2])] [mk 5 66 (c1.map AA.enc),some ⟨5,66,[.ag [.v (.int .u8 v4.1),.st v4.2.1,.b v4.2.2.1,.rf 2 0 ((v4.2.2.2.1.length:Int).toNat) ((v4.2.2.2.1++[[115,112,97,114,101]]).length),.j v4.2.2.2.2]],false⟩,some ⟨1,9,((v4.2.2.2.1++[[115,112,97,114,101]]).map cdS.enc),false⟩] kr ?_
    refine Pp (s1:=⟨Fr 28 [(6,.sl 5 (x0.map AA.enc)),(7,.j (x0.length:Int)),(8,.j c2),(22,hd 0 (c1.map AA.enc)),(23,.ag [.v (.int .u8 v4.1),.st v4.2.1,.b v4.2.2.1,.sl 1 (((v4.2.2.2.1++[[115,112,97,114,101]]).take ((v4.2.2.2.1.length:Int).toNat)).map cdS.enc),.j v4.2.2.2.2])],[mk 5 66 (c1.map AA.enc),some ⟨5,66,[.ag [.v (.int .u8 v4.1),.st v4.2.1,.b v4.2.2.1,.sl 1 (((v4.2.2.2.1++[[115,112,97,114,101]]).take ((v4.2.2.2.1.length:Int).toNat)).map cdS.enc),.j v4.2.2.2.2]],false⟩,none]⟩) (Og 2 (.inl kr) ⟨.inr (.inl rfl),.inr (.inr ⟨_,_,_,_,rfl,rfl,⟨(.inr ⟨_,_,rfl,rfl,⟨.inl rfl,.inl rfl,.inl rfl,Pf (c:=cdS) (xs:=(v4.2.2.2.1++[[115,112,97,114,101]])) (t:=9) kr (Gp hk7).2.2.2,.inl rfl,trivial⟩⟩),trivial⟩⟩),.inl rfl,trivial⟩ ⟨⟨.sl 5 (x0.map AA.enc),kr,(.inl (.inl rfl))⟩,⟨.j (x0.length:Int),kr,(.inl (.inl rfl))⟩,⟨.j c2,kr,(.inl (.inl rfl))⟩,⟨hd 0 (c1.map AA.enc),kr,(.inl (.inl rfl))⟩,⟨.ag [.v (.int .u8 v4.1),.st v4.2.1,.b v4.2.2.1,.rf 2 0 ((v4.2.2.2.1.length:Int).toNat) ((v4.2.2.2.1++[[115,112,97,114,101]]).length),.j v4.2.2.2.2],kr,(.inr ⟨_,_,rfl,rfl,⟨.inl rfl,.inl rfl,.inl rfl,Pf (c:=cdS) (xs:=(v4.2.2.2.1++[[115,112,97,114,101]])) (t:=9) kr (Gp hk7).2.2.2,.inl rfl,trivial⟩⟩)⟩,trivial⟩) ?_;refine AD (n:=28) AB 1 [(6,.sl 5 (x0.map AA.enc)),(7,.j (x0.length:Int)),(8,.j c2),(22,hd 0 (c1.map AA.enc)),(24,hd 3 ([(v4.1,v4.2.1,v4.2.2.1,((v4.2.2.2.1++[[115,112,97,114,101]]).take ((v4.2.2.2.1.length:Int).toNat)),v4.2.2.2.2)].map AA.enc))] [mk 5 66 (c1.map AA.enc),some ⟨5,66,[.ag [.v (.int .u8 v4.1),.st v4.2.1,.b v4.2.2.1,.sl 1 (((v4.2.2.2.1++[[115,112,97,114,101]]).take ((v4.2.2.2.1.length:Int).toNat)).map cdS.enc),.j v4.2.2.2.2]],false⟩,none,mk 5 66 ([(v4.1,v4.2.1,v4.2.2.1,((v4.2.2.2.1++[[115,112,97,114,101]]).take ((v4.2.2.2.1.length:Int).toNat)),v4.2.2.2.2)].map AA.enc)] kr ?_;refine Ab AB 0 rfl (QU (AC rfl) rfl kr kr (DZ (a:=hd 0 (c1.map AA.enc)) (b:=hd 3 ([(v4.1,v4.2.1,v4.2.2.1,((v4.2.2.2.1++[[115,112,97,114,101]]).take ((v4.2.2.2.1.length:Int).toNat)),v4.2.2.2.2)].map AA.enc)) kr kr (Oj (c:=AA) (xs:=c1) (vs:=[(v4.1,v4.2.1,v4.2.2.1,((v4.2.2.2.1++[[115,112,97,114,101]]).take ((v4.2.2.2.1.length:Int).toNat)),v4.2.2.2.2)]) (k:=5) (bytes:=64) (el:=66) kr kr (FA (t:=66) kr) (List.cons_ne_nil _ _) kr hk15))) ?_
    refine AD (n:=28) AB 1 [(3,hd 4 ((c1++[(v4.1,v4.2.1,v4.2.2.1,((v4.2.2.2.1++[[115,112,97,114,101]]).take ((v4.2.2.2.1.length:Int).toNat)),v4.2.2.2.2)]).map AA.enc)),(6,.sl 5 (x0.map AA.enc)),(7,.j (x0.length:Int)),(8,.j c2)] [none,some ⟨5,66,[.ag [.v (.int .u8 v4.1),.st v4.2.1,.b v4.2.2.1,.sl 1 (((v4.2.2.2.1++[[115,112,97,114,101]]).take ((v4.2.2.2.1.length:Int).toNat)).map cdS.enc),.j v4.2.2.2.2]],false⟩,none,mk 5 66 ([(v4.1,v4.2.1,v4.2.2.1,((v4.2.2.2.1++[[115,112,97,114,101]]).take ((v4.2.2.2.1.length:Int).toNat)),v4.2.2.2.2)].map AA.enc),mk 5 66 ((c1++[(v4.1,v4.2.1,v4.2.2.1,((v4.2.2.2.1++[[115,112,97,114,101]]).take ((v4.2.2.2.1.length:Int).toNat)),v4.2.2.2.2)]).map AA.enc)] kr ?_;exact AH rfl (A7 [4] ⟨⟨_,rfl,Ll⟩,trivial⟩ ⟨L7 (b':=4) kr kr,lv,lv,lv,trivial⟩)
   refine C0 AB [(3,hd 0 ((c1++[(v4.1,v4.2.1,v4.2.2.1,((v4.2.2.2.1++[[115,112,97,114,101]]).take ((v4.2.2.2.1.length:Int).toNat)),v4.2.2.2.2)]).map AA.enc)),(6,.sl 5 (x0.map AA.enc)),(7,.j (x0.length:Int)),(8,.j (wr .i64 (c2 + 1)))] [mk 5 66 ((c1++[(v4.1,v4.2.1,v4.2.2.1,((v4.2.2.2.1++[[115,112,97,114,101]]).take ((v4.2.2.2.1.length:Int).toNat)),v4.2.2.2.2)]).map AA.enc)] ?_;exact Ax (s1:=⟨Fr 28 [(3,hd 0 ((c1++[(v4.1,v4.2.1,v4.2.2.1,((v4.2.2.2.1++[[115,112,97,114,101]]).take ((v4.2.2.2.1.length:Int).toNat)),v4.2.2.2.2)]).map AA.enc)),(6,.sl 5 (x0.map AA.enc)),(7,.j (x0.length:Int)),(8,.j (wr .i64 (c2 + 1)))],[mk 5 66 ((c1++[(v4.1,v4.2.1,v4.2.2.1,((v4.2.2.2.1++[[115,112,97,114,101]]).take ((v4.2.2.2.1.length:Int).toNat)),v4.2.2.2.2)]).map AA.enc)]⟩) (A7 [0] ⟨⟨_,rfl,Ll⟩,trivial⟩ ⟨L7 (b':=0) kr kr,lv,lv,lv,trivial⟩) (ih (c1++[(v4.1,v4.2.1,v4.2.2.1,((v4.2.2.2.1++[[115,112,97,114,101]]).take ((v4.2.2.2.1.length:Int).toNat)),v4.2.2.2.2)]) (wr .i64 (c2 + 1)) h)
  ·rw [B3 hb3] at h
   refine Cc ?_;have hq:=OI h; subst hq;exact ⟨rfl,(A7 [0] ⟨⟨_,rfl,Ll⟩,trivial⟩ ⟨L7 (b':=0) kr kr,trivial⟩)⟩
theorem Js (x0:(List AE)) (r:(List AE)) (h:Dy x0=some r):Sem E0 ⟨none,false⟩ GA ⟨Fr 28 (Bo 0 (EA.enc (x0,()))),[]⟩ fun e s'=>(e = .normal\/e = .ret)/\∃ xs,EQ E0.P s'.fr s'.hp Tryz.f50.results.toList=some xs/\Ea xs=GE r:=by
 unfold Dy at h
 let p1:Nat×AV:=(0,.sl 5 (x0.map AA.enc))
 refine Bf (CN (s1:=⟨Fr 28 [p1],[]⟩) AK ?_);refine AO AB [p1] [] ?_;refine AO AB [p1,(3,.e0)] [] ?_;refine AF ?_;refine AF ?_
 let p2:Nat×AV:=(8,.j 0)
 let p3:Nat×AV:=(7,.j (x0.length:Int))
 let p4:Nat×AV:=(6,.sl 5 (x0.map AA.enc))
 refine AL (s1:=⟨Fr 28 [(3,.e0),p4,p3,p2],[]⟩) ?_ ?_
 ·refine AD (n:=28) AB 1 [(3,.e0),p4] [] kr ?_
  refine Ab AB 0 rfl (DQ (AC rfl) rfl (DI (a:= .sl 5 (x0.map AA.enc)) kr (CD (el:=66) kr))) ?_;exact Ai AB
 refine Ao ?_;obtain ⟨r17,hr17,h⟩:=OB h;refine Ce (n:=100000) ?_
 let p5:Nat×AV:=(3,hd 0 ([].map AA.enc))
 refine BG (Ax (s1:=⟨Fr 28 [p5,p4,p3,p2],[mk 5 66 ([].map AA.enc)]⟩) (Wk.trans (s1:=⟨Fr 28 [p5,p4,p3,p2],[mk 5 66 ([].map AA.enc)]⟩) Wk.none (A7 [0] ⟨⟨_,rfl,Pv⟩,trivial⟩ ⟨lv,lv,lv,lv,trivial⟩)) (Im x0 _ [] 0 _ hr17)) ?_;refine AO AB [(2,hd 0 (r17.map AA.enc))] [mk 5 66 (r17.map AA.enc)] ?_;refine Ah ?_;have hq:=OI h; subst hq
 let p6:Nat×AV:=(2,.sl 5 (r17.map AA.enc))
 exact ⟨⟨Fr 28 [p6],[]⟩,(Wk.trans (s1:=⟨Fr 28 [p6],[none]⟩) (Ps 0 (.inl kr) ⟨.inl rfl,trivial⟩ ⟨⟨hd 0 (r17.map AA.enc),kr,SL (t:=66) kr MS⟩,trivial⟩) (A7 [] trivial ⟨lv,trivial⟩)),.inr rfl,[.sl 5 (r17.map AA.enc)],kr,kr⟩
def LU:List AV->Option AV:=ER EA (fun a=>Dy a.1) GE
theorem Ii:XOk 50 LU:=by
 refine Aq Tryz.func50 (c:=GA) ?h2 ⟨Tryz.call50⟩ EA (fun a=>Dy a.1) GE (fun a=>(by show 1<=28; decide)) ?h3 ?h4
 case h2=>kernel_rfl
 case h3=>intro b; kernel_rfl
 case h4=>exact fun a b h=>Js a.1 b h
/- trestle/trestleref03.between -/
noncomputable def GV:Code:=CC Tryz.f101
def BC (x0:Int) (x1:Int) (x2:Int):Option (Bool) :=
 (if (decide (x1<=x0))=true then some (decide (x0<=x2)) else some false).bind fun j2 =>
 some j2
def Eo:Cs (Int×Int×Int×Unit):=(csC cdI (csC cdI (csC cdI csN)))
def Es (r:Bool):AV:=cdB.enc r
theorem IW (x0:Int) (x1:Int) (x2:Int) (r:Bool) (h:BC x0 x1 x2=some r):Sem E0 ⟨none,false⟩ GV ⟨Fr 15 (Bo 0 (Eo.enc (x0,x1,x2,()))),[]⟩ fun e s'=>(e = .normal\/e = .ret)/\∃ xs,EQ E0.P s'.fr s'.hp Tryz.f101.results.toList=some xs/\Ea xs=Es r:=by
 unfold BC at h;refine Bf (CN (s1:=⟨Fr 15 [(0,.j x0),(1,.j x1),(2,.j x2)],[]⟩) AK ?_);refine AO AB [(0,.j x0),(1,.j x1),(2,.j x2)] [] ?_;refine AF ?_;obtain ⟨j2,hj2,h⟩:=OB h;refine AL (s1:=⟨Fr 15 [(6,.b j2)],[]⟩) ?_ ?_
 ·refine AD (n:=15) AB 4 [(0,.j x0),(2,.j x2),(10,.b (decide (x1<=x0)))] [] kr ?_
  rcases BE (decide (x1<=x0)) with hc3 | hc3
  ·rw [if_pos hc3] at hj2
   rw [hc3];refine AD (n:=15) AB 5 [(6,.b (decide (x0<=x2)))] [] kr ?_;have hq:=OI hj2; subst hq;exact AH rfl AK
  ·rw [B3 hc3] at hj2
   rw [hc3];refine AD (n:=15) AB 5 [(6,.b false)] [] kr ?_;have hq:=OI hj2; subst hq;exact AH rfl AK
 refine Ah ?_;have hq:=OI h; subst hq;exact ⟨⟨Fr 15 [(6,.b j2)],[]⟩,AK,.inr rfl,[.b j2],kr,kr⟩
def Jb:List AV->Option AV:=ER Eo (fun a=>BC a.1 a.2.1 a.2.2.1) Es
theorem EN:XOk 101 Jb:=by
 refine Aq Tryz.func101 (c:=GV) ?h2 ⟨Tryz.call101⟩ Eo (fun a=>BC a.1 a.2.1 a.2.2.1) Es (fun a=>(by show 3<=15; decide)) ?h3 ?h4
 case h2=>kernel_rfl
 case h3=>intro b; kernel_rfl
 case h4=>exact fun a b h=>IW a.1 a.2.1 a.2.2.1 b h
/- trestle/trestleref03.formed -/
noncomputable def DF:Code:=CC Tryz.f85
def EK (x0:AE):Option ((Bool)) :=
 if (x0.1==8)=true then
 some (x0.1==8)
 else
 some (x0.1==9)
def EJ (x0:AE):Option ((Bool)) :=
 if (x0.1==3)=true then
 some (x0.1==3)
 else
 (EK x0).bind fun r14 =>
 some r14
def EI (x0:AE):Option ((Bool)) :=
 if (x0.1==2)=true then
 some (x0.1==2)
 else
 (EJ x0).bind fun r15 =>
 some r15
def EL (x0:AE):Option ((Bool)) :=
 if (x0.1==6)=true then
 some (x0.1==6)
 else
 some (x0.1==7)
def Aj (x0:AE):Option (Bool) :=
 if (x0.1==1)=true then
 (BC (x0.2.2.2.1.length:Int) 1 16).bind fun v2 =>
 (if v2=true then if (x0.2.2.2.2==0)=true then if (!x0.2.2.1)=true then some (x0.2.1==[]) else some false else some false else some false).bind fun j4 =>
 some j4
 else
 (EI x0).bind fun r16 =>
 if r16=true then
 (if ((x0.2.2.2.1.length:Int)==0)=true then if (x0.2.2.2.2==0)=true then some (!x0.2.2.1) else some false else some false).bind fun j19 =>
 some j19
 else
 if (x0.1==4)=true then
 (if ((x0.2.2.2.1.length:Int)==0)=true then (BC x0.2.2.2.2 1 2).bind fun v23 =>
 some v23 else some false).bind fun j25 =>
 some j25
 else
 if (x0.1==5)=true then
 (if ((x0.2.2.2.1.length:Int)==0)=true then some (x0.2.2.2.2==0) else some false).bind fun j29 =>
 some j29
 else
 (EL x0).bind fun r33 =>
 if r33=true then
 (BC (x0.2.2.2.1.length:Int) 1 16).bind fun v35 =>
 (if v35=true then some (x0.2.2.2.2==0) else some false).bind fun j37 =>
 some j37
 else
 if (x0.1==10)=true then
 (if ((x0.2.2.2.1.length:Int)==0)=true then (BC x0.2.2.2.2 0 63).bind fun v40 =>
 if v40=true then some (!x0.2.2.1) else some false else some false).bind fun j42 =>
 some j42
 else
 some false
def FO:Cs (AE×Unit):=(csC AA csN)
def FR (r:Bool):AV:=cdB.enc r
theorem H9 (x0:AE) (r:(Bool)) (h:EK x0=some r):Sem E0 ⟨none,false⟩ (pc DF [1,1,0,1,0,1,1,0,1,1,1,1,1]) ⟨Fr 87 [(1,.pt 0 0 0),(3,.j (x0.2.2.2.1.length:Int)),(8,.v (.int .u8 x0.1)),(28,.b (x0.1==8))],[some ⟨5,66,[AA.enc x0],false⟩]⟩ (fun e s=>e = .normal/\Wk E0 s ⟨Fr 87 [(1,.pt 0 0 0),(3,.j (x0.2.2.2.1.length:Int)),(8,.v (.int .u8 x0.1)),(28,.b r)],[some ⟨5,66,[AA.enc x0],false⟩]⟩):=by
 unfold EK at h;refine AQ (b:=(x0.1==8)) kr (fun hb12=>?_) (fun hb12=>?_)
 ·rw [if_pos hb12] at h
  refine Ac ?_;have hq:=OI h; subst hq;exact ⟨rfl,(A7 [0] ⟨⟨_,rfl,GR⟩,trivial⟩ ⟨lv,lv,lv,lv,trivial⟩)⟩
 ·rw [B3 hb12] at h
  refine C0 AB [(1,.pt 0 0 0),(3,.j (x0.2.2.2.1.length:Int)),(8,.v (.int .u8 x0.1)),(28,.b (x0.1==9))] [some ⟨5,66,[AA.enc x0],false⟩] ?_;have hq:=OI h; subst hq;exact ⟨rfl,(A7 [0] ⟨⟨_,rfl,GR⟩,trivial⟩ ⟨lv,lv,lv,lv,trivial⟩)⟩
theorem H8 (x0:AE) (r:(Bool)) (h:EJ x0=some r):Sem E0 ⟨none,false⟩ (pc DF [1,1,0,1,0,1,1,0,1,1,1]) ⟨Fr 87 [(1,.pt 0 0 0),(3,.j (x0.2.2.2.1.length:Int)),(8,.v (.int .u8 x0.1)),(28,.b (x0.1==3))],[some ⟨5,66,[AA.enc x0],false⟩]⟩ (fun e s=>e = .normal/\Wk E0 s ⟨Fr 87 [(1,.pt 0 0 0),(3,.j (x0.2.2.2.1.length:Int)),(8,.v (.int .u8 x0.1)),(28,.b r)],[some ⟨5,66,[AA.enc x0],false⟩]⟩):=by
 unfold EJ at h;refine AQ (b:=(x0.1==3)) kr (fun hb10=>?_) (fun hb10=>?_)
 ·rw [if_pos hb10] at h
  refine Ac ?_;have hq:=OI h; subst hq;exact ⟨rfl,(A7 [0] ⟨⟨_,rfl,GR⟩,trivial⟩ ⟨lv,lv,lv,lv,trivial⟩)⟩
 ·rw [B3 hb10] at h
  refine AO AB [(1,.pt 0 0 0),(3,.j (x0.2.2.2.1.length:Int)),(8,.v (.int .u8 x0.1)),(28,.b (x0.1==8))] [some ⟨5,66,[AA.enc x0],false⟩] ?_;obtain ⟨r14,hr14,h⟩:=OB h;refine DU (H9 x0 _ hr14) ?_;have hq:=OI h; subst hq;exact ⟨rfl,(A7 [0] ⟨⟨_,rfl,GR⟩,trivial⟩ ⟨lv,lv,lv,lv,trivial⟩)⟩
theorem H7 (x0:AE) (r:(Bool)) (h:EI x0=some r):Sem E0 ⟨none,false⟩ (pc DF [1,1,0,1,0,1,1,0,1]) ⟨Fr 87 [(1,.pt 0 0 0),(3,.j (x0.2.2.2.1.length:Int)),(8,.v (.int .u8 x0.1)),(28,.b (x0.1==2))],[some ⟨5,66,[AA.enc x0],false⟩]⟩ (fun e s=>e = .normal/\Wk E0 s ⟨Fr 87 [(1,.pt 0 0 0),(3,.j (x0.2.2.2.1.length:Int)),(8,.v (.int .u8 x0.1)),(28,.b r)],[some ⟨5,66,[AA.enc x0],false⟩]⟩):=by
 unfold EI at h;refine AQ (b:=(x0.1==2)) kr (fun hb8=>?_) (fun hb8=>?_)
 ·rw [if_pos hb8] at h
  refine Ac ?_;have hq:=OI h; subst hq;exact ⟨rfl,(A7 [0] ⟨⟨_,rfl,GR⟩,trivial⟩ ⟨lv,lv,lv,lv,trivial⟩)⟩
 ·rw [B3 hb8] at h
  refine AO AB [(1,.pt 0 0 0),(3,.j (x0.2.2.2.1.length:Int)),(8,.v (.int .u8 x0.1)),(28,.b (x0.1==3))] [some ⟨5,66,[AA.enc x0],false⟩] ?_;obtain ⟨r15,hr15,h⟩:=OB h;refine DU (H8 x0 _ hr15) ?_;have hq:=OI h; subst hq;exact ⟨rfl,(A7 [0] ⟨⟨_,rfl,GR⟩,trivial⟩ ⟨lv,lv,lv,lv,trivial⟩)⟩
theorem IA (x0:AE) (r:(Bool)) (h:EL x0=some r):Sem E0 ⟨none,false⟩ (pc DF [1,1,0,1,0,1,1,1,1,1,1,1,1,0,1]) ⟨Fr 87 [(1,.pt 0 0 0),(3,.j (x0.2.2.2.1.length:Int)),(8,.v (.int .u8 x0.1)),(63,.b (x0.1==6))],[some ⟨5,66,[AA.enc x0],false⟩]⟩ (fun e s=>e = .normal/\Wk E0 s ⟨Fr 87 [(1,.pt 0 0 0),(3,.j (x0.2.2.2.1.length:Int)),(8,.v (.int .u8 x0.1)),(63,.b r)],[some ⟨5,66,[AA.enc x0],false⟩]⟩):=by
 unfold EL at h;refine AQ (b:=(x0.1==6)) kr (fun hb31=>?_) (fun hb31=>?_)
 ·rw [if_pos hb31] at h
  refine Ac ?_;have hq:=OI h; subst hq;exact ⟨rfl,(A7 [0] ⟨⟨_,rfl,GR⟩,trivial⟩ ⟨lv,lv,lv,lv,trivial⟩)⟩
 ·rw [B3 hb31] at h
  refine C0 AB [(1,.pt 0 0 0),(3,.j (x0.2.2.2.1.length:Int)),(8,.v (.int .u8 x0.1)),(63,.b (x0.1==7))] [some ⟨5,66,[AA.enc x0],false⟩] ?_;have hq:=OI h; subst hq;exact ⟨rfl,(A7 [0] ⟨⟨_,rfl,GR⟩,trivial⟩ ⟨lv,lv,lv,lv,trivial⟩)⟩
theorem Io (x0:AE) (r:Bool) (h:Aj x0=some r):Sem E0 ⟨none,false⟩ DF ⟨Fr 87 (Bo 0 (FO.enc (x0,()))),[]⟩ fun e s'=>(e = .normal\/e = .ret)/\∃ xs,EQ E0.P s'.fr s'.hp Tryz.f85.results.toList=some xs/\Ea xs=FR r:=by
 unfold Aj at h;refine Bf (CN (s1:=⟨Fr 87 [(0,AA.enc x0)],[]⟩) AK ?_);refine AO AB [(1,.pt 0 0 0)] [some ⟨5,66,[AA.enc x0],false⟩] ?_;refine AF ?_;refine AL (s1:=⟨Fr 87 [(1,.pt 0 0 0),(3,.j (x0.2.2.2.1.length:Int))],[some ⟨5,66,[AA.enc x0],false⟩]⟩) ?_ ?_
 ·refine AD (n:=87) AB 2 [(1,.pt 0 0 0),(5,.sl 1 (x0.2.2.2.1.map cdS.enc))] [some ⟨5,66,[AA.enc x0],false⟩] kr ?_
  refine Ab AB 0 rfl (DQ (AC rfl) rfl (DI (a:= .sl 1 (x0.2.2.2.1.map cdS.enc)) kr (CD (el:=9) kr))) ?_;exact Ai AB
 refine AF ?_;refine AO AB [(1,.pt 0 0 0),(3,.j (x0.2.2.2.1.length:Int)),(8,.v (.int .u8 x0.1))] [some ⟨5,66,[AA.enc x0],false⟩] ?_;refine Ao ?_;refine AO AB [(1,.pt 0 0 0),(3,.j (x0.2.2.2.1.length:Int)),(8,.v (.int .u8 x0.1)),(9,.b (x0.1==1))] [some ⟨5,66,[AA.enc x0],false⟩] ?_;refine AQ (b:=(x0.1==1)) kr (fun hb1=>?_) (fun hb1=>?_)
 ·rw [if_pos hb1] at h
  refine AF ?_;obtain ⟨v2,hv2,h⟩:=OB h;obtain ⟨j4,hj4,h⟩:=OB h;refine AL (s1:=⟨Fr 87 [(2,.b j4)],[]⟩) ?_ ?_
  ·refine AD (n:=87) AB 1 [(1,.pt 0 0 0),(11,.j (x0.2.2.2.1.length:Int))] [some ⟨5,66,[AA.enc x0],false⟩] kr ?_
   refine An (caps:=[]) (xs:=[.j (x0.2.2.2.1.length:Int),.j 1,.j 16]) (u:=((x0.2.2.2.1.length:Int),1,16,())) rfl rfl EN rfl (AC rfl) kr kr (Am (BH (c:=cdI) (v:=(x0.2.2.2.1.length:Int))) (Am (BH (c:=cdI) (v:=1)) (Am (BH (c:=cdI) (v:=16)) Bg))) (.inl kr) hv2 ?_;refine AD (n:=87) AB 1 [(1,.pt 0 0 0),(13,.b v2)] [some ⟨5,66,[AA.enc x0],false⟩] kr ?_;rcases BE v2 with hc5 | hc5
   ·rw [if_pos hc5] at hj4
    rw [hc5];refine AD (n:=87) AB 5 [(1,.pt 0 0 0),(18,.b (x0.2.2.2.2==0))] [some ⟨5,66,[AA.enc x0],false⟩] kr ?_;rcases BE (x0.2.2.2.2==0) with hc6 | hc6
    ·rw [if_pos hc6] at hj4
     rw [hc6];refine AD (n:=87) AB 5 [(1,.pt 0 0 0),(23,.b (!x0.2.2.1))] [some ⟨5,66,[AA.enc x0],false⟩] kr ?_;rcases BE (!x0.2.2.1) with hc7 | hc7
     ·rw [if_pos hc7] at hj4
      rw [hc7];refine AD (n:=87) AB 5 [(2,.b (x0.2.1==[]))] [some ⟨5,66,[AA.enc x0],false⟩] kr ?_;have hq:=OI hj4; subst hq;exact AH rfl (A7 [] trivial ⟨lv,trivial⟩)
     ·rw [B3 hc7] at hj4
      rw [hc7];refine AD (n:=87) AB 5 [(2,.b false)] [some ⟨5,66,[AA.enc x0],false⟩] kr ?_;have hq:=OI hj4; subst hq;exact AH rfl (A7 [] trivial ⟨lv,trivial⟩)
    ·rw [B3 hc6] at hj4
     rw [hc6];refine AD (n:=87) AB 10 [(2,.b false)] [some ⟨5,66,[AA.enc x0],false⟩] kr ?_;have hq:=OI hj4; subst hq;exact AH rfl (A7 [] trivial ⟨lv,trivial⟩)
   ·rw [B3 hc5] at hj4
    rw [hc5];refine AD (n:=87) AB 15 [(2,.b false)] [some ⟨5,66,[AA.enc x0],false⟩] kr ?_;have hq:=OI hj4; subst hq;exact AH rfl (A7 [] trivial ⟨lv,trivial⟩)
  refine Ah ?_;have hq:=OI h; subst hq;exact ⟨⟨Fr 87 [(2,.b j4)],[]⟩,AK,.inr rfl,[.b j4],kr,kr⟩
 ·rw [B3 hb1] at h
  refine AF ?_;refine AO AB [(1,.pt 0 0 0),(3,.j (x0.2.2.2.1.length:Int)),(8,.v (.int .u8 x0.1)),(28,.b (x0.1==2))] [some ⟨5,66,[AA.enc x0],false⟩] ?_;obtain ⟨r16,hr16,h⟩:=OB h;refine DU (H7 x0 _ hr16) ?_;refine AQ (b:=r16) kr (fun hb17=>?_) (fun hb17=>?_)
  ·rw [if_pos hb17] at h
   refine AF ?_;obtain ⟨j19,hj19,h⟩:=OB h;refine AL (s1:=⟨Fr 87 [(2,.b j19)],[]⟩) ?_ ?_
   ·refine AD (n:=87) AB 3 [(1,.pt 0 0 0),(35,.b ((x0.2.2.2.1.length:Int)==0))] [some ⟨5,66,[AA.enc x0],false⟩] kr ?_
    rcases BE ((x0.2.2.2.1.length:Int)==0) with hc20 | hc20
    ·rw [if_pos hc20] at hj19
     rw [hc20];refine AD (n:=87) AB 5 [(1,.pt 0 0 0),(40,.b (x0.2.2.2.2==0))] [some ⟨5,66,[AA.enc x0],false⟩] kr ?_;rcases BE (x0.2.2.2.2==0) with hc21 | hc21
     ·rw [if_pos hc21] at hj19
      rw [hc21];refine AD (n:=87) AB 5 [(2,.b (!x0.2.2.1))] [some ⟨5,66,[AA.enc x0],false⟩] kr ?_;have hq:=OI hj19; subst hq;exact AH rfl (A7 [] trivial ⟨lv,trivial⟩)
     ·rw [B3 hc21] at hj19
      rw [hc21];refine AD (n:=87) AB 5 [(2,.b false)] [some ⟨5,66,[AA.enc x0],false⟩] kr ?_;have hq:=OI hj19; subst hq;exact AH rfl (A7 [] trivial ⟨lv,trivial⟩)
    ·rw [B3 hc20] at hj19
     rw [hc20];refine AD (n:=87) AB 10 [(2,.b false)] [some ⟨5,66,[AA.enc x0],false⟩] kr ?_;have hq:=OI hj19; subst hq;exact AH rfl (A7 [] trivial ⟨lv,trivial⟩)
   refine Ah ?_;have hq:=OI h; subst hq;exact ⟨⟨Fr 87 [(2,.b j19)],[]⟩,AK,.inr rfl,[.b j19],kr,kr⟩
  ·rw [B3 hb17] at h
   refine AO AB [(1,.pt 0 0 0),(3,.j (x0.2.2.2.1.length:Int)),(8,.v (.int .u8 x0.1)),(45,.b (x0.1==4))] [some ⟨5,66,[AA.enc x0],false⟩] ?_;refine AQ (b:=(x0.1==4)) kr (fun hb22=>?_) (fun hb22=>?_)
   ·rw [if_pos hb22] at h
    refine AF ?_;obtain ⟨j25,hj25,h⟩:=OB h;refine AL (s1:=⟨Fr 87 [(2,.b j25)],[]⟩) ?_ ?_
    ·refine AD (n:=87) AB 3 [(1,.pt 0 0 0),(49,.b ((x0.2.2.2.1.length:Int)==0))] [some ⟨5,66,[AA.enc x0],false⟩] kr ?_
     rcases BE ((x0.2.2.2.1.length:Int)==0) with hc26 | hc26
     ·rw [if_pos hc26] at hj25
      rw [hc26];refine AD (n:=87) AB 2 [(49,.b true),(51,.j x0.2.2.2.2)] [some ⟨5,66,[AA.enc x0],false⟩] kr ?_;obtain ⟨v23,hv23,hj25⟩:=OB hj25;refine An (caps:=[]) (xs:=[.j x0.2.2.2.2,.j 1,.j 2]) (u:=(x0.2.2.2.2,1,2,())) rfl rfl EN rfl kr kr kr (Am (BH (c:=cdI) (v:=x0.2.2.2.2)) (Am (BH (c:=cdI) (v:=1)) (Am (BH (c:=cdI) (v:=2)) Bg))) (.inl kr) hv23 ?_;refine AD (n:=87) AB 2 [(2,.b v23)] [some ⟨5,66,[AA.enc x0],false⟩] kr ?_;have hq:=OI hj25; subst hq;exact AH rfl (A7 [] trivial ⟨lv,trivial⟩)
     ·rw [B3 hc26] at hj25
      rw [hc26];refine AD (n:=87) AB 5 [(2,.b false)] [some ⟨5,66,[AA.enc x0],false⟩] kr ?_;have hq:=OI hj25; subst hq;exact AH rfl (A7 [] trivial ⟨lv,trivial⟩)
    refine Ah ?_;have hq:=OI h; subst hq;exact ⟨⟨Fr 87 [(2,.b j25)],[]⟩,AK,.inr rfl,[.b j25],kr,kr⟩
   ·rw [B3 hb22] at h
    refine AO AB [(1,.pt 0 0 0),(3,.j (x0.2.2.2.1.length:Int)),(8,.v (.int .u8 x0.1)),(54,.b (x0.1==5))] [some ⟨5,66,[AA.enc x0],false⟩] ?_;refine AQ (b:=(x0.1==5)) kr (fun hb27=>?_) (fun hb27=>?_)
    ·rw [if_pos hb27] at h
     refine AF ?_;obtain ⟨j29,hj29,h⟩:=OB h;refine AL (s1:=⟨Fr 87 [(2,.b j29)],[]⟩) ?_ ?_
     ·refine AD (n:=87) AB 3 [(1,.pt 0 0 0),(58,.b ((x0.2.2.2.1.length:Int)==0))] [some ⟨5,66,[AA.enc x0],false⟩] kr ?_
      rcases BE ((x0.2.2.2.1.length:Int)==0) with hc30 | hc30
      ·rw [if_pos hc30] at hj29
       rw [hc30];refine AD (n:=87) AB 5 [(2,.b (x0.2.2.2.2==0))] [some ⟨5,66,[AA.enc x0],false⟩] kr ?_;have hq:=OI hj29; subst hq;exact AH rfl (A7 [] trivial ⟨lv,trivial⟩)
      ·rw [B3 hc30] at hj29
       rw [hc30];refine AD (n:=87) AB 5 [(2,.b false)] [some ⟨5,66,[AA.enc x0],false⟩] kr ?_;have hq:=OI hj29; subst hq;exact AH rfl (A7 [] trivial ⟨lv,trivial⟩)
     refine Ah ?_;have hq:=OI h; subst hq;exact ⟨⟨Fr 87 [(2,.b j29)],[]⟩,AK,.inr rfl,[.b j29],kr,kr⟩
    ·rw [B3 hb27] at h
     refine AF ?_;refine AO AB [(1,.pt 0 0 0),(3,.j (x0.2.2.2.1.length:Int)),(8,.v (.int .u8 x0.1)),(63,.b (x0.1==6))] [some ⟨5,66,[AA.enc x0],false⟩] ?_;obtain ⟨r33,hr33,h⟩:=OB h;refine DU (IA x0 _ hr33) ?_;refine AQ (b:=r33) kr (fun hb34=>?_) (fun hb34=>?_)
     ·rw [if_pos hb34] at h
      refine AF ?_;obtain ⟨v35,hv35,h⟩:=OB h;obtain ⟨j37,hj37,h⟩:=OB h;refine AL (s1:=⟨Fr 87 [(2,.b j37)],[]⟩) ?_ ?_
      ·refine AD (n:=87) AB 1 [(1,.pt 0 0 0),(66,.j (x0.2.2.2.1.length:Int))] [some ⟨5,66,[AA.enc x0],false⟩] kr ?_
       refine An (caps:=[]) (xs:=[.j (x0.2.2.2.1.length:Int),.j 1,.j 16]) (u:=((x0.2.2.2.1.length:Int),1,16,())) rfl rfl EN rfl (AC rfl) kr kr (Am (BH (c:=cdI) (v:=(x0.2.2.2.1.length:Int))) (Am (BH (c:=cdI) (v:=1)) (Am (BH (c:=cdI) (v:=16)) Bg))) (.inl kr) hv35 ?_;refine AD (n:=87) AB 1 [(1,.pt 0 0 0),(68,.b v35)] [some ⟨5,66,[AA.enc x0],false⟩] kr ?_;rcases BE v35 with hc38 | hc38
       ·rw [if_pos hc38] at hj37
        rw [hc38];refine AD (n:=87) AB 5 [(2,.b (x0.2.2.2.2==0))] [some ⟨5,66,[AA.enc x0],false⟩] kr ?_;have hq:=OI hj37; subst hq;exact AH rfl (A7 [] trivial ⟨lv,trivial⟩)
       ·rw [B3 hc38] at hj37
        rw [hc38];refine AD (n:=87) AB 5 [(2,.b false)] [some ⟨5,66,[AA.enc x0],false⟩] kr ?_;have hq:=OI hj37; subst hq;exact AH rfl (A7 [] trivial ⟨lv,trivial⟩)
      refine Ah ?_;have hq:=OI h; subst hq;exact ⟨⟨Fr 87 [(2,.b j37)],[]⟩,AK,.inr rfl,[.b j37],kr,kr⟩
     ·rw [B3 hb34] at h
      refine AO AB [(1,.pt 0 0 0),(3,.j (x0.2.2.2.1.length:Int)),(73,.b (x0.1==10))] [some ⟨5,66,[AA.enc x0],false⟩] ?_;refine AQ (b:=(x0.1==10)) kr (fun hb39=>?_) (fun hb39=>?_)
      ·rw [if_pos hb39] at h
       refine AF ?_;obtain ⟨j42,hj42,h⟩:=OB h;refine AL (s1:=⟨Fr 87 [(2,.b j42)],[]⟩) ?_ ?_
       ·refine AD (n:=87) AB 3 [(1,.pt 0 0 0),(77,.b ((x0.2.2.2.1.length:Int)==0))] [some ⟨5,66,[AA.enc x0],false⟩] kr ?_
        rcases BE ((x0.2.2.2.1.length:Int)==0) with hc43 | hc43
        ·rw [if_pos hc43] at hj42
         rw [hc43];refine AD (n:=87) AB 2 [(1,.pt 0 0 0),(77,.b true),(79,.j x0.2.2.2.2)] [some ⟨5,66,[AA.enc x0],false⟩] kr ?_;obtain ⟨v40,hv40,hj42⟩:=OB hj42;refine An (caps:=[]) (xs:=[.j x0.2.2.2.2,.j 0,.j 63]) (u:=(x0.2.2.2.2,0,63,())) rfl rfl EN rfl kr kr kr (Am (BH (c:=cdI) (v:=x0.2.2.2.2)) (Am (BH (c:=cdI) (v:=0)) (Am (BH (c:=cdI) (v:=63)) Bg))) (.inl kr) hv40 ?_;refine AD (n:=87) AB 2 [(1,.pt 0 0 0),(82,.b v40)] [some ⟨5,66,[AA.enc x0],false⟩] kr ?_;rcases BE v40 with hc44 | hc44
         ·rw [if_pos hc44] at hj42
          rw [hc44];refine AD (n:=87) AB 5 [(2,.b (!x0.2.2.1))] [some ⟨5,66,[AA.enc x0],false⟩] kr ?_;have hq:=OI hj42; subst hq;exact AH rfl (A7 [] trivial ⟨lv,trivial⟩)
         ·rw [B3 hc44] at hj42
          rw [hc44];refine AD (n:=87) AB 5 [(2,.b false)] [some ⟨5,66,[AA.enc x0],false⟩] kr ?_;have hq:=OI hj42; subst hq;exact AH rfl (A7 [] trivial ⟨lv,trivial⟩)
        ·rw [B3 hc43] at hj42
         rw [hc43];refine AD (n:=87) AB 10 [(2,.b false)] [some ⟨5,66,[AA.enc x0],false⟩] kr ?_;have hq:=OI hj42; subst hq;exact AH rfl (A7 [] trivial ⟨lv,trivial⟩)
       refine Ah ?_;have hq:=OI h; subst hq;exact ⟨⟨Fr 87 [(2,.b j42)],[]⟩,AK,.inr rfl,[.b j42],kr,kr⟩
      ·rw [B3 hb39] at h
       refine Ac ?_;refine AF ?_;refine AL (s1:=⟨Fr 87 [(2,.b false)],[]⟩) ?_ ?_
       ·refine AD (n:=87) AB 1 [(2,.b false)] [some ⟨5,66,[AA.enc x0],false⟩] kr ?_
        exact AH rfl (A7 [] trivial ⟨lv,trivial⟩)
       refine Ah ?_;have hq:=OI h; subst hq;exact ⟨⟨Fr 87 [(2,.b false)],[]⟩,AK,.inr rfl,[.b false],kr,kr⟩
def Jx:List AV->Option AV:=ER FO (fun a=>Aj a.1) FR
theorem J2:XOk 85 Jx:=by
 refine Aq Tryz.func85 (c:=DF) ?h2 ⟨Tryz.call85⟩ FO (fun a=>Aj a.1) FR (fun a=>(by show 1<=87; decide)) ?h3 ?h4
 case h2=>kernel_rfl
 case h3=>intro b; kernel_rfl
 case h4=>exact fun a b h=>Io a.1 b h
/- trestle/trestlekit.Name -/
noncomputable def HY:Code:=CC Tryz.f86
def Db (x0:(List UInt8)):Nat->Int->Option ((Unit) ⊕ (Bool))
 | 0,_=>none
 | f + 1,c4 =>
  if (decide (c4 < (x0.length:Int)))=true then
  (idx x0 c4).bind fun v6 =>
  (if (decide ((v6.toNat:Int) < 97))=true then some true else (idx x0 c4).bind fun v7 =>
  some (decide ((v7.toNat:Int) > 122))).bind fun j9 =>
  if j9=true then
  some (.inr false)
  else
  Db x0 f (wr .i64 (c4 + 1))
  else
  some (.inl ())
def Fd (x0:(List UInt8)):Option (Bool) :=
 (if (decide ((x0.length:Int) < 1))=true then some true else some (decide ((x0.length:Int) > 12))).bind fun j2 =>
 if j2=true then
 some false
 else
 (Db x0 100000 0).bind fun r13 =>
 match r13 with
 | (.inl w14) =>
  some true
 | (.inr w15) =>
  some w15
def Ha:Cs ((List UInt8)×Unit):=(csC cdS csN)
def Hb (r:Bool):AV:=cdB.enc r
theorem HS (x0:(List UInt8)):∀ (f:Nat) (c4:Int) (r:(Unit) ⊕ (Bool)),Db x0 f c4=some r->SemN E0 ⟨none,false⟩ (pc HY [1,1,0,1,0,0]) f ⟨Fr 28 [(0,.st x0),(3,.j c4)],[]⟩ (fun e s=>match r with
 | (.inl w)=>e=(.exit 0)/\Wk E0 s ⟨Fr 28 [],[]⟩
 | (.inr w)=>e = .ret/\Wk E0 s ⟨Fr 28 [(2,.b w)],[]⟩):=by
 intro f;induction f with
 | zero=>intro c4 r h; cases h
 | succ f ih0 =>
  intro c4 r h
  have ih:=fun (c4:Int)=>ih0 c4 r
  unfold Db at h;refine B4 ?_;refine AF ?_;refine AO AB [(0,.st x0),(3,.j c4),(15,.b (decide (c4 < (x0.length:Int))))] [] ?_;refine AQ (b:=(decide (c4 < (x0.length:Int)))) kr (fun hb5=>?_) (fun hb5=>?_)
  ·rw [if_pos hb5] at h
   refine Ac ?_;refine AF ?_;refine Ao ?_;refine AF ?_;obtain ⟨v6,hv6,h⟩:=OB h;obtain ⟨j9,hj9,h⟩:=OB h;refine AL (s1:=⟨Fr 28 [(0,.st x0),(3,.j c4),(27,.b j9)],[]⟩) ?_ ?_
   ·refine AD (n:=28) AB 2 [(0,.st x0),(3,.j c4),(18,.st x0),(19,.j c4)] [] kr ?_
    refine Ab AB 0 rfl (DQ (AC rfl) rfl (Kf (a:= .st x0) (b:= .j c4) kr kr (I0 (bs:=x0) (ki:= .i64) kr hv6))) ?_;refine AD (n:=28) AB 2 [(0,.st x0),(3,.j c4),(22,.b (decide ((v6.toNat:Int) < 97)))] [] kr ?_;rcases BE (decide ((v6.toNat:Int) < 97)) with hc12 | hc12
    ·rw [if_pos hc12] at hj9
     rw [hc12];refine AD (n:=28) AB 5 [(0,.st x0),(3,.j c4),(23,.tp []),(24,.tp []),(25,.tp []),(26,.tp []),(27,.b true)] [] kr ?_;have hq:=OI hj9; subst hq;exact AH rfl AK
    ·rw [B3 hc12] at hj9
     rw [hc12];refine AD (n:=28) AB 2 [(0,.st x0),(3,.j c4),(22,.b false),(23,.st x0),(24,.j c4)] [] kr ?_;obtain ⟨v7,hv7,hj9⟩:=OB hj9;refine Ab AB 0 rfl (DQ kr rfl (Kf (a:= .st x0) (b:= .j c4) kr kr (I0 (bs:=x0) (ki:= .i64) kr hv7))) ?_;refine AD (n:=28) AB 2 [(0,.st x0),(3,.j c4),(23,.st x0),(24,.j c4),(25,.v (.int .u8 (v7.toNat:Int))),(26,.b (decide ((v7.toNat:Int) > 122))),(27,.b (decide ((v7.toNat:Int) > 122)))] [] kr ?_;have hq:=OI hj9; subst hq;exact AH rfl AK
   refine AQ (b:=j9) kr (fun hb10=>?_) (fun hb10=>?_)
   ·rw [if_pos hb10] at h
    refine AO AB [(2,.b false)] [] ?_;refine Ah ?_;have hq:=OI h; subst hq;exact ⟨rfl,AK⟩
   ·rw [B3 hb10] at h
    refine Ac ?_;refine C0 AB [(0,.st x0),(3,.j (wr .i64 (c4 + 1)))] [] ?_;exact Ax (s1:=⟨Fr 28 [(0,.st x0),(3,.j (wr .i64 (c4 + 1)))],[]⟩) AK (ih (wr .i64 (c4 + 1)) h)
  ·rw [B3 hb5] at h
   refine Cc ?_;have hq:=OI h; subst hq;exact ⟨rfl,AK⟩
theorem LM (x0:(List UInt8)) (r:Bool) (h:Fd x0=some r):Sem E0 ⟨none,false⟩ HY ⟨Fr 28 (Bo 0 (Ha.enc (x0,()))),[]⟩ fun e s'=>(e = .normal\/e = .ret)/\∃ xs,EQ E0.P s'.fr s'.hp Tryz.f86.results.toList=some xs/\Ea xs=Hb r:=by
 unfold Fd at h;refine Bf (CN (s1:=⟨Fr 28 [(0,.st x0)],[]⟩) AK ?_);refine AO AB [(0,.st x0)] [] ?_;refine AF ?_;refine AF ?_;obtain ⟨j2,hj2,h⟩:=OB h;refine AL (s1:=⟨Fr 28 [(0,.st x0),(11,.b j2)],[]⟩) ?_ ?_
 ·refine AD (n:=28) AB 4 [(0,.st x0),(7,.b (decide ((x0.length:Int) < 1)))] [] kr ?_
  rcases BE (decide ((x0.length:Int) < 1)) with hc16 | hc16
  ·rw [if_pos hc16] at hj2
   rw [hc16];refine AD (n:=28) AB 4 [(0,.st x0),(11,.b true)] [] kr ?_;have hq:=OI hj2; subst hq;exact AH rfl AK
  ·rw [B3 hc16] at hj2
   rw [hc16];refine AD (n:=28) AB 4 [(0,.st x0),(11,.b (decide ((x0.length:Int) > 12)))] [] kr ?_;have hq:=OI hj2; subst hq;exact AH rfl AK
 refine AQ (b:=j2) kr (fun hb3=>?_) (fun hb3=>?_)
 ·rw [if_pos hb3] at h
  refine AO AB [(2,.b false)] [] ?_;refine Ah ?_;have hq:=OI h; subst hq;exact ⟨⟨Fr 28 [(2,.b false)],[]⟩,AK,.inr rfl,[.b false],kr,kr⟩
 ·rw [B3 hb3] at h
  refine Ac ?_;refine AF ?_;refine AO AB [(0,.st x0),(3,.j 0)] [] ?_;refine Ao ?_;obtain ⟨r13,hr13,h⟩:=OB h;refine Ce (n:=100000) ?_;rcases r13 with w14 | w15
  ·try dsimp only at h
   refine BG (Ax (s1:=⟨Fr 28 [(0,.st x0),(3,.j 0)],[]⟩) AK (HS x0 _ 0 _ hr13)) ?_;refine AO AB [(2,.b true)] [] ?_;refine Ah ?_;have hq:=OI h; subst hq;exact ⟨⟨Fr 28 [(2,.b true)],[]⟩,AK,.inr rfl,[.b true],kr,kr⟩
  ·try dsimp only at h
   refine BG (Ax (s1:=⟨Fr 28 [(0,.st x0),(3,.j 0)],[]⟩) AK (HS x0 _ 0 _ hr13)) ?_;have hq:=OI h; subst hq;exact ⟨⟨Fr 28 [(2,.b w15)],[]⟩,AK,.inr rfl,[.b w15],kr,kr⟩
def NK:List AV->Option AV:=ER Ha (fun a=>Fd a.1) Hb
theorem KM:XOk 86 NK:=by
 refine Aq Tryz.func86 (c:=HY) ?h2 ⟨Tryz.call86⟩ Ha (fun a=>Fd a.1) Hb (fun a=>(by show 1<=28; decide)) ?h3 ?h4
 case h2=>kernel_rfl
 case h3=>intro b; kernel_rfl
 case h4=>exact fun a b h=>LM a.1 b h
/- trestle/trestleref03.has -/
noncomputable def Gj:Code:=CC Tryz.f87
def Ef (x0:(List (List UInt8))) (x1:(List UInt8)):Nat->Int->Option ((Unit) ⊕ (Bool))
 | 0,_=>none
 | f + 1,c1 =>
  if (decide (c1 < (x0.length:Int)))=true then
  (idx x0 c1).bind fun v3 =>
  if (v3==x1)=true then
  some (.inr true)
  else
  Ef x0 x1 f (wr .i64 (c1 + 1))
  else
  some (.inl ())
def Ee (x0:(List (List UInt8))) (x1:(List UInt8)):Option (Bool) :=
 (Ef x0 x1 100000 0).bind fun r6 =>
 match r6 with
 | (.inl w7) =>
  some false
 | (.inr w8) =>
  some w8
def Gm:Cs ((List (List UInt8))×(List UInt8)×Unit):=(csC (cdL 1 cdS) (csC cdS csN))
def Gt (r:Bool):AV:=cdB.enc r
theorem Gz (x0:(List (List UInt8))) (x1:(List UInt8)):∀ (f:Nat) (c1:Int) (r:(Unit) ⊕ (Bool)),Ef x0 x1 f c1=some r->SemN E0 ⟨none,false⟩ (pc Gj [1,0,1,0,0]) f ⟨Fr 18 [(0,.sl 1 (x0.map cdS.enc)),(1,.st x1),(5,.j c1)],[]⟩ (fun e s=>match r with
 | (.inl w)=>e=(.exit 0)/\Wk E0 s ⟨Fr 18 [],[]⟩
 | (.inr w)=>e = .ret/\Wk E0 s ⟨Fr 18 [(4,.b w)],[]⟩):=by
 intro f;induction f with
 | zero=>intro c1 r h; cases h
 | succ f ih0 =>
  intro c1 r h
  have ih:=fun (c1:Int)=>ih0 c1 r
  unfold Ef at h;refine B4 ?_;refine AF ?_;refine AF ?_
  let p1:Nat×AV:=(5,.j c1)
  let p2:Nat×AV:=(0,.sl 1 (x0.map cdS.enc))
  refine AL (s1:=⟨Fr 18 [p2,(1,.st x1),p1,(9,.b (decide (c1 < (x0.length:Int))))],[]⟩) ?_ ?_
  ·refine AD (n:=18) AB 2 [p2,(1,.st x1),p1,(6,.j c1),(7,.sl 1 (x0.map cdS.enc))] [] kr ?_
   refine Ab AB 0 rfl (DQ (AC rfl) rfl (DI (a:= .sl 1 (x0.map cdS.enc)) kr (CD (el:=9) kr))) ?_;exact Ai AB
  refine AQ (b:=(decide (c1 < (x0.length:Int)))) kr (fun hb2=>?_) (fun hb2=>?_)
  ·rw [if_pos hb2] at h
   refine Ac ?_;refine AF ?_;refine Ao ?_;refine AF ?_;obtain ⟨v3,hv3,h⟩:=OB h;refine AL (s1:=⟨Fr 18 [p2,(1,.st x1),p1,(17,.b (v3==x1))],[]⟩) ?_ ?_
   ·refine AD (n:=18) AB 2 [p2,(1,.st x1),p1,(12,.sl 1 (x0.map cdS.enc)),(13,.j c1)] [] kr ?_
    refine Ab AB 0 rfl (DQ (AC rfl) rfl (Ad (a:= .sl 1 (x0.map cdS.enc)) (b:= .j c1) kr kr (EF (e:=cdS.enc) (el:=9) (k:=1) (ki:= .i64) kr kr hv3))) ?_;exact Ai AB
   refine AQ (b:=(v3==x1)) kr (fun hb4=>?_) (fun hb4=>?_)
   ·rw [if_pos hb4] at h
    refine AO AB [(4,.b true)] [] ?_;refine Ah ?_;have hq:=OI h; subst hq;exact ⟨rfl,AK⟩
   ·rw [B3 hb4] at h
    refine Ac ?_
    let p3:Nat×AV:=(5,.j (wr .i64 (c1 + 1)))
    refine C0 AB [p2,(1,.st x1),p3] [] ?_;exact Ax (s1:=⟨Fr 18 [p2,(1,.st x1),p3],[]⟩) AK (ih (wr .i64 (c1 + 1)) h)
  ·rw [B3 hb2] at h
   refine Cc ?_;have hq:=OI h; subst hq;exact ⟨rfl,AK⟩
theorem Kg (x0:(List (List UInt8))) (x1:(List UInt8)) (r:Bool) (h:Ee x0 x1=some r):Sem E0 ⟨none,false⟩ Gj ⟨Fr 18 (Bo 0 (Gm.enc (x0,x1,()))),[]⟩ fun e s'=>(e = .normal\/e = .ret)/\∃ xs,EQ E0.P s'.fr s'.hp Tryz.f87.results.toList=some xs/\Ea xs=Gt r:=by
 unfold Ee at h
 let p1:Nat×AV:=(0,.sl 1 (x0.map cdS.enc))
 refine Bf (CN (s1:=⟨Fr 18 [p1,(1,.st x1)],[]⟩) AK ?_);refine AO AB [p1,(1,.st x1)] [] ?_;refine AF ?_
 let p2:Nat×AV:=(5,.j 0)
 refine AO AB [p1,(1,.st x1),p2] [] ?_;refine Ao ?_;obtain ⟨r6,hr6,h⟩:=OB h;refine Ce (n:=100000) ?_;rcases r6 with w7 | w8
 ·try dsimp only at h
  refine BG (Ax (s1:=⟨Fr 18 [p1,(1,.st x1),p2],[]⟩) AK (Gz x0 x1 _ 0 _ hr6)) ?_;refine AO AB [(4,.b false)] [] ?_;refine Ah ?_;have hq:=OI h; subst hq;exact ⟨⟨Fr 18 [(4,.b false)],[]⟩,AK,.inr rfl,[.b false],kr,kr⟩
 ·try dsimp only at h
  refine BG (Ax (s1:=⟨Fr 18 [p1,(1,.st x1),p2],[]⟩) AK (Gz x0 x1 _ 0 _ hr6)) ?_;have hq:=OI h; subst hq;exact ⟨⟨Fr 18 [(4,.b w8)],[]⟩,AK,.inr rfl,[.b w8],kr,kr⟩
def MG:List AV->Option AV:=ER Gm (fun a=>Ee a.1 a.2.1) Gt
theorem Jk:XOk 87 MG:=by
 refine Aq Tryz.func87 (c:=Gj) ?h2 ⟨Tryz.call87⟩ Gm (fun a=>Ee a.1 a.2.1) Gt (fun a=>(by show 2<=18; decide)) ?h3 ?h4
 case h2=>kernel_rfl
 case h3=>intro b; kernel_rfl
 case h4=>exact fun a b h=>Kg a.1 a.2.1 b h
/- trestle/trestleref03.CheckOne -/
noncomputable def DE:Code:=CC Tryz.f56
def Bw (x0:(List AE)) (x1:Int):Nat->Int->Option ((Unit) ⊕ (Int))
 | 0,_=>none
 | f + 1,c10 =>
  (idx x0 x1).bind fun v11 =>
  if (decide (c10 < (v11.2.2.2.1.length:Int)))=true then
  (idx x0 x1).bind fun v13 =>
  (idx v13.2.2.2.1 c10).bind fun v14 =>
  (Fd v14).bind fun v15 =>
  if (!v15)=true then
  some (.inr 4)
  else
  Bw x0 x1 f (wr .i64 (c10 + 1))
  else
  some (.inl ())
def Bx (x0:(List AE)) (x1:Int):Nat->Int->Option ((Unit) ⊕ (Int))
 | 0,_=>none
 | f + 1,c20 =>
  (idx x0 x1).bind fun v21 =>
  if (decide (c20 < (v21.2.2.2.1.length:Int)))=true then
  (idx x0 x1).bind fun v23 =>
  if (Gn 0 c20 v23.2.2.2.1.length)=true then
  (idx x0 x1).bind fun v25 =>
  (idx v25.2.2.2.1 c20).bind fun v26 =>
  (Ee ((v23.2.2.2.1.take c20.toNat).drop (0:Int).toNat) v26).bind fun v27 =>
  if v27=true then
  some (.inr 5)
  else
  Bx x0 x1 f (wr .i64 (c20 + 1))
  else none
  else
  some (.inl ())
def By (x0:(List AE)) (x1:Int):Nat->Int->Option ((Unit) ⊕ (Int))
 | 0,_=>none
 | f + 1,c34 =>
  if (decide (c34 < x1))=true then
  (idx x0 c34).bind fun v36 =>
  (if (v36.1==1)=true then (idx x0 c34).bind fun v37 =>
  (idx x0 x1).bind fun v38 =>
  (Ee v37.2.2.2.1 v38.2.1).bind fun v39 =>
  some v39 else some false).bind fun j41 =>
  if j41=true then
  some (.inr 0)
  else
  By x0 x1 f (wr .i64 (c34 + 1))
  else
  some (.inl ())
def C5 (x0:(List AE)) (x1:Int):Option (Int) :=
 (idx x0 x1).bind fun v1 =>
 (Aj v1).bind fun v2 =>
 if (!v2)=true then
 some 30
 else
 (idx x0 x1).bind fun v4 =>
 (if (!(v4.2.1==[]))=true then (idx x0 x1).bind fun v5 =>
 (Fd v5.2.1).bind fun v6 =>
 some (!v6) else some false).bind fun j8 =>
 if j8=true then
 some 4
 else
 (Bw x0 x1 100000 0).bind fun r18 =>
 match r18 with
 | (.inl w19) =>
  (Bx x0 x1 100000 0).bind fun r30 =>
  match r30 with
  | (.inl w31) =>
   (idx x0 x1).bind fun v32 =>
   if (v32.2.1==[])=true then
   some 0
   else
   (By x0 x1 100000 0).bind fun r45 =>
   match r45 with
   | (.inl w46) =>
    some 31
   | (.inr w47) =>
    some w47
  | (.inr w48) =>
   some w48
 | (.inr w49) =>
  some w49
def EU:Cs ((List AE)×Int×Unit):=(csC (cdL 5 AA) (csC cdI csN))
def EV (r:Int):AV:=cdI.enc r
theorem Eu (x0:(List AE)) (x1:Int):∀ (f:Nat) (c10:Int) (r:(Unit) ⊕ (Int)),Bw x0 x1 f c10=some r->SemN E0 ⟨none,false⟩ (pc DE [1,1,1,0,1,0,0]) f ⟨Fr 105 [(0,.sl 5 (x0.map AA.enc)),(1,.j x1),(5,.j c10)],[]⟩ (fun e s=>match r with
 | (.inl w)=>e=(.exit 0)/\Wk E0 s ⟨Fr 105 [(0,.sl 5 (x0.map AA.enc)),(1,.j x1)],[]⟩
 | (.inr w)=>e = .ret/\Wk E0 s ⟨Fr 105 [(4,.j w)],[]⟩):=by
 intro f;induction f with
 | zero=>intro c10 r h; cases h
 | succ f ih0 =>
  intro c10 r h
  have ih:=fun (c10:Int)=>ih0 c10 r
  unfold Bw at h;refine B4 ?_;refine AF ?_;refine AF ?_;obtain ⟨v11,hv11,h⟩:=OB h
  let p1:Nat×AV:=(5,.j c10)
  let p2:Nat×AV:=(1,.j x1)
  let p3:Nat×AV:=(0,.sl 5 (x0.map AA.enc))
  refine AL (s1:=⟨Fr 105 [p3,p2,p1,(36,.b (decide (c10 < (v11.2.2.2.1.length:Int))))],[]⟩) ?_ ?_
  ·refine AD (n:=105) AB 3 [p3,p2,p1,(29,.j c10),(30,.sl 5 (x0.map AA.enc)),(31,.j x1)] [] kr ?_
   refine Ab AB 0 rfl (DQ (AC rfl) rfl (Ad (a:= .sl 5 (x0.map AA.enc)) (b:= .j x1) kr kr (EF (e:=AA.enc) (el:=66) (k:=5) (ki:= .i64) kr kr hv11))) ?_;refine AD (n:=105) AB 2 [p3,p2,p1,(29,.j c10),(34,.sl 1 (v11.2.2.2.1.map cdS.enc))] [] kr ?_;refine Ab AB 0 rfl (DQ (AC rfl) rfl (DI (a:= .sl 1 (v11.2.2.2.1.map cdS.enc)) kr (CD (el:=9) kr))) ?_;exact Ai AB
  refine AQ (b:=(decide (c10 < (v11.2.2.2.1.length:Int)))) kr (fun hb12=>?_) (fun hb12=>?_)
  ·rw [if_pos hb12] at h
   refine Ac ?_;refine AF ?_;refine Ao ?_;refine AF ?_;obtain ⟨v13,hv13,h⟩:=OB h;obtain ⟨v14,hv14,h⟩:=OB h;obtain ⟨v15,hv15,h⟩:=OB h;refine AL (s1:=⟨Fr 105 [p3,p2,p1,(48,.b (!v15))],[]⟩) ?_ ?_
   ·refine AD (n:=105) AB 2 [p3,p2,p1,(39,.sl 5 (x0.map AA.enc)),(40,.j x1)] [] kr ?_
    refine Ab AB 0 rfl (DQ (AC rfl) rfl (Ad (a:= .sl 5 (x0.map AA.enc)) (b:= .j x1) kr kr (EF (e:=AA.enc) (el:=66) (k:=5) (ki:= .i64) kr kr hv13))) ?_;refine AD (n:=105) AB 3 [p3,p2,p1,(43,.sl 1 (v13.2.2.2.1.map cdS.enc)),(44,.j c10)] [] kr ?_;refine Ab AB 0 rfl (DQ (AC rfl) rfl (Ad (a:= .sl 1 (v13.2.2.2.1.map cdS.enc)) (b:= .j c10) kr kr (EF (e:=cdS.enc) (el:=9) (k:=1) (ki:= .i64) kr kr hv14))) ?_;refine AD (n:=105) AB 1 [p3,p2,p1,(46,.st v14)] [] kr ?_;refine An (caps:=[]) (xs:=[.st v14]) (u:=(v14,())) rfl rfl KM rfl (AC rfl) kr kr (Am (BH (c:=cdS) (v:=v14)) Bg) (.inl kr) hv15 ?_;exact Ai AB
   refine AQ (b:=(!v15)) kr (fun hb16=>?_) (fun hb16=>?_)
   ·rw [if_pos hb16] at h
    refine AO AB [(4,.j 4)] [] ?_;refine Ah ?_;have hq:=OI h; subst hq;exact ⟨rfl,AK⟩
   ·rw [B3 hb16] at h
    refine Ac ?_
    let p4:Nat×AV:=(5,.j (wr .i64 (c10 + 1)))
    refine C0 AB [p3,p2,p4] [] ?_;exact Ax (s1:=⟨Fr 105 [p3,p2,p4],[]⟩) AK (ih (wr .i64 (c10 + 1)) h)
  ·rw [B3 hb12] at h
   refine Cc ?_;have hq:=OI h; subst hq;exact ⟨rfl,AK⟩
theorem Ev (x0:(List AE)) (x1:Int):∀ (f:Nat) (c20:Int) (r:(Unit) ⊕ (Int)),Bx x0 x1 f c20=some r->SemN E0 ⟨none,false⟩ (pc DE [1,1,1,1,0,1,0,0]) f ⟨Fr 105 [(0,.sl 5 (x0.map AA.enc)),(1,.j x1),(6,.j c20)],[]⟩ (fun e s=>match r with
 | (.inl w)=>e=(.exit 2)/\Wk E0 s ⟨Fr 105 [(0,.sl 5 (x0.map AA.enc)),(1,.j x1)],[]⟩
 | (.inr w)=>e = .ret/\Wk E0 s ⟨Fr 105 [(4,.j w)],[]⟩):=by
 intro f;induction f with
 | zero=>intro c20 r h; cases h
 | succ f ih0 =>
  intro c20 r h
  have ih:=fun (c20:Int)=>ih0 c20 r
  unfold Bx at h;refine B4 ?_;refine AF ?_;refine AF ?_;obtain ⟨v21,hv21,h⟩:=OB h
  let p1:Nat×AV:=(6,.j c20)
  let p2:Nat×AV:=(1,.j x1)
  let p3:Nat×AV:=(0,.sl 5 (x0.map AA.enc))
  refine AL (s1:=⟨Fr 105 [p3,p2,p1,(56,.b (decide (c20 < (v21.2.2.2.1.length:Int))))],[]⟩) ?_ ?_
  ·refine AD (n:=105) AB 3 [p3,p2,p1,(49,.j c20),(50,.sl 5 (x0.map AA.enc)),(51,.j x1)] [] kr ?_
   refine Ab AB 0 rfl (DQ (AC rfl) rfl (Ad (a:= .sl 5 (x0.map AA.enc)) (b:= .j x1) kr kr (EF (e:=AA.enc) (el:=66) (k:=5) (ki:= .i64) kr kr hv21))) ?_;refine AD (n:=105) AB 2 [p3,p2,p1,(49,.j c20),(54,.sl 1 (v21.2.2.2.1.map cdS.enc))] [] kr ?_;refine Ab AB 0 rfl (DQ (AC rfl) rfl (DI (a:= .sl 1 (v21.2.2.2.1.map cdS.enc)) kr (CD (el:=9) kr))) ?_;exact Ai AB
  refine AQ (b:=(decide (c20 < (v21.2.2.2.1.length:Int)))) kr (fun hb22=>?_) (fun hb22=>?_)
  ·rw [if_pos hb22] at h
   refine Ac ?_;refine AF ?_;refine Ao ?_;refine AF ?_;obtain ⟨v23,hv23,h⟩:=OB h;by_cases hk24:(Gn 0 c20 v23.2.2.2.1.length)=true
   case neg=>rw [if_neg hk24] at h; cases h
   rw [if_pos hk24] at h;obtain ⟨v25,hv25,h⟩:=OB h;obtain ⟨v26,hv26,h⟩:=OB h;obtain ⟨v27,hv27,h⟩:=OB h;refine Hl AB (s1:=⟨Fr 105 [p3,p2,p1,(74,.b v27)],[]⟩) kr ?_ ?_
   ·refine Bv (n:=105) AB 2 [p3,p2,p1,(59,.sl 5 (x0.map AA.enc)),(60,.j x1)] [] kr kr ?_
    refine RunDS.one AB rfl kr (HJ kr (AC rfl) rfl (Ad (a:= .sl 5 (x0.map AA.enc)) (b:= .j x1) kr kr (EF (e:=AA.enc) (el:=66) (k:=5) (ki:= .i64) kr kr hv23)) kr) ?_;refine Bv (n:=105) AB 3 [p3,p2,p1,(63,.sl 1 (v23.2.2.2.1.map cdS.enc)),(64,.j c20)] [] kr kr ?_;refine RunDS.one AB rfl kr (HJ kr (AC rfl) rfl (JT (a:= .sl 1 (v23.2.2.2.1.map cdS.enc)) (l:=none) (u:=(some (.j c20))) (m:=none) kr kr kr rfl (Kl (xs:=v23.2.2.2.1) (e:=cdS.enc) (k:=1) (el:=9) (lo:=0) (hi:=c20) kr kr rfl (Mg (Nl hk24)) hk24)) kr) ?_
    let p4:Nat×AV:=(65,.sl 1 (((v23.2.2.2.1.take c20.toNat).drop (0:Int).toNat).map cdS.enc))
    refine Bv (n:=105) AB 2 [p3,p2,p1,p4,(66,.sl 5 (x0.map AA.enc)),(67,.j x1)] [] kr kr ?_;refine RunDS.one AB rfl kr (HJ kr (AC rfl) rfl (Ad (a:= .sl 5 (x0.map AA.enc)) (b:= .j x1) kr kr (EF (e:=AA.enc) (el:=66) (k:=5) (ki:= .i64) kr kr hv25)) kr) ?_;refine Bv (n:=105) AB 3 [p3,p2,p1,p4,(70,.sl 1 (v25.2.2.2.1.map cdS.enc)),(71,.j c20)] [] kr kr ?_;refine RunDS.one AB rfl kr (HJ kr (AC rfl) rfl (Ad (a:= .sl 1 (v25.2.2.2.1.map cdS.enc)) (b:= .j c20) kr kr (EF (e:=cdS.enc) (el:=9) (k:=1) (ki:= .i64) kr kr hv26)) kr) ?_;refine Bv (n:=105) AB 1 [p3,p2,p1,p4,(73,.st v26)] [] kr kr ?_;refine HW (caps:=[]) (xs:=[.sl 1 (((v23.2.2.2.1.take c20.toNat).drop (0:Int).toNat).map cdS.enc),.st v26]) (u:=(((v23.2.2.2.1.take c20.toNat).drop (0:Int).toNat),v26,())) rfl rfl Jk rfl (AC rfl) kr kr (Am (BH (c:=(cdL 1 cdS)) (v:=((v23.2.2.2.1.take c20.toNat).drop (0:Int).toNat))) (Am (BH (c:=cdS) (v:=v26)) Bg)) kr hv27 ?_;exact RunDS.done rfl AK
   refine AQ (b:=v27) kr (fun hb28=>?_) (fun hb28=>?_)
   ·rw [if_pos hb28] at h
    refine AO AB [(4,.j 5)] [] ?_;refine Ah ?_;have hq:=OI h; subst hq;exact ⟨rfl,AK⟩
   ·rw [B3 hb28] at h
    refine Ac ?_
    let p5:Nat×AV:=(6,.j (wr .i64 (c20 + 1)))
    refine C0 AB [p3,p2,p5] [] ?_;exact Ax (s1:=⟨Fr 105 [p3,p2,p5],[]⟩) AK (ih (wr .i64 (c20 + 1)) h)
  ·rw [B3 hb22] at h
   refine Cc ?_;have hq:=OI h; subst hq;exact ⟨rfl,AK⟩
theorem Ew (x0:(List AE)) (x1:Int):∀ (f:Nat) (c34:Int) (r:(Unit) ⊕ (Int)),By x0 x1 f c34=some r->SemN E0 ⟨none,false⟩ (pc DE [1,1,1,1,1,1,0,1,0,0]) f ⟨Fr 105 [(0,.sl 5 (x0.map AA.enc)),(1,.j x1),(7,.j c34)],[]⟩ (fun e s=>match r with
 | (.inl w)=>e=(.exit 4)/\Wk E0 s ⟨Fr 105 [],[]⟩
 | (.inr w)=>e = .ret/\Wk E0 s ⟨Fr 105 [(4,.j w)],[]⟩):=by
 intro f;induction f with
 | zero=>intro c34 r h; cases h
 | succ f ih0 =>
  intro c34 r h
  have ih:=fun (c34:Int)=>ih0 c34 r
  unfold By at h;refine B4 ?_;refine AF ?_;refine AO AB [(0,.sl 5 (x0.map AA.enc)),(1,.j x1),(7,.j c34),(83,.b (decide (c34 < x1)))] [] ?_;refine AQ (b:=(decide (c34 < x1))) kr (fun hb35=>?_) (fun hb35=>?_)
  ·rw [if_pos hb35] at h
   refine Ac ?_;refine AF ?_;refine Ao ?_;refine AF ?_;obtain ⟨v36,hv36,h⟩:=OB h;obtain ⟨j41,hj41,h⟩:=OB h;refine Hl AB (s1:=⟨Fr 105 [(0,.sl 5 (x0.map AA.enc)),(1,.j x1),(7,.j c34),(104,.b j41)],[]⟩) kr ?_ ?_
   ·refine Bv (n:=105) AB 2 [(0,.sl 5 (x0.map AA.enc)),(1,.j x1),(7,.j c34),(86,.sl 5 (x0.map AA.enc)),(87,.j c34)] [] kr kr ?_
    refine RunDS.one AB rfl kr (HJ kr (AC rfl) rfl (Ad (a:= .sl 5 (x0.map AA.enc)) (b:= .j c34) kr kr (EF (e:=AA.enc) (el:=66) (k:=5) (ki:= .i64) kr kr hv36)) kr) ?_;refine Bv (n:=105) AB 4 [(0,.sl 5 (x0.map AA.enc)),(1,.j x1),(7,.j c34),(92,.b (v36.1==1))] [] kr kr ?_;rcases BE (v36.1==1) with hc44 | hc44
    ·rw [if_pos hc44] at hj41
     rw [hc44];refine Bv (n:=105) AB 2 [(0,.sl 5 (x0.map AA.enc)),(1,.j x1),(7,.j c34),(92,.b true),(93,.sl 5 (x0.map AA.enc)),(94,.j c34)] [] kr kr ?_;obtain ⟨v37,hv37,hj41⟩:=OB hj41;refine RunDS.one AB rfl kr (HJ kr kr rfl (Ad (a:= .sl 5 (x0.map AA.enc)) (b:= .j c34) kr kr (EF (e:=AA.enc) (el:=66) (k:=5) (ki:= .i64) kr kr hv37)) kr) ?_;refine Bv (n:=105) AB 4 [(0,.sl 5 (x0.map AA.enc)),(1,.j x1),(7,.j c34),(92,.b true),(93,.sl 5 (x0.map AA.enc)),(94,.j c34),(95,.pe (AA.enc v37) 0),(96,.pe (AA.enc v37) 3),(97,.sl 1 (v37.2.2.2.1.map cdS.enc)),(98,.sl 5 (x0.map AA.enc)),(99,.j x1)] [] kr kr ?_;obtain ⟨v38,hv38,hj41⟩:=OB hj41;refine RunDS.one AB rfl kr (HJ kr kr rfl (Ad (a:= .sl 5 (x0.map AA.enc)) (b:= .j x1) kr kr (EF (e:=AA.enc) (el:=66) (k:=5) (ki:= .i64) kr kr hv38)) kr) ?_;refine Bv (n:=105) AB 2 [(0,.sl 5 (x0.map AA.enc)),(1,.j x1),(7,.j c34),(92,.b true),(93,.sl 5 (x0.map AA.enc)),(94,.j c34),(95,.pe (AA.enc v37) 0),(96,.pe (AA.enc v37) 3),(97,.sl 1 (v37.2.2.2.1.map cdS.enc)),(98,.sl 5 (x0.map AA.enc)),(99,.j x1),(100,.pe (AA.enc v38) 0),(101,.pe (AA.enc v38) 1),(102,.st v38.2.1)] [] kr kr ?_;obtain ⟨v39,hv39,hj41⟩:=OB hj41;refine HW (caps:=[]) (xs:=[.sl 1 (v37.2.2.2.1.map cdS.enc),.st v38.2.1]) (u:=(v37.2.2.2.1,v38.2.1,())) rfl rfl Jk rfl kr kr kr (Am (BH (c:=(cdL 1 cdS)) (v:=v37.2.2.2.1)) (Am (BH (c:=cdS) (v:=v38.2.1)) Bg)) kr hv39 ?_;refine Bv (n:=105) AB 1 [(0,.sl 5 (x0.map AA.enc)),(1,.j x1),(7,.j c34),(93,.sl 5 (x0.map AA.enc)),(94,.j c34),(95,.pe (AA.enc v37) 0),(96,.pe (AA.enc v37) 3),(97,.sl 1 (v37.2.2.2.1.map cdS.enc)),(98,.sl 5 (x0.map AA.enc)),(99,.j x1),(100,.pe (AA.enc v38) 0),(101,.pe (AA.enc v38) 1),(102,.st v38.2.1),(103,.b v39),(104,.b v39)] [] kr kr ?_;have hq:=OI hj41; subst hq;exact RunDS.done rfl AK
    ·rw [B3 hc44] at hj41
     rw [hc44];refine Bv (n:=105) AB 12 [(0,.sl 5 (x0.map AA.enc)),(1,.j x1),(7,.j c34),(93,.tp []),(94,.tp []),(95,.tp []),(96,.tp []),(97,.tp []),(98,.tp []),(99,.tp []),(100,.tp []),(101,.tp []),(102,.tp []),(103,.tp []),(104,.b false)] [] kr kr ?_;have hq:=OI hj41; subst hq;exact RunDS.done rfl AK
   refine AQ (b:=j41) kr (fun hb42=>?_) (fun hb42=>?_)
   ·rw [if_pos hb42] at h
    refine AO AB [(4,.j 0)] [] ?_;refine Ah ?_;have hq:=OI h; subst hq;exact ⟨rfl,AK⟩
   ·rw [B3 hb42] at h
    refine Ac ?_;refine C0 AB [(0,.sl 5 (x0.map AA.enc)),(1,.j x1),(7,.j (wr .i64 (c34 + 1)))] [] ?_;exact Ax (s1:=⟨Fr 105 [(0,.sl 5 (x0.map AA.enc)),(1,.j x1),(7,.j (wr .i64 (c34 + 1)))],[]⟩) AK (ih (wr .i64 (c34 + 1)) h)
  ·rw [B3 hb35] at h
   refine Cc ?_;have hq:=OI h; subst hq;exact ⟨rfl,AK⟩
theorem H6 (x0:(List AE)) (x1:Int) (r:Int) (h:C5 x0 x1=some r):Sem E0 ⟨none,false⟩ DE ⟨Fr 105 (Bo 0 (EU.enc (x0,x1,()))),[]⟩ fun e s'=>(e = .normal\/e = .ret)/\∃ xs,EQ E0.P s'.fr s'.hp Tryz.f56.results.toList=some xs/\Ea xs=EV r:=by
 unfold C5 at h;refine Bf (CN (s1:=⟨Fr 105 [(0,.sl 5 (x0.map AA.enc)),(1,.j x1)],[]⟩) AK ?_);refine AO AB [(0,.sl 5 (x0.map AA.enc)),(1,.j x1)] [] ?_;refine AF ?_;refine AF ?_;obtain ⟨v1,hv1,h⟩:=OB h;obtain ⟨v2,hv2,h⟩:=OB h;refine AL (s1:=⟨Fr 105 [(0,.sl 5 (x0.map AA.enc)),(1,.j x1),(13,.b (!v2))],[]⟩) ?_ ?_
 ·refine AD (n:=105) AB 2 [(0,.sl 5 (x0.map AA.enc)),(1,.j x1),(8,.sl 5 (x0.map AA.enc)),(9,.j x1)] [] kr ?_
  refine Ab AB 0 rfl (DQ (AC rfl) rfl (Ad (a:= .sl 5 (x0.map AA.enc)) (b:= .j x1) kr kr (EF (e:=AA.enc) (el:=66) (k:=5) (ki:= .i64) kr kr hv1))) ?_;refine AD (n:=105) AB 1 [(0,.sl 5 (x0.map AA.enc)),(1,.j x1),(11,AA.enc v1)] [] kr ?_;refine An (caps:=[]) (xs:=[AA.enc v1]) (u:=(v1,())) rfl rfl J2 rfl (AC rfl) kr kr (Am (BH (c:=AA) (v:=v1)) Bg) (.inl kr) hv2 ?_;exact Ai AB
 refine AQ (b:=(!v2)) kr (fun hb3=>?_) (fun hb3=>?_)
 ·rw [if_pos hb3] at h
  refine AO AB [(4,.j 30)] [] ?_;refine Ah ?_;have hq:=OI h; subst hq;exact ⟨⟨Fr 105 [(4,.j 30)],[]⟩,AK,.inr rfl,[.j 30],kr,kr⟩
 ·rw [B3 hb3] at h
  refine Ac ?_;refine AF ?_;refine AF ?_;obtain ⟨v4,hv4,h⟩:=OB h;obtain ⟨j8,hj8,h⟩:=OB h;refine AL (s1:=⟨Fr 105 [(0,.sl 5 (x0.map AA.enc)),(1,.j x1),(28,.b j8)],[]⟩) ?_ ?_
  ·refine AD (n:=105) AB 2 [(0,.sl 5 (x0.map AA.enc)),(1,.j x1),(14,.sl 5 (x0.map AA.enc)),(15,.j x1)] [] kr ?_
   refine Ab AB 0 rfl (DQ (AC rfl) rfl (Ad (a:= .sl 5 (x0.map AA.enc)) (b:= .j x1) kr kr (EF (e:=AA.enc) (el:=66) (k:=5) (ki:= .i64) kr kr hv4))) ?_;refine AD (n:=105) AB 4 [(0,.sl 5 (x0.map AA.enc)),(1,.j x1),(20,.b (!(v4.2.1==[])))] [] kr ?_;rcases BE (!(v4.2.1==[])) with hc50 | hc50
   ·rw [if_pos hc50] at hj8
    rw [hc50];refine AD (n:=105) AB 2 [(0,.sl 5 (x0.map AA.enc)),(1,.j x1),(20,.b true),(21,.sl 5 (x0.map AA.enc)),(22,.j x1)] [] kr ?_;obtain ⟨v5,hv5,hj8⟩:=OB hj8;refine Ab AB 0 rfl (DQ kr rfl (Ad (a:= .sl 5 (x0.map AA.enc)) (b:= .j x1) kr kr (EF (e:=AA.enc) (el:=66) (k:=5) (ki:= .i64) kr kr hv5))) ?_;refine AD (n:=105) AB 2 [(0,.sl 5 (x0.map AA.enc)),(1,.j x1),(20,.b true),(25,.st v5.2.1)] [] kr ?_;obtain ⟨v6,hv6,hj8⟩:=OB hj8;refine An (caps:=[]) (xs:=[.st v5.2.1]) (u:=(v5.2.1,())) rfl rfl KM rfl kr kr kr (Am (BH (c:=cdS) (v:=v5.2.1)) Bg) (.inl kr) hv6 ?_;refine AD (n:=105) AB 2 [(0,.sl 5 (x0.map AA.enc)),(1,.j x1),(28,.b (!v6))] [] kr ?_;have hq:=OI hj8; subst hq;exact AH rfl AK
   ·rw [B3 hc50] at hj8
    rw [hc50];refine AD (n:=105) AB 8 [(0,.sl 5 (x0.map AA.enc)),(1,.j x1),(28,.b false)] [] kr ?_;have hq:=OI hj8; subst hq;exact AH rfl AK
  refine AQ (b:=j8) kr (fun hb9=>?_) (fun hb9=>?_)
  ·rw [if_pos hb9] at h
   refine AO AB [(4,.j 4)] [] ?_;refine Ah ?_;have hq:=OI h; subst hq;exact ⟨⟨Fr 105 [(4,.j 4)],[]⟩,AK,.inr rfl,[.j 4],kr,kr⟩
  ·rw [B3 hb9] at h
   refine Ac ?_;refine AF ?_;refine AO AB [(0,.sl 5 (x0.map AA.enc)),(1,.j x1),(5,.j 0)] [] ?_;refine Ao ?_;obtain ⟨r18,hr18,h⟩:=OB h;refine Ce (n:=100000) ?_;rcases r18 with w19 | w49
   ·try dsimp only at h
    refine BG (Ax (s1:=⟨Fr 105 [(0,.sl 5 (x0.map AA.enc)),(1,.j x1),(5,.j 0)],[]⟩) AK (Eu x0 x1 _ 0 _ hr18)) ?_;refine AF ?_;refine AO AB [(0,.sl 5 (x0.map AA.enc)),(1,.j x1),(6,.j 0)] [] ?_;refine Ao ?_;obtain ⟨r30,hr30,h⟩:=OB h;refine Ce (n:=100000) ?_;rcases r30 with w31 | w48
    ·try dsimp only at h
     refine BG (Ax (s1:=⟨Fr 105 [(0,.sl 5 (x0.map AA.enc)),(1,.j x1),(6,.j 0)],[]⟩) AK (Ev x0 x1 _ 0 _ hr30)) ?_;refine AF ?_;refine AF ?_;obtain ⟨v32,hv32,h⟩:=OB h;refine AL (s1:=⟨Fr 105 [(0,.sl 5 (x0.map AA.enc)),(1,.j x1),(80,.b (v32.2.1==[]))],[]⟩) ?_ ?_
     ·refine AD (n:=105) AB 2 [(0,.sl 5 (x0.map AA.enc)),(1,.j x1),(75,.sl 5 (x0.map AA.enc)),(76,.j x1)] [] kr ?_
      refine Ab AB 0 rfl (DQ (AC rfl) rfl (Ad (a:= .sl 5 (x0.map AA.enc)) (b:= .j x1) kr kr (EF (e:=AA.enc) (el:=66) (k:=5) (ki:= .i64) kr kr hv32))) ?_;exact Ai AB
     refine AQ (b:=(v32.2.1==[])) kr (fun hb33=>?_) (fun hb33=>?_)
     ·rw [if_pos hb33] at h
      refine AO AB [(4,.j 0)] [] ?_;refine Ah ?_;have hq:=OI h; subst hq;exact ⟨⟨Fr 105 [(4,.j 0)],[]⟩,AK,.inr rfl,[.j 0],kr,kr⟩
     ·rw [B3 hb33] at h
      refine Ac ?_;refine AF ?_;refine AO AB [(0,.sl 5 (x0.map AA.enc)),(1,.j x1),(7,.j 0)] [] ?_;refine Ao ?_;obtain ⟨r45,hr45,h⟩:=OB h;refine Ce (n:=100000) ?_;rcases r45 with w46 | w47
      ·try dsimp only at h
       refine BG (Ax (s1:=⟨Fr 105 [(0,.sl 5 (x0.map AA.enc)),(1,.j x1),(7,.j 0)],[]⟩) AK (Ew x0 x1 _ 0 _ hr45)) ?_;refine AO AB [(4,.j 31)] [] ?_;refine Ah ?_;have hq:=OI h; subst hq;exact ⟨⟨Fr 105 [(4,.j 31)],[]⟩,AK,.inr rfl,[.j 31],kr,kr⟩
      ·try dsimp only at h
       refine BG (Ax (s1:=⟨Fr 105 [(0,.sl 5 (x0.map AA.enc)),(1,.j x1),(7,.j 0)],[]⟩) AK (Ew x0 x1 _ 0 _ hr45)) ?_;have hq:=OI h; subst hq;exact ⟨⟨Fr 105 [(4,.j w47)],[]⟩,AK,.inr rfl,[.j w47],kr,kr⟩
    ·try dsimp only at h
     refine BG (Ax (s1:=⟨Fr 105 [(0,.sl 5 (x0.map AA.enc)),(1,.j x1),(6,.j 0)],[]⟩) AK (Ev x0 x1 _ 0 _ hr30)) ?_;have hq:=OI h; subst hq;exact ⟨⟨Fr 105 [(4,.j w48)],[]⟩,AK,.inr rfl,[.j w48],kr,kr⟩
   ·try dsimp only at h
    refine BG (Ax (s1:=⟨Fr 105 [(0,.sl 5 (x0.map AA.enc)),(1,.j x1),(5,.j 0)],[]⟩) AK (Eu x0 x1 _ 0 _ hr18)) ?_;have hq:=OI h; subst hq;exact ⟨⟨Fr 105 [(4,.j w49)],[]⟩,AK,.inr rfl,[.j w49],kr,kr⟩
def Ip:List AV->Option AV:=ER EU (fun a=>C5 a.1 a.2.1) EV
theorem Ir:XOk 56 Ip:=by
 refine Aq Tryz.func56 (c:=DE) ?h2 ⟨Tryz.call56⟩ EU (fun a=>C5 a.1 a.2.1) EV (fun a=>(by show 2<=105; decide)) ?h3 ?h4
 case h2=>kernel_rfl
 case h3=>intro b; kernel_rfl
 case h4=>exact fun a b h=>H6 a.1 a.2.1 b h
/- trestle/trestleref03.Check -/
noncomputable def Fh:Code:=CC Tryz.f82
def Cn (x0:(List AE)):Nat->Int->Option ((Unit) ⊕ (Int×Int))
 | 0,_=>none
 | f + 1,c2 =>
  if (decide (c2 < (x0.length:Int)))=true then
  (C5 x0 c2).bind fun v4 =>
  if (v4 != 0)=true then
  some (.inr (c2,v4))
  else
  Cn x0 f (wr .i64 (c2 + 1))
  else
  some (.inl ())
def De (x0:(List AE)):Option (Int×Int) :=
 if (decide ((x0.length:Int) > 32))=true then
 some (0,7)
 else
 (Cn x0 100000 0).bind fun r8 =>
 match r8 with
 | (.inl w9) =>
  some (0,0)
 | (.inr w10) =>
  some (w10.1,w10.2)
def Fm:Cs ((List AE)×Unit):=(csC (cdL 5 AA) csN)
def Fs (r:Int×Int):AV:= .tp [cdI.enc r.1,cdI.enc r.2]
theorem F6 (x0:(List AE)):∀ (f:Nat) (c2:Int) (r:(Unit) ⊕ (Int×Int)),Cn x0 f c2=some r->SemN E0 ⟨none,false⟩ (pc Fh [1,1,0,1,0,0]) f ⟨Fr 22 [(0,.sl 5 (x0.map AA.enc)),(4,.j c2)],[]⟩ (fun e s=>match r with
 | (.inl w)=>e=(.exit 0)/\Wk E0 s ⟨Fr 22 [],[]⟩
 | (.inr w)=>e = .ret/\Wk E0 s ⟨Fr 22 [(2,.j w.1),(3,.j w.2)],[]⟩):=by
 intro f;induction f with
 | zero=>intro c2 r h; cases h
 | succ f ih0 =>
  intro c2 r h
  have ih:=fun (c2:Int)=>ih0 c2 r
  unfold Cn at h;refine B4 ?_;refine AF ?_;refine AF ?_
  let p1:Nat×AV:=(4,.j c2)
  let p2:Nat×AV:=(0,.sl 5 (x0.map AA.enc))
  refine AL (s1:=⟨Fr 22 [p2,p1,(12,.b (decide (c2 < (x0.length:Int))))],[]⟩) ?_ ?_
  ·refine AD (n:=22) AB 2 [p2,p1,(9,.j c2),(10,.sl 5 (x0.map AA.enc))] [] kr ?_
   refine Ab AB 0 rfl (DQ (AC rfl) rfl (DI (a:= .sl 5 (x0.map AA.enc)) kr (CD (el:=66) kr))) ?_;exact Ai AB
  refine AQ (b:=(decide (c2 < (x0.length:Int)))) kr (fun hb3=>?_) (fun hb3=>?_)
  ·rw [if_pos hb3] at h
   refine Ac ?_;refine AF ?_;refine Ao ?_;refine AF ?_;obtain ⟨v4,hv4,h⟩:=OB h;refine AL (s1:=⟨Fr 22 [p2,p1,(5,.j v4)],[]⟩) ?_ ?_
   ·refine AD (n:=22) AB 2 [p2,p1,(15,.sl 5 (x0.map AA.enc)),(16,.j c2)] [] kr ?_
    refine An (caps:=[]) (xs:=[.sl 5 (x0.map AA.enc),.j c2]) (u:=(x0,c2,())) rfl rfl Ir rfl (AC rfl) kr kr (Am (BH (c:=(cdL 5 AA)) (v:=x0)) (Am (BH (c:=cdI) (v:=c2)) Bg)) (.inl kr) hv4 ?_;exact Ai AB
   refine AO AB [p2,p1,(5,.j v4),(19,.b (v4 != 0))] [] ?_;refine AQ (b:=(v4 != 0)) kr (fun hb5=>?_) (fun hb5=>?_)
   ·rw [if_pos hb5] at h
    refine AO AB [(2,.j c2),(3,.j v4)] [] ?_;refine Ah ?_;have hq:=OI h; subst hq;exact ⟨rfl,AK⟩
   ·rw [B3 hb5] at h
    refine Ac ?_
    let p3:Nat×AV:=(4,.j (wr .i64 (c2 + 1)))
    refine C0 AB [p2,p3] [] ?_;exact Ax (s1:=⟨Fr 22 [p2,p3],[]⟩) AK (ih (wr .i64 (c2 + 1)) h)
  ·rw [B3 hb3] at h
   refine Cc ?_;have hq:=OI h; subst hq;exact ⟨rfl,AK⟩
theorem JU (x0:(List AE)) (r:Int×Int) (h:De x0=some r):Sem E0 ⟨none,false⟩ Fh ⟨Fr 22 (Bo 0 (Fm.enc (x0,()))),[]⟩ fun e s'=>(e = .normal\/e = .ret)/\∃ xs,EQ E0.P s'.fr s'.hp Tryz.f82.results.toList=some xs/\Ea xs=Fs r:=by
 unfold De at h
 let p1:Nat×AV:=(0,.sl 5 (x0.map AA.enc))
 refine Bf (CN (s1:=⟨Fr 22 [p1],[]⟩) AK ?_);refine AO AB [p1] [] ?_;refine AF ?_;refine AF ?_;refine AL (s1:=⟨Fr 22 [p1,(8,.b (decide ((x0.length:Int) > 32)))],[]⟩) ?_ ?_
 ·refine AD (n:=22) AB 1 [p1,(6,.sl 5 (x0.map AA.enc))] [] kr ?_
  refine Ab AB 0 rfl (DQ (AC rfl) rfl (DI (a:= .sl 5 (x0.map AA.enc)) kr (CD (el:=66) kr))) ?_;exact Ai AB
 refine AQ (b:=(decide ((x0.length:Int) > 32))) kr (fun hb1=>?_) (fun hb1=>?_)
 ·rw [if_pos hb1] at h
  refine AO AB [(2,.j 0),(3,.j 7)] [] ?_;refine Ah ?_;have hq:=OI h; subst hq;exact ⟨⟨Fr 22 [(2,.j 0),(3,.j 7)],[]⟩,AK,.inr rfl,[.j 0,.j 7],kr,kr⟩
 ·rw [B3 hb1] at h
  refine Ac ?_;refine AF ?_
  let p2:Nat×AV:=(4,.j 0)
  refine AO AB [p1,p2] [] ?_;refine Ao ?_;obtain ⟨r8,hr8,h⟩:=OB h;refine Ce (n:=100000) ?_;rcases r8 with w9 | w10
  ·try dsimp only at h
   refine BG (Ax (s1:=⟨Fr 22 [p1,p2],[]⟩) AK (F6 x0 _ 0 _ hr8)) ?_;refine AO AB [(2,.j 0),(3,.j 0)] [] ?_;refine Ah ?_;have hq:=OI h; subst hq;exact ⟨⟨Fr 22 [(2,.j 0),(3,.j 0)],[]⟩,AK,.inr rfl,[.j 0,.j 0],kr,kr⟩
  ·try dsimp only at h
   refine BG (Ax (s1:=⟨Fr 22 [p1,p2],[]⟩) AK (F6 x0 _ 0 _ hr8)) ?_;have hq:=OI h; subst hq;exact ⟨⟨Fr 22 [(2,.j w10.1),(3,.j w10.2)],[]⟩,AK,.inr rfl,[.j w10.1,.j w10.2],kr,kr⟩
def Kq:List AV->Option AV:=ER Fm (fun a=>De a.1) Fs
theorem IK:XOk 82 Kq:=by
 refine Aq Tryz.func82 (c:=Fh) ?h2 ⟨Tryz.call82⟩ Fm (fun a=>De a.1) Fs (fun a=>(by show 1<=22; decide)) ?h3 ?h4
 case h2=>kernel_rfl
 case h3=>intro b; kernel_rfl
 case h4=>exact fun a b h=>JU a.1 b h
/- trestle/trestleref03.Merge -/
noncomputable def HO:Code:=CC Tryz.f52
def Dt (x0:(List AE)) (x1:(List AE)):Option ((List AE)×Int) :=
 (De x0).bind fun v1 =>
 if (v1.2 != 0)=true then
 some (([]:(List AE)),v1.2)
 else
 (De x1).bind fun v7 =>
 if (v7.2 != 0)=true then
 some (([]:(List AE)),v7.2)
 else
 if (decide ((wr .i64 ((x0.length:Int) + (x1.length:Int))) > 32))=true then
 some (([]:(List AE)),7)
 else
 if (EO 64 (([]:(List AE)).length + x0.length))=true then
 if (EO 64 ((([]:(List AE))++x0).length + x1.length))=true then
 some (((([]:(List AE))++x0)++x1),0)
 else none
 else none
theorem JV {L:List Asn}{hp:Hp}(x0:(List AE)) (x1:(List AE)) (r:(List AE)×Int) (h:Dt x0 x1=some r) (hT:T hp (L)):SemY E0 ⟨none,false⟩ HO ⟨Fr 39 (Bo 0 [.sl 5 (x0.map AA.enc),.sl 5 (x1.map AA.enc)]),hp⟩ fun x s'=>(x = .normal\/x = .ret)/\∃ ys,EQ E0.P s'.fr s'.hp Tryz.f52.results.toList=some ys/\(fun v h'=>v = .tp [.sl 5 (r.1.map AA.enc),.j r.2]/\T h' (L)) (Ea ys) s'.hp:=by
 unfold Dt at h
 let p1:Nat×AV:=(1,.sl 5 (x1.map AA.enc))
 let p2:Nat×AV:=(0,.sl 5 (x0.map AA.enc))
 refine KQ (KP (s1:=⟨Fr 39 [p2,p1],hp⟩) WkY.f1 ?_);refine C3 AB [p2,p1] ?_;refine BD ?_;refine BD ?_;refine Ar ?_;refine Bt AB 1 ?_;obtain ⟨v1,hv1,h⟩:=OB h;refine Dg (v:=v1) (caps:=[]) (xs:=[.sl 5 (x0.map AA.enc)]) (u:=(x0,())) rfl rfl IK rfl (AC rfl) kr kr (Co (Dl (c:=(cdL 5 AA)) (v:=x0)) SeesD.nil) (.inl kr) hv1 ?_;refine Cz AB [p2,p1,(7,.j v1.2)] ?_;refine C3 AB [p2,p1,(7,.j v1.2),(17,.b (v1.2 != 0))] ?_;refine Dk (b:=(v1.2 != 0)) kr (fun hb2=>?_) (fun hb2=>?_)
 ·rw [if_pos hb2] at h
  let p3:Nat×AV:=(5,.j v1.2)
  refine C3 AB [(4,.e0),p3] ?_;refine SemY.ret ?_;have hq:=OI h; subst hq
  have hT3:=(T.e0 (k:=5) (ty:=66) (o:=(ocV AA)) hT)
  let p4:Nat×AV:=(4,.sl 5 (([]:(List AE)).map AA.enc))
  obtain ⟨hp4,hw5,hT6⟩:=Hn (E:=E0) (n:=39) (l:=[(4,.e0),p3]) (l':=[p4,p3]) hT3 ⟨⟨.e0,kr,Hk⟩,⟨.j v1.2,kr,FzU.refl⟩,trivial⟩;exact ⟨⟨Fr 39 [p4,p3],hp4⟩,(WkY.trans (WkY.trans WkY.f1 hw5) WkY.f1),.inr rfl,[.sl 5 (([]:(List AE)).map AA.enc),.j v1.2],kr,⟨rfl,hT6⟩⟩
 ·rw [B3 hb2] at h
  refine SemY.skip ?_;refine BD ?_;refine BD ?_;refine Ar ?_;refine Bt AB 1 ?_;obtain ⟨v7,hv7,h⟩:=OB h;refine Dg (v:=v7) (caps:=[]) (xs:=[.sl 5 (x1.map AA.enc)]) (u:=(x1,())) rfl rfl IK rfl (AC rfl) kr kr (Co (Dl (c:=(cdL 5 AA)) (v:=x1)) SeesD.nil) (.inl kr) hv7 ?_;refine Cz AB [p2,p1,(9,.j v7.2)] ?_;refine C3 AB [p2,p1,(9,.j v7.2),(25,.b (v7.2 != 0))] ?_;refine Dk (b:=(v7.2 != 0)) kr (fun hb8=>?_) (fun hb8=>?_)
  ·rw [if_pos hb8] at h
   let p5:Nat×AV:=(5,.j v7.2)
   refine C3 AB [(4,.e0),p5] ?_;refine SemY.ret ?_;have hq:=OI h; subst hq
   have hT9:=(T.e0 (k:=5) (ty:=66) (o:=(ocV AA)) hT)
   let p6:Nat×AV:=(4,.sl 5 (([]:(List AE)).map AA.enc))
   obtain ⟨hp10,hw11,hT12⟩:=Hn (E:=E0) (n:=39) (l:=[(4,.e0),p5]) (l':=[p6,p5]) hT9 ⟨⟨.e0,kr,Hk⟩,⟨.j v7.2,kr,FzU.refl⟩,trivial⟩;exact ⟨⟨Fr 39 [p6,p5],hp10⟩,(WkY.trans (WkY.trans WkY.f1 hw11) WkY.f1),.inr rfl,[.sl 5 (([]:(List AE)).map AA.enc),.j v7.2],kr,⟨rfl,hT12⟩⟩
  ·rw [B3 hb8] at h
   refine SemY.skip ?_;refine BD ?_;refine BD ?_;refine Ar ?_;refine Bt AB 1 ?_;refine Bb AB 0 rfl (DQ (AC rfl) rfl (DI (a:= .sl 5 (x0.map AA.enc)) kr (CD (el:=66) kr))) ?_;refine Bt AB 1 ?_;refine Bb AB 0 rfl (DQ (AC rfl) rfl (DI (a:= .sl 5 (x1.map AA.enc)) kr (CD (el:=66) kr))) ?_;refine Cz AB [p2,p1,(32,.b (decide ((wr .i64 ((x0.length:Int) + (x1.length:Int))) > 32)))] ?_;refine Dk (b:=(decide ((wr .i64 ((x0.length:Int) + (x1.length:Int))) > 32))) kr (fun hb13=>?_) (fun hb13=>?_)
   ·rw [if_pos hb13] at h
    let p7:Nat×AV:=(5,.j 7)
    refine C3 AB [(4,.e0),p7] ?_;refine SemY.ret ?_;have hq:=OI h; subst hq
    have hT14:=(T.e0 (k:=5) (ty:=66) (o:=(ocV AA)) hT)
    let p8:Nat×AV:=(4,.sl 5 (([]:(List AE)).map AA.enc))
    obtain ⟨hp15,hw16,hT17⟩:=Hn (E:=E0) (n:=39) (l:=[(4,.e0),p7]) (l':=[p8,p7]) hT14 ⟨⟨.e0,kr,Hk⟩,⟨.j 7,kr,FzU.refl⟩,trivial⟩;exact ⟨⟨Fr 39 [p8,p7],hp15⟩,(WkY.trans (WkY.trans WkY.f1 hw16) WkY.f1),.inr rfl,[.sl 5 (([]:(List AE)).map AA.enc),.j 7],kr,⟨rfl,hT17⟩⟩
   ·rw [B3 hb13] at h
    refine SemY.skip ?_;refine C3 AB [p2,p1,(10,.e0)] ?_;refine BD ?_;refine Ar ?_;refine Bt AB 2 ?_;by_cases hk23:(EO 64 (([]:(List AE)).length + x0.length))=true
    case neg=>rw [if_neg hk23] at h; cases h
    rw [if_pos hk23] at h
    have hT18:=(T.e0 (k:=5) (ty:=66) (o:=(ocV AA)) hT)
    obtain ⟨e22,hp19,hb20,hT21⟩:=K5 (P:=Tryz.prog) (ty:=25) (ty2:=25) (bytes:=64) (y:= .sl 5 (x0.map AA.enc)) (ys:=x0) hT18 kr Iw kr hk23;refine Bb AB 0 rfl (QU (AC rfl) rfl kr kr (DZ (a:= .e0) (b:= .sl 5 (x0.map AA.enc)) kr kr hb20)) ?_;refine Cz AB [p1,(10,e22)] ?_;refine BD ?_;refine Ar ?_;refine Bt AB 2 ?_;by_cases hk28:(EO 64 ((([]:(List AE))++x0).length + x1.length))=true
    case neg=>rw [if_neg hk28] at h; cases h
    rw [if_pos hk28] at h;obtain ⟨e27,hp24,hb25,hT26⟩:=K5 (P:=Tryz.prog) (ty:=25) (ty2:=25) (bytes:=64) (y:= .sl 5 (x1.map AA.enc)) (ys:=x1) hT21 kr Iw kr hk28;refine Bb AB 0 rfl (QU (AC rfl) rfl kr kr (DZ (a:=e22) (b:= .sl 5 (x1.map AA.enc)) kr kr hb25)) ?_
    let p9:Nat×AV:=(5,.j 0)
    refine Cz AB [(4,e27),p9] ?_;refine SemY.ret ?_;have hq:=OI h; subst hq
    let p10:Nat×AV:=(4,.sl 5 (((([]:(List AE))++x0)++x1).map AA.enc))
    obtain ⟨hp29,hw30,hT31⟩:=Hn (E:=E0) (n:=39) (l:=[(4,e27),p9]) (l':=[p10,p9]) hT26 ⟨⟨e27,kr,Hk⟩,⟨.j 0,kr,FzU.refl⟩,trivial⟩;exact ⟨⟨Fr 39 [p10,p9],hp29⟩,(WkY.trans (WkY.trans WkY.f1 hw30) WkY.f1),.inr rfl,[.sl 5 (((([]:(List AE))++x0)++x1).map AA.enc),.j 0],kr,⟨rfl,hT31⟩⟩
def Fn:Cs ((List AE)×(List AE)×Unit):=(csC (cdL 5 AA) (csC (cdL 5 AA) csN))
def HP (r:(List AE)×Int):AV:= .tp [(cdL 5 AA).enc r.1,cdI.enc r.2]
def Kr:List AV->Option AV:=ER Fn (fun a=>Dt a.1 a.2.1) HP
theorem Ky:XOk 52 Kr:=by
 refine Aq Tryz.func52 (c:=HO) ?h2 ⟨Tryz.call52⟩ Fn (fun a=>Dt a.1 a.2.1) HP (fun a=>(by show 2<=39; decide)) ?h3 ?h4
 case h2=>kernel_rfl
 case h3=>intro b; kernel_rfl
 case h4 =>
  intro a b h;refine Sem.mono (NR (JV (L:=[]) (hp:=[]) a.1 a.2.1 b h T.nil)) fun e s' hs=>?_
  obtain ⟨h1,ys,h2,h3,-⟩:=hs;exact ⟨h1,ys,h2,h3⟩
/- slices.Equal[[]string,string] -/
noncomputable def CO:Code:=CC Tryz.f75
def BZ (x0:(List (List UInt8))) (x1:(List (List UInt8))):Nat->Int->Option ((Unit) ⊕ (Bool))
 | 0,_=>none
 | f + 1,c2 =>
  if (decide (c2 < (x0.length:Int)))=true then
  (idx x0 c2).bind fun v4 =>
  (idx x1 c2).bind fun v5 =>
  if (!(v4==v5))=true then
  some (.inr false)
  else
  BZ x0 x1 f (wr .i64 (c2 + 1))
  else
  some (.inl ())
def BF (x0:(List (List UInt8))) (x1:(List (List UInt8))):Option (Bool) :=
 if ((x0.length:Int)!=(x1.length:Int))=true then
 some false
 else
 (BZ x0 x1 100000 0).bind fun r8 =>
 match r8 with
 | (.inl w9) =>
  some true
 | (.inr w10) =>
  some w10
def CR:Cs ((List (List UInt8))×(List (List UInt8))×Unit):=(csC (cdL 1 cdS) (csC (cdL 1 cdS) csN))
def CU (r:Bool):AV:=cdB.enc r
theorem DB (x0:(List (List UInt8))) (x1:(List (List UInt8))):∀ (f:Nat) (c2:Int) (r:(Unit) ⊕ (Bool)),BZ x0 x1 f c2=some r->SemN E0 ⟨none,false⟩ (pc CO [1,1,0,1,0,0]) f ⟨Fr 26 [(0,.sl 1 (x0.map cdS.enc)),(1,.sl 1 (x1.map cdS.enc)),(12,.j (x0.length:Int)),(13,.j c2)],[]⟩ (fun e s=>match r with
 | (.inl w)=>e=(.exit 0)/\Wk E0 s ⟨Fr 26 [],[]⟩
 | (.inr w)=>e = .ret/\Wk E0 s ⟨Fr 26 [(4,.b w)],[]⟩):=by
 intro f;induction f with
 | zero=>intro c2 r h; cases h
 | succ f ih0 =>
  intro c2 r h
  have ih:=fun (c2:Int)=>ih0 c2 r
  unfold BZ at h;refine B4 ?_
  let p1:Nat×AV:=(13,.j c2)
  let p2:Nat×AV:=(12,.j (x0.length:Int))
  let p3:Nat×AV:=(1,.sl 1 (x1.map cdS.enc))
  let p4:Nat×AV:=(0,.sl 1 (x0.map cdS.enc))
  refine AO AB [p4,p3,p2,p1,(14,.b (decide (c2 < (x0.length:Int))))] [] ?_;refine AF ?_;refine AQ (b:=(decide (c2 < (x0.length:Int)))) kr (fun hb3=>?_) (fun hb3=>?_)
  ·rw [if_pos hb3] at h
   refine Ac ?_;refine AF ?_;refine Ao ?_;refine AO AB [p4,p3,(5,.j c2),p2,p1] [] ?_;refine AF ?_;obtain ⟨v4,hv4,h⟩:=OB h;obtain ⟨v5,hv5,h⟩:=OB h;refine Hl AB (s1:=⟨Fr 26 [p4,p3,p2,p1,(24,.b (!(v4==v5)))],[]⟩) kr ?_ ?_
   ·refine Bv (n:=26) AB 2 [p4,p3,(5,.j c2),p2,p1,(16,.sl 1 (x0.map cdS.enc)),(17,.j c2)] [] kr kr ?_
    refine RunDS.one AB rfl kr (HJ kr (AC rfl) rfl (Ad (a:= .sl 1 (x0.map cdS.enc)) (b:= .j c2) kr kr (EF (e:=cdS.enc) (el:=9) (k:=1) (ki:= .i64) kr kr hv4)) kr) ?_;refine Bv (n:=26) AB 3 [p4,p3,p2,p1,(19,.st v4),(20,.sl 1 (x1.map cdS.enc)),(21,.j c2)] [] kr kr ?_;refine RunDS.one AB rfl kr (HJ kr (AC rfl) rfl (Ad (a:= .sl 1 (x1.map cdS.enc)) (b:= .j c2) kr kr (EF (e:=cdS.enc) (el:=9) (k:=1) (ki:= .i64) kr kr hv5)) kr) ?_;refine Bv (n:=26) AB 2 [p4,p3,p2,p1,(24,.b (!(v4==v5)))] [] kr kr ?_;exact RunDS.done rfl AK
   refine AQ (b:=(!(v4==v5))) kr (fun hb6=>?_) (fun hb6=>?_)
   ·rw [if_pos hb6] at h
    refine AO AB [(4,.b false)] [] ?_;refine Ah ?_;have hq:=OI h; subst hq;exact ⟨rfl,AK⟩
   ·rw [B3 hb6] at h
    refine Ac ?_
    let p5:Nat×AV:=(13,.j (wr .i64 (c2 + 1)))
    refine C0 AB [p4,p3,p2,p5] [] ?_;exact Ax (s1:=⟨Fr 26 [p4,p3,p2,p5],[]⟩) AK (ih (wr .i64 (c2 + 1)) h)
  ·rw [B3 hb3] at h
   refine Cc ?_;have hq:=OI h; subst hq;exact ⟨rfl,AK⟩
theorem Eh (x0:(List (List UInt8))) (x1:(List (List UInt8))) (r:Bool) (h:BF x0 x1=some r):Sem E0 ⟨none,false⟩ CO ⟨Fr 26 (Bo 0 (CR.enc (x0,x1,()))),[]⟩ fun e s'=>(e = .normal\/e = .ret)/\∃ xs,EQ E0.P s'.fr s'.hp Tryz.f75.results.toList=some xs/\Ea xs=CU r:=by
 unfold BF at h
 let p1:Nat×AV:=(1,.sl 1 (x1.map cdS.enc))
 let p2:Nat×AV:=(0,.sl 1 (x0.map cdS.enc))
 refine Bf (CN (s1:=⟨Fr 26 [p2,p1],[]⟩) AK ?_);refine AO AB [p2,p1] [] ?_;refine AF ?_;refine AF ?_;refine AL (s1:=⟨Fr 26 [p2,p1,(10,.b ((x0.length:Int)!=(x1.length:Int)))],[]⟩) ?_ ?_
 ·refine AD (n:=26) AB 1 [p2,p1,(6,.sl 1 (x0.map cdS.enc))] [] kr ?_
  refine Ab AB 0 rfl (DQ (AC rfl) rfl (DI (a:= .sl 1 (x0.map cdS.enc)) kr (CD (el:=9) kr))) ?_;refine AD (n:=26) AB 1 [p2,p1,(7,.j (x0.length:Int)),(8,.sl 1 (x1.map cdS.enc))] [] kr ?_;refine Ab AB 0 rfl (DQ (AC rfl) rfl (DI (a:= .sl 1 (x1.map cdS.enc)) kr (CD (el:=9) kr))) ?_;exact Ai AB
 refine AQ (b:=((x0.length:Int)!=(x1.length:Int))) kr (fun hb1=>?_) (fun hb1=>?_)
 ·rw [if_pos hb1] at h
  refine AO AB [(4,.b false)] [] ?_;refine Ah ?_;have hq:=OI h; subst hq;exact ⟨⟨Fr 26 [(4,.b false)],[]⟩,AK,.inr rfl,[.b false],kr,kr⟩
 ·rw [B3 hb1] at h
  refine Ac ?_;refine AF ?_;refine AF ?_
  let p3:Nat×AV:=(13,.j 0)
  let p4:Nat×AV:=(12,.j (x0.length:Int))
  refine AL (s1:=⟨Fr 26 [p2,p1,p4,p3],[]⟩) ?_ ?_
  ·refine AD (n:=26) AB 1 [p2,p1,(11,.sl 1 (x0.map cdS.enc))] [] kr ?_
   refine Ab AB 0 rfl (DQ (AC rfl) rfl (DI (a:= .sl 1 (x0.map cdS.enc)) kr (CD (el:=9) kr))) ?_;exact Ai AB
  refine Ao ?_;obtain ⟨r8,hr8,h⟩:=OB h;refine Ce (n:=100000) ?_;rcases r8 with w9 | w10
  ·try dsimp only at h
   refine BG (Ax (s1:=⟨Fr 26 [p2,p1,p4,p3],[]⟩) AK (DB x0 x1 _ 0 _ hr8)) ?_;refine AO AB [(4,.b true)] [] ?_;refine Ah ?_;have hq:=OI h; subst hq;exact ⟨⟨Fr 26 [(4,.b true)],[]⟩,AK,.inr rfl,[.b true],kr,kr⟩
  ·try dsimp only at h
   refine BG (Ax (s1:=⟨Fr 26 [p2,p1,p4,p3],[]⟩) AK (DB x0 x1 _ 0 _ hr8)) ?_;have hq:=OI h; subst hq;exact ⟨⟨Fr 26 [(4,.b w10)],[]⟩,AK,.inr rfl,[.b w10],kr,kr⟩
def FD:List AV->Option AV:=ER CR (fun a=>BF a.1 a.2.1) CU
theorem FF:XOk 75 FD:=by
 refine Aq Tryz.func75 (c:=CO) ?h2 ⟨Tryz.call75⟩ CR (fun a=>BF a.1 a.2.1) CU (fun a=>(by show 2<=26; decide)) ?h3 ?h4
 case h2=>kernel_rfl
 case h3=>intro b; kernel_rfl
 case h4=>exact fun a b h=>Eh a.1 a.2.1 b h
/- trestle/trestlelaw03.SameClause -/
noncomputable def FK:Code:=CC Tryz.f38
def B7 (x0:AE) (x1:AE):Option (Bool) :=
 (if (x0.1==x1.1)=true then if (x0.2.1==x1.2.1)=true then if (x0.2.2.1==x1.2.2.1)=true then if (x0.2.2.2.2==x1.2.2.2.2)=true then (BF x0.2.2.2.1 x1.2.2.2.1).bind fun v1 =>
 some v1 else some false else some false else some false else some false).bind fun j3 =>
 some j3
def Dp:Cs (AE×AE×Unit):=(csC AA (csC AA csN))
def Dq (r:Bool):AV:=cdB.enc r
theorem HI (x0:AE) (x1:AE) (r:Bool) (h:B7 x0 x1=some r):Sem E0 ⟨none,false⟩ FK ⟨Fr 38 (Bo 0 (Dp.enc (x0,x1,()))),[]⟩ fun e s'=>(e = .normal\/e = .ret)/\∃ xs,EQ E0.P s'.fr s'.hp Tryz.f38.results.toList=some xs/\Ea xs=Dq r:=by
 unfold B7 at h;refine Bf (CN (s1:=⟨Fr 38 [(0,AA.enc x0),(1,AA.enc x1)],[]⟩) AK ?_);refine AO AB [(2,.pt 0 0 0),(3,.pt 1 0 0)] [some ⟨5,66,[AA.enc x0],false⟩,some ⟨5,66,[AA.enc x1],false⟩] ?_;refine AF ?_;obtain ⟨j3,hj3,h⟩:=OB h;refine AL (s1:=⟨Fr 38 [(4,.b j3)],[]⟩) ?_ ?_
 ·refine AD (n:=38) AB 6 [(2,.pt 0 0 0),(3,.pt 1 0 0),(10,.b (x0.1==x1.1))] [some ⟨5,66,[AA.enc x0],false⟩,some ⟨5,66,[AA.enc x1],false⟩] kr ?_
  rcases BE (x0.1==x1.1) with hc4 | hc4
  ·rw [if_pos hc4] at hj3
   rw [hc4];refine AD (n:=38) AB 7 [(2,.pt 0 0 0),(3,.pt 1 0 0),(17,.b (x0.2.1==x1.2.1))] [some ⟨5,66,[AA.enc x0],false⟩,some ⟨5,66,[AA.enc x1],false⟩] kr ?_;rcases BE (x0.2.1==x1.2.1) with hc5 | hc5
   ·rw [if_pos hc5] at hj3
    rw [hc5];refine AD (n:=38) AB 7 [(2,.pt 0 0 0),(3,.pt 1 0 0),(24,.b (x0.2.2.1==x1.2.2.1))] [some ⟨5,66,[AA.enc x0],false⟩,some ⟨5,66,[AA.enc x1],false⟩] kr ?_;rcases BE (x0.2.2.1==x1.2.2.1) with hc6 | hc6
    ·rw [if_pos hc6] at hj3
     rw [hc6];refine AD (n:=38) AB 7 [(2,.pt 0 0 0),(3,.pt 1 0 0),(31,.b (x0.2.2.2.2==x1.2.2.2.2))] [some ⟨5,66,[AA.enc x0],false⟩,some ⟨5,66,[AA.enc x1],false⟩] kr ?_;rcases BE (x0.2.2.2.2==x1.2.2.2.2) with hc7 | hc7
     ·rw [if_pos hc7] at hj3
      rw [hc7];refine AD (n:=38) AB 4 [(31,.b true),(33,.sl 1 (x0.2.2.2.1.map cdS.enc)),(35,.sl 1 (x1.2.2.2.1.map cdS.enc))] [some ⟨5,66,[AA.enc x0],false⟩,some ⟨5,66,[AA.enc x1],false⟩] kr ?_;obtain ⟨v1,hv1,hj3⟩:=OB hj3;refine An (caps:=[]) (xs:=[.sl 1 (x0.2.2.2.1.map cdS.enc),.sl 1 (x1.2.2.2.1.map cdS.enc)]) (u:=(x0.2.2.2.1,x1.2.2.2.1,())) rfl rfl FF rfl kr kr kr (Am (BH (c:=(cdL 1 cdS)) (v:=x0.2.2.2.1)) (Am (BH (c:=(cdL 1 cdS)) (v:=x1.2.2.2.1)) Bg)) (.inl kr) hv1 ?_;refine AD (n:=38) AB 2 [(4,.b v1)] [some ⟨5,66,[AA.enc x0],false⟩,some ⟨5,66,[AA.enc x1],false⟩] kr ?_;have hq:=OI hj3; subst hq;exact AH rfl (A7 [] trivial ⟨lv,trivial⟩)
     ·rw [B3 hc7] at hj3
      rw [hc7];refine AD (n:=38) AB 7 [(4,.b false)] [some ⟨5,66,[AA.enc x0],false⟩,some ⟨5,66,[AA.enc x1],false⟩] kr ?_;have hq:=OI hj3; subst hq;exact AH rfl (A7 [] trivial ⟨lv,trivial⟩)
    ·rw [B3 hc6] at hj3
     rw [hc6];refine AD (n:=38) AB 14 [(4,.b false)] [some ⟨5,66,[AA.enc x0],false⟩,some ⟨5,66,[AA.enc x1],false⟩] kr ?_;have hq:=OI hj3; subst hq;exact AH rfl (A7 [] trivial ⟨lv,trivial⟩)
   ·rw [B3 hc5] at hj3
    rw [hc5];refine AD (n:=38) AB 21 [(4,.b false)] [some ⟨5,66,[AA.enc x0],false⟩,some ⟨5,66,[AA.enc x1],false⟩] kr ?_;have hq:=OI hj3; subst hq;exact AH rfl (A7 [] trivial ⟨lv,trivial⟩)
  ·rw [B3 hc4] at hj3
   rw [hc4];refine AD (n:=38) AB 28 [(4,.b false)] [some ⟨5,66,[AA.enc x0],false⟩,some ⟨5,66,[AA.enc x1],false⟩] kr ?_;have hq:=OI hj3; subst hq;exact AH rfl (A7 [] trivial ⟨lv,trivial⟩)
 refine Ah ?_;have hq:=OI h; subst hq;exact ⟨⟨Fr 38 [(4,.b j3)],[]⟩,AK,.inr rfl,[.b j3],kr,kr⟩
def IB:List AV->Option AV:=ER Dp (fun a=>B7 a.1 a.2.1) Dq
theorem IJ:XOk 38 IB:=by
 refine Aq Tryz.func38 (c:=FK) ?h2 ⟨Tryz.call38⟩ Dp (fun a=>B7 a.1 a.2.1) Dq (fun a=>(by show 2<=38; decide)) ?h3 ?h4
 case h2=>kernel_rfl
 case h3=>intro b; kernel_rfl
 case h4=>exact fun a b h=>HI a.1 a.2.1 b h
/- slices.EqualFunc[[]trestle/api.Clause,[]trestle/api.Clause,trestle/api.Clause,trestle/api.Clause] -/
noncomputable def AX:Code:=CC Tryz.f37
def AI (x0:(List AE)) (x1:(List AE)):Nat->Int->Option ((Unit) ⊕ (Bool))
 | 0,_=>none
 | f + 1,c2 =>
  if (decide (c2 < (x0.length:Int)))=true then
  (idx x0 c2).bind fun v4 =>
  (idx x1 c2).bind fun v5 =>
  (B7 v4 v5).bind fun v6 =>
  if (!v6)=true then
  some (.inr false)
  else
  AI x0 x1 f (wr .i64 (c2 + 1))
  else
  some (.inl ())
def AG (x0:(List AE)) (x1:(List AE)):Option (Bool) :=
 if ((x0.length:Int)!=(x1.length:Int))=true then
 some false
 else
 (AI x0 x1 100000 0).bind fun r9 =>
 match r9 with
 | (.inl w10) =>
  some true
 | (.inr w11) =>
  some w11
def AY:Cs ((List AE)×(List AE)×Unit×Unit):=(csC (cdL 5 AA) (csC (cdL 5 AA) (csC (cdF 38 csN (fun _=>rfl)) csN)))
def AZ (r:Bool):AV:=cdB.enc r
theorem Ap (x0:(List AE)) (x1:(List AE)):∀ (f:Nat) (c2:Int) (r:(Unit) ⊕ (Bool)),AI x0 x1 f c2=some r->SemN E0 ⟨none,false⟩ (pc AX [1,1,0,1,0,0]) f ⟨Fr 32 [(1,.sl 5 (x1.map AA.enc)),(2,.fn 38 [] []),(15,.sl 5 (x0.map AA.enc)),(16,.j (x0.length:Int)),(17,.j c2)],[]⟩ (fun e s=>match r with
 | (.inl w)=>e=(.exit 0)/\Wk E0 s ⟨Fr 32 [],[]⟩
 | (.inr w)=>e = .ret/\Wk E0 s ⟨Fr 32 [(6,.b w)],[]⟩):=by
 intro f;induction f with
 | zero=>intro c2 r h; cases h
 | succ f ih0 =>
  intro c2 r h
  have ih:=fun (c2:Int)=>ih0 c2 r
  unfold AI at h;refine B4 ?_
  let p1:Nat×AV:=(17,.j c2)
  let p2:Nat×AV:=(16,.j (x0.length:Int))
  let p3:Nat×AV:=(15,.sl 5 (x0.map AA.enc))
  let p4:Nat×AV:=(2,.fn 38 [] [])
  let p5:Nat×AV:=(1,.sl 5 (x1.map AA.enc))
  refine AO AB [p5,p4,p3,p2,p1,(18,.b (decide (c2 < (x0.length:Int))))] [] ?_;refine AF ?_;refine AQ (b:=(decide (c2 < (x0.length:Int)))) kr (fun hb3=>?_) (fun hb3=>?_)
  ·rw [if_pos hb3] at h
   refine Ac ?_;refine AF ?_;refine Ao ?_;refine AF ?_;obtain ⟨v4,hv4,h⟩:=OB h
   let p6:Option Blk:=some ⟨5,66,[AA.enc v4],false⟩
   refine AL (s1:=⟨Fr 32 [p5,p4,(7,.j c2),(8,.pt 0 0 0),p3,p2,p1],[p6]⟩) ?_ ?_
   ·refine AD (n:=32) AB 1 [p5,p4,p3,p2,p1,(19,.j c2)] [] kr ?_
    refine Ab AB 0 rfl (DQ (AC rfl) rfl (Ad (a:= .sl 5 (x0.map AA.enc)) (b:= .j c2) kr kr (EF (e:=AA.enc) (el:=66) (k:=5) (ki:= .i64) kr kr hv4))) ?_;exact Ai AB
   refine AF ?_;obtain ⟨v5,hv5,h⟩:=OB h
   let p7:Option Blk:=some ⟨5,66,[AA.enc v5],false⟩
   refine AL (s1:=⟨Fr 32 [p5,p4,(8,.pt 0 0 0),(9,.pt 1 0 0),p3,p2,p1],[p6,p7]⟩) ?_ ?_
   ·refine AD (n:=32) AB 2 [p5,p4,(8,.pt 0 0 0),p3,p2,p1,(22,.sl 5 (x1.map AA.enc)),(23,.j c2)] [p6] kr ?_
    refine Ab AB 0 rfl (DQ (AC rfl) rfl (Ad (a:= .sl 5 (x1.map AA.enc)) (b:= .j c2) kr kr (EF (e:=AA.enc) (el:=66) (k:=5) (ki:= .i64) kr kr hv5))) ?_;exact Ai AB
   refine AF ?_;obtain ⟨v6,hv6,h⟩:=OB h;refine AL (s1:=⟨Fr 32 [p5,p4,p3,p2,p1,(30,.b (!v6))],[]⟩) ?_ ?_
   ·refine AD (n:=32) AB 3 [p5,p4,p3,p2,p1,(26,.fn 38 [] []),(27,AA.enc v4),(28,AA.enc v5)] [p6,p7] kr ?_
    refine An (caps:=[]) (xs:=[AA.enc v4,AA.enc v5]) (u:=(v4,v5,())) rfl rfl IJ rfl (AC rfl) kr kr (Am (BH (c:=AA) (v:=v4)) (Am (BH (c:=AA) (v:=v5)) Bg)) (.inl kr) hv6 ?_;refine AD (n:=32) AB 1 [p5,p4,p3,p2,p1,(30,.b (!v6))] [p6,p7] kr ?_;exact AH rfl (A7 [] trivial ⟨lv,lv,lv,lv,lv,lv,trivial⟩)
   refine AQ (b:=(!v6)) kr (fun hb7=>?_) (fun hb7=>?_)
   ·rw [if_pos hb7] at h
    refine AO AB [(6,.b false)] [] ?_;refine Ah ?_;have hq:=OI h; subst hq;exact ⟨rfl,AK⟩
   ·rw [B3 hb7] at h
    refine Ac ?_
    let p8:Nat×AV:=(17,.j (wr .i64 (c2 + 1)))
    refine C0 AB [p5,p4,p3,p2,p8] [] ?_;exact Ax (s1:=⟨Fr 32 [p5,p4,p3,p2,p8],[]⟩) AK (ih (wr .i64 (c2 + 1)) h)
  ·rw [B3 hb3] at h
   refine Cc ?_;have hq:=OI h; subst hq;exact ⟨rfl,AK⟩
theorem BY (x0:(List AE)) (x1:(List AE)) (r:Bool) (h:AG x0 x1=some r):Sem E0 ⟨none,false⟩ AX ⟨Fr 32 (Bo 0 (AY.enc (x0,x1,(),()))),[]⟩ fun e s'=>(e = .normal\/e = .ret)/\∃ xs,EQ E0.P s'.fr s'.hp Tryz.f37.results.toList=some xs/\Ea xs=AZ r:=by
 unfold AG at h
 let p1:Nat×AV:=(2,.fn 38 [] [])
 let p2:Nat×AV:=(1,.sl 5 (x1.map AA.enc))
 let p3:Nat×AV:=(0,.sl 5 (x0.map AA.enc))
 refine Bf (CN (s1:=⟨Fr 32 [p3,p2,p1],[]⟩) AK ?_);refine AO AB [p3,p2,p1] [] ?_;refine AF ?_;refine AF ?_;refine AL (s1:=⟨Fr 32 [p3,p2,p1,(14,.b ((x0.length:Int)!=(x1.length:Int)))],[]⟩) ?_ ?_
 ·refine AD (n:=32) AB 1 [p3,p2,p1,(10,.sl 5 (x0.map AA.enc))] [] kr ?_
  refine Ab AB 0 rfl (DQ (AC rfl) rfl (DI (a:= .sl 5 (x0.map AA.enc)) kr (CD (el:=66) kr))) ?_;refine AD (n:=32) AB 1 [p3,p2,p1,(11,.j (x0.length:Int)),(12,.sl 5 (x1.map AA.enc))] [] kr ?_;refine Ab AB 0 rfl (DQ (AC rfl) rfl (DI (a:= .sl 5 (x1.map AA.enc)) kr (CD (el:=66) kr))) ?_;exact Ai AB
 refine AQ (b:=((x0.length:Int)!=(x1.length:Int))) kr (fun hb1=>?_) (fun hb1=>?_)
 ·rw [if_pos hb1] at h
  refine AO AB [(6,.b false)] [] ?_;refine Ah ?_;have hq:=OI h; subst hq;exact ⟨⟨Fr 32 [(6,.b false)],[]⟩,AK,.inr rfl,[.b false],kr,kr⟩
 ·rw [B3 hb1] at h
  refine Ac ?_;refine AF ?_;refine AF ?_
  let p4:Nat×AV:=(17,.j 0)
  let p5:Nat×AV:=(16,.j (x0.length:Int))
  let p6:Nat×AV:=(15,.sl 5 (x0.map AA.enc))
  refine AL (s1:=⟨Fr 32 [p2,p1,p6,p5,p4],[]⟩) ?_ ?_
  ·refine AD (n:=32) AB 1 [p2,p1,p6] [] kr ?_
   refine Ab AB 0 rfl (DQ (AC rfl) rfl (DI (a:= .sl 5 (x0.map AA.enc)) kr (CD (el:=66) kr))) ?_;exact Ai AB
  refine Ao ?_;obtain ⟨r9,hr9,h⟩:=OB h;refine Ce (n:=100000) ?_;rcases r9 with w10 | w11
  ·try dsimp only at h
   refine BG (Ax (s1:=⟨Fr 32 [p2,p1,p6,p5,p4],[]⟩) AK (Ap x0 x1 _ 0 _ hr9)) ?_;refine AO AB [(6,.b true)] [] ?_;refine Ah ?_;have hq:=OI h; subst hq;exact ⟨⟨Fr 32 [(6,.b true)],[]⟩,AK,.inr rfl,[.b true],kr,kr⟩
  ·try dsimp only at h
   refine BG (Ax (s1:=⟨Fr 32 [p2,p1,p6,p5,p4],[]⟩) AK (Ap x0 x1 _ 0 _ hr9)) ?_;have hq:=OI h; subst hq;exact ⟨⟨Fr 32 [(6,.b w11)],[]⟩,AK,.inr rfl,[.b w11],kr,kr⟩
def Bc:List AV->Option AV:=ER AY (fun a=>AG a.1 a.2.1) AZ
theorem Bd:XOk 37 Bc:=by
 refine Aq Tryz.func37 (c:=AX) ?h2 ⟨Tryz.call37⟩ AY (fun a=>AG a.1 a.2.1) AZ (fun a=>(by show 3<=32; decide)) ?h3 ?h4
 case h2=>kernel_rfl
 case h3=>intro b; kernel_rfl
 case h4=>exact fun a b h=>BY a.1 a.2.1 b h
/- trestle/trestlelaw03.Same -/
noncomputable def Hr:Code:=CC Tryz.f12
def Di (x0:(List AE)) (x1:(List AE)):Option (Bool) :=
 (AG x0 x1).bind fun v1 =>
 some v1
def GC:Cs ((List AE)×(List AE)×Unit):=(csC (cdL 5 AA) (csC (cdL 5 AA) csN))
def GF (r:Bool):AV:=cdB.enc r
theorem Jt (x0:(List AE)) (x1:(List AE)) (r:Bool) (h:Di x0 x1=some r):Sem E0 ⟨none,false⟩ Hr ⟨Fr 8 (Bo 0 (GC.enc (x0,x1,()))),[]⟩ fun e s'=>(e = .normal\/e = .ret)/\∃ xs,EQ E0.P s'.fr s'.hp Tryz.f12.results.toList=some xs/\Ea xs=GF r:=by
 unfold Di at h
 let p1:Nat×AV:=(1,.sl 5 (x1.map AA.enc))
 let p2:Nat×AV:=(0,.sl 5 (x0.map AA.enc))
 refine Bf (CN (s1:=⟨Fr 8 [p2,p1],[]⟩) AK ?_);refine AO AB [p2,p1] [] ?_;refine AF ?_;obtain ⟨v1,hv1,h⟩:=OB h;refine AL (s1:=⟨Fr 8 [(4,.b v1)],[]⟩) ?_ ?_
 ·refine AD (n:=8) AB 2 [(5,.sl 5 (x0.map AA.enc)),(6,.sl 5 (x1.map AA.enc))] [] kr ?_
  refine An (caps:=[]) (xs:=[.sl 5 (x0.map AA.enc),.sl 5 (x1.map AA.enc),.fn 38 [] []]) (u:=(x0,x1,(),())) rfl rfl Bd rfl (AC rfl) kr kr (Am (BH (c:=(cdL 5 AA)) (v:=x0)) (Am (BH (c:=(cdL 5 AA)) (v:=x1)) (Am (Sm.fn Bg) Bg))) (.inl kr) hv1 ?_;exact Ai AB
 refine Ah ?_;have hq:=OI h; subst hq;exact ⟨⟨Fr 8 [(4,.b v1)],[]⟩,AK,.inr rfl,[.b v1],kr,kr⟩
def LV:List AV->Option AV:=ER GC (fun a=>Di a.1 a.2.1) GF
theorem G7:XOk 12 LV:=by
 refine Aq Tryz.func12 (c:=Hr) ?h2 ⟨Tryz.call12⟩ GC (fun a=>Di a.1 a.2.1) GF (fun a=>(by show 2<=8; decide)) ?h3 ?h4
 case h2=>kernel_rfl
 case h3=>intro b; kernel_rfl
 case h4=>exact fun a b h=>Jt a.1 a.2.1 b h
/- trestle/court.formed -/
noncomputable def Bh:Code:=CC Tryz.f70
def D4 (x0:AE):Option ((Bool)) :=
 if (x0.1==8)=true then
 some (x0.1==8)
 else
 some (x0.1==9)
def D3 (x0:AE):Option ((Bool)) :=
 if (x0.1==3)=true then
 some (x0.1==3)
 else
 (D4 x0).bind fun r14 =>
 some r14
def D2 (x0:AE):Option ((Bool)) :=
 if (x0.1==2)=true then
 some (x0.1==2)
 else
 (D3 x0).bind fun r15 =>
 some r15
def D8 (x0:AE):Option ((Bool)) :=
 if (x0.1==6)=true then
 some (x0.1==6)
 else
 some (x0.1==7)
def D9 (x0:AE) (r33:Bool):Option ((Int×Int×Bool) ⊕ (Bool)) :=
 if r33=true then
 some (.inl (16,0,true))
 else
 if (x0.1==10)=true then
 some (.inl (0,63,false))
 else
 some (.inr false)
def D7 (x0:AE):Option ((Int×Int×Bool) ⊕ (Bool)) :=
 if (x0.1==5)=true then
 some (.inl (0,0,true))
 else
 (D8 x0).bind fun r33 =>
 (D9 x0 r33).bind fun r40 =>
 match r40 with
 | (.inl w41) =>
  some (.inl (w41.1,w41.2.1,w41.2.2))
 | (.inr w42) =>
  some (.inr w42)
def D6 (x0:AE):Option ((Int×Int×Int×Bool) ⊕ (Bool)) :=
 if (x0.1==4)=true then
 some (.inl (0,1,2,true))
 else
 (D7 x0).bind fun r44 =>
 match r44 with
 | (.inl w45) =>
  some (.inl (w45.1,0,w45.2.1,w45.2.2))
 | (.inr w46) =>
  some (.inr w46)
def D5 (x0:AE) (r16:Bool):Option ((Int×Int×Int×Bool) ⊕ (Bool)) :=
 if r16=true then
 some (.inl (0,0,0,false))
 else
 (D6 x0).bind fun r48 =>
 match r48 with
 | (.inl w49) =>
  some (.inl (w49.1,w49.2.1,w49.2.2.1,w49.2.2.2))
 | (.inr w50) =>
  some (.inr w50)
def D1 (x0:AE):Option ((Int×Int×Int×Bool) ⊕ (Bool)) :=
 if (x0.1==1)=true then
 if (!(x0.2.1==[]))=true then
 some (.inr false)
 else
 some (.inl (16,0,0,false))
 else
 (D2 x0).bind fun r16 =>
 (D5 x0 r16).bind fun r52 =>
 match r52 with
 | (.inl w53) =>
  some (.inl (w53.1,w53.2.1,w53.2.2.1,w53.2.2.2))
 | (.inr w54) =>
  some (.inr w54)
def BK (x0:AE):Option (Bool) :=
 (D1 x0).bind fun r55 =>
 match r55 with
 | (.inl w56) =>
  (if (decide ((x0.2.2.2.1.length:Int)<=w56.1))=true then if (w56.1==0)=true then if (decide (x0.2.2.2.2≥w56.2.1))=true then if (decide (x0.2.2.2.2<=w56.2.2.1))=true then if w56.2.2.2=true then some true else some (!x0.2.2.1) else some false else some false else if (decide ((x0.2.2.2.1.length:Int) > 0))=true then if (decide (x0.2.2.2.2≥w56.2.1))=true then if (decide (x0.2.2.2.2<=w56.2.2.1))=true then if w56.2.2.2=true then some true else some (!x0.2.2.1) else some false else some false else some false else some false).bind fun j58 =>
  some j58
 | (.inr w68) =>
  some w68
def FN:Cs (AE×Unit):=(csC AA csN)
def FQ (r:Bool):AV:=cdB.enc r
theorem Hu (x0:AE) (r:(Bool)) (h:D4 x0=some r):Sem E0 ⟨none,false⟩ (pc Bh [1,1,0,1,0,1,1,0,1,1,1,1,1]) ⟨Fr 63 [(1,.pt 0 0 0),(3,.j 0),(4,.j 0),(5,.j 0),(6,.b false),(8,.v (.int .u8 x0.1)),(14,.b (x0.1==8))],[some ⟨5,66,[AA.enc x0],false⟩]⟩ (fun e s=>e = .normal/\Wk E0 s ⟨Fr 63 [(1,.pt 0 0 0),(3,.j 0),(4,.j 0),(5,.j 0),(6,.b false),(8,.v (.int .u8 x0.1)),(14,.b r)],[some ⟨5,66,[AA.enc x0],false⟩]⟩):=by
 unfold D4 at h;refine AQ (b:=(x0.1==8)) kr (fun hb12=>?_) (fun hb12=>?_)
 ·rw [if_pos hb12] at h
  refine Ac ?_;have hq:=OI h; subst hq;exact ⟨rfl,(A7 [0] ⟨⟨_,rfl,GR⟩,trivial⟩ ⟨lv,lv,lv,lv,lv,lv,lv,trivial⟩)⟩
 ·rw [B3 hb12] at h
  refine C0 AB [(1,.pt 0 0 0),(3,.j 0),(4,.j 0),(5,.j 0),(6,.b false),(8,.v (.int .u8 x0.1)),(14,.b (x0.1==9))] [some ⟨5,66,[AA.enc x0],false⟩] ?_;have hq:=OI h; subst hq;exact ⟨rfl,(A7 [0] ⟨⟨_,rfl,GR⟩,trivial⟩ ⟨lv,lv,lv,lv,lv,lv,lv,trivial⟩)⟩
theorem Ht (x0:AE) (r:(Bool)) (h:D3 x0=some r):Sem E0 ⟨none,false⟩ (pc Bh [1,1,0,1,0,1,1,0,1,1,1]) ⟨Fr 63 [(1,.pt 0 0 0),(3,.j 0),(4,.j 0),(5,.j 0),(6,.b false),(8,.v (.int .u8 x0.1)),(14,.b (x0.1==3))],[some ⟨5,66,[AA.enc x0],false⟩]⟩ (fun e s=>e = .normal/\Wk E0 s ⟨Fr 63 [(1,.pt 0 0 0),(3,.j 0),(4,.j 0),(5,.j 0),(6,.b false),(8,.v (.int .u8 x0.1)),(14,.b r)],[some ⟨5,66,[AA.enc x0],false⟩]⟩):=by
 unfold D3 at h;refine AQ (b:=(x0.1==3)) kr (fun hb10=>?_) (fun hb10=>?_)
 ·rw [if_pos hb10] at h
  refine Ac ?_;have hq:=OI h; subst hq;exact ⟨rfl,(A7 [0] ⟨⟨_,rfl,GR⟩,trivial⟩ ⟨lv,lv,lv,lv,lv,lv,lv,trivial⟩)⟩
 ·rw [B3 hb10] at h
  refine AO AB [(1,.pt 0 0 0),(3,.j 0),(4,.j 0),(5,.j 0),(6,.b false),(8,.v (.int .u8 x0.1)),(14,.b (x0.1==8))] [some ⟨5,66,[AA.enc x0],false⟩] ?_;obtain ⟨r14,hr14,h⟩:=OB h;refine DU (Hu x0 _ hr14) ?_;have hq:=OI h; subst hq;exact ⟨rfl,(A7 [0] ⟨⟨_,rfl,GR⟩,trivial⟩ ⟨lv,lv,lv,lv,lv,lv,lv,trivial⟩)⟩
theorem Hs (x0:AE) (r:(Bool)) (h:D2 x0=some r):Sem E0 ⟨none,false⟩ (pc Bh [1,1,0,1,0,1,1,0,1]) ⟨Fr 63 [(1,.pt 0 0 0),(3,.j 0),(4,.j 0),(5,.j 0),(6,.b false),(8,.v (.int .u8 x0.1)),(14,.b (x0.1==2))],[some ⟨5,66,[AA.enc x0],false⟩]⟩ (fun e s=>e = .normal/\Wk E0 s ⟨Fr 63 [(1,.pt 0 0 0),(3,.j 0),(4,.j 0),(5,.j 0),(6,.b false),(8,.v (.int .u8 x0.1)),(14,.b r)],[some ⟨5,66,[AA.enc x0],false⟩]⟩):=by
 unfold D2 at h;refine AQ (b:=(x0.1==2)) kr (fun hb8=>?_) (fun hb8=>?_)
 ·rw [if_pos hb8] at h
  refine Ac ?_;have hq:=OI h; subst hq;exact ⟨rfl,(A7 [0] ⟨⟨_,rfl,GR⟩,trivial⟩ ⟨lv,lv,lv,lv,lv,lv,lv,trivial⟩)⟩
 ·rw [B3 hb8] at h
  refine AO AB [(1,.pt 0 0 0),(3,.j 0),(4,.j 0),(5,.j 0),(6,.b false),(8,.v (.int .u8 x0.1)),(14,.b (x0.1==3))] [some ⟨5,66,[AA.enc x0],false⟩] ?_;obtain ⟨r15,hr15,h⟩:=OB h;refine DU (Ht x0 _ hr15) ?_;have hq:=OI h; subst hq;exact ⟨rfl,(A7 [0] ⟨⟨_,rfl,GR⟩,trivial⟩ ⟨lv,lv,lv,lv,lv,lv,lv,trivial⟩)⟩
theorem Hv (x0:AE) (r:(Bool)) (h:D8 x0=some r):Sem E0 ⟨none,false⟩ (pc Bh [1,1,0,1,0,1,1,1,1,1,1,1,1,0,1]) ⟨Fr 63 [(1,.pt 0 0 0),(3,.j 0),(4,.j 0),(5,.j 0),(6,.b false),(8,.v (.int .u8 x0.1)),(23,.b (x0.1==6))],[some ⟨5,66,[AA.enc x0],false⟩]⟩ (fun e s=>e = .normal/\Wk E0 s ⟨Fr 63 [(1,.pt 0 0 0),(3,.j 0),(4,.j 0),(5,.j 0),(6,.b false),(8,.v (.int .u8 x0.1)),(23,.b r)],[some ⟨5,66,[AA.enc x0],false⟩]⟩):=by
 unfold D8 at h;refine AQ (b:=(x0.1==6)) kr (fun hb31=>?_) (fun hb31=>?_)
 ·rw [if_pos hb31] at h
  refine Ac ?_;have hq:=OI h; subst hq;exact ⟨rfl,(A7 [0] ⟨⟨_,rfl,GR⟩,trivial⟩ ⟨lv,lv,lv,lv,lv,lv,lv,trivial⟩)⟩
 ·rw [B3 hb31] at h
  refine C0 AB [(1,.pt 0 0 0),(3,.j 0),(4,.j 0),(5,.j 0),(6,.b false),(8,.v (.int .u8 x0.1)),(23,.b (x0.1==7))] [some ⟨5,66,[AA.enc x0],false⟩] ?_;have hq:=OI h; subst hq;exact ⟨rfl,(A7 [0] ⟨⟨_,rfl,GR⟩,trivial⟩ ⟨lv,lv,lv,lv,lv,lv,lv,trivial⟩)⟩
theorem Fc (x0:AE) (r33:Bool) (r:(Int×Int×Bool) ⊕ (Bool)) (h:D9 x0 r33=some r):Sem E0 ⟨none,false⟩ (pc Bh [1,1,0,1,0,1,1,1,1,1,1,1,1,1]) ⟨Fr 63 [(1,.pt 0 0 0),(3,.j 0),(4,.j 0),(5,.j 0),(6,.b false),(8,.v (.int .u8 x0.1)),(23,.b r33)],[some ⟨5,66,[AA.enc x0],false⟩]⟩ (fun e s=>match r with
 | (.inl w)=>e = .normal/\Wk E0 s ⟨Fr 63 [(1,.pt 0 0 0),(3,.j w.1),(4,.j 0),(5,.j w.2.1),(6,.b w.2.2)],[some ⟨5,66,[AA.enc x0],false⟩]⟩
 | (.inr w)=>e = .ret/\Wk E0 s ⟨Fr 63 [(2,.b w)],[]⟩):=by
 unfold D9 at h;refine AQ (b:=r33) kr (fun hb34=>?_) (fun hb34=>?_)
 ·rw [if_pos hb34] at h
  refine C0 AB [(1,.pt 0 0 0),(3,.j 16),(4,.j 0),(5,.j 0),(6,.b true)] [some ⟨5,66,[AA.enc x0],false⟩] ?_;have hq:=OI h; subst hq;exact ⟨rfl,(A7 [0] ⟨⟨_,rfl,GR⟩,trivial⟩ ⟨lv,lv,lv,lv,lv,trivial⟩)⟩
 ·rw [B3 hb34] at h
  let p1:Option Blk:=some ⟨5,66,[AA.enc x0],false⟩
  refine AO AB [(1,.pt 0 0 0),(3,.j 0),(4,.j 0),(6,.b false),(26,.b (x0.1==10))] [p1] ?_;refine AQ (b:=(x0.1==10)) kr (fun hb38=>?_) (fun hb38=>?_)
  ·rw [if_pos hb38] at h
   refine C0 AB [(1,.pt 0 0 0),(3,.j 0),(4,.j 0),(5,.j 63),(6,.b false)] [p1] ?_;have hq:=OI h; subst hq;exact ⟨rfl,(A7 [0] ⟨⟨_,rfl,GR⟩,trivial⟩ ⟨lv,lv,lv,lv,lv,trivial⟩)⟩
  ·rw [B3 hb38] at h
   refine AF ?_;refine AL (s1:=⟨Fr 63 [(2,.b false)],[]⟩) ?_ ?_
   ·refine AD (n:=63) AB 1 [(2,.b false)] [p1] kr ?_
    exact AH rfl (A7 [] trivial ⟨lv,trivial⟩)
   refine Ah ?_;have hq:=OI h; subst hq;exact ⟨rfl,AK⟩
theorem Fb (x0:AE) (r:(Int×Int×Bool) ⊕ (Bool)) (h:D7 x0=some r):Sem E0 ⟨none,false⟩ (pc Bh [1,1,0,1,0,1,1,1,1,1,1,1]) ⟨Fr 63 [(1,.pt 0 0 0),(3,.j 0),(4,.j 0),(5,.j 0),(6,.b false),(8,.v (.int .u8 x0.1)),(21,.b (x0.1==5))],[some ⟨5,66,[AA.enc x0],false⟩]⟩ (fun e s=>match r with
 | (.inl w)=>e = .normal/\Wk E0 s ⟨Fr 63 [(1,.pt 0 0 0),(3,.j w.1),(4,.j 0),(5,.j w.2.1),(6,.b w.2.2)],[some ⟨5,66,[AA.enc x0],false⟩]⟩
 | (.inr w)=>e = .ret/\Wk E0 s ⟨Fr 63 [(2,.b w)],[]⟩):=by
 unfold D7 at h;refine AQ (b:=(x0.1==5)) kr (fun hb27=>?_) (fun hb27=>?_)
 ·rw [if_pos hb27] at h
  refine C0 AB [(1,.pt 0 0 0),(3,.j 0),(4,.j 0),(5,.j 0),(6,.b true)] [some ⟨5,66,[AA.enc x0],false⟩] ?_;have hq:=OI h; subst hq;exact ⟨rfl,(A7 [0] ⟨⟨_,rfl,GR⟩,trivial⟩ ⟨lv,lv,lv,lv,lv,trivial⟩)⟩
 ·rw [B3 hb27] at h
  refine AF ?_;refine AO AB [(1,.pt 0 0 0),(3,.j 0),(4,.j 0),(5,.j 0),(6,.b false),(8,.v (.int .u8 x0.1)),(23,.b (x0.1==6))] [some ⟨5,66,[AA.enc x0],false⟩] ?_;obtain ⟨r33,hr33,h⟩:=OB h;refine DU (Hv x0 _ hr33) ?_;obtain ⟨r40,hr40,h⟩:=OB h;rcases r40 with w41 | w42
  ·try dsimp only at h
   refine DU (Fc x0 r33 _ hr40) ?_;have hq:=OI h; subst hq;exact ⟨rfl,(A7 [0] ⟨⟨_,rfl,GR⟩,trivial⟩ ⟨lv,lv,lv,lv,lv,trivial⟩)⟩
  ·try dsimp only at h
   refine DU (Fc x0 r33 _ hr40) ?_;have hq:=OI h; subst hq;exact ⟨rfl,AK⟩
theorem Fa (x0:AE) (r:(Int×Int×Int×Bool) ⊕ (Bool)) (h:D6 x0=some r):Sem E0 ⟨none,false⟩ (pc Bh [1,1,0,1,0,1,1,1,1,1]) ⟨Fr 63 [(1,.pt 0 0 0),(3,.j 0),(4,.j 0),(5,.j 0),(6,.b false),(8,.v (.int .u8 x0.1)),(19,.b (x0.1==4))],[some ⟨5,66,[AA.enc x0],false⟩]⟩ (fun e s=>match r with
 | (.inl w)=>e = .normal/\Wk E0 s ⟨Fr 63 [(1,.pt 0 0 0),(3,.j w.1),(4,.j w.2.1),(5,.j w.2.2.1),(6,.b w.2.2.2)],[some ⟨5,66,[AA.enc x0],false⟩]⟩
 | (.inr w)=>e = .ret/\Wk E0 s ⟨Fr 63 [(2,.b w)],[]⟩):=by
 unfold D6 at h;refine AQ (b:=(x0.1==4)) kr (fun hb22=>?_) (fun hb22=>?_)
 ·rw [if_pos hb22] at h
  refine C0 AB [(1,.pt 0 0 0),(3,.j 0),(4,.j 1),(5,.j 2),(6,.b true)] [some ⟨5,66,[AA.enc x0],false⟩] ?_;have hq:=OI h; subst hq;exact ⟨rfl,(A7 [0] ⟨⟨_,rfl,GR⟩,trivial⟩ ⟨lv,lv,lv,lv,lv,trivial⟩)⟩
 ·rw [B3 hb22] at h
  refine AO AB [(1,.pt 0 0 0),(3,.j 0),(4,.j 0),(5,.j 0),(6,.b false),(8,.v (.int .u8 x0.1)),(21,.b (x0.1==5))] [some ⟨5,66,[AA.enc x0],false⟩] ?_;obtain ⟨r44,hr44,h⟩:=OB h;rcases r44 with w45 | w46
  ·try dsimp only at h
   refine DU (Fb x0 _ hr44) ?_;have hq:=OI h; subst hq;exact ⟨rfl,(A7 [0] ⟨⟨_,rfl,GR⟩,trivial⟩ ⟨lv,lv,lv,lv,lv,trivial⟩)⟩
  ·try dsimp only at h
   refine DU (Fb x0 _ hr44) ?_;have hq:=OI h; subst hq;exact ⟨rfl,AK⟩
theorem FZ (x0:AE) (r16:Bool) (r:(Int×Int×Int×Bool) ⊕ (Bool)) (h:D5 x0 r16=some r):Sem E0 ⟨none,false⟩ (pc Bh [1,1,0,1,0,1,1,1]) ⟨Fr 63 [(1,.pt 0 0 0),(3,.j 0),(4,.j 0),(5,.j 0),(6,.b false),(8,.v (.int .u8 x0.1)),(14,.b r16)],[some ⟨5,66,[AA.enc x0],false⟩]⟩ (fun e s=>match r with
 | (.inl w)=>e = .normal/\Wk E0 s ⟨Fr 63 [(1,.pt 0 0 0),(3,.j w.1),(4,.j w.2.1),(5,.j w.2.2.1),(6,.b w.2.2.2)],[some ⟨5,66,[AA.enc x0],false⟩]⟩
 | (.inr w)=>e = .ret/\Wk E0 s ⟨Fr 63 [(2,.b w)],[]⟩):=by
 unfold D5 at h;refine AQ (b:=r16) kr (fun hb17=>?_) (fun hb17=>?_)
 ·rw [if_pos hb17] at h
  refine Ac ?_;have hq:=OI h; subst hq;exact ⟨rfl,(A7 [0] ⟨⟨_,rfl,GR⟩,trivial⟩ ⟨lv,lv,lv,lv,lv,trivial⟩)⟩
 ·rw [B3 hb17] at h
  refine AO AB [(1,.pt 0 0 0),(3,.j 0),(4,.j 0),(5,.j 0),(6,.b false),(8,.v (.int .u8 x0.1)),(19,.b (x0.1==4))] [some ⟨5,66,[AA.enc x0],false⟩] ?_;obtain ⟨r48,hr48,h⟩:=OB h;rcases r48 with w49 | w50
  ·try dsimp only at h
   refine DU (Fa x0 _ hr48) ?_;have hq:=OI h; subst hq;exact ⟨rfl,(A7 [0] ⟨⟨_,rfl,GR⟩,trivial⟩ ⟨lv,lv,lv,lv,lv,trivial⟩)⟩
  ·try dsimp only at h
   refine DU (Fa x0 _ hr48) ?_;have hq:=OI h; subst hq;exact ⟨rfl,AK⟩
theorem FY (x0:AE) (r:(Int×Int×Int×Bool) ⊕ (Bool)) (h:D1 x0=some r):Sem E0 ⟨none,false⟩ (pc Bh [1,1,0,1,0,1]) ⟨Fr 63 [(1,.pt 0 0 0),(3,.j 0),(4,.j 0),(5,.j 0),(6,.b false),(8,.v (.int .u8 x0.1)),(9,.b (x0.1==1))],[some ⟨5,66,[AA.enc x0],false⟩]⟩ (fun e s=>match r with
 | (.inl w)=>e = .normal/\Wk E0 s ⟨Fr 63 [(1,.pt 0 0 0),(3,.j w.1),(4,.j w.2.1),(5,.j w.2.2.1),(6,.b w.2.2.2)],[some ⟨5,66,[AA.enc x0],false⟩]⟩
 | (.inr w)=>e = .ret/\Wk E0 s ⟨Fr 63 [(2,.b w)],[]⟩):=by
 unfold D1 at h;refine AQ (b:=(x0.1==1)) kr (fun hb1=>?_) (fun hb1=>?_)
 ·rw [if_pos hb1] at h
  refine AF ?_
  let p1:Option Blk:=some ⟨5,66,[AA.enc x0],false⟩
  refine AO AB [(1,.pt 0 0 0),(4,.j 0),(5,.j 0),(6,.b false),(13,.b (!(x0.2.1==[])))] [p1] ?_;refine AQ (b:=(!(x0.2.1==[]))) kr (fun hb2=>?_) (fun hb2=>?_)
  ·rw [if_pos hb2] at h
   refine AF ?_;refine AL (s1:=⟨Fr 63 [(2,.b false)],[]⟩) ?_ ?_
   ·refine AD (n:=63) AB 1 [(2,.b false)] [p1] kr ?_
    exact AH rfl (A7 [] trivial ⟨lv,trivial⟩)
   refine Ah ?_;have hq:=OI h; subst hq;exact ⟨rfl,AK⟩
  ·rw [B3 hb2] at h
   refine Ac ?_;refine C0 AB [(1,.pt 0 0 0),(3,.j 16),(4,.j 0),(5,.j 0),(6,.b false)] [p1] ?_;have hq:=OI h; subst hq;exact ⟨rfl,(A7 [0] ⟨⟨_,rfl,GR⟩,trivial⟩ ⟨lv,lv,lv,lv,lv,trivial⟩)⟩
 ·rw [B3 hb1] at h
  refine AF ?_;refine AO AB [(1,.pt 0 0 0),(3,.j 0),(4,.j 0),(5,.j 0),(6,.b false),(8,.v (.int .u8 x0.1)),(14,.b (x0.1==2))] [some ⟨5,66,[AA.enc x0],false⟩] ?_;obtain ⟨r16,hr16,h⟩:=OB h;refine DU (Hs x0 _ hr16) ?_;obtain ⟨r52,hr52,h⟩:=OB h;rcases r52 with w53 | w54
  ·try dsimp only at h
   refine DU (FZ x0 r16 _ hr52) ?_;have hq:=OI h; subst hq;exact ⟨rfl,(A7 [0] ⟨⟨_,rfl,GR⟩,trivial⟩ ⟨lv,lv,lv,lv,lv,trivial⟩)⟩
  ·try dsimp only at h
   refine DU (FZ x0 r16 _ hr52) ?_;have hq:=OI h; subst hq;exact ⟨rfl,AK⟩
theorem Ij (x0:AE) (r:Bool) (h:BK x0=some r):Sem E0 ⟨none,false⟩ Bh ⟨Fr 63 (Bo 0 (FN.enc (x0,()))),[]⟩ fun e s'=>(e = .normal\/e = .ret)/\∃ xs,EQ E0.P s'.fr s'.hp Tryz.f70.results.toList=some xs/\Ea xs=FQ r:=by
 unfold BK at h;refine Bf (CN (s1:=⟨Fr 63 [(0,AA.enc x0)],[]⟩) AK ?_);refine AO AB [(1,.pt 0 0 0)] [some ⟨5,66,[AA.enc x0],false⟩] ?_;refine AO AB [(1,.pt 0 0 0),(3,.j 0),(4,.j 0),(5,.j 0),(6,.b false)] [some ⟨5,66,[AA.enc x0],false⟩] ?_;refine AF ?_;refine AO AB [(1,.pt 0 0 0),(3,.j 0),(4,.j 0),(5,.j 0),(6,.b false),(8,.v (.int .u8 x0.1))] [some ⟨5,66,[AA.enc x0],false⟩] ?_;refine Ao ?_;refine AO AB [(1,.pt 0 0 0),(3,.j 0),(4,.j 0),(5,.j 0),(6,.b false),(8,.v (.int .u8 x0.1)),(9,.b (x0.1==1))] [some ⟨5,66,[AA.enc x0],false⟩] ?_;obtain ⟨r55,hr55,h⟩:=OB h;rcases r55 with w56 | w68
 ·try dsimp only at h
  refine DU (FY x0 _ hr55) ?_;refine AF ?_;obtain ⟨j58,hj58,h⟩:=OB h;refine AL (s1:=⟨Fr 63 [(2,.b j58)],[]⟩) ?_ ?_
  ·refine AD (n:=63) AB 2 [(1,.pt 0 0 0),(3,.j w56.1),(4,.j w56.2.1),(5,.j w56.2.2.1),(6,.b w56.2.2.2),(29,.sl 1 (x0.2.2.2.1.map cdS.enc))] [some ⟨5,66,[AA.enc x0],false⟩] kr ?_
   refine Ab AB 0 rfl (DQ (AC rfl) rfl (DI (a:= .sl 1 (x0.2.2.2.1.map cdS.enc)) kr (CD (el:=9) kr))) ?_;refine AD (n:=63) AB 3 [(1,.pt 0 0 0),(3,.j w56.1),(4,.j w56.2.1),(5,.j w56.2.2.1),(6,.b w56.2.2.2),(33,.b (decide ((x0.2.2.2.1.length:Int)<=w56.1)))] [some ⟨5,66,[AA.enc x0],false⟩] kr ?_;rcases BE (decide ((x0.2.2.2.1.length:Int)<=w56.1)) with hc59 | hc59
   ·rw [if_pos hc59] at hj58
    rw [hc59];refine AD (n:=63) AB 3 [(1,.pt 0 0 0),(4,.j w56.2.1),(5,.j w56.2.2.1),(6,.b w56.2.2.2),(33,.b true),(36,.b (w56.1==0))] [some ⟨5,66,[AA.enc x0],false⟩] kr ?_;rcases BE (w56.1==0) with hc60 | hc60
    ·rw [if_pos hc60] at hj58
     rw [hc60];refine AD (n:=63) AB 13 [(1,.pt 0 0 0),(5,.j w56.2.2.1),(6,.b w56.2.2.2),(49,.b (decide (x0.2.2.2.2≥w56.2.1)))] [some ⟨5,66,[AA.enc x0],false⟩] kr ?_;rcases BE (decide (x0.2.2.2.2≥w56.2.1)) with hc61 | hc61
     ·rw [if_pos hc61] at hj58
      rw [hc61];refine AD (n:=63) AB 6 [(1,.pt 0 0 0),(6,.b w56.2.2.2),(55,.b (decide (x0.2.2.2.2<=w56.2.2.1)))] [some ⟨5,66,[AA.enc x0],false⟩] kr ?_;rcases BE (decide (x0.2.2.2.2<=w56.2.2.1)) with hc62 | hc62
      ·rw [if_pos hc62] at hj58
       rw [hc62];refine AD (n:=63) AB 2 [(1,.pt 0 0 0),(55,.b true),(57,.b w56.2.2.2)] [some ⟨5,66,[AA.enc x0],false⟩] kr ?_;rcases BE w56.2.2.2 with hc63 | hc63
       ·rw [if_pos hc63] at hj58
        rw [hc63];refine AD (n:=63) AB 6 [(2,.b true)] [some ⟨5,66,[AA.enc x0],false⟩] kr ?_;have hq:=OI hj58; subst hq;exact AH rfl (A7 [] trivial ⟨lv,trivial⟩)
       ·rw [B3 hc63] at hj58
        rw [hc63];refine AD (n:=63) AB 6 [(2,.b (!x0.2.2.1))] [some ⟨5,66,[AA.enc x0],false⟩] kr ?_;have hq:=OI hj58; subst hq;exact AH rfl (A7 [] trivial ⟨lv,trivial⟩)
      ·rw [B3 hc62] at hj58
       rw [hc62];refine AD (n:=63) AB 8 [(2,.b false)] [some ⟨5,66,[AA.enc x0],false⟩] kr ?_;have hq:=OI hj58; subst hq;exact AH rfl (A7 [] trivial ⟨lv,trivial⟩)
     ·rw [B3 hc61] at hj58
      rw [hc61];refine AD (n:=63) AB 14 [(2,.b false)] [some ⟨5,66,[AA.enc x0],false⟩] kr ?_;have hq:=OI hj58; subst hq;exact AH rfl (A7 [] trivial ⟨lv,trivial⟩)
    ·rw [B3 hc60] at hj58
     rw [hc60];refine AD (n:=63) AB 2 [(1,.pt 0 0 0),(4,.j w56.2.1),(5,.j w56.2.2.1),(6,.b w56.2.2.2),(33,.b true),(36,.b false),(38,.sl 1 (x0.2.2.2.1.map cdS.enc))] [some ⟨5,66,[AA.enc x0],false⟩] kr ?_;refine Ab AB 0 rfl (DQ kr rfl (DI (a:= .sl 1 (x0.2.2.2.1.map cdS.enc)) kr (CD (el:=9) kr))) ?_;refine AD (n:=63) AB 4 [(1,.pt 0 0 0),(4,.j w56.2.1),(5,.j w56.2.2.1),(6,.b w56.2.2.2),(43,.b (decide ((x0.2.2.2.1.length:Int) > 0)))] [some ⟨5,66,[AA.enc x0],false⟩] kr ?_;rcases BE (decide ((x0.2.2.2.1.length:Int) > 0)) with hc64 | hc64
     ·rw [if_pos hc64] at hj58
      rw [hc64];refine AD (n:=63) AB 6 [(1,.pt 0 0 0),(5,.j w56.2.2.1),(6,.b w56.2.2.2),(49,.b (decide (x0.2.2.2.2≥w56.2.1)))] [some ⟨5,66,[AA.enc x0],false⟩] kr ?_;rcases BE (decide (x0.2.2.2.2≥w56.2.1)) with hc65 | hc65
      ·rw [if_pos hc65] at hj58
       rw [hc65];refine AD (n:=63) AB 6 [(1,.pt 0 0 0),(6,.b w56.2.2.2),(55,.b (decide (x0.2.2.2.2<=w56.2.2.1)))] [some ⟨5,66,[AA.enc x0],false⟩] kr ?_;rcases BE (decide (x0.2.2.2.2<=w56.2.2.1)) with hc66 | hc66
       ·rw [if_pos hc66] at hj58
        rw [hc66];refine AD (n:=63) AB 2 [(1,.pt 0 0 0),(55,.b true),(57,.b w56.2.2.2)] [some ⟨5,66,[AA.enc x0],false⟩] kr ?_;rcases BE w56.2.2.2 with hc67 | hc67
        ·rw [if_pos hc67] at hj58
         rw [hc67];refine AD (n:=63) AB 6 [(2,.b true)] [some ⟨5,66,[AA.enc x0],false⟩] kr ?_;have hq:=OI hj58; subst hq;exact AH rfl (A7 [] trivial ⟨lv,trivial⟩)
        ·rw [B3 hc67] at hj58
         rw [hc67];refine AD (n:=63) AB 6 [(2,.b (!x0.2.2.1))] [some ⟨5,66,[AA.enc x0],false⟩] kr ?_;have hq:=OI hj58; subst hq;exact AH rfl (A7 [] trivial ⟨lv,trivial⟩)
       ·rw [B3 hc66] at hj58
        rw [hc66];refine AD (n:=63) AB 8 [(2,.b false)] [some ⟨5,66,[AA.enc x0],false⟩] kr ?_;have hq:=OI hj58; subst hq;exact AH rfl (A7 [] trivial ⟨lv,trivial⟩)
      ·rw [B3 hc65] at hj58
       rw [hc65];refine AD (n:=63) AB 14 [(2,.b false)] [some ⟨5,66,[AA.enc x0],false⟩] kr ?_;have hq:=OI hj58; subst hq;exact AH rfl (A7 [] trivial ⟨lv,trivial⟩)
     ·rw [B3 hc64] at hj58
      rw [hc64];refine AD (n:=63) AB 20 [(2,.b false)] [some ⟨5,66,[AA.enc x0],false⟩] kr ?_;have hq:=OI hj58; subst hq;exact AH rfl (A7 [] trivial ⟨lv,trivial⟩)
   ·rw [B3 hc59] at hj58
    rw [hc59];refine AD (n:=63) AB 30 [(2,.b false)] [some ⟨5,66,[AA.enc x0],false⟩] kr ?_;have hq:=OI hj58; subst hq;exact AH rfl (A7 [] trivial ⟨lv,trivial⟩)
  refine Ah ?_;have hq:=OI h; subst hq;exact ⟨⟨Fr 63 [(2,.b j58)],[]⟩,AK,.inr rfl,[.b j58],kr,kr⟩
 ·try dsimp only at h
  refine DU (FY x0 _ hr55) ?_;have hq:=OI h; subst hq;exact ⟨⟨Fr 63 [(2,.b w68)],[]⟩,AK,.inr rfl,[.b w68],kr,kr⟩
def Jv:List AV->Option AV:=ER FN (fun a=>BK a.1) FQ
theorem J0:XOk 70 Jv:=by
 refine Aq Tryz.func70 (c:=Bh) ?h2 ⟨Tryz.call70⟩ FN (fun a=>BK a.1) FQ (fun a=>(by show 1<=63; decide)) ?h3 ?h4
 case h2=>kernel_rfl
 case h3=>intro b; kernel_rfl
 case h4=>exact fun a b h=>Ij a.1 b h
/- trestle/court.name -/
noncomputable def F9:Code:=CC Tryz.f71
def C1 (x0:(List UInt8)):Nat->Int->Option ((Unit) ⊕ (Bool))
 | 0,_=>none
 | f + 1,c1 =>
  if (decide (c1 < (x0.length:Int)))=true then
  (idx x0 c1).bind fun v3 =>
  (if (decide ((v3.toNat:Int) < 97))=true then some true else (idx x0 c1).bind fun v4 =>
  some (decide ((v4.toNat:Int) > 122))).bind fun j6 =>
  if j6=true then
  some (.inr false)
  else
  C1 x0 f (wr .i64 (c1 + 1))
  else
  some (.inl ())
def Dx (x0:(List UInt8)):Option (Bool) :=
 (C1 x0 100000 0).bind fun r10 =>
 match r10 with
 | (.inl w11) =>
  (if (decide ((x0.length:Int)≥1))=true then some (decide ((x0.length:Int)<=12)) else some false).bind fun j13 =>
  some j13
 | (.inr w15) =>
  some w15
def GB:Cs ((List UInt8)×Unit):=(csC cdS csN)
def GD (r:Bool):AV:=cdB.enc r
theorem GW (x0:(List UInt8)):∀ (f:Nat) (c1:Int) (r:(Unit) ⊕ (Bool)),C1 x0 f c1=some r->SemN E0 ⟨none,false⟩ (pc F9 [1,0,1,0,0]) f ⟨Fr 28 [(0,.st x0),(3,.j c1)],[]⟩ (fun e s=>match r with
 | (.inl w)=>e=(.exit 0)/\Wk E0 s ⟨Fr 28 [(0,.st x0)],[]⟩
 | (.inr w)=>e = .ret/\Wk E0 s ⟨Fr 28 [(2,.b w)],[]⟩):=by
 intro f;induction f with
 | zero=>intro c1 r h; cases h
 | succ f ih0 =>
  intro c1 r h
  have ih:=fun (c1:Int)=>ih0 c1 r
  unfold C1 at h;refine B4 ?_;refine AF ?_;refine AO AB [(0,.st x0),(3,.j c1),(7,.b (decide (c1 < (x0.length:Int))))] [] ?_;refine AQ (b:=(decide (c1 < (x0.length:Int)))) kr (fun hb2=>?_) (fun hb2=>?_)
  ·rw [if_pos hb2] at h
   refine Ac ?_;refine AF ?_;refine Ao ?_;refine AF ?_;obtain ⟨v3,hv3,h⟩:=OB h;obtain ⟨j6,hj6,h⟩:=OB h;refine AL (s1:=⟨Fr 28 [(0,.st x0),(3,.j c1),(19,.b j6)],[]⟩) ?_ ?_
   ·refine AD (n:=28) AB 2 [(0,.st x0),(3,.j c1),(10,.st x0),(11,.j c1)] [] kr ?_
    refine Ab AB 0 rfl (DQ (AC rfl) rfl (Kf (a:= .st x0) (b:= .j c1) kr kr (I0 (bs:=x0) (ki:= .i64) kr hv3))) ?_;refine AD (n:=28) AB 2 [(0,.st x0),(3,.j c1),(14,.b (decide ((v3.toNat:Int) < 97)))] [] kr ?_;rcases BE (decide ((v3.toNat:Int) < 97)) with hc9 | hc9
    ·rw [if_pos hc9] at hj6
     rw [hc9];refine AD (n:=28) AB 5 [(0,.st x0),(3,.j c1),(15,.tp []),(16,.tp []),(17,.tp []),(18,.tp []),(19,.b true)] [] kr ?_;have hq:=OI hj6; subst hq;exact AH rfl AK
    ·rw [B3 hc9] at hj6
     rw [hc9];refine AD (n:=28) AB 2 [(0,.st x0),(3,.j c1),(14,.b false),(15,.st x0),(16,.j c1)] [] kr ?_;obtain ⟨v4,hv4,hj6⟩:=OB hj6;refine Ab AB 0 rfl (DQ kr rfl (Kf (a:= .st x0) (b:= .j c1) kr kr (I0 (bs:=x0) (ki:= .i64) kr hv4))) ?_;refine AD (n:=28) AB 2 [(0,.st x0),(3,.j c1),(15,.st x0),(16,.j c1),(17,.v (.int .u8 (v4.toNat:Int))),(18,.b (decide ((v4.toNat:Int) > 122))),(19,.b (decide ((v4.toNat:Int) > 122)))] [] kr ?_;have hq:=OI hj6; subst hq;exact AH rfl AK
   refine AQ (b:=j6) kr (fun hb7=>?_) (fun hb7=>?_)
   ·rw [if_pos hb7] at h
    refine AO AB [(2,.b false)] [] ?_;refine Ah ?_;have hq:=OI h; subst hq;exact ⟨rfl,AK⟩
   ·rw [B3 hb7] at h
    refine Ac ?_;refine C0 AB [(0,.st x0),(3,.j (wr .i64 (c1 + 1)))] [] ?_;exact Ax (s1:=⟨Fr 28 [(0,.st x0),(3,.j (wr .i64 (c1 + 1)))],[]⟩) AK (ih (wr .i64 (c1 + 1)) h)
  ·rw [B3 hb2] at h
   refine Cc ?_;have hq:=OI h; subst hq;exact ⟨rfl,AK⟩
theorem Jo (x0:(List UInt8)) (r:Bool) (h:Dx x0=some r):Sem E0 ⟨none,false⟩ F9 ⟨Fr 28 (Bo 0 (GB.enc (x0,()))),[]⟩ fun e s'=>(e = .normal\/e = .ret)/\∃ xs,EQ E0.P s'.fr s'.hp Tryz.f71.results.toList=some xs/\Ea xs=GD r:=by
 unfold Dx at h;refine Bf (CN (s1:=⟨Fr 28 [(0,.st x0)],[]⟩) AK ?_);refine AO AB [(0,.st x0)] [] ?_;refine AF ?_;refine AO AB [(0,.st x0),(3,.j 0)] [] ?_;refine Ao ?_;obtain ⟨r10,hr10,h⟩:=OB h;refine Ce (n:=100000) ?_;rcases r10 with w11 | w15
 ·try dsimp only at h
  refine BG (Ax (s1:=⟨Fr 28 [(0,.st x0),(3,.j 0)],[]⟩) AK (GW x0 _ 0 _ hr10)) ?_;refine AF ?_;obtain ⟨j13,hj13,h⟩:=OB h;refine AL (s1:=⟨Fr 28 [(2,.b j13)],[]⟩) ?_ ?_
  ·refine AD (n:=28) AB 4 [(0,.st x0),(23,.b (decide ((x0.length:Int)≥1)))] [] kr ?_
   rcases BE (decide ((x0.length:Int)≥1)) with hc14 | hc14
   ·rw [if_pos hc14] at hj13
    rw [hc14];refine AD (n:=28) AB 5 [(2,.b (decide ((x0.length:Int)<=12)))] [] kr ?_;have hq:=OI hj13; subst hq;exact AH rfl AK
   ·rw [B3 hc14] at hj13
    rw [hc14];refine AD (n:=28) AB 5 [(2,.b false)] [] kr ?_;have hq:=OI hj13; subst hq;exact AH rfl AK
  refine Ah ?_;have hq:=OI h; subst hq;exact ⟨⟨Fr 28 [(2,.b j13)],[]⟩,AK,.inr rfl,[.b j13],kr,kr⟩
 ·try dsimp only at h
  refine BG (Ax (s1:=⟨Fr 28 [(0,.st x0),(3,.j 0)],[]⟩) AK (GW x0 _ 0 _ hr10)) ?_;have hq:=OI h; subst hq;exact ⟨⟨Fr 28 [(2,.b w15)],[]⟩,AK,.inr rfl,[.b w15],kr,kr⟩
def LT:List AV->Option AV:=ER GB (fun a=>Dx a.1) GD
theorem Ih:XOk 71 LT:=by
 refine Aq Tryz.func71 (c:=F9) ?h2 ⟨Tryz.call71⟩ GB (fun a=>Dx a.1) GD (fun a=>(by show 1<=28; decide)) ?h3 ?h4
 case h2=>kernel_rfl
 case h3=>intro b; kernel_rfl
 case h4=>exact fun a b h=>Jo a.1 b h
/- trestle/court.check$1 -/
noncomputable def GS:Code:=CC Tryz.f72
def DN (x0:(List UInt8)):Option (Bool) :=
 (Dx x0).bind fun v1 =>
 some (!v1)
def El:Cs ((List UInt8)×Unit):=(csC cdS csN)
def Ep (r:Bool):AV:=cdB.enc r
theorem IP (x0:(List UInt8)) (r:Bool) (h:DN x0=some r):Sem E0 ⟨none,false⟩ GS ⟨Fr 6 (Bo 0 (El.enc (x0,()))),[]⟩ fun e s'=>(e = .normal\/e = .ret)/\∃ xs,EQ E0.P s'.fr s'.hp Tryz.f72.results.toList=some xs/\Ea xs=Ep r:=by
 unfold DN at h;refine Bf (CN (s1:=⟨Fr 6 [(0,.st x0)],[]⟩) AK ?_);refine AO AB [(0,.st x0)] [] ?_;refine AF ?_;obtain ⟨v1,hv1,h⟩:=OB h;refine AL (s1:=⟨Fr 6 [(2,.b (!v1))],[]⟩) ?_ ?_
 ·refine AD (n:=6) AB 1 [(3,.st x0)] [] kr ?_
  refine An (caps:=[]) (xs:=[.st x0]) (u:=(x0,())) rfl rfl Ih rfl (AC rfl) kr kr (Am (BH (c:=cdS) (v:=x0)) Bg) (.inl kr) hv1 ?_;exact Ai AB
 refine Ah ?_;have hq:=OI h; subst hq;exact ⟨⟨Fr 6 [(2,.b (!v1))],[]⟩,AK,.inr rfl,[.b (!v1)],kr,kr⟩
def JY:List AV->Option AV:=ER El (fun a=>DN a.1) Ep
theorem Jg:XOk 72 JY:=by
 refine Aq Tryz.func72 (c:=GS) ?h2 ⟨Tryz.call72⟩ El (fun a=>DN a.1) Ep (fun a=>(by show 1<=6; decide)) ?h3 ?h4
 case h2=>kernel_rfl
 case h3=>intro b; kernel_rfl
 case h4=>exact fun a b h=>IP a.1 b h
/- slices.IndexFunc[[]string,string] -/
noncomputable def BI:Code:=CC Tryz.f79
def Ak (x0:(List (List UInt8))):Nat->Int->Option ((Unit) ⊕ (Int))
 | 0,_=>none
 | f + 1,c1 =>
  if (decide (c1 < (x0.length:Int)))=true then
  (idx x0 c1).bind fun v3 =>
  (DN v3).bind fun v4 =>
  if v4=true then
  some (.inr c1)
  else
  Ak x0 f (wr .i64 (c1 + 1))
  else
  some (.inl ())
def Ae (x0:(List (List UInt8))):Option (Int) :=
 (Ak x0 100000 0).bind fun r7 =>
 match r7 with
 | (.inl w8) =>
  some (-1)
 | (.inr w9) =>
  some w9
def BL:Cs ((List (List UInt8))×Unit×Unit):=(csC (cdL 1 cdS) (csC (cdF 72 csN (fun _=>rfl)) csN))
def BN (r:Int):AV:=cdI.enc r
theorem Bm (x0:(List (List UInt8))):∀ (f:Nat) (c1:Int) (r:(Unit) ⊕ (Int)),Ak x0 f c1=some r->SemN E0 ⟨none,false⟩ (pc BI [1,0,1,0,0]) f ⟨Fr 19 [(0,.sl 1 (x0.map cdS.enc)),(1,.fn 72 [] []),(7,.j (x0.length:Int)),(8,.j c1)],[]⟩ (fun e s=>match r with
 | (.inl w)=>e=(.exit 0)/\Wk E0 s ⟨Fr 19 [],[]⟩
 | (.inr w)=>e = .ret/\Wk E0 s ⟨Fr 19 [(4,.j w)],[]⟩):=by
 intro f;induction f with
 | zero=>intro c1 r h; cases h
 | succ f ih0 =>
  intro c1 r h
  have ih:=fun (c1:Int)=>ih0 c1 r
  unfold Ak at h;refine B4 ?_
  let p1:Nat×AV:=(8,.j c1)
  let p2:Nat×AV:=(7,.j (x0.length:Int))
  let p3:Nat×AV:=(1,.fn 72 [] [])
  let p4:Nat×AV:=(0,.sl 1 (x0.map cdS.enc))
  refine AO AB [p4,p3,p2,p1,(9,.b (decide (c1 < (x0.length:Int))))] [] ?_;refine AF ?_;refine AQ (b:=(decide (c1 < (x0.length:Int)))) kr (fun hb2=>?_) (fun hb2=>?_)
  ·rw [if_pos hb2] at h
   refine Ac ?_;refine AF ?_;refine Ao ?_
   let p5:Nat×AV:=(5,.j c1)
   refine AO AB [p4,p3,p5,p2,p1] [] ?_;refine AF ?_;obtain ⟨v3,hv3,h⟩:=OB h;obtain ⟨v4,hv4,h⟩:=OB h;refine AL (s1:=⟨Fr 19 [p4,p3,p5,p2,p1,(16,.b v4)],[]⟩) ?_ ?_
   ·refine AD (n:=19) AB 3 [p4,p3,p5,p2,p1,(11,.fn 72 [] []),(12,.sl 1 (x0.map cdS.enc)),(13,.j c1)] [] kr ?_
    refine Ab AB 0 rfl (DQ (AC rfl) rfl (Ad (a:= .sl 1 (x0.map cdS.enc)) (b:= .j c1) kr kr (EF (e:=cdS.enc) (el:=9) (k:=1) (ki:= .i64) kr kr hv3))) ?_;refine AD (n:=19) AB 1 [p4,p3,p5,p2,p1,(11,.fn 72 [] []),(15,.st v3)] [] kr ?_;refine An (caps:=[]) (xs:=[.st v3]) (u:=(v3,())) rfl rfl Jg rfl (AC rfl) kr kr (Am (BH (c:=cdS) (v:=v3)) Bg) (.inl kr) hv4 ?_;exact AH rfl AK
   refine AQ (b:=v4) kr (fun hb5=>?_) (fun hb5=>?_)
   ·rw [if_pos hb5] at h
    refine AO AB [(4,.j c1)] [] ?_;refine Ah ?_;have hq:=OI h; subst hq;exact ⟨rfl,AK⟩
   ·rw [B3 hb5] at h
    refine Ac ?_
    let p6:Nat×AV:=(8,.j (wr .i64 (c1 + 1)))
    refine C0 AB [p4,p3,p2,p6] [] ?_;exact Ax (s1:=⟨Fr 19 [p4,p3,p2,p6],[]⟩) AK (ih (wr .i64 (c1 + 1)) h)
  ·rw [B3 hb2] at h
   refine Cc ?_;have hq:=OI h; subst hq;exact ⟨rfl,AK⟩
theorem Cw (x0:(List (List UInt8))) (r:Int) (h:Ae x0=some r):Sem E0 ⟨none,false⟩ BI ⟨Fr 19 (Bo 0 (BL.enc (x0,(),()))),[]⟩ fun e s'=>(e = .normal\/e = .ret)/\∃ xs,EQ E0.P s'.fr s'.hp Tryz.f79.results.toList=some xs/\Ea xs=BN r:=by
 unfold Ae at h
 let p1:Nat×AV:=(1,.fn 72 [] [])
 let p2:Nat×AV:=(0,.sl 1 (x0.map cdS.enc))
 refine Bf (CN (s1:=⟨Fr 19 [p2,p1],[]⟩) AK ?_);refine AO AB [p2,p1] [] ?_;refine AF ?_;refine AF ?_
 let p3:Nat×AV:=(8,.j 0)
 let p4:Nat×AV:=(7,.j (x0.length:Int))
 refine AL (s1:=⟨Fr 19 [p2,p1,p4,p3],[]⟩) ?_ ?_
 ·refine AD (n:=19) AB 1 [p2,p1,(6,.sl 1 (x0.map cdS.enc))] [] kr ?_
  refine Ab AB 0 rfl (DQ (AC rfl) rfl (DI (a:= .sl 1 (x0.map cdS.enc)) kr (CD (el:=9) kr))) ?_;exact Ai AB
 refine Ao ?_;obtain ⟨r7,hr7,h⟩:=OB h;refine Ce (n:=100000) ?_;rcases r7 with w8 | w9
 ·try dsimp only at h
  refine BG (Ax (s1:=⟨Fr 19 [p2,p1,p4,p3],[]⟩) AK (Bm x0 _ 0 _ hr7)) ?_;refine AO AB [(4,.j (-1))] [] ?_;refine Ah ?_;have hq:=OI h; subst hq;exact ⟨⟨Fr 19 [(4,.j (-1))],[]⟩,AK,.inr rfl,[.j (-1)],kr,kr⟩
 ·try dsimp only at h
  refine BG (Ax (s1:=⟨Fr 19 [p2,p1,p4,p3],[]⟩) AK (Bm x0 _ 0 _ hr7)) ?_;have hq:=OI h; subst hq;exact ⟨⟨Fr 19 [(4,.j w9)],[]⟩,AK,.inr rfl,[.j w9],kr,kr⟩
def C6:List AV->Option AV:=ER BL (fun a=>Ae a.1) BN
theorem C8:XOk 79 C6:=by
 refine Aq Tryz.func79 (c:=BI) ?h2 ⟨Tryz.call79⟩ BL (fun a=>Ae a.1) BN (fun a=>(by show 2<=19; decide)) ?h3 ?h4
 case h2=>kernel_rfl
 case h3=>intro b; kernel_rfl
 case h4=>exact fun a b h=>Cw a.1 b h
/- slices.ContainsFunc[[]string,string] -/
noncomputable def Bi:Code:=CC Tryz.f48
def AN (x0:(List (List UInt8))):Option (Bool) :=
 (Ae x0).bind fun v1 =>
 some (decide (v1≥0))
def A8:Cs ((List (List UInt8))×Unit×Unit):=(csC (cdL 1 cdS) (csC (cdF 72 csN (fun _=>rfl)) csN))
def BA (r:Bool):AV:=cdB.enc r
theorem Cp (x0:(List (List UInt8))) (r:Bool) (h:AN x0=some r):Sem E0 ⟨none,false⟩ Bi ⟨Fr 9 (Bo 0 (A8.enc (x0,(),()))),[]⟩ fun e s'=>(e = .normal\/e = .ret)/\∃ xs,EQ E0.P s'.fr s'.hp Tryz.f48.results.toList=some xs/\Ea xs=BA r:=by
 unfold AN at h;refine Bf (CN (s1:=⟨Fr 9 [(0,.sl 1 (x0.map cdS.enc)),(1,.fn 72 [] [])],[]⟩) AK ?_);refine AO AB [(0,.sl 1 (x0.map cdS.enc)),(1,.fn 72 [] [])] [] ?_;refine AF ?_;obtain ⟨v1,hv1,h⟩:=OB h
 let p1:Nat×AV:=(4,.b (decide (v1≥0)))
 refine AL (s1:=⟨Fr 9 [p1],[]⟩) ?_ ?_
 ·refine AD (n:=9) AB 2 [(5,.sl 1 (x0.map cdS.enc)),(6,.fn 72 [] [])] [] kr ?_
  refine An (caps:=[]) (xs:=[.sl 1 (x0.map cdS.enc),.fn 72 [] []]) (u:=(x0,(),())) rfl rfl C8 rfl (AC rfl) kr kr (Am (BH (c:=(cdL 1 cdS)) (v:=x0)) (Am (Sm.fn Bg) Bg)) (.inl kr) hv1 ?_;exact Ai AB
 refine Ah ?_;have hq:=OI h; subst hq;exact ⟨⟨Fr 9 [p1],[]⟩,AK,.inr rfl,[.b (decide (v1≥0))],kr,kr⟩
def Cr:List AV->Option AV:=ER A8 (fun a=>AN a.1) BA
theorem Bq:XOk 48 Cr:=by
 refine Aq Tryz.func48 (c:=Bi) ?h2 ⟨Tryz.call48⟩ A8 (fun a=>AN a.1) BA (fun a=>(by show 2<=9; decide)) ?h3 ?h4
 case h2=>kernel_rfl
 case h3=>intro b; kernel_rfl
 case h4=>exact fun a b h=>Cp a.1 b h
/- slices.Index[[]string,string] -/
noncomputable def CP:Code:=CC Tryz.f93
def Ba (x0:(List (List UInt8))) (x1:(List UInt8)):Nat->Int->Option ((Unit) ⊕ (Int))
 | 0,_=>none
 | f + 1,c1 =>
  if (decide (c1 < (x0.length:Int)))=true then
  (idx x0 c1).bind fun v3 =>
  if (x1==v3)=true then
  some (.inr c1)
  else
  Ba x0 x1 f (wr .i64 (c1 + 1))
  else
  some (.inl ())
def BW (x0:(List (List UInt8))) (x1:(List UInt8)):Option (Int) :=
 (Ba x0 x1 100000 0).bind fun r6 =>
 match r6 with
 | (.inl w7) =>
  some (-1)
 | (.inr w8) =>
  some w8
def CT:Cs ((List (List UInt8))×(List UInt8)×Unit):=(csC (cdL 1 cdS) (csC cdS csN))
def CV (r:Int):AV:=cdI.enc r
theorem DC (x0:(List (List UInt8))) (x1:(List UInt8)):∀ (f:Nat) (c1:Int) (r:(Unit) ⊕ (Int)),Ba x0 x1 f c1=some r->SemN E0 ⟨none,false⟩ (pc CP [1,0,1,0,0]) f ⟨Fr 19 [(0,.sl 1 (x0.map cdS.enc)),(1,.st x1),(7,.j (x0.length:Int)),(8,.j c1)],[]⟩ (fun e s=>match r with
 | (.inl w)=>e=(.exit 0)/\Wk E0 s ⟨Fr 19 [],[]⟩
 | (.inr w)=>e = .ret/\Wk E0 s ⟨Fr 19 [(4,.j w)],[]⟩):=by
 intro f;induction f with
 | zero=>intro c1 r h; cases h
 | succ f ih0 =>
  intro c1 r h
  have ih:=fun (c1:Int)=>ih0 c1 r
  unfold Ba at h;refine B4 ?_
  let p1:Nat×AV:=(8,.j c1)
  let p2:Nat×AV:=(7,.j (x0.length:Int))
  let p3:Nat×AV:=(0,.sl 1 (x0.map cdS.enc))
  refine AO AB [p3,(1,.st x1),p2,p1,(9,.b (decide (c1 < (x0.length:Int))))] [] ?_;refine AF ?_;refine AQ (b:=(decide (c1 < (x0.length:Int)))) kr (fun hb2=>?_) (fun hb2=>?_)
  ·rw [if_pos hb2] at h
   refine Ac ?_;refine AF ?_;refine Ao ?_
   let p4:Nat×AV:=(5,.j c1)
   refine AO AB [p3,(1,.st x1),p4,p2,p1] [] ?_;refine AF ?_;obtain ⟨v3,hv3,h⟩:=OB h;refine AL (s1:=⟨Fr 19 [p3,(1,.st x1),p4,p2,p1,(16,.b (x1==v3))],[]⟩) ?_ ?_
   ·refine AD (n:=19) AB 3 [p3,(1,.st x1),p4,p2,p1,(11,.st x1),(12,.sl 1 (x0.map cdS.enc)),(13,.j c1)] [] kr ?_
    refine Ab AB 0 rfl (DQ (AC rfl) rfl (Ad (a:= .sl 1 (x0.map cdS.enc)) (b:= .j c1) kr kr (EF (e:=cdS.enc) (el:=9) (k:=1) (ki:= .i64) kr kr hv3))) ?_;exact Ai AB
   refine AQ (b:=(x1==v3)) kr (fun hb4=>?_) (fun hb4=>?_)
   ·rw [if_pos hb4] at h
    refine AO AB [(4,.j c1)] [] ?_;refine Ah ?_;have hq:=OI h; subst hq;exact ⟨rfl,AK⟩
   ·rw [B3 hb4] at h
    refine Ac ?_
    let p5:Nat×AV:=(8,.j (wr .i64 (c1 + 1)))
    refine C0 AB [p3,(1,.st x1),p2,p5] [] ?_;exact Ax (s1:=⟨Fr 19 [p3,(1,.st x1),p2,p5],[]⟩) AK (ih (wr .i64 (c1 + 1)) h)
  ·rw [B3 hb2] at h
   refine Cc ?_;have hq:=OI h; subst hq;exact ⟨rfl,AK⟩
theorem Ei (x0:(List (List UInt8))) (x1:(List UInt8)) (r:Int) (h:BW x0 x1=some r):Sem E0 ⟨none,false⟩ CP ⟨Fr 19 (Bo 0 (CT.enc (x0,x1,()))),[]⟩ fun e s'=>(e = .normal\/e = .ret)/\∃ xs,EQ E0.P s'.fr s'.hp Tryz.f93.results.toList=some xs/\Ea xs=CV r:=by
 unfold BW at h
 let p1:Nat×AV:=(0,.sl 1 (x0.map cdS.enc))
 refine Bf (CN (s1:=⟨Fr 19 [p1,(1,.st x1)],[]⟩) AK ?_);refine AO AB [p1,(1,.st x1)] [] ?_;refine AF ?_;refine AF ?_
 let p2:Nat×AV:=(8,.j 0)
 let p3:Nat×AV:=(7,.j (x0.length:Int))
 refine AL (s1:=⟨Fr 19 [p1,(1,.st x1),p3,p2],[]⟩) ?_ ?_
 ·refine AD (n:=19) AB 1 [p1,(1,.st x1),(6,.sl 1 (x0.map cdS.enc))] [] kr ?_
  refine Ab AB 0 rfl (DQ (AC rfl) rfl (DI (a:= .sl 1 (x0.map cdS.enc)) kr (CD (el:=9) kr))) ?_;exact Ai AB
 refine Ao ?_;obtain ⟨r6,hr6,h⟩:=OB h;refine Ce (n:=100000) ?_;rcases r6 with w7 | w8
 ·try dsimp only at h
  refine BG (Ax (s1:=⟨Fr 19 [p1,(1,.st x1),p3,p2],[]⟩) AK (DC x0 x1 _ 0 _ hr6)) ?_;refine AO AB [(4,.j (-1))] [] ?_;refine Ah ?_;have hq:=OI h; subst hq;exact ⟨⟨Fr 19 [(4,.j (-1))],[]⟩,AK,.inr rfl,[.j (-1)],kr,kr⟩
 ·try dsimp only at h
  refine BG (Ax (s1:=⟨Fr 19 [p1,(1,.st x1),p3,p2],[]⟩) AK (DC x0 x1 _ 0 _ hr6)) ?_;have hq:=OI h; subst hq;exact ⟨⟨Fr 19 [(4,.j w8)],[]⟩,AK,.inr rfl,[.j w8],kr,kr⟩
def FE:List AV->Option AV:=ER CT (fun a=>BW a.1 a.2.1) CV
theorem FG:XOk 93 FE:=by
 refine Aq Tryz.func93 (c:=CP) ?h2 ⟨Tryz.call93⟩ CT (fun a=>BW a.1 a.2.1) CV (fun a=>(by show 2<=19; decide)) ?h3 ?h4
 case h2=>kernel_rfl
 case h3=>intro b; kernel_rfl
 case h4=>exact fun a b h=>Ei a.1 a.2.1 b h
/- slices.Contains[[]string,string] -/
noncomputable def DA:Code:=CC Tryz.f73
def At (x0:(List (List UInt8))) (x1:(List UInt8)):Option (Bool) :=
 (BW x0 x1).bind fun v1 =>
 some (decide (v1≥0))
def B8:Cs ((List (List UInt8))×(List UInt8)×Unit):=(csC (cdL 1 cdS) (csC cdS csN))
def B9 (r:Bool):AV:=cdB.enc r
theorem EM (x0:(List (List UInt8))) (x1:(List UInt8)) (r:Bool) (h:At x0 x1=some r):Sem E0 ⟨none,false⟩ DA ⟨Fr 9 (Bo 0 (B8.enc (x0,x1,()))),[]⟩ fun e s'=>(e = .normal\/e = .ret)/\∃ xs,EQ E0.P s'.fr s'.hp Tryz.f73.results.toList=some xs/\Ea xs=B9 r:=by
 unfold At at h;refine Bf (CN (s1:=⟨Fr 9 [(0,.sl 1 (x0.map cdS.enc)),(1,.st x1)],[]⟩) AK ?_);refine AO AB [(0,.sl 1 (x0.map cdS.enc)),(1,.st x1)] [] ?_;refine AF ?_;obtain ⟨v1,hv1,h⟩:=OB h
 let p1:Nat×AV:=(4,.b (decide (v1≥0)))
 refine AL (s1:=⟨Fr 9 [p1],[]⟩) ?_ ?_
 ·refine AD (n:=9) AB 2 [(5,.sl 1 (x0.map cdS.enc)),(6,.st x1)] [] kr ?_
  refine An (caps:=[]) (xs:=[.sl 1 (x0.map cdS.enc),.st x1]) (u:=(x0,x1,())) rfl rfl FG rfl (AC rfl) kr kr (Am (BH (c:=(cdL 1 cdS)) (v:=x0)) (Am (BH (c:=cdS) (v:=x1)) Bg)) (.inl kr) hv1 ?_;exact Ai AB
 refine Ah ?_;have hq:=OI h; subst hq;exact ⟨⟨Fr 9 [p1],[]⟩,AK,.inr rfl,[.b (decide (v1≥0))],kr,kr⟩
def EY:List AV->Option AV:=ER B8 (fun a=>At a.1 a.2.1) B9
theorem DH:XOk 73 EY:=by
 refine Aq Tryz.func73 (c:=DA) ?h2 ⟨Tryz.call73⟩ B8 (fun a=>At a.1 a.2.1) B9 (fun a=>(by show 2<=9; decide)) ?h3 ?h4
 case h2=>kernel_rfl
 case h3=>intro b; kernel_rfl
 case h4=>exact fun a b h=>EM a.1 a.2.1 b h
/- trestle/court.check$2 -/
noncomputable def GT:Code:=CC Tryz.f74
def DO (x0:AE) (x1:AE):Option (Bool) :=
 (if (x0.1==1)=true then (At x0.2.2.2.1 x1.2.1).bind fun v1 =>
 some v1 else some false).bind fun j3 =>
 some j3
def Em:Cs (AE×AE×Unit):=(csC AA (csC (cdP AA) csN))
def Eq (r:Bool):AV:=cdB.enc r
theorem IQ (x0:AE) (x1:AE) (r:Bool) (h:DO x0 x1=some r):Sem E0 ⟨none,false⟩ GT ⟨Fr 14 (Bo 0 (Em.enc (x0,x1,()))),[]⟩ fun e s'=>(e = .normal\/e = .ret)/\∃ xs,EQ E0.P s'.fr s'.hp Tryz.f74.results.toList=some xs/\Ea xs=Eq r:=by
 unfold DO at h;refine Bf (CN (s1:=⟨Fr 14 [(0,AA.enc x0),(1,.pe (AA.enc x1) 0)],[]⟩) AK ?_);refine AO AB [(1,.pe (AA.enc x1) 0),(2,.pt 0 0 0)] [some ⟨5,66,[AA.enc x0],false⟩] ?_;refine AF ?_;obtain ⟨j3,hj3,h⟩:=OB h;refine AL (s1:=⟨Fr 14 [(3,.b j3)],[]⟩) ?_ ?_
 ·refine AD (n:=14) AB 4 [(1,.pe (AA.enc x1) 0),(2,.pt 0 0 0),(7,.b (x0.1==1))] [some ⟨5,66,[AA.enc x0],false⟩] kr ?_
  rcases BE (x0.1==1) with hc4 | hc4
  ·rw [if_pos hc4] at hj3
   rw [hc4];refine AD (n:=14) AB 4 [(7,.b true),(9,.sl 1 (x0.2.2.2.1.map cdS.enc)),(11,.st x1.2.1)] [some ⟨5,66,[AA.enc x0],false⟩] kr ?_;obtain ⟨v1,hv1,hj3⟩:=OB hj3;refine An (caps:=[]) (xs:=[.sl 1 (x0.2.2.2.1.map cdS.enc),.st x1.2.1]) (u:=(x0.2.2.2.1,x1.2.1,())) rfl rfl DH rfl kr kr kr (Am (BH (c:=(cdL 1 cdS)) (v:=x0.2.2.2.1)) (Am (BH (c:=cdS) (v:=x1.2.1)) Bg)) (.inl kr) hv1 ?_;refine AD (n:=14) AB 2 [(3,.b v1)] [some ⟨5,66,[AA.enc x0],false⟩] kr ?_;have hq:=OI hj3; subst hq;exact AH rfl (A7 [] trivial ⟨lv,trivial⟩)
  ·rw [B3 hc4] at hj3
   rw [hc4];refine AD (n:=14) AB 7 [(3,.b false)] [some ⟨5,66,[AA.enc x0],false⟩] kr ?_;have hq:=OI hj3; subst hq;exact AH rfl (A7 [] trivial ⟨lv,trivial⟩)
 refine Ah ?_;have hq:=OI h; subst hq;exact ⟨⟨Fr 14 [(3,.b j3)],[]⟩,AK,.inr rfl,[.b j3],kr,kr⟩
def JZ:List AV->Option AV:=ER Em (fun a=>DO a.1 a.2.1) Eq
theorem Jh:XOk 74 JZ:=by
 refine Aq Tryz.func74 (c:=GT) ?h2 ⟨Tryz.call74⟩ Em (fun a=>DO a.1 a.2.1) Eq (fun a=>(by show 2<=14; decide)) ?h3 ?h4
 case h2=>kernel_rfl
 case h3=>intro b; kernel_rfl
 case h4=>exact fun a b h=>IQ a.1 a.2.1 b h
/- slices.IndexFunc[[]trestle/api.Clause,trestle/api.Clause] -/
noncomputable def A0:Code:=CC Tryz.f78
def AT (x0:(List AE)) (x1:AE):Nat->Int->Option ((Unit) ⊕ (Int))
 | 0,_=>none
 | f + 1,c1 =>
  if (decide (c1 < (x0.length:Int)))=true then
  (idx x0 c1).bind fun v3 =>
  (DO v3 x1).bind fun v4 =>
  if v4=true then
  some (.inr c1)
  else
  AT x0 x1 f (wr .i64 (c1 + 1))
  else
  some (.inl ())
def AR (x0:(List AE)) (x1:AE):Option (Int) :=
 (AT x0 x1 100000 0).bind fun r7 =>
 match r7 with
 | (.inl w8) =>
  some (-1)
 | (.inr w9) =>
  some w9
def A1:Cs ((List AE)×AE×Unit):=(csC (cdL 5 AA) (csC (cdF 74 (csE (cdP AA)) (fun _=>rfl)) csN))
def A2 (r:Int):AV:=cdI.enc r
theorem BT (x0:(List AE)) (x1:AE):∀ (f:Nat) (c1:Int) (r:(Unit) ⊕ (Int)),AT x0 x1 f c1=some r->SemN E0 ⟨none,false⟩ (pc A0 [1,0,1,0,0]) f ⟨Fr 19 [(0,.sl 5 (x0.map AA.enc)),(1,.fn 74 [] [.pe (AA.enc x1) 0]),(7,.j (x0.length:Int)),(8,.j c1)],[]⟩ (fun e s=>match r with
 | (.inl w)=>e=(.exit 0)/\Wk E0 s ⟨Fr 19 [],[]⟩
 | (.inr w)=>e = .ret/\Wk E0 s ⟨Fr 19 [(4,.j w)],[]⟩):=by
 intro f;induction f with
 | zero=>intro c1 r h; cases h
 | succ f ih0 =>
  intro c1 r h
  have ih:=fun (c1:Int)=>ih0 c1 r
  unfold AT at h;refine B4 ?_
  let p1:Nat×AV:=(8,.j c1)
  let p2:Nat×AV:=(7,.j (x0.length:Int))
  let p3:Nat×AV:=(1,.fn 74 [] [.pe (AA.enc x1) 0])
  let p4:Nat×AV:=(0,.sl 5 (x0.map AA.enc))
  refine AO AB [p4,p3,p2,p1,(9,.b (decide (c1 < (x0.length:Int))))] [] ?_;refine AF ?_;refine AQ (b:=(decide (c1 < (x0.length:Int)))) kr (fun hb2=>?_) (fun hb2=>?_)
  ·rw [if_pos hb2] at h
   refine Ac ?_;refine AF ?_;refine Ao ?_
   let p5:Nat×AV:=(5,.j c1)
   refine AO AB [p4,p3,p5,p2,p1] [] ?_;refine AF ?_;obtain ⟨v3,hv3,h⟩:=OB h;obtain ⟨v4,hv4,h⟩:=OB h;refine AL (s1:=⟨Fr 19 [p4,p3,p5,p2,p1,(16,.b v4)],[]⟩) ?_ ?_
   ·let p6:Nat×AV:=(11,.fn 74 [] [.pe (AA.enc x1) 0])
    refine AD (n:=19) AB 3 [p4,p3,p5,p2,p1,p6,(12,.sl 5 (x0.map AA.enc)),(13,.j c1)] [] kr ?_;refine Ab AB 0 rfl (DQ (AC rfl) rfl (Ad (a:= .sl 5 (x0.map AA.enc)) (b:= .j c1) kr kr (EF (e:=AA.enc) (el:=66) (k:=5) (ki:= .i64) kr kr hv3))) ?_;refine AD (n:=19) AB 1 [p4,p3,p5,p2,p1,p6,(15,AA.enc v3)] [] kr ?_;refine An (caps:=[.pe (AA.enc x1) 0]) (xs:=[AA.enc v3]) (u:=(v3,x1,())) rfl rfl Jh rfl (AC rfl) kr kr (Am (BH (c:=AA) (v:=v3)) (Am (BH (c:=(cdP AA)) (v:=x1)) Bg)) (.inl kr) hv4 ?_;exact AH rfl AK
   refine AQ (b:=v4) kr (fun hb5=>?_) (fun hb5=>?_)
   ·rw [if_pos hb5] at h
    refine AO AB [(4,.j c1)] [] ?_;refine Ah ?_;have hq:=OI h; subst hq;exact ⟨rfl,AK⟩
   ·rw [B3 hb5] at h
    refine Ac ?_
    let p7:Nat×AV:=(8,.j (wr .i64 (c1 + 1)))
    refine C0 AB [p4,p3,p2,p7] [] ?_;exact Ax (s1:=⟨Fr 19 [p4,p3,p2,p7],[]⟩) AK (ih (wr .i64 (c1 + 1)) h)
  ·rw [B3 hb2] at h
   refine Cc ?_;have hq:=OI h; subst hq;exact ⟨rfl,AK⟩
theorem CK (x0:(List AE)) (x1:AE) (r:Int) (h:AR x0 x1=some r):Sem E0 ⟨none,false⟩ A0 ⟨Fr 19 (Bo 0 (A1.enc (x0,x1,()))),[]⟩ fun e s'=>(e = .normal\/e = .ret)/\∃ xs,EQ E0.P s'.fr s'.hp Tryz.f78.results.toList=some xs/\Ea xs=A2 r:=by
 unfold AR at h
 let p1:Nat×AV:=(1,.fn 74 [] [.pe (AA.enc x1) 0])
 let p2:Nat×AV:=(0,.sl 5 (x0.map AA.enc))
 refine Bf (CN (s1:=⟨Fr 19 [p2,p1],[]⟩) AK ?_);refine AO AB [p2,p1] [] ?_;refine AF ?_;refine AF ?_
 let p3:Nat×AV:=(8,.j 0)
 let p4:Nat×AV:=(7,.j (x0.length:Int))
 refine AL (s1:=⟨Fr 19 [p2,p1,p4,p3],[]⟩) ?_ ?_
 ·refine AD (n:=19) AB 1 [p2,p1,(6,.sl 5 (x0.map AA.enc))] [] kr ?_
  refine Ab AB 0 rfl (DQ (AC rfl) rfl (DI (a:= .sl 5 (x0.map AA.enc)) kr (CD (el:=66) kr))) ?_;exact Ai AB
 refine Ao ?_;obtain ⟨r7,hr7,h⟩:=OB h;refine Ce (n:=100000) ?_;rcases r7 with w8 | w9
 ·try dsimp only at h
  refine BG (Ax (s1:=⟨Fr 19 [p2,p1,p4,p3],[]⟩) AK (BT x0 x1 _ 0 _ hr7)) ?_;refine AO AB [(4,.j (-1))] [] ?_;refine Ah ?_;have hq:=OI h; subst hq;exact ⟨⟨Fr 19 [(4,.j (-1))],[]⟩,AK,.inr rfl,[.j (-1)],kr,kr⟩
 ·try dsimp only at h
  refine BG (Ax (s1:=⟨Fr 19 [p2,p1,p4,p3],[]⟩) AK (BT x0 x1 _ 0 _ hr7)) ?_;have hq:=OI h; subst hq;exact ⟨⟨Fr 19 [(4,.j w9)],[]⟩,AK,.inr rfl,[.j w9],kr,kr⟩
def CZ:List AV->Option AV:=ER A1 (fun a=>AR a.1 a.2.1) A2
theorem Ca:XOk 78 CZ:=by
 refine Aq Tryz.func78 (c:=A0) ?h2 ⟨Tryz.call78⟩ A1 (fun a=>AR a.1 a.2.1) A2 (fun a=>(by show 2<=19; decide)) ?h3 ?h4
 case h2=>kernel_rfl
 case h3=>intro b; kernel_rfl
 case h4=>exact fun a b h=>CK a.1 a.2.1 b h
/- slices.ContainsFunc[[]trestle/api.Clause,trestle/api.Clause] -/
noncomputable def BS:Code:=CC Tryz.f46
def AJ (x0:(List AE)) (x1:AE):Option (Bool) :=
 (AR x0 x1).bind fun v1 =>
 some (decide (v1≥0))
def Au:Cs ((List AE)×AE×Unit):=(csC (cdL 5 AA) (csC (cdF 74 (csE (cdP AA)) (fun _=>rfl)) csN))
def Av (r:Bool):AV:=cdB.enc r
theorem CA (x0:(List AE)) (x1:AE) (r:Bool) (h:AJ x0 x1=some r):Sem E0 ⟨none,false⟩ BS ⟨Fr 9 (Bo 0 (Au.enc (x0,x1,()))),[]⟩ fun e s'=>(e = .normal\/e = .ret)/\∃ xs,EQ E0.P s'.fr s'.hp Tryz.f46.results.toList=some xs/\Ea xs=Av r:=by
 unfold AJ at h
 let p1:Nat×AV:=(1,.fn 74 [] [.pe (AA.enc x1) 0])
 let p2:Nat×AV:=(0,.sl 5 (x0.map AA.enc))
 refine Bf (CN (s1:=⟨Fr 9 [p2,p1],[]⟩) AK ?_);refine AO AB [p2,p1] [] ?_;refine AF ?_;obtain ⟨v1,hv1,h⟩:=OB h
 let p3:Nat×AV:=(4,.b (decide (v1≥0)))
 refine AL (s1:=⟨Fr 9 [p3],[]⟩) ?_ ?_
 ·refine AD (n:=9) AB 2 [(5,.sl 5 (x0.map AA.enc)),(6,.fn 74 [] [.pe (AA.enc x1) 0])] [] kr ?_
  refine An (caps:=[]) (xs:=[.sl 5 (x0.map AA.enc),.fn 74 [] [.pe (AA.enc x1) 0]]) (u:=(x0,x1,())) rfl rfl Ca rfl (AC rfl) kr kr (Am (BH (c:=(cdL 5 AA)) (v:=x0)) (Am (Sm.fn (NU (BH (c:=(cdP AA)) (v:=x1)))) Bg)) (.inl kr) hv1 ?_;exact Ai AB
 refine Ah ?_;have hq:=OI h; subst hq;exact ⟨⟨Fr 9 [p3],[]⟩,AK,.inr rfl,[.b (decide (v1≥0))],kr,kr⟩
def CG:List AV->Option AV:=ER Au (fun a=>AJ a.1 a.2.1) Av
theorem CH:XOk 46 CG:=by
 refine Aq Tryz.func46 (c:=BS) ?h2 ⟨Tryz.call46⟩ Au (fun a=>AJ a.1 a.2.1) Av (fun a=>(by show 2<=9; decide)) ?h3 ?h4
 case h2=>kernel_rfl
 case h3=>intro b; kernel_rfl
 case h4=>exact fun a b h=>CA a.1 a.2.1 b h
end Go.Proofs.YtdjhmdbpcfnpgaaGreatDoor
