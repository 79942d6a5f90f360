/- Lemmas for the proof. -/
import Derived.Test.YtdjhmdbpcfnpgaaGreatDoorCourtRoundM1
import Derived.Test.YtdjhmdbpcfnpgaaGreatDoorCourtRoundM2
set_option maxHeartbeats 4000000
set_option maxRecDepth 100000
namespace Go.Proofs.YtdjhmdbpcfnpgaaGreatDoor
open Go.RowKit
theorem JE {g:AV->Option AV}:∀ {xs:List AV},(∀ x ∈ xs,g x=some x)->L0 g xs=some xs
 | [],_=>rfl
 | x::xs,h=>by
  unfold L0
  rw [h x (by simp),JE fun y hy=>h y (List.mem_cons_of_mem _ hy)]
theorem Jw {h:Hp}{x:AV}(hn:Gi x=true):∀ n,Ej h n x=some x
 | 0=>by
  have:J6 x=true:=by cases x <;> first | exact hn | (simp [Gi] at hn)
  unfold Ej
  rw [if_pos this]
 | n + 1=>by
  cases x <;> first | (simp [Gi] at hn; done) | (unfold Ej; rfl)
theorem OA {h:Hp}{x:AV}(hn:J6 x=true) (n:Nat):Ej h (n + 1) x=some x:=by
 cases x with
 | fn f p q =>
  simp only [J6,Bool.and_eq_true] at hn
  show (match L0 (Ej h n) p,L0 (Ej h n) q with | some p,some q=>some (AV.fn f p q) | _,_=>none)=_
  rw [JE (g:=Ej h n) fun y hy=>Jw (List.all_eq_true.1 hn.1 y hy) n,JE (g:=Ej h n) fun y hy=>Jw (List.all_eq_true.1 hn.2 y hy) n]
 | _ =>
  refine Jw ?_ (n + 1)
  exact hn
theorem Jx {h:Hp}{x:AV}(hn:C5 x=true) (n:Nat):Ej h (n + 2) x=some x:=by
 cases x with
 | ag cs =>
  show (L0 (Ej h (n + 1)) cs).map AV.ag=_
  rw [JE (g:=Ej h (n + 1)) fun y hy=>OA (List.all_eq_true.1 hn y hy) n]; rfl
 | _ =>
  refine OA ?_ (n + 1)
  exact hn
/-- What a call sees of an argument. -/
def Sm {α:Type}(n:Nat) (h:Hp) (c:Cd α) (x:AV) (v:α):Prop:=∃ y,Ej h n x=some y/\c.dec y=some v
def Sl {α:Type}(n:Nat) (h:Hp) (s:Cs α) (xs:List AV) (a:α):Prop:=∃ ys,L0 (Ej h n) xs=some ys/\s.dec ys=some a
section
variable {α β:Type}{n b k:Nat}{h:Hp}{c:Cd α}{t:TypeId}
theorem BU {v:α}:Sm (n + 2) h c (c.enc v) v:=⟨_,Jx (c.nr v) n,c.de v⟩
theorem Sm.e0:Sm n h (cdL k c) .e0 []:=⟨.e0,Jw rfl n,rfl⟩
theorem WV {xs:List α}(hb:h[b]? = some (some ⟨k,t,xs.map c.enc,false⟩)):Sm (n + 3) h (cdL k c) (.rf b 0 xs.length xs.length) xs:=by
 refine ⟨.sl k (xs.map c.enc),?_,(cdL k c).de xs⟩
 unfold Ej
 simp only [hb]
 rw [if_pos (by simp),List.drop_zero,List.take_of_length_le (by simp),JE]
 ·rfl
 ·intro y hy
  obtain ⟨z,_,rfl⟩:=List.mem_map.1 hy
  exact Jx (c.nr z) n
theorem Sm.rf {xs:List α}{m q:Nat}(hb:h[b]? = some (some ⟨k,t,xs.map c.enc,false⟩)) (hm:m<=xs.length):Sm (n + 3) h (cdL k c) (.rf b 0 m q) (xs.take m):=by
 refine ⟨.sl k ((xs.take m).map c.enc),?_,(cdL k c).de _⟩
 unfold Ej
 simp only [hb]
 rw [if_pos (by simp; omega),List.drop_zero,<-List.map_take,JE]
 ·rfl
 ·intro y hy
  obtain ⟨z,_,rfl⟩:=List.mem_map.1 hy
  exact Jx (c.nr z) n
theorem Sm.hd {xs:List α}(hb:h[b]? = some (mk k t (xs.map c.enc))):Sm (n + 3) h (cdL k c) (hd b (xs.map c.enc)) xs:=by
 cases xs with
 | nil=>exact .e0
 | cons x xs =>
  have:=WV (n:=n) (c:=c) (xs:=x::xs) (b:=b) (k:=k) hb
  simpa [Go.Proofs.YtdjhmdbpcfnpgaaGreatDoor.hd] using this
theorem Sm.pt {y:AV}{v:α}{fz:Bool}(hb:h[b]? = some (some ⟨k,t,[y],fz⟩)) (hy:Sm n h c y v):Sm (n + 1) h (cdP c) (.pt b 0 0) v:=by
 obtain ⟨z,h1,h2⟩:=hy
 refine ⟨.pe z 0,?_,h2⟩
 unfold Ej
 simp only [hb,List.getElem?_cons_zero]
 rw [h1]; rfl
theorem B3:Sl n h csN [] ():=⟨[],rfl,rfl⟩
theorem As {s:Cs β}{x:AV}{xs:List AV}{v:α}{a:β}(h1:Sm n h c x v) (h2:Sl n h s xs a):Sl n h (csC c s) (x::xs) (v,a):=by
 obtain ⟨y,k1,k2⟩:=h1
 obtain ⟨ys,q1,q2⟩:=h2
 refine ⟨y::ys,?_,?_⟩
 ·unfold L0; rw [k1,q1]
 ·show ((c.dec y).bind fun x=>(s.dec ys).map fun y=>(x,y))=_
  rw [k2,q2]; rfl
theorem QG {x:AV}{v:α}(h1:Sm n h c x v):Sl n h (csE c) [x] v:=by
 obtain ⟨y,k1,k2⟩:=h1
 exact ⟨[y],by unfold L0 L0; rw [k1],k2⟩
theorem Sm.ag {s:Cs α}{hn:∀ x,(s.enc x).all J6=true}{xs:List AV}{a:α}(h1:Sl n h s xs a):Sm (n + 1) h (cdA s hn) (.ag xs) a:=by
 obtain ⟨ys,k1,k2⟩:=h1
 refine ⟨.ag ys,?_,k2⟩
 show (L0 (Ej h n) xs).map AV.ag=_
 rw [k1]; rfl
end
/-- A closure of a given function. -/
def cdF {α:Type}(f:FuncId) (s:Cs α) (hn:∀ x,(s.enc x).all Gi=true):Cd α where
 enc x:= .fn f [] (s.enc x)
 dec a:=match a with
  | .fn g [] q=>if g=f then s.dec q else none
  | _=>none
 de x:=by simp [s.de]
 vr:=fun {w Z a x u} hd hv=>by
  split at hd
  ·split at hd
   ·next e =>
    subst e
    cases hv with
    | fn hl hl' hx hy =>
     have:=s.vr hd ⟨hl',hy⟩
     exact .fn hl this.len hx this.at_
   ·cases hd
  ·cases hd
 nr x:=by simp [C5,J6,hn]
theorem Sm.fn {α:Type}{n:Nat}{h:Hp}{f:FuncId}{s:Cs α}{hn:∀ x,(s.enc x).all Gi=true}{q:List AV}{a:α}(h1:Sl n h s q a):Sm (n + 1) h (cdF f s hn) (.fn f [] q) a:=by
 obtain ⟨ys,k1,k2⟩:=h1
 refine ⟨.fn f [] ys,?_,?_⟩
 ·show (match L0 (Ej h n) [],L0 (Ej h n) q with | some p,some q=>some (AV.fn f p q) | _,_=>none)=_
  rw [k1]; rfl
 ·show (if f=f then s.dec ys else none)=_
  rw [if_pos rfl]; exact k2
section
variable {E:Env}{cx:Cx}{ops:Array Oper}{rest rest':List Oper}{K:St->Prop}{n n0 k:Nat}{l:List (Nat×AV)}{hp:Hp}{α β:Type}{s:Cs α}{F:α->Option β}{er:β->AV}{u:α}{v:β}{fid:FuncId}{w:World}{Z:Nat->Prop}{R:List RI}
/-- A told call, in a world. -/
theorem WX (hX:XOk fid (FZ s F er)) (hh:HR w Z R hp) (hg:GI E0 w Z){xs:List AV}{us:List Value}(hvs:VRs w Z R xs us) (hv:Sl 12 hp s xs u) (hok:Cq (er v)=true\/xs.all C5=true) (hF:F u=some v) :
  Ret E0.P fid us.toArray w fun x w'=>∃ Z',HR w' Z' R hp/\VR w' Z' R (er v) x/\Step w Z R hp w' Z' R hp/\w.grownBy w' none/\(Cq (er v)=true->Z'=Z):=by
 obtain ⟨ys,h1,h2⟩:=hv
 by_cases hf:Cq (er v)=true
 ·have hz1:∀ c,(Z c\/own R hp c)->c < w.heap.size:=fun c hc=>hc.elim (hh.zlt c) (fun ⟨b,B,r,h1,_,h3,h4⟩=>h4 ▸ hh.rltL h1 h3)
  have hg1:GI E0 w (fun c=>Z c\/own R hp c):=fun q y hy=>(hg q y hy).mono (fun _ _=>rfl) (fun _ h=> .inl h) (fun _ _ h=>h)
  refine Ret.mono (hX.2 ys (er v) (Hy h2 hF) w _ us hz1 hg1 (allV_vr (Jy hh 12) hvs h1)) fun x w' ⟨hs,hx⟩=>?_
  exact ⟨Z,hh.keep hs.size (fun c hc=>hs.block c hc (by simp)),JH hf hx,⟨hs.os,hs.tape,hs.output,hs.size,fun c hc _=>hs.block c hc (by simp),fun _ h=> .inl h,fun _ h=>h,fun _ h=> .inl h,fun _ _ h=>h⟩,hs,fun _=>rfl⟩
 ·have hn:=hok.resolve_left hf
  have e:xs=ys:=OI ((JE fun y hy=>Jx (List.all_eq_true.1 hn y hy) 10).symm.trans h1)
  subst e
  refine Ret.mono (hX.2 xs (er v) (Hy h2 hF) w Z us hh.zlt hg (K8 hn hvs)) fun x w' ⟨hs,hx⟩=>?_
  obtain ⟨k1,k2⟩:=hh.addZ hs
  exact ⟨_,k1,hx.up,k2,hs,fun h=>absurd h hf⟩
/-- .. at an operation. -/
theorem W7 (hP:E.P=E0.P) (hG:E.G=E0.G){caps xs:List AV}{d:Option Nat}{f:Operand}{args:Array Operand}{tys:Array TypeId}{ty:TypeId}{pos:String}{af:Array Edge}{g:Option (Nat×Bool)}{base:Bs}{a:Act}(hX:XOk fid (FZ s F er)) (sr:SR E base w Z R ⟨Fr n l,hp⟩ a)
  (hf:opA E (Fr n l) f=some (.fn fid [] caps)) (ha:Fl (opA E (Fr n l)) args.toList=some xs) (hv:Sl 12 hp s (xs++caps) u) (hok:Cq (er v)=true\/(xs++caps).all C5=true) (hF:F u=some v) {Q:Act->World->Prop}
  (kk:∀ x w' Z',HR w' Z' R hp->VR w' Z' R (er v) x->Step w Z R hp w' Z' R hp->w.grownBy w' none->(Cq (er v)=true->Z'=Z)->SR E base w' Z' R ⟨Fr n l,hp⟩ a->Q (a.put d x) w'):Lw E.P ⟨d,.call ⟨.value f,args,tys⟩,ty,pos,af,g⟩ a w Q:=by
 have hρ:∀ o x,opA E (Fr n l) o=some x->VR w Z R x (a.eval o):=fun o x e=>opA_vr sr o x e
 have hvf:=hρ _ _ hf
 have hva:∃ uc:List Value,a.eval f = .func (.func fid) #[] uc.toArray/\VRs w Z R caps uc:=by
  generalize a.eval f=vf at hvf
  cases hvf with
  | fn hl hl' hx hy =>
   rename_i u1 u2
   have e1:u1=[]:=by simpa using hl
   subst e1
   exact ⟨u2,rfl,hl',hy⟩
 obtain ⟨uc,hva,huc⟩:=hva
 have hcl:BG E.P fid:=hP ▸ hX.1
 unfold Lw
 rw [EI (uf:=[]) (uc:=uc) rfl hva rfl hcl w]
 have hret:=WX hX sr.hh (by have:=sr.gl; exact fun q y hy=>this q y (by rw [hG]; exact hy)) ((opds_vr hρ ha).append huc) hv hok hF
 rw [<-hP] at hret
 simp only [List.nil_append]
 refine Ret.mono hret fun x w' ⟨Z',k1,k2,k3,k4,k5⟩=>?_
 exact kk x w' Z' k1 k2 k3 k4 k5 (sr.step k1 k3)
theorem Af (hP:E.P=E0.P) (hG:E.G=E0.G) (hX:XOk fid (FZ s F er)){caps xs:List AV}{d:Nat}{f:Operand}{args:Array Operand}{tys:Array TypeId}{ty:TypeId}{pos:String}{af:Array Edge}{g:Option (Nat×Bool)}(hr:rest=⟨some d,.call ⟨.value f,args,tys⟩,ty,pos,af,g⟩::rest') (hw:A5 ops (Fr n l) ⟨some d,.call ⟨.value f,args,tys⟩,ty,pos,af,g⟩=some true)
  (hf:opA E (Fr n l) f=some (.fn fid [] caps)) (ha:Fl (opA E (Fr n l)) args.toList=some xs) (hv:Sl 12 hp s (xs++caps) u) (hok:Cq (er v)=true\/(xs++caps).all C5=true) (hF:F u=some v) (kk:RunS E ops rest' ⟨Fr n ((d,er v)::l),hp⟩ K):RunS E ops rest ⟨Fr n l,hp⟩ K:=by
 subst hr
 intro base Q a w Z R sr q
 refine K5 rfl (wantedA_eq sr hw) (W7 hP hG hX sr hf ha hv hok hF fun x w' Z' k1 k2 k3 k4 k5 sr'=>?_)
 refine kk base Q _ w' Z' R ?_ fun s' a' w'' Z'' R'' hK sr'' st'=>q s' a' w'' Z'' R'' hK sr'' (k3.w.trans st')
 have:=sr'.put (d:=some d) k2
 rwa [CF] at this
/-- In a region that draws its order; what is handed back is flat. -/
theorem OK (hP:E.P=E0.P) (hG:E.G=E0.G) (hX:XOk fid (FZ s F er)){caps xs:List AV}{d:Nat}{f:Operand}{args:Array Operand}{tys:Array TypeId}{ty:TypeId}{pos:String}{af:Array Edge}{g:Option (Nat×Bool)}(hr:rest=⟨some d,.call ⟨.value f,args,tys⟩,ty,pos,af,g⟩::rest') (hw:A5 ops (Fr n l) ⟨some d,.call ⟨.value f,args,tys⟩,ty,pos,af,g⟩=some true)
  (hf:opA E (Fr n l) f=some (.fn fid [] caps)) (ha:Fl (opA E (Fr n l)) args.toList=some xs) (hv:Sl 12 hp s (xs++caps) u) (hok:Cq (er v)=true) (hF:F u=some v) (kk:RunDS E ops n0 (k + 1) rest' ⟨Fr n ((d,er v)::l),hp⟩ K):RunDS E ops n0 k rest ⟨Fr n l,hp⟩ K:=by
 subst hr
 intro base Q w0 Z R0 h0 a w R hh0 hn0 hT sr hgr st hpre hTk hlen hops q
 have hok':ops[k]? = some ⟨some d,.call ⟨.value f,args,tys⟩,ty,pos,af,g⟩:=by have:=hops 0; simpa using this.symm
 have hops':∀ j,rest'[j]? = ops[k + 1 + j]?:=fun j=>by have:=hops (j + 1); simpa [Nat.add_assoc,Nat.add_comm 1 j] using this
 have hlen':k + 1 + rest'.length=ops.size:=by simp at hlen ⊢; omega
 have hTk':C8 ops=Dm rest' (k + 1):=by
  rw [hTk]
  conv=>lhs; unfold Dm; rw [if_neg (by simp [isW])]
 refine ⟨fun _=>hgr,?_⟩
 rw [if_pos (wantedA_eq sr hw)]
 have hq:isQ (.call ⟨.value f,args,tys⟩:Op)=false:=rfl
 rw [if_pos (EN hok' hq)]
 refine W7 hP hG hX sr hf ha hv (.inl hok) hF fun x w' Z' k1 k2 k3 k4 k5 sr'=>?_
 have e:=k5 hok
 subst e
 exact kk base Q w0 Z' R0 h0 _ w' R hh0 hn0 hT (by have:=sr'.put (d:=some d) k2; rwa [CF] at this) (Dt hgr k4) (st.trans k3) hpre hTk' hlen' hops' q
/-- What is left of a region that draws its order, of which nothing is read any more. -/
def RunDZ (E:Env) (ops:Array Oper) (k:Nat) (rest:List Oper) (s:St) (K:St->Prop):Prop :=
 ∀ (base:Bs) (Q:Act->World->Prop) (w0:World) (Z:Nat->Prop) (a:Act) (w:World) (R:List RI),C8 ops<=ops.size->SR E base w Z R s a->w0.grownBy w none->C8 ops=Dm rest k->k + rest.length=ops.size->(∀ j,rest[j]? = ops[k + j]?) ->
  (∀ s' a' w' Z' R',K s'->SR E base w' Z' R' s' a'->StepW w Z R s.hp w' Z' R' s'.hp->Q a' w')->Fk E.P ops (fun w'=>w0.grownBy w' none) (CM ops (C8 ops)) (C8 ops) Q k rest a w
/-- From now on nothing is read. -/
theorem RunDS.z {s:St}(kk:RunDZ E ops k rest s K):RunDS E ops n0 k rest s K :=
 fun base Q w0 Z _ _ a w R _ _ hT sr hgr st _ hTk hlen hops q=>kk base Q w0 Z a w R hT sr hgr hTk hlen hops fun s' a' w' Z' R' hK sr' st'=>q s' a' w' Z' R' hK sr' (st.w.trans st')
theorem RunDZ.done {s:St}(hr:rest=[]) (kk:K s):RunDZ E ops k rest s K:=by
 subst hr
 exact fun base Q w0 Z a w R _ sr hgr _ _ _ q=>⟨fun _=>hgr,q s a w Z R kk sr (StepW.refl _ _ _ _)⟩
theorem Vy {s s1:St}(hw:Wk E s s1) (h:RunDZ E ops k rest s1 K):RunDZ E ops k rest s K:=fun base Q w0 Z a w R hT sr hgr hTk hlen hops q=>by
 obtain ⟨Z',R',sr',st⟩:=hw base w Z R a sr
 exact h base Q w0 Z' a w R' hT sr' hgr hTk hlen hops fun s' a' w' Z2 R2 hK sr2 st2=>q s' a' w' Z2 R2 hK sr2 (st.trans st2)
theorem UY {s:St}{o:Oper}(hr:rest=o::rest') (hW:isW o.op=true) (h:RunS E ops rest s K):RunDZ E ops k rest s K:=by
 subst hr
 intro base Q w0 Z a w R hT sr hgr hTk hlen hops q
 have hTk':C8 ops=k:=by rw [hTk]; unfold Dm; rw [if_pos hW]
 exact Ib (h base Q a w Z R sr fun s' a' w' Z' R' hK sr' st'=>q s' a' w' Z' R' hK sr' st') (by omega) (fun _=>hgr) (fun j hj=>It (by omega)) hops
theorem IG (hE:EnvOk E):∀ {pre:List Oper}{s s1:St}{k:Nat},(pre.all fun o=>!isW o.op&&!Mu o.op)=true->opsD E (evC E 0) ⟨none,false⟩ ops n0 pre s=some s1->RunDZ E ops (k + pre.length) rest s1 K->RunDZ E ops k (pre++rest) s K
 | [],s,s1,k,_,e,kk=>by injection e with e; subst e; exact kk
 | o::pre,s,s1,k,hp,e,kk=>by
  intro base Q w0 Z a w R hT sr hgr hTk hlen hops q
  simp only [List.all_cons,Bool.and_eq_true,Bool.not_eq_true'] at hp
  obtain ⟨⟨hW,hLd⟩,hp⟩:=hp
  have hok:ops[k]? = some o:=by have:=hops 0; simpa using this.symm
  have hops':∀ j,(pre++rest)[j]? = ops[k + 1 + j]?:=fun j=>by have:=hops (j + 1); simpa [Nat.add_assoc,Nat.add_comm 1 j] using this
  have hk1:k + 1 + pre.length=k + (o::pre).length:=by simp; omega
  have kk':RunDZ E ops (k + 1 + pre.length) rest s1 K:=by rw [hk1]; exact kk
  have hp':(pre.all fun o=>!isW o.op&&!Mu o.op)=true:=by simpa using hp
  have hlen':k + 1 + (pre++rest).length=ops.size:=by simp at hlen ⊢; omega
  have hTk':C8 ops=Dm (pre++rest) (k + 1):=by
   rw [hTk]
   show Dm (o::(pre++rest)) k=_
   conv=>lhs; unfold Dm; rw [if_neg (by rw [hW]; simp)]
  have hkT:¬ C8 ops<=k:=by have:=Ik (pre++rest) (k + 1); omega
  show Fk E.P ops _ _ _ Q k (o::(pre++rest)) a w
  refine ⟨fun _=>hgr,?_⟩
  unfold opsD at e
  rw [if_neg (by rw [hW]; simp)] at e
  split at e
  ·cases e
  ·next hw =>
   rw [if_neg (by rw [wantedA_eq sr hw]; simp)]
   exact IG hE hp' e kk' base Q w0 Z _ w R hT (sr.put undef_vr) hgr hTk' hlen' hops' q
  ·next hw =>
   rw [if_pos (wantedA_eq sr hw)]
   have hρ:∀ o x,opA E s.fr o=some x->VR w Z R x (a.eval o):=fun o x e=>opA_vr sr o x e
   split at e
   ·next x hx =>
    split at e
    ·have hq:=LW hx
     rw [if_neg (by rw [Ia hok hq hkT]; simp)]
     obtain ⟨u,hu,hrun⟩:=evOpQ_sound sr.hh hρ hx
     exact ⟨u,(fun w' _=>hrun w' fun h=>by rw [hLd] at h; cases h),IG hE hp' e kk' base Q w0 Z _ w R hT (sr.put hu) hgr hTk' hlen' hops' q⟩
    ·cases e
   ·split at e
    ·next x h' hx =>
     have hq:=Hq hx
     rw [if_pos (EN hok hq)]
     obtain ⟨u,w',R',h1,h2,h3,h4,h5⟩:=evOpN_sound hρ sr.hh hx
     exact I9 h1 (IG hE hp' e kk' base Q w0 Z _ w' R' hT ((sr.step h2 h4).put h3) (Dt hgr h5) hTk' hlen' hops' fun s' a' w'' Z'' R'' hK sr'' st'=>q s' a' w'' Z'' R'' hK sr'' (h4.w.trans st'))
    ·split at e
     ·next f args tys ho =>
      split at e
      ·next fv xs hf hxs =>
       split at e
       ·next r hr =>
        obtain ⟨x,h'⟩:=r
        have hq:isQ o.op=false:=by rw [ho]; rfl
        rw [if_pos (EN hok hq)]
        obtain ⟨g,uf,uc,hva,hcl,hret⟩:=EW hE (code_sound hE 0).1 (hρ _ _ hf) (opds_vr hρ hxs) sr.hh sr.gl hr
        unfold Lw
        rw [EI (uf:=uf) (uc:=uc) ho hva rfl hcl w]
        refine Ret.mono hret fun v w' hS=>?_
        obtain ⟨hg1,R',k1,k2,k3⟩:=hS
        exact IG hE hp' e kk' base Q w0 Z _ w' R' hT ((sr.step k1 k3).put k2) (Dt hgr hg1) hTk' hlen' hops' fun s' a' w'' Z'' R'' hK sr'' st'=>q s' a' w'' Z'' R'' hK sr'' (k3.w.trans st')
       ·cases e
      ·cases e
     ·cases e
theorem RunDZ.one (hE:EnvOk E){s s1:St}{o:Oper}(hr:rest=o::rest') (hW:(!isW o.op&&!Mu o.op)=true) (h:opsD E (evC E 0) ⟨none,false⟩ ops n0 [o] s=some s1) (kk:RunDZ E ops (k + 1) rest' s1 K):RunDZ E ops k rest s K:=by
 subst hr
 exact IG (k:=k) hE (pre:=[o]) (by simpa using hW) h kk
end
/-- A function, entered: from what its body does; the interpreter need not take it. -/
theorem Su {E:Env}{c:Code}{Q:Ex->St->Prop}{f:FuncId}{fn:Func}{args:List AV}{h:Hp}(hff:E.P.funcs[f]? = some fn) (hc:fn.body=some c) (hle:args.length<=fn.ntmps)
  (hb:Sem E ⟨none,false⟩ c ⟨args.map some++List.replicate (fn.ntmps - args.length) (some (.tp [])),h⟩ fun e s=>(e = .normal\/e = .ret)/\∃ xs,D4 E.P s.fr s.hp fn.results.toList=some xs/\Q .ret ⟨[some (Eh xs)],s.hp⟩)
  {w:World} {Z:Nat->Prop} {R:List RI} {us:List Value} (hh:HR w Z R h) (hv:VRs w Z R args us) (hg:GI E w Z) :
  Ret E.P f us.toArray w fun v w'=>∃ Z' R' x h',Q .ret ⟨[some x],h'⟩/\HR w' Z' R' h'/\VR w' Z' R' x v/\StepW w Z R h w' Z' R' h':=by
 refine callsIn_wide.1 (callsIn_of_wp_marks (F:=Fw none) (n:=0) hff hc trivial ?_)
 have hul:us.length=args.length:=hv.len
 have hsr:SR E (.of w.heap.size) w Z R ⟨args.map some++List.replicate (fn.ntmps - args.length) (some (.tp [])),h⟩ { tmps:=us.toArray++Array.replicate (fn.ntmps - us.toArray.size) undef,defers:=[] }:=by
  refine ⟨hh,⟨by simp [hul],fun t x hx=>?_⟩,rfl,hg,Nat.le_refl _⟩
  have e0:us.toArray++Array.replicate (fn.ntmps - us.toArray.size) undef=(us++List.replicate (fn.ntmps - us.length) undef).toArray:=by simp
  rw [e0,Array.getD_eq_getD_getElem?,List.getElem?_toArray]
  by_cases ht:t < args.length
  ·rw [List.getElem?_append_left (by simpa using ht),List.getElem?_map] at hx
   rw [List.getElem?_append_left (by omega)]
   cases hat:args[t]? with
   | none=>rw [hat] at hx; cases hx
   | some q =>
    rw [hat] at hx
    have hx:=OI (OI hx)
    subst hx
    obtain ⟨u,hu1,hu2⟩:=hv.get hat
    rw [hu1]; exact hu2
  ·rw [List.getElem?_append_right (by simp; omega),List.getElem?_replicate] at hx
   split at hx
   ·next hlt =>
    have hx:=OI (OI hx)
    subst hx
    rw [List.getElem?_append_right (by omega),List.getElem?_replicate,if_pos (by rw [hul]; simpa using hlt)]
    exact .tp (us:=[]) rfl (fun i x u hx=>by simp at hx)
   ·cases hx
 refine hb none (.of w.heap.size) _ _ w Z R (fun _=>rfl) hsr rfl fun e s' a' w' Z' R' hQ sr' st=>?_
 obtain ⟨hex,xs,hxs,hq⟩:=hQ
 have hl:=Eg (base:= .of w.heap.size) rfl (E:=E) (w:=w') (a:=a') (fn:=fn) (S:=fun v w''=>∃ Z' R' x h',Q .ret ⟨[some x],h'⟩/\HR w'' Z' R' h'/\VR w'' Z' R' x v/\StepW w Z R h w'' Z' R' h') hxs (fun w'' u g1 g2 g3 g4 g5 g6 g7=>⟨Z',R',_,_,hq,g6,g7,⟨g2.trans st.os,g3.trans st.tape,g4.trans st.output,by rw [g1]; exact st.size,fun c hc hn=>(g5 c hc).trans (st.block c hc hn),st.own_,st.z,st.z'⟩⟩) (D:=a'.defers) (w1:=w') sr' rfl rfl rfl rfl (fun _ _=>rfl)
 rcases hex with rfl | rfl
 ·exact hl
 ·exact hl
/-- A contract out of what the body does. -/
theorem Az {f:FuncId}{fn:Func}{c:Code}(hf:E0.P.funcs[f]? = some fn) (hc:fn.body=some c) (hcall:BG E0.P f){α β:Type}(s:Cs α) (F:α->Option β) (er:β->AV) (hle:∀ a,(s.enc a).length<=fn.ntmps) (hnr:∀ b,UI (er b)=true)
  (sem:∀ a b,F a=some b->Sem E0 ⟨none,false⟩ c ⟨Fr fn.ntmps (BB 0 (s.enc a)),[]⟩ fun e s'=>(e = .normal\/e = .ret)/\∃ xs,D4 E0.P s'.fr s'.hp fn.results.toList=some xs/\Eh xs=er b) :
  XOk f (FZ s F er):=by
 refine ⟨hcall,fun xs x h w Z us hz hg hv=>?_⟩
 obtain ⟨a,ha,h⟩:=OB h
 obtain ⟨b,hb,rfl⟩:=Option.map_eq_some_iff.1 h
 have hh:HR w Z [] []:=⟨rfl,fun b B hB=>by simp at hB,fun b b' B B' r r' hB=>by simp at hB,hz⟩
 refine Ret.mono (Su hf hc (hle a) (Q:=fun _ s=>s.fr=[some (er b)]) (Sem.mono (DP (Wk.enter (hle a)) (sem a b hb)) fun e s' hs=>?_) hh (s.vr ha hv) hg) fun v w' hS=>?_
 ·obtain ⟨h1,xs,h2,h3⟩:=hs
  exact ⟨h1,xs,h2,by rw [h3]⟩
 ·obtain ⟨Z',R',x,h',hQ,k1,k2,st⟩:=hS
  have hx:x=er b:=by simpa using hQ
  subst hx
  refine ⟨⟨st.os,st.tape,st.output,st.size,fun c hc _=>st.block c hc (fun ⟨b,B,r,hb,_⟩=>by simp at hb)⟩,(M3 (hnr b) k2).mono (fun _ _=>rfl) (fun c hc=>?_) (fun _ _ h=>h)⟩
  rcases st.z' c hc with h1 | ⟨b,B,r,hb,_⟩ | h1
  ·exact .inl h1
  ·simp at hb
  ·exact .inr ⟨h1,k1.zlt c hc⟩
/-- The first n blocks are given up. -/
def Pz:Nat->Hp->Hp
 | 0,h=>h
 | n + 1,h=>(Pz n h).set n none
theorem PU {w:World}{Z:Nat->Prop}{R:List RI}{h:Hp}(hh:HR w Z R h):∀ n,HR w Z R (Pz n h)
 | 0=>hh
 | n + 1=>((PU hh n).kill n).1
theorem Nx {h:Hp}:∀ {n b:Nat}{B:Blk},(Pz n h)[b]? = some (some B)->n<=b/\h[b]? = some (some B)
 | 0,b,B,e=>⟨Nat.zero_le _,e⟩
 | n + 1,b,B,e=>by
  unfold Pz at e
  rw [List.getElem?_set] at e
  split at e
  ·split at e <;> cases e
  ·next hne =>
   obtain ⟨h1,h2⟩:=Nx e
   exact ⟨by omega,h2⟩
def RunDX (E:Env) (ops:Array Oper) (T:Nat) (n0 k:Nat) (rest:List Oper) (s:St) (K:St->Prop):Prop :=
 ∀ (base:Bs) (Q:Act->World->Prop) (w0:World) (Z:Nat->Prop) (R0:List RI) (h0:Hp) (a:Act) (w:World) (R:List RI),HR w0 Z R0 h0->n0=h0.length->SR E base w Z R s a->w0.grownBy w none->Step w0 Z R0 h0 w Z R s.hp->(∀ (b:Nat) (B:Option Blk),h0[b]? = some B->s.hp[b]? = some B)->(∀ j,rest[j]? = ops[k + j]?) ->
  (∀ s' a' w' Z' R',K s'->SR E base w' Z' R' s' a'->StepW w0 Z R0 h0 w' Z' R' s'.hp->Q a' w')->Fk E.P ops (fun w'=>w0.grownBy w' none) (CM ops T) T Q k rest a w
section
variable {E:Env}{cx:Cx}{ops:Array Oper}{pre rest rest':List Oper}{s s1:St}{K:St->Prop}{n n0 k T:Nat}{l:List (Nat×AV)}{hp hp':Hp}{Q:Ex->St->Prop}{id:Nat}{fid:FuncId}
theorem RunDX.done (hr:rest=[]) (kk:K s):RunDX E ops T n0 k rest s K:=by
 subst hr
 exact fun base Q w0 Z R0 h0 a w R _ _ sr hgr st _ _ q=>⟨fun _=>hgr,q s a w Z R kk sr st.w⟩
theorem UX (hT:T=k) (h:RunS E ops rest s K):RunDX E ops T n0 k rest s K:=by
 subst hT
 intro base Q w0 Z R0 h0 a w R _ _ sr hgr st _ hops q
 exact Ib (h base Q a w Z R sr fun s' a' w' Z' R' hK sr' st'=>q s' a' w' Z' R' hK sr' (st.w.trans st')) (Nat.le_refl _) (fun _=>hgr) (fun j hj=>It hj) hops
theorem IF (hE:EnvOk E):∀ {pre:List Oper}{s:St}{k:Nat},(pre.all fun o=>!isW o.op)=true->k + pre.length<=T->opsD E (evC E 0) ⟨none,false⟩ ops n0 pre s=some s1->RunDX E ops T n0 (k + pre.length) rest s1 K->RunDX E ops T n0 k (pre++rest) s K
 | [],s,k,_,_,e,kk=>by injection e with e; subst e; exact kk
 | o::pre,s,k,hp,hT,e,kk=>by
  intro base Q w0 Z R0 h0 a w R hh0 hn0 sr hgr st hpre hops q
  simp only [List.all_cons,Bool.and_eq_true,Bool.not_eq_true'] at hp
  obtain ⟨hW,hp⟩:=hp
  have hok:ops[k]? = some o:=by have:=hops 0; simpa using this.symm
  have hops':∀ j,(pre++rest)[j]? = ops[k + 1 + j]?:=fun j=>by have:=hops (j + 1); simpa [Nat.add_assoc,Nat.add_comm 1 j] using this
  have hk1:k + 1 + pre.length=k + (o::pre).length:=by simp; omega
  have kk':RunDX E ops T n0 (k + 1 + pre.length) rest s1 K:=by rw [hk1]; exact kk
  have hT':k + 1 + pre.length<=T:=by rw [hk1]; exact hT
  have hkT:¬ T<=k:=by omega
  show Fk E.P ops _ _ _ Q k (o::(pre++rest)) a w
  refine ⟨fun _=>hgr,?_⟩
  unfold opsD at e
  rw [if_neg (by rw [hW]; simp)] at e
  split at e
  ·cases e
  ·next hw =>
   rw [if_neg (by rw [wantedA_eq sr hw]; simp)]
   exact IF hE hp hT' e kk' base Q w0 Z R0 h0 _ w R hh0 hn0 (sr.put undef_vr) hgr st hpre hops' q
  ·next hw =>
   rw [if_pos (wantedA_eq sr hw)]
   have hρ:∀ o x,opA E s.fr o=some x->VR w Z R x (a.eval o):=fun o x e=>opA_vr sr o x e
   split at e
   ·next x hx =>
    split at e
    ·next hld =>
     have hq:=LW hx
     rw [if_neg (by rw [Ia hok hq hkT]; simp)]
     obtain ⟨u,hu,hrun⟩:=evOpQ_sound sr.hh hρ hx
     have hquiet:∃ u,VR w Z R x u/\QuietAt E.P (Cf (fun w'=>w0.grownBy w' none) o) o u a:=by
      cases hl:Mu o.op with
      | false=>exact ⟨u,hu,fun w' _=>hrun w' fun h=>by rw [hl] at h; cases h⟩
      | true =>
       obtain ⟨u1,hu1,hq1⟩:=FR hh0 sr hgr st hpre hl (by rw [<-hn0]; exact hld) hx
       exact ⟨u1,hu1,hq1.up (IW hl)⟩
     obtain ⟨u,hu,hquiet⟩:=hquiet
     exact ⟨u,hquiet,IF hE hp hT' e kk' base Q w0 Z R0 h0 _ w R hh0 hn0 (sr.put hu) hgr st hpre hops' q⟩
    ·cases e
   ·split at e
    ·next x h' hx =>
     have hq:=Hq hx
     rw [if_pos (EN hok hq)]
     obtain ⟨u,w',R',h1,h2,h3,h4,h5⟩:=evOpN_sound hρ sr.hh hx
     exact I9 h1 (IF hE hp hT' e kk' base Q w0 Z R0 h0 _ w' R' hh0 hn0 ((sr.step h2 h4).put h3) (Dt hgr h5) (st.trans h4) (fun b B hb=>IU hx (hpre b B hb)) hops' q)
    ·split at e
     ·next f args tys ho =>
      split at e
      ·next fv xs hf hxs =>
       split at e
       ·next r hr =>
        obtain ⟨x,h'⟩:=r
        have hq:isQ o.op=false:=by rw [ho]; rfl
        rw [if_pos (EN hok hq)]
        obtain ⟨g,uf,uc,hva,hcl,hret⟩:=EW hE (code_sound hE 0).1 (hρ _ _ hf) (opds_vr hρ hxs) sr.hh sr.gl hr
        unfold Lw
        rw [EI (uf:=uf) (uc:=uc) ho hva rfl hcl w]
        refine Ret.mono hret fun v w' hS=>?_
        obtain ⟨hg1,R',k1,k2,k3⟩:=hS
        exact IF hE hp hT' e kk' base Q w0 Z R0 h0 _ w' R' hh0 hn0 ((sr.step k1 k3).put k2) (Dt hgr hg1) (st.trans k3) (fun b B hb=>IK hr (hpre b B hb)) hops' q
       ·cases e
      ·cases e
     ·cases e
theorem RunDX.one (hE:EnvOk E){s s1:St}{o:Oper}(hr:rest=o::rest') (hW:(!isW o.op&&Nat.blt k T)=true) (h:opsD E (evC E 0) ⟨none,false⟩ ops n0 [o] s=some s1) (kk:RunDX E ops T n0 (k + 1) rest' s1 K):RunDX E ops T n0 k rest s K:=by
 subst hr
 rw [Bool.and_eq_true] at hW
 exact IF (k:=k) hE (pre:=[o]) (by simpa using hW.1) (by have:=Nat.le_of_ble_eq_true hW.2; simpa using this) h kk
/-- An append to a block that was made in this region. -/
theorem RunDX.append (_hE:EnvOk E){o:Oper}{x:AV}{d:Nat}{hM:Hp}(hr:rest=o::rest') (hw:A5 ops (Fr n l) o=some true) (hd:o.dst=some d) (hq:isQ o.op=false) (h:Jl E.P (opA E (Fr n l)) hp o.op=some (x,hp')) (hm:Jl E.P (opA E (Fr n l)) (Pz n0 hp) o.op=some (x,hM)) (hpr:hp'.take n0=hp.take n0) (kk:RunDX E ops T n0 (k + 1) rest' ⟨Fr n ((d,x)::l),hp'⟩ K):RunDX E ops T n0 k rest ⟨Fr n l,hp⟩ K:=by
 subst hr
 intro base Q w0 Z R0 h0 a w R hh0 hn0 sr hgr st hpre hops q
 have hok':ops[k]? = some o:=by have:=hops 0; simpa using this.symm
 have hops':∀ j,rest'[j]? = ops[k + 1 + j]?:=fun j=>by have:=hops (j + 1); simpa [Nat.add_assoc,Nat.add_comm 1 j] using this
 refine ⟨fun _=>hgr,?_⟩
 rw [if_pos (wantedA_eq sr hw),if_pos (EN hok' hq)]
 have hρ:∀ o x,opA E (Fr n l) o=some x->VR w Z R x (a.eval o):=fun o x e=>opA_vr sr o x e
 obtain ⟨u,w',R',h1,h2,h3,h4⟩:=evOpW_sound (o:=o) hρ sr.hh h
 obtain ⟨u2,w2,R2,g1,g2,g3,g4⟩:=evOpW_sound (o:=o) hρ (PU sr.hh n0) hm
 rw [h1] at g1
 injection g1 with _ e2
 subst e2
 -- the blocks of before stay
 have hown:∀ c,own R (Pz n0 hp) c->w0.heap.size<=c:=fun c ⟨b,B,r,k1,k2,k3,k4⟩=>by
  obtain ⟨hb,k1⟩:=Nx k1
  rcases st.own_ c ⟨b,B,r,k1,k2,k3,k4⟩ with ⟨b0,B0,r0,q1,q2,q3,q4⟩ | h
  ·have hlt:b0 < h0.length:=(List.getElem?_eq_some_iff.1 q1).1
   have:=sr.hh.inj b b0 B B0 r r0 k1 k2 (hpre b0 _ q1) q2 k3 (st.r b0 r0 q3) (by rw [k4,q4])
   omega
  ·exact h
 have hgr2:w0.grownBy w' none:=⟨g4.os.trans hgr.os,g4.tape.trans hgr.tape,g4.output.trans hgr.output,Nat.le_trans hgr.size g4.size,fun c hc _=>by
  rw [g4.block c (Nat.lt_of_lt_of_le hc hgr.size) fun ho=>by have:=hown c ho; omega]
  exact hgr.block c hc (by simp)⟩
 refine I9 h1 ?_
 have sr':=(sr.step h2 h4).put (d:=o.dst) h3
 rw [hd,show I1 (⟨Fr n l,hp⟩:St).fr (some d) x=Fr n ((d,x)::l) from CF n l d _] at sr'
 rw [hd]
 exact kk base Q w0 Z R0 h0 _ w' R' hh0 hn0 sr' hgr2 (st.trans h4) (fun b B hb=>by
  have hlt:b < n0:=by rw [hn0]; exact (List.getElem?_eq_some_iff.1 hb).1
  have e:=congrArg (fun l=>l[b]?) hpr
  simp only [List.getElem?_take,hlt,if_true] at e
  show hp'[b]? = _
  rw [e]; exact hpre b B hb) hops' q
end
section
variable {P:Program}{ops:Array Oper}{C:World->Prop}{Q:Act->World->Prop}{loud:Nat->Bool}{T:Nat}
/-- What a quiet operation yields may come ahead of a loud one. -/
theorem Q0 {n i j fuel:Nat}{oi oj:Oper}{v:Value}{listed:Array Bool}{a:Act}{w:World}(ht:I3 ops loud T n) (hi:ops[i]? = some oi) (hoj:ops[j]? = some oj) (hsel:∀ (j:Nat) (o:Oper) cs b,ops[j]? = some o->o.op≠ .select cs b) (hcl:Closed ops listed) (hsz:listed.size=ops.size)
  (ap1:∀ d,oi.dst=some d->d ∉ oj.looksAt ops) (ap2:∀ d,oi.dst=some d->oj.dst≠some d) (ap3:∀ d,oj.dst=some d->d ∉ oi.looksAt ops) (hr:i ∈ Region.ready .any ops listed) (hj:j ∈ Region.ready .any ops listed) (hji:j≠i) (hlj:loud j=false) (hya:YieldsM P ops C oj v a)
  (H:mOp P ops C loud i (wpM P ops C loud T Q (fuel + 1) (listed.setIfInBounds i true)) a w):mOp P ops C loud i (wpM P ops C loud T Q fuel ((listed.setIfInBounds j true).setIfInBounds i true)) (a.put oj.dst v) w:=by
 have ap2':∀ d,oj.dst=some d->oi.dst≠some d:=fun d hd hd'=>ap2 d hd' hd
 rw [Oi hi ap3 ap2' (fun cs b=>hsel i oi cs b hi)]
 have hG:∀ u,YieldsM P ops C oj v (a.put oi.dst u):=fun u=>hya.same (execOp_put oj (fun cs b=>hsel j oj cs b hoj) a oi.dst u ap1) (wanted_put oj a oi.dst u ap1)
 have hr2:=ready_mono (md:= .any) (ops:=ops) hj hji
 refine Ht (fun a' w'' h2=>?_) (Oh hi hG H)
 obtain ⟨v',hy',h3⟩:=DK hoj hlj (h2.2.2.2 j hr2)
 rw [I4 (Tp ht (hcl.set hr) (by simpa using hsz) hoj hlj (mem_ready.1 hr2).1 h2.2.c) h2.1 hy',Array.setIfInBounds_comm _ _ hji]
 exact h3
/-- As wpM_lex, from an operation on behind which the loud ones stand in one order. -/
theorem NR (hs:Region.noSelect ops=true){n k0:Nat}(hsp:∀ k j,k0<=k->k < ops.size->j < ops.size->loud k=true->loud j=true->k < j->Ha ops n j k=true) (htl:I3 ops loud T n) (hTl:T < ops.size->loud T=true):∀ (l:List Oper) (k:Nat) (listed:Array Bool) (a:Act) (w:World),k0<=k->k + l.length=ops.size->(∀ j,l[j]? = ops[k + j]?) ->
  Region.lexFrom .any ops l.length k listed=true->Closed ops listed->listed.size=ops.size->(∀ j,j < k->listed.getD j true=true)->Fk P ops C loud T Q k l a w->wpM P ops C loud T Q l.length listed a w
 | [],k,listed,a,w,_,hkl,_,hB,_,_,hlt,h=>by
  refine ⟨fun hn=>h.1 ?_,by simpa [Region.lexFrom] using hB,h.2⟩
  rcases Nat.lt_or_ge T k with h1 | h1
  ·exfalso
   have hTs:T < ops.size:=by simp at hkl; omega
   have h2:=hn T (Nat.le_refl _) hTs (hTl hTs)
   rw [hlt T h1] at h2
   cases h2
  ·exact h1
 | o::l,k,listed,a,w,hk0,hkl,hl,hB,hcl,hsz,hlt,h=>by
  have h0:ops[k]? = some o:=by simpa using (hl 0).symm
  have hk:k < ops.size:=(Array.getElem?_eq_some_iff.1 h0).1
  simp only [List.length_cons,Region.lexFrom,Bool.and_eq_true] at hB
  obtain ⟨⟨hr,hf⟩,hB'⟩:=hB
  have hr':k ∈ Region.ready .any ops listed:=by simpa using hr
  have rec_:∀ a w,Fk P ops C loud T Q (k + 1) l a w->wpM P ops C loud T Q l.length (listed.setIfInBounds k true) a w:=fun a w hh =>
   NR hs hsp htl hTl l (k + 1) _ a w (by omega) (by simp at hkl; omega) (fun j=>by have:=hl (j + 1); simpa [Nat.add_assoc,Nat.add_comm 1 j] using this) hB' (hcl.set hr') (by simpa using hsz) (fun j hj=>by
    by_cases hjk:k=j
    ·subst hjk
     have hlt':k < listed.size:=by omega
     simp [hlt']
    ·rw [getD_set_ne true hjk]; exact hlt j (by omega)) hh
  obtain ⟨hC,hh⟩:=h
  have hle:O2 ops loud T listed->k<=T:=fun hn=>by
   rcases Nat.lt_or_ge T k with h1 | h1
   ·exfalso
    have h2:=hn T (Nat.le_refl _) (by omega) (hTl (by omega))
    rw [hlt T h1] at h2
    cases h2
   ·exact h1
  have hst:mOp P ops C loud k (Fk P ops C loud T Q (k + 1) l) a w:=by
   unfold mOp
   rw [h0]
   exact hh
  cases hlk:loud k with
  | false =>
   obtain ⟨v,hy,hK⟩:=DK h0 hlk hst
   exact Hb h0 hlk (Region.noSelect_spec hs) l.length listed a w (fun hn=>hC (hle hn)) hcl hsz (Region.free_spec h0 hf) hr' hy (rec_ _ _ hK)
  | true =>
   refine Pn (n:=n) htl h0 (Region.noSelect_spec hs) l.length listed a w (fun j hj hjk hlj hun=>?_) hcl hsz (fun hn=>hC (hle hn)) (Region.free_spec h0 hf) hr' (Ht rec_ hst)
   ·have hkj:k < j:=by
     rcases Nat.lt_trichotomy k j with h1 | h1 | h1
     ·exact h1
     ·exact absurd h1.symm hjk
     ·rw [hlt j h1] at hun; cases hun
    exact hsp k j hk0 hk hj hlk hlj hkj
/-- The walk, of which p and the operation behind it are taken in both orders. -/
def Vu (P:Program) (ops:Array Oper) (C:World->Prop) (loud:Nat->Bool) (T:Nat) (Q:Act->World->Prop) (p:Nat) (rest:List Oper) (a:Act) (w:World):Prop :=
 C w/\mOp P ops C loud p (fun a w=>C w/\mOp P ops C loud (p + 1) (Fk P ops C loud T Q (p + 2) rest) a w) a w/\mOp P ops C loud (p + 1) (fun a w=>C w/\mOp P ops C loud p (Fk P ops C loud T Q (p + 2) rest) a w) a w
def OE (P:Program) (ops:Array Oper) (C:World->Prop) (loud:Nat->Bool) (T:Nat) (Q:Act->World->Prop) (p:Nat):Nat->List Oper->Act->World->Prop
 | _,[],_,_=>False
 | k,_::rest,a,w=>if k=p then Vu P ops C loud T Q p (rest.drop 1) a w else (k<=T->C w)/\mOp P ops C loud k (OE P ops C loud T Q p (k + 1) rest) a w
end
/-- One operation of such a region, whatever stands behind it. -/
def Op1 (E:Env) (ops:Array Oper) (T n0 k:Nat) (o:Oper) (s:St) (Ks:St->Prop):Prop :=
 ∀ (base:Bs) (K:Act->World->Prop) (w0:World) (Z:Nat->Prop) (R0:List RI) (h0:Hp) (a:Act) (w:World) (R:List RI),HR w0 Z R0 h0->n0=h0.length->SR E base w Z R s a->w0.grownBy w none->Step w0 Z R0 h0 w Z R s.hp->(∀ (b:Nat) (B:Option Blk),h0[b]? = some B->s.hp[b]? = some B)->ops[k]? = some o ->
  (∀ s' a' w' R',Ks s'->SR E base w' Z R' s' a'->w0.grownBy w' none->Step w0 Z R0 h0 w' Z R' s'.hp->(∀ (b:Nat) (B:Option Blk),h0[b]? = some B->s'.hp[b]? = some B)->K a' w')->mOp E.P ops (fun w'=>w0.grownBy w' none) (CM ops T) k K a w
def RunDP (E:Env) (ops:Array Oper) (T p n0 k:Nat) (rest:List Oper) (s:St) (K:St->Prop):Prop :=
 ∀ (base:Bs) (Q:Act->World->Prop) (w0:World) (Z:Nat->Prop) (R0:List RI) (h0:Hp) (a:Act) (w:World) (R:List RI),HR w0 Z R0 h0->n0=h0.length->SR E base w Z R s a->w0.grownBy w none->Step w0 Z R0 h0 w Z R s.hp->(∀ (b:Nat) (B:Option Blk),h0[b]? = some B->s.hp[b]? = some B)->(∀ j,rest[j]? = ops[k + j]?) ->
  (∀ s' a' w' Z' R',K s'->SR E base w' Z' R' s' a'->StepW w0 Z R0 h0 w' Z' R' s'.hp->Q a' w')->OE E.P ops (fun w'=>w0.grownBy w' none) (CM ops T) T Q p k rest a w
section
variable {E:Env}{cx:Cx}{ops:Array Oper}{pre rest rest':List Oper}{s s1:St}{K Ks:St->Prop}{n n0 k T p:Nat}{l:List (Nat×AV)}{hp hp':Hp}{Q:Ex->St->Prop}{id:Nat}{fid:FuncId}{o:Oper}
theorem RB (hW:isW o.op=false) (e:opsD E (evC E 0) ⟨none,false⟩ ops n0 (o::pre) s=some s1):∃ s2,opsD E (evC E 0) ⟨none,false⟩ ops n0 [o] s=some s2/\opsD E (evC E 0) ⟨none,false⟩ ops n0 pre s2=some s1:=by
 have hW':¬ isW o.op=true:=by rw [hW]; simp
 unfold opsD at e
 rw [if_neg hW'] at e
 split at e
 ·cases e
 ·next hw=>exact ⟨_,by unfold opsD; rw [if_neg hW']; simp only [hw]; rfl,e⟩
 ·next hw =>
  split at e
  ·next x hx =>
   split at e
   ·next hld=>exact ⟨_,by unfold opsD; rw [if_neg hW']; simp only [hw,hx,hld,if_true]; rfl,e⟩
   ·cases e
  ·next hx =>
   split at e
   ·next x h' hn=>exact ⟨_,by unfold opsD; rw [if_neg hW']; simp only [hw,hx,hn]; rfl,e⟩
   ·next hn =>
    split at e
    ·next f args tys ho =>
     split at e
     ·next fv xs hf hxs =>
      split at e
      ·next r hr=>exact ⟨_,by unfold opsD; rw [if_neg hW']; simp only [hw,hx,hn,ho,hf,hxs,hr]; rfl,e⟩
      ·cases e
     ·cases e
    ·cases e
theorem Tg (hE:EnvOk E) (hW:isW o.op=false) (hk:k < T) (e:opsD E (evC E 0) ⟨none,false⟩ ops n0 [o] s=some s1) (kk:Ks s1):Op1 E ops T n0 k o s Ks:=by
 intro base K w0 Z R0 h0 a w R hh0 hn0 sr hgr st hpre hok q
 have hkT:¬ T<=k:=by omega
 unfold mOp
 rw [hok]
 dsimp only
 unfold opsD at e
 rw [if_neg (by rw [hW]; simp)] at e
 split at e
 ·cases e
 ·next hw =>
  rw [if_neg (by rw [wantedA_eq sr hw]; simp)]
  injection e with e
  subst e
  exact q _ _ w R kk (sr.put undef_vr) hgr st hpre
 ·next hw =>
  rw [if_pos (wantedA_eq sr hw)]
  have hρ:∀ o x,opA E s.fr o=some x->VR w Z R x (a.eval o):=fun o x e=>opA_vr sr o x e
  split at e
  ·next x hx =>
   split at e
   ·next hld =>
    injection e with e
    subst e
    have hq:=LW hx
    rw [if_neg (by rw [Ia hok hq hkT]; simp)]
    obtain ⟨u,hu,hrun⟩:=evOpQ_sound sr.hh hρ hx
    have hquiet:∃ u,VR w Z R x u/\QuietAt E.P (Cf (fun w'=>w0.grownBy w' none) o) o u a:=by
     cases hl:Mu o.op with
     | false=>exact ⟨u,hu,fun w' _=>hrun w' fun h=>by rw [hl] at h; cases h⟩
     | true =>
      obtain ⟨u1,hu1,hq1⟩:=FR hh0 sr hgr st hpre hl (by rw [<-hn0]; exact hld) hx
      exact ⟨u1,hu1,hq1.up (IW hl)⟩
    obtain ⟨u,hu,hquiet⟩:=hquiet
    exact ⟨u,hquiet,q _ _ w R kk (sr.put hu) hgr st hpre⟩
   ·cases e
  ·split at e
   ·next x h' hx =>
    injection e with e
    subst e
    have hq:=Hq hx
    rw [if_pos (EN hok hq)]
    obtain ⟨u,w',R',h1,h2,h3,h4,h5⟩:=evOpN_sound hρ sr.hh hx
    exact I9 h1 (q _ _ w' R' kk ((sr.step h2 h4).put h3) (Dt hgr h5) (st.trans h4) fun b B hb=>IU hx (hpre b B hb))
   ·split at e
    ·next f args tys ho =>
     split at e
     ·next fv xs hf hxs =>
      split at e
      ·next r hr =>
       injection e with e
       subst e
       obtain ⟨x,h'⟩:=r
       have hq:isQ o.op=false:=by rw [ho]; rfl
       rw [if_pos (EN hok hq)]
       obtain ⟨g,uf,uc,hva,hcl,hret⟩:=EW hE (code_sound hE 0).1 (hρ _ _ hf) (opds_vr hρ hxs) sr.hh sr.gl hr
       unfold Lw
       rw [EI (uf:=uf) (uc:=uc) ho hva rfl hcl w]
       refine Ret.mono hret fun v w' hS=>?_
       obtain ⟨hg1,R',k1,k2,k3⟩:=hS
       exact q _ _ w' R' kk ((sr.step k1 k3).put k2) (Dt hgr hg1) (st.trans k3) fun b B hb=>IK hr (hpre b B hb)
      ·cases e
     ·cases e
    ·cases e
theorem WK (hE:EnvOk E){s:St}(l:List (Nat×AV)) (hp:Hp) (hW:(!isW o.op&&Nat.blt k T)=true) (h:Pd (opsD E (evC E 0) ⟨none,false⟩ ops n0 [o] s) l=some (n,xs2 l,hp)) (kk:Ks ⟨Fr n l,hp⟩):Op1 E ops T n0 k o s Ks:=by
 obtain ⟨fr,h1,h2,h3⟩:=Js h
 simp only [Bool.and_eq_true,Bool.not_eq_true'] at hW
 intro base K w0 Z R0 h0 a w R hh0 hn0 sr hgr st hpre hok q
 exact Tg (Ks:=fun s=>s=⟨fr,hp⟩) hE hW.1 (Nat.le_of_ble_eq_true hW.2) h1 rfl base K w0 Z R0 h0 a w R hh0 hn0 sr hgr st hpre hok fun s' a' w' R' hs sr' hg' st' hp'=>by
  subst hs
  exact q _ a' w' R' kk (sr'.forget h2 h3) hg' st' hp'
theorem Op1.one (hE:EnvOk E) (hW:(!isW o.op&&Nat.blt k T)=true) (h:opsD E (evC E 0) ⟨none,false⟩ ops n0 [o] s=some s1) (kk:Ks s1):Op1 E ops T n0 k o s Ks:=by
 simp only [Bool.and_eq_true,Bool.not_eq_true'] at hW
 exact Tg hE hW.1 (Nat.le_of_ble_eq_true hW.2) h kk
/-- The walk up to the two. -/
theorem Na (hE:EnvOk E):∀ {pre:List Oper}{s:St}{k:Nat},(pre.all fun o=>!isW o.op)=true->k + pre.length<=p->p + 2<=T->opsD E (evC E 0) ⟨none,false⟩ ops n0 pre s=some s1->RunDP E ops T p n0 (k + pre.length) rest s1 K->RunDP E ops T p n0 k (pre++rest) s K
 | [],s,k,_,_,_,e,kk=>by injection e with e; subst e; exact kk
 | o::pre,s,k,hp,hT,hpT,e,kk=>by
  intro base Q w0 Z R0 h0 a w R hh0 hn0 sr hgr st hpre hops q
  simp only [List.all_cons,Bool.and_eq_true,Bool.not_eq_true'] at hp
  obtain ⟨hW,hp⟩:=hp
  obtain ⟨s2,e1,e2⟩:=RB hW e
  have hok:ops[k]? = some o:=by have:=hops 0; simpa using this.symm
  have hops':∀ j,(pre++rest)[j]? = ops[k + 1 + j]?:=fun j=>by have:=hops (j + 1); simpa [Nat.add_assoc,Nat.add_comm 1 j] using this
  have hk1:k + 1 + pre.length=k + (o::pre).length:=by simp; omega
  have kk':RunDP E ops T p n0 (k + 1 + pre.length) rest s1 K:=by rw [hk1]; exact kk
  simp only [List.length_cons] at hT
  show OE E.P ops _ _ _ Q p k (o::(pre++rest)) a w
  unfold OE
  rw [if_neg (by omega)]
  refine ⟨fun _=>hgr,?_⟩
  refine Tg (Ks:=fun s=>s=s2) hE hW (by omega) e1 rfl base _ w0 Z R0 h0 a w R hh0 hn0 sr hgr st hpre hok fun s' a' w' R' hs sr' hg' st' hp'=>?_
  subst hs
  exact Na hE hp (by omega) hpT e2 kk' base Q w0 Z R0 h0 a' w' R' hh0 hn0 sr' hg' st' hp' hops' q
theorem RunDP.one (hE:EnvOk E) (hr:rest=o::rest') (hW:(!isW o.op&&Nat.blt k p&&Nat.ble (p + 2) T)=true) (h:opsD E (evC E 0) ⟨none,false⟩ ops n0 [o] s=some s1) (kk:RunDP E ops T p n0 (k + 1) rest' s1 K):RunDP E ops T p n0 k rest s K:=by
 subst hr
 simp only [Bool.and_eq_true] at hW
 exact Na (k:=k) hE (pre:=[o]) (by simpa using hW.1.1) (by have:=Nat.le_of_ble_eq_true hW.1.2; simpa using this) (Nat.le_of_ble_eq_true hW.2) h kk
/-- The two, in both orders. -/
theorem RunDP.two {o1 o2:Oper}(hr:rest=o1::o2::rest') (hA:Op1 E ops T n0 p o1 s fun s1=>Op1 E ops T n0 (p + 1) o2 s1 fun s2=>RunDX E ops T n0 (p + 2) rest' s2 K) (hB:Op1 E ops T n0 (p + 1) o2 s fun s1=>Op1 E ops T n0 p o1 s1 fun s2=>RunDX E ops T n0 (p + 2) rest' s2 K):RunDP E ops T p n0 p rest s K:=by
 subst hr
 intro base Q w0 Z R0 h0 a w R hh0 hn0 sr hgr st hpre hops q
 have hk1:ops[p]? = some o1:=by have:=hops 0; simpa using this.symm
 have hk2:ops[p + 1]? = some o2:=by have:=hops 1; simpa using this.symm
 have hops':∀ j,rest'[j]? = ops[p + 2 + j]?:=fun j=>by have:=hops (j + 2); rw [show p + 2 + j=p + (j + 2) by omega]; simpa using this
 unfold OE
 rw [if_pos rfl]
 refine ⟨hgr,?_,?_⟩
 ·refine hA base _ w0 Z R0 h0 a w R hh0 hn0 sr hgr st hpre hk1 fun s1 a1 w1 R1 h1 sr1 hg1 st1 hp1=>⟨hg1,?_⟩
  exact h1 base _ w0 Z R0 h0 a1 w1 R1 hh0 hn0 sr1 hg1 st1 hp1 hk2 fun s2 a2 w2 R2 h2 sr2 hg2 st2 hp2=>h2 base Q w0 Z R0 h0 a2 w2 R2 hh0 hn0 sr2 hg2 st2 hp2 hops' q
 ·refine hB base _ w0 Z R0 h0 a w R hh0 hn0 sr hgr st hpre hk2 fun s1 a1 w1 R1 h1 sr1 hg1 st1 hp1=>⟨hg1,?_⟩
  exact h1 base _ w0 Z R0 h0 a1 w1 R1 hh0 hn0 sr1 hg1 st1 hp1 hk1 fun s2 a2 w2 R2 h2 sr2 hg2 st2 hp2=>h2 base Q w0 Z R0 h0 a2 w2 R2 hh0 hn0 sr2 hg2 st2 hp2 hops' q
end
section
variable {P:Program}{ops:Array Oper}{C:World->Prop}{Q:Act->World->Prop}{loud:Nat->Bool}{T:Nat}
/-- Loud operations that may come up now: one of them is the first loud one, if every other stands behind one of them. -/
theorem J1 {n:Nat}(L:List Nat) (hL:L≠[]) (ht:I3 ops loud T n) (hin:∀ i ∈ L,∃ o,ops[i]? = some o) (hsel:∀ (j:Nat) (o:Oper) cs b,ops[j]? = some o->o.op≠ .select cs b) :
  ∀ (fuel:Nat) (listed:Array Bool) (a:Act) (w:World),(∀ j,j < ops.size->j ∉ L->loud j=true->listed.getD j true=false->∃ i ∈ L,Ha ops n j i=true)->Closed ops listed->listed.size=ops.size->(O2 ops loud T listed->C w) ->
   (∀ i ∈ L,∀ oi,ops[i]? = some oi->∀ j oj,ops[j]? = some oj->j≠i->listed.getD j true=false->(∀ e ∈ oj.after,Region.binds .any e=true->e.on≠i)->oi.apart ops oj=true) ->
   (∀ i ∈ L,i ∈ Region.ready .any ops listed) ->
   (∀ i ∈ L,mOp P ops C loud i (wpM P ops C loud T Q fuel (listed.setIfInBounds i true)) a w)->wpM P ops C loud T Q (fuel + 1) listed a w:=by
 intro fuel
 obtain ⟨i0,hi0⟩:=List.exists_mem_of_ne_nil L hL
 obtain ⟨o0,ho0⟩:=hin i0 hi0
 induction fuel with
 | zero =>
  intro listed a w _ _ _ hC _ hr H
  refine ⟨hC,fun h=>(by have:=hr i0 hi0; rw [h] at this; cases this),fun j hj=>?_⟩
  by_cases hji:j ∈ L
  ·exact H j hji
  ·obtain ⟨u,w',h1⟩:=Jp ho0 (H i0 hi0)
   have:=ready_mono hj (fun e=>hji (e ▸ hi0))
   rw [h1.2.1] at this
   cases this
 | succ fuel ih =>
  intro listed a w hT hcl hsz hC hfree hr H
  refine ⟨hC,fun h=>(by have:=hr i0 hi0; rw [h] at this; cases this),fun j hj=>?_⟩
  by_cases hji:j ∈ L
  ·exact H j hji
  obtain ⟨hjun,oj,hoj,hall⟩:=mem_ready.1 hj
  have hnl:∀ i ∈ L,¬ listed.getD i false=true:=fun i hi h1=>by
   obtain ⟨ox,hx⟩:=hin i hi
   have hun:=(mem_ready.1 (hr i hi)).1
   have hlt:i < ops.size:=(Array.getElem?_eq_some_iff.1 hx).1
   have h':i < listed.size:=by omega
   simp [h'] at hun h1; rw [hun] at h1; cases h1
  have hne:∀ i ∈ L,j≠i:=fun i hi e=>hji (e ▸ hi)
  have hnot:∀ i ∈ L,∀ e ∈ oj.after,Region.binds .any e=true->e.on≠i:=fun i hi e he hb heq=>hnl i hi (by rw [<-heq]; exact hall e he hb)
  have hjlt:j < ops.size:=(Array.getElem?_eq_some_iff.1 hoj).1
  have hlj:loud j=false:=by
   cases hlj:loud j with
   | false=>rfl
   | true =>
    obtain ⟨i,hi,hw⟩:=hT j hjlt hji hlj hjun
    exact absurd (H0 hcl n j i hw fun o ho e he hb=>by rw [hoj] at ho; injection ho with ho; subst ho; exact hall e he hb) (hnl i hi)
  have ap:∀ i ∈ L,∀ oi,ops[i]? = some oi->oi.apart ops oj=true:=fun i hi oi hoi=>hfree i hi oi hoi j oj hoj (hne i hi) hjun (hnot i hi)
  have hun':∀ k,(listed.setIfInBounds j true).getD k true=false->listed.getD k true=false:=fun k hun=>by
   by_cases hjk:j=k
   ·subst hjk; exact hjun
   ·rw [getD_set_ne true hjk] at hun; exact hun
  have hCw:O2 ops loud T (listed.setIfInBounds j true)->C w:=fun hn=>hC fun k hTk hk hlk=>hun' k (hn k hTk hk hlk)
  obtain ⟨ap1,ap2,ap3⟩:=Oper.apart_spec (ap i0 hi0 o0 ho0)
  obtain ⟨u,w',h1⟩:=Jp ho0 (H i0 hi0)
  obtain ⟨v,hy,_⟩:=DK hoj hlj (h1.2.2 j (ready_mono hj (hne i0 hi0)))
  have hya:YieldsM P ops C oj v a:=hy.same (execOp_put oj (fun cs b=>hsel j oj cs b hoj) _ o0.dst u ap1).symm (wanted_put oj _ o0.dst u ap1).symm
  refine hya.mOp hoj hlj ?_
  exact ih (listed.setIfInBounds j true) (a.put oj.dst v) w (fun k hk h1 h2 h3=>hT k hk h1 h2 (hun' k h3)) (hcl.set hj) (by simpa using hsz) hCw (fun i hi oi hoi k ok hk h1 h2 h3=>hfree i hi oi hoi k ok hk h1 (hun' k h2) h3) (fun i hi=>ready_mono (hr i hi) (Ne.symm (hne i hi)))
   (fun i hi=>by
    obtain ⟨oi,hoi⟩:=hin i hi
    obtain ⟨bp1,bp2,bp3⟩:=Oper.apart_spec (ap i hi oi hoi)
    exact Q0 ht hoi hoj hsel hcl hsz bp1 bp2 bp3 (hr i hi) hj (hne i hi) hlj hya (H i hi))
/-- What holds of the region throughout. -/
structure MOk (ops:Array Oper) (T:Nat):Prop where
 ns:Region.noSelect ops=true
 tl:I3 ops (CM ops T) T ops.size
 tT:T < ops.size->CM ops T T=true
/-- What is checked of an operation that may come up now. -/
def HX (ops:Array Oper) (m:List Bool) (i:Nat):Bool:=(Region.ready .any ops m.toArray).contains i&&Region.free .any ops m.toArray i
def IB (ops:Array Oper) (T:Nat) (m:List Bool) (L:List Nat):Bool :=
 (L.all fun i=>HX ops m i)&&(List.range ops.size).all fun j=>L.contains j||!CM ops T j||m.toArray.getD j true||L.any fun i=>Ha ops ops.size j i
def Ph (ops:Array Oper) (T p f:Nat) (m:List Bool):Bool :=
 Nat.beq (p + f) ops.size&&Region.lexFrom .any ops f p m.toArray&&((List.range p).all fun j=>m.toArray.getD j true)&&(List.range ops.size).all fun k=>!(Nat.ble p k&&CM ops T k)||(List.range ops.size).all fun j=>!(Nat.blt k j&&CM ops T j)||Ha ops ops.size j k
end
def RunM (E:Env) (ops:Array Oper) (T n0 f:Nat) (m:List Bool) (s:St) (K:St->Prop):Prop :=
 ∀ (base:Bs) (Q:Act->World->Prop) (w0:World) (Z:Nat->Prop) (R0:List RI) (h0:Hp) (a:Act) (w:World) (R:List RI),MOk ops T->Closed ops m.toArray->m.length=ops.size->HR w0 Z R0 h0->n0=h0.length->SR E base w Z R s a->w0.grownBy w none->Step w0 Z R0 h0 w Z R s.hp->(∀ (b:Nat) (B:Option Blk),h0[b]? = some B->s.hp[b]? = some B) ->
  (∀ s' a' w' Z' R',K s'->SR E base w' Z' R' s' a'->StepW w0 Z R0 h0 w' Z' R' s'.hp->Q a' w')->wpM E.P ops (fun w'=>w0.grownBy w' none) (CM ops T) T Q f m.toArray a w
section
variable {E:Env}{cx:Cx}{ops:Array Oper}{s s1:St}{K:St->Prop}{n0 f T i j k:Nat}{m:List Bool}{Q:Ex->St->Prop}{id:Nat}{o o2 o3:Oper}
theorem DY (m:List Bool) (i:Nat):m.toArray.setIfInBounds i true=(m.set i true).toArray:=by simp
/-- An operation that is quiet. -/
theorem RunM.q (i:Nat) (hq:(HX ops m i&&!CM ops T i)=true) (ho:ops[i]? = some o) (h:Op1 E ops T n0 i o s fun s'=>RunM E ops T n0 f (m.set i true) s' K):RunM E ops T n0 (f + 1) m s K:=by
 intro base Q w0 Z R0 h0 a w R hM hcl hsz hh0 hn0 sr hgr st hpre q
 unfold HX at hq
 simp only [Bool.and_eq_true,Bool.not_eq_true'] at hq
 obtain ⟨⟨hr,hf⟩,hl⟩:=hq
 have hr':i ∈ Region.ready .any ops m.toArray:=by simpa using hr
 have hst:=h base (fun a w=>wpM E.P ops (fun w'=>w0.grownBy w' none) (CM ops T) T Q f (m.set i true).toArray a w) w0 Z R0 h0 a w R hh0 hn0 sr hgr st hpre ho fun s' a' w' R' hk sr' hg' st' hp' =>
  hk base Q w0 Z R0 h0 a' w' R' hM (by rw [<-DY]; exact hcl.set hr') (by simpa using hsz) hh0 hn0 sr' hg' st' hp' q
 obtain ⟨v,hy,hK⟩:=DK ho hl hst
 refine Hb ho hl (Region.noSelect_spec hM.ns) f m.toArray a w (fun _=>hgr) hcl (by simpa using hsz) (Region.free_spec ho hf) hr' hy ?_
 rw [DY]
 exact hK
/-- The loud ones that may come up now: each of them. -/
theorem RunM.loud (L:List Nat) (hne:L≠[]) (hl:IB ops T m L=true) (h:∀ i ∈ L,∃ o,ops[i]? = some o/\Op1 E ops T n0 i o s fun s'=>RunM E ops T n0 f (m.set i true) s' K):RunM E ops T n0 (f + 1) m s K:=by
 intro base Q w0 Z R0 h0 a w R hM hcl hsz hh0 hn0 sr hgr st hpre q
 unfold IB at hl
 simp only [Bool.and_eq_true] at hl
 obtain ⟨h1,h2⟩:=hl
 have hr:∀ i ∈ L,i ∈ Region.ready .any ops m.toArray/\Region.free .any ops m.toArray i=true:=fun i hi=>by
  have:=List.all_eq_true.1 h1 i hi
  unfold HX at this
  simp only [Bool.and_eq_true] at this
  exact ⟨by simpa using this.1,this.2⟩
 refine J1 (n:=ops.size) L hne hM.tl (fun i hi=>⟨_,(h i hi).choose_spec.1⟩) (Region.noSelect_spec hM.ns) f m.toArray a w (fun j hj hjL hlj hun=>?_) hcl (by simpa using hsz) (fun _=>hgr) (fun i hi oi hoi=>Region.free_spec hoi (hr i hi).2) (fun i hi=>(hr i hi).1) fun i hi=>?_
 ·have:=List.all_eq_true.1 h2 j (by simpa using hj)
  simp only [Bool.or_eq_true,Bool.not_eq_true',List.any_eq_true] at this
  rcases this with ((h3 | h3) | h3) | h3
  ·exact absurd (by simpa using h3) hjL
  ·rw [hlj] at h3; cases h3
  ·rw [hun] at h3; cases h3
  ·exact h3
 ·obtain ⟨o,ho,hop⟩:=h i hi
  rw [DY]
  exact hop base (fun a w=>wpM E.P ops (fun w'=>w0.grownBy w' none) (CM ops T) T Q f (m.set i true).toArray a w) w0 Z R0 h0 a w R hh0 hn0 sr hgr st hpre ho fun s' a' w' R' hk sr' hg' st' hp' =>
   hk base Q w0 Z R0 h0 a' w' R' hM (by rw [<-DY]; exact hcl.set (hr i hi).1) (by simpa using hsz) hh0 hn0 sr' hg' st' hp' q
/-- What is left stands in one order. -/
theorem Ut (p:Nat) (hp:Ph ops T p f m=true) (h:RunDX E ops T n0 p (ops.toList.drop p) s K):RunM E ops T n0 f m s K:=by
 intro base Q w0 Z R0 h0 a w R hM hcl hsz hh0 hn0 sr hgr st hpre q
 unfold Ph at hp
 simp only [Bool.and_eq_true] at hp
 obtain ⟨⟨⟨h1,h2⟩,h3⟩,h4⟩:=hp
 have h1:=Nat.eq_of_beq_eq_true h1
 have hlen:(ops.toList.drop p).length=f:=by simp; omega
 have hops:∀ j,(ops.toList.drop p)[j]? = ops[p + j]?:=fun j=>by simp
 have:=NR hM.ns (n:=ops.size) (k0:=p) (fun k j hk hks hj hlk hlj hkj=>?_) hM.tl hM.tT (ops.toList.drop p) p m.toArray a w (Nat.le_refl _) (by omega) hops (by rw [hlen]; exact h2) hcl (by simpa using hsz) (fun j hj=>List.all_eq_true.1 h3 j (by simpa using hj)) (h base Q w0 Z R0 h0 a w R hh0 hn0 sr hgr st hpre hops q)
 ·rwa [hlen] at this
 ·have a1:=List.all_eq_true.1 h4 k (by simpa using hks)
  simp only [hlk,Nat.ble_eq_true_of_le hk,Bool.and_self,Bool.not_true,Bool.false_or] at a1
  have a2:=List.all_eq_true.1 a1 j (by simpa using hj)
  have hb:Nat.blt k j=true:=Nat.ble_eq_true_of_le hkj
  simpa [hlj,hb] using a2
end
/-- As Op1, of an operation behind which nothing is read any more. -/
def OpZ (E:Env) (ops:Array Oper) (T k:Nat) (o:Oper) (s:St) (Ks:St->Prop):Prop :=
 ∀ (base:Bs) (K:Act->World->Prop) (w0:World) (Z:Nat->Prop) (a:Act) (w:World) (R:List RI),SR E base w Z R s a->w0.grownBy w none->ops[k]? = some o ->
  (∀ s' a' w' Z' R',Ks s'->SR E base w' Z' R' s' a'->w0.grownBy w' none->StepW w Z R s.hp w' Z' R' s'.hp->K a' w')->mOp E.P ops (fun w'=>w0.grownBy w' none) (CM ops T) k K a w
def RunZ (E:Env) (ops:Array Oper) (T f:Nat) (m:List Bool) (s:St) (K:St->Prop):Prop :=
 ∀ (base:Bs) (Q:Act->World->Prop) (w0:World) (Z:Nat->Prop) (a:Act) (w:World) (R:List RI),MOk ops T->Closed ops m.toArray->m.length=ops.size->SR E base w Z R s a->w0.grownBy w none ->
  (∀ s' a' w' Z' R',K s'->SR E base w' Z' R' s' a'->StepW w Z R s.hp w' Z' R' s'.hp->Q a' w')->wpM E.P ops (fun w'=>w0.grownBy w' none) (CM ops T) T Q f m.toArray a w
section
variable {E:Env}{cx:Cx}{ops:Array Oper}{s s1:St}{K Ks:St->Prop}{n n0 f T i j k:Nat}{m:List Bool}{o o2 o3:Oper}{l:List (Nat×AV)}{hp:Hp}{fid:FuncId}
theorem Uq (hE:EnvOk E) (hW:isW o.op=false) (hLd:Mu o.op=false) (hk:k < T) (e:opsD E (evC E 0) ⟨none,false⟩ ops n0 [o] s=some s1) (kk:Ks s1):OpZ E ops T k o s Ks:=by
 intro base K w0 Z a w R sr hgr hok q
 have hkT:¬ T<=k:=by omega
 unfold mOp
 rw [hok]
 dsimp only
 unfold opsD at e
 rw [if_neg (by rw [hW]; simp)] at e
 split at e
 ·cases e
 ·next hw =>
  rw [if_neg (by rw [wantedA_eq sr hw]; simp)]
  injection e with e
  subst e
  exact q _ _ w Z R kk (sr.put undef_vr) hgr (StepW.refl _ _ _ _)
 ·next hw =>
  rw [if_pos (wantedA_eq sr hw)]
  have hρ:∀ o x,opA E s.fr o=some x->VR w Z R x (a.eval o):=fun o x e=>opA_vr sr o x e
  split at e
  ·next x hx =>
   split at e
   ·injection e with e
    subst e
    have hq:=LW hx
    rw [if_neg (by rw [Ia hok hq hkT]; simp)]
    obtain ⟨u,hu,hrun⟩:=evOpQ_sound sr.hh hρ hx
    exact ⟨u,(fun w' _=>hrun w' fun h=>by rw [hLd] at h; cases h),q _ _ w Z R kk (sr.put hu) hgr (StepW.refl _ _ _ _)⟩
   ·cases e
  ·split at e
   ·next x h' hx =>
    injection e with e
    subst e
    have hq:=Hq hx
    rw [if_pos (EN hok hq)]
    obtain ⟨u,w',R',h1,h2,h3,h4,h5⟩:=evOpN_sound hρ sr.hh hx
    exact I9 h1 (q _ _ w' Z R' kk ((sr.step h2 h4).put h3) (Dt hgr h5) h4.w)
   ·split at e
    ·next f args tys ho =>
     split at e
     ·next fv xs hf hxs =>
      split at e
      ·next r hr =>
       injection e with e
       subst e
       obtain ⟨x,h'⟩:=r
       have hq:isQ o.op=false:=by rw [ho]; rfl
       rw [if_pos (EN hok hq)]
       obtain ⟨g,uf,uc,hva,hcl,hret⟩:=EW hE (code_sound hE 0).1 (hρ _ _ hf) (opds_vr hρ hxs) sr.hh sr.gl hr
       unfold Lw
       rw [EI (uf:=uf) (uc:=uc) ho hva rfl hcl w]
       refine Ret.mono hret fun v w' hS=>?_
       obtain ⟨hg1,R',k1,k2,k3⟩:=hS
       exact q _ _ w' Z R' kk ((sr.step k1 k3).put k2) (Dt hgr hg1) k3.w
      ·cases e
     ·cases e
    ·cases e
theorem WN (hE:EnvOk E){s:St}(l:List (Nat×AV)) (hp:Hp) (hW:(!isW o.op&&!Mu o.op&&Nat.blt k T)=true) (h:Pd (opsD E (evC E 0) ⟨none,false⟩ ops 0 [o] s) l=some (n,xs2 l,hp)) (kk:Ks ⟨Fr n l,hp⟩):OpZ E ops T k o s Ks:=by
 obtain ⟨fr,h1,h2,h3⟩:=Js h
 simp only [Bool.and_eq_true,Bool.not_eq_true'] at hW
 intro base K w0 Z a w R sr hgr hok q
 exact Uq (Ks:=fun s=>s=⟨fr,hp⟩) hE hW.1.1 hW.1.2 (Nat.le_of_ble_eq_true hW.2) h1 rfl base K w0 Z a w R sr hgr hok fun s' a' w' Z' R' hs sr' hg' st'=>by
  subst hs
  exact q _ a' w' Z' R' kk (sr'.forget h2 h3) hg' st'
theorem OpZ.one (hE:EnvOk E) (hW:(!isW o.op&&!Mu o.op&&Nat.blt k T)=true) (h:opsD E (evC E 0) ⟨none,false⟩ ops 0 [o] s=some s1) (kk:Ks s1):OpZ E ops T k o s Ks:=by
 simp only [Bool.and_eq_true,Bool.not_eq_true'] at hW
 exact Uq hE hW.1.1 hW.1.2 (Nat.le_of_ble_eq_true hW.2) h kk
theorem RunM.z (h:RunZ E ops T f m s K):RunM E ops T n0 f m s K:=fun base Q w0 Z _ _ a w R hM hcl hsz _ _ sr hgr st _ q=>h base Q w0 Z a w R hM hcl hsz sr hgr fun s' a' w' Z' R' hK sr' st'=>q s' a' w' Z' R' hK sr' (st.w.trans st')
theorem RunZ.q (i:Nat) (hq:(HX ops m i&&!CM ops T i)=true) (ho:ops[i]? = some o) (h:OpZ E ops T i o s fun s'=>RunZ E ops T f (m.set i true) s' K):RunZ E ops T (f + 1) m s K:=by
 intro base Q w0 Z a w R hM hcl hsz sr hgr q
 unfold HX at hq
 simp only [Bool.and_eq_true,Bool.not_eq_true'] at hq
 obtain ⟨⟨hr,hf⟩,hl⟩:=hq
 have hr':i ∈ Region.ready .any ops m.toArray:=by simpa using hr
 have hst:=h base (fun a w=>wpM E.P ops (fun w'=>w0.grownBy w' none) (CM ops T) T Q f (m.set i true).toArray a w) w0 Z a w R sr hgr ho fun s' a' w' Z' R' hk sr' hg' st' =>
  hk base Q w0 Z' a' w' R' hM (by rw [<-DY]; exact hcl.set hr') (by simpa using hsz) sr' hg' fun s2 a2 w2 Z2 R2 hK sr2 st2=>q s2 a2 w2 Z2 R2 hK sr2 (st'.trans st2)
 obtain ⟨v,hy,hK⟩:=DK ho hl hst
 refine Hb ho hl (Region.noSelect_spec hM.ns) f m.toArray a w (fun _=>hgr) hcl (by simpa using hsz) (Region.free_spec ho hf) hr' hy ?_
 rw [DY]
 exact hK
theorem Uu (L:List Nat) (hne:L≠[]) (hl:IB ops T m L=true) (h:∀ i ∈ L,∃ o,ops[i]? = some o/\OpZ E ops T i o s fun s'=>RunZ E ops T f (m.set i true) s' K):RunZ E ops T (f + 1) m s K:=by
 intro base Q w0 Z a w R hM hcl hsz sr hgr q
 unfold IB at hl
 simp only [Bool.and_eq_true] at hl
 obtain ⟨h1,h2⟩:=hl
 have hr:∀ i ∈ L,i ∈ Region.ready .any ops m.toArray/\Region.free .any ops m.toArray i=true:=fun i hi=>by
  have:=List.all_eq_true.1 h1 i hi
  unfold HX at this
  simp only [Bool.and_eq_true] at this
  exact ⟨by simpa using this.1,this.2⟩
 refine J1 (n:=ops.size) L hne hM.tl (fun i hi=>⟨_,(h i hi).choose_spec.1⟩) (Region.noSelect_spec hM.ns) f m.toArray a w (fun j hj hjL hlj hun=>?_) hcl (by simpa using hsz) (fun _=>hgr) (fun i hi oi hoi=>Region.free_spec hoi (hr i hi).2) (fun i hi=>(hr i hi).1) fun i hi=>?_
 ·have:=List.all_eq_true.1 h2 j (by simpa using hj)
  simp only [Bool.or_eq_true,Bool.not_eq_true',List.any_eq_true] at this
  rcases this with ((h3 | h3) | h3) | h3
  ·exact absurd (by simpa using h3) hjL
  ·rw [hlj] at h3; cases h3
  ·rw [hun] at h3; cases h3
  ·exact h3
 ·obtain ⟨o,ho,hop⟩:=h i hi
  rw [DY]
  exact hop base (fun a w=>wpM E.P ops (fun w'=>w0.grownBy w' none) (CM ops T) T Q f (m.set i true).toArray a w) w0 Z a w R sr hgr ho fun s' a' w' Z' R' hk sr' hg' st' =>
   hk base Q w0 Z' a' w' R' hM (by rw [<-DY]; exact hcl.set (hr i hi).1) (by simpa using hsz) sr' hg' fun s2 a2 w2 Z2 R2 hK sr2 st2=>q s2 a2 w2 Z2 R2 hK sr2 (st'.trans st2)
theorem WR (hw:Wk E s s1) (h:RunZ E ops T f m s1 K):RunZ E ops T f m s K:=fun base Q w0 Z a w R hM hcl hsz sr hgr q=>by
 obtain ⟨Z',R',sr',st⟩:=hw base w Z R a sr
 exact h base Q w0 Z' a w R' hM hcl hsz sr' hgr fun s' a' w' Z2 R2 hK sr2 st2=>q s' a' w' Z2 R2 hK sr2 (st.trans st2)
/-- The stores. -/
theorem Uv (hp:Ph ops T T f m=true) (h:RunS E ops (ops.toList.drop T) s K):RunZ E ops T f m s K:=by
 intro base Q w0 Z a w R hM hcl hsz sr hgr q
 unfold Ph at hp
 simp only [Bool.and_eq_true] at hp
 obtain ⟨⟨⟨h1,h2⟩,h3⟩,h4⟩:=hp
 have h1:=Nat.eq_of_beq_eq_true h1
 have hlen:(ops.toList.drop T).length=f:=by simp; omega
 have hops:∀ j,(ops.toList.drop T)[j]? = ops[T + j]?:=fun j=>by simp
 have:=NR (C:=fun w'=>w0.grownBy w' none) hM.ns (n:=ops.size) (k0:=T) (fun k j hk hks hj hlk hlj hkj=>?_) hM.tl hM.tT (ops.toList.drop T) T m.toArray a w (Nat.le_refl _) (by omega) hops (by rw [hlen]; exact h2) hcl (by simpa using hsz) (fun j hj=>List.all_eq_true.1 h3 j (by simpa using hj))
  (Ib (h base Q a w Z R sr q) (Nat.le_refl _) (fun _=>hgr) (fun j hj=>It (by omega)) hops)
 ·rwa [hlen] at this
 ·have a1:=List.all_eq_true.1 h4 k (by simpa using hks)
  simp only [hlk,Nat.ble_eq_true_of_le hk,Bool.and_self,Bool.not_true,Bool.false_or] at a1
  have a2:=List.all_eq_true.1 a1 j (by simpa using hj)
  have hb:Nat.blt k j=true:=Nat.ble_eq_true_of_le hkj
  simpa [hlj,hb] using a2
end
/-- Every order of what is not free is gone through, in the world as it is. -/
def RunA (E:Env) (ops:Array Oper) (f:Nat) (m:List Bool) (s:St) (K:St->Prop):Prop :=
 ∀ (base:Bs) (Q:Act->World->Prop) (a:Act) (w:World) (Z:Nat->Prop) (R:List RI),Region.noSelect ops=true->Closed ops m.toArray->m.length=ops.size->SR E base w Z R s a ->
  (∀ s' a' w' Z' R',K s'->SR E base w' Z' R' s' a'->StepW w Z R s.hp w' Z' R' s'.hp->Q a' w')->wpM E.P ops (fun _=>True) (CM ops 0) 0 Q f m.toArray a w
section
variable {E:Env}{cx:Cx}{ops:Array Oper}{s s1:St}{K:St->Prop}{f i j:Nat}{m:List Bool}{Q:Ex->St->Prop}{id k:Nat}{o o2 o3:Oper}
theorem Qy {i:Nat}(h:CM ops 0 i=false):Dl ops i=true:=by
 unfold CM at h
 simp only [Bool.or_eq_false_iff,Bool.and_eq_false_iff,Bool.not_eq_false'] at h
 rcases h.2 with h1 | h1
 ·cases h1
 ·exact h1
theorem Sx (n:Nat):I3 ops (CM ops 0) 0 n:=fun j _ _ _ i _ hl hf=>by rw [Qy hl] at hf; cases hf
theorem O5 (hE:EnvOk E) (f:Nat) (hb:(Region.noSelect ops&&Nat.beq f ops.size)=true) (h:RunA E ops f (List.replicate f false) s fun s'=>Wk E s' s1) (q:Q .normal s1):Sem E cx (.region id ops true) s Q:=by
 intro ro base Qm a w Z R _ sr _ kk
 simp only [Bool.and_eq_true] at hb
 have hf:=Nat.eq_of_beq_eq_true hb.2
 have hgd:w.grownBy w.drew none:=LF w
 have st0:Step w Z R s.hp w.drew Z R s.hp:=⟨rfl,rfl,rfl,Nat.le_refl _,fun c hc _=>rfl,fun _ h=> .inl h,fun _ h=>h,fun _ h=> .inl h,fun _ _ h=>h⟩
 have hsrd:SR E base w.drew Z R s a:=⟨sr.hh.keep (Nat.le_refl _) (fun c hc=>hgd.block c hc (by simp)),sr.fr.off (fun c hc=>rfl),sr.mks.step st0,sr.gl.off (fun c hc=>rfl),sr.bs⟩
 have hrep:(List.replicate f false).toArray=Array.replicate ops.size false:=by rw [hf]; simp
 have hcl:Closed ops (Array.replicate ops.size false):=fun k o hk hlis=>by
  rw [getD_replicate_false] at hlis; cases hlis
 have hm:=h base (fun a w=>Qm .normal a w) a w.drew Z R hb.1 (by rw [hrep]; exact hcl) (by simp [hf]) hsrd (fun s' a' w' Z' R' hw sr' st=>by
  obtain ⟨Z2,R2,sr2,st2⟩:=hw base w' Z' R' a' sr'
  exact kk .normal s1 a' w' Z2 R2 q sr2 ((st0.w.trans st).trans st2))
 rw [hrep,hf] at hm
 exact wpIn_region_any hE.mixed (G7 (C:=fun _=>True) (loud:=CM ops 0) (T:=0) (n:=ops.size) (Q:=fun a w=>Qm .normal a w) ro 0 (Sx _) (fun _ _ h=>h) _ _ _ _ hcl (by simp) hm)
theorem RunA.q (i:Nat) (hq:(HX ops m i&&!CM ops 0 i)=true) (ho:ops[i]? = some o) (h:RunS E ops [o] s fun s'=>RunA E ops f (m.set i true) s' K):RunA E ops (f + 1) m s K:=by
 intro base Q a w Z R hns hcl hsz sr q
 unfold HX at hq
 simp only [Bool.and_eq_true,Bool.not_eq_true'] at hq
 obtain ⟨⟨hr,hf⟩,hl⟩:=hq
 have hr':i ∈ Region.ready .any ops m.toArray:=by simpa using hr
 have hst:=h base (fun a w=>wpM E.P ops (fun _=>True) (CM ops 0) 0 Q f (m.set i true).toArray a w) a w Z R sr fun s' a' w' Z' R' hk sr' st' =>
  hk base Q a' w' Z' R' hns (by rw [<-DY]; exact hcl.set hr') (by simpa using hsz) sr' fun s2 a2 w2 Z2 R2 hK sr2 st2=>q s2 a2 w2 Z2 R2 hK sr2 (st'.trans st2)
 have hfr:F6 o=true:=by have:=Qy hl; simpa [Dl,ho] using this
 have hy:∃ v,YieldsM E.P ops (fun _=>True) o v a/\wpM E.P ops (fun _=>True) (CM ops 0) 0 Q f (m.set i true).toArray (a.put o.dst v) w:=by
  unfold LwL at hst
  split at hst
  ·next hw =>
   obtain ⟨u,h1,h2⟩:=hst
   exact ⟨u,.inl ⟨hw,fun w' _=>h1 w'⟩,h2⟩
  ·next hw=>exact ⟨undef,.inr ⟨by simpa using hw,rfl⟩,hst⟩
 obtain ⟨v,hy,hK⟩:=hy
 refine Hb ho hl (Region.noSelect_spec hns) f m.toArray a w (fun _=>trivial) hcl (by simpa using hsz) (Region.free_spec ho hf) hr' hy ?_
 rw [DY]
 exact hK
theorem NZ (L:List Nat) (hne:L≠[]) (hl:(IB ops 0 m L&&L.all fun i=>!Dl ops i)=true) (h:∀ i ∈ L,∃ o,ops[i]? = some o/\RunS E ops [o] s fun s'=>RunA E ops f (m.set i true) s' K):RunA E ops (f + 1) m s K:=by
 intro base Q a w Z R hns hcl hsz sr q
 simp only [Bool.and_eq_true] at hl
 obtain ⟨hl,hfr⟩:=hl
 unfold IB at hl
 simp only [Bool.and_eq_true] at hl
 obtain ⟨h1,h2⟩:=hl
 have hr:∀ i ∈ L,i ∈ Region.ready .any ops m.toArray/\Region.free .any ops m.toArray i=true:=fun i hi=>by
  have:=List.all_eq_true.1 h1 i hi
  unfold HX at this
  simp only [Bool.and_eq_true] at this
  exact ⟨by simpa using this.1,this.2⟩
 refine J1 (n:=ops.size) L hne (Sx _) (fun i hi=>⟨_,(h i hi).choose_spec.1⟩) (Region.noSelect_spec hns) f m.toArray a w (fun j hj hjL hlj hun=>?_) hcl (by simpa using hsz) (fun _=>trivial) (fun i hi oi hoi=>Region.free_spec hoi (hr i hi).2) (fun i hi=>(hr i hi).1) fun i hi=>?_
 ·have:=List.all_eq_true.1 h2 j (by simpa using hj)
  simp only [Bool.or_eq_true,Bool.not_eq_true',List.any_eq_true] at this
  rcases this with ((h3 | h3) | h3) | h3
  ·exact absurd (by simpa using h3) hjL
  ·rw [hlj] at h3; cases h3
  ·rw [hun] at h3; cases h3
  ·exact h3
 ·obtain ⟨o,ho,hop⟩:=h i hi
  have hfi:Dl ops i=false:=by simpa using List.all_eq_true.1 hfr i hi
  have hli:CM ops 0 i=true:=by
   cases hh:CM ops 0 i with
   | true=>rfl
   | false=>rw [Qy hh] at hfi; cases hfi
  have hfo:F6 o=false:=by simpa [Dl,ho] using hfi
  rw [DY]
  have hst:=hop base (fun a w=>wpM E.P ops (fun _=>True) (CM ops 0) 0 Q f (m.set i true).toArray a w) a w Z R sr fun s' a' w' Z' R' hk sr' st' =>
   hk base Q a' w' Z' R' hns (by rw [<-DY]; exact hcl.set (hr i hi).1) (by simpa using hsz) sr' fun s2 a2 w2 Z2 R2 hK sr2 st2=>q s2 a2 w2 Z2 R2 hK sr2 (st'.trans st2)
  unfold mOp
  rw [ho]
  dsimp only
  unfold LwL at hst
  split at hst
  ·next hw =>
   rw [if_pos hw,if_pos hli]
   rw [hfo] at hst
   exact hst
  ·next hw=>rw [if_neg hw]; exact hst
theorem DZ (i:Nat) (hl:(IB ops 0 m [i]&&[i].all fun i=>!Dl ops i)=true) (hi:ops[i]? = some o) (h:RunS E ops [o] s fun s'=>RunA E ops f (m.set i true) s' K):RunA E ops (f + 1) m s K :=
 NZ [i] (by simp) hl fun x hx=>by
  obtain rfl:x=i:=by simpa using hx
  exact ⟨o,hi,h⟩
theorem LB (i j:Nat) (hl:(IB ops 0 m [i,j]&&[i,j].all fun i=>!Dl ops i)=true) (hi:ops[i]? = some o) (hj:ops[j]? = some o2) (h:RunS E ops [o] s fun s'=>RunA E ops f (m.set i true) s' K) (h2:RunS E ops [o2] s fun s'=>RunA E ops f (m.set j true) s' K):RunA E ops (f + 1) m s K :=
 NZ [i,j] (by simp) hl fun x hx=>by
  rcases (by simpa using hx:x=i\/x=j) with rfl | rfl
  ·exact ⟨o,hi,h⟩
  ·exact ⟨o2,hj,h2⟩
theorem AZ {n:Nat}(hE:EnvOk E){s:St}(l:List (Nat×AV)) (hp:Hp) (h:Pd (Ek E (evC E 0) ⟨none,false⟩ ops [o] s) l=some (n,xs2 l,hp)) (k:K ⟨Fr n l,hp⟩):RunS E ops [o] s K :=
 AD (rest:=[o]) hE 1 l hp h (AJ rfl k)
theorem RunA.done (h:(Region.ready .any ops m.toArray).isEmpty=true) (kk:K s):RunA E ops 0 m s K:=fun base Q a w Z R _ _ _ sr q =>
 ⟨fun _=>trivial,by simpa using h,q s a w Z R kk sr (StepW.refl _ _ _ _)⟩
end
/-- A block that a call made is given up. -/
theorem SOk.kill {f:FuncId}{ys:List AV}{Out Out2:AV->Hp->Prop}(b:Nat) (hs:SOk f ys Out) (h:∀ x h',Out x h'->Out2 x (h'.set b none)):SOk f ys Out2 :=
 ⟨hs.1,fun w Z us hz hg hv=>Ret.mono (hs.2 w Z us hz hg hv) fun v w' ⟨Z',R',x,h',hO,h1,h2,st⟩ =>
  let ⟨k1,k2⟩:=h1.kill b
  ⟨Z',R',x,h'.set b none,h x h' hO,k1,h2,st.trans k2.w⟩⟩
/-- How a Lean value is held by an abstract value and own blocks (the list tells which). -/
structure Oc (α:Type) where
 cd:Cd α
 at_:Hp->AV->α->List Nat->Prop
 loc:∀ {h h':Hp} {e:AV} {x:α} {F:List Nat},at_ h e x F->(∀ b ∈ F,h'[b]? = h[b]?)->at_ h' e x F
 own:∀ {h:Hp} {e:AV} {x:α} {F:List Nat} {b:Nat},at_ h e x F->b ∈ F->∃ B,h[b]? = some (some B)/\B.fz=false
 vr:∀ {w:World} {Z:Nat->Prop} {R:List RI} {h:Hp} {e:AV} {x:α} {F:List Nat} {u:Value},HR w Z R h->at_ h e x F->VR w Z R e u->VR w (fun c=>Z c\/∃ b ∈ F,∃ r,R[b]? = some r/\c=r.c) [] (cd.enc x) u
/-- A part of a heap. -/
structure Asn where
 at_:Hp->List Nat->Prop
 loc:∀ {h h':Hp} {F:List Nat},at_ h F->(∀ b ∈ F,h'[b]? = h[b]?)->at_ h' F
 own:∀ {h:Hp} {F:List Nat} {b:Nat},at_ h F->b ∈ F->∃ B,h[b]? = some (some B)/\B.fz=false
def TF (h:Hp):List Asn->List Nat->Prop
 | [],F=>F=[]
 | P::L,F=>∃ F1 F2,F=F1++F2/\P.at_ h F1/\TF h L F2
/-- The assertions hold of different blocks. -/
def T (h:Hp) (L:List Asn):Prop:=∃ F,TF h L F/\F.Nodup
theorem G4 {h:Hp}{b:Nat}{o:Option Blk}(e:h[b]? = some o):b < h.length:=(List.getElem?_eq_some_iff.1 e).1
theorem TF.loc {h h':Hp}:∀ {L:List Asn}{F:List Nat},TF h L F->(∀ b ∈ F,h'[b]? = h[b]?)->TF h' L F
 | [],_,e,_=>e
 | _::_,_,⟨F1,F2,e,p,q⟩,k=>⟨F1,F2,e,Asn.loc _ p (fun b hb=>k b (by rw [e]; exact List.mem_append_left _ hb)),TF.loc q fun b hb=>k b (by rw [e]; exact List.mem_append_right _ hb)⟩
theorem TF.own {h:Hp}:∀ {L:List Asn}{F:List Nat}{b:Nat},TF h L F->b ∈ F->∃ B,h[b]? = some (some B)/\B.fz=false
 | [],_,_,e,hb=>by rw [show _=[] from e] at hb; cases hb
 | _::_,_,_,⟨F1,F2,e,p,q⟩,hb=>by
  rw [e] at hb
  rcases List.mem_append.1 hb with hb | hb
  ·exact Asn.own _ p hb
  ·exact TF.own q hb
theorem TF.lt {h:Hp}{L:List Asn}{F:List Nat}{b:Nat}(t:TF h L F) (hb:b ∈ F):b < h.length:=let ⟨_,e,_⟩:=t.own hb; G4 e
theorem Asn.lt {P:Asn}{h:Hp}{F:List Nat}{b:Nat}(t:P.at_ h F) (hb:b ∈ F):b < h.length:=let ⟨_,e,_⟩:=P.own t hb; G4 e
theorem TF.front {h:Hp}{P:Asn}:∀ {i:Nat}{L:List Asn}{F:List Nat},TF h L F->L[i]? = some P->∃ F',TF h (P::L.eraseIdx i) F'/\F'.Perm F
 | _,[],_,_,e=>by simp at e
 | 0,Q::L,F,t,e=>by
  simp at e; subst e
  exact ⟨F,t,List.Perm.refl _⟩
 | i + 1,Q::L,F,⟨F1,F2,e0,p,q⟩,e=>by
  obtain ⟨F',⟨G1,G2,e1,p1,q1⟩,hp⟩:=TF.front q (by simpa using e)
  subst e0 e1
  refine ⟨G1++(F1++G2),⟨G1,_,rfl,p1,F1,G2,rfl,p,q1⟩,?_⟩
  have h1:(G1++(F1++G2)).Perm (F1++(G1++G2)):=by
   rw [<-List.append_assoc,<-List.append_assoc]
   exact List.Perm.append_right _ List.perm_append_comm
  exact h1.trans (List.Perm.append_left _ hp)
theorem T.front {h:Hp}{L:List Asn}{P:Asn}(i:Nat) (t:T h L) (e:L[i]? = some P):T h (P::L.eraseIdx i) :=
 let ⟨_,t1,hn⟩:=t; let ⟨F',t2,hp⟩:=t1.front e; ⟨F',t2,hp.nodup_iff.2 hn⟩
theorem Gc {F1 F2:List Nat}:(F1++F2).Nodup↔F1.Nodup/\F2.Nodup/\∀ a ∈ F1,a ∉ F2:=by
 rw [List.nodup_append]
 constructor
 ·rintro ⟨h1,h2,h3⟩
  exact ⟨h1,h2,fun a ha hb=>h3 a ha a hb rfl⟩
 ·rintro ⟨h1,h2,h3⟩
  exact ⟨h1,h2,fun a ha b hb e=>h3 a ha (e ▸ hb)⟩
/-- The first assertion turns into another; the rest is as it was. -/
theorem T.act {h:Hp}{P:Asn}{L:List Asn}(t:T h (P::L)):∃ F,P.at_ h F/\F.Nodup/\(∀ (h':Hp) (P':Asn) (F':List Nat),P'.at_ h' F'->F'.Nodup->(∀ b,b ∉ F->b < h.length->h'[b]? = h[b]?)->(∀ b ∈ F',b ∈ F\/h.length<=b)->T h' (P'::L))/\∀ h':Hp,(∀ b,b ∉ F->b < h.length->h'[b]? = h[b]?)->T h' L:=by
 obtain ⟨F,⟨F1,F2,rfl,p,q⟩,hn⟩:=t
 obtain ⟨n1,n2,n3⟩:=Gc.1 hn
 have hq:∀ h':Hp,(∀ b,b ∉ F1->b < h.length->h'[b]? = h[b]?)->TF h' L F2:=fun h' hs=>q.loc fun b hb=>hs b (fun hb1=>n3 b hb1 hb) (q.lt hb)
 refine ⟨F1,p,n1,fun h' P' F' p' hn' hs hb=>⟨F'++F2,⟨F',F2,rfl,p',hq h' hs⟩,Gc.2 ⟨hn',n2,fun a ha ha2=>?_⟩⟩,fun h' hs=>⟨F2,hq h' hs,n2⟩⟩
 rcases hb a ha with h1 | h1
 ·exact n3 a h1 ha2
 ·have:=q.lt ha2; omega
theorem T.drop {h:Hp}{P:Asn}{L:List Asn}(t:T h (P::L)):T h L:=let ⟨_,_,_,_,k⟩:=t.act; k h fun _ _ _=>rfl
/-- New blocks, a new assertion. -/
theorem T.add {h h':Hp}{P:Asn}{L:List Asn}{F:List Nat}(t:T h L) (p:P.at_ h' F) (hn:F.Nodup) (hs:∀ b,b < h.length->h'[b]? = h[b]?) (hb:∀ b ∈ F,h.length<=b):T h' (P::L):=by
 obtain ⟨F2,q,n2⟩:=t
 exact ⟨F++F2,⟨F,F2,rfl,p,q.loc fun b hb=>hs b (q.lt hb)⟩,Gc.2 ⟨hn,n2,fun a ha ha2=>by have:=hb a ha; have:=q.lt ha2; omega⟩⟩
theorem T.nil {h:Hp}:T h []:=⟨[],rfl,List.nodup_nil⟩
/-- Two assertions as one. -/
def XE (P Q:Asn):Asn where
 at_ h F:=∃ F1 F2,F=F1++F2/\P.at_ h F1/\Q.at_ h F2
 loc:=fun ⟨F1,F2,e,p,q⟩ k=>⟨F1,F2,e,P.loc p (fun b hb=>k b (by rw [e]; exact List.mem_append_left _ hb)),Q.loc q fun b hb=>k b (by rw [e]; exact List.mem_append_right _ hb)⟩
 own:=fun ⟨F1,F2,e,p,q⟩ hb=>by
  rw [e] at hb
  rcases List.mem_append.1 hb with hb | hb
  ·exact P.own p hb
  ·exact Q.own q hb
theorem T.join {h:Hp}{P Q:Asn}{L:List Asn}:T h (P::Q::L)↔T h (XE P Q::L):=by
 constructor
 ·rintro ⟨F,⟨F1,F2,rfl,p,⟨G1,G2,rfl,q,r⟩⟩,hn⟩
  exact ⟨_,⟨F1++G1,G2,(List.append_assoc _ _ _).symm,⟨F1,G1,rfl,p,q⟩,r⟩,hn⟩
 ·rintro ⟨F,⟨F1,F2,rfl,⟨G1,G2,rfl,p,q⟩,r⟩,hn⟩
  exact ⟨_,⟨G1,G2++F2,List.append_assoc _ _ _,p,G2,F2,rfl,q,r⟩,hn⟩
/-- An own value. -/
def own_ {α:Type}(o:Oc α) (e:AV) (x:α):Asn:=⟨fun h F=>o.at_ h e x F,o.loc,o.own⟩
/-- A cell of its own (a variable that closures hold, a struct with an address). -/
def cel (p:AV) (k:Nat) (t:TypeId) (a:AV):Asn where
 at_ h F:=∃ b,p = .pt b 0 0/\F=[b]/\h[b]? = some (some ⟨k,t,[a],false⟩)
 loc:=fun ⟨b,e1,e2,e3⟩ k=>⟨b,e1,e2,(k b (by rw [e2]; simp)).trans e3⟩
 own:=fun ⟨b,e1,e2,e3⟩ hb=>by
  rw [e2] at hb
  simp at hb
  subst hb
  exact ⟨_,e3,rfl⟩
/-- A value as it is. -/
def ocV {α:Type}(c:Cd α):Oc α where
 cd:=c
 at_ _ e x F:=e=c.enc x/\F=[]
 loc h _:=h
 own h hb:=by rw [h.2] at hb; cases hb
 vr:=fun {w Z R h e x F u} _ ha hv=>by
  rw [ha.1] at hv
  exact (Hu (c.nr x) hv).mono (fun _ _=>rfl) (fun _ h=> .inl h) (fun _ _ h=>h)
section
variable {α:Type}{p p':AV->α->List Nat->Prop}
def All3 (p:AV->α->List Nat->Prop):List AV->List α->List Nat->Prop
 | [],[],F=>F=[]
 | e::es,x::xs,F=>∃ F1 F2,F=F1++F2/\p e x F1/\All3 p es xs F2
 | _,_,_=>False
def All3h (p:AV->α->List Nat->Prop):Nat->AV->List AV->List α->List Nat->Prop
 | 0,e',e::es,_::xs,F=>e=e'/\All3 p es xs F
 | j + 1,e',e::es,x::xs,F=>∃ F1 F2,F=F1++F2/\p e x F1/\All3h p j e' es xs F2
 | _,_,_,_,_=>False
theorem All3.len:∀ {es:List AV}{xs:List α}{F:List Nat},All3 p es xs F->es.length=xs.length
 | [],[],_,_=>rfl
 | _::_,_::_,_,⟨_,_,_,_,h⟩=>by simp [All3.len h]
 | [],_::_,_,h=>h.elim
 | _::_,[],_,h=>h.elim
theorem All3.mono:∀ {es:List AV}{xs:List α}{F:List Nat},All3 p es xs F->(∀ e x F',(∀ b ∈ F',b ∈ F)->p e x F'->p' e x F')->All3 p' es xs F
 | [],[],_,h,_=>h
 | _::_,_::_,_,⟨F1,F2,e,h1,h2⟩,k=>⟨F1,F2,e,k _ _ F1 (fun b hb=>by rw [e]; exact List.mem_append_left _ hb) h1,h2.mono fun e' x F' hF=>k e' x F' fun b hb=>by rw [e]; exact List.mem_append_right _ (hF b hb)⟩
 | [],_::_,_,h,_=>h.elim
 | _::_,[],_,h,_=>h.elim
theorem All3h.mono:∀ {j:Nat}{e':AV}{es:List AV}{xs:List α}{F:List Nat},All3h p j e' es xs F->(∀ e x F',(∀ b ∈ F',b ∈ F)->p e x F'->p' e x F')->All3h p' j e' es xs F
 | 0,_,_::_,_::_,_,⟨h1,h2⟩,k=>⟨h1,h2.mono k⟩
 | _ + 1,_,_::_,_::_,_,⟨F1,F2,e,h1,h2⟩,k=>⟨F1,F2,e,k _ _ F1 (fun b hb=>by rw [e]; exact List.mem_append_left _ hb) h1,h2.mono fun e' x F' hF=>k e' x F' fun b hb=>by rw [e]; exact List.mem_append_right _ (hF b hb)⟩
 | 0,_,[],_,_,h,_=>by unfold All3h at h; exact h.elim
 | 0,_,_::_,[],_,h,_=>by unfold All3h at h; exact h.elim
 | _ + 1,_,[],_,_,h,_=>by unfold All3h at h; exact h.elim
 | _ + 1,_,_::_,[],_,h,_=>by unfold All3h at h; exact h.elim
theorem All3.get:∀ {es:List AV}{xs:List α}{F:List Nat}{i:Nat}{x:α},All3 p es xs F->xs[i]? = some x->∃ e Fi,es[i]? = some e/\p e x Fi/\∀ b ∈ Fi,b ∈ F
 | _::_,_::_,_,0,_,⟨F1,F2,e,h1,h2⟩,hx=>by
  simp at hx; subst hx
  exact ⟨_,F1,rfl,h1,fun b hb=>by rw [e]; exact List.mem_append_left _ hb⟩
 | _::_,_::_,_,i + 1,_,⟨F1,F2,e,h1,h2⟩,hx=>by
  obtain ⟨e',Fi,k1,k2,k3⟩:=h2.get (i:=i) (by simpa using hx)
  exact ⟨e',Fi,by simpa using k1,k2,fun b hb=>by rw [e]; exact List.mem_append_right _ (k3 b hb)⟩
 | [],[],_,_,_,_,hx=>by simp at hx
 | [],_::_,_,_,_,h,_=>h.elim
 | _::_,[],_,_,_,h,_=>h.elim
theorem All3h.at_:∀ {j:Nat}{e':AV}{es:List AV}{xs:List α}{F':List Nat},All3h p j e' es xs F'->es[j]? = some e'/\es.length=xs.length/\j < xs.length
 | 0,_,_::_,_::_,_,⟨h1,h2⟩=>⟨by simp [h1],by simp [h2.len],by simp⟩
 | _ + 1,_,_::_,_::_,_,⟨_,_,_,_,h2⟩=>by
  obtain ⟨k1,k2,k3⟩:=h2.at_
  exact ⟨by simpa using k1,by simp [k2],by simp; omega⟩
 | 0,_,[],_,_,h=>by unfold All3h at h; exact h.elim
 | 0,_,_::_,[],_,h=>by unfold All3h at h; exact h.elim
 | _ + 1,_,[],_,_,h=>by unfold All3h at h; exact h.elim
 | _ + 1,_,_::_,[],_,h=>by unfold All3h at h; exact h.elim
theorem All3.append:∀ {es:List AV}{xs:List α}{F:List Nat}{es':List AV}{xs':List α}{F':List Nat},All3 p es xs F->All3 p es' xs' F'->All3 p (es++es') (xs++xs') (F++F')
 | [],[],_,_,_,_,h,h'=>by rw [show _=[] from h]; exact h'
 | _::_,_::_,_,_,_,_,⟨F1,F2,e,h1,h2⟩,h'=>⟨F1,_,by rw [e,List.append_assoc],h1,h2.append h'⟩
 | [],_::_,_,_,_,_,h,_=>h.elim
 | _::_,[],_,_,_,_,h,_=>h.elim
theorem All3.mem:∀ {es:List AV}{xs:List α}{F:List Nat}{b:Nat},All3 p es xs F->b ∈ F->∃ e x F',p e x F'/\b ∈ F'
 | [],[],_,_,h,hb=>by rw [show _=[] from h] at hb; cases hb
 | _::_,_::_,_,_,⟨F1,F2,e,h1,h2⟩,hb=>by
  rw [e] at hb
  rcases List.mem_append.1 hb with hb | hb
  ·exact ⟨_,_,F1,h1,hb⟩
  ·exact h2.mem hb
 | [],_::_,_,_,h,_=>h.elim
 | _::_,[],_,_,h,_=>h.elim
end
/-- Leaves. -/
theorem JR {α:Type}{c:Cd α}{h:Hp}:∀ {xs:List α},All3 ((ocV c).at_ h) (xs.map c.enc) xs []
 | []=>rfl
 | _x::_=>⟨[],[],rfl,⟨rfl,rfl⟩,JR⟩
theorem All3.leaf_inv {α:Type}{c:Cd α}{h:Hp}:∀ {es:List AV}{xs:List α}{F:List Nat},All3 ((ocV c).at_ h) es xs F->es=xs.map c.enc/\F=[]
 | [],[],_,e=>⟨rfl,e⟩
 | _::_,_::_,_,⟨F1,F2,e,h1,h2⟩=>by
  obtain ⟨k1,k2⟩:=h2.leaf_inv
  exact ⟨by rw [k1,h1.1]; rfl,by rw [e,h1.2,k2]; rfl⟩
 | [],_::_,_,h=>h.elim
 | _::_,[],_,h=>h.elim
/-- An own slice of own values. -/
def ocL {α:Type}(k:Nat) (t:TypeId) (o:Oc α):Oc (List α) where
 cd:=cdL k o.cd
 at_ h e xs F:=(e = .e0/\xs=[]/\F=[])\/∃ b es F',e = .rf b 0 xs.length xs.length/\h[b]? = some (some ⟨k,t,es,false⟩)/\F=b::F'/\All3 (o.at_ h) es xs F'
 loc:=fun {h h' e x F} ha k=>by
  rcases ha with h1 | ⟨b,es,F',h1,h2,h3,h4⟩
  ·exact .inl h1
  ·subst h3
   exact .inr ⟨b,es,F',h1,(k b (by simp)).trans h2,rfl,h4.mono fun e x G hG h5=>o.loc h5 fun c hc=>k c (List.mem_cons_of_mem _ (hG c hc))⟩
 own:=fun {h e x F b} ha hb=>by
  rcases ha with ⟨_,_,h1⟩ | ⟨b',es,F',h1,h2,h3,h4⟩
  ·rw [h1] at hb; cases hb
  ·subst h3
   rcases List.mem_cons.1 hb with rfl | hb
   ·exact ⟨_,h2,rfl⟩
   ·obtain ⟨e,x,G,k1,k2⟩:=h4.mem hb
    exact o.own k1 k2
 vr:=fun {w Z R h e xs F u} hh ha hv=>by
  rcases ha with ⟨rfl,rfl,rfl⟩ | ⟨b,es,F',rfl,h2,rfl,h4⟩
  ·cases hv
   exact .sl (us:=[]) rfl rfl (Nat.le_refl _) (by unfold maxLen; omega) (fun h=>by omega) (fun i x u hx=>by simp at hx)
  ·obtain ⟨r,arr,us,g1,g2,g3,g4,g5,g6,g7,g8,g9,g10⟩:=hh.blk b _ h2
   have hl:=h4.len
   cases hv with
   | rf hr' q0 q1 q2 q3 =>
    rename_i c r'
    rw [g1] at hr'
    injection hr' with hr'
    subst hr'
    have hul:us.length=es.length:=g9.len
    refine .sl (us:=us) (by simp) (by simp; omega) (by omega) (by omega) (fun _=>⟨⟨r.c,0 * r.k,none⟩,rfl,rfl,.inr ⟨b,by simp,r,g1,rfl⟩,fun i u hu=>?_⟩) (fun i x u hx hu=>?_)
    ·obtain ⟨k1,k2,k3⟩:=g10 i u hu
     refine ⟨k1,k2,fun j q hq=>?_⟩
     have:=k3 j q hq
     rw [Nat.zero_mul,Nat.zero_add]
     simp only [World.cell?,g3]
     simpa using this
    ·rw [List.getElem?_map] at hx
     obtain ⟨y,hy,rfl⟩:=Option.map_eq_some_iff.1 hx
     obtain ⟨e,Fi,k1,k2,k3⟩:=h4.get hy
     have hvi:=g9.at_ i e u k1 hu
     exact (o.vr hh k2 hvi).mono (fun _ _=>rfl) (fun c hc=>hc.imp_right fun ⟨b',hb',hr⟩=>⟨b',List.mem_cons_of_mem _ (k3 b' hb'),hr⟩) (fun _ _ h=>h)
/-- What may be laid in a cell of k cells. -/
def Fit {α:Type}(o:Oc α) (k:Nat):Prop:=∀ (h:Hp) (e:AV) (x:α) (F:List Nat),o.at_ h e x F->e.nc=k/\e.notTp=true/\elm e.cel=e
theorem Wh {α:Type}{c:Cd α}{k:Nat}(h:∀ x,(c.enc x).nc=k/\(c.enc x).notTp=true/\elm (c.enc x).cel=c.enc x):Fit (ocV c) k:=fun _ e x _ hx=>by
 rw [hx.1]; exact h x
theorem All3.fit {α:Type}{o:Oc α}{k:Nat}(hf:Fit o k){h:Hp}:∀ {es:List AV}{xs:List α}{F:List Nat},All3 (o.at_ h) es xs F->∀ e ∈ es,e.nc=k/\e.notTp=true/\elm e.cel=e
 | [],[],_,_,e,he=>by cases he
 | _::_,_::_,_,⟨F1,F2,_,h1,h2⟩,e,he=>by
  rcases List.mem_cons.1 he with rfl | he
  ·exact hf _ _ _ _ h1
  ·exact h2.fit hf e he
 | [],_::_,_,h,_,_=>h.elim
 | _::_,[],_,h,_,_=>h.elim
/-- The address of an element. -/
def eAt:AV->Nat->AV
 | .rf b lo _ _,i=> .pt b (lo + i) 0
 | x,_=>x
def ER:AV->Nat->AV
 | .pt b i o,n=> .pt b i (o + n)
 | x,_=>x
section
variable {α:Type}{o:Oc α}{k j:Nat}{t:TypeId}{e e':AV}{xs:List α}{x y:α}{h:Hp}{L:List Asn}{c:Cd α}
theorem T.e0 {k:Nat}{ty:TypeId}(t:T h L):T h (own_ (ocL k ty o) .e0 []::L):=t.add (F:=[]) (.inl ⟨rfl,rfl,rfl⟩) List.nodup_nil (fun _ _=>rfl) (fun _ h=>by cases h)
end
section
variable {P:Program}{α:Type}{o:Oc α}{k j m off:Nat}{t ty ty2 el:TypeId}{e e' y:AV}{xs ys vs:List α}{x v v':α}{h:Hp}{L:List Asn}{c:Cd α}{i:Int}{ki:IntKind}{g:Bool}
theorem UA (ht:T h (own_ (ocL k t o) e xs::L)) (hu:P.underlying ty=some (.slice el)):LJ P ty e=some (eI xs.length):=by
 obtain ⟨F,p,_⟩:=ht.act
 rcases p with ⟨rfl,rfl,_⟩ | ⟨b,es,F',rfl,_⟩
 ·simp [LJ,hu,eI]
 ·simp [LJ,hu,eI]
theorem VD (ht:T h (own_ (ocL k t o) e xs::L)) (hu:P.underlying ty=some (.slice el)) (hs:Bq P el=some k) (hv:idx xs i=some v):Cz P h ty e (.v (.int ki i))=some (eAt e i.toNat):=by
 obtain ⟨F,p,_⟩:=ht.act
 obtain ⟨h0,h1⟩:=PP hv
 rcases p with ⟨rfl,rfl,_⟩ | ⟨b,es,F',rfl,h2,_⟩
 ·simp at h1
 ·rw [Wp hu hs h2 rfl h0 (List.getElem?_eq_some_iff.1 h1).1]
  simp [eAt]
theorem W1 (e:AV) (n:Nat):ER (eAt e n) 0=eAt e n:=by cases e <;> rfl
theorem Vl {n:Nat}(ht:T h (own_ (ocL k t (ocV c)) e xs::L)) (hv:xs[n]? = some v) (hs:Bq P ty=some y.nc) (hn:y.notTp=true) (he:Tb (c.enc v) off y=some (c.enc v')):∃ h',Fv P h ty (ER (eAt e n) off) y=some h'/\T h' (own_ (ocL k t (ocV c)) e (xs.set n v')::L):=by
 obtain ⟨F,p,hn',hk,_⟩:=ht.act
 rcases p with ⟨rfl,rfl,_⟩ | ⟨b,es,F',rfl,h2,rfl,h4⟩
 ·simp at hv
 ·obtain ⟨rfl,rfl⟩:=h4.leaf_inv
  have hb:=G4 h2
  refine ⟨h.set b (some ⟨k,t,(xs.set n v').map c.enc,false⟩),by simp [Fv,eAt,ER,h2,hv,hs,hn,he],hk _ _ [b] (.inr ⟨b,(xs.set n v').map c.enc,[],by simp,by simp [hb],rfl,JR⟩) (by simp) (fun b' hb' _=>?_) (fun b' hb'=> .inl hb')⟩
  rw [List.getElem?_set,if_neg (by intro e; subst e; simp at hb')]
theorem RT {n:Nat}(ht:T h (own_ (ocL k t (ocV c)) e xs::L)) (hv:xs[n]? = some v) (hs:Bq P ty=some y.nc) (hn:y.notTp=true) (he:Tb (c.enc v) 0 y=some (c.enc v')):∃ h',Fv P h ty (eAt e n) y=some h'/\T h' (own_ (ocL k t (ocV c)) e (xs.set n v')::L):=by
 have:=Vl (off:=0) ht hv hs hn he
 rwa [W1] at this
/-- Loose elements. -/
def els {α:Type}(o:Oc α) (es:List AV) (xs:List α):Asn where
 at_ h F:=All3 (o.at_ h) es xs F
 loc:=fun h k=>h.mono fun _e _x _G hG h5=>o.loc h5 fun c hc=>k c (hG c hc)
 own:=fun h hb=>let ⟨_,_,_,q1,q2⟩:=h.mem hb; o.own q1 q2
theorem PG (ht:T h L):T h (els (ocV c) (xs.map c.enc) xs::L):=ht.add (F:=[]) JR List.nodup_nil (fun _ _=>rfl) (fun _ h=>by cases h)
/-- The elements of an own slice. -/
theorem Ty (ht:T h (own_ (ocL k t o) y ys::L)) (hu:P.underlying ty2=some (.slice el)):∃ ey,T h (els o ey ys::L)/\IQ h k y=some ey/\Ig P ty2 y=true:=by
 obtain ⟨F,p,hn,hk,_⟩:=ht.act
 rcases p with ⟨rfl,rfl,rfl⟩ | ⟨b,es,F',rfl,h2,rfl,h4⟩
 ·exact ⟨[],hk h _ [] rfl List.nodup_nil (fun _ _ _=>rfl) (fun _ h=>by cases h),by simp [IQ],by simp [Ig,hu]⟩
 ·refine ⟨es,hk h _ F' h4 (List.nodup_cons.1 hn).2 (fun _ _ _=>rfl) (fun b hb=> .inl (List.mem_cons_of_mem _ hb)),?_,by simp [Ig,hu]⟩
  have hl:=h4.len
  simp [IQ,h2,<-hl]
/-- A growing own slice takes elements. -/
theorem QL {bytes:Nat}{i:TypeInfo}{z:AV}{ey:List AV}(ht:T h (own_ (ocL k t o) e xs::els o ey ys::L)) (hsy:Ig P ty2 y=true) (hel:IQ h k y=some ey) (hte:Fj P ty=some t) (hi:P.info? t=some i) (hz:ET P t=some z) (hk:i.size=k) (h0:Nat.blt 0 k=true) (hzn:z.nc=k) (hzt:z.notTp=true) (hib:i.bytes=bytes) (hc:Dy bytes (xs.length + ys.length)=true) :
  ∃ e' h',DH P h ty ty2 e y=some (e',h')/\T h' (own_ (ocL k t o) e' (xs++ys)::L):=by
 subst hib hk
 obtain ⟨F,p,hn',hk,hk0⟩:=(T.join.1 ht).act
 obtain ⟨F1,Fy,rfl,px,hy4⟩:=p
 obtain ⟨n1,n2,n3⟩:=Gc.1 hn'
 obtain ⟨c1,c2⟩:=Ni hc
 have h0':0 < i.size:=Nat.le_of_ble_eq_true h0
 have hly:ey.length=ys.length:=All3.len hy4
 have hlt:∀ c,c ∈ F1++Fy->c < h.length:=fun c hc=>by
  rcases List.mem_append.1 hc with hc | hc
  ·obtain ⟨B,q,_⟩:=(ocL i.size t o).own px hc
   exact G4 q
  ·obtain ⟨B,q,_⟩:=(els o ey ys).own hy4 hc
   exact G4 q
 cases hey:ey with
 | nil =>
  subst hey
  have:ys=[]:=by cases ys with | nil=>rfl | cons a b=>simp at hly
  subst this
  refine ⟨e,h,?_,?_⟩
  ·rcases px with ⟨rfl,_⟩ | ⟨b,es,F',rfl,_⟩ <;> simp [DH,hsy,hte,hi,hz,hel]
  ·rw [List.append_nil]
   exact hk h _ F1 px n1 (fun _ _ _=>rfl) (fun b hb=> .inl (List.mem_append_left _ hb))
 | cons a r =>
  have he:ey.isEmpty=false:=by rw [hey]; rfl
  have hne:0 < ys.length:=by rw [<-hly,hey]; simp
  rcases px with ⟨rfl,rfl,rfl⟩ | ⟨bx,ex,Fx,rfl,hx2,rfl,hx4⟩
  ·have hc1:ey.length * i.bytes<=140737488355328/\ey.length<=140737488355328:=by
    rw [hly]; simp at c1 c2; exact ⟨c1,c2⟩
   refine ⟨.rf h.length 0 ys.length ys.length,h++[some ⟨i.size,t,ey,false⟩],?_,hk _ _ (h.length::Fy) (.inr ⟨h.length,ey,Fy,rfl,by simp,rfl,hy4.mono fun e x G hG h5=>o.loc h5 fun c hc=>List.getElem?_append_left (hlt c (List.mem_append_right _ (hG c hc)))⟩) (List.nodup_cons.2 ⟨fun hb=>by have:=hlt _ (List.mem_append_right _ hb); omega,n2⟩) (fun c _ hc=>List.getElem?_append_left hc) (fun c hc=>?_)⟩
   ·simp only [DH,hsy,hte,hi,hz,hel,he]
    rw [if_neg (by simp),if_neg (by simp),if_pos ⟨h0',hzn,hzt⟩,if_pos hc1,hly]
   ·rcases List.mem_cons.1 hc with rfl | hc
    ·exact .inr (Nat.le_refl _)
    ·exact .inl (List.mem_append_right _ hc)
  ·have hlx:ex.length=xs.length:=hx4.len
   have hbx:=G4 hx2
   have hbx':bx ∉ Fx:=(List.nodup_cons.1 n1).1
   have hby':bx ∉ Fy:=n3 bx (by simp)
   have same:∀ c,c≠bx->c < h.length->((h.set bx none)++[some ⟨i.size,t,ex++ey,false⟩])[c]? = h[c]?:=fun c hc hlt=>by
    rw [List.getElem?_append_left (by simpa using hlt),List.getElem?_set,if_neg (Ne.symm hc)]
   refine ⟨.rf h.length 0 (xs++ys).length (xs++ys).length,(h.set bx none)++[some ⟨i.size,t,ex++ey,false⟩],?_,hk _ _ (h.length::(Fx++Fy)) (.inr ⟨h.length,ex++ey,Fx++Fy,rfl,?_,rfl,All3.append (hx4.mono fun e x G hG h5=>o.loc h5 fun c hc=>same c (fun e=>hbx' (e ▸ hG c hc)) (hlt c (List.mem_append_left _ (List.mem_cons_of_mem _ (hG c hc))))) (hy4.mono fun e x G hG h5=>o.loc h5 fun c hc=>same c (fun e=>hby' (e ▸ hG c hc)) (hlt c (List.mem_append_right _ (hG c hc))))⟩) (List.nodup_cons.2 ⟨fun hb=>?_,?_⟩) (fun c hc hlt=>same c (fun e=>hc (by subst e; simp)) hlt) (fun c hc=>?_)⟩
   ·simp only [DH,hsy,hte,hi,hz,hel,he,hx2]
    rw [if_neg (by simp),if_neg (by simp),if_pos ⟨h0',hzn,hzt⟩,if_neg (by simp),if_neg (by omega),if_pos ⟨trivial,hlx.symm,by rw [hly]; exact c1,by rw [hly]; exact c2⟩]
    simp [hly]
   ·rw [List.getElem?_append_right (by simp)]; simp
   ·have:h.length < h.length:=hlt _ (by
     rcases List.mem_append.1 hb with hb | hb
     ·exact List.mem_append_left _ (List.mem_cons_of_mem _ hb)
     ·exact List.mem_append_right _ hb)
    omega
   ·exact Gc.2 ⟨(List.nodup_cons.1 n1).2,n2,fun a ha ha2=>n3 a (List.mem_cons_of_mem _ ha) ha2⟩
   ·rcases List.mem_cons.1 hc with rfl | hc
    ·exact .inr (Nat.le_refl _)
    ·rcases List.mem_append.1 hc with h1 | h1
     ·exact .inl (List.mem_append_left _ (List.mem_cons_of_mem _ h1))
     ·exact .inl (List.mem_append_right _ h1)
theorem Tk {bytes:Nat}{i:TypeInfo}{z:AV}(ht:T h (own_ (ocL k t o) e xs::own_ (ocL k t o) y ys::L)) (hu:P.underlying ty2=some (.slice el)) (hte:Fj P ty=some t) (hi:P.info? t=some i) (hz:ET P t=some z) (hk:i.size=k) (h0:Nat.blt 0 k=true) (hzn:z.nc=k) (hzt:z.notTp=true) (hib:i.bytes=bytes) (hc:Dy bytes (xs.length + ys.length)=true) :
  ∃ e' h',DH P h ty ty2 e y=some (e',h')/\T h' (own_ (ocL k t o) e' (xs++ys)::L):=by
 obtain ⟨ey,h1,h2,h3⟩:=Ty (ht.front 1 rfl) hu
 exact QL (h1.front 1 rfl) h3 h2 hte hi hz hk h0 hzn hzt hib hc
theorem Rw {bytes:Nat}{i:TypeInfo}{z:AV}(ht:T h (own_ (ocL k t (ocV c)) e xs::L)) (hsy:Ig P ty2 y=true) (hel:IQ h k y=some (ys.map c.enc)) (hte:Fj P ty=some t) (hi:P.info? t=some i) (hz:ET P t=some z) (hk:i.size=k) (h0:Nat.blt 0 k=true) (hzn:z.nc=k) (hzt:z.notTp=true) (hib:i.bytes=bytes) (hc:Dy bytes (xs.length + ys.length)=true) :
  ∃ e' h',DH P h ty ty2 e y=some (e',h')/\T h' (own_ (ocL k t (ocV c)) e' (xs++ys)::L) :=
 QL ((PG ht).front 1 rfl) hsy hel hte hi hz hk h0 hzn hzt hib hc
/-- A block of elements. -/
theorem Q6 {es:List AV}{n:Nat}(ht:T h (els o es xs::L)) (hn:xs.length=n):T (h++[some ⟨k,t,es,false⟩]) (own_ (ocL k t o) (.rf h.length 0 n n) xs::L):=by
 obtain ⟨F,p,hn',hk,_⟩:=ht.act
 have hlt:∀ c,c ∈ F->c < h.length:=fun c hc=>by
  obtain ⟨B,q,_⟩:=(els o es xs).own p hc
  exact G4 q
 refine hk _ _ (h.length::F) (.inr ⟨h.length,es,F,by rw [hn],by simp,rfl,All3.mono p fun e x G hG h5=>o.loc h5 fun c hc=>List.getElem?_append_left (hlt c (hG c hc))⟩) (List.nodup_cons.2 ⟨fun hb=>by have:=hlt _ hb; omega,hn'⟩) (fun c _ hc=>List.getElem?_append_left hc) (fun c hc=>?_)
 rcases List.mem_cons.1 hc with rfl | hc
 ·exact .inr (Nat.le_refl _)
 ·exact .inl hc
def OU (i:Nat):List AV->List (Nat×AV)
 | []=>[]
 | e::r=>(i,e)::OU (i + 1) r
theorem No {z:AV}(hz:z.nc=k):∀ {es pre:List AV},(∀ e ∈ es,e.nc=k/\e.notTp=true/\elm e.cel=e)->Ms (pre++List.replicate es.length z) k (OU pre.length es)=some (pre++es)
 | [],pre,_=>by simp [OU,Ms]
 | e::r,pre,hf=>by
  obtain ⟨h1,h2,h3⟩:=hf e (by simp)
  have:=No hz (es:=r) (pre:=pre++[e]) (fun e' he=>hf e' (by simp [he]))
  simp only [OU,Ms,List.length_cons,List.replicate_succ]
  rw [if_pos ⟨by simp,h1,h2⟩,h3]
  have e1:(pre++z::List.replicate r.length z).set pre.length e=(pre++[e])++List.replicate r.length z:=by simp
  rw [e1]
  simpa using this
theorem UB {i:TypeInfo}{z:AV}{es:List AV}{n:Nat}(hf:Fit o k) (ht:T h (els o es xs::L)) (hn:es.length=n) (hte:Fj P ty=some t) (hi:P.info? t=some i) (hz:ET P t=some z) (hk:i.size=k) (h0:Nat.blt 0 k=true) (hb:Nat.ble (n * k) 65536=true) (hzn:z.nc=k) (hzt:z.notTp=true) (hze:elm z.cel=z) :
  ∃ e' h',Mr P h ty n (OU 0 es)=some (e',h')/\T h' (own_ (ocL k t o) e' xs::L):=by
 obtain ⟨F,p,_⟩:=ht.act
 have hl:es.length=xs.length:=All3.len p
 have:=No hzn (es:=es) (pre:=[]) (All3.fit hf p)
 subst hn
 simp only [List.nil_append,List.length_nil] at this
 refine ⟨_,_,?_,Q6 ht hl.symm⟩
 simp only [Mr,hte,hi,hz,hk,hze]
 rw [if_pos ⟨Nat.le_of_ble_eq_true hb,Nat.le_of_ble_eq_true h0,hzn,hzt⟩,this]
theorem Se {i:TypeInfo}{z:AV}{bytes:Nat}{n:Int}{kn kc:IntKind}{x0:α}(ht:T h L) (hx:∀ h,o.at_ h z x0 []) (hte:Fj P ty=some t) (hi:P.info? t=some i) (hz:ET P t=some z) (hk:i.size=k) (hzn:z.nc=k) (hzt:z.notTp=true) (hib:i.bytes=bytes) (hc:Uf bytes n=true) :
  ∃ e' h',Jk P h ty (.v (.int kn n)) (.v (.int kc n))=some (e',h')/\T h' (own_ (ocL k t o) e' (List.replicate n.toNat x0)::L):=by
 simp only [Uf,Bool.and_eq_true,decide_eq_true_eq] at hc
 subst hk hib
 have ha:∀ m,All3 (o.at_ h) (List.replicate m z) (List.replicate m x0) []:=fun m=>by
  induction m with
  | zero=>exact rfl
  | succ m ih=>exact ⟨[],[],rfl,hx h,ih⟩
 have ht':T h (els o (List.replicate n.toNat z) (List.replicate n.toNat x0)::L):=ht.add (F:=[]) (ha _) List.nodup_nil (fun _ _=>rfl) (fun _ h=>by cases h)
 refine ⟨_,_,?_,Q6 ht' (List.length_replicate)⟩
 simp only [Jk,hte,I8,hi,hz]
 rw [if_pos ⟨trivial,hc.1.1,hc.1.2,hc.2,hzn,hzt⟩]
/-- A cell of its own is made, read, written. -/
theorem KB {a:AV}(ht:T h L) (hn:a.notTp=true):∃ p h',Kk h t a=some (p,h')/\T h' (cel p a.nc t a::L):=by
 refine ⟨.pt h.length 0 0,h++[some ⟨a.nc,t,[a],false⟩],by simp [Kk,hn],ht.add (F:=[h.length]) ⟨h.length,rfl,rfl,by simp⟩ (by simp) (fun b hb=>List.getElem?_append_left hb) (fun b hb=>by simp at hb; omega)⟩
theorem CZ {p a:AV}(ht:T h (cel p k t a::L)) (hm:Bq P ty=some m) (hg:Ow P ty=some g) (he:ST a off m g=some y):FD P h ty (ER p off)=some y:=by
 obtain ⟨F,⟨b,rfl,rfl,h2⟩,_⟩:=ht.act
 simp [FD,hm,hg,ER,h2,he]
theorem FI {p a:AV}(ht:T h (cel p k t a::L)) (hm:Bq P ty=some m) (hg:Ow P ty=some g) (he:ST a 0 m g=some y):FD P h ty p=some y:=by
 have:=CZ (off:=0) ht hm hg he
 obtain ⟨F,⟨b,rfl,rfl,h2⟩,_⟩:=ht.act
 exact this
theorem F7 {p a a':AV}(ht:T h (cel p k t a::L)) (hs:Bq P ty=some y.nc) (hn:y.notTp=true) (he:Tb a off y=some a'):∃ h',Fv P h ty (ER p off) y=some h'/\T h' (cel p k t a'::L):=by
 obtain ⟨F,⟨b,rfl,rfl,h2⟩,hn',hk,_⟩:=ht.act
 have hb:=G4 h2
 refine ⟨h.set b (some ⟨k,t,[a'],false⟩),by simp [Fv,ER,h2,hs,hn,he],hk _ _ [b] ⟨b,rfl,rfl,by simp [hb]⟩ (by simp) (fun c hc _=>?_) (fun c hc=> .inl hc)⟩
 rw [List.getElem?_set,if_neg (by intro e; subst e; simp at hc)]
theorem Ih {p a a':AV}(ht:T h (cel p k t a::L)) (hs:Bq P ty=some y.nc) (hn:y.notTp=true) (he:Tb a 0 y=some a'):∃ h',Fv P h ty p y=some h'/\T h' (cel p k t a'::L):=by
 have:=F7 (off:=0) ht hs hn he
 obtain ⟨F,⟨b,rfl,rfl,h2⟩,_⟩:=ht.act
 exact this
theorem T0 {p a:AV}{fs:Array Field}{fd:Field}{f q:Nat}(ht:T h (cel p k t a::L)) (hu:P.underlying ty=some (.struct fs)) (hf:fs[f]? = some fd) (hs:Bq P fd.type=some (q + 1)):EC P ty p f=some (ER p fd.offset):=by
 obtain ⟨F,⟨b,rfl,rfl,h2⟩,_⟩:=ht.act
 simp [EC,hu,hf,hs,ER]
end
/-- What is own is written no more: it is a value as others. -/
def Jo (F:List Nat) (h:Hp):Hp:=h.mapIdx fun i B=>if i ∈ F then none else B
theorem IY {F:List Nat}{h:Hp}{b:Nat}{B:Blk}:(Jo F h)[b]? = some (some B)↔b ∉ F/\h[b]? = some (some B):=by
 simp only [Jo,List.getElem?_mapIdx]
 constructor
 ·intro hh
  obtain ⟨o,h1,h2⟩:=Option.map_eq_some_iff.1 hh
  split at h2
  ·cases h2
  ·next hb=>exact ⟨hb,by rw [h1,h2]⟩
 ·rintro ⟨h1,h2⟩
  rw [h2]; simp [h1]
theorem MT {F:List Nat}{h:Hp}{b:Nat}(hb:b ∉ F):(Jo F h)[b]? = h[b]?:=by
 simp only [Jo,List.getElem?_mapIdx]
 cases h[b]? <;> simp [hb]
section
variable {E:Env}{n:Nat}{l l':List (Nat×AV)}{hp:Hp}{α:Type}{o:Oc α}{e:AV}{x:α}{L:List Asn}
/-- Slots that stay, and slots that turn. -/
def LkT (l:List (Nat×AV)) (e y:AV):List (Nat×AV)->Prop
 | []=>True
 | (t,z)::r=>(lk l t=some z\/(lk l t=some e/\z=y))/\LkT l e y r
theorem LkT.at_ {e y:AV}:∀ {l':List (Nat×AV)},LkT l e y l'->∀ t z,lk l' t=some z->lk l t=some z\/(lk l t=some e/\z=y)
 | [],_,t,z,h=>by cases h
 | (k,z0)::r,⟨h1,h2⟩,t,z,h=>by
  rw [Gb] at h
  split at h
  ·next hk=>injection h with h; subst hk h; exact h1
  ·exact h2.at_ t z h
/-- Values as a call sees them. -/
def SeeV (hp:Hp) (x y:AV):Prop:=∀ (w:World) (Z:Nat->Prop) (R:List RI) (u:Value),HR w Z R hp->VR w Z R x u->VR w (fun c=>Z c\/own R hp c) [] y u
def Sees (hp:Hp) (xs ys:List AV):Prop:=∀ (w:World) (Z:Nat->Prop) (R:List RI) (us:List Value),HR w Z R hp->VRs w Z R xs us->VRs w (fun c=>Z c\/own R hp c) [] ys us
theorem Sees.nil:Sees hp [] []:=fun w Z R us _ h=>by
 have:us=[]:=by have:=h.len; simpa using this
 subst this
 exact .nil
theorem Sees.cons {x y:AV}{xs ys:List AV}(h:SeeV hp x y) (hs:Sees hp xs ys):Sees hp (x::xs) (y::ys):=fun w Z R us hh hv=>by
 obtain ⟨u,us',rfl,hu,hn⟩:=hv.head
 exact .cons (h w Z R u hh hu) (hs w Z R us' hh hn)
theorem SeeV.id {x:AV}(hx:C5 x=true):SeeV hp x x:=fun _w _Z _R _u _ hv=>(Hu hx hv).mono (fun _ _=>rfl) (fun _ h=> .inl h) (fun _ _ h=>h)
theorem SeeV.enc {c:Cd α}:SeeV hp (c.enc x) (c.enc x):= .id (c.nr x)
theorem SeeV.own {i:Nat}(ht:T hp L) (hi:L[i]? = some (own_ o e x)):SeeV hp e (o.cd.enc x):=fun w Z R u hh hv=>by
 obtain ⟨F,p,_⟩:=(ht.front i hi).act
 refine (o.vr hh p hv).mono (fun _ _=>rfl) (fun c hc=>hc.imp_right fun ⟨b,hb,r,hr,hc⟩=>?_) (fun _ _ h=>h)
 obtain ⟨B,k1,k2⟩:=o.own p hb
 exact ⟨b,B,r,k1,k2,hr,hc.symm⟩
theorem SeeV.ag {cs cs':List AV}(hs:Sees hp cs cs'):SeeV hp (.ag cs) (.ag cs'):=fun w Z R u hh hv=>by
 cases hv with
 | ag hl h1 hx =>
  have:=hs w Z R _ hh ⟨hl,hx⟩
  exact .ag this.len h1 this.at_
end
/-- The operations that are left, one by one, in the caller's blocks. -/
def RunL (E:Env) (cx:Cx) (ops:Array Oper) (rest:List Oper) (s:St) (K:St->Prop):Prop :=
 ∀ (ro:Option Nat) (base:Bs) (Q:Act->World->Prop) (a:Act) (w:World) (Z:Nat->Prop) (R:List RI),(cx.inR=false->ro=none)->SR E base w Z R s a->YI cx w Z R s.hp ->
  (∀ s' a' w' Z' R',K s'->SR E base w' Z' R' s' a'->Step w Z R s.hp w' Z' R' s'.hp->Q a' w')->LwL E.P ops Q rest a w
section
variable {E:Env}{cx:Cx}{ops:Array Oper}{pre rest rest':List Oper}{s s1:St}{K:St->Prop}{n m:Nat}{l l':List (Nat×AV)}{hp hp':Hp}{Q:Ex->St->Prop}{id:Nat}
theorem AE (hr:rest=[]) (k:K s):RunL E cx ops rest s K:=by
 subst hr
 exact fun ro base Q a w Z R _ sr _ q=>q s a w Z R k sr (Step.refl _ _ _ _)
theorem RunL.mono {K':St->Prop}(h:RunL E cx ops rest s K) (k:∀ s,K s->K' s):RunL E cx ops rest s K':=fun ro base Q a w Z R h1 h2 h3 q=>h ro base Q a w Z R h1 h2 h3 fun s' a' w' Z' R' hK=>q s' a' w' Z' R' (k s' hK)
theorem Kw (hE:EnvOk E) (n:Nat):∀ {pre:List Oper}{s:St},Ek E (evC E n) ⟨none,false⟩ ops pre s=some s1->RunL E cx ops rest s1 K->RunL E cx ops (pre++rest) s K
 | [],s,e,k=>by injection e with e; subst e; exact k
 | o::pre,s,e,kk=>by
  intro ro base Q a w Z R hro sr hy q
  unfold Ek at e
  split at e
  ·cases e
  ·next hw=>exact lwl_no (wantedA_eq sr hw) (Kw hE n e kk ro base Q _ w Z R hro (sr.put undef_vr) hy q)
  ·next hw =>
   split at e
   ·next s2 hs2=>exact lwl_op1 hE (code_sound hE n).1 hs2 sr (wantedA_eq sr hw) fun a' w' Z' R' sr' st=>Kw hE n e kk ro base Q a' w' Z' R' hro sr' (hy.step sr.hh st) fun s'' a'' w'' Z'' R'' hK sr'' st'=>q s'' a'' w'' Z'' R'' hK sr'' (st.trans st')
   ·cases e
theorem O3 (hE:EnvOk E) (m:Nat) (h:Ek E (evC E 0) ⟨none,false⟩ ops (rest.take m) s=some s1) (k:RunL E cx ops (rest.drop m) s1 K):RunL E cx ops rest s K:=by
 have:=Kw hE 0 h k
 rwa [List.take_append_drop] at this
theorem AG (hE:EnvOk E) (m:Nat){s:St}(l:List (Nat×AV)) (hp:Hp) (h:Pd (Ek E (evC E 0) ⟨none,false⟩ ops (rest.take m) s) l=some (n,xs2 l,hp)) (k:RunL E cx ops (rest.drop m) ⟨Fr n l,hp⟩ K):RunL E cx ops rest s K:=by
 obtain ⟨fr,h1,h2,h3⟩:=Js h
 refine O3 hE m h1 ?_
 exact fun ro base Q a w Z R hro sr hy q=>k ro base Q a w Z R hro (sr.forget h2 h3) hy q
theorem AH (hE:EnvOk E) (n:Nat){o:Oper}(hr:rest=o::rest') (h:Ek E (evC E n) ⟨none,false⟩ ops [o] s=some s1) (k:RunL E cx ops rest' s1 K):RunL E cx ops rest s K:=by
 subst hr
 exact Kw hE n (pre:=[o]) h k
theorem RunL.store (hE:EnvOk E){t:TypeId}{p q:Operand}{y z:AV}{ty:TypeId}{pos:String}{af:Array Edge}{g:Option (Nat×Bool)}(hr:rest=⟨none,.store t p q,ty,pos,af,g⟩::rest') (hw:A5 ops (Fr n l) ⟨none,.store t p q,ty,pos,af,g⟩=some true) (hp1:opA E (Fr n l) p=some y) (hq1:opA E (Fr n l) q=some z) (h:Fv E.P hp t y z=some hp') (k:RunL E cx ops rest' ⟨Fr n l,hp'⟩ K):RunL E cx ops rest ⟨Fr n l,hp⟩ K :=
 AH hE 0 hr (W0 hw hp1 hq1 h) k
theorem SemY.regionL (h:RunL E cx ops ops.toList s fun s'=>Q .normal s'):SemY E cx (.region id ops false) s Q:=by
 intro ro base Qm a w Z R h1 h2 h3 kk
 exact wpIn_region_list (lwl_list ro (h ro base _ a w Z R h1 h2 h3 fun s' a' w' Z' R' hq sr st=>kk .normal s' a' w' Z' R' hq sr st))
end
section
variable {E:Env}{cx:Cx}{ops:Array Oper}{rest rest':List Oper}{K:St->Prop}{n:Nat}{l:List (Nat×AV)}{hp:Hp}
/-- A call that is gone through in the caller's blocks. -/
theorem Fb (hP:E.P=E0.P) (hG:E.G=E0.G){e:Env}(he:EnvOk e) (heP:e.P=E0.P) (heG:e.G=E0.G){d:Nat}{f:Operand}{args:Array Operand}{tys:Array TypeId}{ty:TypeId}{pos:String}{af:Array Edge}{g:Option (Nat×Bool)}{fid:FuncId}{caps xs:List AV}{fn:Func}{c:Code}{Out:AV->Hp->Prop}(hr:rest=⟨some d,.call ⟨.value f,args,tys⟩,ty,pos,af,g⟩::rest') (hw:A5 ops (Fr n l) ⟨some d,.call ⟨.value f,args,tys⟩,ty,pos,af,g⟩=some true)
  (hf:opA E (Fr n l) f=some (.fn fid [] caps)) (ha:Fl (opA E (Fr n l)) args.toList=some xs) (hfn:e.fn fid=some fn) (hc:fn.body=some c) (hle:(xs++caps).length<=fn.ntmps)
  (sem:SemY e ⟨none,false⟩ c ⟨Fr fn.ntmps (BB 0 (xs++caps)),hp⟩ fun x s'=>(x = .normal\/x = .ret)/\∃ ys,D4 e.P s'.fr s'.hp fn.results.toList=some ys/\Out (Eh ys) s'.hp)
  (k:∀ x h',Out x h'->RunL E cx ops rest' ⟨Fr n ((d,x)::l),h'⟩ K):RunL E cx ops rest ⟨Fr n l,hp⟩ K:=by
 obtain ⟨P,fns,G,X,I⟩:=E
 obtain ⟨P',fns',G',X',I'⟩:=e
 simp only at hP hG heP heG
 subst hP hG heP heG
 subst hr
 intro ro base Q a w Z R hro sr hy q
 have hρ:∀ o x,opA ⟨E0.P,fns,E0.G,X,I⟩ (Fr n l) o=some x->VR w Z R x (a.eval o):=fun o x e=>opA_vr sr o x e
 refine K5 rfl (wantedA_eq sr hw) ?_
 have hvf:=hρ _ _ hf
 generalize hvq:a.eval f=vf at hvf
 cases hvf with
 | fn hl hl' hx hy' =>
  rename_i u1 u2
  have e1:u1=[]:=by simpa using hl
  subst e1
  obtain ⟨hff,hcall,_⟩:=he.fn fid fn hfn
  unfold Lw
  rw [EI (uf:=[]) (uc:=u2) rfl hvq rfl hcall w]
  simp only [List.nil_append]
  have hargs:VRs w Z R (xs++caps) (args.toList.map a.eval++u2):=(opds_vr hρ ha).append ⟨hl',hy'⟩
  refine Ret.mono (ND he hfn hc hle sem sr.hh hargs sr.gl (fun y hy=>by cases hy)) fun v w' hS=>?_
  obtain ⟨Z',R',x,h',hO,h1,h2,st⟩:=hS
  have sr':=(sr.step h1 st).put (d:=some d) h2
  rw [show I1 (⟨Fr n l,hp⟩:St).fr (some d) x=Fr n ((d,x)::l) from CF n l d _] at sr'
  exact k x h' hO ro base Q _ w' Z' R' hro sr' (hy.step sr.hh st) fun s' a' w'' Z'' R'' hK sr'' st'=>q s' a' w'' Z'' R'' hK sr'' (st.trans st')
theorem JD {s s1:St}(hw:WkY E s s1) (h:RunL E cx ops rest s1 K):RunL E cx ops rest s K:=fun ro base Q a w Z R hro sr hy q=>by
 obtain ⟨Z',R',sr',st⟩:=hw base w Z R a sr
 exact h ro base Q a w Z' R' hro sr' (hy.step sr.hh st) fun s' a' w' Z2 R2 hK sr2 st2=>q s' a' w' Z2 R2 hK sr2 (st.trans st2)
/-- What a part did, told by states for each way out. -/
theorem HN {c:Code}{s:St}{Q:Ex->St->Prop}{e0:Ex}{A:St->Prop}(h:SemY E cx c s fun e s'=>e=e0/\∃ s2,A s2/\WkY E s' s2) (q:∀ s2,A s2->Q e0 s2):SemY E cx c s Q:=by
 intro ro base Qm a w Z R h1 h2 h3 k
 refine h ro base Qm a w Z R h1 h2 h3 fun e s' a' w' Z' R' hQ sr st=>?_
 obtain ⟨rfl,s2,hA,hw⟩:=hQ
 obtain ⟨Z2,R2,sr2,st2⟩:=hw base w' Z' R' a' sr
 exact k e s2 a' w' Z2 R2 (q s2 hA) sr2 (st.trans st2)
theorem J7 {c:Code}{s:St}{Q:Ex->St->Prop}{e0:Ex}{A:St->Prop}{m:Nat}(h:SemYN E cx c m s fun e s'=>e=e0/\∃ s2,A s2/\WkY E s' s2) (q:∀ s2,A s2->Q e0 s2):SemYN E cx c m s Q:=by
 intro ro base Qm a w Z R h1 h2 h3 k
 refine h ro base Qm a w Z R h1 h2 h3 fun e s' a' w' Z' R' hQ sr st=>?_
 obtain ⟨rfl,s2,hA,hw⟩:=hQ
 obtain ⟨Z2,R2,sr2,st2⟩:=hw base w' Z' R' a' sr
 exact k e s2 a' w' Z2 R2 (q s2 hA) sr2 (st.trans st2)
theorem Sem.ofY {c:Code}{s:St}{Q:Ex->St->Prop}(h:SemY E cx c s Q):Sem E cx c s Q :=
 fun ro base Qm a w Z R h1 h2 h3 k=>h ro base Qm a w Z R h1 h2 (fun y hy=>by rw [h3] at hy; cases hy) fun e s' a' w' Z' R' hQ sr st=>k e s' a' w' Z' R' hQ sr st.w
end
def RunDT (E:Env) (cx:Cx) (ops:Array Oper) (T:Nat) (n0 k:Nat) (rest:List Oper) (s:St) (K:St->Prop):Prop :=
 ∀ (ro:Option Nat) (base:Bs) (Q:Act->World->Prop) (w0:World) (Z:Nat->Prop) (R0:List RI) (h0:Hp) (a:Act) (w:World) (R:List RI),(cx.inR=false->ro=none)->YI cx w0 Z R0 h0->HR w0 Z R0 h0->n0=h0.length->SR E base w Z R s a->w0.grownBy w none->Step w0 Z R0 h0 w Z R s.hp->(∀ (b:Nat) (B:Option Blk),h0[b]? = some B->s.hp[b]? = some B)->(∀ j,rest[j]? = ops[k + j]?) ->
  (∀ s' a' w' Z' R',K s'->SR E base w' Z' R' s' a'->Step w0 Z R0 h0 w' Z' R' s'.hp->Q a' w')->Fk E.P ops (fun w'=>w0.grownBy w' none) (CM ops T) T Q k rest a w
section
variable {E:Env}{cx:Cx}{ops:Array Oper}{rest rest':List Oper}{s s1:St}{K:St->Prop}{n n0 k T:Nat}{l:List (Nat×AV)}{hp hp':Hp}{Q:Ex->St->Prop}{id:Nat}{x:AV}{d:Nat}
theorem Pa {o:Oper}(hops:∀ j,(o::rest')[j]? = ops[k + j]?) (hk:Nat.blt k T=true) (hq:isQ o.op=true):CM ops T k=false:=by
 have hok:ops[k]? = some o:=by have:=hops 0; simpa using this.symm
 have hlt:k < T:=Nat.le_of_ble_eq_true hk
 exact Ia hok hq (by omega)
theorem Ol {o:Oper}(hops:∀ j,(o::rest')[j]? = ops[k + j]?):∀ j,rest'[j]? = ops[k + 1 + j]?:=fun j=>by have:=hops (j + 1); simpa [Nat.add_assoc,Nat.add_comm 1 j] using this
theorem RunDT.done (hr:rest=[]) (kk:K s):RunDT E cx ops T n0 k rest s K:=by
 subst hr
 exact fun ro base Q w0 Z R0 h0 a w R _ _ _ _ sr hgr st _ _ q=>⟨fun _=>hgr,q s a w Z R kk sr st⟩
theorem RunDT.mono {K':St->Prop}(h:RunDT E cx ops T n0 k rest s K) (hk:∀ s,K s->K' s):RunDT E cx ops T n0 k rest s K':=fun ro base Q w0 Z R0 h0 a w R h1 h2 h3 h4 h5 h6 h7 h8 h9 q=>h ro base Q w0 Z R0 h0 a w R h1 h2 h3 h4 h5 h6 h7 h8 h9 fun s' a' w' Z' R' hK=>q s' a' w' Z' R' (hk s' hK)
/-- An operation that reads. -/
theorem RunDT.q {o:Oper}(hr:rest=o::rest') (hk:Nat.blt k T=true) (hq:isQ o.op=true) (hw:A5 ops (Fr n l) o=some true) (hd:o.dst=some d) (h:DW E.P (opA E (Fr n l)) hp o.op=some x) (hl:SY n0 (opA E (Fr n l)) o.op=true) (kk:RunDT E cx ops T n0 (k + 1) rest' ⟨Fr n ((d,x)::l),hp⟩ K):RunDT E cx ops T n0 k rest ⟨Fr n l,hp⟩ K:=by
 subst hr
 intro ro base Q w0 Z R0 h0 a w R hro hy hh0 hn0 sr hgr st hpre hops q
 refine ⟨fun _=>hgr,?_⟩
 rw [if_pos (wantedA_eq sr hw),Pa hops hk hq,if_neg (by simp)]
 have hρ:∀ o x,opA E (Fr n l) o=some x->VR w Z R x (a.eval o):=fun o x e=>opA_vr sr o x e
 obtain ⟨u,hu,hrun⟩:=evOpQ_sound sr.hh hρ h
 have hquiet:∃ u,VR w Z R x u/\QuietAt E.P (Cf (fun w'=>w0.grownBy w' none) o) o u a:=by
  cases hl':Mu o.op with
  | false=>exact ⟨u,hu,fun w' _=>hrun w' fun h=>by rw [hl'] at h; cases h⟩
  | true =>
   obtain ⟨u1,hu1,hq1⟩:=FR hh0 sr hgr st hpre hl' (by rw [<-hn0]; exact hl) h
   exact ⟨u1,hu1,hq1.up (IW hl')⟩
 obtain ⟨u,hu,hquiet⟩:=hquiet
 refine ⟨u,hquiet,?_⟩
 have sr':=sr.put (d:=o.dst) hu
 rw [hd,show I1 (⟨Fr n l,hp⟩:St).fr (some d) x=Fr n ((d,x)::l) from CF n l d _] at sr'
 rw [hd]
 exact kk ro base Q w0 Z R0 h0 _ w R hro hy hh0 hn0 sr' hgr st hpre (Ol hops) q
/-- One that is not wanted. -/
theorem RunDT.skip {o:Oper}(hr:rest=o::rest') (hw:A5 ops (Fr n l) o=some false) (hd:o.dst=some d) (kk:RunDT E cx ops T n0 (k + 1) rest' ⟨Fr n ((d,.tp [])::l),hp⟩ K):RunDT E cx ops T n0 k rest ⟨Fr n l,hp⟩ K:=by
 subst hr
 intro ro base Q w0 Z R0 h0 a w R hro hy hh0 hn0 sr hgr st hpre hops q
 refine ⟨fun _=>hgr,?_⟩
 rw [if_neg (by rw [wantedA_eq sr hw]; simp)]
 have sr':=sr.put (d:=o.dst) (x:= .tp []) undef_vr
 rw [hd,show I1 (⟨Fr n l,hp⟩:St).fr (some d) (.tp [])=Fr n ((d,.tp [])::l) from CF n l d _] at sr'
 rw [hd]
 exact kk ro base Q w0 Z R0 h0 _ w R hro hy hh0 hn0 sr' hgr st hpre (Ol hops) q
theorem ML (hT:T=k) (h:RunL E cx ops rest s K):RunDT E cx ops T n0 k rest s K:=by
 subst hT
 intro ro base Q w0 Z R0 h0 a w R hro hy hh0 hn0 sr hgr st hpre hops q
 exact Ib (h ro base Q a w Z R hro sr (hy.step hh0 st) fun s' a' w' Z' R' hK sr' st'=>q s' a' w' Z' R' hK sr' (st.trans st')) (Nat.le_refl _) (fun _=>hgr) (fun j hj=>It hj) hops
theorem MM (T:Nat) (hm:E.P.follows .mixedOrders=true) (hB:Region.lexB .any ops=true) (hb:LY ops (CM ops T) T=true) (h:RunDT E cx ops T s.hp.length 0 ops.toList s fun s'=>Q .normal s'):SemY E cx (.region id ops true) s Q:=by
 intro ro base Qm a w Z R hro sr hy kk
 have hgd:w.grownBy w.drew none:=LF w
 have hops:ops.toList.toArray=ops:=by simp
 have st0:Step w Z R s.hp w.drew Z R s.hp:=⟨rfl,rfl,rfl,Nat.le_refl _,fun c hc _=>rfl,fun _ h=> .inl h,fun _ h=>h,fun _ h=> .inl h,fun _ _ h=>h⟩
 have hsrd:SR E base w.drew Z R s a:=⟨sr.hh.keep (Nat.le_refl _) (fun c hc=>hgd.block c hc (by simp)),sr.fr.off (fun c hc=>rfl),sr.mks.step st0,sr.gl.off (fun c hc=>rfl),sr.bs⟩
 have hm':=h ro base (fun a w=>Qm .normal a w) w.drew Z R s.hp a w.drew R hro (hy.step sr.hh st0) hsrd.hh rfl hsrd (JK _) (Step.refl _ _ _ _) (fun b B hb=>hb) (fun j=>by simp) (fun s' a' w' Z' R' hq sr' st=>kk .normal s' a' w' Z' R' hq sr' (st0.trans st))
 have:=H1 (P:=E.P) (id:=id) (l:=ops.toList) (a:=a) (w:=w) (C:=fun w'=>w.drew.grownBy w' none) (loud:=CM ops T) (T:=T) (Q':=Qm) ro 0 hm (by rw [hops]; exact hB) (by rw [hops]; exact hb) (by rw [hops]; exact hm')
 rw [hops] at this
 exact this
theorem V8 {a b:Nat}(h:a < b):Nat.blt a b=true:=by unfold Nat.blt; rw [Nat.ble_eq]; exact h
theorem K4 {kk off:Nat}{t ty:TypeId}{q a:AV}{h0:Hp}{L:List Asn}{p:Operand}{ρ:Operand->Option AV}(ht:Go.Proofs.YtdjhmdbpcfnpgaaGreatDoor.T h0 (cel q kk t a::L)) (hp:ρ p=some (ER q off)):SY h0.length ρ (.load ty p)=true:=by
 obtain ⟨F,⟨b,rfl,rfl,h2⟩,_⟩:=ht.act
 simp only [SY,hp,ER]
 exact V8 (G4 h2)
end
section
variable {P:Program}{h:Hp}{ρ:Operand->Option AV}{α:Type}{o:Oc α}{k:Nat}{t:TypeId}{e:AV}{xs:List α}{L:List Asn}
theorem C0 {ty:TypeId}{x:Operand}{f:Nat}{a r:AV}(hx:ρ x=some a) (he:EC P ty a f=some r):DW P ρ h (.fieldAddr ty x f)=some r:=by
 show (match ρ x with | some x=>EC P ty x f | none=>none)=some r
 rw [hx]; exact he
theorem Fz {x:Operand}{a:AV}(ha:∃ b i,a = .pt b i 0) (hx:ρ x=some a):DW P ρ h (.nilCheck x)=some a:=by
 obtain ⟨b,i,rfl⟩:=ha
 simp only [DW,hx]
theorem Ww {ty:TypeId}{n:Nat}{ps:Array (Nat×Operand)}{xs:List (Nat×AV)}{r:AV×Hp}(hp:Hw ρ ps.toList=some xs) (he:Mr P h ty n xs=some r):GB P ρ h (.buildSlice ty n ps)=some r:=by
 show (match Hw ρ ps.toList with | some ps=>Mr P h ty n ps | none=>none)=some r
 rw [hp]; exact he
theorem Wv {ty:TypeId}{x:Operand}{z:AV}{r:AV×Hp}(hx:ρ x=some z) (he:Kk h ty z=some r):GB P ρ h (.box ty x)=some r:=by
 show (match ρ x with | some x=>Kk h ty x | none=>none)=some r
 rw [hx]; exact he
theorem Mz {ty:TypeId}{z:AV}{r:AV×Hp}(hx:ET P ty=some z) (he:Kk h ty z=some r):GB P ρ h (.alloc ty)=some r:=by
 show (match ET P ty with | some z=>Kk h ty z | none=>none)=some r
 rw [hx]; exact he
theorem DJ (ht:T h (own_ (ocL k t o) e xs::L)):e.notTp=true/\e.notAg=true:=by
 obtain ⟨F,p,_⟩:=ht.act
 rcases p with ⟨rfl,_⟩ | ⟨b,es,F',rfl,_⟩ <;> exact ⟨rfl,rfl⟩
theorem Lj {p a:AV}(ht:T h (cel p k t a::L)):p.notTp=true/\p.notAg=true:=by
 obtain ⟨F,⟨b,rfl,_⟩,_⟩:=ht.act
 exact ⟨rfl,rfl⟩
theorem QT {p a:AV}(ht:T h (cel p k t a::L)):∃ b,p = .pt b 0 0:=by
 obtain ⟨F,⟨b,rfl,_⟩,_⟩:=ht.act
 exact ⟨b,rfl⟩
theorem Ck {p a:AV}(ht:T h (cel p k t a::L)):∃ b i,p = .pt b i 0:=let ⟨b,hb⟩:=QT ht; ⟨b,0,hb⟩
theorem XP {op:BinOp}{ty t':TypeId}{x y:Operand}{p r:AV}(hp:∃ b,p = .pt b 0 0) (hx:ρ x=some p) (hy:ρ y=some (.v (.pointer none))) (hi:Mv P ty=true) (hr:eqV op false=some r):DW P ρ h (.binOp op ty x y t')=some r:=by
 obtain ⟨b,rfl⟩:=hp
 simp [DW,hx,hy,Mp,Ud,hi,hr]
theorem XQ {op:BinOp}{ty t':TypeId}{x y:Operand}{p r:AV}(hp:∃ b,p = .pt b 0 0) (hx:ρ x=some p) (hy:ρ y=some p) (hi:Mv P ty=true) (hr:eqV op true=some r):DW P ρ h (.binOp op ty x y t')=some r:=by
 obtain ⟨b,rfl⟩:=hp
 simp [DW,hx,hy,Mp,Ud,hi,hr]
/-- A pointer to a cell of its own seen as another pointer. -/
def cvB (P:Program) (a b k t:Nat):Bool:=match P.underlying a,P.underlying b with
 | some (.pointer t'),some .unsafePointer=>Nat.blt 0 k&&(match Bq P t' with | some (_ + 1)=>true | _=>false)
 | some .unsafePointer,some (.pointer u)=>Nat.blt 0 k&&Nat.beq t u&&Nat.beq (P.cellsOf u) k&&(P.info? u).isSome
 | _,_=>false
theorem Wy {E:Env}{ih:IH}{cx:Cx}{ops:Array Oper}{n d:Nat}{l:List (Nat×AV)}{a b:TypeId}{x:Operand}{p c:AV}{ty:TypeId}{pos:String}{af:Array Edge}{g:Option (Nat×Bool)}(ht:T h (cel p k t c::L)) (hw:A5 ops (Fr n l) ⟨some d,.convert a b x,ty,pos,af,g⟩=some true) (hx:opA E (Fr n l) x=some p) (hc:cvB E.P a b k t=true):Ek E ih cx ops [⟨some d,.convert a b x,ty,pos,af,g⟩] ⟨Fr n l,h⟩=some ⟨Fr n ((d,p)::l),h⟩:=by
 obtain ⟨F,⟨q,rfl,_,h2⟩,_⟩:=ht.act
 have e1:L7 E.P E.I (opA E (Fr n l)) h (.convert a b x)=some (.pt q 0 0):=by
  simp only [L7,hx]
  unfold cvB at hc
  unfold Mq
  split at hc
  ·next t' h3 h4 =>
   simp only [Bool.and_eq_true] at hc
   obtain ⟨c1,c2⟩:=hc
   split at c2
   ·next m hm =>
    simp only [h3,h4,h2]
    rw [if_pos ⟨by simp,Nat.le_of_ble_eq_true c1,by rw [hm]; rfl,by rw [hm]; simp⟩]
   ·cases c2
  ·next u h3 h4 =>
   simp only [Bool.and_eq_true] at hc
   obtain ⟨⟨⟨c1,c2⟩,c3⟩,c4⟩:=hc
   simp only [h3,h4,h2]
   rw [if_pos ⟨by simp,Nat.le_of_ble_eq_true c1,Nat.eq_of_beq_eq_true c2,Nat.eq_of_beq_eq_true c3,c4⟩]
  ·cases hc
 have e0:DW E.P (opA E (Fr n l)) h (.convert a b x)=none:=by
  simp only [DW,hx]
  unfold PJ
  split <;> first | rfl | (next hq=>cases hq) | (rename_i h5; cases h5)
 unfold Ek op1
 simp only [hw,e0,GB,Jl,e1,CF]
 rfl
theorem Wz {E:Env}{ih:IH}{cx:Cx}{ops:Array Oper}{n d:Nat}{l:List (Nat×AV)}{f x:Operand}{p:AV}{tys:Array TypeId}{fid:FuncId}{ty:TypeId}{pos:String}{af:Array Edge}{g:Option (Nat×Bool)}(hw:A5 ops (Fr n l) ⟨some d,.call ⟨.value f,#[x],tys⟩,ty,pos,af,g⟩=some true) (hf:opA E (Fr n l) f=some (.fn fid [] [])) (hx:opA E (Fr n l) x=some p) (hi:E.I fid=true):Ek E ih cx ops [⟨some d,.call ⟨.value f,#[x],tys⟩,ty,pos,af,g⟩] ⟨Fr n l,h⟩=some ⟨Fr n ((d,p)::l),h⟩:=by
 have e1:L7 E.P E.I (opA E (Fr n l)) h (.call ⟨.value f,#[x],tys⟩)=some p:=by
  simp [L7,hf,Fl,hx,hi]
 unfold Ek op1
 simp only [hw,DW,GB,Jl,e1,CF]
 rfl
/-- The bytes of a string as numbers. -/
def Bj (bs:List UInt8):List Int:=bs.map fun b=>(b.toNat:Int)
theorem Pt (a b:List UInt8):Bj (a++b)=Bj a++Bj b:=List.map_append
theorem HO (a:List UInt8):(Bj a).length=a.length:=List.length_map _
theorem PF {bs:List UInt8}:IQ h 1 (.st bs)=some ((Bj bs).map (cdK .u8).enc):=by
 simp [IQ,Bj,cdK,List.map_map,Function.comp_def]
theorem O8:∀ (bs:List UInt8),MO ((Bj bs).map (cdK .u8).enc)=some bs
 | []=>rfl
 | b::bs=>by
  have:=O8 bs
  simp only [Bj,List.map_cons] at this ⊢
  show (if 0<=(b.toNat:Int)/\(b.toNat:Int) < 256 then (MO _).map fun l=>(b.toNat:Int).toNat.toUInt8::l else none)=_
  rw [if_pos ⟨by omega,by have:=b.toNat_lt; omega⟩,this]
  simp
theorem XR {args:Array Operand}{tys:Array TypeId}{a:AV}(ht:T h (own_ (ocL k t o) a xs::L)) (hx:Fl ρ args.toList=some [a]) (hn:decide (0 < xs.length)=true):DW P ρ h (.call ⟨.builtin .unsafeSliceData,args,tys⟩)=some (eAt a (0:Int).toNat):=by
 obtain ⟨F,p,_⟩:=ht.act
 have hn:=of_decide_eq_true hn
 rcases p with ⟨rfl,rfl,_⟩ | ⟨b,es,F',rfl,h2,_⟩
 ·simp at hn
 ·obtain ⟨m,hm⟩:∃ m,xs.length=m + 1:=⟨xs.length - 1,by omega⟩
  simp [DW,hx,hm,eAt]
theorem S5 {ty el:TypeId}{bs:List UInt8}(ht:T h (own_ (ocL 1 el (ocV (cdK .u8))) e (Bj bs)::L)) (hu:P.underlying ty=some (.pointer el)) (hc:P.cellsOf el=1) (hn:decide (0 < bs.length)=true) (hk:okB bs=true):∃ h',LK P h ty (eAt e (0:Int).toNat) (.v (.int .i64 ((Bj bs).length:Int)))=some (.st bs,h')/\T h' L:=by
 obtain ⟨F,p,hn',_,hk0⟩:=ht.act
 have hn:=of_decide_eq_true hn
 have hl:=HO bs
 rcases p with ⟨rfl,h1,_⟩ | ⟨b,es,F',rfl,h2,rfl,h4⟩
 ·rw [h1] at hl; simp at hl; omega
 ·obtain ⟨rfl,rfl⟩:=h4.leaf_inv
  refine ⟨h.set b none,?_,hk0 _ fun c hc hlt=>?_⟩
  ·rw [show eAt (.rf b 0 (Bj bs).length (Bj bs).length) (0:Int).toNat = .pt b 0 0 from rfl]
   simp only [LK,hu,h2]
   have ht':(((Bj bs).map (cdK .u8).enc).take ((Bj bs).length:Int).toNat)=(Bj bs).map (cdK .u8).enc:=by
    rw [List.take_of_length_le]; simp
   simp only [ht',O8,hk]
   rw [if_pos ⟨trivial,trivial,trivial,hc,by omega,by simp⟩]
   rfl
  ·rw [List.getElem?_set,if_neg (by intro e; subst e; simp at hc)]
theorem Vr {t1 t2:TypeId}{x y:Operand}{a b:AV}{r:AV×Hp}(hx:ρ x=some a) (hy:ρ y=some b) (he:LK P h t1 a b=some r):Jl P ρ h (.call ⟨.builtin .unsafeString,#[x,y],#[t1,t2]⟩)=some r:=by
 show (match Fl ρ [x,y],[t1,t2] with | some [x,n],[t,_]=>LK P h t x n | _,_=>none)=some r
 simp only [Fl,hx,hy]
 exact he
end
def V7 (P:Program) (t:TypeId):Bool:=match P.underlying t with
 | some (.slice _)=>true
 | _=>false
theorem PT {P:Program}{t:TypeId}(h:V7 P t=true):∃ el,P.underlying t=some (.slice el):=by
 unfold V7 at h
 split at h
 ·next el he=>exact ⟨el,he⟩
 ·cases h
def XB:AV->Bool
 | .ag [_]=>false
 | _=>true
theorem SH {z:AV}(h:XB z=true):elm z.cel=z:=by
 cases z with
 | ag cs =>
  match cs,h with
  | [],_=>rfl
  | [x],h=>cases h
  | x::y::l,_=>rfl
 | _=>rfl
def zeB (P:Program) (el:TypeId):Bool:=match ET P el with
 | some z=>XB z
 | none=>false
def Wj (P:Program) (t:TypeId) (f off:Nat):Bool:=match P.underlying t with
 | some (.struct fs)=>match fs[f]? with
  | some fd=>match Bq P fd.type with
   | some (_ + 1)=>Nat.beq fd.offset off
   | _=>false
  | none=>false
 | _=>false
theorem SO {P:Program}{t:TypeId}{f off:Nat}(h:Wj P t f off=true):∃ fs fd q,P.underlying t=some (.struct fs)/\fs[f]? = some fd/\Bq P fd.type=some (q + 1)/\fd.offset=off:=by
 unfold Wj at h
 split at h
 ·next fs h1 =>
  split at h
  ·next fd h2 =>
   split at h
   ·next q h3=>exact ⟨fs,fd,q,h1,h2,h3,Nat.eq_of_beq_eq_true h⟩
   ·cases h
  ·cases h
 ·cases h
section
variable {P:Program}{h:Hp}{α:Type}{o:Oc α}{c:Cd α}{k bytes n:Nat}{t ty ty2:TypeId}{e y:AV}{xs ys:List α}{L:List Asn}{v:α}
theorem VH (ht:T h (own_ (ocL k t o) e xs::L)) (hu:V7 P ty=true):LJ P ty e=some (eI xs.length):=let ⟨_,h1⟩:=PT hu; UA ht h1
theorem XC {i:Int}{ki:IntKind}(ht:T h (own_ (ocL k t o) e xs::L)) (ha:apB P ty t k bytes=true) (hv:idx xs i=some v):Cz P h ty e (.v (.int ki i))=some (eAt e i.toNat):=by
 obtain ⟨i',z,a1,a2,a3,a4,_⟩:=KA ha
 have hu:P.underlying ty=some (.slice t):=by
  unfold Fj at a1
  split at a1
  ·next e he=>injection a1 with a1; rw [he,a1]
  ·cases a1
 exact VD ht hu (by rw [Bq,a2,<-a4]; rfl) hv
theorem Rx (ht:T h (own_ (ocL k t o) e xs::own_ (ocL k t o) y ys::L)) (hu:V7 P ty2=true) (ha:apB P ty t k bytes=true) (hc:Dy bytes (xs.length + ys.length)=true):∃ e' h',DH P h ty ty2 e y=some (e',h')/\T h' (own_ (ocL k t o) e' (xs++ys)::L):=by
 obtain ⟨_,h1⟩:=PT hu
 obtain ⟨i,z,a1,a2,a3,a4,a5,a6,a7,a8⟩:=KA ha
 exact Tk ht h1 a1 a2 a3 a4 (V8 a5) a6 a7 a8 hc
theorem Nf (ht:T h (own_ (ocL k t (ocV c)) e xs::L)) (hsy:Ig P ty2 y=true) (hel:IQ h k y=some (ys.map c.enc)) (ha:apB P ty t k bytes=true) (hc:Dy bytes (xs.length + ys.length)=true):∃ e' h',DH P h ty ty2 e y=some (e',h')/\T h' (own_ (ocL k t (ocV c)) e' (xs++ys)::L):=by
 obtain ⟨i,z,a1,a2,a3,a4,a5,a6,a7,a8⟩:=KA ha
 exact Rw ht hsy hel a1 a2 a3 a4 (V8 a5) a6 a7 a8 hc
theorem SZ {es:List AV}(hf:Fit o k) (ht:T h (els o es xs::L)) (hn:es.length=n) (ha:apB P ty t k bytes=true) (hz:zeB P t=true) (hb:Nat.ble (n * k) 65536=true):∃ e' h',Mr P h ty n (OU 0 es)=some (e',h')/\T h' (own_ (ocL k t o) e' xs::L):=by
 obtain ⟨i,z,a1,a2,a3,a4,a5,a6,a7,a8⟩:=KA ha
 unfold zeB at hz
 rw [a3] at hz
 exact UB hf ht hn a1 a2 a3 a4 (V8 a5) hb a6 a7 (SH hz)
theorem Q2 {z:AV}{m:Int}{kn kc:IntKind}{x0:α}(ht:T h L) (hx:∀ h,o.at_ h z x0 []) (ha:apB P ty t k bytes=true) (hz:ET P t=some z) (hc:Uf bytes m=true):∃ e' h',Jk P h ty (.v (.int kn m)) (.v (.int kc m))=some (e',h')/\T h' (own_ (ocL k t o) e' (List.replicate m.toNat x0)::L):=by
 obtain ⟨i,z',a1,a2,a3,a4,a5,a6,a7,a8⟩:=KA ha
 rw [hz] at a3
 injection a3 with a3
 subst a3
 exact Se ht hx a1 a2 hz a4 a6 a7 a8 hc
theorem Bb {f off:Nat}{p a:AV}(ht:T h (cel p k t a::L)) (hf:Wj P ty f off=true):EC P ty p f=some (ER p off):=by
 obtain ⟨fs,fd,q,h1,h2,h3,rfl⟩:=SO hf
 exact T0 ht h1 h2 h3
end
/-- What a call is handed, own or not, as it is told. -/
def SeeD {α:Type}(hp:Hp) (c:Cd α) (x:AV) (v:α):Prop:=∃ y,SeeV hp x y/\c.dec y=some v
def SeesD {α:Type}(hp:Hp) (s:Cs α) (xs:List AV) (a:α):Prop:=∃ ys,Sees hp xs ys/\s.dec ys=some a
theorem SeesD.nil {hp:Hp}:SeesD hp csN [] ():=⟨[],.nil,rfl⟩
theorem AM {α β:Type}{hp:Hp}{c:Cd α}{s:Cs β}{x:AV}{xs:List AV}{v:α}{a:β}(h1:SeeD hp c x v) (h2:SeesD hp s xs a):SeesD hp (csC c s) (x::xs) (v,a):=by
 obtain ⟨y,k1,k2⟩:=h1
 obtain ⟨ys,q1,q2⟩:=h2
 refine ⟨y::ys,.cons k1 q1,?_⟩
 show ((c.dec y).bind fun x=>(s.dec ys).map fun y=>(x,y))=_
 rw [k2,q2]; rfl
theorem AS {α:Type}{hp:Hp}{c:Cd α}{v:α}:SeeD hp c (c.enc v) v:=⟨_,.enc,c.de v⟩
theorem SeeD.e0 {α:Type}{hp:Hp}{c:Cd α}{k:Nat}:SeeD hp (cdL k c) .e0 []:=⟨.e0,.id rfl,rfl⟩
theorem SeeD.own {α:Type}{hp:Hp}{o:Oc α}{e:AV}{x:α}{L:List Asn}{i:Nat}(ht:T hp L) (hi:L[i]? = some (own_ o e x)):SeeD hp o.cd e x:=⟨_,.own ht hi,o.cd.de x⟩
section
variable {E:Env}{cx:Cx}{ops:Array Oper}{rest rest':List Oper}{K:St->Prop}{n n0 k T:Nat}{l:List (Nat×AV)}{hp:Hp}
theorem QE (hE:EnvOk E){kk d:Nat}{t a b:TypeId}{x:Operand}{p c:AV}{ty:TypeId}{pos:String}{af:Array Edge}{g:Option (Nat×Bool)}{L:List Asn}(hr:rest=⟨some d,.convert a b x,ty,pos,af,g⟩::rest') (ht:Go.Proofs.YtdjhmdbpcfnpgaaGreatDoor.T hp (cel p kk t c::L)) (hw:A5 ops (Fr n l) ⟨some d,.convert a b x,ty,pos,af,g⟩=some true) (hx:opA E (Fr n l) x=some p) (hc:cvB E.P a b kk t=true) (k:RunL E cx ops rest' ⟨Fr n ((d,p)::l),hp⟩ K):RunL E cx ops rest ⟨Fr n l,hp⟩ K :=
 AH hE 0 hr (Wy ht hw hx hc) k
theorem Ro (hE:EnvOk E){d:Nat}{f x:Operand}{p:AV}{tys:Array TypeId}{fid:FuncId}{ty:TypeId}{pos:String}{af:Array Edge}{g:Option (Nat×Bool)}(hr:rest=⟨some d,.call ⟨.value f,#[x],tys⟩,ty,pos,af,g⟩::rest') (hw:A5 ops (Fr n l) ⟨some d,.call ⟨.value f,#[x],tys⟩,ty,pos,af,g⟩=some true) (hf:opA E (Fr n l) f=some (.fn fid [] [])) (hx:opA E (Fr n l) x=some p) (hi:E.I fid=true) (k:RunL E cx ops rest' ⟨Fr n ((d,p)::l),hp⟩ K):RunL E cx ops rest ⟨Fr n l,hp⟩ K :=
 AH hE 0 hr (Wz hw hf hx hi) k
theorem RunL.call {α β:Type}{s:Cs α}{F:α->Option β}{er:β->AV}{a:α}{b:β}{xs:List AV}(hE:EnvOk E){d:Nat}{f:Operand}{args:Array Operand}{tys:Array TypeId}{ty:TypeId}{pos:String}{af:Array Edge}{g:Option (Nat×Bool)}{fid:FuncId}(hr:rest=⟨some d,.call ⟨.value f,args,tys⟩,ty,pos,af,g⟩::rest') (hw:A5 ops (Fr n l) ⟨some d,.call ⟨.value f,args,tys⟩,ty,pos,af,g⟩=some true)
  (hf:opA E (Fr n l) f=some (.fn fid [] [])) (hi:E.I fid=false) (hX:E.X fid=some (FZ s F er)) (ha:Fl (opA E (Fr n l)) args.toList=some xs) (hv:Sns hp s xs a) (hok:xs.all C5=true\/Cq (er b)=true) (hF:F a=some b) (k:RunL E cx ops rest' ⟨Fr n ((d,er b)::l),hp⟩ K):RunL E cx ops rest ⟨Fr n l,hp⟩ K :=
 AH hE 0 hr (Om hw hf hi hX ha hv hok hF) k
end
section
variable {E:Env}{cx:Cx}{ops:Array Oper}{s:St}{Q:Ex->St->Prop}{id:Nat}{A:St->Prop}{c:Code}
theorem Nc (h:RunL E cx ops ops.toList s fun s'=>∃ s1,A s1/\WkY E s' s1) (q:∀ s1,A s1->Q .normal s1):SemY E cx (.region id ops false) s Q :=
 HN (e0:= .normal) (A:=A) (SemY.regionL (Q:=fun e s'=>e = .normal/\∃ s2,A s2/\WkY E s' s2) (RunL.mono h fun _s' hs=>⟨rfl,hs⟩)) q
theorem FX (h:SemY E cx c s fun e s'=>∃ s2,WkY E s' s2/\Q e s2):SemY E cx c s Q:=by
 intro ro base Qm a w Z R h1 h2 h3 k
 refine h ro base Qm a w Z R h1 h2 h3 fun e s' a' w' Z' R' hQ sr st=>?_
 obtain ⟨s2,hw,hq⟩:=hQ
 obtain ⟨Z2,R2,sr2,st2⟩:=hw base w' Z' R' a' sr
 exact k e s2 a' w' Z2 R2 hq sr2 (st.trans st2)
end
theorem kr.{u}{α:Sort u}{a b:α}(h:a=b:=by kernel_rfl):a=b:=h
/-- The slots of a frame that are told. -/
def slG:Nat->List (Option AV)->List (Nat×AV)
 | _,[]=>[]
 | i,some x::r=>(i,x)::slG (i + 1) r
 | i,none::r=>slG (i + 1) r
theorem RQ:∀ (fr:List (Option AV)) (i t:Nat) (x:AV),lk (slG i fr) t=some x->∃ j,t=i + j/\fr[j]? = some (some x)
 | [],_,_,_,h=>by cases h
 | some y::r,i,t,x,h=>by
  rw [slG,Gb] at h
  split at h
  ·next e=>injection h with h; subst e h; exact ⟨0,rfl,rfl⟩
  ·obtain ⟨j,h1,h2⟩:=RQ r (i + 1) t x h
   exact ⟨j + 1,by omega,by simpa using h2⟩
 | none::r,i,t,x,h=>by
  obtain ⟨j,h1,h2⟩:=RQ r (i + 1) t x h
  exact ⟨j + 1,by omega,by simpa using h2⟩
def frO (o:Option St):List (Nat×AV):=match o with
 | some s=>slG 0 s.fr
 | none=>[]
def Vj (o:Option St):Option (Nat×Hp):=match o with
 | some s=>some (s.fr.length,s.hp)
 | none=>none
section
variable {E:Env}{cx:Cx}{ops:Array Oper}{rest:List Oper}{K:St->Prop}{n n0 k0 m:Nat}{l l':List (Nat×AV)}{hp hp':Hp}{Q:Ex->St->Prop}{id:Nat}{c:Code}
theorem NF {o:Option St}(h:Vj o=some (n,hp)):∃ fr,o=some ⟨fr,hp⟩/\fr.length=n/\frO o=slG 0 fr:=by
 unfold Vj at h
 split at h
 ·next s =>
  injection h with h
  injection h with h1 h2
  subst h2
  exact ⟨s.fr,rfl,h1,rfl⟩
 ·cases h
theorem SR.comp {base:Bs}{w:World}{Z:Nat->Prop}{R:List RI}{a:Act}{fr:List (Option AV)}(sr:SR E base w Z R ⟨fr,hp⟩ a) (hl:fr.length=n):SR E base w Z R ⟨Fr n (slG 0 fr),hp⟩ a:=by
 refine ⟨sr.hh,⟨?_,fun t x hx=>sr.fr.2 t x ?_⟩,sr.mks,sr.gl,sr.bs⟩
 ·rw [D1,<-hl]; exact sr.fr.1
 ·rw [Dv] at hx
  split at hx
  ·injection hx with hx
   obtain ⟨j,h1,h2⟩:=RQ fr 0 t x hx
   rw [Nat.zero_add] at h1
   subst h1
   exact h2
  ·cases hx
/-- Some operations: the state behind them is computed. -/
theorem DL (hE:EnvOk E) (m:Nat) (k:RunL E cx ops (rest.drop m) ⟨Fr n (frO (Ek E (evC E 0) ⟨none,false⟩ ops (rest.take m) ⟨Fr n l,hp⟩)),hp⟩ K) (h:Vj (Ek E (evC E 0) ⟨none,false⟩ ops (rest.take m) ⟨Fr n l,hp⟩)=some (n,hp):=by kernel_rfl):RunL E cx ops rest ⟨Fr n l,hp⟩ K:=by
 obtain ⟨fr,h1,h2,h3⟩:=NF h
 rw [h3] at k
 refine O3 hE m h1 ?_
 exact fun ro base Q a w Z R hro sr hy q=>k ro base Q a w Z R hro (sr.comp h2) hy q
theorem WP (hE:EnvOk E) (m:Nat) (k:RunS E ops (rest.drop m) ⟨Fr n (frO (Ek E (evC E 0) ⟨none,false⟩ ops (rest.take m) ⟨Fr n l,hp⟩)),hp⟩ K) (h:Vj (Ek E (evC E 0) ⟨none,false⟩ ops (rest.take m) ⟨Fr n l,hp⟩)=some (n,hp):=by kernel_rfl):RunS E ops rest ⟨Fr n l,hp⟩ K:=by
 obtain ⟨fr,h1,h2,h3⟩:=NF h
 rw [h3] at k
 refine O4 hE m h1 ?_
 exact fun base Q a w Z R sr q=>k base Q a w Z R (sr.comp h2) q
theorem WQ (hE:EnvOk E) (m:Nat) (hp':Hp) (k:RunY E cx ops (rest.drop m) ⟨Fr n (frO (Ek E (evC E 0) ⟨none,false⟩ ops (rest.take m) ⟨Fr n l,hp⟩)),hp'⟩ K) (h:Vj (Ek E (evC E 0) ⟨none,false⟩ ops (rest.take m) ⟨Fr n l,hp⟩)=some (n,hp'):=by kernel_rfl):RunY E cx ops rest ⟨Fr n l,hp⟩ K:=by
 obtain ⟨fr,h1,h2,h3⟩:=NF h
 rw [h3] at k
 refine Rr hE m h1 ?_
 exact fun ro base Q a w Z R hro sr hy q=>k ro base Q a w Z R hro (sr.comp h2) hy q
/-- All that are left. -/
theorem El (hE:EnvOk E) (l':List (Nat×AV)) (k:K ⟨Fr n l',hp⟩) (h:Pd (Ek E (evC E 0) ⟨none,false⟩ ops rest ⟨Fr n l,hp⟩) l'=some (n,xs2 l',hp):=by kernel_rfl):RunL E cx ops rest ⟨Fr n l,hp⟩ K :=
 AG hE rest.length l' hp (by rw [List.take_length]; exact h) (AE (by simp) k)
theorem Ar (hE:EnvOk E){s:St}(h:Pd (Ek E (evC E 0) ⟨none,false⟩ ops rest s) l'=some (n,xs2 l',hp):=by kernel_rfl):RunS E ops rest s fun s'=>Wk E s' ⟨Fr n l',hp⟩ :=
 AD hE rest.length l' hp (by rw [List.take_length]; exact h) (AJ (by simp) Wk.refl)
theorem Th (hE:EnvOk E) (l':List (Nat×AV)) (k:Q .normal ⟨Fr n l',hp⟩) (h:Pd (Ek E (evC E 0) ⟨none,false⟩ ops ops.toList ⟨Fr n l,hp⟩) l'=some (n,xs2 l',hp):=by kernel_rfl):SemY E cx (.region id ops false) ⟨Fr n l,hp⟩ Q :=
 SemY.regionL (El hE l' k h)
theorem GL (hE:EnvOk E) (l':List (Nat×AV)) (k:SemY E cx c ⟨Fr n l',hp⟩ Q) (h:Pd (Ek E (evC E 0) ⟨none,false⟩ ops ops.toList ⟨Fr n l,hp⟩) l'=some (n,xs2 l',hp):=by kernel_rfl):SemY E cx (.seq (.region id ops false) c) ⟨Fr n l,hp⟩ Q :=
 Aa (Th hE l' k h)
theorem Em (hE:EnvOk E) (l':List (Nat×AV)) (hp':Hp) (k:Q .normal ⟨Fr n l',hp'⟩) (h:Pd (Ek E (evC E 0) ⟨none,false⟩ ops ops.toList ⟨Fr n l,hp⟩) l'=some (n,xs2 l',hp'):=by kernel_rfl):Sem E cx (.region id ops false) ⟨Fr n l,hp⟩ Q :=
 AL (Ar hE h) k
theorem Ae (hE:EnvOk E) (l':List (Nat×AV)) (hp':Hp) (k:Sem E cx c ⟨Fr n l',hp'⟩ Q) (h:Pd (Ek E (evC E 0) ⟨none,false⟩ ops ops.toList ⟨Fr n l,hp⟩) l'=some (n,xs2 l',hp'):=by kernel_rfl):Sem E cx (.seq (.region id ops false) c) ⟨Fr n l,hp⟩ Q :=
 AI (Em hE l' hp' k h)
end
/- trestle/trestlelaw03.Made -/
noncomputable def B5:Code:=BX Tryz.f9
def FG (x0:(List (Int×Int×Int×Bool×Bool))) (c2:(List AF)) (c3:(List UInt8)) (c4:Int) (v6:(Int×Int×Int×Bool×Bool)):Option (((List (List UInt8)))) :=
 if ((Ua .u8 v6.2.2.1 4)!=0)=true then
 if (Cn ((wr .u8 (v6.2.2.1 + 1)).tmod 4) (([97,98,99,100]:List UInt8).length:Int) ([97,98,99,100]:List UInt8).length)=true then
 if (Cn 0 (1:Int) ((([97,98,99,100]:List UInt8).take (([97,98,99,100]:List UInt8).length:Int).toNat).drop ((wr .u8 (v6.2.2.1 + 1)).tmod 4).toNat).length)=true then
 if (Dy 16 ([((((([97,98,99,100]:List UInt8).take (([97,98,99,100]:List UInt8).length:Int).toNat).drop (v6.2.2.1.tmod 4).toNat).take (1:Int).toNat).drop (0:Int).toNat)].length + 1))=true then
 some ([((((([97,98,99,100]:List UInt8).take (([97,98,99,100]:List UInt8).length:Int).toNat).drop (v6.2.2.1.tmod 4).toNat).take (1:Int).toNat).drop (0:Int).toNat)]++[((((([97,98,99,100]:List UInt8).take (([97,98,99,100]:List UInt8).length:Int).toNat).drop ((wr .u8 (v6.2.2.1 + 1)).tmod 4).toNat).take (1:Int).toNat).drop (0:Int).toNat)])
 else none
 else none
 else none
 else
 some [((((([97,98,99,100]:List UInt8).take (([97,98,99,100]:List UInt8).length:Int).toNat).drop (v6.2.2.1.tmod 4).toNat).take (1:Int).toNat).drop (0:Int).toNat)]
def EH (x0:(List (Int×Int×Int×Bool×Bool))) (c3:(List UInt8)) (c4:Int) (j27:(List AF)×Int×Int×Int×Bool×Bool×Int×(List UInt8)×Bool×Int×(List (List UInt8))×Bool):Option (((List AF)×Int×Int×Int×Bool×Bool×Int×(List UInt8)×Bool×Int×(List (List UInt8)))) :=
 if j27.2.2.2.2.2.2.2.2.2.2.2=true then
 some (j27.1,j27.2.1,j27.2.2.1,j27.2.2.2.1,j27.2.2.2.2.1,j27.2.2.2.2.2.1,j27.2.2.2.2.2.2.1,c3,j27.2.2.2.2.2.2.2.2.1,j27.2.2.2.2.2.2.2.2.2.1,j27.2.2.2.2.2.2.2.2.2.2.1)
 else
 some (j27.1,j27.2.1,j27.2.2.1,j27.2.2.2.1,j27.2.2.2.2.1,j27.2.2.2.2.2.1,j27.2.2.2.2.2.2.1,j27.2.2.2.2.2.2.2.1,j27.2.2.2.2.2.2.2.2.1,j27.2.2.2.2.2.2.2.2.2.1,j27.2.2.2.2.2.2.2.2.2.2.1)
def HI (x0:(List (Int×Int×Int×Bool×Bool))) (c3:(List UInt8)) (c4:Int) (r40:(List AF)×Int×Int×Int×Bool×Bool×Int×(List UInt8)×Bool×Int×(List (List UInt8))):Option ((Bool)) :=
 if (r40.2.2.2.2.2.2.1==6)=true then
 some (r40.2.2.2.2.2.2.1==6)
 else
 some (r40.2.2.2.2.2.2.1==7)
def HK (x0:(List (Int×Int×Int×Bool×Bool))) (c3:(List UInt8)) (c4:Int) (r40:(List AF)×Int×Int×Int×Bool×Bool×Int×(List UInt8)×Bool×Int×(List (List UInt8))):Option (((List AF)×Int×(List UInt8)×Bool×Int)) :=
 if (r40.2.2.2.2.2.2.1==10)=true then
 some (r40.1,r40.2.2.2.2.2.2.1,r40.2.2.2.2.2.2.2.1,r40.2.2.2.2.2.2.2.2.1,(wr .i64 (r40.2.2.1.tmod 64)))
 else
 some (r40.1,r40.2.2.2.2.2.2.1,r40.2.2.2.2.2.2.2.1,r40.2.2.2.2.2.2.2.2.1,r40.2.2.2.2.2.2.2.2.2.1)
def HJ (x0:(List (Int×Int×Int×Bool×Bool))) (c3:(List UInt8)) (c4:Int) (r40:(List AF)×Int×Int×Int×Bool×Bool×Int×(List UInt8)×Bool×Int×(List (List UInt8))) (r1722:Bool):Option (((List AF)×Int×(List UInt8)×Bool×(List (List UInt8))×Int)) :=
 if r1722=true then
 some (r40.1,r40.2.2.2.2.2.2.1,r40.2.2.2.2.2.2.2.1,r40.2.2.2.2.1,r40.2.2.2.2.2.2.2.2.2.2,r40.2.2.2.2.2.2.2.2.2.1)
 else
 (HK x0 c3 c4 r40).bind fun r2056 =>
 some (r2056.1,r2056.2.1,r2056.2.2.1,r2056.2.2.2.1,[],r2056.2.2.2.2)
def HH (x0:(List (Int×Int×Int×Bool×Bool))) (c3:(List UInt8)) (c4:Int) (r40:(List AF)×Int×Int×Int×Bool×Bool×Int×(List UInt8)×Bool×Int×(List (List UInt8))):Option (((List AF)×Int×(List UInt8)×Bool×(List (List UInt8))×Int)) :=
 if (r40.2.2.2.2.2.2.1==5)=true then
 some (r40.1,r40.2.2.2.2.2.2.1,r40.2.2.2.2.2.2.2.1,r40.2.2.2.2.1,[],r40.2.2.2.2.2.2.2.2.2.1)
 else
 (HI x0 c3 c4 r40).bind fun r1722 =>
 (HJ x0 c3 c4 r40 r1722).bind fun r2057 =>
 some (r2057.1,r2057.2.1,r2057.2.2.1,r2057.2.2.2.1,r2057.2.2.2.2.1,r2057.2.2.2.2.2)
def Hr (x0:(List (Int×Int×Int×Bool×Bool))) (c3:(List UInt8)) (c4:Int) (r40:(List AF)×Int×Int×Int×Bool×Bool×Int×(List UInt8)×Bool×Int×(List (List UInt8))):Option (((List AF)×Int×(List UInt8)×Bool×(List (List UInt8))×Int)) :=
 if (r40.2.2.2.2.2.2.1==4)=true then
 some (r40.1,r40.2.2.2.2.2.2.1,r40.2.2.2.2.2.2.2.1,r40.2.2.2.2.1,[],(wr .i64 (1 + (wr .i64 (r40.2.2.1.tmod 2)))))
 else
 (HH x0 c3 c4 r40).bind fun r2058 =>
 some (r2058.1,r2058.2.1,r2058.2.2.1,r2058.2.2.2.1,r2058.2.2.2.2.1,r2058.2.2.2.2.2)
def FH (x0:(List (Int×Int×Int×Bool×Bool))) (c3:(List UInt8)) (c4:Int) (r40:(List AF)×Int×Int×Int×Bool×Bool×Int×(List UInt8)×Bool×Int×(List (List UInt8))):Option (((List AF)×(List UInt8)×Int×(List UInt8)×Bool×(List (List UInt8))×Int)) :=
 if (r40.2.2.2.2.2.2.1==1)=true then
 (idx r40.2.2.2.2.2.2.2.2.2.2 0).bind fun v42 =>
 some (r40.1,v42,r40.2.2.2.2.2.2.1,r40.2.2.2.2.2.2.2.1,r40.2.2.2.2.2.2.2.2.1,r40.2.2.2.2.2.2.2.2.2.2,r40.2.2.2.2.2.2.2.2.2.1)
 else
 (Hr x0 c3 c4 r40).bind fun r2059 =>
 some (r2059.1,c3,r2059.2.1,r2059.2.2.1,r2059.2.2.2.1,r2059.2.2.2.2.1,r2059.2.2.2.2.2)
def DI (x0:(List (Int×Int×Int×Bool×Bool))):Nat->(List AF)->(List UInt8)->Int->Option (((List AF)))
 | 0,_,_,_=>none
 | f + 1,c2,c3,c4 =>
  if (decide (c4 < (((x0.take (mnI (x0.length:Int) 8).toNat).drop (0:Int).toNat).length:Int)))=true then
  (idx ((x0.take (mnI (x0.length:Int) 8).toNat).drop (0:Int).toNat) c4).bind fun v6 =>
  if (Cn (v6.2.2.1.tmod 4) (([97,98,99,100]:List UInt8).length:Int) ([97,98,99,100]:List UInt8).length)=true then
  if (Cn 0 (1:Int) ((([97,98,99,100]:List UInt8).take (([97,98,99,100]:List UInt8).length:Int).toNat).drop (v6.2.2.1.tmod 4).toNat).length)=true then
  (FG x0 c2 c3 c4 v6).bind fun r14 =>
  (if v6.2.2.2.2=true then some (c2,v6.1,v6.2.1,v6.2.2.1,v6.2.2.2.1,true,(wr .u8 (1 + (v6.1.tmod 10))),[],false,0,r14,((wr .u8 (1 + (v6.1.tmod 10)))!=1)) else some (c2,v6.1,v6.2.1,v6.2.2.1,v6.2.2.2.1,false,(wr .u8 (1 + (v6.1.tmod 10))),[],false,0,r14,false)).bind fun j27 =>
  (EH x0 c3 c4 j27).bind fun r40 =>
  (FH x0 c3 c4 r40).bind fun r2060 =>
  if (Dy 64 (r2060.1.length + 1))=true then
  DI x0 f (r2060.1++[r2060.2.2]) r2060.2.1 (wr .i64 (c4 + 1))
  else none
  else none
  else none
  else
  some c2
def FP (x0:(List (Int×Int×Int×Bool×Bool))):Option ((List AF)) :=
 if (Cn 0 (mnI (x0.length:Int) 8) x0.length)=true then
 (DI x0 100000 [] [] 0).bind fun r2064 =>
 some r2064
 else none
def Hg:Cs (((List (Int×Int×Int×Bool×Bool)))×Unit):=(csC (cdL 5 (cdA (csC (cdK .u8) (csC (cdK .u8) (csC (cdK .u8) (csC cdB (csE cdB))))) (fun _=>rfl))) csN)
def Hk (r:(List AF)):AV:=(cdL 5 AB).enc r
theorem Km (x0:(List (Int×Int×Int×Bool×Bool))) (c2:(List AF)) (c3:(List UInt8)) (c4:Int) (v6:(Int×Int×Int×Bool×Bool)) (r:((List (List UInt8)))) (h:FG x0 c2 c3 c4 v6=some r):Sem E0 ⟨none,false⟩ (pc B5 [1,1,1,0,1,0,0,1,1,0,0,1,1,1,0,1]) ⟨Fr 98 [(3,hd 0 (c2.map AB.enc)),(4,.st c3),(6,.pt 1 0 0),(7,.pt 2 0 0),(8,hd 3 ([((((([97,98,99,100]:List UInt8).take (([97,98,99,100]:List UInt8).length:Int).toNat).drop (v6.2.2.1.tmod 4).toNat).take (1:Int).toNat).drop (0:Int).toNat)].map cdS.enc)),(13,.sl 5 (((x0.take (mnI (x0.length:Int) 8).toNat).drop (0:Int).toNat).map (cdA (csC (cdK .u8) (csC (cdK .u8) (csC (cdK .u8) (csC cdB (csE cdB))))) (fun _=>rfl)).enc)),(14,.j (((x0.take (mnI (x0.length:Int) 8).toNat).drop (0:Int).toNat).length:Int)),(15,.j c4),(33,.b ((Ua .u8 v6.2.2.1 4)!=0))],[mk 5 66 (c2.map AB.enc),some ⟨5,63,[.ag [.v (.int .u8 v6.1),.v (.int .u8 v6.2.1),.v (.int .u8 v6.2.2.1),.b v6.2.2.2.1,.b v6.2.2.2.2]],false⟩,some ⟨5,66,[.ag [.v (.int .u8 (wr .u8 (1 + (v6.1.tmod 10)))),.st [],.b false,.e0,.j 0]],false⟩,mk 1 9 ([((((([97,98,99,100]:List UInt8).take (([97,98,99,100]:List UInt8).length:Int).toNat).drop (v6.2.2.1.tmod 4).toNat).take (1:Int).toNat).drop (0:Int).toNat)].map cdS.enc)]⟩ (fun e s=>e = .normal/\Wk E0 s ⟨Fr 98 [(3,hd 0 (c2.map AB.enc)),(4,.st c3),(6,.pt 1 0 0),(7,.pt 2 0 0),(8,hd 3 (r.map cdS.enc)),(13,.sl 5 (((x0.take (mnI (x0.length:Int) 8).toNat).drop (0:Int).toNat).map (cdA (csC (cdK .u8) (csC (cdK .u8) (csC (cdK .u8) (csC cdB (csE cdB))))) (fun _=>rfl)).enc)),(14,.j (((x0.take (mnI (x0.length:Int) 8).toNat).drop (0:Int).toNat).length:Int)),(15,.j c4)],[mk 5 66 (c2.map AB.enc),some ⟨5,63,[.ag [.v (.int .u8 v6.1),.v (.int .u8 v6.2.1),.v (.int .u8 v6.2.2.1),.b v6.2.2.2.1,.b v6.2.2.2.2]],false⟩,some ⟨5,66,[.ag [.v (.int .u8 (wr .u8 (1 + (v6.1.tmod 10)))),.st [],.b false,.e0,.j 0]],false⟩,mk 1 9 (r.map cdS.enc)]⟩):=by
 unfold FG at h;refine AU (b:=((Ua .u8 v6.2.2.1 4)!=0)) kr (fun hb9=>?_) (fun hb9=>?_)
 ·rw [if_pos hb9] at h
  by_cases hk10:(Cn ((wr .u8 (v6.2.2.1 + 1)).tmod 4) (([97,98,99,100]:List UInt8).length:Int) ([97,98,99,100]:List UInt8).length)=true
  case neg=>rw [if_neg hk10] at h; cases h
  rw [if_pos hk10] at h;by_cases hk11:(Cn 0 (1:Int) ((([97,98,99,100]:List UInt8).take (([97,98,99,100]:List UInt8).length:Int).toNat).drop ((wr .u8 (v6.2.2.1 + 1)).tmod 4).toNat).length)=true
  case neg=>rw [if_neg hk11] at h; cases h
  rw [if_pos hk11] at h;by_cases hk12:(Dy 16 ([((((([97,98,99,100]:List UInt8).take (([97,98,99,100]:List UInt8).length:Int).toNat).drop (v6.2.2.1.tmod 4).toNat).take (1:Int).toNat).drop (0:Int).toNat)].length + 1))=true
  case neg=>rw [if_neg hk12] at h; cases h
  rw [if_pos hk12] at h
  let p1:Option Blk:=mk 1 9 (([((((([97,98,99,100]:List UInt8).take (([97,98,99,100]:List UInt8).length:Int).toNat).drop (v6.2.2.1.tmod 4).toNat).take (1:Int).toNat).drop (0:Int).toNat)]++[((((([97,98,99,100]:List UInt8).take (([97,98,99,100]:List UInt8).length:Int).toNat).drop ((wr .u8 (v6.2.2.1 + 1)).tmod 4).toNat).take (1:Int).toNat).drop (0:Int).toNat)]).map cdS.enc)
  let p2:Option Blk:=some ⟨5,66,[.ag [.v (.int .u8 (wr .u8 (1 + (v6.1.tmod 10)))),.st [],.b false,.e0,.j 0]],false⟩
  let p3:Option Blk:=some ⟨5,63,[.ag [.v (.int .u8 v6.1),.v (.int .u8 v6.2.1),.v (.int .u8 v6.2.2.1),.b v6.2.2.2.1,.b v6.2.2.2.2]],false⟩
  let p4:Option Blk:=mk 5 66 (c2.map AB.enc)
  let p5:Nat×AV:=(15,.j c4)
  let p6:Nat×AV:=(14,.j (((x0.take (mnI (x0.length:Int) 8).toNat).drop (0:Int).toNat).length:Int))
  let p7:Nat×AV:=(13,.sl 5 (((x0.take (mnI (x0.length:Int) 8).toNat).drop (0:Int).toNat).map (cdA (csC (cdK .u8) (csC (cdK .u8) (csC (cdK .u8) (csC cdB (csE cdB))))) (fun _=>rfl)).enc))
  let p8:Nat×AV:=(7,.pt 2 0 0)
  let p9:Nat×AV:=(6,.pt 1 0 0)
  let p10:Nat×AV:=(3,hd 0 (c2.map AB.enc))
  refine AL (s1:=⟨Fr 98 [p10,(4,.st c3),p9,p8,(8,hd 3 (([((((([97,98,99,100]:List UInt8).take (([97,98,99,100]:List UInt8).length:Int).toNat).drop (v6.2.2.1.tmod 4).toNat).take (1:Int).toNat).drop (0:Int).toNat)]++[((((([97,98,99,100]:List UInt8).take (([97,98,99,100]:List UInt8).length:Int).toNat).drop ((wr .u8 (v6.2.2.1 + 1)).tmod 4).toNat).take (1:Int).toNat).drop (0:Int).toNat)]).map cdS.enc)),p7,p6,p5],[p4,p3,p2,p1]⟩) ?_ ?_
  ·let p11:Option Blk:=mk 1 9 ([((((([97,98,99,100]:List UInt8).take (([97,98,99,100]:List UInt8).length:Int).toNat).drop (v6.2.2.1.tmod 4).toNat).take (1:Int).toNat).drop (0:Int).toNat)].map cdS.enc)
   let p12:Nat×AV:=(34,hd 3 ([((((([97,98,99,100]:List UInt8).take (([97,98,99,100]:List UInt8).length:Int).toNat).drop (v6.2.2.1.tmod 4).toNat).take (1:Int).toNat).drop (0:Int).toNat)].map cdS.enc))
   refine AD (n:=98) AC 5 [p10,(4,.st c3),p9,p8,p7,p6,p5,p12,(38,.v (.int .u8 ((wr .u8 (v6.2.2.1 + 1)).tmod 4)))] [p4,p3,p2,p11] kr ?_;refine Aw AC 0 rfl (BH (AA rfl) rfl (EO (a:= .st [97,98,99,100]) (l:=(some (.v (.int .u8 ((wr .u8 (v6.2.2.1 + 1)).tmod 4))))) (u:=none) (m:=none) kr kr kr rfl (FY (bs:=[97,98,99,100]) (lo:=((wr .u8 (v6.2.2.1 + 1)).tmod 4)) (hi:=(([97,98,99,100]:List UInt8).length:Int)) kr (Fd (KY hk10)) rfl hk10))) ?_;refine Aw AC 0 rfl (BH (AA rfl) rfl (EO (a:= .st ((([97,98,99,100]:List UInt8).take (([97,98,99,100]:List UInt8).length:Int).toNat).drop ((wr .u8 (v6.2.2.1 + 1)).tmod 4).toNat)) (l:=none) (u:=(some (.j 1))) (m:=none) kr kr kr rfl (FY (bs:=((([97,98,99,100]:List UInt8).take (([97,98,99,100]:List UInt8).length:Int).toNat).drop ((wr .u8 (v6.2.2.1 + 1)).tmod 4).toNat)) (lo:=0) (hi:=(1:Int)) kr rfl (Fd (Ji hk11)) hk11))) ?_
   let p13:Option Blk:=mk 1 9 ([((((([97,98,99,100]:List UInt8).take (([97,98,99,100]:List UInt8).length:Int).toNat).drop ((wr .u8 (v6.2.2.1 + 1)).tmod 4).toNat).take (1:Int).toNat).drop (0:Int).toNat)].map cdS.enc)
   refine AD (n:=98) AC 1 [p10,(4,.st c3),p9,p8,p7,p6,p5,p12,(41,hd 4 ([((((([97,98,99,100]:List UInt8).take (([97,98,99,100]:List UInt8).length:Int).toNat).drop ((wr .u8 (v6.2.2.1 + 1)).tmod 4).toNat).take (1:Int).toNat).drop (0:Int).toNat)].map cdS.enc))] [p4,p3,p2,p11,p13] kr ?_;refine Aw AC 0 rfl (Ug (AA rfl) rfl kr kr (J0 (a:=hd 3 ([((((([97,98,99,100]:List UInt8).take (([97,98,99,100]:List UInt8).length:Int).toNat).drop (v6.2.2.1.tmod 4).toNat).take (1:Int).toNat).drop (0:Int).toNat)].map cdS.enc)) (b:=hd 4 ([((((([97,98,99,100]:List UInt8).take (([97,98,99,100]:List UInt8).length:Int).toNat).drop ((wr .u8 (v6.2.2.1 + 1)).tmod 4).toNat).take (1:Int).toNat).drop (0:Int).toNat)].map cdS.enc)) kr kr (O6 (c:=cdS) (xs:=[((((([97,98,99,100]:List UInt8).take (([97,98,99,100]:List UInt8).length:Int).toNat).drop (v6.2.2.1.tmod 4).toNat).take (1:Int).toNat).drop (0:Int).toNat)]) (vs:=[((((([97,98,99,100]:List UInt8).take (([97,98,99,100]:List UInt8).length:Int).toNat).drop ((wr .u8 (v6.2.2.1 + 1)).tmod 4).toNat).take (1:Int).toNat).drop (0:Int).toNat)]) (k:=1) (bytes:=16) (el:=9) kr kr (PE (t:=9) kr) (List.cons_ne_nil _ _) kr hk12))) ?_;refine AD (n:=98) AC 1 [p10,(4,.st c3),p9,p8,(8,hd 5 (([((((([97,98,99,100]:List UInt8).take (([97,98,99,100]:List UInt8).length:Int).toNat).drop (v6.2.2.1.tmod 4).toNat).take (1:Int).toNat).drop (0:Int).toNat)]++[((((([97,98,99,100]:List UInt8).take (([97,98,99,100]:List UInt8).length:Int).toNat).drop ((wr .u8 (v6.2.2.1 + 1)).tmod 4).toNat).take (1:Int).toNat).drop (0:Int).toNat)]).map cdS.enc)),p7,p6,p5] [p4,p3,p2,none,p13,p1] kr ?_;exact AJ rfl (BC [0,1,2,5] ⟨⟨_,rfl,DV⟩,⟨_,rfl,EP⟩,⟨_,rfl,EP⟩,⟨_,rfl,DV⟩,trivial⟩ ⟨DX (b':=0) kr kr,lv,lv,lv,DX (b':=5) kr kr,lv,lv,lv,trivial⟩)
  have hq:=OI h; subst hq;exact ⟨rfl,(BC [0,1,2,3] ⟨⟨_,rfl,DV⟩,⟨_,rfl,EP⟩,⟨_,rfl,EP⟩,⟨_,rfl,DV⟩,trivial⟩ ⟨DX (b':=0) kr kr,lv,lv,lv,DX (b':=3) kr kr,lv,lv,lv,trivial⟩)⟩
 ·rw [Bx hb9] at h
  refine Ax ?_;have hq:=OI h; subst hq;exact ⟨rfl,(BC [0,1,2,3] ⟨⟨_,rfl,DV⟩,⟨_,rfl,EP⟩,⟨_,rfl,EP⟩,⟨_,rfl,DV⟩,trivial⟩ ⟨DX (b':=0) kr kr,lv,lv,lv,DX (b':=3) kr kr,lv,lv,lv,trivial⟩)⟩
theorem Kn (x0:(List (Int×Int×Int×Bool×Bool))) (c3:(List UInt8)) (c4:Int) (j27:(List AF)×Int×Int×Int×Bool×Bool×Int×(List UInt8)×Bool×Int×(List (List UInt8))×Bool) (r:((List AF)×Int×Int×Int×Bool×Bool×Int×(List UInt8)×Bool×Int×(List (List UInt8)))) (h:EH x0 c3 c4 j27=some r):Sem E0 ⟨none,false⟩ (pc B5 [1,1,1,0,1,0,0,1,1,0,0,1,1,1,1,0,1]) ⟨Fr 98 [(3,hd 0 (j27.1.map AB.enc)),(4,.st c3),(6,.pt 1 0 0),(7,.pt 2 0 0),(8,hd 3 (j27.2.2.2.2.2.2.2.2.2.2.1.map cdS.enc)),(13,.sl 5 (((x0.take (mnI (x0.length:Int) 8).toNat).drop (0:Int).toNat).map (cdA (csC (cdK .u8) (csC (cdK .u8) (csC (cdK .u8) (csC cdB (csE cdB))))) (fun _=>rfl)).enc)),(14,.j (((x0.take (mnI (x0.length:Int) 8).toNat).drop (0:Int).toNat).length:Int)),(15,.j c4),(49,.b j27.2.2.2.2.2.2.2.2.2.2.2)],[mk 5 66 (j27.1.map AB.enc),some ⟨5,63,[.ag [.v (.int .u8 j27.2.1),.v (.int .u8 j27.2.2.1),.v (.int .u8 j27.2.2.2.1),.b j27.2.2.2.2.1,.b j27.2.2.2.2.2.1]],false⟩,some ⟨5,66,[.ag [.v (.int .u8 j27.2.2.2.2.2.2.1),.st j27.2.2.2.2.2.2.2.1,.b j27.2.2.2.2.2.2.2.2.1,.e0,.j j27.2.2.2.2.2.2.2.2.2.1]],false⟩,mk 1 9 (j27.2.2.2.2.2.2.2.2.2.2.1.map cdS.enc)]⟩ (fun e s=>e = .normal/\Wk E0 s ⟨Fr 98 [(3,hd 0 (r.1.map AB.enc)),(4,.st c3),(6,.pt 1 0 0),(7,.pt 2 0 0),(8,hd 3 (r.2.2.2.2.2.2.2.2.2.2.map cdS.enc)),(13,.sl 5 (((x0.take (mnI (x0.length:Int) 8).toNat).drop (0:Int).toNat).map (cdA (csC (cdK .u8) (csC (cdK .u8) (csC (cdK .u8) (csC cdB (csE cdB))))) (fun _=>rfl)).enc)),(14,.j (((x0.take (mnI (x0.length:Int) 8).toNat).drop (0:Int).toNat).length:Int)),(15,.j c4)],[mk 5 66 (r.1.map AB.enc),some ⟨5,63,[.ag [.v (.int .u8 r.2.1),.v (.int .u8 r.2.2.1),.v (.int .u8 r.2.2.2.1),.b r.2.2.2.2.1,.b r.2.2.2.2.2.1]],false⟩,some ⟨5,66,[.ag [.v (.int .u8 r.2.2.2.2.2.2.1),.st r.2.2.2.2.2.2.2.1,.b r.2.2.2.2.2.2.2.2.1,.e0,.j r.2.2.2.2.2.2.2.2.2.1]],false⟩,mk 1 9 (r.2.2.2.2.2.2.2.2.2.2.map cdS.enc)]⟩):=by
 unfold EH at h;refine AU (b:=j27.2.2.2.2.2.2.2.2.2.2.2) kr (fun hb28=>?_) (fun hb28=>?_)
 ·rw [if_pos hb28] at h
  refine Em AC [(3,hd 0 (j27.1.map AB.enc)),(4,.st c3),(6,.pt 1 0 0),(7,.pt 2 0 0),(8,hd 3 (j27.2.2.2.2.2.2.2.2.2.2.1.map cdS.enc)),(13,.sl 5 (((x0.take (mnI (x0.length:Int) 8).toNat).drop (0:Int).toNat).map (cdA (csC (cdK .u8) (csC (cdK .u8) (csC (cdK .u8) (csC cdB (csE cdB))))) (fun _=>rfl)).enc)),(14,.j (((x0.take (mnI (x0.length:Int) 8).toNat).drop (0:Int).toNat).length:Int)),(15,.j c4)] [mk 5 66 (j27.1.map AB.enc),some ⟨5,63,[.ag [.v (.int .u8 j27.2.1),.v (.int .u8 j27.2.2.1),.v (.int .u8 j27.2.2.2.1),.b j27.2.2.2.2.1,.b j27.2.2.2.2.2.1]],false⟩,some ⟨5,66,[.ag [.v (.int .u8 j27.2.2.2.2.2.2.1),.st c3,.b j27.2.2.2.2.2.2.2.2.1,.e0,.j j27.2.2.2.2.2.2.2.2.2.1]],false⟩,mk 1 9 (j27.2.2.2.2.2.2.2.2.2.2.1.map cdS.enc)] ?_;have hq:=OI h; subst hq;exact ⟨rfl,(BC [0,1,2,3] ⟨⟨_,rfl,DV⟩,⟨_,rfl,EP⟩,⟨_,rfl,EP⟩,⟨_,rfl,DV⟩,trivial⟩ ⟨DX (b':=0) kr kr,lv,lv,lv,DX (b':=3) kr kr,lv,lv,lv,trivial⟩)⟩
 ·rw [Bx hb28] at h
  refine Ax ?_;have hq:=OI h; subst hq;exact ⟨rfl,(BC [0,1,2,3] ⟨⟨_,rfl,DV⟩,⟨_,rfl,EP⟩,⟨_,rfl,EP⟩,⟨_,rfl,DV⟩,trivial⟩ ⟨DX (b':=0) kr kr,lv,lv,lv,DX (b':=3) kr kr,lv,lv,lv,trivial⟩)⟩
theorem KG (x0:(List (Int×Int×Int×Bool×Bool))) (c3:(List UInt8)) (c4:Int) (r40:(List AF)×Int×Int×Int×Bool×Bool×Int×(List UInt8)×Bool×Int×(List (List UInt8))) (r:(Bool)) (h:HI x0 c3 c4 r40=some r):Sem E0 ⟨none,false⟩ (pc B5 [1,1,1,0,1,0,0,1,1,0,0,1,1,1,1,1,0,1,0,1,1,1,1,1,1,0,1]) ⟨Fr 98 [(3,hd 0 (r40.1.map AB.enc)),(4,.st c3),(6,.pt 1 0 0),(7,.pt 2 0 0),(8,hd 3 (r40.2.2.2.2.2.2.2.2.2.2.map cdS.enc)),(13,.sl 5 (((x0.take (mnI (x0.length:Int) 8).toNat).drop (0:Int).toNat).map (cdA (csC (cdK .u8) (csC (cdK .u8) (csC (cdK .u8) (csC cdB (csE cdB))))) (fun _=>rfl)).enc)),(14,.j (((x0.take (mnI (x0.length:Int) 8).toNat).drop (0:Int).toNat).length:Int)),(15,.j c4),(53,.v (.int .u8 r40.2.2.2.2.2.2.1)),(77,.b (r40.2.2.2.2.2.2.1==6))],[mk 5 66 (r40.1.map AB.enc),some ⟨5,63,[.ag [.v (.int .u8 r40.2.1),.v (.int .u8 r40.2.2.1),.v (.int .u8 r40.2.2.2.1),.b r40.2.2.2.2.1,.b r40.2.2.2.2.2.1]],false⟩,some ⟨5,66,[.ag [.v (.int .u8 r40.2.2.2.2.2.2.1),.st r40.2.2.2.2.2.2.2.1,.b r40.2.2.2.2.2.2.2.2.1,.e0,.j r40.2.2.2.2.2.2.2.2.2.1]],false⟩,mk 1 9 (r40.2.2.2.2.2.2.2.2.2.2.map cdS.enc)]⟩ (fun e s=>e = .normal/\Wk E0 s ⟨Fr 98 [(3,hd 0 (r40.1.map AB.enc)),(4,.st c3),(6,.pt 1 0 0),(7,.pt 2 0 0),(8,hd 3 (r40.2.2.2.2.2.2.2.2.2.2.map cdS.enc)),(13,.sl 5 (((x0.take (mnI (x0.length:Int) 8).toNat).drop (0:Int).toNat).map (cdA (csC (cdK .u8) (csC (cdK .u8) (csC (cdK .u8) (csC cdB (csE cdB))))) (fun _=>rfl)).enc)),(14,.j (((x0.take (mnI (x0.length:Int) 8).toNat).drop (0:Int).toNat).length:Int)),(15,.j c4),(53,.v (.int .u8 r40.2.2.2.2.2.2.1)),(77,.b r)],[mk 5 66 (r40.1.map AB.enc),some ⟨5,63,[.ag [.v (.int .u8 r40.2.1),.v (.int .u8 r40.2.2.1),.v (.int .u8 r40.2.2.2.1),.b r40.2.2.2.2.1,.b r40.2.2.2.2.2.1]],false⟩,some ⟨5,66,[.ag [.v (.int .u8 r40.2.2.2.2.2.2.1),.st r40.2.2.2.2.2.2.2.1,.b r40.2.2.2.2.2.2.2.2.1,.e0,.j r40.2.2.2.2.2.2.2.2.2.1]],false⟩,mk 1 9 (r40.2.2.2.2.2.2.2.2.2.2.map cdS.enc)]⟩):=by
 unfold HI at h;refine AU (b:=(r40.2.2.2.2.2.2.1==6)) kr (fun hb1720=>?_) (fun hb1720=>?_)
 ·rw [if_pos hb1720] at h
  refine Ax ?_;have hq:=OI h; subst hq;exact ⟨rfl,(BC [0,1,2,3] ⟨⟨_,rfl,DV⟩,⟨_,rfl,EP⟩,⟨_,rfl,EP⟩,⟨_,rfl,DV⟩,trivial⟩ ⟨DX (b':=0) kr kr,lv,lv,lv,DX (b':=3) kr kr,lv,lv,lv,lv,lv,trivial⟩)⟩
 ·rw [Bx hb1720] at h
  refine Em AC [(3,hd 0 (r40.1.map AB.enc)),(4,.st c3),(6,.pt 1 0 0),(7,.pt 2 0 0),(8,hd 3 (r40.2.2.2.2.2.2.2.2.2.2.map cdS.enc)),(13,.sl 5 (((x0.take (mnI (x0.length:Int) 8).toNat).drop (0:Int).toNat).map (cdA (csC (cdK .u8) (csC (cdK .u8) (csC (cdK .u8) (csC cdB (csE cdB))))) (fun _=>rfl)).enc)),(14,.j (((x0.take (mnI (x0.length:Int) 8).toNat).drop (0:Int).toNat).length:Int)),(15,.j c4),(53,.v (.int .u8 r40.2.2.2.2.2.2.1)),(77,.b (r40.2.2.2.2.2.2.1==7))] [mk 5 66 (r40.1.map AB.enc),some ⟨5,63,[.ag [.v (.int .u8 r40.2.1),.v (.int .u8 r40.2.2.1),.v (.int .u8 r40.2.2.2.1),.b r40.2.2.2.2.1,.b r40.2.2.2.2.2.1]],false⟩,some ⟨5,66,[.ag [.v (.int .u8 r40.2.2.2.2.2.2.1),.st r40.2.2.2.2.2.2.2.1,.b r40.2.2.2.2.2.2.2.2.1,.e0,.j r40.2.2.2.2.2.2.2.2.2.1]],false⟩,mk 1 9 (r40.2.2.2.2.2.2.2.2.2.2.map cdS.enc)] ?_;have hq:=OI h; subst hq;exact ⟨rfl,(BC [0,1,2,3] ⟨⟨_,rfl,DV⟩,⟨_,rfl,EP⟩,⟨_,rfl,EP⟩,⟨_,rfl,DV⟩,trivial⟩ ⟨DX (b':=0) kr kr,lv,lv,lv,DX (b':=3) kr kr,lv,lv,lv,lv,lv,trivial⟩)⟩
theorem KI (x0:(List (Int×Int×Int×Bool×Bool))) (c3:(List UInt8)) (c4:Int) (r40:(List AF)×Int×Int×Int×Bool×Bool×Int×(List UInt8)×Bool×Int×(List (List UInt8))) (r:((List AF)×Int×(List UInt8)×Bool×Int)) (h:HK x0 c3 c4 r40=some r):Sem E0 ⟨none,false⟩ (pc B5 [1,1,1,0,1,0,0,1,1,0,0,1,1,1,1,1,0,1,0,1,1,1,1,1,1,1,1,1]) ⟨Fr 98 [(3,hd 0 (r40.1.map AB.enc)),(4,.st c3),(6,.pt 1 0 0),(7,.pt 2 0 0),(13,.sl 5 (((x0.take (mnI (x0.length:Int) 8).toNat).drop (0:Int).toNat).map (cdA (csC (cdK .u8) (csC (cdK .u8) (csC (cdK .u8) (csC cdB (csE cdB))))) (fun _=>rfl)).enc)),(14,.j (((x0.take (mnI (x0.length:Int) 8).toNat).drop (0:Int).toNat).length:Int)),(15,.j c4),(85,.b (r40.2.2.2.2.2.2.1==10))],[mk 5 66 (r40.1.map AB.enc),some ⟨5,63,[.ag [.v (.int .u8 r40.2.1),.v (.int .u8 r40.2.2.1),.v (.int .u8 r40.2.2.2.1),.b r40.2.2.2.2.1,.b r40.2.2.2.2.2.1]],false⟩,some ⟨5,66,[.ag [.v (.int .u8 r40.2.2.2.2.2.2.1),.st r40.2.2.2.2.2.2.2.1,.b r40.2.2.2.2.2.2.2.2.1,.e0,.j r40.2.2.2.2.2.2.2.2.2.1]],false⟩]⟩ (fun e s=>e = .normal/\Wk E0 s ⟨Fr 98 [(3,hd 0 (r.1.map AB.enc)),(4,.st c3),(7,.pt 1 0 0),(13,.sl 5 (((x0.take (mnI (x0.length:Int) 8).toNat).drop (0:Int).toNat).map (cdA (csC (cdK .u8) (csC (cdK .u8) (csC (cdK .u8) (csC cdB (csE cdB))))) (fun _=>rfl)).enc)),(14,.j (((x0.take (mnI (x0.length:Int) 8).toNat).drop (0:Int).toNat).length:Int)),(15,.j c4)],[mk 5 66 (r.1.map AB.enc),some ⟨5,66,[.ag [.v (.int .u8 r.2.1),.st r.2.2.1,.b r.2.2.2.1,.e0,.j r.2.2.2.2]],false⟩]⟩):=by
 unfold HK at h;refine AU (b:=(r40.2.2.2.2.2.2.1==10)) kr (fun hb2050=>?_) (fun hb2050=>?_)
 ·rw [if_pos hb2050] at h
  let p1:Option Blk:=some ⟨5,66,[.ag [.v (.int .u8 r40.2.2.2.2.2.2.1),.st r40.2.2.2.2.2.2.2.1,.b r40.2.2.2.2.2.2.2.2.1,.e0,.j (wr .i64 (r40.2.2.1.tmod 64))]],false⟩
  let p2:Nat×AV:=(14,.j (((x0.take (mnI (x0.length:Int) 8).toNat).drop (0:Int).toNat).length:Int))
  let p3:Nat×AV:=(13,.sl 5 (((x0.take (mnI (x0.length:Int) 8).toNat).drop (0:Int).toNat).map (cdA (csC (cdK .u8) (csC (cdK .u8) (csC (cdK .u8) (csC cdB (csE cdB))))) (fun _=>rfl)).enc))
  let p4:Nat×AV:=(3,hd 0 (r40.1.map AB.enc))
  refine AL (s1:=⟨Fr 98 [p4,(4,.st c3),(7,.pt 1 0 0),p3,p2,(15,.j c4)],[mk 5 66 (r40.1.map AB.enc),p1]⟩) ?_ ?_
  ·refine AD (n:=98) AC 6 [p4,(4,.st c3),(7,.pt 2 0 0),p3,p2,(15,.j c4)] [mk 5 66 (r40.1.map AB.enc),some ⟨5,63,[.ag [.v (.int .u8 r40.2.1),.v (.int .u8 r40.2.2.1),.v (.int .u8 r40.2.2.2.1),.b r40.2.2.2.2.1,.b r40.2.2.2.2.2.1]],false⟩,p1] kr ?_
   exact AJ rfl (BC [0,2] ⟨⟨_,rfl,DV⟩,⟨_,rfl,EP⟩,trivial⟩ ⟨DX (b':=0) kr kr,lv,lv,lv,lv,lv,trivial⟩)
  have hq:=OI h; subst hq;exact ⟨rfl,(BC [0,1] ⟨⟨_,rfl,DV⟩,⟨_,rfl,EP⟩,trivial⟩ ⟨DX (b':=0) kr kr,lv,lv,lv,lv,lv,trivial⟩)⟩
 ·rw [Bx hb2050] at h
  refine Ax ?_;have hq:=OI h; subst hq;exact ⟨rfl,(BC [0,2] ⟨⟨_,rfl,DV⟩,⟨_,rfl,EP⟩,trivial⟩ ⟨DX (b':=0) kr kr,lv,lv,lv,lv,lv,trivial⟩)⟩
theorem KH (x0:(List (Int×Int×Int×Bool×Bool))) (c3:(List UInt8)) (c4:Int) (r40:(List AF)×Int×Int×Int×Bool×Bool×Int×(List UInt8)×Bool×Int×(List (List UInt8))) (r1722:Bool) (r:((List AF)×Int×(List UInt8)×Bool×(List (List UInt8))×Int)) (h:HJ x0 c3 c4 r40 r1722=some r):Sem E0 ⟨none,false⟩ (pc B5 [1,1,1,0,1,0,0,1,1,0,0,1,1,1,1,1,0,1,0,1,1,1,1,1,1,1]) ⟨Fr 98 [(3,hd 0 (r40.1.map AB.enc)),(4,.st c3),(6,.pt 1 0 0),(7,.pt 2 0 0),(8,hd 3 (r40.2.2.2.2.2.2.2.2.2.2.map cdS.enc)),(13,.sl 5 (((x0.take (mnI (x0.length:Int) 8).toNat).drop (0:Int).toNat).map (cdA (csC (cdK .u8) (csC (cdK .u8) (csC (cdK .u8) (csC cdB (csE cdB))))) (fun _=>rfl)).enc)),(14,.j (((x0.take (mnI (x0.length:Int) 8).toNat).drop (0:Int).toNat).length:Int)),(15,.j c4),(53,.v (.int .u8 r40.2.2.2.2.2.2.1)),(77,.b r1722)],[mk 5 66 (r40.1.map AB.enc),some ⟨5,63,[.ag [.v (.int .u8 r40.2.1),.v (.int .u8 r40.2.2.1),.v (.int .u8 r40.2.2.2.1),.b r40.2.2.2.2.1,.b r40.2.2.2.2.2.1]],false⟩,some ⟨5,66,[.ag [.v (.int .u8 r40.2.2.2.2.2.2.1),.st r40.2.2.2.2.2.2.2.1,.b r40.2.2.2.2.2.2.2.2.1,.e0,.j r40.2.2.2.2.2.2.2.2.2.1]],false⟩,mk 1 9 (r40.2.2.2.2.2.2.2.2.2.2.map cdS.enc)]⟩ (fun e s=>e = .normal/\Wk E0 s ⟨Fr 98 [(3,hd 0 (r.1.map AB.enc)),(4,.st c3),(7,.pt 1 0 0),(13,.sl 5 (((x0.take (mnI (x0.length:Int) 8).toNat).drop (0:Int).toNat).map (cdA (csC (cdK .u8) (csC (cdK .u8) (csC (cdK .u8) (csC cdB (csE cdB))))) (fun _=>rfl)).enc)),(14,.j (((x0.take (mnI (x0.length:Int) 8).toNat).drop (0:Int).toNat).length:Int)),(15,.j c4)],[mk 5 66 (r.1.map AB.enc),some ⟨5,66,[AB.enc r.2],false⟩]⟩):=by
 unfold HJ at h;refine AU (b:=r1722) kr (fun hb1723=>?_) (fun hb1723=>?_)
 ·rw [if_pos hb1723] at h
  let p1:Option Blk:=some ⟨5,66,[.ag [.v (.int .u8 r40.2.2.2.2.2.2.1),.st r40.2.2.2.2.2.2.2.1,.b r40.2.2.2.2.1,.sl 1 (r40.2.2.2.2.2.2.2.2.2.2.map cdS.enc),.j r40.2.2.2.2.2.2.2.2.2.1]],false⟩
  let p2:Option Blk:=mk 5 66 (r40.1.map AB.enc)
  let p3:Nat×AV:=(15,.j c4)
  let p4:Nat×AV:=(14,.j (((x0.take (mnI (x0.length:Int) 8).toNat).drop (0:Int).toNat).length:Int))
  let p5:Nat×AV:=(13,.sl 5 (((x0.take (mnI (x0.length:Int) 8).toNat).drop (0:Int).toNat).map (cdA (csC (cdK .u8) (csC (cdK .u8) (csC (cdK .u8) (csC cdB (csE cdB))))) (fun _=>rfl)).enc))
  let p6:Nat×AV:=(3,hd 0 (r40.1.map AB.enc))
  refine O5 (s1:=⟨Fr 98 [p6,(4,.st c3),(7,.pt 1 0 0),p5,p4,p3],[p2,p1]⟩) AC 7 kr ?_ ?_
  ·refine RunA.q 0 kr rfl ?_
   let p7:Option Blk:=mk 1 9 (r40.2.2.2.2.2.2.2.2.2.2.map cdS.enc)
   let p8:Option Blk:=some ⟨5,66,[.ag [.v (.int .u8 r40.2.2.2.2.2.2.1),.st r40.2.2.2.2.2.2.2.1,.b r40.2.2.2.2.2.2.2.2.1,.e0,.j r40.2.2.2.2.2.2.2.2.2.1]],false⟩
   let p9:Option Blk:=some ⟨5,63,[.ag [.v (.int .u8 r40.2.1),.v (.int .u8 r40.2.2.1),.v (.int .u8 r40.2.2.2.1),.b r40.2.2.2.2.1,.b r40.2.2.2.2.2.1]],false⟩
   let p10:Nat×AV:=(80,hd 3 (r40.2.2.2.2.2.2.2.2.2.2.map cdS.enc))
   let p11:Nat×AV:=(7,.pt 2 0 0)
   refine AZ (n:=98) AC [p6,(4,.st c3),(6,.pt 1 0 0),p11,p5,p4,p3,p10] [p2,p9,p8,p7] kr ?_;refine RunA.q 1 kr rfl ?_
   let p12:Nat×AV:=(81,.pt 1 0 3)
   refine AZ (n:=98) AC [p6,(4,.st c3),p11,p5,p4,p3,p10,p12] [p2,p9,p8,p7] kr ?_;refine RunA.q 3 kr rfl ?_
   let p13:Nat×AV:=(83,.pt 2 0 3)
   refine AZ (n:=98) AC [p6,(4,.st c3),p11,p5,p4,p3,p10,p12,p13] [p2,p9,p8,p7] kr ?_;refine LB 2 4 kr rfl rfl ?_ ?_
   ·let p14:Nat×AV:=(82,.b r40.2.2.2.2.1)
    refine AZ (n:=98) AC [p6,(4,.st c3),p11,p5,p4,p3,p10,p14,p13] [p2,p9,p8,p7] kr ?_;refine DZ 4 kr rfl ?_;refine OM (s1:=⟨Fr 98 [p6,(4,.st c3),p11,p5,p4,p3,(80,.sl 1 (r40.2.2.2.2.2.2.2.2.2.2.map cdS.enc)),p14,p13],[p2,p9,p8,none]⟩) (Mj 3 (.inl kr) ⟨.inr (.inl rfl),.inr (.inr ⟨_,_,_,_,rfl,rfl,⟨.inl rfl,trivial⟩⟩),.inr (.inr ⟨_,_,_,_,rfl,rfl,⟨.inl rfl,trivial⟩⟩),.inl rfl,trivial⟩ ⟨⟨hd 0 (r40.1.map AB.enc),kr,.inl rfl⟩,⟨.st c3,kr,.inl rfl⟩,⟨.pt 2 0 0,kr,.inl rfl⟩,⟨.sl 5 (((x0.take (mnI (x0.length:Int) 8).toNat).drop (0:Int).toNat).map (cdA (csC (cdK .u8) (csC (cdK .u8) (csC (cdK .u8) (csC cdB (csE cdB))))) (fun _=>rfl)).enc),kr,.inl rfl⟩,⟨.j (((x0.take (mnI (x0.length:Int) 8).toNat).drop (0:Int).toNat).length:Int),kr,.inl rfl⟩,⟨.j c4,kr,.inl rfl⟩,⟨hd 3 (r40.2.2.2.2.2.2.2.2.2.2.map cdS.enc),kr,Qi (t:=9) kr MR⟩,⟨.b r40.2.2.2.2.1,kr,.inl rfl⟩,⟨.pt 2 0 3,kr,.inl rfl⟩,trivial⟩) ?_
    let p15:Option Blk:=some ⟨5,66,[.ag [.v (.int .u8 r40.2.2.2.2.2.2.1),.st r40.2.2.2.2.2.2.2.1,.b r40.2.2.2.2.2.2.2.2.1,.sl 1 (r40.2.2.2.2.2.2.2.2.2.2.map cdS.enc),.j r40.2.2.2.2.2.2.2.2.2.1]],false⟩
    refine AZ (n:=98) AC [p6,(4,.st c3),p11,p5,p4,p3,p14] [p2,p9,p15,none] kr ?_;refine RunA.q 5 kr rfl ?_;refine AZ (n:=98) AC [p6,(4,.st c3),p11,p5,p4,p3,p14,(84,.pt 2 0 2)] [p2,p9,p15,none] kr ?_;refine DZ 6 kr rfl ?_;refine AZ (n:=98) AC [p6,(4,.st c3),p11,p5,p4,p3] [p2,p9,p1,none] kr ?_;exact RunA.done kr (BC [0,2] ⟨⟨_,rfl,DV⟩,⟨_,rfl,EP⟩,trivial⟩ ⟨DX (b':=0) kr kr,lv,lv,lv,lv,lv,trivial⟩)
   ·refine OM (s1:=⟨Fr 98 [p6,(4,.st c3),p11,p5,p4,p3,(80,.sl 1 (r40.2.2.2.2.2.2.2.2.2.2.map cdS.enc)),p12,p13],[p2,p9,p8,none]⟩) (Mj 3 (.inl kr) ⟨.inr (.inl rfl),.inr (.inr ⟨_,_,_,_,rfl,rfl,⟨.inl rfl,trivial⟩⟩),.inr (.inr ⟨_,_,_,_,rfl,rfl,⟨.inl rfl,trivial⟩⟩),.inl rfl,trivial⟩ ⟨⟨hd 0 (r40.1.map AB.enc),kr,.inl rfl⟩,⟨.st c3,kr,.inl rfl⟩,⟨.pt 2 0 0,kr,.inl rfl⟩,⟨.sl 5 (((x0.take (mnI (x0.length:Int) 8).toNat).drop (0:Int).toNat).map (cdA (csC (cdK .u8) (csC (cdK .u8) (csC (cdK .u8) (csC cdB (csE cdB))))) (fun _=>rfl)).enc),kr,.inl rfl⟩,⟨.j (((x0.take (mnI (x0.length:Int) 8).toNat).drop (0:Int).toNat).length:Int),kr,.inl rfl⟩,⟨.j c4,kr,.inl rfl⟩,⟨hd 3 (r40.2.2.2.2.2.2.2.2.2.2.map cdS.enc),kr,Qi (t:=9) kr MR⟩,⟨.pt 1 0 3,kr,.inl rfl⟩,⟨.pt 2 0 3,kr,.inl rfl⟩,trivial⟩) ?_
    let p16:Option Blk:=some ⟨5,66,[.ag [.v (.int .u8 r40.2.2.2.2.2.2.1),.st r40.2.2.2.2.2.2.2.1,.b r40.2.2.2.2.2.2.2.2.1,.sl 1 (r40.2.2.2.2.2.2.2.2.2.2.map cdS.enc),.j r40.2.2.2.2.2.2.2.2.2.1]],false⟩
    refine AZ (n:=98) AC [p6,(4,.st c3),p11,p5,p4,p3,p12] [p2,p9,p16,none] kr ?_;refine DZ 2 kr rfl ?_;refine AZ (n:=98) AC [p6,(4,.st c3),p11,p5,p4,p3,(82,.b r40.2.2.2.2.1)] [p2,p9,p16,none] kr ?_;refine RunA.q 5 kr rfl ?_;refine AZ (n:=98) AC [p6,(4,.st c3),p11,p5,p4,p3,(82,.b r40.2.2.2.2.1),(84,.pt 2 0 2)] [p2,p9,p16,none] kr ?_;refine DZ 6 kr rfl ?_;refine AZ (n:=98) AC [p6,(4,.st c3),p11,p5,p4,p3] [p2,p9,p1,none] kr ?_;exact RunA.done kr (BC [0,2] ⟨⟨_,rfl,DV⟩,⟨_,rfl,EP⟩,trivial⟩ ⟨DX (b':=0) kr kr,lv,lv,lv,lv,lv,trivial⟩)
  have hq:=OI h; subst hq;exact ⟨rfl,(BC [0,1] ⟨⟨_,rfl,DV⟩,⟨_,rfl,EP⟩,trivial⟩ ⟨DX (b':=0) kr kr,lv,lv,lv,lv,lv,trivial⟩)⟩
 ·rw [Bx hb1723] at h
  refine AI ?_
  let p17:Option Blk:=some ⟨5,66,[.ag [.v (.int .u8 r40.2.2.2.2.2.2.1),.st r40.2.2.2.2.2.2.2.1,.b r40.2.2.2.2.2.2.2.2.1,.e0,.j r40.2.2.2.2.2.2.2.2.2.1]],false⟩
  let p18:Option Blk:=some ⟨5,63,[.ag [.v (.int .u8 r40.2.1),.v (.int .u8 r40.2.2.1),.v (.int .u8 r40.2.2.2.1),.b r40.2.2.2.2.1,.b r40.2.2.2.2.2.1]],false⟩
  let p19:Nat×AV:=(85,.b (r40.2.2.2.2.2.2.1==10))
  let p20:Nat×AV:=(15,.j c4)
  let p21:Nat×AV:=(14,.j (((x0.take (mnI (x0.length:Int) 8).toNat).drop (0:Int).toNat).length:Int))
  let p22:Nat×AV:=(13,.sl 5 (((x0.take (mnI (x0.length:Int) 8).toNat).drop (0:Int).toNat).map (cdA (csC (cdK .u8) (csC (cdK .u8) (csC (cdK .u8) (csC cdB (csE cdB))))) (fun _=>rfl)).enc))
  let p23:Nat×AV:=(3,hd 0 (r40.1.map AB.enc))
  refine AL (s1:=⟨Fr 98 [p23,(4,.st c3),(6,.pt 1 0 0),(7,.pt 2 0 0),p22,p21,p20,p19],[mk 5 66 (r40.1.map AB.enc),p18,p17]⟩) ?_ ?_
  ·refine AD (n:=98) AC 2 [p23,(4,.st c3),(6,.pt 1 0 0),(7,.pt 2 0 0),p22,p21,p20,p19] [mk 5 66 (r40.1.map AB.enc),p18,p17,mk 1 9 (r40.2.2.2.2.2.2.2.2.2.2.map cdS.enc)] kr ?_
   exact AJ rfl (BC [0,1,2] ⟨⟨_,rfl,DV⟩,⟨_,rfl,EP⟩,⟨_,rfl,EP⟩,trivial⟩ ⟨DX (b':=0) kr kr,lv,lv,lv,lv,lv,lv,lv,trivial⟩)
  obtain ⟨r2056,hr2056,h⟩:=OB h;refine C9 (KI x0 c3 c4 r40 _ hr2056) ?_;have hq:=OI h; subst hq
  let p24:Option Blk:=mk 5 66 (r2056.1.map AB.enc)
  let p25:Nat×AV:=(3,hd 0 (r2056.1.map AB.enc))
  let p26:Option Blk:=some ⟨5,66,[.ag [.v (.int .u8 r2056.2.1),.st r2056.2.2.1,.b r2056.2.2.2.1,.e0,.j r2056.2.2.2.2]],false⟩
  exact ⟨rfl,(Wk.trans (s1:=⟨Fr 98 [p25,(4,.st c3),(7,.pt 1 0 0),p22,p21,p20],[p24,p26]⟩) AQ (Wk.trans (s1:=⟨Fr 98 [p25,(4,.st c3),(7,.pt 1 0 0),p22,p21,p20],[p24,p26,none]⟩) Wk.none (Wk.trans (s1:=⟨Fr 98 [p25,(4,.st c3),(7,.pt 1 0 0),p22,p21,p20],[p24,some ⟨5,66,[.ag [.v (.int .u8 r2056.2.1),.st r2056.2.2.1,.b r2056.2.2.2.1,.sl 1 ([].map cdS.enc),.j r2056.2.2.2.2]],false⟩,none]⟩) (Ml 2 (.inr kr) ⟨.inr (.inl rfl),.inr (.inr ⟨_,_,_,_,rfl,rfl,⟨(.inr ⟨_,_,rfl,rfl,⟨.inl rfl,.inl rfl,.inl rfl,T5,.inl rfl,trivial⟩⟩),trivial⟩⟩),.inl rfl,trivial⟩ ⟨⟨hd 0 (r2056.1.map AB.enc),kr,(.inl (.inl rfl))⟩,⟨.st c3,kr,(.inl (.inl rfl))⟩,⟨.pt 1 0 0,kr,(.inl (.inl rfl))⟩,⟨.sl 5 (((x0.take (mnI (x0.length:Int) 8).toNat).drop (0:Int).toNat).map (cdA (csC (cdK .u8) (csC (cdK .u8) (csC (cdK .u8) (csC cdB (csE cdB))))) (fun _=>rfl)).enc),kr,(.inl (.inl rfl))⟩,⟨.j (((x0.take (mnI (x0.length:Int) 8).toNat).drop (0:Int).toNat).length:Int),kr,(.inl (.inl rfl))⟩,⟨.j c4,kr,(.inl (.inl rfl))⟩,trivial⟩) (BC [0,1] ⟨⟨_,rfl,DV⟩,⟨_,rfl,EP⟩,trivial⟩ ⟨DX (b':=0) kr kr,lv,lv,lv,lv,lv,trivial⟩))))⟩
theorem KF (x0:(List (Int×Int×Int×Bool×Bool))) (c3:(List UInt8)) (c4:Int) (r40:(List AF)×Int×Int×Int×Bool×Bool×Int×(List UInt8)×Bool×Int×(List (List UInt8))) (r:((List AF)×Int×(List UInt8)×Bool×(List (List UInt8))×Int)) (h:HH x0 c3 c4 r40=some r):Sem E0 ⟨none,false⟩ (pc B5 [1,1,1,0,1,0,0,1,1,0,0,1,1,1,1,1,0,1,0,1,1,1,1,1]) ⟨Fr 98 [(3,hd 0 (r40.1.map AB.enc)),(4,.st c3),(6,.pt 1 0 0),(7,.pt 2 0 0),(8,hd 3 (r40.2.2.2.2.2.2.2.2.2.2.map cdS.enc)),(13,.sl 5 (((x0.take (mnI (x0.length:Int) 8).toNat).drop (0:Int).toNat).map (cdA (csC (cdK .u8) (csC (cdK .u8) (csC (cdK .u8) (csC cdB (csE cdB))))) (fun _=>rfl)).enc)),(14,.j (((x0.take (mnI (x0.length:Int) 8).toNat).drop (0:Int).toNat).length:Int)),(15,.j c4),(53,.v (.int .u8 r40.2.2.2.2.2.2.1)),(72,.b (r40.2.2.2.2.2.2.1==5))],[mk 5 66 (r40.1.map AB.enc),some ⟨5,63,[.ag [.v (.int .u8 r40.2.1),.v (.int .u8 r40.2.2.1),.v (.int .u8 r40.2.2.2.1),.b r40.2.2.2.2.1,.b r40.2.2.2.2.2.1]],false⟩,some ⟨5,66,[.ag [.v (.int .u8 r40.2.2.2.2.2.2.1),.st r40.2.2.2.2.2.2.2.1,.b r40.2.2.2.2.2.2.2.2.1,.e0,.j r40.2.2.2.2.2.2.2.2.2.1]],false⟩,mk 1 9 (r40.2.2.2.2.2.2.2.2.2.2.map cdS.enc)]⟩ (fun e s=>e = .normal/\Wk E0 s ⟨Fr 98 [(3,hd 0 (r.1.map AB.enc)),(4,.st c3),(7,.pt 1 0 0),(13,.sl 5 (((x0.take (mnI (x0.length:Int) 8).toNat).drop (0:Int).toNat).map (cdA (csC (cdK .u8) (csC (cdK .u8) (csC (cdK .u8) (csC cdB (csE cdB))))) (fun _=>rfl)).enc)),(14,.j (((x0.take (mnI (x0.length:Int) 8).toNat).drop (0:Int).toNat).length:Int)),(15,.j c4)],[mk 5 66 (r.1.map AB.enc),some ⟨5,66,[AB.enc r.2],false⟩]⟩):=by
 unfold HH at h;refine AU (b:=(r40.2.2.2.2.2.2.1==5)) kr (fun hb1713=>?_) (fun hb1713=>?_)
 ·rw [if_pos hb1713] at h
  let p1:Option Blk:=some ⟨5,66,[.ag [.v (.int .u8 r40.2.2.2.2.2.2.1),.st r40.2.2.2.2.2.2.2.1,.b r40.2.2.2.2.1,.e0,.j r40.2.2.2.2.2.2.2.2.2.1]],false⟩
  let p2:Option Blk:=mk 5 66 (r40.1.map AB.enc)
  let p3:Nat×AV:=(15,.j c4)
  let p4:Nat×AV:=(14,.j (((x0.take (mnI (x0.length:Int) 8).toNat).drop (0:Int).toNat).length:Int))
  let p5:Nat×AV:=(13,.sl 5 (((x0.take (mnI (x0.length:Int) 8).toNat).drop (0:Int).toNat).map (cdA (csC (cdK .u8) (csC (cdK .u8) (csC (cdK .u8) (csC cdB (csE cdB))))) (fun _=>rfl)).enc))
  let p6:Nat×AV:=(7,.pt 1 0 0)
  let p7:Nat×AV:=(3,hd 0 (r40.1.map AB.enc))
  refine AL (s1:=⟨Fr 98 [p7,(4,.st c3),p6,p5,p4,p3],[p2,p1]⟩) ?_ ?_
  ·refine AD (n:=98) AC 4 [p7,(4,.st c3),(7,.pt 2 0 0),p5,p4,p3] [p2,some ⟨5,63,[.ag [.v (.int .u8 r40.2.1),.v (.int .u8 r40.2.2.1),.v (.int .u8 r40.2.2.2.1),.b r40.2.2.2.2.1,.b r40.2.2.2.2.2.1]],false⟩,p1,mk 1 9 (r40.2.2.2.2.2.2.2.2.2.2.map cdS.enc)] kr ?_
   exact AJ rfl (BC [0,2] ⟨⟨_,rfl,DV⟩,⟨_,rfl,EP⟩,trivial⟩ ⟨DX (b':=0) kr kr,lv,lv,lv,lv,lv,trivial⟩)
  have hq:=OI h; subst hq;exact ⟨rfl,(Wk.trans (s1:=⟨Fr 98 [p7,(4,.st c3),p6,p5,p4,p3],[p2,p1]⟩) AQ (Wk.trans (s1:=⟨Fr 98 [p7,(4,.st c3),p6,p5,p4,p3],[p2,p1,none]⟩) Wk.none (Wk.trans (s1:=⟨Fr 98 [p7,(4,.st c3),p6,p5,p4,p3],[p2,some ⟨5,66,[.ag [.v (.int .u8 r40.2.2.2.2.2.2.1),.st r40.2.2.2.2.2.2.2.1,.b r40.2.2.2.2.1,.sl 1 ([].map cdS.enc),.j r40.2.2.2.2.2.2.2.2.2.1]],false⟩,none]⟩) (Ml 2 (.inr kr) ⟨.inr (.inl rfl),.inr (.inr ⟨_,_,_,_,rfl,rfl,⟨(.inr ⟨_,_,rfl,rfl,⟨.inl rfl,.inl rfl,.inl rfl,T5,.inl rfl,trivial⟩⟩),trivial⟩⟩),.inl rfl,trivial⟩ ⟨⟨hd 0 (r40.1.map AB.enc),kr,(.inl (.inl rfl))⟩,⟨.st c3,kr,(.inl (.inl rfl))⟩,⟨.pt 1 0 0,kr,(.inl (.inl rfl))⟩,⟨.sl 5 (((x0.take (mnI (x0.length:Int) 8).toNat).drop (0:Int).toNat).map (cdA (csC (cdK .u8) (csC (cdK .u8) (csC (cdK .u8) (csC cdB (csE cdB))))) (fun _=>rfl)).enc),kr,(.inl (.inl rfl))⟩,⟨.j (((x0.take (mnI (x0.length:Int) 8).toNat).drop (0:Int).toNat).length:Int),kr,(.inl (.inl rfl))⟩,⟨.j c4,kr,(.inl (.inl rfl))⟩,trivial⟩) (BC [0,1] ⟨⟨_,rfl,DV⟩,⟨_,rfl,EP⟩,trivial⟩ ⟨DX (b':=0) kr kr,lv,lv,lv,lv,lv,trivial⟩))))⟩
 ·rw [Bx hb1713] at h
  refine AI ?_;refine Ae AC [(3,hd 0 (r40.1.map AB.enc)),(4,.st c3),(6,.pt 1 0 0),(7,.pt 2 0 0),(8,hd 3 (r40.2.2.2.2.2.2.2.2.2.2.map cdS.enc)),(13,.sl 5 (((x0.take (mnI (x0.length:Int) 8).toNat).drop (0:Int).toNat).map (cdA (csC (cdK .u8) (csC (cdK .u8) (csC (cdK .u8) (csC cdB (csE cdB))))) (fun _=>rfl)).enc)),(14,.j (((x0.take (mnI (x0.length:Int) 8).toNat).drop (0:Int).toNat).length:Int)),(15,.j c4),(53,.v (.int .u8 r40.2.2.2.2.2.2.1)),(77,.b (r40.2.2.2.2.2.2.1==6))] [mk 5 66 (r40.1.map AB.enc),some ⟨5,63,[.ag [.v (.int .u8 r40.2.1),.v (.int .u8 r40.2.2.1),.v (.int .u8 r40.2.2.2.1),.b r40.2.2.2.2.1,.b r40.2.2.2.2.2.1]],false⟩,some ⟨5,66,[.ag [.v (.int .u8 r40.2.2.2.2.2.2.1),.st r40.2.2.2.2.2.2.2.1,.b r40.2.2.2.2.2.2.2.2.1,.e0,.j r40.2.2.2.2.2.2.2.2.2.1]],false⟩,mk 1 9 (r40.2.2.2.2.2.2.2.2.2.2.map cdS.enc)] ?_;obtain ⟨r1722,hr1722,h⟩:=OB h;refine C9 (KG x0 c3 c4 r40 _ hr1722) ?_;obtain ⟨r2057,hr2057,h⟩:=OB h;refine C9 (KH x0 c3 c4 r40 r1722 _ hr2057) ?_;have hq:=OI h; subst hq;exact ⟨rfl,(BC [0,1] ⟨⟨_,rfl,DV⟩,⟨_,rfl,EP⟩,trivial⟩ ⟨DX (b':=0) kr kr,lv,lv,lv,lv,lv,trivial⟩)⟩
theorem Kp (x0:(List (Int×Int×Int×Bool×Bool))) (c3:(List UInt8)) (c4:Int) (r40:(List AF)×Int×Int×Int×Bool×Bool×Int×(List UInt8)×Bool×Int×(List (List UInt8))) (r:((List AF)×Int×(List UInt8)×Bool×(List (List UInt8))×Int)) (h:Hr x0 c3 c4 r40=some r):Sem E0 ⟨none,false⟩ (pc B5 [1,1,1,0,1,0,0,1,1,0,0,1,1,1,1,1,0,1,0,1,1,1]) ⟨Fr 98 [(3,hd 0 (r40.1.map AB.enc)),(4,.st c3),(6,.pt 1 0 0),(7,.pt 2 0 0),(8,hd 3 (r40.2.2.2.2.2.2.2.2.2.2.map cdS.enc)),(13,.sl 5 (((x0.take (mnI (x0.length:Int) 8).toNat).drop (0:Int).toNat).map (cdA (csC (cdK .u8) (csC (cdK .u8) (csC (cdK .u8) (csC cdB (csE cdB))))) (fun _=>rfl)).enc)),(14,.j (((x0.take (mnI (x0.length:Int) 8).toNat).drop (0:Int).toNat).length:Int)),(15,.j c4),(53,.v (.int .u8 r40.2.2.2.2.2.2.1)),(61,.b (r40.2.2.2.2.2.2.1==4))],[mk 5 66 (r40.1.map AB.enc),some ⟨5,63,[.ag [.v (.int .u8 r40.2.1),.v (.int .u8 r40.2.2.1),.v (.int .u8 r40.2.2.2.1),.b r40.2.2.2.2.1,.b r40.2.2.2.2.2.1]],false⟩,some ⟨5,66,[.ag [.v (.int .u8 r40.2.2.2.2.2.2.1),.st r40.2.2.2.2.2.2.2.1,.b r40.2.2.2.2.2.2.2.2.1,.e0,.j r40.2.2.2.2.2.2.2.2.2.1]],false⟩,mk 1 9 (r40.2.2.2.2.2.2.2.2.2.2.map cdS.enc)]⟩ (fun e s=>e = .normal/\Wk E0 s ⟨Fr 98 [(3,hd 0 (r.1.map AB.enc)),(4,.st c3),(7,.pt 1 0 0),(13,.sl 5 (((x0.take (mnI (x0.length:Int) 8).toNat).drop (0:Int).toNat).map (cdA (csC (cdK .u8) (csC (cdK .u8) (csC (cdK .u8) (csC cdB (csE cdB))))) (fun _=>rfl)).enc)),(14,.j (((x0.take (mnI (x0.length:Int) 8).toNat).drop (0:Int).toNat).length:Int)),(15,.j c4)],[mk 5 66 (r.1.map AB.enc),some ⟨5,66,[AB.enc r.2],false⟩]⟩):=by
 unfold Hr at h;refine AU (b:=(r40.2.2.2.2.2.2.1==4)) kr (fun hb1226=>?_) (fun hb1226=>?_)
 ·rw [if_pos hb1226] at h
  let p1:Option Blk:=some ⟨5,66,[.ag [.v (.int .u8 r40.2.2.2.2.2.2.1),.st r40.2.2.2.2.2.2.2.1,.b r40.2.2.2.2.1,.e0,.j (wr .i64 (1 + (wr .i64 (r40.2.2.1.tmod 2))))]],false⟩
  let p2:Option Blk:=mk 5 66 (r40.1.map AB.enc)
  let p3:Nat×AV:=(15,.j c4)
  let p4:Nat×AV:=(14,.j (((x0.take (mnI (x0.length:Int) 8).toNat).drop (0:Int).toNat).length:Int))
  let p5:Nat×AV:=(13,.sl 5 (((x0.take (mnI (x0.length:Int) 8).toNat).drop (0:Int).toNat).map (cdA (csC (cdK .u8) (csC (cdK .u8) (csC (cdK .u8) (csC cdB (csE cdB))))) (fun _=>rfl)).enc))
  let p6:Nat×AV:=(7,.pt 1 0 0)
  let p7:Nat×AV:=(3,hd 0 (r40.1.map AB.enc))
  refine O5 (s1:=⟨Fr 98 [p7,(4,.st c3),p6,p5,p4,p3],[p2,p1]⟩) AC 11 kr ?_ ?_
  ·refine RunA.q 0 kr rfl ?_
   let p8:Option Blk:=mk 1 9 (r40.2.2.2.2.2.2.2.2.2.2.map cdS.enc)
   let p9:Option Blk:=some ⟨5,66,[.ag [.v (.int .u8 r40.2.2.2.2.2.2.1),.st r40.2.2.2.2.2.2.2.1,.b r40.2.2.2.2.2.2.2.2.1,.e0,.j r40.2.2.2.2.2.2.2.2.2.1]],false⟩
   let p10:Option Blk:=some ⟨5,63,[.ag [.v (.int .u8 r40.2.1),.v (.int .u8 r40.2.2.1),.v (.int .u8 r40.2.2.2.1),.b r40.2.2.2.2.1,.b r40.2.2.2.2.2.1]],false⟩
   let p11:Nat×AV:=(7,.pt 2 0 0)
   refine AZ (n:=98) AC [p7,(4,.st c3),(6,.pt 1 0 0),p11,p5,p4,p3,(63,.pt 1 0 1)] [p2,p10,p9,p8] kr ?_;refine RunA.q 5 kr rfl ?_
   let p12:Nat×AV:=(68,.pt 1 0 3)
   refine AZ (n:=98) AC [p7,(4,.st c3),p11,p5,p4,p3,(63,.pt 1 0 1),p12] [p2,p10,p9,p8] kr ?_;refine LB 1 6 kr rfl rfl ?_ ?_
   ·refine AZ (n:=98) AC [p7,(4,.st c3),p11,p5,p4,p3,(64,.v (.int .u8 r40.2.2.1)),p12] [p2,p10,p9,p8] kr ?_
    refine LB 2 6 kr rfl rfl ?_ ?_
    ·refine AZ (n:=98) AC [p7,(4,.st c3),p11,p5,p4,p3,(65,.v (.int .u8 (r40.2.2.1.tmod 2))),p12] [p2,p10,p9,p8] kr ?_
     refine LB 3 6 kr rfl rfl ?_ ?_
     ·refine AZ (n:=98) AC [p7,(4,.st c3),p11,p5,p4,p3,(66,.j (wr .i64 (r40.2.2.1.tmod 2))),p12] [p2,p10,p9,p8] kr ?_
      refine RunA.q 4 kr rfl ?_
      let p13:Nat×AV:=(67,.j (wr .i64 (1 + (wr .i64 (r40.2.2.1.tmod 2)))))
      refine AZ (n:=98) AC [p7,(4,.st c3),p11,p5,p4,p3,p13,p12] [p2,p10,p9,p8] kr ?_;refine RunA.q 7 kr rfl ?_;refine AZ (n:=98) AC [p7,(4,.st c3),p11,p5,p4,p3,p13,p12,(70,.pt 2 0 4)] [p2,p10,p9,p8] kr ?_;refine LB 6 8 kr rfl rfl ?_ ?_
      ·let p14:Nat×AV:=(69,.b r40.2.2.2.2.1)
       refine AZ (n:=98) AC [p7,(4,.st c3),p11,p5,p4,p3,p13,p14,(70,.pt 2 0 4)] [p2,p10,p9,p8] kr ?_;refine DZ 8 kr rfl ?_
       let p15:Option Blk:=some ⟨5,66,[.ag [.v (.int .u8 r40.2.2.2.2.2.2.1),.st r40.2.2.2.2.2.2.2.1,.b r40.2.2.2.2.2.2.2.2.1,.e0,.j (wr .i64 (1 + (wr .i64 (r40.2.2.1.tmod 2))))]],false⟩
       refine AZ (n:=98) AC [p7,(4,.st c3),p11,p5,p4,p3,p14] [p2,p10,p15,p8] kr ?_;refine RunA.q 9 kr rfl ?_;refine AZ (n:=98) AC [p7,(4,.st c3),p11,p5,p4,p3,p14,(71,.pt 2 0 2)] [p2,p10,p15,p8] kr ?_;refine DZ 10 kr rfl ?_;refine AZ (n:=98) AC [p7,(4,.st c3),p11,p5,p4,p3] [p2,p10,p1,p8] kr ?_;exact RunA.done kr (BC [0,2] ⟨⟨_,rfl,DV⟩,⟨_,rfl,EP⟩,trivial⟩ ⟨DX (b':=0) kr kr,lv,lv,lv,lv,lv,trivial⟩)
      ·let p16:Option Blk:=some ⟨5,66,[.ag [.v (.int .u8 r40.2.2.2.2.2.2.1),.st r40.2.2.2.2.2.2.2.1,.b r40.2.2.2.2.2.2.2.2.1,.e0,.j (wr .i64 (1 + (wr .i64 (r40.2.2.1.tmod 2))))]],false⟩
       refine AZ (n:=98) AC [p7,(4,.st c3),p11,p5,p4,p3,p12] [p2,p10,p16,p8] kr ?_;refine DZ 6 kr rfl ?_;refine AZ (n:=98) AC [p7,(4,.st c3),p11,p5,p4,p3,(69,.b r40.2.2.2.2.1)] [p2,p10,p16,p8] kr ?_;refine RunA.q 9 kr rfl ?_;refine AZ (n:=98) AC [p7,(4,.st c3),p11,p5,p4,p3,(69,.b r40.2.2.2.2.1),(71,.pt 2 0 2)] [p2,p10,p16,p8] kr ?_;refine DZ 10 kr rfl ?_;refine AZ (n:=98) AC [p7,(4,.st c3),p11,p5,p4,p3] [p2,p10,p1,p8] kr ?_;exact RunA.done kr (BC [0,2] ⟨⟨_,rfl,DV⟩,⟨_,rfl,EP⟩,trivial⟩ ⟨DX (b':=0) kr kr,lv,lv,lv,lv,lv,trivial⟩)
     ·let p17:Nat×AV:=(69,.b r40.2.2.2.2.1)
      refine AZ (n:=98) AC [p7,(4,.st c3),p11,p5,p4,p3,(65,.v (.int .u8 (r40.2.2.1.tmod 2))),p17] [p2,p10,p9,p8] kr ?_;refine DZ 3 kr rfl ?_;refine AZ (n:=98) AC [p7,(4,.st c3),p11,p5,p4,p3,(66,.j (wr .i64 (r40.2.2.1.tmod 2))),p17] [p2,p10,p9,p8] kr ?_;refine RunA.q 4 kr rfl ?_
      let p18:Nat×AV:=(67,.j (wr .i64 (1 + (wr .i64 (r40.2.2.1.tmod 2)))))
      refine AZ (n:=98) AC [p7,(4,.st c3),p11,p5,p4,p3,p18,p17] [p2,p10,p9,p8] kr ?_;refine RunA.q 7 kr rfl ?_;refine AZ (n:=98) AC [p7,(4,.st c3),p11,p5,p4,p3,p18,p17,(70,.pt 2 0 4)] [p2,p10,p9,p8] kr ?_;refine DZ 8 kr rfl ?_
      let p19:Option Blk:=some ⟨5,66,[.ag [.v (.int .u8 r40.2.2.2.2.2.2.1),.st r40.2.2.2.2.2.2.2.1,.b r40.2.2.2.2.2.2.2.2.1,.e0,.j (wr .i64 (1 + (wr .i64 (r40.2.2.1.tmod 2))))]],false⟩
      refine AZ (n:=98) AC [p7,(4,.st c3),p11,p5,p4,p3,p17] [p2,p10,p19,p8] kr ?_;refine RunA.q 9 kr rfl ?_;refine AZ (n:=98) AC [p7,(4,.st c3),p11,p5,p4,p3,p17,(71,.pt 2 0 2)] [p2,p10,p19,p8] kr ?_;refine DZ 10 kr rfl ?_;refine AZ (n:=98) AC [p7,(4,.st c3),p11,p5,p4,p3] [p2,p10,p1,p8] kr ?_;exact RunA.done kr (BC [0,2] ⟨⟨_,rfl,DV⟩,⟨_,rfl,EP⟩,trivial⟩ ⟨DX (b':=0) kr kr,lv,lv,lv,lv,lv,trivial⟩)
    ·let p20:Nat×AV:=(69,.b r40.2.2.2.2.1)
     refine AZ (n:=98) AC [p7,(4,.st c3),p11,p5,p4,p3,(64,.v (.int .u8 r40.2.2.1)),p20] [p2,p10,p9,p8] kr ?_;refine DZ 2 kr rfl ?_;refine AZ (n:=98) AC [p7,(4,.st c3),p11,p5,p4,p3,(65,.v (.int .u8 (r40.2.2.1.tmod 2))),p20] [p2,p10,p9,p8] kr ?_;refine DZ 3 kr rfl ?_;refine AZ (n:=98) AC [p7,(4,.st c3),p11,p5,p4,p3,(66,.j (wr .i64 (r40.2.2.1.tmod 2))),p20] [p2,p10,p9,p8] kr ?_;refine RunA.q 4 kr rfl ?_
     let p21:Nat×AV:=(67,.j (wr .i64 (1 + (wr .i64 (r40.2.2.1.tmod 2)))))
     refine AZ (n:=98) AC [p7,(4,.st c3),p11,p5,p4,p3,p21,p20] [p2,p10,p9,p8] kr ?_;refine RunA.q 7 kr rfl ?_;refine AZ (n:=98) AC [p7,(4,.st c3),p11,p5,p4,p3,p21,p20,(70,.pt 2 0 4)] [p2,p10,p9,p8] kr ?_;refine DZ 8 kr rfl ?_
     let p22:Option Blk:=some ⟨5,66,[.ag [.v (.int .u8 r40.2.2.2.2.2.2.1),.st r40.2.2.2.2.2.2.2.1,.b r40.2.2.2.2.2.2.2.2.1,.e0,.j (wr .i64 (1 + (wr .i64 (r40.2.2.1.tmod 2))))]],false⟩
     refine AZ (n:=98) AC [p7,(4,.st c3),p11,p5,p4,p3,p20] [p2,p10,p22,p8] kr ?_;refine RunA.q 9 kr rfl ?_;refine AZ (n:=98) AC [p7,(4,.st c3),p11,p5,p4,p3,p20,(71,.pt 2 0 2)] [p2,p10,p22,p8] kr ?_;refine DZ 10 kr rfl ?_;refine AZ (n:=98) AC [p7,(4,.st c3),p11,p5,p4,p3] [p2,p10,p1,p8] kr ?_;exact RunA.done kr (BC [0,2] ⟨⟨_,rfl,DV⟩,⟨_,rfl,EP⟩,trivial⟩ ⟨DX (b':=0) kr kr,lv,lv,lv,lv,lv,trivial⟩)
   ·let p23:Nat×AV:=(69,.b r40.2.2.2.2.1)
    refine AZ (n:=98) AC [p7,(4,.st c3),p11,p5,p4,p3,(63,.pt 1 0 1),p23] [p2,p10,p9,p8] kr ?_;refine DZ 1 kr rfl ?_;refine AZ (n:=98) AC [p7,(4,.st c3),p11,p5,p4,p3,(64,.v (.int .u8 r40.2.2.1)),p23] [p2,p10,p9,p8] kr ?_;refine DZ 2 kr rfl ?_;refine AZ (n:=98) AC [p7,(4,.st c3),p11,p5,p4,p3,(65,.v (.int .u8 (r40.2.2.1.tmod 2))),p23] [p2,p10,p9,p8] kr ?_;refine DZ 3 kr rfl ?_;refine AZ (n:=98) AC [p7,(4,.st c3),p11,p5,p4,p3,(66,.j (wr .i64 (r40.2.2.1.tmod 2))),p23] [p2,p10,p9,p8] kr ?_;refine RunA.q 4 kr rfl ?_
    let p24:Nat×AV:=(67,.j (wr .i64 (1 + (wr .i64 (r40.2.2.1.tmod 2)))))
    refine AZ (n:=98) AC [p7,(4,.st c3),p11,p5,p4,p3,p24,p23] [p2,p10,p9,p8] kr ?_;refine RunA.q 7 kr rfl ?_;refine AZ (n:=98) AC [p7,(4,.st c3),p11,p5,p4,p3,p24,p23,(70,.pt 2 0 4)] [p2,p10,p9,p8] kr ?_;refine DZ 8 kr rfl ?_
    let p25:Option Blk:=some ⟨5,66,[.ag [.v (.int .u8 r40.2.2.2.2.2.2.1),.st r40.2.2.2.2.2.2.2.1,.b r40.2.2.2.2.2.2.2.2.1,.e0,.j (wr .i64 (1 + (wr .i64 (r40.2.2.1.tmod 2))))]],false⟩
    refine AZ (n:=98) AC [p7,(4,.st c3),p11,p5,p4,p3,p23] [p2,p10,p25,p8] kr ?_;refine RunA.q 9 kr rfl ?_;refine AZ (n:=98) AC [p7,(4,.st c3),p11,p5,p4,p3,p23,(71,.pt 2 0 2)] [p2,p10,p25,p8] kr ?_;refine DZ 10 kr rfl ?_;refine AZ (n:=98) AC [p7,(4,.st c3),p11,p5,p4,p3] [p2,p10,p1,p8] kr ?_;exact RunA.done kr (BC [0,2] ⟨⟨_,rfl,DV⟩,⟨_,rfl,EP⟩,trivial⟩ ⟨DX (b':=0) kr kr,lv,lv,lv,lv,lv,trivial⟩)
  have hq:=OI h; subst hq;exact ⟨rfl,(Wk.trans (s1:=⟨Fr 98 [p7,(4,.st c3),p6,p5,p4,p3],[p2,p1]⟩) AQ (Wk.trans (s1:=⟨Fr 98 [p7,(4,.st c3),p6,p5,p4,p3],[p2,p1,none]⟩) Wk.none (Wk.trans (s1:=⟨Fr 98 [p7,(4,.st c3),p6,p5,p4,p3],[p2,some ⟨5,66,[.ag [.v (.int .u8 r40.2.2.2.2.2.2.1),.st r40.2.2.2.2.2.2.2.1,.b r40.2.2.2.2.1,.sl 1 ([].map cdS.enc),.j (wr .i64 (1 + (wr .i64 (r40.2.2.1.tmod 2))))]],false⟩,none]⟩) (Ml 2 (.inr kr) ⟨.inr (.inl rfl),.inr (.inr ⟨_,_,_,_,rfl,rfl,⟨(.inr ⟨_,_,rfl,rfl,⟨.inl rfl,.inl rfl,.inl rfl,T5,.inl rfl,trivial⟩⟩),trivial⟩⟩),.inl rfl,trivial⟩ ⟨⟨hd 0 (r40.1.map AB.enc),kr,(.inl (.inl rfl))⟩,⟨.st c3,kr,(.inl (.inl rfl))⟩,⟨.pt 1 0 0,kr,(.inl (.inl rfl))⟩,⟨.sl 5 (((x0.take (mnI (x0.length:Int) 8).toNat).drop (0:Int).toNat).map (cdA (csC (cdK .u8) (csC (cdK .u8) (csC (cdK .u8) (csC cdB (csE cdB))))) (fun _=>rfl)).enc),kr,(.inl (.inl rfl))⟩,⟨.j (((x0.take (mnI (x0.length:Int) 8).toNat).drop (0:Int).toNat).length:Int),kr,(.inl (.inl rfl))⟩,⟨.j c4,kr,(.inl (.inl rfl))⟩,trivial⟩) (BC [0,1] ⟨⟨_,rfl,DV⟩,⟨_,rfl,EP⟩,trivial⟩ ⟨DX (b':=0) kr kr,lv,lv,lv,lv,lv,trivial⟩))))⟩
 ·rw [Bx hb1226] at h
  refine Ae AC [(3,hd 0 (r40.1.map AB.enc)),(4,.st c3),(6,.pt 1 0 0),(7,.pt 2 0 0),(8,hd 3 (r40.2.2.2.2.2.2.2.2.2.2.map cdS.enc)),(13,.sl 5 (((x0.take (mnI (x0.length:Int) 8).toNat).drop (0:Int).toNat).map (cdA (csC (cdK .u8) (csC (cdK .u8) (csC (cdK .u8) (csC cdB (csE cdB))))) (fun _=>rfl)).enc)),(14,.j (((x0.take (mnI (x0.length:Int) 8).toNat).drop (0:Int).toNat).length:Int)),(15,.j c4),(53,.v (.int .u8 r40.2.2.2.2.2.2.1)),(72,.b (r40.2.2.2.2.2.2.1==5))] [mk 5 66 (r40.1.map AB.enc),some ⟨5,63,[.ag [.v (.int .u8 r40.2.1),.v (.int .u8 r40.2.2.1),.v (.int .u8 r40.2.2.2.1),.b r40.2.2.2.2.1,.b r40.2.2.2.2.2.1]],false⟩,some ⟨5,66,[.ag [.v (.int .u8 r40.2.2.2.2.2.2.1),.st r40.2.2.2.2.2.2.2.1,.b r40.2.2.2.2.2.2.2.2.1,.e0,.j r40.2.2.2.2.2.2.2.2.2.1]],false⟩,mk 1 9 (r40.2.2.2.2.2.2.2.2.2.2.map cdS.enc)] ?_;obtain ⟨r2058,hr2058,h⟩:=OB h;refine C9 (KF x0 c3 c4 r40 _ hr2058) ?_;have hq:=OI h; subst hq;exact ⟨rfl,(BC [0,1] ⟨⟨_,rfl,DV⟩,⟨_,rfl,EP⟩,trivial⟩ ⟨DX (b':=0) kr kr,lv,lv,lv,lv,lv,trivial⟩)⟩
theorem Ko (x0:(List (Int×Int×Int×Bool×Bool))) (c3:(List UInt8)) (c4:Int) (r40:(List AF)×Int×Int×Int×Bool×Bool×Int×(List UInt8)×Bool×Int×(List (List UInt8))) (r:((List AF)×(List UInt8)×Int×(List UInt8)×Bool×(List (List UInt8))×Int)) (h:FH x0 c3 c4 r40=some r):Sem E0 ⟨none,false⟩ (pc B5 [1,1,1,0,1,0,0,1,1,0,0,1,1,1,1,1,0,1,0,1]) ⟨Fr 98 [(3,hd 0 (r40.1.map AB.enc)),(4,.st c3),(6,.pt 1 0 0),(7,.pt 2 0 0),(8,hd 3 (r40.2.2.2.2.2.2.2.2.2.2.map cdS.enc)),(13,.sl 5 (((x0.take (mnI (x0.length:Int) 8).toNat).drop (0:Int).toNat).map (cdA (csC (cdK .u8) (csC (cdK .u8) (csC (cdK .u8) (csC cdB (csE cdB))))) (fun _=>rfl)).enc)),(14,.j (((x0.take (mnI (x0.length:Int) 8).toNat).drop (0:Int).toNat).length:Int)),(15,.j c4),(53,.v (.int .u8 r40.2.2.2.2.2.2.1)),(54,.b (r40.2.2.2.2.2.2.1==1))],[mk 5 66 (r40.1.map AB.enc),some ⟨5,63,[.ag [.v (.int .u8 r40.2.1),.v (.int .u8 r40.2.2.1),.v (.int .u8 r40.2.2.2.1),.b r40.2.2.2.2.1,.b r40.2.2.2.2.2.1]],false⟩,some ⟨5,66,[.ag [.v (.int .u8 r40.2.2.2.2.2.2.1),.st r40.2.2.2.2.2.2.2.1,.b r40.2.2.2.2.2.2.2.2.1,.e0,.j r40.2.2.2.2.2.2.2.2.2.1]],false⟩,mk 1 9 (r40.2.2.2.2.2.2.2.2.2.2.map cdS.enc)]⟩ (fun e s=>e = .normal/\Wk E0 s ⟨Fr 98 [(3,hd 0 (r.1.map AB.enc)),(4,.st r.2.1),(7,.pt 1 0 0),(13,.sl 5 (((x0.take (mnI (x0.length:Int) 8).toNat).drop (0:Int).toNat).map (cdA (csC (cdK .u8) (csC (cdK .u8) (csC (cdK .u8) (csC cdB (csE cdB))))) (fun _=>rfl)).enc)),(14,.j (((x0.take (mnI (x0.length:Int) 8).toNat).drop (0:Int).toNat).length:Int)),(15,.j c4)],[mk 5 66 (r.1.map AB.enc),some ⟨5,66,[AB.enc r.2.2],false⟩]⟩):=by
 unfold FH at h;refine AU (b:=(r40.2.2.2.2.2.2.1==1)) kr (fun hb41=>?_) (fun hb41=>?_)
 ·rw [if_pos hb41] at h
  refine AI ?_
  let p1:Option Blk:=some ⟨5,66,[.ag [.v (.int .u8 r40.2.2.2.2.2.2.1),.st r40.2.2.2.2.2.2.2.1,.b r40.2.2.2.2.2.2.2.2.1,.sl 1 (r40.2.2.2.2.2.2.2.2.2.2.map cdS.enc),.j r40.2.2.2.2.2.2.2.2.2.1]],false⟩
  let p2:Option Blk:=mk 5 66 (r40.1.map AB.enc)
  let p3:Nat×AV:=(15,.j c4)
  let p4:Nat×AV:=(14,.j (((x0.take (mnI (x0.length:Int) 8).toNat).drop (0:Int).toNat).length:Int))
  let p5:Nat×AV:=(13,.sl 5 (((x0.take (mnI (x0.length:Int) 8).toNat).drop (0:Int).toNat).map (cdA (csC (cdK .u8) (csC (cdK .u8) (csC (cdK .u8) (csC cdB (csE cdB))))) (fun _=>rfl)).enc))
  let p6:Nat×AV:=(8,.sl 1 (r40.2.2.2.2.2.2.2.2.2.2.map cdS.enc))
  let p7:Nat×AV:=(3,hd 0 (r40.1.map AB.enc))
  refine AL (s1:=⟨Fr 98 [p7,(7,.pt 1 0 0),p6,p5,p4,p3],[p2,p1]⟩) ?_ ?_
  ·let p8:Option Blk:=some ⟨5,66,[.ag [.v (.int .u8 r40.2.2.2.2.2.2.1),.st r40.2.2.2.2.2.2.2.1,.b r40.2.2.2.2.2.2.2.2.1,.e0,.j r40.2.2.2.2.2.2.2.2.2.1]],false⟩
   let p9:Option Blk:=some ⟨5,63,[.ag [.v (.int .u8 r40.2.1),.v (.int .u8 r40.2.2.1),.v (.int .u8 r40.2.2.2.1),.b r40.2.2.2.2.1,.b r40.2.2.2.2.2.1]],false⟩
   refine AD (n:=98) AC 2 [p7,(7,.pt 2 0 0),(8,hd 3 (r40.2.2.2.2.2.2.2.2.2.2.map cdS.enc)),p5,p4,p3,(56,hd 3 (r40.2.2.2.2.2.2.2.2.2.2.map cdS.enc)),(57,.pt 2 0 3)] [p2,p9,p8,mk 1 9 (r40.2.2.2.2.2.2.2.2.2.2.map cdS.enc)] kr ?_;refine OM (s1:=⟨Fr 98 [p7,(7,.pt 2 0 0),p6,p5,p4,p3,(56,.sl 1 (r40.2.2.2.2.2.2.2.2.2.2.map cdS.enc)),(57,.pt 2 0 3)],[p2,p9,p8,none]⟩) (Mj 3 (.inl kr) ⟨.inr (.inl rfl),.inr (.inr ⟨_,_,_,_,rfl,rfl,⟨.inl rfl,trivial⟩⟩),.inr (.inr ⟨_,_,_,_,rfl,rfl,⟨.inl rfl,trivial⟩⟩),.inl rfl,trivial⟩ ⟨⟨hd 0 (r40.1.map AB.enc),kr,.inl rfl⟩,⟨.pt 2 0 0,kr,.inl rfl⟩,⟨hd 3 (r40.2.2.2.2.2.2.2.2.2.2.map cdS.enc),kr,Qi (t:=9) kr MR⟩,⟨.sl 5 (((x0.take (mnI (x0.length:Int) 8).toNat).drop (0:Int).toNat).map (cdA (csC (cdK .u8) (csC (cdK .u8) (csC (cdK .u8) (csC cdB (csE cdB))))) (fun _=>rfl)).enc),kr,.inl rfl⟩,⟨.j (((x0.take (mnI (x0.length:Int) 8).toNat).drop (0:Int).toNat).length:Int),kr,.inl rfl⟩,⟨.j c4,kr,.inl rfl⟩,⟨hd 3 (r40.2.2.2.2.2.2.2.2.2.2.map cdS.enc),kr,Qi (t:=9) kr MR⟩,⟨.pt 2 0 3,kr,.inl rfl⟩,trivial⟩) ?_;refine AD (n:=98) AC 1 [p7,(7,.pt 2 0 0),p6,p5,p4,p3] [p2,p9,p1,none] kr ?_;exact AJ rfl (BC [0,2] ⟨⟨_,rfl,DV⟩,⟨_,rfl,EP⟩,trivial⟩ ⟨DX (b':=0) kr kr,lv,lv,lv,lv,lv,trivial⟩)
  obtain ⟨v42,hv42,h⟩:=OB h;refine AL (s1:=⟨Fr 98 [p7,(4,.st v42),(7,.pt 1 0 0),p5,p4,p3],[p2,p1]⟩) ?_ ?_
  ·refine AD (n:=98) AC 1 [p7,(7,.pt 1 0 0),p5,p4,p3,(58,.sl 1 (r40.2.2.2.2.2.2.2.2.2.2.map cdS.enc))] [p2,p1] kr ?_
   refine Aw AC 0 rfl (BH (AA rfl) rfl (BW (a:= .sl 1 (r40.2.2.2.2.2.2.2.2.2.2.map cdS.enc)) (b:= .j 0) kr kr (Iy (e:=cdS.enc) (el:=9) (k:=1) (ki:= .i64) kr kr hv42))) ?_;exact Ar AC
  have hq:=OI h; subst hq;exact ⟨rfl,(BC [0,1] ⟨⟨_,rfl,DV⟩,⟨_,rfl,EP⟩,trivial⟩ ⟨DX (b':=0) kr kr,lv,lv,lv,lv,lv,trivial⟩)⟩
 ·rw [Bx hb41] at h
  refine Ae AC [(3,hd 0 (r40.1.map AB.enc)),(4,.st c3),(6,.pt 1 0 0),(7,.pt 2 0 0),(8,hd 3 (r40.2.2.2.2.2.2.2.2.2.2.map cdS.enc)),(13,.sl 5 (((x0.take (mnI (x0.length:Int) 8).toNat).drop (0:Int).toNat).map (cdA (csC (cdK .u8) (csC (cdK .u8) (csC (cdK .u8) (csC cdB (csE cdB))))) (fun _=>rfl)).enc)),(14,.j (((x0.take (mnI (x0.length:Int) 8).toNat).drop (0:Int).toNat).length:Int)),(15,.j c4),(53,.v (.int .u8 r40.2.2.2.2.2.2.1)),(61,.b (r40.2.2.2.2.2.2.1==4))] [mk 5 66 (r40.1.map AB.enc),some ⟨5,63,[.ag [.v (.int .u8 r40.2.1),.v (.int .u8 r40.2.2.1),.v (.int .u8 r40.2.2.2.1),.b r40.2.2.2.2.1,.b r40.2.2.2.2.2.1]],false⟩,some ⟨5,66,[.ag [.v (.int .u8 r40.2.2.2.2.2.2.1),.st r40.2.2.2.2.2.2.2.1,.b r40.2.2.2.2.2.2.2.2.1,.e0,.j r40.2.2.2.2.2.2.2.2.2.1]],false⟩,mk 1 9 (r40.2.2.2.2.2.2.2.2.2.2.map cdS.enc)] ?_;obtain ⟨r2059,hr2059,h⟩:=OB h;refine C9 (Kp x0 c3 c4 r40 _ hr2059) ?_;have hq:=OI h; subst hq;exact ⟨rfl,(BC [0,1] ⟨⟨_,rfl,DV⟩,⟨_,rfl,EP⟩,trivial⟩ ⟨DX (b':=0) kr kr,lv,lv,lv,lv,lv,trivial⟩)⟩
theorem Kq (x0:(List (Int×Int×Int×Bool×Bool))):∀ (f:Nat) (c2:(List AF)) (c3:(List UInt8)) (c4:Int) (r:((List AF))),DI x0 f c2 c3 c4=some r->SemN E0 ⟨none,false⟩ (pc B5 [1,1,1,0,1,0,0]) f ⟨Fr 98 [(3,hd 0 (c2.map AB.enc)),(4,.st c3),(13,.sl 5 (((x0.take (mnI (x0.length:Int) 8).toNat).drop (0:Int).toNat).map (cdA (csC (cdK .u8) (csC (cdK .u8) (csC (cdK .u8) (csC cdB (csE cdB))))) (fun _=>rfl)).enc)),(14,.j (((x0.take (mnI (x0.length:Int) 8).toNat).drop (0:Int).toNat).length:Int)),(15,.j c4)],[mk 5 66 (c2.map AB.enc)]⟩ (fun e s=>e=(.exit 0)/\Wk E0 s ⟨Fr 98 [(3,hd 0 (r.map AB.enc))],[mk 5 66 (r.map AB.enc)]⟩):=by
 intro f;induction f with
 | zero=>intro c2 c3 c4 r h; cases h
 | succ f ih0 =>
  intro c2 c3 c4 r h
  have ih:=fun (c2:(List AF)) (c3:(List UInt8)) (c4:Int)=>ih0 c2 c3 c4 r
  unfold DI at h;refine En ?_;refine Ae AC [(3,hd 0 (c2.map AB.enc)),(4,.st c3),(13,.sl 5 (((x0.take (mnI (x0.length:Int) 8).toNat).drop (0:Int).toNat).map (cdA (csC (cdK .u8) (csC (cdK .u8) (csC (cdK .u8) (csC cdB (csE cdB))))) (fun _=>rfl)).enc)),(14,.j (((x0.take (mnI (x0.length:Int) 8).toNat).drop (0:Int).toNat).length:Int)),(15,.j c4),(16,.b (decide (c4 < (((x0.take (mnI (x0.length:Int) 8).toNat).drop (0:Int).toNat).length:Int))))] [mk 5 66 (c2.map AB.enc)] ?_;refine AI ?_;refine AU (b:=(decide (c4 < (((x0.take (mnI (x0.length:Int) 8).toNat).drop (0:Int).toNat).length:Int)))) kr (fun hb5=>?_) (fun hb5=>?_)
  ·rw [if_pos hb5] at h
   refine Ax ?_;refine AI ?_;refine Bh ?_;refine AI ?_;obtain ⟨v6,hv6,h⟩:=OB h;refine AL (s1:=⟨Fr 98 [(3,hd 0 (c2.map AB.enc)),(4,.st c3),(6,.pt 1 0 0),(13,.sl 5 (((x0.take (mnI (x0.length:Int) 8).toNat).drop (0:Int).toNat).map (cdA (csC (cdK .u8) (csC (cdK .u8) (csC (cdK .u8) (csC cdB (csE cdB))))) (fun _=>rfl)).enc)),(14,.j (((x0.take (mnI (x0.length:Int) 8).toNat).drop (0:Int).toNat).length:Int)),(15,.j c4)],[mk 5 66 (c2.map AB.enc),some ⟨5,63,[.ag [.v (.int .u8 v6.1),.v (.int .u8 v6.2.1),.v (.int .u8 v6.2.2.1),.b v6.2.2.2.1,.b v6.2.2.2.2]],false⟩]⟩) ?_ ?_
   ·refine Aw AC 0 rfl (BH (AA rfl) rfl (BW (a:= .sl 5 (((x0.take (mnI (x0.length:Int) 8).toNat).drop (0:Int).toNat).map (cdA (csC (cdK .u8) (csC (cdK .u8) (csC (cdK .u8) (csC cdB (csE cdB))))) (fun _=>rfl)).enc)) (b:= .j c4) kr kr (Iy (e:=(cdA (csC (cdK .u8) (csC (cdK .u8) (csC (cdK .u8) (csC cdB (csE cdB))))) (fun _=>rfl)).enc) (el:=63) (k:=5) (ki:= .i64) kr kr hv6))) ?_
    exact Ar AC
   refine Ae AC [(3,hd 0 (c2.map AB.enc)),(4,.st c3),(6,.pt 1 0 0),(7,.pt 2 0 0),(13,.sl 5 (((x0.take (mnI (x0.length:Int) 8).toNat).drop (0:Int).toNat).map (cdA (csC (cdK .u8) (csC (cdK .u8) (csC (cdK .u8) (csC cdB (csE cdB))))) (fun _=>rfl)).enc)),(14,.j (((x0.take (mnI (x0.length:Int) 8).toNat).drop (0:Int).toNat).length:Int)),(15,.j c4)] [mk 5 66 (c2.map AB.enc),some ⟨5,63,[.ag [.v (.int .u8 v6.1),.v (.int .u8 v6.2.1),.v (.int .u8 v6.2.2.1),.b v6.2.2.2.1,.b v6.2.2.2.2]],false⟩,some ⟨5,66,[.ag [.v (.int .u8 (wr .u8 (1 + (v6.1.tmod 10)))),.st [],.b false,.e0,.j 0]],false⟩] ?_;refine AI ?_;by_cases hk7:(Cn (v6.2.2.1.tmod 4) (([97,98,99,100]:List UInt8).length:Int) ([97,98,99,100]:List UInt8).length)=true
   case neg=>rw [if_neg hk7] at h; cases h
   rw [if_pos hk7] at h;by_cases hk8:(Cn 0 (1:Int) ((([97,98,99,100]:List UInt8).take (([97,98,99,100]:List UInt8).length:Int).toNat).drop (v6.2.2.1.tmod 4).toNat).length)=true
   case neg=>rw [if_neg hk8] at h; cases h
   rw [if_pos hk8] at h;refine AL (s1:=⟨Fr 98 [(3,hd 0 (c2.map AB.enc)),(4,.st c3),(6,.pt 1 0 0),(7,.pt 2 0 0),(8,hd 3 ([((((([97,98,99,100]:List UInt8).take (([97,98,99,100]:List UInt8).length:Int).toNat).drop (v6.2.2.1.tmod 4).toNat).take (1:Int).toNat).drop (0:Int).toNat)].map cdS.enc)),(13,.sl 5 (((x0.take (mnI (x0.length:Int) 8).toNat).drop (0:Int).toNat).map (cdA (csC (cdK .u8) (csC (cdK .u8) (csC (cdK .u8) (csC cdB (csE cdB))))) (fun _=>rfl)).enc)),(14,.j (((x0.take (mnI (x0.length:Int) 8).toNat).drop (0:Int).toNat).length:Int)),(15,.j c4)],[mk 5 66 (c2.map AB.enc),some ⟨5,63,[.ag [.v (.int .u8 v6.1),.v (.int .u8 v6.2.1),.v (.int .u8 v6.2.2.1),.b v6.2.2.2.1,.b v6.2.2.2.2]],false⟩,some ⟨5,66,[.ag [.v (.int .u8 (wr .u8 (1 + (v6.1.tmod 10)))),.st [],.b false,.e0,.j 0]],false⟩,mk 1 9 ([((((([97,98,99,100]:List UInt8).take (([97,98,99,100]:List UInt8).length:Int).toNat).drop (v6.2.2.1.tmod 4).toNat).take (1:Int).toNat).drop (0:Int).toNat)].map cdS.enc)]⟩) ?_ ?_
   ·refine AD (n:=98) AC 3 [(3,hd 0 (c2.map AB.enc)),(4,.st c3),(6,.pt 1 0 0),(7,.pt 2 0 0),(13,.sl 5 (((x0.take (mnI (x0.length:Int) 8).toNat).drop (0:Int).toNat).map (cdA (csC (cdK .u8) (csC (cdK .u8) (csC (cdK .u8) (csC cdB (csE cdB))))) (fun _=>rfl)).enc)),(14,.j (((x0.take (mnI (x0.length:Int) 8).toNat).drop (0:Int).toNat).length:Int)),(15,.j c4),(26,.v (.int .u8 (v6.2.2.1.tmod 4)))] [mk 5 66 (c2.map AB.enc),some ⟨5,63,[.ag [.v (.int .u8 v6.1),.v (.int .u8 v6.2.1),.v (.int .u8 v6.2.2.1),.b v6.2.2.2.1,.b v6.2.2.2.2]],false⟩,some ⟨5,66,[.ag [.v (.int .u8 (wr .u8 (1 + (v6.1.tmod 10)))),.st [],.b false,.e0,.j 0]],false⟩] kr ?_
    refine Aw AC 0 rfl (BH (AA rfl) rfl (EO (a:= .st [97,98,99,100]) (l:=(some (.v (.int .u8 (v6.2.2.1.tmod 4))))) (u:=none) (m:=none) kr kr kr rfl (FY (bs:=[97,98,99,100]) (lo:=(v6.2.2.1.tmod 4)) (hi:=(([97,98,99,100]:List UInt8).length:Int)) kr (Fd (KY hk7)) rfl hk7))) ?_;refine Aw AC 0 rfl (BH (AA rfl) rfl (EO (a:= .st ((([97,98,99,100]:List UInt8).take (([97,98,99,100]:List UInt8).length:Int).toNat).drop (v6.2.2.1.tmod 4).toNat)) (l:=none) (u:=(some (.j 1))) (m:=none) kr kr kr rfl (FY (bs:=((([97,98,99,100]:List UInt8).take (([97,98,99,100]:List UInt8).length:Int).toNat).drop (v6.2.2.1.tmod 4).toNat)) (lo:=0) (hi:=(1:Int)) kr rfl (Fd (Ji hk8)) hk8))) ?_;exact Ar AC
   refine AI ?_;refine Ae AC [(3,hd 0 (c2.map AB.enc)),(4,.st c3),(6,.pt 1 0 0),(7,.pt 2 0 0),(8,hd 3 ([((((([97,98,99,100]:List UInt8).take (([97,98,99,100]:List UInt8).length:Int).toNat).drop (v6.2.2.1.tmod 4).toNat).take (1:Int).toNat).drop (0:Int).toNat)].map cdS.enc)),(13,.sl 5 (((x0.take (mnI (x0.length:Int) 8).toNat).drop (0:Int).toNat).map (cdA (csC (cdK .u8) (csC (cdK .u8) (csC (cdK .u8) (csC cdB (csE cdB))))) (fun _=>rfl)).enc)),(14,.j (((x0.take (mnI (x0.length:Int) 8).toNat).drop (0:Int).toNat).length:Int)),(15,.j c4),(33,.b ((Ua .u8 v6.2.2.1 4)!=0))] [mk 5 66 (c2.map AB.enc),some ⟨5,63,[.ag [.v (.int .u8 v6.1),.v (.int .u8 v6.2.1),.v (.int .u8 v6.2.2.1),.b v6.2.2.2.1,.b v6.2.2.2.2]],false⟩,some ⟨5,66,[.ag [.v (.int .u8 (wr .u8 (1 + (v6.1.tmod 10)))),.st [],.b false,.e0,.j 0]],false⟩,mk 1 9 ([((((([97,98,99,100]:List UInt8).take (([97,98,99,100]:List UInt8).length:Int).toNat).drop (v6.2.2.1.tmod 4).toNat).take (1:Int).toNat).drop (0:Int).toNat)].map cdS.enc)] ?_;obtain ⟨r14,hr14,h⟩:=OB h;refine C9 (Km x0 c2 c3 c4 v6 _ hr14) ?_;refine AI ?_;refine AI ?_;obtain ⟨j27,hj27,h⟩:=OB h;refine AL (s1:=⟨Fr 98 [(3,hd 0 (j27.1.map AB.enc)),(4,.st c3),(6,.pt 1 0 0),(7,.pt 2 0 0),(8,hd 3 (j27.2.2.2.2.2.2.2.2.2.2.1.map cdS.enc)),(13,.sl 5 (((x0.take (mnI (x0.length:Int) 8).toNat).drop (0:Int).toNat).map (cdA (csC (cdK .u8) (csC (cdK .u8) (csC (cdK .u8) (csC cdB (csE cdB))))) (fun _=>rfl)).enc)),(14,.j (((x0.take (mnI (x0.length:Int) 8).toNat).drop (0:Int).toNat).length:Int)),(15,.j c4),(49,.b j27.2.2.2.2.2.2.2.2.2.2.2)],[mk 5 66 (j27.1.map AB.enc),some ⟨5,63,[.ag [.v (.int .u8 j27.2.1),.v (.int .u8 j27.2.2.1),.v (.int .u8 j27.2.2.2.1),.b j27.2.2.2.2.1,.b j27.2.2.2.2.2.1]],false⟩,some ⟨5,66,[.ag [.v (.int .u8 j27.2.2.2.2.2.2.1),.st j27.2.2.2.2.2.2.2.1,.b j27.2.2.2.2.2.2.2.2.1,.e0,.j j27.2.2.2.2.2.2.2.2.2.1]],false⟩,mk 1 9 (j27.2.2.2.2.2.2.2.2.2.2.1.map cdS.enc)]⟩) ?_ ?_
   ·refine AD (n:=98) AC 3 [(3,hd 0 (c2.map AB.enc)),(4,.st c3),(6,.pt 1 0 0),(7,.pt 2 0 0),(8,hd 3 (r14.map cdS.enc)),(13,.sl 5 (((x0.take (mnI (x0.length:Int) 8).toNat).drop (0:Int).toNat).map (cdA (csC (cdK .u8) (csC (cdK .u8) (csC (cdK .u8) (csC cdB (csE cdB))))) (fun _=>rfl)).enc)),(14,.j (((x0.take (mnI (x0.length:Int) 8).toNat).drop (0:Int).toNat).length:Int)),(15,.j c4),(45,.b v6.2.2.2.2)] [mk 5 66 (c2.map AB.enc),some ⟨5,63,[.ag [.v (.int .u8 v6.1),.v (.int .u8 v6.2.1),.v (.int .u8 v6.2.2.1),.b v6.2.2.2.1,.b v6.2.2.2.2]],false⟩,some ⟨5,66,[.ag [.v (.int .u8 (wr .u8 (1 + (v6.1.tmod 10)))),.st [],.b false,.e0,.j 0]],false⟩,mk 1 9 (r14.map cdS.enc)] kr ?_
    rcases BE v6.2.2.2.2 with hc2062 | hc2062
    ·rw [if_pos hc2062] at hj27
     rw [hc2062];refine AD (n:=98) AC 4 [(3,hd 0 (c2.map AB.enc)),(4,.st c3),(6,.pt 1 0 0),(7,.pt 2 0 0),(8,hd 3 (r14.map cdS.enc)),(13,.sl 5 (((x0.take (mnI (x0.length:Int) 8).toNat).drop (0:Int).toNat).map (cdA (csC (cdK .u8) (csC (cdK .u8) (csC (cdK .u8) (csC cdB (csE cdB))))) (fun _=>rfl)).enc)),(14,.j (((x0.take (mnI (x0.length:Int) 8).toNat).drop (0:Int).toNat).length:Int)),(15,.j c4),(46,.pt 2 0 0),(47,.v (.int .u8 (wr .u8 (1 + (v6.1.tmod 10))))),(48,.b ((wr .u8 (1 + (v6.1.tmod 10)))!=1)),(49,.b ((wr .u8 (1 + (v6.1.tmod 10)))!=1))] [mk 5 66 (c2.map AB.enc),some ⟨5,63,[.ag [.v (.int .u8 v6.1),.v (.int .u8 v6.2.1),.v (.int .u8 v6.2.2.1),.b v6.2.2.2.1,.b true]],false⟩,some ⟨5,66,[.ag [.v (.int .u8 (wr .u8 (1 + (v6.1.tmod 10)))),.st [],.b false,.e0,.j 0]],false⟩,mk 1 9 (r14.map cdS.enc)] kr ?_;have hq:=OI hj27; subst hq;exact AJ rfl (BC [0,1,2,3] ⟨⟨_,rfl,DV⟩,⟨_,rfl,EP⟩,⟨_,rfl,EP⟩,⟨_,rfl,DV⟩,trivial⟩ ⟨DX (b':=0) kr kr,lv,lv,lv,DX (b':=3) kr kr,lv,lv,lv,lv,trivial⟩)
    ·rw [Bx hc2062] at hj27
     rw [hc2062];refine AD (n:=98) AC 4 [(3,hd 0 (c2.map AB.enc)),(4,.st c3),(6,.pt 1 0 0),(7,.pt 2 0 0),(8,hd 3 (r14.map cdS.enc)),(13,.sl 5 (((x0.take (mnI (x0.length:Int) 8).toNat).drop (0:Int).toNat).map (cdA (csC (cdK .u8) (csC (cdK .u8) (csC (cdK .u8) (csC cdB (csE cdB))))) (fun _=>rfl)).enc)),(14,.j (((x0.take (mnI (x0.length:Int) 8).toNat).drop (0:Int).toNat).length:Int)),(15,.j c4),(46,.tp []),(47,.tp []),(48,.tp []),(49,.b false)] [mk 5 66 (c2.map AB.enc),some ⟨5,63,[.ag [.v (.int .u8 v6.1),.v (.int .u8 v6.2.1),.v (.int .u8 v6.2.2.1),.b v6.2.2.2.1,.b false]],false⟩,some ⟨5,66,[.ag [.v (.int .u8 (wr .u8 (1 + (v6.1.tmod 10)))),.st [],.b false,.e0,.j 0]],false⟩,mk 1 9 (r14.map cdS.enc)] kr ?_;have hq:=OI hj27; subst hq;exact AJ rfl (BC [0,1,2,3] ⟨⟨_,rfl,DV⟩,⟨_,rfl,EP⟩,⟨_,rfl,EP⟩,⟨_,rfl,DV⟩,trivial⟩ ⟨DX (b':=0) kr kr,lv,lv,lv,DX (b':=3) kr kr,lv,lv,lv,lv,trivial⟩)
   obtain ⟨r40,hr40,h⟩:=OB h;refine C9 (Kn x0 c3 c4 j27 _ hr40) ?_;refine AI ?_;refine Ae AC [(3,hd 0 (r40.1.map AB.enc)),(4,.st c3),(6,.pt 1 0 0),(7,.pt 2 0 0),(8,hd 3 (r40.2.2.2.2.2.2.2.2.2.2.map cdS.enc)),(13,.sl 5 (((x0.take (mnI (x0.length:Int) 8).toNat).drop (0:Int).toNat).map (cdA (csC (cdK .u8) (csC (cdK .u8) (csC (cdK .u8) (csC cdB (csE cdB))))) (fun _=>rfl)).enc)),(14,.j (((x0.take (mnI (x0.length:Int) 8).toNat).drop (0:Int).toNat).length:Int)),(15,.j c4),(53,.v (.int .u8 r40.2.2.2.2.2.2.1))] [mk 5 66 (r40.1.map AB.enc),some ⟨5,63,[.ag [.v (.int .u8 r40.2.1),.v (.int .u8 r40.2.2.1),.v (.int .u8 r40.2.2.2.1),.b r40.2.2.2.2.1,.b r40.2.2.2.2.2.1]],false⟩,some ⟨5,66,[.ag [.v (.int .u8 r40.2.2.2.2.2.2.1),.st r40.2.2.2.2.2.2.2.1,.b r40.2.2.2.2.2.2.2.2.1,.e0,.j r40.2.2.2.2.2.2.2.2.2.1]],false⟩,mk 1 9 (r40.2.2.2.2.2.2.2.2.2.2.map cdS.enc)] ?_;refine Bh ?_;refine Ae AC [(3,hd 0 (r40.1.map AB.enc)),(4,.st c3),(6,.pt 1 0 0),(7,.pt 2 0 0),(8,hd 3 (r40.2.2.2.2.2.2.2.2.2.2.map cdS.enc)),(13,.sl 5 (((x0.take (mnI (x0.length:Int) 8).toNat).drop (0:Int).toNat).map (cdA (csC (cdK .u8) (csC (cdK .u8) (csC (cdK .u8) (csC cdB (csE cdB))))) (fun _=>rfl)).enc)),(14,.j (((x0.take (mnI (x0.length:Int) 8).toNat).drop (0:Int).toNat).length:Int)),(15,.j c4),(53,.v (.int .u8 r40.2.2.2.2.2.2.1)),(54,.b (r40.2.2.2.2.2.2.1==1))] [mk 5 66 (r40.1.map AB.enc),some ⟨5,63,[.ag [.v (.int .u8 r40.2.1),.v (.int .u8 r40.2.2.1),.v (.int .u8 r40.2.2.2.1),.b r40.2.2.2.2.1,.b r40.2.2.2.2.2.1]],false⟩,some ⟨5,66,[.ag [.v (.int .u8 r40.2.2.2.2.2.2.1),.st r40.2.2.2.2.2.2.2.1,.b r40.2.2.2.2.2.2.2.2.1,.e0,.j r40.2.2.2.2.2.2.2.2.2.1]],false⟩,mk 1 9 (r40.2.2.2.2.2.2.2.2.2.2.map cdS.enc)] ?_;obtain ⟨r2060,hr2060,h⟩:=OB h;refine C9 (Ko x0 c3 c4 r40 _ hr2060) ?_;by_cases hk2061:(Dy 64 (r2060.1.length + 1))=true
   case neg=>rw [if_neg hk2061] at h; cases h
   rw [if_pos hk2061] at h;refine AL (s1:=⟨Fr 98 [(3,hd 0 ((r2060.1++[r2060.2.2]).map AB.enc)),(4,.st r2060.2.1),(13,.sl 5 (((x0.take (mnI (x0.length:Int) 8).toNat).drop (0:Int).toNat).map (cdA (csC (cdK .u8) (csC (cdK .u8) (csC (cdK .u8) (csC cdB (csE cdB))))) (fun _=>rfl)).enc)),(14,.j (((x0.take (mnI (x0.length:Int) 8).toNat).drop (0:Int).toNat).length:Int)),(15,.j c4)],[mk 5 66 ((r2060.1++[r2060.2.2]).map AB.enc)]⟩) ?_ ?_
   ·refine AD (n:=98) AC 3 [(4,.st r2060.2.1),(13,.sl 5 (((x0.take (mnI (x0.length:Int) 8).toNat).drop (0:Int).toNat).map (cdA (csC (cdK .u8) (csC (cdK .u8) (csC (cdK .u8) (csC cdB (csE cdB))))) (fun _=>rfl)).enc)),(14,.j (((x0.take (mnI (x0.length:Int) 8).toNat).drop (0:Int).toNat).length:Int)),(15,.j c4),(92,hd 0 (r2060.1.map AB.enc)),(94,hd 2 ([r2060.2.2].map AB.enc))] [mk 5 66 (r2060.1.map AB.enc),some ⟨5,66,[AB.enc r2060.2.2],false⟩,mk 5 66 ([r2060.2.2].map AB.enc)] kr ?_
    refine Aw AC 0 rfl (Ug (AA rfl) rfl kr kr (J0 (a:=hd 0 (r2060.1.map AB.enc)) (b:=hd 2 ([r2060.2.2].map AB.enc)) kr kr (O6 (c:=AB) (xs:=r2060.1) (vs:=[r2060.2.2]) (k:=5) (bytes:=64) (el:=66) kr kr (PE (t:=66) kr) (List.cons_ne_nil _ _) kr hk2061))) ?_;refine AD (n:=98) AC 1 [(3,hd 3 ((r2060.1++[r2060.2.2]).map AB.enc)),(4,.st r2060.2.1),(13,.sl 5 (((x0.take (mnI (x0.length:Int) 8).toNat).drop (0:Int).toNat).map (cdA (csC (cdK .u8) (csC (cdK .u8) (csC (cdK .u8) (csC cdB (csE cdB))))) (fun _=>rfl)).enc)),(14,.j (((x0.take (mnI (x0.length:Int) 8).toNat).drop (0:Int).toNat).length:Int)),(15,.j c4)] [none,some ⟨5,66,[AB.enc r2060.2.2],false⟩,mk 5 66 ([r2060.2.2].map AB.enc),mk 5 66 ((r2060.1++[r2060.2.2]).map AB.enc)] kr ?_;exact AJ rfl (BC [3] ⟨⟨_,rfl,DV⟩,trivial⟩ ⟨DX (b':=3) kr kr,lv,lv,lv,lv,trivial⟩)
   refine Em AC [(3,hd 0 ((r2060.1++[r2060.2.2]).map AB.enc)),(4,.st r2060.2.1),(13,.sl 5 (((x0.take (mnI (x0.length:Int) 8).toNat).drop (0:Int).toNat).map (cdA (csC (cdK .u8) (csC (cdK .u8) (csC (cdK .u8) (csC cdB (csE cdB))))) (fun _=>rfl)).enc)),(14,.j (((x0.take (mnI (x0.length:Int) 8).toNat).drop (0:Int).toNat).length:Int)),(15,.j (wr .i64 (c4 + 1)))] [mk 5 66 ((r2060.1++[r2060.2.2]).map AB.enc)] ?_;exact CQ (s1:=⟨Fr 98 [(3,hd 0 ((r2060.1++[r2060.2.2]).map AB.enc)),(4,.st r2060.2.1),(13,.sl 5 (((x0.take (mnI (x0.length:Int) 8).toNat).drop (0:Int).toNat).map (cdA (csC (cdK .u8) (csC (cdK .u8) (csC (cdK .u8) (csC cdB (csE cdB))))) (fun _=>rfl)).enc)),(14,.j (((x0.take (mnI (x0.length:Int) 8).toNat).drop (0:Int).toNat).length:Int)),(15,.j (wr .i64 (c4 + 1)))],[mk 5 66 ((r2060.1++[r2060.2.2]).map AB.enc)]⟩) (BC [0] ⟨⟨_,rfl,DV⟩,trivial⟩ ⟨DX (b':=0) kr kr,lv,lv,lv,lv,trivial⟩) (ih (r2060.1++[r2060.2.2]) r2060.2.1 (wr .i64 (c4 + 1)) h)
  ·rw [Bx hb5] at h
   refine F8 ?_;have hq:=OI h; subst hq;exact ⟨rfl,(BC [0] ⟨⟨_,rfl,DV⟩,trivial⟩ ⟨DX (b':=0) kr kr,trivial⟩)⟩
theorem L8 (x0:(List (Int×Int×Int×Bool×Bool))) (r:(List AF)) (h:FP x0=some r):Sem E0 ⟨none,false⟩ B5 ⟨Fr 98 (BB 0 (Hg.enc (x0,()))),[]⟩ fun e s'=>(e = .normal\/e = .ret)/\∃ xs,D4 E0.P s'.fr s'.hp Tryz.f9.results.toList=some xs/\Eh xs=Hk r:=by
 unfold FP at h
 let p1:Nat×AV:=(0,.sl 5 (x0.map (cdA (csC (cdK .u8) (csC (cdK .u8) (csC (cdK .u8) (csC cdB (csE cdB))))) (fun _=>rfl)).enc))
 refine CB (DP (s1:=⟨Fr 98 [p1],[]⟩) AQ ?_);refine Ae AC [p1] [] ?_;refine Ae AC [p1,(3,.e0)] [] ?_;refine Ae AC [p1,(3,.e0),(4,.st [])] [] ?_;refine AI ?_;refine AI ?_;by_cases hk1:(Cn 0 (mnI (x0.length:Int) 8) x0.length)=true
 case neg=>rw [if_neg hk1] at h; cases h
 rw [if_pos hk1] at h
 let p2:Nat×AV:=(15,.j 0)
 let p3:Nat×AV:=(14,.j (((x0.take (mnI (x0.length:Int) 8).toNat).drop (0:Int).toNat).length:Int))
 let p4:Nat×AV:=(13,.sl 5 (((x0.take (mnI (x0.length:Int) 8).toNat).drop (0:Int).toNat).map (cdA (csC (cdK .u8) (csC (cdK .u8) (csC (cdK .u8) (csC cdB (csE cdB))))) (fun _=>rfl)).enc))
 refine AL (s1:=⟨Fr 98 [(3,.e0),(4,.st []),p4,p3,p2],[]⟩) ?_ ?_
 ·let p5:Nat×AV:=(9,.sl 5 (x0.map (cdA (csC (cdK .u8) (csC (cdK .u8) (csC (cdK .u8) (csC cdB (csE cdB))))) (fun _=>rfl)).enc))
  refine AD (n:=98) AC 2 [(3,.e0),(4,.st []),p5,(10,.sl 5 (x0.map (cdA (csC (cdK .u8) (csC (cdK .u8) (csC (cdK .u8) (csC cdB (csE cdB))))) (fun _=>rfl)).enc))] [] kr ?_;refine Aw AC 0 rfl (BH (AA rfl) rfl (FT (a:= .sl 5 (x0.map (cdA (csC (cdK .u8) (csC (cdK .u8) (csC (cdK .u8) (csC cdB (csE cdB))))) (fun _=>rfl)).enc)) kr (Dx (el:=63) kr))) ?_;refine AD (n:=98) AC 1 [(3,.e0),(4,.st []),p5,(12,.j (mnI (x0.length:Int) 8))] [] kr ?_;refine Aw AC 0 rfl (BH (AA rfl) rfl (EO (a:= .sl 5 (x0.map (cdA (csC (cdK .u8) (csC (cdK .u8) (csC (cdK .u8) (csC cdB (csE cdB))))) (fun _=>rfl)).enc)) (l:=none) (u:=(some (.j (mnI (x0.length:Int) 8)))) (m:=none) kr kr kr rfl (Jt (xs:=x0) (e:=(cdA (csC (cdK .u8) (csC (cdK .u8) (csC (cdK .u8) (csC cdB (csE cdB))))) (fun _=>rfl)).enc) (k:=5) (el:=63) (lo:=0) (hi:=(mnI (x0.length:Int) 8)) kr kr rfl (Fd (Ji hk1)) hk1))) ?_;refine Aw AC 0 rfl (BH (AA rfl) rfl (FT (a:= .sl 5 (((x0.take (mnI (x0.length:Int) 8).toNat).drop (0:Int).toNat).map (cdA (csC (cdK .u8) (csC (cdK .u8) (csC (cdK .u8) (csC cdB (csE cdB))))) (fun _=>rfl)).enc)) kr (Dx (el:=63) kr))) ?_;exact Ar AC
 refine Bh ?_;obtain ⟨r2064,hr2064,h⟩:=OB h;refine F9 (n:=100000) ?_
 let p6:Nat×AV:=(3,hd 0 ([].map AB.enc))
 refine DB (CQ (s1:=⟨Fr 98 [p6,(4,.st []),p4,p3,p2],[mk 5 66 ([].map AB.enc)]⟩) (Wk.trans (s1:=⟨Fr 98 [p6,(4,.st []),p4,p3,p2],[mk 5 66 ([].map AB.enc)]⟩) Wk.none (BC [0] ⟨⟨_,rfl,Tm⟩,trivial⟩ ⟨lv,lv,lv,lv,lv,trivial⟩)) (Kq x0 _ [] [] 0 _ hr2064)) ?_;refine Ae AC [(2,hd 0 (r2064.map AB.enc))] [mk 5 66 (r2064.map AB.enc)] ?_;refine Ah ?_;have hq:=OI h; subst hq
 let p7:Nat×AV:=(2,.sl 5 (r2064.map AB.enc))
 exact ⟨⟨Fr 98 [p7],[]⟩,(Wk.trans (s1:=⟨Fr 98 [p7],[none]⟩) (Mj 0 (.inl kr) ⟨.inl rfl,trivial⟩ ⟨⟨hd 0 (r2064.map AB.enc),kr,Qi (t:=66) kr MR⟩,trivial⟩) (BC [] trivial ⟨lv,trivial⟩)),.inr rfl,[.sl 5 (r2064.map AB.enc)],kr,kr⟩
def N6:List AV->Option AV:=FZ Hg (fun a=>FP a.1) Hk
theorem OF:XOk 9 N6:=by
 refine Az Tryz.func9 (c:=B5) ?h2 ⟨Tryz.call9⟩ Hg (fun a=>FP a.1) Hk (fun a=>(by show 1<=98; decide)) ?h3 ?h4
 case h2=>kernel_rfl
 case h3=>intro b; kernel_rfl
 case h4=>exact fun a b h=>L8 a.1 b h
section
variable {E:Env}{cx:Cx}{ops:Array Oper}{rest rest':List Oper}{K:St->Prop}{n n0 k:Nat}{l:List (Nat×AV)}{hp:Hp}{α β:Type}{s:Cs α}{F:α->Option β}{er:β->AV}{u:α}{v:β}{fid:FuncId}{w:World}{Z:Nat->Prop}{R:List RI}
theorem WJ (hX:XOk fid (FZ s F er)) (hh:HR w Z R hp) (hg:GI E0 w Z){xs:List AV}{us:List Value}(hvs:VRs w Z R xs us) (hv:SeesD hp s xs u) (hok:Cq (er v)=true\/xs.all C5=true/\s.dec xs=some u) (hF:F u=some v) :
  Ret E0.P fid us.toArray w fun x w'=>∃ Z',HR w' Z' R hp/\VR w' Z' R (er v) x/\Step w Z R hp w' Z' R hp/\w.grownBy w' none/\(Cq (er v)=true->Z'=Z):=by
 by_cases hf:Cq (er v)=true
 ·obtain ⟨ys,hv,hd⟩:=hv
  have hz1:∀ c,(Z c\/own R hp c)->c < w.heap.size:=fun c hc=>hc.elim (hh.zlt c) (fun ⟨b,B,r,h1,_,h3,h4⟩=>h4 ▸ hh.rltL h1 h3)
  have hg1:GI E0 w (fun c=>Z c\/own R hp c):=fun q y hy=>(hg q y hy).mono (fun _ _=>rfl) (fun _ h=> .inl h) (fun _ _ h=>h)
  refine Ret.mono (hX.2 ys (er v) (Hy hd hF) w _ us hz1 hg1 (hv w Z R us hh hvs)) fun x w' ⟨hs,hx⟩=>?_
  exact ⟨Z,hh.keep hs.size (fun c hc=>hs.block c hc (by simp)),JH hf hx,⟨hs.os,hs.tape,hs.output,hs.size,fun c hc _=>hs.block c hc (by simp),fun _ h=> .inl h,fun _ h=>h,fun _ h=> .inl h,fun _ _ h=>h⟩,hs,fun _=>rfl⟩
 ·obtain ⟨hn,hd⟩:=hok.resolve_left hf
  refine Ret.mono (hX.2 xs (er v) (Hy hd hF) w Z us hh.zlt hg (K8 hn hvs)) fun x w' ⟨hs,hx⟩=>?_
  obtain ⟨k1,k2⟩:=hh.addZ hs
  exact ⟨_,k1,hx.up,k2,hs,fun h=>absurd h hf⟩
theorem XH (hP:E.P=E0.P) (hG:E.G=E0.G){caps xs:List AV}{d:Option Nat}{f:Operand}{args:Array Operand}{tys:Array TypeId}{ty:TypeId}{pos:String}{af:Array Edge}{g:Option (Nat×Bool)}{base:Bs}{a:Act}(hX:XOk fid (FZ s F er)) (sr:SR E base w Z R ⟨Fr n l,hp⟩ a)
  (hf:opA E (Fr n l) f=some (.fn fid [] caps)) (ha:Fl (opA E (Fr n l)) args.toList=some xs) (hv:SeesD hp s (xs++caps) u) (hok:Cq (er v)=true\/(xs++caps).all C5=true/\s.dec (xs++caps)=some u) (hF:F u=some v) {Q:Act->World->Prop}
  (kk:∀ x w' Z',HR w' Z' R hp->VR w' Z' R (er v) x->Step w Z R hp w' Z' R hp->w.grownBy w' none->(Cq (er v)=true->Z'=Z)->SR E base w' Z' R ⟨Fr n l,hp⟩ a->Q (a.put d x) w'):Lw E.P ⟨d,.call ⟨.value f,args,tys⟩,ty,pos,af,g⟩ a w Q:=by
 have hρ:∀ o x,opA E (Fr n l) o=some x->VR w Z R x (a.eval o):=fun o x e=>opA_vr sr o x e
 have hvf:=hρ _ _ hf
 have hva:∃ uc:List Value,a.eval f = .func (.func fid) #[] uc.toArray/\VRs w Z R caps uc:=by
  generalize a.eval f=vf at hvf
  cases hvf with
  | fn hl hl' hx hy =>
   rename_i u1 u2
   have e1:u1=[]:=by simpa using hl
   subst e1
   exact ⟨u2,rfl,hl',hy⟩
 obtain ⟨uc,hva,huc⟩:=hva
 have hcl:BG E.P fid:=hP ▸ hX.1
 unfold Lw
 rw [EI (uf:=[]) (uc:=uc) rfl hva rfl hcl w]
 have hret:=WJ hX sr.hh (by have:=sr.gl; exact fun q y hy=>this q y (by rw [hG]; exact hy)) ((opds_vr hρ ha).append huc) hv hok hF
 rw [<-hP] at hret
 simp only [List.nil_append]
 refine Ret.mono hret fun x w' ⟨Z',k1,k2,k3,k4,k5⟩=>?_
 exact kk x w' Z' k1 k2 k3 k4 k5 (sr.step k1 k3)
theorem Eb (hP:E.P=E0.P) (hG:E.G=E0.G) (hX:XOk fid (FZ s F er)){caps xs:List AV}{d:Nat}{f:Operand}{args:Array Operand}{tys:Array TypeId}{ty:TypeId}{pos:String}{af:Array Edge}{g:Option (Nat×Bool)}(hr:rest=⟨some d,.call ⟨.value f,args,tys⟩,ty,pos,af,g⟩::rest') (hw:A5 ops (Fr n l) ⟨some d,.call ⟨.value f,args,tys⟩,ty,pos,af,g⟩=some true)
  (hf:opA E (Fr n l) f=some (.fn fid [] caps)) (ha:Fl (opA E (Fr n l)) args.toList=some xs) (hv:SeesD hp s (xs++caps) u) (hok:Cq (er v)=true\/(xs++caps).all C5=true/\s.dec (xs++caps)=some u) (hF:F u=some v) (kk:RunL E cx ops rest' ⟨Fr n ((d,er v)::l),hp⟩ K):RunL E cx ops rest ⟨Fr n l,hp⟩ K:=by
 subst hr
 intro ro base Q a w Z R hro sr hy q
 refine K5 rfl (wantedA_eq sr hw) (XH hP hG hX sr hf ha hv hok hF fun x w' Z' k1 k2 k3 k4 k5 sr'=>?_)
 refine kk ro base Q _ w' Z' R hro ?_ (hy.step sr.hh k3) fun s' a' w'' Z'' R'' hK sr'' st'=>q s' a' w'' Z'' R'' hK sr'' (k3.trans st')
 have:=sr'.put (d:=some d) k2
 rwa [CF] at this
end
def Qr:Hp->Bool
 | []=>true
 | none::r=>Qr r
 | some B::r=>!B.fz&&B.es.all C5&&Qr r
theorem K3:∀ {h:Hp},Qr h=true->∀ (b:Nat) (B:Blk),h[b]? = some (some B)->B.fz=false/\B.es.all C5=true
 | [],_,b,B,hb=>by simp at hb
 | none::r,h,0,B,hb=>by simp at hb
 | none::r,h,b + 1,B,hb=>K3 (h:=r) h b B (by simpa using hb)
 | some B0::r,h,b,B,hb=>by
  unfold Qr at h
  simp only [Bool.and_eq_true,Bool.not_eq_true'] at h
  cases b with
  | zero =>
   have:B0=B:=by simpa using hb
   subst this
   exact h.1
  | succ b=>exact K3 h.2 b B (by simpa using hb)
section
variable {w w':World}{Z Z':Nat->Prop}{R R':List RI}{h h':Hp}
theorem HR.joinF (hh:HR w Z R h) (st:StepW w Z [] [] w' Z' R' h') (hh':HR w' Z' R' h') (hf:Qr h'=true):HR w' Z' (R++R') (h++h')/\Step w Z R h w' Z' (R++R') (h++h'):=by
 have hold:∀ c,c < w.heap.size->w'.heap[c]? = w.heap[c]?:=fun c hc=>st.block c hc fun ⟨b,B,r,hb,_⟩=>by simp at hb
 have hr:∀ (i:Nat) (x:RI),R[i]? = some x->(R++R')[i]? = some x:=fun i x hx=>by
  rw [List.getElem?_append_left (List.getElem?_eq_some_iff.1 hx).1]; exact hx
 have hnew:∀ c,own R' h' c->w.heap.size<=c:=fun c hc=>(st.own_ c hc).resolve_left fun ⟨b,B,r,hb,_⟩=>by simp at hb
 have hz':∀ c,Z' c->Z c\/w.heap.size<=c:=fun c hc=>(st.z' c hc).elim .inl fun h=>h.elim (fun ⟨b,B,r,hb,_⟩=>by simp at hb) .inr
 have hlen:=hh.len
 have hat:∀ (b:Nat) (B:Blk),(h++h')[b]? = some (some B)->(b < h.length/\h[b]? = some (some B)/\(R++R')[b]? = R[b]?)\/(∃ j,b=h.length + j/\h'[j]? = some (some B)/\(R++R')[b]? = R'[j]?):=fun b B hb=>by
  by_cases hlt:b < h.length
  ·rw [List.getElem?_append_left hlt] at hb
   exact .inl ⟨hlt,hb,List.getElem?_append_left (by omega)⟩
  ·rw [List.getElem?_append_right (by omega)] at hb
   exact .inr ⟨b - h.length,by omega,hb,by rw [List.getElem?_append_right (by omega),hlen]⟩
 have hRb:∀ (b:Nat) (B:Blk) (r:RI),h[b]? = some (some B)->R[b]? = some r->r.c < w.heap.size:=fun b B r h1 h2=>hh.rltL h1 h2
 have hRn:∀ (j:Nat) (B:Blk) (r:RI),h'[j]? = some (some B)->R'[j]? = some r->w.heap.size<=r.c:=fun j B r h1 h2=>hnew _ ⟨j,B,r,h1,(K3 hf j B h1).1,h2,rfl⟩
 refine ⟨⟨by simp [hh.len,hh'.len],fun b B hB=>?_,fun b b' B B' r r' hB hfz hB' hfz' h1 h2 e=>?_,hh'.zlt⟩,⟨st.os,st.tape,st.output,st.size,fun c hc _=>hold c hc,fun c hc=>?_,st.z,fun c hc=>(hz' c hc).elim .inl fun h=> .inr (.inr h),hr⟩⟩
 ·rcases hat b B hB with ⟨hlt,hb,hRR⟩ | ⟨j,rfl,hb,hRR⟩
  ·obtain ⟨r,arr,us,g1,g2,g3,g4,g5,g6,g7,g8,g9,g10⟩:=hh.blk b B hb
   exact ⟨r,arr,us,hRR.trans g1,g2,(hold _ (hRb b B r hb g1)).trans g3,g4,g5,g6,(fun h=>st.z _ (g7 h)),(fun h hc=>(hz' _ hc).elim (g8 h) fun q=>by have:=hRb b B r hb g1; omega),⟨g9.len,fun i x u hx hu=>(g9.at_ i x u hx hu).mono (fun c hc=>hold c (hh.zlt c hc)) (fun c hc=>st.z c hc) hr⟩,g10⟩
  ·obtain ⟨r,arr,us,g1,g2,g3,g4,g5,g6,g7,g8,g9,g10⟩:=hh'.blk j B hb
   obtain ⟨f1,f2⟩:=K3 hf j B hb
   exact ⟨r,arr,us,hRR.trans g1,g2,g3,g4,g5,g6,g7,g8,⟨g9.len,fun i x u hx hu=>(Hu (List.all_eq_true.1 f2 x (List.mem_of_getElem? hx)) (g9.at_ i x u hx hu)).up⟩,g10⟩
 ·rcases hat b B hB with ⟨_,hb,hRR⟩ | ⟨j,rfl,hb,hRR⟩ <;> rcases hat b' B' hB' with ⟨_,hb',hRR'⟩ | ⟨j',rfl,hb',hRR'⟩ <;> rw [hRR] at h1 <;> rw [hRR'] at h2
  ·exact hh.inj b b' B B' r r' hb hfz hb' hfz' h1 h2 e
  ·have:=hRb b B r hb h1; have:=hRn j' B' r' hb' h2; omega
  ·have:=hRb b' B' r' hb' h2; have:=hRn j B r hb h1; omega
  ·rw [hh'.inj j j' B B' r r' hb hfz hb' hfz' h1 h2 e]
 ·obtain ⟨b,B,r,h1,h2,h3,rfl⟩:=hc
  rcases hat b B h1 with ⟨_,hb,hRR⟩ | ⟨j,rfl,hb,hRR⟩ <;> rw [hRR] at h3
  ·exact .inl ⟨b,B,r,hb,h2,h3,rfl⟩
  ·exact .inr (hRn j B r hb h3)
end
theorem SeeD.ag {α:Type}{hp:Hp}{s:Cs α}{hn:∀ x,(s.enc x).all J6=true}{xs:List AV}{a:α}(h:SeesD hp s xs a):SeeD hp (cdA s hn) (.ag xs) a:=by
 obtain ⟨ys,k1,k2⟩:=h
 exact ⟨.ag ys,.ag k1,k2⟩
theorem SeeV.fn {hp:Hp}{f:FuncId}{cs cs':List AV}(hs:Sees hp cs cs'):SeeV hp (.fn f [] cs) (.fn f [] cs'):=fun w Z R u hh hv=>by
 cases hv with
 | fn hl hl' hx hy =>
  have:=hs w Z R _ hh ⟨hl',hy⟩
  exact .fn hl this.len (fun i x u h=>by simp at h) this.at_
/-- A closure over cells. -/
theorem SeeD.fn {α:Type}{hp:Hp}{f:FuncId}{s:Cs α}{hn:∀ x,(s.enc x).all Gi=true}{q:List AV}{a:α}(h:SeesD hp s q a):SeeD hp (cdF f s hn) (.fn f [] q) a:=by
 obtain ⟨ys,k1,k2⟩:=h
 refine ⟨.fn f [] ys,.fn k1,?_⟩
 show (if f=f then s.dec ys else none)=_
 rw [if_pos rfl]; exact k2
section
variable {E:Env}{cx:Cx}{ops:Array Oper}{rest rest':List Oper}{K:St->Prop}{n n0 k:Nat}{l:List (Nat×AV)}{hp:Hp}
end
/-- A nil slice is an empty frozen one, in structs too. -/
def UpV (x y:AV):Prop:=∀ (w:World) (Z:Nat->Prop) (R:List RI) (u:Value),VR w Z R x u->VR w Z R y u
theorem UpV.refl {x:AV}:UpV x x:=fun _ _ _ _ h=>h
theorem UpV.nil {k:Nat}:UpV .e0 (.sl k []):=fun _ _ _ _ h=>by
 cases h
 exact .sl (us:=[]) rfl rfl (Nat.le_refl _) (by unfold maxLen; omega) (fun h=>by omega) (fun i x u hx=>by simp at hx)
def UpVs:List AV->List AV->Prop
 | [],[]=>True
 | x::xs,y::ys=>UpV x y/\UpVs xs ys
 | _,_=>False
theorem UpVs.len:∀ {xs ys:List AV},UpVs xs ys->xs.length=ys.length
 | [],[],_=>rfl
 | _::_,_::_,h=>by simp [UpVs.len h.2]
 | [],_::_,h=>h.elim
 | _::_,[],h=>h.elim
theorem UpVs.get:∀ {xs ys:List AV}{i:Nat}{y:AV},UpVs xs ys->ys[i]? = some y->∃ x,xs[i]? = some x/\UpV x y
 | _::_,_::_,0,_,h,e=>by simp at e; subst e; exact ⟨_,rfl,h.1⟩
 | _::_,_::_,i + 1,_,h,e=>by
  obtain ⟨x,h1,h2⟩:=UpVs.get (i:=i) h.2 (by simpa using e)
  exact ⟨x,by simpa using h1,h2⟩
 | [],[],_,_,_,e=>by simp at e
 | [],_::_,_,_,h,_=>h.elim
 | _::_,[],_,_,h,_=>h.elim
theorem UpV.ag {xs ys:List AV}(h:UpVs xs ys):UpV (.ag xs) (.ag ys):=fun w Z R u hv=>by
 cases hv with
 | ag hl h1 hx =>
  refine .ag (by rw [hl,h.len]) h1 fun i y u hy hu=>?_
  obtain ⟨x,k1,k2⟩:=h.get hy
  exact k2 _ _ _ _ (hx i x u k1 hu)
def LkU (l:List (Nat×AV)):List (Nat×AV)->Prop
 | []=>True
 | (t,z)::r=>(∃ x,lk l t=some x/\UpV x z)/\LkU l r
theorem LkU.at_ {l:List (Nat×AV)}:∀ {l':List (Nat×AV)},LkU l l'->∀ t z,lk l' t=some z->∃ x,lk l t=some x/\UpV x z
 | [],_,t,z,h=>by cases h
 | (k,z0)::r,⟨h1,h2⟩,t,z,h=>by
  rw [Gb] at h
  split at h
  ·next hk=>injection h with h; subst hk h; exact h1
  ·exact h2.at_ t z h
/-- A value in which an own thing is frozen. -/
def FzU (e z x y:AV):Prop:=∀ (w:World) (Z Z':Nat->Prop) (R:List RI) (u:Value),(∀ c,Z c->Z' c)->(∀ v,VR w Z R e v->VR w Z' R z v)->VR w Z R x u->VR w Z' R y u
section
variable {e z:AV}
theorem FzU.refl {x:AV}:FzU e z x x:=fun _ _ _ _ _ hz _ h=>h.mono (fun _ _=>rfl) hz (fun _ _ h=>h)
theorem Rk:FzU e z e z:=fun _ _ _ _ u _ k h=>k u h
def FzUs (e z:AV):List AV->List AV->Prop
 | [],[]=>True
 | x::xs,y::ys=>FzU e z x y/\FzUs e z xs ys
 | _,_=>False
theorem FzUs.len:∀ {xs ys:List AV},FzUs e z xs ys->xs.length=ys.length
 | [],[],_=>rfl
 | _::_,_::_,h=>by simp [FzUs.len h.2]
 | [],_::_,h=>h.elim
 | _::_,[],h=>h.elim
theorem FzUs.get:∀ {xs ys:List AV}{i:Nat}{y:AV},FzUs e z xs ys->ys[i]? = some y->∃ x,xs[i]? = some x/\FzU e z x y
 | _::_,_::_,0,_,h,q=>by simp at q; subst q; exact ⟨_,rfl,h.1⟩
 | _::_,_::_,i + 1,_,h,q=>by
  obtain ⟨x,h1,h2⟩:=FzUs.get (i:=i) h.2 (by simpa using q)
  exact ⟨x,by simpa using h1,h2⟩
 | [],[],_,_,_,q=>by simp at q
 | [],_::_,_,_,h,_=>h.elim
 | _::_,[],_,_,h,_=>h.elim
theorem FzU.ag {xs ys:List AV}(h:FzUs e z xs ys):FzU e z (.ag xs) (.ag ys):=fun w Z Z' R u hz k hv=>by
 cases hv with
 | ag hl h1 hx =>
  refine .ag (by rw [hl,h.len]) h1 fun i y u hy hu=>?_
  obtain ⟨x,k1,k2⟩:=h.get hy
  exact k2 _ _ _ _ _ hz k (hx i x u k1 hu)
theorem FzU.fn {f:FuncId}{xs ys:List AV}(h:FzUs e z xs ys):FzU e z (.fn f [] xs) (.fn f [] ys):=fun w Z Z' R u hz k hv=>by
 cases hv with
 | fn hl hl' hx hy =>
  refine .fn hl (by rw [hl',h.len]) (fun i x u h=>by simp at h) fun i y u hy' hu=>?_
  obtain ⟨x,k1,k2⟩:=h.get hy'
  exact k2 _ _ _ _ _ hz k (hy i x u k1 hu)
end
def LkF (l:List (Nat×AV)) (e z:AV):List (Nat×AV)->Prop
 | []=>True
 | (t,y)::r=>(∃ x,lk l t=some x/\FzU e z x y)/\LkF l e z r
theorem LkF.at_ {l:List (Nat×AV)}{e z:AV}:∀ {l':List (Nat×AV)},LkF l e z l'->∀ t y,lk l' t=some y->∃ x,lk l t=some x/\FzU e z x y
 | [],_,t,y,h=>by cases h
 | (k,z0)::r,⟨h1,h2⟩,t,y,h=>by
  rw [Gb] at h
  split at h
  ·next hk=>injection h with h; subst hk h; exact h1
  ·exact h2.at_ t y h
theorem Ru {E:Env}{n:Nat}{l l':List (Nat×AV)}{hp:Hp}{α:Type}{o:Oc α}{e:AV}{x:α}{L:List Asn}(ht:T hp (own_ o e x::L)) (hl:LkF l e (o.cd.enc x) l'):∃ hp',WkY E ⟨Fr n l,hp⟩ ⟨Fr n l',hp'⟩/\T hp' L:=by
 obtain ⟨F,p,hn',_,hk⟩:=ht.act
 refine ⟨Jo F hp,fun base w Z R a sr=>?_,hk _ fun b hb _=>MT hb⟩
 have hown:∀ c,(∃ b ∈ F,∃ r,R[b]? = some r/\c=r.c)->own R hp c:=fun c ⟨b,hb,r,hr,hc⟩=>by
  obtain ⟨B,k1,k2⟩:=o.own p hb
  exact ⟨b,B,r,k1,k2,hr,hc.symm⟩
 have hown':∀ c,own R (Jo F hp) c->own R hp c:=fun c ⟨b,B,r,h1,h2,h3,h4⟩=>⟨b,B,r,(IY.1 h1).2,h2,h3,h4⟩
 have hzo:∀ c,(Z c\/∃ b ∈ F,∃ r,R[b]? = some r/\c=r.c)->Z c\/own R hp c:=fun c hc=>hc.imp_right (hown c)
 have up':∀ {x:AV} {u:Value} {R':List RI},VR w Z R' x u->VR w (fun c=>Z c\/∃ b ∈ F,∃ r,R[b]? = some r/\c=r.c) R' x u:=fun hv=>hv.mono (fun _ _=>rfl) (fun _ h=> .inl h) (fun _ _ h=>h)
 refine ⟨fun c=>Z c\/∃ b ∈ F,∃ r,R[b]? = some r/\c=r.c,R,⟨⟨by simp [Jo,sr.hh.len],fun b B hB=>?_,fun b b' B B' r r' h1 f1 h2 f2 g1 g2 e=>?_,fun c hc=>?_⟩,⟨?_,fun t x hx=>?_⟩,?_,fun g x hx=>up' (sr.gl g x hx),sr.bs⟩,⟨rfl,rfl,rfl,Nat.le_refl _,fun _ _ _=>rfl,fun c hc=> .inl (hown' c hc),fun _ h=> .inl h,fun c hc=>(hzo c hc).imp_right .inl,fun _ _ h=>h⟩⟩
 ·obtain ⟨hb,hB⟩:=IY.1 hB
  obtain ⟨r,arr,us,g1,g2,g3,g4,g5,g6,g7,g8,g9,g10⟩:=sr.hh.blk b B hB
  refine ⟨r,arr,us,g1,g2,g3,g4,g5,g6,fun hf=> .inl (g7 hf),fun hf hc=>?_,⟨g9.len,fun i x u hx hu=>up' (g9.at_ i x u hx hu)⟩,g10⟩
  rcases hc with hc | ⟨b',hb',r',hr',hc⟩
  ·exact g8 hf hc
  ·obtain ⟨B',k1,k2⟩:=o.own p hb'
   have:=sr.hh.inj b b' B B' r r' hB hf k1 k2 g1 hr' hc
   exact hb (this ▸ hb')
 ·exact sr.hh.inj b b' B B' r r' (IY.1 h1).2 f1 (IY.1 h2).2 f2 g1 g2 e
 ·rcases hzo c hc with hc | ⟨b,B,r,k1,_,k3,k4⟩
  ·exact sr.hh.zlt c hc
  ·exact k4 ▸ sr.hh.rltL k1 k3
 ·rw [D1]; have:=sr.fr.1; rw [D1] at this; exact this
 ·rw [Dv] at hx
  split at hx
  ·next ht =>
   injection hx with hx
   obtain ⟨x0,h1,hf⟩:=hl.at_ t x hx
   exact hf _ _ _ _ _ (fun c h=> .inl h) (fun v hv=>(o.vr sr.hh p hv).up) (sr.fr.2 t x0 (by rw [Dv,if_pos ht,h1]))
  ·cases hx
 ·exact sr.mks.imp fun q h3 h4 h5=>⟨h3,fun hc=>(hzo q hc).elim h4 h5,fun ho=>h5 (hown' q ho)⟩
/- (*strings.Builder).copyCheck -/
noncomputable def Bt:Env:=E0
theorem DS:EnvOk Bt:=AC
noncomputable def Dh:Code:=BX Tryz.f62
def B8  : Option (Unit) :=
 some ()
theorem FU {L:List Asn}{hp:Hp}(u0:AV) (r:Unit) (h:B8  = some r) (hT:T hp ((cel u0 2 72 (.ag [.v (.pointer none),.e0]))::L)):SemY Bt ⟨none,false⟩ Dh ⟨Fr 20 (BB 0 [u0]),hp⟩ fun x s'=>(x = .normal\/x = .ret)/\∃ ys,D4 Bt.P s'.fr s'.hp Tryz.f62.results.toList=some ys/\(fun v h'=>v = .tp []/\T h' ((cel u0 2 72 (.ag [u0,.e0]))::L)) (Eh ys) s'.hp:=by
 have he:=DS
 unfold B8 at h;refine FX (G8 (s1:=⟨Fr 20 [(0,u0)],hp⟩) WkY.f1 ?_);refine Aa ?_;refine SemY.regionL ?_;refine DL he 1 ?_;refine AH he 0 rfl (BH (AA rfl) rfl (Fz (Ck hT) kr)) ?_;refine AH he 0 rfl (BH (AA rfl) rfl (C0 (a:=u0) kr (Bb (off:=0) hT kr))) ?_;refine AH he 0 rfl (BH (AA rfl) rfl (Bz (p:=ER u0 0) kr (CZ (off:=0) (y:= .v (.pointer none)) (m:=1) (g:=false) hT kr kr kr))) ?_;refine El he [(0,u0),(6,.b true)] ?_;refine SemY.cond_true kr ?_;refine SemY.regionL ?_;refine DL he 2 ?_;refine QE he rfl hT (AA rfl) kr kr ?_;refine Ro (p:=u0) (fid:=90) he rfl (AA rfl) kr kr kr ?_;refine QE he rfl hT (AA rfl) kr kr ?_;refine AH he 0 rfl (BH (AA rfl) rfl (Fz (Ck hT) kr)) ?_;refine AH he 0 rfl (BH (AA rfl) rfl (C0 (a:=u0) kr (Bb (off:=0) hT kr))) ?_;obtain ⟨hp1,hs2,hT3⟩:=F7 (off:=0) (P:=Tryz.prog) (ty:=69) (y:=u0) (a':= .ag [u0,.e0]) hT (by have hq:=Lj (hT.front 0 rfl); revert hq; generalize u0=zz; intro hq; cases zz <;> first | (exact (Bool.false_ne_true hq.1).elim) | (exact (Bool.false_ne_true hq.2).elim) | skip; all_goals (first | rfl | kernel_rfl | exact rfl)) (by have hq:=Lj (hT.front 0 rfl); revert hq; generalize u0=zz; intro hq; cases zz <;> first | (exact (Bool.false_ne_true hq.1).elim) | (exact (Bool.false_ne_true hq.2).elim) | skip; all_goals (first | rfl | kernel_rfl | exact rfl)) (by have hq:=Lj (hT.front 0 rfl); revert hq; generalize u0=zz; intro hq; cases zz <;> first | (exact (Bool.false_ne_true hq.1).elim) | (exact (Bool.false_ne_true hq.2).elim) | skip; all_goals (first | rfl | kernel_rfl | exact rfl));refine RunL.store he (y:=ER u0 0) (z:=u0) rfl (AA rfl) kr kr hs2 ?_;refine AE rfl ?_;have hq:=OI h; subst hq;exact ⟨⟨Fr 20 [],hp1⟩,WkY.f1,.inl rfl,[],kr,⟨rfl,hT3⟩⟩
/- (*strings.Builder).WriteString -/
noncomputable def BK:Env:=E0
theorem C7:EnvOk BK:=AC
noncomputable def DR:Code:=BX Tryz.f28
def Bu (x0:(List UInt8)):Option (Int×(List Int)) :=
 B8.bind fun _v1 =>
 if (Dy 1 (([]:(List Int)).length + (Bj x0).length))=true then
 some ((x0.length:Int),(([]:(List Int))++(Bj x0)))
 else none
theorem FL {L:List Asn}{hp:Hp}(u0:AV) (x0:(List UInt8)) (r:Int×(List Int)) (h:Bu x0=some r) (hT:T hp ((cel u0 2 72 (.ag [.v (.pointer none),.e0]))::L)):SemY BK ⟨none,false⟩ DR ⟨Fr 19 (BB 0 [u0,.st x0]),hp⟩ fun x s'=>(x = .normal\/x = .ret)/\∃ ys,D4 BK.P s'.fr s'.hp Tryz.f28.results.toList=some ys/\(fun v h'=>∃ (z0:AV),v = .tp [.j r.1,.v .nilIface]/\T h' ((cel u0 2 72 (.ag [u0,z0]))::(own_ (ocL 1 5 (ocV (cdK .u8))) z0 r.2)::L)) (Eh ys) s'.hp:=by
 have he:=C7
 unfold Bu at h;refine FX (G8 (s1:=⟨Fr 19 [(0,u0),(1,.st x0)],hp⟩) WkY.f1 ?_);refine GL he [(0,u0),(1,.st x0)] ?_;refine Aa ?_;refine SemY.regionL ?_;refine DL he 1 ?_;obtain ⟨v1,hv1,h⟩:=OB h;refine Fb (E:=BK) (e:=Bt) rfl rfl DS rfl rfl (fid:=62) (caps:=[]) (xs:=[u0]) (fn:=Tryz.f62) (c:=Dh) (Out:=fun v h'=>v = .tp []/\T h' ((cel u0 2 72 (.ag [u0,.e0]))::L)) rfl (AA rfl) kr kr kr kr (by show 1<=20; decide) (FU u0 _ hv1 hT) ?_;rintro xx hp2 ⟨hqhp2,hT3⟩; subst xx;refine AE rfl (SemY.fr (l':=[(0,u0),(1,.st x0)]) kr ?_);refine Aa ?_;refine SemY.regionL ?_;refine DL he 2 ?_;refine AH he 0 rfl (BH (AA rfl) rfl (Fz (Ck hT3) kr)) ?_;refine AH he 0 rfl (BH (AA rfl) rfl (C0 (a:=u0) kr (Bb (off:=1) hT3 kr))) ?_;refine AH he 0 rfl (BH (AA rfl) rfl (Bz (p:=ER u0 1) kr (CZ (off:=1) (y:= .e0) (m:=1) (g:=false) hT3 kr kr kr))) ?_;refine DL he 1 ?_;by_cases hk9:(Dy 1 (([]:(List Int)).length + (Bj x0).length))=true
 case neg=>rw [if_neg hk9] at h; cases h
 rw [if_pos hk9] at h
 have hT4:=(T.e0 (k:=1) (ty:=5) (o:=(ocV (cdK .u8))) hT3)
 obtain ⟨e8,hp5,hb6,hT7⟩:=Nf (P:=Tryz.prog) (ty:=70) (ty2:=9) (bytes:=1) (y:= .st x0) (ys:=(Bj x0)) hT4 kr PF kr hk9;refine AH he 0 rfl (Ug (AA rfl) rfl kr kr (J0 (a:= .e0) (b:= .st x0) kr kr hb6)) ?_
 have hT10:=(hT7.front 1 rfl)
 refine AH he 0 rfl (BH (AA rfl) rfl (Fz (Ck hT10) kr)) ?_;refine AH he 0 rfl (BH (AA rfl) rfl (C0 (a:=u0) kr (Bb (off:=1) hT10 kr))) ?_;obtain ⟨hp11,hs12,hT13⟩:=F7 (off:=1) (P:=Tryz.prog) (ty:=70) (y:=e8) (a':= .ag [u0,e8]) hT10 (by have hq:=DJ (hT10.front 1 rfl); revert hq; generalize e8=zz; intro hq; cases zz <;> first | (exact (Bool.false_ne_true hq.1).elim) | (exact (Bool.false_ne_true hq.2).elim) | skip; all_goals (first | rfl | kernel_rfl | exact rfl)) (by have hq:=DJ (hT10.front 1 rfl); revert hq; generalize e8=zz; intro hq; cases zz <;> first | (exact (Bool.false_ne_true hq.1).elim) | (exact (Bool.false_ne_true hq.2).elim) | skip; all_goals (first | rfl | kernel_rfl | exact rfl)) (by have hq:=DJ (hT10.front 1 rfl); revert hq; generalize e8=zz; intro hq; cases zz <;> first | (exact (Bool.false_ne_true hq.1).elim) | (exact (Bool.false_ne_true hq.2).elim) | skip; all_goals (first | rfl | kernel_rfl | exact rfl));refine RunL.store he (y:=ER u0 1) (z:=e8) rfl (AA rfl) kr kr hs12 ?_;refine AE rfl (SemY.fr (l':=[(1,.st x0)]) kr ?_)
 let p1:Nat×AV:=(4,.j (x0.length:Int))
 refine GL he [p1,(5,.v .nilIface)] ?_;refine SemY.ret ?_;have hq:=OI h; subst hq;exact ⟨⟨Fr 19 [p1,(5,.v .nilIface)],hp11⟩,WkY.f1,.inr rfl,[.j (x0.length:Int),.v .nilIface],kr,⟨e8,rfl,hT13⟩⟩
/- (*strings.Builder).copyCheck -/
noncomputable def Bm:Env:=E0
theorem DG:EnvOk Bm:=AC
noncomputable def Db:Code:=BX Tryz.f62
def Bw  : Option (Unit) :=
 some ()
theorem FM {L:List Asn}{hp:Hp}(u0:AV) (u1:AV) (x0:(List UInt8)) (r:Unit) (h:Bw  = some r) (hT:T hp ((cel u0 2 72 (.ag [u0,u1]))::(own_ (ocL 1 5 (ocV (cdK .u8))) u1 (Bj x0))::L)):SemY Bm ⟨none,false⟩ Db ⟨Fr 20 (BB 0 [u0]),hp⟩ fun x s'=>(x = .normal\/x = .ret)/\∃ ys,D4 Bm.P s'.fr s'.hp Tryz.f62.results.toList=some ys/\(fun v h'=>v = .tp []/\T h' ((cel u0 2 72 (.ag [u0,u1]))::(own_ (ocL 1 5 (ocV (cdK .u8))) u1 (Bj x0))::L)) (Eh ys) s'.hp:=by
 have he:=DG
 unfold Bw at h;refine FX (G8 (s1:=⟨Fr 20 [(0,u0)],hp⟩) WkY.f1 ?_);refine Aa ?_;refine SemY.regionL ?_;refine DL he 1 ?_;refine AH he 0 rfl (BH (AA rfl) rfl (Fz (Ck hT) kr)) ?_;refine AH he 0 rfl (BH (AA rfl) rfl (C0 (a:=u0) kr (Bb (off:=0) hT kr))) ?_;refine AH he 0 rfl (BH (AA rfl) rfl (Bz (p:=ER u0 0) kr (CZ (off:=0) (y:=u0) (m:=1) (g:=false) hT kr kr kr))) ?_;refine AH he 0 rfl (BH (x:= .b false) (AA rfl) rfl (XP (QT hT) kr kr kr kr)) ?_;refine AE rfl (SemY.fr (l':=[(0,u0),(6,.b false)]) kr ?_);refine SemY.cond_false kr ?_;refine Aa ?_;refine SemY.regionL ?_;refine DL he 1 ?_;refine AH he 0 rfl (BH (AA rfl) rfl (Fz (Ck hT) kr)) ?_;refine AH he 0 rfl (BH (AA rfl) rfl (C0 (a:=u0) kr (Bb (off:=0) hT kr))) ?_;refine AH he 0 rfl (BH (AA rfl) rfl (Bz (p:=ER u0 0) kr (CZ (off:=0) (y:=u0) (m:=1) (g:=false) hT kr kr kr))) ?_;refine DL he 1 ?_;refine AH he 0 rfl (BH (x:= .b false) (AA rfl) rfl (XQ (QT hT) kr kr kr kr)) ?_;refine AE rfl (SemY.fr (l':=[(19,.b false)]) kr ?_);refine SemY.cond_false kr ?_;refine SemY.skip ?_;have hq:=OI h; subst hq;exact ⟨⟨Fr 20 [],hp⟩,WkY.f1,.inl rfl,[],kr,⟨rfl,hT⟩⟩
/- (*strings.Builder).WriteString -/
noncomputable def BD:Env:=E0
theorem Cy:EnvOk BD:=AC
noncomputable def DC:Code:=BX Tryz.f28
def Bn (x0:(List UInt8)) (x1:(List UInt8)):Option (Int×(List Int)) :=
 Bw.bind fun _v1 =>
 if (Dy 1 ((Bj x0).length + (Bj x1).length))=true then
 some ((x1.length:Int),((Bj x0)++(Bj x1)))
 else none
theorem Ei {L:List Asn}{hp:Hp}(u0:AV) (u1:AV) (x0:(List UInt8)) (x1:(List UInt8)) (r:Int×(List Int)) (h:Bn x0 x1=some r) (hT:T hp ((cel u0 2 72 (.ag [u0,u1]))::(own_ (ocL 1 5 (ocV (cdK .u8))) u1 (Bj x0))::L)):SemY BD ⟨none,false⟩ DC ⟨Fr 19 (BB 0 [u0,.st x1]),hp⟩ fun x s'=>(x = .normal\/x = .ret)/\∃ ys,D4 BD.P s'.fr s'.hp Tryz.f28.results.toList=some ys/\(fun v h'=>∃ (z0:AV),v = .tp [.j r.1,.v .nilIface]/\T h' ((cel u0 2 72 (.ag [u0,z0]))::(own_ (ocL 1 5 (ocV (cdK .u8))) z0 r.2)::L)) (Eh ys) s'.hp:=by
 have he:=Cy
 unfold Bn at h;refine FX (G8 (s1:=⟨Fr 19 [(0,u0),(1,.st x1)],hp⟩) WkY.f1 ?_);refine GL he [(0,u0),(1,.st x1)] ?_;refine Aa ?_;refine SemY.regionL ?_;refine DL he 1 ?_;obtain ⟨v1,hv1,h⟩:=OB h;refine Fb (E:=BD) (e:=Bm) rfl rfl DG rfl rfl (fid:=62) (caps:=[]) (xs:=[u0]) (fn:=Tryz.f62) (c:=Db) (Out:=fun v h'=>v = .tp []/\T h' ((cel u0 2 72 (.ag [u0,u1]))::(own_ (ocL 1 5 (ocV (cdK .u8))) u1 (Bj x0))::L)) rfl (AA rfl) kr kr kr kr (by show 1<=20; decide) (FM u0 u1 x0 _ hv1 hT) ?_;rintro xx hp2 ⟨hqhp2,hT3⟩; subst xx;refine AE rfl (SemY.fr (l':=[(0,u0),(1,.st x1)]) kr ?_);refine Aa ?_;refine SemY.regionL ?_;refine DL he 2 ?_;refine AH he 0 rfl (BH (AA rfl) rfl (Fz (Ck hT3) kr)) ?_;refine AH he 0 rfl (BH (AA rfl) rfl (C0 (a:=u0) kr (Bb (off:=1) hT3 kr))) ?_;refine AH he 0 rfl (BH (AA rfl) rfl (Bz (p:=ER u0 1) kr (CZ (off:=1) (y:=u1) (m:=1) (g:=false) hT3 kr kr kr))) ?_;refine DL he 1 ?_;by_cases hk8:(Dy 1 ((Bj x0).length + (Bj x1).length))=true
 case neg=>rw [if_neg hk8] at h; cases h
 rw [if_pos hk8] at h
 have hT9:=(hT3.front 1 rfl)
 obtain ⟨e7,hp4,hb5,hT6⟩:=Nf (P:=Tryz.prog) (ty:=70) (ty2:=9) (bytes:=1) (y:= .st x1) (ys:=(Bj x1)) hT9 kr PF kr hk8;refine AH he 0 rfl (Ug (AA rfl) rfl kr kr (J0 (a:=u1) (b:= .st x1) kr kr hb5)) ?_
 have hT10:=(hT6.front 1 rfl)
 refine AH he 0 rfl (BH (AA rfl) rfl (Fz (Ck hT10) kr)) ?_;refine AH he 0 rfl (BH (AA rfl) rfl (C0 (a:=u0) kr (Bb (off:=1) hT10 kr))) ?_;obtain ⟨hp11,hs12,hT13⟩:=F7 (off:=1) (P:=Tryz.prog) (ty:=70) (y:=e7) (a':= .ag [u0,e7]) hT10 (by have hq:=DJ (hT10.front 1 rfl); revert hq; generalize e7=zz; intro hq; cases zz <;> first | (exact (Bool.false_ne_true hq.1).elim) | (exact (Bool.false_ne_true hq.2).elim) | skip; all_goals (first | rfl | kernel_rfl | exact rfl)) (by have hq:=DJ (hT10.front 1 rfl); revert hq; generalize e7=zz; intro hq; cases zz <;> first | (exact (Bool.false_ne_true hq.1).elim) | (exact (Bool.false_ne_true hq.2).elim) | skip; all_goals (first | rfl | kernel_rfl | exact rfl)) (by have hq:=DJ (hT10.front 1 rfl); revert hq; generalize e7=zz; intro hq; cases zz <;> first | (exact (Bool.false_ne_true hq.1).elim) | (exact (Bool.false_ne_true hq.2).elim) | skip; all_goals (first | rfl | kernel_rfl | exact rfl));refine RunL.store he (y:=ER u0 1) (z:=e7) rfl (AA rfl) kr kr hs12 ?_;refine AE rfl (SemY.fr (l':=[(1,.st x1)]) kr ?_)
 let p1:Nat×AV:=(4,.j (x1.length:Int))
 refine GL he [p1,(5,.v .nilIface)] ?_;refine SemY.ret ?_;have hq:=OI h; subst hq;exact ⟨⟨Fr 19 [p1,(5,.v .nilIface)],hp11⟩,WkY.f1,.inr rfl,[.j (x1.length:Int),.v .nilIface],kr,⟨e7,rfl,hT13⟩⟩
/- (*strings.Builder).String -/
noncomputable def CG:Env:=E0
theorem Dw:EnvOk CG:=AC
noncomputable def D5:Code:=BX Tryz.f31
def Ca (x0:(List UInt8)):Option ((List UInt8)) :=
 if (decide (0 < (Bj x0).length))=true then
 if (decide (0 < x0.length))=true then
 if (okB x0)=true then
 some x0
 else none
 else none
 else none
theorem GD {L:List Asn}{hp:Hp}(u0:AV) (u1:AV) (x0:(List UInt8)) (r:(List UInt8)) (h:Ca x0=some r) (hT:T hp ((cel u0 2 72 (.ag [u0,u1]))::(own_ (ocL 1 5 (ocV (cdK .u8))) u1 (Bj x0))::L)):SemY CG ⟨none,false⟩ D5 ⟨Fr 14 (BB 0 [u0]),hp⟩ fun x s'=>(x = .normal\/x = .ret)/\∃ ys,D4 CG.P s'.fr s'.hp Tryz.f31.results.toList=some ys/\(fun v h'=>v = .st r/\T h' ((cel u0 2 72 (.ag [u0,u1]))::L)) (Eh ys) s'.hp:=by
 have he:=Dw
 unfold Ca at h;refine FX (G8 (s1:=⟨Fr 14 [(0,u0)],hp⟩) WkY.f1 ?_);refine GL he [(0,u0)] ?_;refine Aa ?_;refine MM 10 he.mixed kr kr ?_;refine RunDT.q (x:=u0) rfl kr rfl (AA rfl) rfl kr kr ?_;refine RunDT.q (x:=u0) rfl kr rfl (AA rfl) rfl (Fz (Ck hT) kr) kr ?_;refine RunDT.q (x:=ER u0 1) rfl kr rfl (AA rfl) rfl (C0 (a:=u0) kr (Bb (off:=1) hT kr)) kr ?_;refine RunDT.q (x:=u1) rfl kr rfl (AA rfl) rfl (Bz (p:=ER u0 1) kr (CZ (off:=1) (y:=u1) (m:=1) (g:=false) hT kr kr kr)) (K4 (off:=1) hT kr) ?_;by_cases hk1:(decide (0 < (Bj x0).length))=true
 case neg=>rw [if_neg hk1] at h; cases h
 rw [if_pos hk1] at h
 have hT2:=(hT.front 1 rfl)
 refine RunDT.q (x:=eAt u1 0) rfl kr rfl (AA rfl) rfl (XR (a:=u1) hT2 kr hk1) kr ?_;refine RunDT.q (x:=u0) rfl kr rfl (AA rfl) rfl kr kr ?_
 have hT3:=(hT2.front 1 rfl)
 refine RunDT.q (x:=u0) rfl kr rfl (AA rfl) rfl (Fz (Ck hT3) kr) kr ?_;refine RunDT.q (x:=ER u0 1) rfl kr rfl (AA rfl) rfl (C0 (a:=u0) kr (Bb (off:=1) hT3 kr)) kr ?_;refine RunDT.q (x:=u1) rfl kr rfl (AA rfl) rfl (Bz (p:=ER u0 1) kr (CZ (off:=1) (y:=u1) (m:=1) (g:=false) hT3 kr kr kr)) (K4 (off:=1) hT kr) ?_
 have hT4:=(hT3.front 1 rfl)
 refine RunDT.q (x:= .j ((Bj x0).length:Int)) rfl kr rfl (AA rfl) rfl (FT (a:=u1) kr (VH hT4 kr)) kr ?_;refine ML rfl ?_;by_cases hk5:(decide (0 < x0.length))=true
 case neg=>rw [if_neg hk5] at h; cases h
 rw [if_pos hk5] at h;by_cases hk6:(okB x0)=true
 case neg=>rw [if_neg hk6] at h; cases h
 rw [if_pos hk6] at h;obtain ⟨hp7,hb8,hT9⟩:=S5 (P:=Tryz.prog) (ty:=122) (el:=5) hT4 kr kr hk5 hk6;refine AH he 0 rfl (Ug (AA rfl) rfl kr kr (Vr (a:=eAt u1 0) (b:= .j ((Bj x0).length:Int)) kr kr hb8)) ?_;refine El he [(2,.st x0)] ?_;refine SemY.ret ?_;have hq:=OI h; subst hq;exact ⟨⟨Fr 14 [(2,.st x0)],hp7⟩,WkY.f1,.inr rfl,[.st x0],kr,⟨rfl,hT9⟩⟩
/- (*strings.Builder).String -/
noncomputable def B7:Env:=E0
theorem Dk:EnvOk B7:=AC
noncomputable def D2:Code:=BX Tryz.f31
def ES  : Option ((List UInt8)) :=
 some []
theorem F0 {L:List Asn}{hp:Hp}(u0:AV) (r:(List UInt8)) (h:ES  = some r) (hT:T hp ((cel u0 2 72 (.ag [.v (.pointer none),.v (.slice none 0 0)]))::L)):SemY B7 ⟨none,false⟩ D2 ⟨Fr 14 (BB 0 [u0]),hp⟩ fun x s'=>(x = .normal\/x = .ret)/\∃ ys,D4 B7.P s'.fr s'.hp Tryz.f31.results.toList=some ys/\(fun v h'=>v = .st r/\T h' ((cel u0 2 72 (.ag [.v (.pointer none),.v (.slice none 0 0)]))::L)) (Eh ys) s'.hp:=by
 have he:=Dk
 unfold ES at h;refine FX (G8 (s1:=⟨Fr 14 [(0,u0)],hp⟩) WkY.f1 ?_);refine GL he [(0,u0)] ?_;refine Aa ?_;refine MM 10 he.mixed kr kr ?_;refine RunDT.q (x:=u0) rfl kr rfl (AA rfl) rfl kr kr ?_;refine RunDT.q (x:=u0) rfl kr rfl (AA rfl) rfl (Fz (Ck hT) kr) kr ?_;refine RunDT.q (x:=ER u0 1) rfl kr rfl (AA rfl) rfl (C0 (a:=u0) kr (Bb (off:=1) hT kr)) kr ?_;refine RunDT.q (x:= .v (.slice none 0 0)) rfl kr rfl (AA rfl) rfl (Bz (p:=ER u0 1) kr (CZ (off:=1) (y:= .v (.slice none 0 0)) (m:=1) (g:=false) hT kr kr kr)) (K4 (off:=1) hT kr) ?_;refine RunDT.q (x:= .v (.pointer none)) rfl kr rfl (AA rfl) rfl kr kr ?_;refine RunDT.q (x:=u0) rfl kr rfl (AA rfl) rfl kr kr ?_;refine RunDT.q (x:=u0) rfl kr rfl (AA rfl) rfl (Fz (Ck hT) kr) kr ?_;refine RunDT.q (x:=ER u0 1) rfl kr rfl (AA rfl) rfl (C0 (a:=u0) kr (Bb (off:=1) hT kr)) kr ?_;refine RunDT.q (x:= .v (.slice none 0 0)) rfl kr rfl (AA rfl) rfl (Bz (p:=ER u0 1) kr (CZ (off:=1) (y:= .v (.slice none 0 0)) (m:=1) (g:=false) hT kr kr kr)) (K4 (off:=1) hT kr) ?_;refine RunDT.q (x:= .j 0) rfl kr rfl (AA rfl) rfl kr kr ?_;refine ML rfl ?_;refine El he [(2,.st [])] ?_;refine SemY.ret ?_;have hq:=OI h; subst hq;exact ⟨⟨Fr 14 [(2,.st [])],hp⟩,WkY.f1,.inr rfl,[.st []],kr,⟨rfl,hT⟩⟩
end Go.Proofs.YtdjhmdbpcfnpgaaGreatDoor
