/- Lemmas for the proof. -/
import Derived.Test.YtdjhmdbpcfnpgaaGreatDoorCourtParsesM1
import Derived.Test.YtdjhmdbpcfnpgaaGreatDoorCourtParsesM2
import Derived.RecoverIn
import Derived.Shelf.Strings.Search1
import Derived.Shelf.Strings.Count
namespace Go.Proofs.YtdjhmdbpcfnpgaaGreatDoor
open Go.RowKit
theorem Iu {g:AV->Option AV}:∀ {xs:List AV},(∀ x ∈ xs,g x=some x)->Lf g xs=some xs
 | [],_=>rfl
 | x::xs,h=>by
  unfold Lf
  rw [h x (by simp),Iu fun y hy=>h y (List.mem_cons_of_mem _ hy)]
theorem Jl {h:Hp}{x:AV}(hn:GD x=true):∀ n,EC h n x=some x
 | 0=>by
  have:J1 x=true:=by cases x <;> first | exact hn | (simp [GD] at hn)
  unfold EC
  rw [if_pos this]
 | n + 1=>by
  cases x <;> first | (simp [GD] at hn; done) | (unfold EC; rfl)
theorem Nm {h:Hp}{x:AV}(hn:J1 x=true) (n:Nat):EC h (n + 1) x=some x:=by
 cases x with
 | fn f p q =>
  simp only [J1,Bool.and_eq_true] at hn
  show (match Lf (EC h n) p,Lf (EC h n) q with | some p,some q=>some (AV.fn f p q) | _,_=>none)=_
  rw [Iu (g:=EC h n) fun y hy=>Jl (List.all_eq_true.1 hn.1 y hy) n,Iu (g:=EC h n) fun y hy=>Jl (List.all_eq_true.1 hn.2 y hy) n]
 | _ =>
  refine Jl ?_ (n + 1)
  exact hn
theorem Jm {h:Hp}{x:AV}(hn:Cq x=true) (n:Nat):EC h (n + 2) x=some x:=by
 cases x with
 | ag cs =>
  show (Lf (EC h (n + 1)) cs).map AV.ag=_
  rw [Iu (g:=EC h (n + 1)) fun y hy=>Nm (List.all_eq_true.1 hn y hy) n]; rfl
 | _ =>
  refine Nm ?_ (n + 1)
  exact hn
/-- What a call sees of an argument. -/
def Sm {α:Type}(n:Nat) (h:Hp) (c:Cd α) (x:AV) (v:α):Prop:=∃ y,EC h n x=some y/\c.dec y=some v
def Sl {α:Type}(n:Nat) (h:Hp) (s:Cs α) (xs:List AV) (a:α):Prop:=∃ ys,Lf (EC h n) xs=some ys/\s.dec ys=some a
section
variable {α β:Type}{n b k:Nat}{h:Hp}{c:Cd α}{t:TypeId}
theorem A2 {v:α}:Sm (n + 2) h c (c.enc v) v:=⟨_,Jm (c.nr v) n,c.de v⟩
theorem Sm.e0:Sm n h (cdL k c) .e0 []:=⟨.e0,Jl rfl n,rfl⟩
theorem U8 {xs:List α}(hb:h[b]? = some (some ⟨k,t,xs.map c.enc,false⟩)):Sm (n + 3) h (cdL k c) (.rf b 0 xs.length xs.length) xs:=by
 refine ⟨.sl k (xs.map c.enc),?_,(cdL k c).de xs⟩
 unfold EC
 simp only [hb]
 rw [if_pos (by simp),List.drop_zero,List.take_of_length_le (by simp),Iu]
 ·rfl
 ·intro y hy
  obtain ⟨z,_,rfl⟩:=List.mem_map.1 hy
  exact Jm (c.nr z) n
theorem Sm.rf {xs:List α}{m q:Nat}(hb:h[b]? = some (some ⟨k,t,xs.map c.enc,false⟩)) (hm:m<=xs.length):Sm (n + 3) h (cdL k c) (.rf b 0 m q) (xs.take m):=by
 refine ⟨.sl k ((xs.take m).map c.enc),?_,(cdL k c).de _⟩
 unfold EC
 simp only [hb]
 rw [if_pos (by simp; omega),List.drop_zero,<-List.map_take,Iu]
 ·rfl
 ·intro y hy
  obtain ⟨z,_,rfl⟩:=List.mem_map.1 hy
  exact Jm (c.nr z) n
theorem Sm.hd {xs:List α}(hb:h[b]? = some (mk k t (xs.map c.enc))):Sm (n + 3) h (cdL k c) (hd b (xs.map c.enc)) xs:=by
 cases xs with
 | nil=>exact .e0
 | cons x xs =>
  have:=U8 (n:=n) (c:=c) (xs:=x::xs) (b:=b) (k:=k) hb
  simpa [Go.Proofs.YtdjhmdbpcfnpgaaGreatDoor.hd] using this
theorem Sm.pt {y:AV}{v:α}{fz:Bool}(hb:h[b]? = some (some ⟨k,t,[y],fz⟩)) (hy:Sm n h c y v):Sm (n + 1) h (cdP c) (.pt b 0 0) v:=by
 obtain ⟨z,h1,h2⟩:=hy
 refine ⟨.pe z 0,?_,h2⟩
 unfold EC
 simp only [hb,List.getElem?_cons_zero]
 rw [h1]; rfl
theorem BZ:Sl n h csN [] ():=⟨[],rfl,rfl⟩
theorem Ah {s:Cs β}{x:AV}{xs:List AV}{v:α}{a:β}(h1:Sm n h c x v) (h2:Sl n h s xs a):Sl n h (csC c s) (x::xs) (v,a):=by
 obtain ⟨y,k1,k2⟩:=h1
 obtain ⟨ys,q1,q2⟩:=h2
 refine ⟨y::ys,?_,?_⟩
 ·unfold Lf; rw [k1,q1]
 ·show ((c.dec y).bind fun x=>(s.dec ys).map fun y=>(x,y))=_
  rw [k2,q2]; rfl
theorem Po {x:AV}{v:α}(h1:Sm n h c x v):Sl n h (csE c) [x] v:=by
 obtain ⟨y,k1,k2⟩:=h1
 exact ⟨[y],by unfold Lf Lf; rw [k1],k2⟩
theorem Sm.ag {s:Cs α}{hn:∀ x,(s.enc x).all J1=true}{xs:List AV}{a:α}(h1:Sl n h s xs a):Sm (n + 1) h (cdA s hn) (.ag xs) a:=by
 obtain ⟨ys,k1,k2⟩:=h1
 refine ⟨.ag ys,?_,k2⟩
 show (Lf (EC h n) xs).map AV.ag=_
 rw [k1]; rfl
end
/-- A closure of a given function. -/
def cdF {α:Type}(f:FuncId) (s:Cs α) (hn:∀ x,(s.enc x).all GD=true):Cd α where
 enc x:= .fn f [] (s.enc x)
 dec a:=match a with
  | .fn g [] q=>if g=f then s.dec q else none
  | _=>none
 de x:=by simp [s.de]
 vr:=fun {w Z a x u} hd hv=>by
  split at hd
  ·split at hd
   ·next e =>
    subst e
    cases hv with
    | fn hl hl' hx hy =>
     have:=s.vr hd ⟨hl',hy⟩
     exact .fn hl this.len hx this.at_
   ·cases hd
  ·cases hd
 nr x:=by simp [Cq,J1,hn]
theorem Sm.fn {α:Type}{n:Nat}{h:Hp}{f:FuncId}{s:Cs α}{hn:∀ x,(s.enc x).all GD=true}{q:List AV}{a:α}(h1:Sl n h s q a):Sm (n + 1) h (cdF f s hn) (.fn f [] q) a:=by
 obtain ⟨ys,k1,k2⟩:=h1
 refine ⟨.fn f [] ys,?_,?_⟩
 ·show (match Lf (EC h n) [],Lf (EC h n) q with | some p,some q=>some (AV.fn f p q) | _,_=>none)=_
  rw [k1]; rfl
 ·show (if f=f then s.dec ys else none)=_
  rw [if_pos rfl]; exact k2
section
variable {E:Env}{cx:Cx}{ops:Array Oper}{rest rest':List Oper}{K:St->Prop}{n n0 k:Nat}{l:List (Nat×AV)}{hp:Hp}{α β:Type}{s:Cs α}{F:α->Option β}{er:β->AV}{u:α}{v:β}{fid:FuncId}{w:World}{Z:Nat->Prop}{R:List RI}
/-- A told call, in a world. -/
theorem VA (hX:XOk fid (Ea s F er)) (hh:HR w Z R hp) (hg:GI E0 w Z){xs:List AV}{us:List Value}(hvs:VRs w Z R xs us) (hv:Sl 12 hp s xs u) (hok:Ci (er v)=true\/xs.all Cq=true) (hF:F u=some v) :
  Ret E0.P fid us.toArray w fun x w'=>∃ Z',HR w' Z' R hp/\VR w' Z' R (er v) x/\Step w Z R hp w' Z' R hp/\w.grownBy w' none/\(Ci (er v)=true->Z'=Z):=by
 obtain ⟨ys,h1,h2⟩:=hv
 by_cases hf:Ci (er v)=true
 ·have hz1:∀ c,(Z c\/own R hp c)->c < w.heap.size:=fun c hc=>hc.elim (hh.zlt c) (fun ⟨b,B,r,h1,_,h3,h4⟩=>h4 ▸ hh.rltL h1 h3)
  have hg1:GI E0 w (fun c=>Z c\/own R hp c):=fun q y hy=>(hg q y hy).mono (fun _ _=>rfl) (fun _ h=> .inl h) (fun _ _ h=>h)
  refine Ret.mono (hX.2 ys (er v) (Ha h2 hF) w _ us hz1 hg1 (allV_vr (Jn hh 12) hvs h1)) fun x w' ⟨hs,hx⟩=>?_
  exact ⟨Z,hh.keep hs.size (fun c hc=>hs.block c hc (by simp)),I0 hf hx,⟨hs.os,hs.tape,hs.output,hs.size,fun c hc _=>hs.block c hc (by simp),fun _ h=> .inl h,fun _ h=>h,fun _ h=> .inl h,fun _ _ h=>h⟩,hs,fun _=>rfl⟩
 ·have hn:=hok.resolve_left hf
  have e:xs=ys:=OI ((Iu fun y hy=>Jm (List.all_eq_true.1 hn y hy) 10).symm.trans h1)
  subst e
  refine Ret.mono (hX.2 xs (er v) (Ha h2 hF) w Z us hh.zlt hg (Kp hn hvs)) fun x w' ⟨hs,hx⟩=>?_
  obtain ⟨k1,k2⟩:=hh.addZ hs
  exact ⟨_,k1,hx.up,k2,hs,fun h=>absurd h hf⟩
/-- .. at an operation. -/
theorem Ve (hP:E.P=E0.P) (hG:E.G=E0.G){caps xs:List AV}{d:Option Nat}{f:Operand}{args:Array Operand}{tys:Array TypeId}{ty:TypeId}{pos:String}{af:Array Edge}{g:Option (Nat×Bool)}{base:Bs}{a:Act}(hX:XOk fid (Ea s F er)) (sr:SR E base w Z R ⟨Fr n l,hp⟩ a)
  (hf:opA E (Fr n l) f=some (.fn fid [] caps)) (ha:Ff (opA E (Fr n l)) args.toList=some xs) (hv:Sl 12 hp s (xs++caps) u) (hok:Ci (er v)=true\/(xs++caps).all Cq=true) (hF:F u=some v) {Q:Act->World->Prop}
  (kk:∀ x w' Z',HR w' Z' R hp->VR w' Z' R (er v) x->Step w Z R hp w' Z' R hp->w.grownBy w' none->(Ci (er v)=true->Z'=Z)->SR E base w' Z' R ⟨Fr n l,hp⟩ a->Q (a.put d x) w'):Lw E.P ⟨d,.call ⟨.value f,args,tys⟩,ty,pos,af,g⟩ a w Q:=by
 have hρ:∀ o x,opA E (Fr n l) o=some x->VR w Z R x (a.eval o):=fun o x e=>opA_vr sr o x e
 have hvf:=hρ _ _ hf
 have hva:∃ uc:List Value,a.eval f = .func (.func fid) #[] uc.toArray/\VRs w Z R caps uc:=by
  generalize a.eval f=vf at hvf
  cases hvf with
  | fn hl hl' hx hy =>
   rename_i u1 u2
   have e1:u1=[]:=by simpa using hl
   subst e1
   exact ⟨u2,rfl,hl',hy⟩
 obtain ⟨uc,hva,huc⟩:=hva
 have hcl:BI E.P fid:=hP ▸ hX.1
 unfold Lw
 rw [Do (uf:=[]) (uc:=uc) rfl hva rfl hcl w]
 have hret:=VA hX sr.hh (by have:=sr.gl; exact fun q y hy=>this q y (by rw [hG]; exact hy)) ((opds_vr hρ ha).append huc) hv hok hF
 rw [<-hP] at hret
 simp only [List.nil_append]
 refine Ret.mono hret fun x w' ⟨Z',k1,k2,k3,k4,k5⟩=>?_
 exact kk x w' Z' k1 k2 k3 k4 k5 (sr.step k1 k3)
theorem Af (hP:E.P=E0.P) (hG:E.G=E0.G) (hX:XOk fid (Ea s F er)){caps xs:List AV}{d:Nat}{f:Operand}{args:Array Operand}{tys:Array TypeId}{ty:TypeId}{pos:String}{af:Array Edge}{g:Option (Nat×Bool)}(hr:rest=⟨some d,.call ⟨.value f,args,tys⟩,ty,pos,af,g⟩::rest') (hw:BO ops (Fr n l) ⟨some d,.call ⟨.value f,args,tys⟩,ty,pos,af,g⟩=some true)
  (hf:opA E (Fr n l) f=some (.fn fid [] caps)) (ha:Ff (opA E (Fr n l)) args.toList=some xs) (hv:Sl 12 hp s (xs++caps) u) (hok:Ci (er v)=true\/(xs++caps).all Cq=true) (hF:F u=some v) (kk:RunS E ops rest' ⟨Fr n ((d,er v)::l),hp⟩ K):RunS E ops rest ⟨Fr n l,hp⟩ K:=by
 subst hr
 intro base Q a w Z R sr q
 refine Mb rfl (wantedA_eq sr hw) (Ve hP hG hX sr hf ha hv hok hF fun x w' Z' k1 k2 k3 k4 k5 sr'=>?_)
 refine kk base Q _ w' Z' R ?_ fun s' a' w'' Z'' R'' hK sr'' st'=>q s' a' w'' Z'' R'' hK sr'' (k3.w.trans st')
 have:=sr'.put (d:=some d) k2
 rwa [CZ] at this
/-- In a region that draws its order; what is handed back is flat. -/
theorem It (hP:E.P=E0.P) (hG:E.G=E0.G) (hX:XOk fid (Ea s F er)){caps xs:List AV}{d:Nat}{f:Operand}{args:Array Operand}{tys:Array TypeId}{ty:TypeId}{pos:String}{af:Array Edge}{g:Option (Nat×Bool)}(hr:rest=⟨some d,.call ⟨.value f,args,tys⟩,ty,pos,af,g⟩::rest') (hw:BO ops (Fr n l) ⟨some d,.call ⟨.value f,args,tys⟩,ty,pos,af,g⟩=some true)
  (hf:opA E (Fr n l) f=some (.fn fid [] caps)) (ha:Ff (opA E (Fr n l)) args.toList=some xs) (hv:Sl 12 hp s (xs++caps) u) (hok:Ci (er v)=true) (hF:F u=some v) (kk:RunDS E ops n0 (k + 1) rest' ⟨Fr n ((d,er v)::l),hp⟩ K):RunDS E ops n0 k rest ⟨Fr n l,hp⟩ K:=by
 subst hr
 intro base Q w0 Z R0 h0 a w R hh0 hn0 hT sr hgr st hpre hTk hlen hops q
 have hok':ops[k]? = some ⟨some d,.call ⟨.value f,args,tys⟩,ty,pos,af,g⟩:=by have:=hops 0; simpa using this.symm
 have hops':∀ j,rest'[j]? = ops[k + 1 + j]?:=fun j=>by have:=hops (j + 1); simpa [Nat.add_assoc,Nat.add_comm 1 j] using this
 have hlen':k + 1 + rest'.length=ops.size:=by simp at hlen ⊢; omega
 have hTk':Ct ops=DM rest' (k + 1):=by
  rw [hTk]
  conv=>lhs; unfold DM; rw [if_neg (by simp [isW])]
 refine ⟨fun _=>hgr,?_⟩
 rw [if_pos (wantedA_eq sr hw)]
 have hq:isQ (.call ⟨.value f,args,tys⟩:Op)=false:=rfl
 rw [if_pos (Dv hok' hq)]
 refine Ve hP hG hX sr hf ha hv (.inl hok) hF fun x w' Z' k1 k2 k3 k4 k5 sr'=>?_
 have e:=k5 hok
 subst e
 exact kk base Q w0 Z' R0 h0 _ w' R hh0 hn0 hT (by have:=sr'.put (d:=some d) k2; rwa [CZ] at this) (DU hgr k4) (st.trans k3) hpre hTk' hlen' hops' q
/-- What is left of a region that draws its order, of which nothing is read any more. -/
def RunDZ (E:Env) (ops:Array Oper) (k:Nat) (rest:List Oper) (s:St) (K:St->Prop):Prop :=
 ∀ (base:Bs) (Q:Act->World->Prop) (w0:World) (Z:Nat->Prop) (a:Act) (w:World) (R:List RI),Ct ops<=ops.size->SR E base w Z R s a->w0.grownBy w none->Ct ops=DM rest k->k + rest.length=ops.size->(∀ j,rest[j]? = ops[k + j]?) ->
  (∀ s' a' w' Z' R',K s'->SR E base w' Z' R' s' a'->StepW w Z R s.hp w' Z' R' s'.hp->Q a' w')->FE E.P ops (fun w'=>w0.grownBy w' none) (CY ops (Ct ops)) (Ct ops) Q k rest a w
/-- From now on nothing is read. -/
theorem RunDS.z {s:St}(kk:RunDZ E ops k rest s K):RunDS E ops n0 k rest s K :=
 fun base Q w0 Z _ _ a w R _ _ hT sr hgr st _ hTk hlen hops q=>kk base Q w0 Z a w R hT sr hgr hTk hlen hops fun s' a' w' Z' R' hK sr' st'=>q s' a' w' Z' R' hK sr' (st.w.trans st')
theorem RunDZ.done {s:St}(hr:rest=[]) (kk:K s):RunDZ E ops k rest s K:=by
 subst hr
 exact fun base Q w0 Z a w R _ sr hgr _ _ _ q=>⟨fun _=>hgr,q s a w Z R kk sr (StepW.refl _ _ _ _)⟩
theorem Ug {s s1:St}(hw:Wk E s s1) (h:RunDZ E ops k rest s1 K):RunDZ E ops k rest s K:=fun base Q w0 Z a w R hT sr hgr hTk hlen hops q=>by
 obtain ⟨Z',R',sr',st⟩:=hw base w Z R a sr
 exact h base Q w0 Z' a w R' hT sr' hgr hTk hlen hops fun s' a' w' Z2 R2 hK sr2 st2=>q s' a' w' Z2 R2 hK sr2 (st.trans st2)
theorem TR {s:St}{o:Oper}(hr:rest=o::rest') (hW:isW o.op=true) (h:RunS E ops rest s K):RunDZ E ops k rest s K:=by
 subst hr
 intro base Q w0 Z a w R hT sr hgr hTk hlen hops q
 have hTk':Ct ops=k:=by rw [hTk]; unfold DM; rw [if_pos hW]
 exact IE (h base Q a w Z R sr fun s' a' w' Z' R' hK sr' st'=>q s' a' w' Z' R' hK sr' st') (by omega) (fun _=>hgr) (fun j hj=>IZ (by omega)) hops
theorem Gs (hE:EnvOk E):∀ {pre:List Oper}{s s1:St}{k:Nat},(pre.all fun o=>!isW o.op&&!L9 o.op)=true->opsD E (evC E 0) ⟨none,false⟩ ops n0 pre s=some s1->RunDZ E ops (k + pre.length) rest s1 K->RunDZ E ops k (pre++rest) s K
 | [],s,s1,k,_,e,kk=>by injection e with e; subst e; exact kk
 | o::pre,s,s1,k,hp,e,kk=>by
  intro base Q w0 Z a w R hT sr hgr hTk hlen hops q
  simp only [List.all_cons,Bool.and_eq_true,Bool.not_eq_true'] at hp
  obtain ⟨⟨hW,hLd⟩,hp⟩:=hp
  have hok:ops[k]? = some o:=by have:=hops 0; simpa using this.symm
  have hops':∀ j,(pre++rest)[j]? = ops[k + 1 + j]?:=fun j=>by have:=hops (j + 1); simpa [Nat.add_assoc,Nat.add_comm 1 j] using this
  have hk1:k + 1 + pre.length=k + (o::pre).length:=by simp; omega
  have kk':RunDZ E ops (k + 1 + pre.length) rest s1 K:=by rw [hk1]; exact kk
  have hp':(pre.all fun o=>!isW o.op&&!L9 o.op)=true:=by simpa using hp
  have hlen':k + 1 + (pre++rest).length=ops.size:=by simp at hlen ⊢; omega
  have hTk':Ct ops=DM (pre++rest) (k + 1):=by
   rw [hTk]
   show DM (o::(pre++rest)) k=_
   conv=>lhs; unfold DM; rw [if_neg (by rw [hW]; simp)]
  have hkT:¬ Ct ops<=k:=by have:=IM (pre++rest) (k + 1); omega
  show FE E.P ops _ _ _ Q k (o::(pre++rest)) a w
  refine ⟨fun _=>hgr,?_⟩
  unfold opsD at e
  rw [if_neg (by rw [hW]; simp)] at e
  split at e
  ·cases e
  ·next hw =>
   rw [if_neg (by rw [wantedA_eq sr hw]; simp)]
   exact Gs hE hp' e kk' base Q w0 Z _ w R hT (sr.put undef_vr) hgr hTk' hlen' hops' q
  ·next hw =>
   rw [if_pos (wantedA_eq sr hw)]
   have hρ:∀ o x,opA E s.fr o=some x->VR w Z R x (a.eval o):=fun o x e=>opA_vr sr o x e
   split at e
   ·next x hx =>
    split at e
    ·have hq:=LC hx
     rw [if_neg (by rw [ID hok hq hkT]; simp)]
     obtain ⟨u,hu,hrun⟩:=evOpQ_sound sr.hh hρ hx
     exact ⟨u,(fun w' _=>hrun w' fun h=>by rw [hLd] at h; cases h),Gs hE hp' e kk' base Q w0 Z _ w R hT (sr.put hu) hgr hTk' hlen' hops' q⟩
    ·cases e
   ·split at e
    ·next x h' hx =>
     have hq:=HS hx
     rw [if_pos (Dv hok hq)]
     obtain ⟨u,w',R',h1,h2,h3,h4,h5⟩:=evOpN_sound hρ sr.hh hx
     exact JX h1 (Gs hE hp' e kk' base Q w0 Z _ w' R' hT ((sr.step h2 h4).put h3) (DU hgr h5) hTk' hlen' hops' fun s' a' w'' Z'' R'' hK sr'' st'=>q s' a' w'' Z'' R'' hK sr'' (h4.w.trans st'))
    ·split at e
     ·next f args tys ho =>
      split at e
      ·next fv xs hf hxs =>
       split at e
       ·next r hr =>
        obtain ⟨x,h'⟩:=r
        have hq:isQ o.op=false:=by rw [ho]; rfl
        rw [if_pos (Dv hok hq)]
        obtain ⟨g,uf,uc,hva,hcl,hret⟩:=Dz hE (code_sound hE 0).1 (hρ _ _ hf) (opds_vr hρ hxs) sr.hh sr.gl hr
        unfold Lw
        rw [Do (uf:=uf) (uc:=uc) ho hva rfl hcl w]
        refine Ret.mono hret fun v w' hS=>?_
        obtain ⟨hg1,R',k1,k2,k3⟩:=hS
        exact Gs hE hp' e kk' base Q w0 Z _ w' R' hT ((sr.step k1 k3).put k2) (DU hgr hg1) hTk' hlen' hops' fun s' a' w'' Z'' R'' hK sr'' st'=>q s' a' w'' Z'' R'' hK sr'' (k3.w.trans st')
       ·cases e
      ·cases e
     ·cases e
theorem RunDZ.one (hE:EnvOk E){s s1:St}{o:Oper}(hr:rest=o::rest') (hW:(!isW o.op&&!L9 o.op)=true) (h:opsD E (evC E 0) ⟨none,false⟩ ops n0 [o] s=some s1) (kk:RunDZ E ops (k + 1) rest' s1 K):RunDZ E ops k rest s K:=by
 subst hr
 exact Gs (k:=k) hE (pre:=[o]) (by simpa using hW) h kk
theorem TQ (hE:EnvOk E) (m:Nat){s:St}(l:List (Nat×AV)) (hp:Hp) (hw:((rest.take m).all fun o=>!isW o.op&&!L9 o.op)=true) (h:Mp (opsD E (evC E 0) ⟨none,false⟩ ops n0 (rest.take m) s) l=some (n,xs2 l,hp)) (kk:RunDZ E ops (k + (rest.take m).length) (rest.drop m) ⟨Fr n l,hp⟩ K):RunDZ E ops k rest s K:=by
 obtain ⟨fr,h1,h2,h3⟩:=Es h
 have:=Gs (k:=k) (pre:=rest.take m) (rest:=rest.drop m) hE hw h1 (fun base Q w0 Z a w R hT sr hgr hTk hlen hops q=>kk base Q w0 Z a w R hT (sr.forget h2 h3) hgr hTk hlen hops q)
 rwa [List.take_append_drop] at this
end
/-- A function, entered: from what its body does; the interpreter need not take it. -/
theorem Ri {E:Env}{c:Code}{Q:Ex->St->Prop}{f:FuncId}{fn:Func}{args:List AV}{h:Hp}(hff:E.P.funcs[f]? = some fn) (hc:fn.body=some c) (hle:args.length<=fn.ntmps)
  (hb:Sem E ⟨none,false⟩ c ⟨args.map some++List.replicate (fn.ntmps - args.length) (some (.tp [])),h⟩ fun e s=>(e = .normal\/e = .ret)/\∃ xs,Dk E.P s.fr s.hp fn.results.toList=some xs/\Q .ret ⟨[some (EB xs)],s.hp⟩)
  {w:World} {Z:Nat->Prop} {R:List RI} {us:List Value} (hh:HR w Z R h) (hv:VRs w Z R args us) (hg:GI E w Z) :
  Ret E.P f us.toArray w fun v w'=>∃ Z' R' x h',Q .ret ⟨[some x],h'⟩/\HR w' Z' R' h'/\VR w' Z' R' x v/\StepW w Z R h w' Z' R' h':=by
 refine callsIn_wide.1 (callsIn_of_wp_marks (F:=Fw none) (n:=0) hff hc trivial ?_)
 have hul:us.length=args.length:=hv.len
 have hsr:SR E (.of w.heap.size) w Z R ⟨args.map some++List.replicate (fn.ntmps - args.length) (some (.tp [])),h⟩ { tmps:=us.toArray++Array.replicate (fn.ntmps - us.toArray.size) undef,defers:=[] }:=by
  refine ⟨hh,⟨by simp [hul],fun t x hx=>?_⟩,rfl,hg,Nat.le_refl _⟩
  have e0:us.toArray++Array.replicate (fn.ntmps - us.toArray.size) undef=(us++List.replicate (fn.ntmps - us.length) undef).toArray:=by simp
  rw [e0,Array.getD_eq_getD_getElem?,List.getElem?_toArray]
  by_cases ht:t < args.length
  ·rw [List.getElem?_append_left (by simpa using ht),List.getElem?_map] at hx
   rw [List.getElem?_append_left (by omega)]
   cases hat:args[t]? with
   | none=>rw [hat] at hx; cases hx
   | some q =>
    rw [hat] at hx
    have hx:=OI (OI hx)
    subst hx
    obtain ⟨u,hu1,hu2⟩:=hv.get hat
    rw [hu1]; exact hu2
  ·rw [List.getElem?_append_right (by simp; omega),List.getElem?_replicate] at hx
   split at hx
   ·next hlt =>
    have hx:=OI (OI hx)
    subst hx
    rw [List.getElem?_append_right (by omega),List.getElem?_replicate,if_pos (by rw [hul]; simpa using hlt)]
    exact .tp (us:=[]) rfl (fun i x u hx=>by simp at hx)
   ·cases hx
 refine hb none (.of w.heap.size) _ _ w Z R (fun _=>rfl) hsr rfl fun e s' a' w' Z' R' hQ sr' st=>?_
 obtain ⟨hex,xs,hxs,hq⟩:=hQ
 have hl:=EA (base:= .of w.heap.size) rfl (E:=E) (w:=w') (a:=a') (fn:=fn) (S:=fun v w''=>∃ Z' R' x h',Q .ret ⟨[some x],h'⟩/\HR w'' Z' R' h'/\VR w'' Z' R' x v/\StepW w Z R h w'' Z' R' h') hxs (fun w'' u g1 g2 g3 g4 g5 g6 g7=>⟨Z',R',_,_,hq,g6,g7,⟨g2.trans st.os,g3.trans st.tape,g4.trans st.output,by rw [g1]; exact st.size,fun c hc hn=>(g5 c hc).trans (st.block c hc hn),st.own_,st.z,st.z'⟩⟩) (D:=a'.defers) (w1:=w') sr' rfl rfl rfl rfl (fun _ _=>rfl)
 rcases hex with rfl | rfl
 ·exact hl
 ·exact hl
/-- A contract out of what the body does. -/
theorem Ap {f:FuncId}{fn:Func}{c:Code}(hf:E0.P.funcs[f]? = some fn) (hc:fn.body=some c) (hcall:BI E0.P f){α β:Type}(s:Cs α) (F:α->Option β) (er:β->AV) (hle:∀ a,(s.enc a).length<=fn.ntmps) (hnr:∀ b,S6 (er b)=true)
  (sem:∀ a b,F a=some b->Sem E0 ⟨none,false⟩ c ⟨Fr fn.ntmps (BF 0 (s.enc a)),[]⟩ fun e s'=>(e = .normal\/e = .ret)/\∃ xs,Dk E0.P s'.fr s'.hp fn.results.toList=some xs/\EB xs=er b) :
  XOk f (Ea s F er):=by
 refine ⟨hcall,fun xs x h w Z us hz hg hv=>?_⟩
 obtain ⟨a,ha,h⟩:=OB h
 obtain ⟨b,hb,rfl⟩:=Option.map_eq_some_iff.1 h
 have hh:HR w Z [] []:=⟨rfl,fun b B hB=>by simp at hB,fun b b' B B' r r' hB=>by simp at hB,hz⟩
 refine Ret.mono (Ri hf hc (hle a) (Q:=fun _ s=>s.fr=[some (er b)]) (Sem.mono (Cg (Wk.enter (hle a)) (sem a b hb)) fun e s' hs=>?_) hh (s.vr ha hv) hg) fun v w' hS=>?_
 ·obtain ⟨h1,xs,h2,h3⟩:=hs
  exact ⟨h1,xs,h2,by rw [h3]⟩
 ·obtain ⟨Z',R',x,h',hQ,k1,k2,st⟩:=hS
  have hx:x=er b:=by simpa using hQ
  subst hx
  refine ⟨⟨st.os,st.tape,st.output,st.size,fun c hc _=>st.block c hc (fun ⟨b,B,r,hb,_⟩=>by simp at hb)⟩,(Mf (hnr b) k2).mono (fun _ _=>rfl) (fun c hc=>?_) (fun _ _ h=>h)⟩
  rcases st.z' c hc with h1 | ⟨b,B,r,hb,_⟩ | h1
  ·exact .inl h1
  ·simp at hb
  ·exact .inr ⟨h1,k1.zlt c hc⟩
theorem HW {R:List RI}{c:Nat}:¬ own R [] c:=fun ⟨b,B,_,hb,_⟩=>by simp at hb
/-- What a call hands back, seen as frozen. -/
def Pj (h:Hp):AV->Option AV
 | .tp l=>(Lf (EC h 12) l).map .tp
 | x=>EC h 12 x
theorem Rv {w:World}{Z:Nat->Prop}{R:List RI}{h:Hp}{x y:AV}{v:Value}(hh:HR w Z R h) (hv:VR w Z R x v) (e:Pj h x=some y):VR w (fun c=>Z c\/own R h c) [] y v:=by
 unfold Pj at e
 split at e
 ·obtain ⟨ys,h1,rfl⟩:=Option.map_eq_some_iff.1 e
  cases hv with
  | tp hl hx =>
   have:=allV_vr (Jn hh 12) ⟨hl,hx⟩ h1
   exact .tp this.len this.at_
 ·exact Jn hh 12 _ _ _ hv e
theorem QB {E:Env}{f:FuncId}{w:World}{Z:Nat->Prop}{us:List Value}{x y:AV}{h':Hp}(hr:ND E f us w Z [] [] x h') (hv:Pj h' x=some y) :
  Ret E.P f us.toArray w fun v w'=>w.grownBy w' none/\VR w' (fun c=>Z c\/(w.heap.size<=c/\c < w'.heap.size)) [] y v:=by
 refine Ret.mono hr fun v w' hS=>?_
 obtain ⟨Z',R',k1,k2,k3⟩:=hS
 refine ⟨⟨k3.os,k3.tape,k3.output,k3.size,fun c hc _=>k3.block c hc HW⟩,(Rv k1 k2 hv).mono (fun _ _=>rfl) (fun c hc=>?_) (fun _ _ h=>h)⟩
 rcases hc with hc | hc
 ·rcases k3.z' c hc with h1 | h1 | h1
  ·exact .inl h1
  ·exact absurd h1 HW
  ·exact .inr ⟨h1,k1.zlt c hc⟩
 ·rcases k3.own_ c hc with h1 | h1
  ·exact absurd h1 HW
  ·obtain ⟨b,B,r,h2,_,h3,rfl⟩:=hc
   exact .inr ⟨h1,k1.rltL h2 h3⟩
theorem LA {w:World}{Z:Nat->Prop}(hz:∀ c,Z c->c < w.heap.size):HR w Z [] []:=⟨rfl,fun b B hB=>by simp at hB,fun b b' B B' r r' hB=>by simp at hB,hz⟩
/-- A closed call is told by what the interpreter finds. -/
theorem P0 {E:Env}(hE:EnvOk E){f:FuncId}{g:List AV->Option AV}(hc:BI E.P f) (hg:∀ xs y,g xs=some y->∃ n x h',Gx E (evC E n) none f xs []=some (x,h')/\Pj h' x=some y):EnvOk (E.withX f g):=by
 refine hE.withX hc fun xs y h w Z us hz hgi hv=>?_
 obtain ⟨n,x,h',he,hvw⟩:=hg xs y h
 exact QB (Eh hE (code_sound hE n).1 he (LA hz) hv hgi (fun y hy=>by cases hy)) hvw
section
variable {E:Env}{w w':World}{Z Z':Nat->Prop}{R R':List RI}{h h':Hp}{base:Bs}{s s':St}{a:Act}{n:Nat}
/-- What a deferred call must bring about when the function below returns: nothing but new blocks. -/
def Nv (P:Program) (g:FuncId) (us:List Value):Prop:=∀ w1,CallsDIn (Fw none) 0 P g us.toArray .returning w1 fun e u' w2=>match e with | .returned _=>settle u' = .returning/\w1.grownBy w2 none | _=>False
theorem SR.grown {D:List Deferred}{b':Bs}(sr:SR E base w Z R s a) (hb:b'.n=base.n) (hg:w.grownBy w' none) (hm:MksD base.n w Z R s.hp D b'.D):SR E b' w' Z R s { a with defers:=D }:=by
 have hz:∀ c,Z c->w'.heap[c]? = w.heap[c]?:=fun c hc=>hg.block c (sr.hh.zlt c hc) (by simp)
 refine ⟨sr.hh.keep hg.size (fun c hc=>hg.block c hc (by simp)),sr.fr.off hz,?_,sr.gl.off hz,by rw [hb]; exact Nat.le_trans sr.bs hg.size⟩
 show MksD b'.n _ _ _ _ _ _
 rw [hb]
 exact MksD.imp (fun r h1 h2 h3=>⟨(hg.block r (Hn h1) (by simp)).trans h1,h2,h3⟩) hm
theorem Jz {d:Deferred}{g:FuncId}{fv:_}{cap:Array Value}{us:List Value}(hbD:base.D=[d]) (ht:d.target = .fn fv cap) (hinv:∀ w1,(invoke d.target d.args).run E.P w1 = .ok (.enter g us.toArray) w1) (hcall:Nv E.P g us){fn:Func}{S:Value->World->Prop}{xs:List AV}(hres:Dk E.P s.fr s.hp fn.results.toList=some xs)
  (hS:∀ w' u,w.heap.size<=w'.heap.size->w'.os=w.os->w'.tape=w.tape->w'.output=w.output->(∀ c,c < base.n->w'.heap[c]? = w.heap[c]?)->HR w' Z R s.hp->VR w' Z R (EB xs) u->S u w') :
  ∀ {D:List Deferred} {w1:World},SR E base w1 Z R s { a with defers:=D }->w1.heap.size=w.heap.size->w1.os=w.os->w1.tape=w.tape->w1.output=w.output->(∀ c,c < base.n->w1.heap[c]? = w.heap[c]?) ->
  LeavesInM (Fw none) 0 E.P fn a.tmps (fun e w'=>match e with | .returned v=>S v w' | _=>False) D .returning w1
 | [],w1,sr,hz,ho,ht',hp,hb=>by
  have:=sr.mks
  unfold Mks MksD at this
  rw [hbD] at this
  cases this
 | d'::D,w1,sr,hz,ho,ht',hp,hb=>by
  rcases sr.mks with ⟨Ds',e,hno,hD⟩ | ⟨⟨r,h1,h2,h3,h4,h5,h6⟩,hD⟩
  ·rw [hbD] at e
   injection e with e1 e2
   subst e1 e2
   refine ⟨by simp,.inr ⟨(fun h=>by cases h),fv,cap,g,us.toArray,ht,hinv w1,fun _ _=>trivial,CallsDIn.mono (hcall w1) fun e u' w2 he=>?_⟩⟩
   cases e with
   | returned v =>
    obtain ⟨k1,k2⟩:=he
    dsimp only
    rw [k1]
    refine EA (base:=⟨base.n,[]⟩) (w:=w2) rfl hres (fun w3 u g1 g2 g3 g4 g5 g6 g7=>hS w3 u ?_ (g2.trans (k2.os.trans ho)) (g3.trans (k2.tape.trans ht')) (g4.trans (k2.output.trans hp)) (fun c hc=>?_) g6 g7) (sr.grown (b':=⟨base.n,[]⟩) rfl k2 hD) rfl rfl rfl rfl (fun _ _=>rfl)
    ·rw [g1,<-hz]; exact k2.size
    ·rw [g5 c hc,k2.block c (Nat.lt_of_lt_of_le hc sr.bs) (by simp)]; exact hb c hc
   | panicked c=>exact he.elim
   | outgrown=>exact he.elim
  ·subst h2
   have hb':∀ c,(Z c\/own R s.hp c)->(w1.putObj r (.deferred none)).heap[c]? = w1.heap[c]?:=fun c hc=>Dh (fun e=>by subst e; exact hc.elim h4 h5)
   exact ⟨by simp,.inl ⟨r,w1.putObj r (.deferred none),rfl,run_takeDeferred h3,Jz hbD ht hinv hcall hres hS ⟨sr.hh.off (BM _ _ _) hb',sr.fr.off fun c hc=>hb' c (.inl hc),MksD.put hD h6,sr.gl.off fun c hc=>hb' c (.inl hc),by rw [BM]; exact sr.bs⟩ (by rw [BM]; exact hz) ho ht' hp (fun c hc=>(Dh (by omega)).trans (hb c hc))⟩⟩
/-- The frame at the entry. -/
theorem TA {fn:Func}{args:List AV}{us:List Value}(hh:HR w Z R h) (hv:VRs w Z R args us) (hg:GI E w Z):SR E (.of w.heap.size) w Z R ⟨args.map some++List.replicate (fn.ntmps - args.length) (some (.tp [])),h⟩ { tmps:=us.toArray++Array.replicate (fn.ntmps - us.toArray.size) undef,defers:=[] }:=by
 have hul:us.length=args.length:=hv.len
 refine ⟨hh,⟨by simp [hul],fun t x hx=>?_⟩,rfl,hg,Nat.le_refl _⟩
 have e0:us.toArray++Array.replicate (fn.ntmps - us.toArray.size) undef=(us++List.replicate (fn.ntmps - us.length) undef).toArray:=by simp
 rw [e0,Array.getD_eq_getD_getElem?,List.getElem?_toArray]
 by_cases ht:t < args.length
 ·rw [List.getElem?_append_left (by simpa using ht),List.getElem?_map] at hx
  rw [List.getElem?_append_left (by omega)]
  cases hat:args[t]? with
  | none=>rw [hat] at hx; cases hx
  | some q =>
   rw [hat] at hx
   have hx:=OI (OI hx)
   subst hx
   obtain ⟨u,hu1,hu2⟩:=hv.get hat
   rw [hu1]; exact hu2
 ·rw [List.getElem?_append_right (by simp; omega),List.getElem?_replicate] at hx
  split at hx
  ·next hlt =>
   have hx:=OI (OI hx)
   subst hx
   rw [List.getElem?_append_right (by omega),List.getElem?_replicate,if_pos (by rw [hul]; simpa using hlt)]
   exact .tp (us:=[]) rfl (fun i x u hx=>by simp at hx)
  ·cases hx
/-- A function whose body is: A; B; a closure is made and deferred; the rest. -/
theorem NK (hE:EnvOk E){f g:FuncId}{fn:Func}{A B rest:Code}{id:Nat}{o1 o2:Oper}{args cs xs:List AV}{s1 s2 s3 s4:St}{ex:Ex}{p:Operand}{tys:Array TypeId}{us:List Value}
  (hf:E.P.funcs[f]? = some fn) (hb:fn.body=some (.seq A (.seq B (.seq (.region id #[o1,o2] false) rest)))) (hdA:Bv A=true) (hdB:Bv B=true) (hdR:Bv rest=true)
  (eA:evC E n ⟨none,false⟩ A ⟨args.map some++List.replicate (fn.ntmps - args.length) (some (.tp [])),h⟩=some (.normal,s1)) (eB:evC E n ⟨none,false⟩ B s1=some (.normal,s2)) (hg1:o1.guard=none) (e1:op1 E (evC E n) ⟨none,false⟩ o1 s2=some s3) (hg2:o2.guard=none) (ho2:o2.op = .defer ⟨.value p,#[],tys⟩) (hd2:o2.dst=none) (hp:opA E s3.fr p=some (.fn g [] cs))
  (eR:evC E n ⟨none,false⟩ rest s3=some (ex,s4)) (hex:ex = .normal\/ex = .ret) (hres:Dk E.P s4.fr s4.hp fn.results.toList=some xs) (hcl:BI E.P g) (hdef:∀ us:List Value,us.length=cs.length->Nv E.P g us)
  (hh:HR w Z R h) (hv:VRs w Z R args us) (hg:GI E w Z):ND E f us w Z R h (EB xs) s4.hp:=by
 have hCS:=(code_sound hE n).1
 refine callsIn_wide.1 (callsIn_of_wp_marks (F:=Fw none) (n:=0) hf hb trivial ?_)
 refine wpIn_seq (hCS _ A _ .normal s1 hdA eA none (.of w.heap.size) _ _ w Z R (fun _=>rfl) (TA hh hv hg) (fun y hy=>by cases hy) fun a1 w1 Z1 R1 sr1 st1=>?_)
 refine wpIn_seq (hCS _ B _ .normal s2 hdB eB none (.of w.heap.size) _ _ w1 Z1 R1 (fun _=>rfl) sr1 (fun y hy=>by cases hy) fun a2 w2 Z2 R2 sr2 st2=>?_)
 refine wpIn_seq (wpIn_region_list ?_)
 unfold wpListIn
 rw [if_pos (by simp [Region.wanted,hg1])]
 refine lw_wpIn none (op1_lw hE hCS e1 sr2 fun a3 w3 Z3 R3 sr3 st3=>?_)
 unfold wpListIn
 rw [if_pos (by simp [Region.wanted,hg2])]
 have hvf:=opA_vr sr3 p _ hp
 generalize hva:a3.eval p=va at hvf
 cases hvf with
 | fn hl hl' hx hy =>
  rename_i u1 u2
  have e1':u1=[]:=by simpa using hl
  subst e1'
  have hrun:(o2.semAt (Fw none).round a3.eval).run E.P w3 = .ok (.defer ⟨.fn (.func g) u2.toArray,#[]⟩) w3:=by
   show (o2.semAt none a3.eval).run E.P w3=_
   rw [Oper.semAt_none]
   simp [execOp,ho2,resolve,hva,Deferred.ofValue]
  refine ⟨fun _ _=>trivial,?_⟩
  rw [hrun,Oper.uponIn_defer,hd2]
  have sr4:SR E ⟨w.heap.size,[⟨.fn (.func g) u2.toArray,#[]⟩]⟩ w3 Z3 R3 s3 { a3 with defers:=⟨.fn (.func g) u2.toArray,#[]⟩::a3.defers }:=by
   refine ⟨sr3.hh,sr3.fr,.inl ⟨_,rfl,fun r h=>?_,sr3.mks⟩,sr3.gl,sr3.bs⟩
   unfold OM at h
   injection h with h
   cases h
  refine hCS _ rest _ ex s4 hdR eR none ⟨w.heap.size,[⟨.fn (.func g) u2.toArray,#[]⟩]⟩ _ _ w3 Z3 R3 (fun _=>rfl) sr4 (fun y hy=>by cases hy) fun a5 w5 Z5 R5 sr5 st5=>?_
  have st:=((st1.trans st2).trans st3).trans st5
  have hle:=Jz (base:=⟨w.heap.size,[⟨.fn (.func g) u2.toArray,#[]⟩]⟩) (w:=w5) (a:=a5) (fn:=fn) (g:=g) (us:=u2) rfl rfl (fun w1=>by simp [invoke,hcl.run]) (hdef u2 hl') (S:=fun v w''=>∃ Z' R',HR w'' Z' R' s4.hp/\VR w'' Z' R' (EB xs) v/\Step w Z R h w'' Z' R' s4.hp) hres (fun w'' u g1 g2 g3 g4 g5 g6 g7=>⟨Z5,R5,g6,g7,⟨g2.trans st.os,g3.trans st.tape,g4.trans st.output,Nat.le_trans st.size g1,fun c hc hn=>(g5 c hc).trans (st.block c hc hn),st.own_,st.z,st.z',st.r⟩⟩) (D:=a5.defers) (w1:=w5) sr5 rfl rfl rfl rfl (fun _ _=>rfl)
  rcases hex with rfl | rfl
  ·exact hle
  ·exact hle
end
/-- Operations of a deferred call, where nothing is to be recovered. -/
def Gw (E:Env):List Oper->St->Option St
 | [],s=>some s
 | o::rest,s=>match o.guard with
  | some _=>none
  | none=>match o.op with
   | .call ⟨.builtin .recover,_,_⟩=>Gw E rest ⟨Ip s.fr o.dst (.v .nilIface),s.hp⟩
   | .typeAssert x _ u true=>match opA E s.fr x,E.P.underlying u,Eb E.P u with
    | some (.v .nilIface),some _,some z=>Gw E rest ⟨Ip s.fr o.dst (.tp [z,.v (.bool false)]),s.hp⟩
    | _,_,_=>none
   | .store t p q=>match o.dst,opA E s.fr p,opA E s.fr q with
    | none,some y,some z=>match FO E.P s.hp t y z with
     | some h=>Gw E rest ⟨s.fr,h⟩
     | none=>none
    | _,_,_=>none
   | op=>match Dx E.P (opA E s.fr) s.hp op with
    | some x=>Gw E rest ⟨Ip s.fr o.dst x,s.hp⟩
    | none=>match GC E.P (opA E s.fr) s.hp op with
     | some (x,h)=>Gw E rest ⟨Ip s.fr o.dst x,h⟩
     | none=>none
section
variable {E:Env}{base:Bs}{ops:Array Oper}{Q:Exit->Act->List Frame->World->Prop}{cs:List Frame}{D:List Deferred}{s':St}
theorem MG (a:Act) (d:Option Tmp) (u:Value):(a.put d u).defers=a.defers:=by cases d <;> rfl
theorem UV {P:Program}{t u:TypeId}{d:TypeDesc}{v:Value}{w:World}(hu:P.underlying u=some d) (hz:∀ w,(zeroValue u).run P w = .ok v w):(Instr.typeAssert .nilIface t u true).run P w = .ok (.tuple #[v,.bool false]) w:=by
 unfold Instr.typeAssert
 rw [Sem.run_bind,run_underlying hu]
 cases d <;> simp [hz,Result.andThen]
theorem D2 (hrec:recoverD cs=none):∀ {rest:List Oper}{s:St}{a:Act}{w:World}{Z:Nat->Prop}{R:List RI}{k:Nat},Gw E rest s=some s'->SR E base w Z R s a->a.defers=D->(∀ j,rest[j]? = ops[k + j]?) ->
  (∀ a' w' Z' R',SR E base w' Z' R' s' a'->a'.defers=D->Step w Z R s.hp w' Z' R' s'.hp->Q .normal a' cs w')->wpOpsSIn (Fw none) 0 E.P ops Q (List.range' k rest.length) a cs w
 | [],s,a,w,Z,R,k,e,sr,hD,hops,q=>by
  injection e with e; subst e
  exact q a w Z R sr hD (Step.refl _ _ _ _)
 | o::rest,s,a,w,Z,R,k,e,sr,hD,hops,q=>by
  have hok:ops[k]? = some o:=by have:=hops 0; simpa using this.symm
  have hops':∀ j,rest[j]? = ops[k + 1 + j]?:=fun j=>by have:=hops (j + 1); simpa [Nat.add_assoc,Nat.add_comm 1 j] using this
  have hρ:∀ o x,opA E s.fr o=some x->VR w Z R x (a.eval o):=fun o x e=>opA_vr sr o x e
  unfold Gw at e
  split at e
  ·cases e
  ·next hg =>
   rw [List.length_cons,List.range'_succ]
   unfold wpOpsSIn
   rw [hok]
   dsimp only
   refine ⟨fun _ _=>trivial,?_⟩
   rw [if_pos (by simp [Region.wanted,hg])]
   have val:∀ {x:AV} {h':Hp},Ld E.P w Z R s.hp x h' a.eval o->Gw E rest ⟨Ip s.fr o.dst x,h'⟩=some s'->(match (execOp a.eval o).run E.P w with
    | .ok .recover w'=>(match recoverD cs with
     | some (v,cs')=>wpOpsSIn (Fw none) 0 E.P ops Q (List.range' (k + 1) rest.length) (a.put o.dst v) cs' w'
     | none=>wpOpsSIn (Fw none) 0 E.P ops Q (List.range' (k + 1) rest.length) (a.put o.dst .nilIface) cs w')
    | .ok (.value v) w'=>wpOpsSIn (Fw none) 0 E.P ops Q (List.range' (k + 1) rest.length) (a.put o.dst v) cs w'
    | .ok .skip w'=>wpOpsSIn (Fw none) 0 E.P ops Q (List.range' (k + 1) rest.length) (a.put o.dst undef) cs w'
    | .halt (.panic v) w'=>Q (.panic [{ v,recovered:=false }]) a cs w'
    | _=>False):=fun {x h'} hl e=>by
    obtain ⟨u,w',R',h1,h2,h3,h4⟩:=hl
    rw [h1]
    exact D2 hrec e ((sr.step h2 h4).put h3) ((MG _ _ _).trans hD) hops' fun a' w'' Z'' R'' sr'' hD'' st=>q a' w'' Z'' R'' sr'' hD'' (h4.trans st)
   split at e
   ·next b c ho =>
    have hr:(execOp a.eval o).run E.P w = .ok .recover w:=by
     simp [execOp,ho,resolve,invoke]
     rfl
    rw [hr]
    dsimp only
    rw [hrec]
    exact D2 hrec e (sr.put (.v rfl)) ((MG _ _ _).trans hD) hops' q
   ·next x t u ho =>
    split at e
    ·next d z hx hu hz =>
     have hv:=(hρ _ _ hx).v_inv
     obtain ⟨v,hv1,_,hrun,_⟩:=G5 (w:=w) (Z:=Z) (R:=R) hz
     refine val (x:= .tp [z,.v (.bool false)]) (h':=s.hp) ⟨.tuple #[v,.bool false],w,R,?_,sr.hh,.tp (us:=[v,.bool false]) rfl (fun i x u hx hu=>?_),Step.refl _ _ _ _⟩ e
     ·simp only [execOp,ho,hv]
      rw [Sem.run_bind,UV hu hrun]
      rfl
     ·match i with
      | 0=>simp at hx hu; subst hx hu; exact hv1
      | 1=>simp at hx hu; subst hx hu; exact .v rfl
      | i + 2=>simp at hx
    ·cases e
   ·next t p r ho =>
    split at e
    ·next y z hd hp hq =>
     split at e
     ·next h' hst =>
      obtain ⟨w',h1,h2,h3⟩:=HP hρ sr.hh ho hp hq hst
      rw [h1,hd]
      dsimp only
      exact D2 hrec e (sr.step h2 h3) hD hops' fun a' w'' Z'' R'' sr'' hD'' st=>q a' w'' Z'' R'' sr'' hD'' (h3.trans st)
     ·cases e
    ·cases e
   ·split at e
    ·next x hx=>exact val ((evOpQ_sound sr.hh hρ hx).ld sr.hh) e
    ·split at e
     ·next x h' hx=>exact val (evOpN_sound hρ sr.hh hx).ld e
     ·cases e
/-- A deferred closure of the form: what it recovers is looked at; where it was nothing, nothing is done. -/
theorem SB {g:FuncId}{fn:Func}{id0 id1:Nat}{ops0 ops1:Array Oper}{x:Operand}{X:Code}{s1 s2:St}{us:List Value}(hG:∀ q,E.G q=none) (hf:E.P.funcs[g]? = some fn) (hb:fn.body=some (.seq (.region id0 ops0 false) (.seq (.region id1 ops1 false) (.cond x X .skip)))) (hres:fn.results=#[])
  (e1:Gw E ops0.toList ⟨List.replicate fn.ntmps none,[]⟩=some s1) (e2:Gw E ops1.toList s1=some s2) (ht:opA E s2.fr x=some (.v (.bool false))) (hl:us.length<=fn.ntmps):Nv E.P g us:=by
 intro w1
 refine callsDIn_of_wpSIn hf hb trivial fun c₀ cs hm=>?_
 have hrec:recoverD (c₀::cs)=none:=by simp [recoverD,hm]
 have sr0:SR E (.of w1.heap.size) w1 (fun _=>False) [] ⟨List.replicate fn.ntmps none,[]⟩ { tmps:=us.toArray++Array.replicate (fn.ntmps - us.toArray.size) undef,defers:=[] } :=
  ⟨LA (fun _ h=>h.elim),⟨by simp; omega,fun t x hx=>by simp [List.getElem?_replicate] at hx⟩,rfl,(fun q y hy=>by rw [hG] at hy; cases hy),Nat.le_refl _⟩
 refine wpSIn_seq (wpSIn_region ?_)
 rw [List.range_eq_range',show ops0.size=ops0.toList.length by simp]
 refine D2 hrec (rest:=ops0.toList) (k:=0) (D:=[]) e1 sr0 rfl (fun j=>by simp) fun a2 w2 Z2 R2 sr2 hD2 st2=>?_
 show (Code.seq _ _).wpSIn _ _ _ _ _ _ _
 refine wpSIn_seq (wpSIn_region ?_)
 rw [List.range_eq_range',show ops1.size=ops1.toList.length by simp]
 refine D2 hrec (rest:=ops1.toList) (k:=0) (D:=[]) e2 sr2 hD2 (fun j=>by simp) fun a3 w3 Z3 R3 sr3 hD3 st3=>?_
 show (Code.cond _ _ _).wpSIn _ _ _ _ _ _ _
 refine wpSIn_cond (t:=false) (opA_vr sr3 _ _ ht).v_inv ?_
 refine wpSIn_of_wpIn rfl (wpIn_skip ?_)
 have st:=st2.trans st3
 have h0:(Array.mapM (OW a3.tmps) (#[]:Array ResultVar)).run E.P w3 = .ok #[] w3:=J7 (us:=[]) (by simp)
 exact ⟨hD3,.returning,by rw [<-hm],.tuple #[],by rw [J6,hres,Sem.run_bind,h0]; rfl,rfl,⟨st.os,st.tape,st.output,st.size,fun c hc _=>st.block c hc HW⟩⟩
end
end Go.Proofs.YtdjhmdbpcfnpgaaGreatDoor
namespace Go.Proofs.YtdjhmdbpcfnpgaaGreatDoor
open Go.Shelf
def OH:Go.Shelf.Ren:=⟨fun | 217=>94 | 266=>110 | n=>n,fun | 9=>9 | 5=>5 | 3=>3 | n=>n,fun | n=>n⟩
theorem QN:Go.Proofs.Lays.n217 Tryz.prog OH:={
 mixed:=by kernel_rfl
 f217:=Tryz.func94.trans (congrArg some (by kernel_rfl))
 f266:=Tryz.func110.trans (congrArg some (by kernel_rfl))
 t3:=Tryz.underlying3
 a3:=Tryz.isAgg3
 z3:=Tryz.sizeOf3
 v3:=Tryz.zeroValue3
 t5:=Tryz.underlying5
 a5:=Tryz.isAgg5
 z5:=Tryz.sizeOf5
 v5:=Tryz.zeroValue5
 t9:=Tryz.underlying9
 a9:=Tryz.isAgg9
 z9:=Tryz.sizeOf9
 v9:=Tryz.zeroValue9 }
def OG:Go.Shelf.Ren:=⟨fun | 138=>13 | 195=>39 | 218=>40 | 143=>41 | 219=>76 | 217=>94 | 225=>95 | 224=>96 | 267=>97 | 266=>110 | 314=>111 | n=>n,fun | 9=>9 | 3=>3 | 4=>4 | 5=>5 | 0=>0 | 46=>130 | 146=>159 | 51=>158 | n=>n,fun | 1=>0 | n=>n⟩
theorem QM:Go.Proofs.Lays.n138 Tryz.prog OG:={
 mixed:=by kernel_rfl
 f138:=Tryz.func13.trans (congrArg some (by kernel_rfl))
 f143:=Tryz.func41.trans (congrArg some (by kernel_rfl))
 f195:=Tryz.func39.trans (congrArg some (by kernel_rfl))
 f217:=Tryz.func94.trans (congrArg some (by kernel_rfl))
 f218:=Tryz.func40.trans (congrArg some (by kernel_rfl))
 f219:=Tryz.func76.trans (congrArg some (by kernel_rfl))
 f224:=Tryz.func96.trans (congrArg some (by kernel_rfl))
 f225:=Tryz.func95.trans (congrArg some (by kernel_rfl))
 f266:=Tryz.func110.trans (congrArg some (by kernel_rfl))
 f267:=Tryz.func97.trans (congrArg some (by kernel_rfl))
 f314:=Tryz.func111.trans (congrArg some (by kernel_rfl))
 t0:=Tryz.underlying0
 a0:=Tryz.isAgg0
 z0:=Tryz.sizeOf0
 v0:=Tryz.zeroValue0
 t3:=Tryz.underlying3
 a3:=Tryz.isAgg3
 z3:=Tryz.sizeOf3
 v3:=Tryz.zeroValue3
 t4:=Tryz.underlying4
 a4:=Tryz.isAgg4
 z4:=Tryz.sizeOf4
 v4:=Tryz.zeroValue4
 t5:=Tryz.underlying5
 a5:=Tryz.isAgg5
 z5:=Tryz.sizeOf5
 v5:=Tryz.zeroValue5
 t9:=Tryz.underlying9
 a9:=Tryz.isAgg9
 z9:=Tryz.sizeOf9
 v9:=Tryz.zeroValue9
 t46:=Tryz.underlying130
 a46:=Tryz.isAgg130
 z46:=Tryz.sizeOf130
 v46:=Tryz.zeroValue130
 t51:=Tryz.underlying158
 a51:=Tryz.isAgg158
 z51:=Tryz.sizeOf158
 v51:=Tryz.zeroValue158
 t146:=Tryz.underlying159
 a146:=Tryz.isAgg159
 z146:=Tryz.sizeOf159
 v146:=Tryz.zeroValue159
 g1:=by kernel_rfl }
open Go.RowKit Go.Lib
/-- The first place of a byte. -/
def ixB:List AV->Option AV
 | [.st s,.v (.int .u8 c)]=>some (.v (.int .i64 (Lib.indexByte s c.toNat.toUInt8)))
 | _=>none
theorem T3 {E:Env}(hE:EnvOk E) (hP:E.P=Tryz.prog):EnvOk (E.withX 94 ixB):=by
 refine hE.withX (hP ▸ ⟨Tryz.call94⟩) fun xs x h w Z us _ _ hv=>?_
 unfold ixB at h
 split at h
 ·next s c =>
  injection h with h
  subst h
  obtain ⟨u1,r1,rfl,h1,hv⟩:=hv.head
  obtain ⟨u2,r2,rfl,h2,hv⟩:=hv.head
  have:r2=[]:=List.eq_nil_of_length_eq_zero hv.len
  subst this
  have e2:=h2.v_inv
  subst e2
  cases h1 with
  | st hs hn =>
   rename_i sb
   rw [hP]
   refine Calls.mono (Any.stringslite_IndexByte QN sb c w) fun e w' he=>?_
   obtain ⟨rfl,rfl⟩:=he
   exact ⟨J3 _,by rw [hs]; exact .v rfl⟩
 ·cases h
/-- How often a byte stands in a string. -/
def VE:List AV->Option AV
 | [.st s,.st [c]]=>some (.v (.int .i64 (Lib.countByte s c)))
 | _=>none
theorem Sf {E:Env}(hE:EnvOk E) (hP:E.P=Tryz.prog):EnvOk (E.withX 13 VE):=by
 refine hE.withX (hP ▸ ⟨Tryz.call13⟩) fun xs x h w Z us _ _ hv=>?_
 unfold VE at h
 split at h
 ·next s c =>
  injection h with h
  subst h
  obtain ⟨u1,r1,rfl,h1,hv⟩:=hv.head
  obtain ⟨u2,r2,rfl,h2,hv⟩:=hv.head
  have:r2=[]:=List.eq_nil_of_length_eq_zero hv.len
  subst this
  obtain ⟨sb,rfl,hs⟩:∃ sb,u1 = .string sb/\sb.data.toList=s:=by cases h1 with | st h _=>exact ⟨_,rfl,h⟩
  obtain ⟨sc,rfl,hs2⟩:∃ sc,u2 = .string sc/\sc.data.toList=[c]:=by cases h2 with | st h _=>exact ⟨_,rfl,h⟩
  have e:sc=ByteArray.mk #[c]:=by
   obtain ⟨d⟩:=sc
   congr 1
   apply Array.ext'
   exact hs2
  subst e
  rw [hP]
  refine Calls.mono (Any.strings_Count_one QM sb c w) fun e w' he=>?_
  obtain ⟨rfl,rfl⟩:=he
  exact ⟨J3 _,by rw [hs]; exact .v rfl⟩
 ·cases h
/-- A call of a function that defers one closure: the closure, how many captures it has, what is handed back. -/
def Sg (E:Env) (n:Nat) (fn:Func) (args:List AV):Option (FuncId×Nat×AV×Hp):=match fn.body with
 | some (.seq A (.seq B (.seq (.region _ ops false) rest)))=>match ops.toList with
  | [o1,o2]=>match o1.guard,o2.guard,o2.dst,o2.op with
   | none,none,none,.defer ⟨.value p,dargs,_⟩ =>
    if dargs.size=0/\Bv A=true/\Bv B=true/\Bv rest=true then
     match evC E n ⟨none,false⟩ A ⟨args.map some++List.replicate (fn.ntmps - args.length) (some (.tp [])),[]⟩ with
     | some (.normal,s1)=>match evC E n ⟨none,false⟩ B s1 with
      | some (.normal,s2)=>match op1 E (evC E n) ⟨none,false⟩ o1 s2 with
       | some s3=>match opA E s3.fr p with
        | some (.fn g [] cs)=>match evC E n ⟨none,false⟩ rest s3 with
         | some (.normal,s4)=>(Dk E.P s4.fr s4.hp fn.results.toList).map fun xs=>(g,cs.length,EB xs,s4.hp)
         | some (.ret,s4)=>(Dk E.P s4.fr s4.hp fn.results.toList).map fun xs=>(g,cs.length,EB xs,s4.hp)
         | _=>none
        | _=>none
       | none=>none
      | _=>none
     | _=>none
    else none
   | _,_,_,_=>none
  | _=>none
 | _=>none
theorem N5 {E:Env}(hE:EnvOk E){n:Nat}{f:FuncId}{fn:Func}{args:List AV}{g m:Nat}{x:AV}{h':Hp}(hf:E.P.funcs[f]? = some fn) (hcl:BI E.P g) (hdef:∀ us:List Value,us.length=m->Nv E.P g us) (e:Sg E n fn args=some (g,m,x,h')){w:World}{Z:Nat->Prop}{us:List Value}(hz:∀ c,Z c->c < w.heap.size) (hg:GI E w Z) (hv:VRs w Z [] args us):ND E f us w Z [] [] x h':=by
 unfold Sg at e
 split at e
 ·next A B id ops rest hb =>
  split at e
  ·next o1 o2 hops =>
   split at e
   ·next p dargs tys hg1 hg2 hd2 ho2 =>
    split at e
    ·next hc =>
     obtain ⟨c1,c2,c3,c4⟩:=hc
     have hops':ops=#[o1,o2]:=by apply Array.ext'; exact hops
     have hda:dargs=#[]:=Array.eq_empty_of_size_eq_zero c1
     subst hops' hda
     split at e
     ·next s1 e1 =>
      split at e
      ·next s2 e2 =>
       split at e
       ·next s3 e3 =>
        split at e
        ·next g' cs hp =>
         split at e
         ·next s4 e4 =>
          obtain ⟨xs,hxs,hxe⟩:=Option.map_eq_some_iff.1 e
          injection hxe with k1 k2; injection k2 with k2 k3; injection k3 with k3 k4
          subst k1 k2 k3 k4
          exact NK hE hf hb c2 c3 c4 e1 e2 hg1 e3 hg2 ho2 hd2 hp e4 (.inl rfl) hxs hcl hdef (LA hz) hv hg
         ·next s4 e4 =>
          obtain ⟨xs,hxs,hxe⟩:=Option.map_eq_some_iff.1 e
          injection hxe with k1 k2; injection k2 with k2 k3; injection k3 with k3 k4
          subst k1 k2 k3 k4
          exact NK hE hf hb c2 c3 c4 e1 e2 hg1 e3 hg2 ho2 hd2 hp e4 (.inr rfl) hxs hcl hdef (LA hz) hv hg
         ·cases e
        ·cases e
       ·cases e
      ·cases e
     ·cases e
    ·cases e
   ·cases e
  ·cases e
 ·cases e
/-- .. as a contract. -/
def dfX (E:Env) (n:Nat) (fn:Func) (g m:Nat) (args:List AV):Option AV:=match Sg E n fn args with
 | some (g',m',x,h')=>if g'=g/\m'=m then Pj h' x else none
 | none=>none
theorem T0 {E:Env}(hE:EnvOk E){n:Nat}{f:FuncId}{fn:Func}{g m:Nat}(hf:E.P.funcs[f]? = some fn) (hc:BI E.P f) (hcl:BI E.P g) (hdef:∀ us:List Value,us.length=m->Nv E.P g us):EnvOk (E.withX f (dfX E n fn g m)):=by
 refine hE.withX hc fun xs y h w Z us hz hgi hv=>?_
 unfold dfX at h
 split at h
 ·next g' m' x h' e =>
  split at h
  ·next hgm =>
   obtain ⟨rfl,rfl⟩:=hgm
   exact QB (N5 hE hf hcl hdef e hz hgi hv) h
  ·cases h
 ·cases h
/-- What a closed call hands back, frozen. -/
def CI (E:Env) (n:Nat) (f:FuncId) (args:List AV):Option AV:=match Gx E (evC E n) none f args [] with
 | some (x,h')=>Pj h' x
 | none=>none
/-- The same values? -/
def kB:IntKind->IntKind->Bool
 | .i64,.i64=>true
 | .u8,.u8=>true
 | _,_=>false
def vB:Value->Value->Bool
 | .int k a,.int k' b=>kB k k'&&a==b
 | .bool a,.bool b=>a==b
 | .pointer none,.pointer none=>true
 | _,_=>false
def bsB:List UInt8->List UInt8->Bool
 | [],[]=>true
 | a::l,b::r=>Nat.beq a.toNat b.toNat&&bsB l r
 | _,_=>false
def Q4 (g:AV->AV->Bool):List AV->List AV->Bool
 | [],[]=>true
 | a::l,b::r=>g a b&&Q4 g l r
 | _,_=>false
def RB:Nat->AV->AV->Bool
 | 0,_,_=>false
 | n + 1,x,y=>match x,y with
  | .v a,.v b=>vB a b
  | .st a,.st b=>bsB a b
  | .e0,.e0=>true
  | .sl k a,.sl k' b=>Nat.beq k k'&&Q4 (RB n) a b
  | .pe a o,.pe b o'=>Nat.beq o o'&&RB n a b
  | .ag a,.ag b=>Q4 (RB n) a b
  | .tp a,.tp b=>Q4 (RB n) a b
  | .fn f a b,.fn f' a' b'=>Nat.beq f f'&&(Q4 (RB n) a a'&&Q4 (RB n) b b')
  | _,_=>false
theorem VQ {a b:IntKind}(h:kB a b=true):a=b:=by
 unfold kB at h
 split at h
 ·rfl
 ·rfl
 ·cases h
theorem Vd {a b:Value}(h:vB a b=true):a=b:=by
 unfold vB at h
 split at h
 ·rw [Bool.and_eq_true] at h
  rw [VQ h.1,eq_of_beq h.2]
 ·rw [eq_of_beq h]
 ·rfl
 ·cases h
theorem R8:∀ {a b:List UInt8},bsB a b=true->a=b
 | [],[],_=>rfl
 | x::l,y::r,h=>by
  unfold bsB at h
  rw [Bool.and_eq_true] at h
  rw [UInt8.toNat_inj.1 (Nat.eq_of_beq_eq_true h.1),R8 h.2]
 | [],_::_,h=>by cases h
 | _::_,[],h=>by cases h
theorem Hw {g:AV->AV->Bool}(hg:∀ x y,g x y=true->x=y):∀ {a b:List AV},Q4 g a b=true->a=b
 | [],[],_=>rfl
 | x::l,y::r,h=>by
  unfold Q4 at h
  rw [Bool.and_eq_true] at h
  rw [hg _ _ h.1,Hw hg h.2]
 | [],_::_,h=>by cases h
 | _::_,[],h=>by cases h
theorem N0:∀ (n:Nat) (x y:AV),RB n x y=true->x=y
 | 0,_,_,h=>by cases h
 | n + 1,x,y,h=>by
  have ih:=N0 n
  unfold RB at h
  split at h
  ·rw [Vd h]
  ·rw [R8 h]
  ·rfl
  ·rw [Bool.and_eq_true] at h
   rw [Nat.eq_of_beq_eq_true h.1,Hw ih h.2]
  ·rw [Bool.and_eq_true] at h
   rw [Nat.eq_of_beq_eq_true h.1,ih _ _ h.2]
  ·rw [Hw ih h]
  ·rw [Hw ih h]
  ·rw [Bool.and_eq_true,Bool.and_eq_true] at h
   rw [Nat.eq_of_beq_eq_true h.1,Hw ih h.2.1,Hw ih h.2.2]
  ·cases h
/-- A table. -/
def ML:List (List AV×AV)->List AV->Option AV
 | [],_=>none
 | (a,r)::l,xs=>if Q4 (RB 40) a xs=true then some r else ML l xs
def SV (E:Env) (f:FuncId):List (List AV×AV)->Prop
 | []=>True
 | (a,r)::l=>(∃ n,CI E n f a=some r)/\SV E f l
theorem SN {E:Env}{f:FuncId}:∀ {l:List (List AV×AV)}{xs:List AV}{y:AV},SV E f l->ML l xs=some y->∃ n,CI E n f xs=some y
 | (a,r)::l,xs,y,h,e=>by
  unfold ML at e
  split at e
  ·next hb =>
   injection e with e
   subst e
   rw [<-Hw (N0 40) hb]
   exact h.1
  ·exact SN h.2 e
theorem Iq {E:Env}(hE:EnvOk E){f:FuncId}{l:List (List AV×AV)}(hc:BI E.P f) (h:SV E f l):EnvOk (E.withX f (ML l)):=by
 refine P0 hE hc fun xs y e=>?_
 obtain ⟨n,hn⟩:=SN h e
 unfold CI at hn
 split at hn
 ·next x h' he=>exact ⟨n,x,h',he,hn⟩
 ·cases hn
/-- Another contract, told by a table of its own values. -/
theorem TB {E:Env}{f:FuncId}{g:List AV->Option AV}{l:List (List AV×AV)}(hE:EnvOk (E.withX f g)) (h:∀ p ∈ l,g p.1=some p.2):EnvOk (E.withX f (ML l)):=by
 have hl:∀ {l:List (List AV×AV)} {xs:List AV} {y:AV},(∀ p ∈ l,g p.1=some p.2)->ML l xs=some y->g xs=some y:=by
  intro l
  induction l with
  | nil=>intro xs y _ e; cases e
  | cons p l ih =>
   intro xs y h e
   obtain ⟨a,r⟩:=p
   unfold ML at e
   split at e
   ·next hb =>
    injection e with e
    subst e
    rw [<-Hw (N0 40) hb]
    exact h (a,r) (by simp)
   ·exact ih (fun p hp=>h p (List.mem_cons_of_mem _ hp)) e
 refine ⟨hE.fn,hE.mixed,hE.I,fun k q hk=>?_⟩
 change (if k=f then some (ML l) else E.X k)=some q at hk
 split at hk
 ·next hkf =>
  injection hk with hk
  subst hk hkf
  obtain ⟨h1,h2⟩:=hE.X k g (if_pos rfl)
  exact ⟨h1,fun xs x hx w Z us hz hg hv=>h2 xs x (hl h hx) w Z us hz hg hv⟩
 ·next hkf=>exact hE.X k q ((if_neg hkf).trans hk)
/-- What is told in one environment may be told in another of the same program. -/
theorem Rw {E E':Env}{f:FuncId}{g:List AV->Option AV}(hE:EnvOk E) (h:EnvOk (E'.withX f g)) (hP:E'.P=E.P) (hG:E'.G=E.G):EnvOk (E.withX f g):=by
 obtain ⟨h1,h2⟩:=h.X f g (if_pos rfl)
 have e1:(E'.withX f g).P=E.P:=hP
 refine hE.withX (e1 ▸ h1) fun xs x hx w Z us hz hg hv=>?_
 have:=h2 xs x hx w Z us hz (fun q y hy=>hg q y (by rw [<-hG]; exact hy)) hv
 exact e1 ▸ this
noncomputable def E1:Env:=(E0.withX 94 ixB).withX 13 VE
theorem Td:EnvOk E1:=Sf (T3 AD rfl) rfl
theorem UI (us:List Value) (hl:us.length=2):Nv E1.P 32 us :=
 SB (E:=E1) (s1:=(Gw E1 (match Tryz.f32.body with | some (.seq (.region _ ops _) _)=>ops.toList | _=>[]) ⟨List.replicate Tryz.f32.ntmps none,[]⟩).getD ⟨[],[]⟩) (s2:=(Gw E1 (match Tryz.f32.body with | some (.seq _ (.seq (.region _ ops _) _))=>ops.toList | _=>[]) ((Gw E1 (match Tryz.f32.body with | some (.seq (.region _ ops _) _)=>ops.toList | _=>[]) ⟨List.replicate Tryz.f32.ntmps none,[]⟩).getD ⟨[],[]⟩)).getD ⟨[],[]⟩)
  (fun _=>rfl) Tryz.func32 rfl rfl (by kernel_rfl) (by kernel_rfl) (by kernel_rfl) (by rw [hl]; decide)
noncomputable def E2:Env:=E1.withX 11 (dfX E1 3000 Tryz.f11 32 2)
theorem Uq:EnvOk E2:=T0 Td Tryz.func11 ⟨Tryz.call11⟩ ⟨Tryz.call32⟩ UI
def exC:List AV:=[.ag [.v (.int .u8 1),.st [],.v (.bool false),.sl 1 [.st [100,117,107,101],.st [99,111,117,110,116]],.v (.int .i64 0)],.ag [.v (.int .u8 2),.st [100,117,107,101],.v (.bool false),.e0,.v (.int .i64 0)],.ag [.v (.int .u8 4),.st [],.v (.bool false),.e0,.v (.int .i64 1)],.ag [.v (.int .u8 8),.st [],.v (.bool false),.e0,.v (.int .i64 0)]]
def exG:List AV:=[.ag [.st [97,100,97],.st [99,111,117,110,116],.st [],.v (.int .i64 0),.v (.int .i64 2),.st [],.v (.bool false),.v (.bool false),.e0],.ag [.st [98,101,97],.st [100,117,107,101],.st [],.v (.int .i64 1700),.v (.int .i64 0),.st [],.v (.bool false),.v (.bool false),.e0],.ag [.st [99,121,114],.st [100,117,107,101],.st [],.v (.int .i64 1650),.v (.int .i64 0),.st [],.v (.bool false),.v (.bool false),.e0],.ag [.st [100,97,110],.st [],.st [],.v (.int .i64 0),.v (.int .i64 1),.st [],.v (.bool false),.v (.bool false),.e0],.ag [.st [101,118,97],.st [99,111,117,110,116],.st [],.v (.int .i64 0),.v (.int .i64 1),.st [],.v (.bool false),.v (.bool false),.e0]]
def i4 (n:Int):AV:= .v (.int .i64 n)
def exT:List UInt8:=[114,97,110,107,32,100,117,107,101,32,99,111,117,110,116,10,97,109,111,110,103,32,100,117,107,101,32,101,108,100,101,114,10,115,105,100,101,32,49,32,102,105,114,115,116,10,110,97,109,101,10]
end Go.Proofs.YtdjhmdbpcfnpgaaGreatDoor
