/- Lemmas for the proof. -/
import Derived.Test.YteidjjolfapemaaDoorEveningParsesM1
import Derived.Test.YteidjjolfapemaaDoorEveningParsesM2
import Derived.Shelf.Strings.Search1
import Derived.Shelf.Strings.Count
set_option maxHeartbeats 4000000
set_option maxRecDepth 100000
namespace Go.Proofs.YteidjjolfapemaaDoor
open Go.RowKit
theorem F4 {g:AV->Option AV}:∀ {xs:List AV},(∀ x ∈ xs,g x=some x)->JJ g xs=some xs
 | [],_=>rfl
 | x::xs,h=>by
  unfold JJ
  rw [h x (by simp),F4 fun y hy=>h y (List.mem_cons_of_mem _ hy)]
theorem GX {h:Hp}{x:AV}(hn:D1 x=true):∀ n,C2 h n x=some x
 | 0=>by
  have:Gk x=true:=by cases x <;> first | exact hn | (simp [D1] at hn)
  unfold C2
  rw [if_pos this]
 | n + 1=>by
  cases x <;> first | (simp [D1] at hn; done) | (unfold C2; rfl)
theorem Jo {h:Hp}{x:AV}(hn:Gk x=true) (n:Nat):C2 h (n + 1) x=some x:=by
 cases x with
 | fn f p q =>
  simp only [Gk,Bool.and_eq_true] at hn
  show (match JJ (C2 h n) p,JJ (C2 h n) q with | some p,some q=>some (AV.fn f p q) | _,_=>none)=_
  rw [F4 (g:=C2 h n) fun y hy=>GX (List.all_eq_true.1 hn.1 y hy) n,F4 (g:=C2 h n) fun y hy=>GX (List.all_eq_true.1 hn.2 y hy) n]
 | _ =>
  refine GX ?_ (n + 1)
  exact hn
theorem GY {h:Hp}{x:AV}(hn:Bn x=true) (n:Nat):C2 h (n + 2) x=some x:=by
 cases x with
 | ag cs =>
  show (JJ (C2 h (n + 1)) cs).map AV.ag=_
  rw [F4 (g:=C2 h (n + 1)) fun y hy=>Jo (List.all_eq_true.1 hn y hy) n]; rfl
 | _ =>
  refine Jo ?_ (n + 1)
  exact hn
/-- What a call sees of an argument. -/
def Sm {α:Type}(n:Nat) (h:Hp) (c:Cd α) (x:AV) (v:α):Prop:=∃ y,C2 h n x=some y/\c.dec y=some v
def Sl {α:Type}(n:Nat) (h:Hp) (s:Cs α) (xs:List AV) (a:α):Prop:=∃ ys,JJ (C2 h n) xs=some ys/\s.dec ys=some a
section
variable {α β:Type}{n b k:Nat}{h:Hp}{c:Cd α}{t:TypeId}
theorem BX {v:α}:Sm (n + 2) h c (c.enc v) v:=⟨_,GY (c.nr v) n,c.de v⟩
theorem Sm.e0:Sm n h (cdL k c) .e0 []:=⟨.e0,GX rfl n,rfl⟩
theorem Ot {xs:List α}(hb:h[b]? = some (some ⟨k,t,xs.map c.enc,false⟩)):Sm (n + 3) h (cdL k c) (.rf b 0 xs.length xs.length) xs:=by
 refine ⟨.sl k (xs.map c.enc),?_,(cdL k c).de xs⟩
 unfold C2
 simp only [hb]
 rw [if_pos (by simp),List.drop_zero,List.take_of_length_le (by simp),F4]
 ·rfl
 ·intro y hy
  obtain ⟨z,_,rfl⟩:=List.mem_map.1 hy
  exact GY (c.nr z) n
theorem Sm.rf {xs:List α}{m q:Nat}(hb:h[b]? = some (some ⟨k,t,xs.map c.enc,false⟩)) (hm:m<=xs.length):Sm (n + 3) h (cdL k c) (.rf b 0 m q) (xs.take m):=by
 refine ⟨.sl k ((xs.take m).map c.enc),?_,(cdL k c).de _⟩
 unfold C2
 simp only [hb]
 rw [if_pos (by simp; omega),List.drop_zero,<-List.map_take,F4]
 ·rfl
 ·intro y hy
  obtain ⟨z,_,rfl⟩:=List.mem_map.1 hy
  exact GY (c.nr z) n
theorem Sm.hd {xs:List α}(hb:h[b]? = some (mk k t (xs.map c.enc))):Sm (n + 3) h (cdL k c) (hd b (xs.map c.enc)) xs:=by
 cases xs with
 | nil=>exact .e0
 | cons x xs =>
  have:=Ot (n:=n) (c:=c) (xs:=x::xs) (b:=b) (k:=k) hb
  simpa [Go.Proofs.YteidjjolfapemaaDoor.hd] using this
theorem Sm.pt {y:AV}{v:α}{fz:Bool}(hb:h[b]? = some (some ⟨k,t,[y],fz⟩)) (hy:Sm n h c y v):Sm (n + 1) h (cdP c) (.pt b 0 0) v:=by
 obtain ⟨z,h1,h2⟩:=hy
 refine ⟨.pe z 0,?_,h2⟩
 unfold C2
 simp only [hb,List.getElem?_cons_zero]
 rw [h1]; rfl
theorem Ch:Sl n h csN [] ():=⟨[],rfl,rfl⟩
theorem A4 {s:Cs β}{x:AV}{xs:List AV}{v:α}{a:β}(h1:Sm n h c x v) (h2:Sl n h s xs a):Sl n h (csC c s) (x::xs) (v,a):=by
 obtain ⟨y,k1,k2⟩:=h1
 obtain ⟨ys,q1,q2⟩:=h2
 refine ⟨y::ys,?_,?_⟩
 ·unfold JJ; rw [k1,q1]
 ·show ((c.dec y).bind fun x=>(s.dec ys).map fun y=>(x,y))=_
  rw [k2,q2]; rfl
theorem Sm.ag {s:Cs α}{hn:∀ x,(s.enc x).all Gk=true}{xs:List AV}{a:α}(h1:Sl n h s xs a):Sm (n + 1) h (cdA s hn) (.ag xs) a:=by
 obtain ⟨ys,k1,k2⟩:=h1
 refine ⟨.ag ys,?_,k2⟩
 show (JJ (C2 h n) xs).map AV.ag=_
 rw [k1]; rfl
end
/-- A closure of a given function. -/
def cdF {α:Type}(f:FuncId) (s:Cs α) (hn:∀ x,(s.enc x).all D1=true):Cd α where
 enc x:= .fn f [] (s.enc x)
 dec a:=match a with
  | .fn g [] q=>if g=f then s.dec q else none
  | _=>none
 de x:=by simp [s.de]
 vr:=fun {w Z a x u} hd hv=>by
  split at hd
  ·split at hd
   ·next e =>
    subst e
    cases hv with
    | fn hl hl' hx hy =>
     have:=s.vr hd ⟨hl',hy⟩
     exact .fn hl this.len hx this.at_
   ·cases hd
  ·cases hd
 nr x:=by simp [Bn,Gk,hn]
theorem Sm.fn {α:Type}{n:Nat}{h:Hp}{f:FuncId}{s:Cs α}{hn:∀ x,(s.enc x).all D1=true}{q:List AV}{a:α}(h1:Sl n h s q a):Sm (n + 1) h (cdF f s hn) (.fn f [] q) a:=by
 obtain ⟨ys,k1,k2⟩:=h1
 refine ⟨.fn f [] ys,?_,?_⟩
 ·show (match JJ (C2 h n) [],JJ (C2 h n) q with | some p,some q=>some (AV.fn f p q) | _,_=>none)=_
  rw [k1]; rfl
 ·show (if f=f then s.dec ys else none)=_
  rw [if_pos rfl]; exact k2
section
variable {E:Env}{cx:Cx}{ops:Array Oper}{rest rest':List Oper}{K:St->Prop}{n n0 k:Nat}{l:List (Nat×AV)}{hp:Hp}{α β:Type}{s:Cs α}{F:α->Option β}{er:β->AV}{u:α}{v:β}{fid:FuncId}{w:World}{Z:Nat->Prop}{R:List RI}
/-- A told call, in a world. -/
theorem Ov (hX:XOk fid (Dz s F er)) (hh:HR w Z R hp) (hg:GI E0 w Z){xs:List AV}{us:List Value}(hvs:VRs w Z R xs us) (hv:Sl 12 hp s xs u) (hok:Bm (er v)=true\/xs.all Bn=true) (hF:F u=some v) :
  Ret E0.P fid us.toArray w fun x w'=>∃ Z',HR w' Z' R hp/\VR w' Z' R (er v) x/\Step w Z R hp w' Z' R hp/\w.grownBy w' none/\(Bm (er v)=true->Z'=Z):=by
 obtain ⟨ys,h1,h2⟩:=hv
 by_cases hf:Bm (er v)=true
 ·have hz1:∀ c,(Z c\/own R hp c)->c < w.heap.size:=fun c hc=>hc.elim (hh.zlt c) (fun ⟨b,B,r,h1,_,h3,h4⟩=>h4 ▸ hh.rltL h1 h3)
  have hg1:GI E0 w (fun c=>Z c\/own R hp c):=fun q y hy=>(hg q y hy).mono (fun _ _=>rfl) (fun _ h=> .inl h) (fun _ _ h=>h)
  refine Ret.mono (hX.2 ys (er v) (Ep h2 hF) w _ us hz1 hg1 (allV_vr (Ha hh 12) hvs h1)) fun x w' ⟨hs,hx⟩=>?_
  exact ⟨Z,hh.keep hs.size (fun c hc=>hs.block c hc (by simp)),GA hf hx,⟨hs.os,hs.tape,hs.output,hs.size,fun c hc _=>hs.block c hc (by simp),fun _ h=> .inl h,fun _ h=>h,fun _ h=> .inl h,fun _ _ h=>h⟩,hs,fun _=>rfl⟩
 ·have hn:=hok.resolve_left hf
  have e:xs=ys:=OI ((F4 fun y hy=>GY (List.all_eq_true.1 hn y hy) 10).symm.trans h1)
  subst e
  refine Ret.mono (hX.2 xs (er v) (Ep h2 hF) w Z us hh.zlt hg (I1 hn hvs)) fun x w' ⟨hs,hx⟩=>?_
  obtain ⟨k1,k2⟩:=hh.addZ hs
  exact ⟨_,k1,hx.up,k2,hs,fun h=>absurd h hf⟩
/-- .. at an operation. -/
theorem PF (hP:E.P=E0.P) (hG:E.G=E0.G){caps xs:List AV}{d:Option Nat}{f:Operand}{args:Array Operand}{tys:Array TypeId}{ty:TypeId}{pos:String}{af:Array Edge}{g:Option (Nat×Bool)}{base:Bs}{a:Act}(hX:XOk fid (Dz s F er)) (sr:SR E base w Z R ⟨Fr n l,hp⟩ a)
  (hf:opA E (Fr n l) f=some (.fn fid [] caps)) (ha:ED (opA E (Fr n l)) args.toList=some xs) (hv:Sl 12 hp s (xs++caps) u) (hok:Bm (er v)=true\/(xs++caps).all Bn=true) (hF:F u=some v) {Q:Act->World->Prop}
  (kk:∀ x w' Z',HR w' Z' R hp->VR w' Z' R (er v) x->Step w Z R hp w' Z' R hp->w.grownBy w' none->(Bm (er v)=true->Z'=Z)->SR E base w' Z' R ⟨Fr n l,hp⟩ a->Q (a.put d x) w'):Lw E.P ⟨d,.call ⟨.value f,args,tys⟩,ty,pos,af,g⟩ a w Q:=by
 have hρ:∀ o x,opA E (Fr n l) o=some x->VR w Z R x (a.eval o):=fun o x e=>opA_vr sr o x e
 have hvf:=hρ _ _ hf
 have hva:∃ uc:List Value,a.eval f = .func (.func fid) #[] uc.toArray/\VRs w Z R caps uc:=by
  generalize a.eval f=vf at hvf
  cases hvf with
  | fn hl hl' hx hy =>
   rename_i u1 u2
   have e1:u1=[]:=by simpa using hl
   subst e1
   exact ⟨u2,rfl,hl',hy⟩
 obtain ⟨uc,hva,huc⟩:=hva
 have hcl:A5 E.P fid:=hP ▸ hX.1
 unfold Lw
 rw [DL (uf:=[]) (uc:=uc) rfl hva rfl hcl w]
 have hret:=Ov hX sr.hh (by have:=sr.gl; exact fun q y hy=>this q y (by rw [hG]; exact hy)) ((opds_vr hρ ha).append huc) hv hok hF
 rw [<-hP] at hret
 simp only [List.nil_append]
 refine Ret.mono hret fun x w' ⟨Z',k1,k2,k3,k4,k5⟩=>?_
 exact kk x w' Z' k1 k2 k3 k4 k5 (sr.step k1 k3)
theorem Am (hP:E.P=E0.P) (hG:E.G=E0.G) (hX:XOk fid (Dz s F er)){caps xs:List AV}{d:Nat}{f:Operand}{args:Array Operand}{tys:Array TypeId}{ty:TypeId}{pos:String}{af:Array Edge}{g:Option (Nat×Bool)}(hr:rest=⟨some d,.call ⟨.value f,args,tys⟩,ty,pos,af,g⟩::rest') (hw:Au ops (Fr n l) ⟨some d,.call ⟨.value f,args,tys⟩,ty,pos,af,g⟩=some true)
  (hf:opA E (Fr n l) f=some (.fn fid [] caps)) (ha:ED (opA E (Fr n l)) args.toList=some xs) (hv:Sl 12 hp s (xs++caps) u) (hok:Bm (er v)=true\/(xs++caps).all Bn=true) (hF:F u=some v) (kk:RunS E ops rest' ⟨Fr n ((d,er v)::l),hp⟩ K):RunS E ops rest ⟨Fr n l,hp⟩ K:=by
 subst hr
 intro base Q a w Z R sr q
 refine HU rfl (wantedA_eq sr hw) (PF hP hG hX sr hf ha hv hok hF fun x w' Z' k1 k2 k3 k4 k5 sr'=>?_)
 refine kk base Q _ w' Z' R ?_ fun s' a' w'' Z'' R'' hK sr'' st'=>q s' a' w'' Z'' R'' hK sr'' (k3.w.trans st')
 have:=sr'.put (d:=some d) k2
 rwa [Br] at this
/-- What is left of a region that draws its order, of which nothing is read any more. -/
def RunDZ (E:Env) (ops:Array Oper) (k:Nat) (rest:List Oper) (s:St) (K:St->Prop):Prop :=
 ∀ (base:Bs) (Q:Act->World->Prop) (w0:World) (Z:Nat->Prop) (a:Act) (w:World) (R:List RI),Be ops<=ops.size->SR E base w Z R s a->w0.grownBy w none->Be ops=CC rest k->k + rest.length=ops.size->(∀ j,rest[j]? = ops[k + j]?) ->
  (∀ s' a' w' Z' R',K s'->SR E base w' Z' R' s' a'->StepW w Z R s.hp w' Z' R' s'.hp->Q a' w')->E7 E.P ops (fun w'=>w0.grownBy w' none) (FM ops (Be ops)) (Be ops) Q k rest a w
/-- From now on nothing is read. -/
theorem RunDS.z {s:St}(kk:RunDZ E ops k rest s K):RunDS E ops n0 k rest s K :=
 fun base Q w0 Z _ _ a w R _ _ hT sr hgr st _ hTk hlen hops q=>kk base Q w0 Z a w R hT sr hgr hTk hlen hops fun s' a' w' Z' R' hK sr' st'=>q s' a' w' Z' R' hK sr' (st.w.trans st')
theorem RunDZ.done {s:St}(hr:rest=[]) (kk:K s):RunDZ E ops k rest s K:=by
 subst hr
 exact fun base Q w0 Z a w R _ sr hgr _ _ _ q=>⟨fun _=>hgr,q s a w Z R kk sr (StepW.refl _ _ _ _)⟩
theorem Nz {s:St}{o:Oper}(hr:rest=o::rest') (hW:isW o.op=true) (h:RunS E ops rest s K):RunDZ E ops k rest s K:=by
 subst hr
 intro base Q w0 Z a w R hT sr hgr hTk hlen hops q
 have hTk':Be ops=k:=by rw [hTk]; unfold CC; rw [if_pos hW]
 exact Gj (h base Q a w Z R sr fun s' a' w' Z' R' hK sr' st'=>q s' a' w' Z' R' hK sr' st') (by omega) (fun _=>hgr) (fun j hj=>HT (by omega)) hops
theorem E9 (hE:EnvOk E):∀ {pre:List Oper}{s s1:St}{k:Nat},(pre.all fun o=>!isW o.op&&!LF o.op)=true->Gl E (evC E 0) ⟨none,false⟩ ops n0 pre s=some s1->RunDZ E ops (k + pre.length) rest s1 K->RunDZ E ops k (pre++rest) s K
 | [],s,s1,k,_,e,kk=>by injection e with e; subst e; exact kk
 | o::pre,s,s1,k,hp,e,kk=>by
  intro base Q w0 Z a w R hT sr hgr hTk hlen hops q
  simp only [List.all_cons,Bool.and_eq_true,Bool.not_eq_true'] at hp
  obtain ⟨⟨hW,hLd⟩,hp⟩:=hp
  have hok:ops[k]? = some o:=by have:=hops 0; simpa using this.symm
  have hops':∀ j,(pre++rest)[j]? = ops[k + 1 + j]?:=fun j=>by have:=hops (j + 1); simpa [Nat.add_assoc,Nat.add_comm 1 j] using this
  have hk1:k + 1 + pre.length=k + (o::pre).length:=by simp; omega
  have kk':RunDZ E ops (k + 1 + pre.length) rest s1 K:=by rw [hk1]; exact kk
  have hp':(pre.all fun o=>!isW o.op&&!LF o.op)=true:=by simpa using hp
  have hlen':k + 1 + (pre++rest).length=ops.size:=by simp at hlen ⊢; omega
  have hTk':Be ops=CC (pre++rest) (k + 1):=by
   rw [hTk]
   show CC (o::(pre++rest)) k=_
   conv=>lhs; unfold CC; rw [if_neg (by rw [hW]; simp)]
  have hkT:¬ Be ops<=k:=by have:=FX (pre++rest) (k + 1); omega
  show E7 E.P ops _ _ _ Q k (o::(pre++rest)) a w
  refine ⟨fun _=>hgr,?_⟩
  unfold Gl at e
  rw [if_neg (by rw [hW]; simp)] at e
  split at e
  ·cases e
  ·next hw =>
   rw [if_neg (by rw [wantedA_eq sr hw]; simp)]
   exact E9 hE hp' e kk' base Q w0 Z _ w R hT (sr.put undef_vr) hgr hTk' hlen' hops' q
  ·next hw =>
   rw [if_pos (wantedA_eq sr hw)]
   have hρ:∀ o x,opA E s.fr o=some x->VR w Z R x (a.eval o):=fun o x e=>opA_vr sr o x e
   split at e
   ·next x hx =>
    split at e
    ·have hq:=Km hx
     rw [if_neg (by rw [Hu hok hq hkT]; simp)]
     obtain ⟨u,hu,hrun⟩:=evOpQ_sound sr.hh hρ hx
     exact ⟨u,(fun w' _=>hrun w' fun h=>by rw [hLd] at h; cases h),E9 hE hp' e kk' base Q w0 Z _ w R hT (sr.put hu) hgr hTk' hlen' hops' q⟩
    ·cases e
   ·split at e
    ·next x h' hx =>
     have hq:=HS hx
     rw [if_pos (FN hok hq)]
     obtain ⟨u,w',R',h1,h2,h3,h4,h5⟩:=evOpN_sound hρ sr.hh hx
     exact Je h1 (E9 hE hp' e kk' base Q w0 Z _ w' R' hT ((sr.step h2 h4).put h3) (EF hgr h5) hTk' hlen' hops' fun s' a' w'' Z'' R'' hK sr'' st'=>q s' a' w'' Z'' R'' hK sr'' (h4.w.trans st'))
    ·split at e
     ·next f args tys ho =>
      split at e
      ·next fv xs hf hxs =>
       split at e
       ·next r hr =>
        obtain ⟨x,h'⟩:=r
        have hq:isQ o.op=false:=by rw [ho]; rfl
        rw [if_pos (FN hok hq)]
        obtain ⟨g,uf,uc,hva,hcl,hret⟩:=Ec hE (code_sound hE 0).1 (hρ _ _ hf) (opds_vr hρ hxs) sr.hh sr.gl hr
        unfold Lw
        rw [DL (uf:=uf) (uc:=uc) ho hva rfl hcl w]
        refine Ret.mono hret fun v w' hS=>?_
        obtain ⟨hg1,R',k1,k2,k3⟩:=hS
        exact E9 hE hp' e kk' base Q w0 Z _ w' R' hT ((sr.step k1 k3).put k2) (EF hgr hg1) hTk' hlen' hops' fun s' a' w'' Z'' R'' hK sr'' st'=>q s' a' w'' Z'' R'' hK sr'' (k3.w.trans st')
       ·cases e
      ·cases e
     ·cases e
theorem RunDZ.one (hE:EnvOk E){s s1:St}{o:Oper}(hr:rest=o::rest') (hW:(!isW o.op&&!LF o.op)=true) (h:Gl E (evC E 0) ⟨none,false⟩ ops n0 [o] s=some s1) (kk:RunDZ E ops (k + 1) rest' s1 K):RunDZ E ops k rest s K:=by
 subst hr
 exact E9 (k:=k) hE (pre:=[o]) (by simpa using hW) h kk
end
/-- A function, entered: from what its body does; the interpreter need not take it. -/
theorem Mx {E:Env}{c:Code}{Q:Ex->St->Prop}{f:FuncId}{fn:Func}{args:List AV}{h:Hp}(hff:E.P.funcs[f]? = some fn) (hc:fn.body=some c) (hle:args.length<=fn.ntmps)
  (hb:Sem E ⟨none,false⟩ c ⟨args.map some++List.replicate (fn.ntmps - args.length) (some (.tp [])),h⟩ fun e s=>(e = .normal\/e = .ret)/\∃ xs,EM E.P s.fr s.hp fn.results.toList=some xs/\Q .ret ⟨[some (Ea xs)],s.hp⟩)
  {w:World} {Z:Nat->Prop} {R:List RI} {us:List Value} (hh:HR w Z R h) (hv:VRs w Z R args us) (hg:GI E w Z) :
  Ret E.P f us.toArray w fun v w'=>∃ Z' R' x h',Q .ret ⟨[some x],h'⟩/\HR w' Z' R' h'/\VR w' Z' R' x v/\StepW w Z R h w' Z' R' h':=by
 refine callsIn_wide.1 (callsIn_of_wp_marks (F:=Fw none) (n:=0) hff hc trivial ?_)
 have hul:us.length=args.length:=hv.len
 have hsr:SR E (.of w.heap.size) w Z R ⟨args.map some++List.replicate (fn.ntmps - args.length) (some (.tp [])),h⟩ { tmps:=us.toArray++Array.replicate (fn.ntmps - us.toArray.size) undef,defers:=[] }:=by
  refine ⟨hh,⟨by simp [hul],fun t x hx=>?_⟩,rfl,hg,Nat.le_refl _⟩
  have e0:us.toArray++Array.replicate (fn.ntmps - us.toArray.size) undef=(us++List.replicate (fn.ntmps - us.length) undef).toArray:=by simp
  rw [e0,Array.getD_eq_getD_getElem?,List.getElem?_toArray]
  by_cases ht:t < args.length
  ·rw [List.getElem?_append_left (by simpa using ht),List.getElem?_map] at hx
   rw [List.getElem?_append_left (by omega)]
   cases hat:args[t]? with
   | none=>rw [hat] at hx; cases hx
   | some q =>
    rw [hat] at hx
    have hx:=OI (OI hx)
    subst hx
    obtain ⟨u,hu1,hu2⟩:=hv.get hat
    rw [hu1]; exact hu2
  ·rw [List.getElem?_append_right (by simp; omega),List.getElem?_replicate] at hx
   split at hx
   ·next hlt =>
    have hx:=OI (OI hx)
    subst hx
    rw [List.getElem?_append_right (by omega),List.getElem?_replicate,if_pos (by rw [hul]; simpa using hlt)]
    exact .tp (us:=[]) rfl (fun i x u hx=>by simp at hx)
   ·cases hx
 refine hb none (.of w.heap.size) _ _ w Z R (fun _=>rfl) hsr rfl fun e s' a' w' Z' R' hQ sr' st=>?_
 obtain ⟨hex,xs,hxs,hq⟩:=hQ
 have hl:=EV (base:= .of w.heap.size) rfl (E:=E) (w:=w') (a:=a') (fn:=fn) (S:=fun v w''=>∃ Z' R' x h',Q .ret ⟨[some x],h'⟩/\HR w'' Z' R' h'/\VR w'' Z' R' x v/\StepW w Z R h w'' Z' R' h') hxs (fun w'' u g1 g2 g3 g4 g5 g6 g7=>⟨Z',R',_,_,hq,g6,g7,⟨g2.trans st.os,g3.trans st.tape,g4.trans st.output,by rw [g1]; exact st.size,fun c hc hn=>(g5 c hc).trans (st.block c hc hn),st.own_,st.z,st.z'⟩⟩) (D:=a'.defers) (w1:=w') sr' rfl rfl rfl rfl (fun _ _=>rfl)
 rcases hex with rfl | rfl
 ·exact hl
 ·exact hl
/-- A contract out of what the body does. -/
theorem BJ {f:FuncId}{fn:Func}{c:Code}(hf:E0.P.funcs[f]? = some fn) (hc:fn.body=some c) (hcall:A5 E0.P f){α β:Type}(s:Cs α) (F:α->Option β) (er:β->AV) (hle:∀ a,(s.enc a).length<=fn.ntmps) (hnr:∀ b,Nk (er b)=true)
  (sem:∀ a b,F a=some b->Sem E0 ⟨none,false⟩ c ⟨Fr fn.ntmps (BA 0 (s.enc a)),[]⟩ fun e s'=>(e = .normal\/e = .ret)/\∃ xs,EM E0.P s'.fr s'.hp fn.results.toList=some xs/\Ea xs=er b) :
  XOk f (Dz s F er):=by
 refine ⟨hcall,fun xs x h w Z us hz hg hv=>?_⟩
 obtain ⟨a,ha,h⟩:=OB h
 obtain ⟨b,hb,rfl⟩:=Option.map_eq_some_iff.1 h
 have hh:HR w Z [] []:=⟨rfl,fun b B hB=>by simp at hB,fun b b' B B' r r' hB=>by simp at hB,hz⟩
 refine Ret.mono (Mx hf hc (hle a) (Q:=fun _ s=>s.fr=[some (er b)]) (Sem.mono (CM (Wk.enter (hle a)) (sem a b hb)) fun e s' hs=>?_) hh (s.vr ha hv) hg) fun v w' hS=>?_
 ·obtain ⟨h1,xs,h2,h3⟩:=hs
  exact ⟨h1,xs,h2,by rw [h3]⟩
 ·obtain ⟨Z',R',x,h',hQ,k1,k2,st⟩:=hS
  have hx:x=er b:=by simpa using hQ
  subst hx
  refine ⟨⟨st.os,st.tape,st.output,st.size,fun c hc _=>st.block c hc (fun ⟨b,B,r,hb,_⟩=>by simp at hb)⟩,(Ko (hnr b) k2).mono (fun _ _=>rfl) (fun c hc=>?_) (fun _ _ h=>h)⟩
  rcases st.z' c hc with h1 | ⟨b,B,r,hb,_⟩ | h1
  ·exact .inl h1
  ·simp at hb
  ·exact .inr ⟨h1,k1.zlt c hc⟩
def isT (r:Option (AV×Hp)):Bool:=match r with
 | some (.v (.bool true),_)=>true
 | _=>false
theorem NV {r:Option (AV×Hp)}(h:isT r=true):∃ h',r=some (.v (.bool true),h'):=by
 unfold isT at h
 split at h
 ·exact ⟨_,rfl⟩
 ·cases h
set_option maxRecDepth 1000000 in
theorem N9:isT (Ki E0 1000 6 [] [])=true:=by kernel_rfl
theorem Mc:∃ h,Ki E0 1000 6 [] []=some (.v (.bool true),h):=NV N9
theorem Lk (w:World):Ret Tryd.prog 6 #[] w fun v w'=>v = .bool true/\w.grownBy w' none:=by
 obtain ⟨h,e⟩:=Mc
 exact My (Z:=fun _=>False) (us:=[]) AC e (fun c hc=>hc.elim) (fun g x h=>by cases h) .nil
theorem Nu {w:World}{Z:Nat->Prop}:VR w Z [] (.v (.bool true)) (.bool true):= .v rfl
def Du:Option Bool:=some true
def IK:Cs Unit:=csN
def IL (b:Bool):AV:=cdB.enc b
def JC:List AV->Option AV:=Dz IK (fun _=>Du) IL
theorem Es:XOk 6 JC:=by
 refine ⟨⟨Tryd.call6⟩,fun xs x h w Z us _ _ hv=>?_⟩
 obtain ⟨a,ha,h⟩:=OB h
 obtain ⟨b,hb,rfl⟩:=Option.map_eq_some_iff.1 h
 have hb:=OI hb
 subst hb
 have:xs=[]:=by
  cases xs with
  | nil=>rfl
  | cons x xs=>cases ha
 subst this
 have:us=[]:=by have:=hv.len; simpa using this
 subst this
 exact Ret.mono (Lk w) fun v w' h=>⟨h.2,by rw [h.1]; exact Nu⟩
/-- How a Lean value is held by an abstract value and own blocks (the list tells which). -/
structure Oc (α:Type) where
 cd:Cd α
 at_:Hp->AV->α->List Nat->Prop
 loc:∀ {h h':Hp} {e:AV} {x:α} {F:List Nat},at_ h e x F->(∀ b ∈ F,h'[b]? = h[b]?)->at_ h' e x F
 own:∀ {h:Hp} {e:AV} {x:α} {F:List Nat} {b:Nat},at_ h e x F->b ∈ F->∃ B,h[b]? = some (some B)/\B.fz=false
 vr:∀ {w:World} {Z:Nat->Prop} {R:List RI} {h:Hp} {e:AV} {x:α} {F:List Nat} {u:Value},HR w Z R h->at_ h e x F->VR w Z R e u->VR w (fun c=>Z c\/∃ b ∈ F,∃ r,R[b]? = some r/\c=r.c) [] (cd.enc x) u
/-- A part of a heap. -/
structure Asn where
 at_:Hp->List Nat->Prop
 loc:∀ {h h':Hp} {F:List Nat},at_ h F->(∀ b ∈ F,h'[b]? = h[b]?)->at_ h' F
 own:∀ {h:Hp} {F:List Nat} {b:Nat},at_ h F->b ∈ F->∃ B,h[b]? = some (some B)/\B.fz=false
def TF (h:Hp):List Asn->List Nat->Prop
 | [],F=>F=[]
 | P::L,F=>∃ F1 F2,F=F1++F2/\P.at_ h F1/\TF h L F2
/-- The assertions hold of different blocks. -/
def T (h:Hp) (L:List Asn):Prop:=∃ F,TF h L F/\F.Nodup
theorem Fp {h:Hp}{b:Nat}{o:Option Blk}(e:h[b]? = some o):b < h.length:=(List.getElem?_eq_some_iff.1 e).1
theorem TF.loc {h h':Hp}:∀ {L:List Asn}{F:List Nat},TF h L F->(∀ b ∈ F,h'[b]? = h[b]?)->TF h' L F
 | [],_,e,_=>e
 | _::_,_,⟨F1,F2,e,p,q⟩,k=>⟨F1,F2,e,Asn.loc _ p (fun b hb=>k b (by rw [e]; exact List.mem_append_left _ hb)),TF.loc q fun b hb=>k b (by rw [e]; exact List.mem_append_right _ hb)⟩
theorem TF.own {h:Hp}:∀ {L:List Asn}{F:List Nat}{b:Nat},TF h L F->b ∈ F->∃ B,h[b]? = some (some B)/\B.fz=false
 | [],_,_,e,hb=>by rw [show _=[] from e] at hb; cases hb
 | _::_,_,_,⟨F1,F2,e,p,q⟩,hb=>by
  rw [e] at hb
  rcases List.mem_append.1 hb with hb | hb
  ·exact Asn.own _ p hb
  ·exact TF.own q hb
theorem TF.lt {h:Hp}{L:List Asn}{F:List Nat}{b:Nat}(t:TF h L F) (hb:b ∈ F):b < h.length:=let ⟨_,e,_⟩:=t.own hb; Fp e
theorem Asn.lt {P:Asn}{h:Hp}{F:List Nat}{b:Nat}(t:P.at_ h F) (hb:b ∈ F):b < h.length:=let ⟨_,e,_⟩:=P.own t hb; Fp e
theorem TF.front {h:Hp}{P:Asn}:∀ {i:Nat}{L:List Asn}{F:List Nat},TF h L F->L[i]? = some P->∃ F',TF h (P::L.eraseIdx i) F'/\F'.Perm F
 | _,[],_,_,e=>by simp at e
 | 0,Q::L,F,t,e=>by
  simp at e; subst e
  exact ⟨F,t,List.Perm.refl _⟩
 | i + 1,Q::L,F,⟨F1,F2,e0,p,q⟩,e=>by
  obtain ⟨F',⟨G1,G2,e1,p1,q1⟩,hp⟩:=TF.front q (by simpa using e)
  subst e0 e1
  refine ⟨G1++(F1++G2),⟨G1,_,rfl,p1,F1,G2,rfl,p,q1⟩,?_⟩
  have h1:(G1++(F1++G2)).Perm (F1++(G1++G2)):=by
   rw [<-List.append_assoc,<-List.append_assoc]
   exact List.Perm.append_right _ List.perm_append_comm
  exact h1.trans (List.Perm.append_left _ hp)
theorem T.front {h:Hp}{L:List Asn}{P:Asn}(i:Nat) (t:T h L) (e:L[i]? = some P):T h (P::L.eraseIdx i) :=
 let ⟨_,t1,hn⟩:=t; let ⟨F',t2,hp⟩:=t1.front e; ⟨F',t2,hp.nodup_iff.2 hn⟩
theorem Cv {F1 F2:List Nat}:(F1++F2).Nodup↔F1.Nodup/\F2.Nodup/\∀ a ∈ F1,a ∉ F2:=by
 rw [List.nodup_append]
 constructor
 ·rintro ⟨h1,h2,h3⟩
  exact ⟨h1,h2,fun a ha hb=>h3 a ha a hb rfl⟩
 ·rintro ⟨h1,h2,h3⟩
  exact ⟨h1,h2,fun a ha b hb e=>h3 a ha (e ▸ hb)⟩
/-- The first assertion turns into another; the rest is as it was. -/
theorem T.act {h:Hp}{P:Asn}{L:List Asn}(t:T h (P::L)):∃ F,P.at_ h F/\F.Nodup/\(∀ (h':Hp) (P':Asn) (F':List Nat),P'.at_ h' F'->F'.Nodup->(∀ b,b ∉ F->b < h.length->h'[b]? = h[b]?)->(∀ b ∈ F',b ∈ F\/h.length<=b)->T h' (P'::L))/\∀ h':Hp,(∀ b,b ∉ F->b < h.length->h'[b]? = h[b]?)->T h' L:=by
 obtain ⟨F,⟨F1,F2,rfl,p,q⟩,hn⟩:=t
 obtain ⟨n1,n2,n3⟩:=Cv.1 hn
 have hq:∀ h':Hp,(∀ b,b ∉ F1->b < h.length->h'[b]? = h[b]?)->TF h' L F2:=fun h' hs=>q.loc fun b hb=>hs b (fun hb1=>n3 b hb1 hb) (q.lt hb)
 refine ⟨F1,p,n1,fun h' P' F' p' hn' hs hb=>⟨F'++F2,⟨F',F2,rfl,p',hq h' hs⟩,Cv.2 ⟨hn',n2,fun a ha ha2=>?_⟩⟩,fun h' hs=>⟨F2,hq h' hs,n2⟩⟩
 rcases hb a ha with h1 | h1
 ·exact n3 a h1 ha2
 ·have:=q.lt ha2; omega
theorem T.drop {h:Hp}{P:Asn}{L:List Asn}(t:T h (P::L)):T h L:=let ⟨_,_,_,_,k⟩:=t.act; k h fun _ _ _=>rfl
/-- New blocks, a new assertion. -/
theorem T.add {h h':Hp}{P:Asn}{L:List Asn}{F:List Nat}(t:T h L) (p:P.at_ h' F) (hn:F.Nodup) (hs:∀ b,b < h.length->h'[b]? = h[b]?) (hb:∀ b ∈ F,h.length<=b):T h' (P::L):=by
 obtain ⟨F2,q,n2⟩:=t
 exact ⟨F++F2,⟨F,F2,rfl,p,q.loc fun b hb=>hs b (q.lt hb)⟩,Cv.2 ⟨hn,n2,fun a ha ha2=>by have:=hb a ha; have:=q.lt ha2; omega⟩⟩
theorem T.nil {h:Hp}:T h []:=⟨[],rfl,List.nodup_nil⟩
/-- Two assertions as one. -/
def PL (P Q:Asn):Asn where
 at_ h F:=∃ F1 F2,F=F1++F2/\P.at_ h F1/\Q.at_ h F2
 loc:=fun ⟨F1,F2,e,p,q⟩ k=>⟨F1,F2,e,P.loc p (fun b hb=>k b (by rw [e]; exact List.mem_append_left _ hb)),Q.loc q fun b hb=>k b (by rw [e]; exact List.mem_append_right _ hb)⟩
 own:=fun ⟨F1,F2,e,p,q⟩ hb=>by
  rw [e] at hb
  rcases List.mem_append.1 hb with hb | hb
  ·exact P.own p hb
  ·exact Q.own q hb
theorem T.join {h:Hp}{P Q:Asn}{L:List Asn}:T h (P::Q::L)↔T h (PL P Q::L):=by
 constructor
 ·rintro ⟨F,⟨F1,F2,rfl,p,⟨G1,G2,rfl,q,r⟩⟩,hn⟩
  exact ⟨_,⟨F1++G1,G2,(List.append_assoc _ _ _).symm,⟨F1,G1,rfl,p,q⟩,r⟩,hn⟩
 ·rintro ⟨F,⟨F1,F2,rfl,⟨G1,G2,rfl,p,q⟩,r⟩,hn⟩
  exact ⟨_,⟨G1,G2++F2,List.append_assoc _ _ _,p,G2,F2,rfl,q,r⟩,hn⟩
/-- An own value. -/
def own_ {α:Type}(o:Oc α) (e:AV) (x:α):Asn:=⟨fun h F=>o.at_ h e x F,o.loc,o.own⟩
/-- A cell of its own (a variable that closures hold, a struct with an address). -/
def cel (p:AV) (k:Nat) (t:TypeId) (a:AV):Asn where
 at_ h F:=∃ b,p = .pt b 0 0/\F=[b]/\h[b]? = some (some ⟨k,t,[a],false⟩)
 loc:=fun ⟨b,e1,e2,e3⟩ k=>⟨b,e1,e2,(k b (by rw [e2]; simp)).trans e3⟩
 own:=fun ⟨b,e1,e2,e3⟩ hb=>by
  rw [e2] at hb
  simp at hb
  subst hb
  exact ⟨_,e3,rfl⟩
/-- A value as it is. -/
def ocV {α:Type}(c:Cd α):Oc α where
 cd:=c
 at_ _ e x F:=e=c.enc x/\F=[]
 loc h _:=h
 own h hb:=by rw [h.2] at hb; cases hb
 vr:=fun {w Z R h e x F u} _ ha hv=>by
  rw [ha.1] at hv
  exact (Fe (c.nr x) hv).mono (fun _ _=>rfl) (fun _ h=> .inl h) (fun _ _ h=>h)
section
variable {α:Type}{p p':AV->α->List Nat->Prop}
def All3 (p:AV->α->List Nat->Prop):List AV->List α->List Nat->Prop
 | [],[],F=>F=[]
 | e::es,x::xs,F=>∃ F1 F2,F=F1++F2/\p e x F1/\All3 p es xs F2
 | _,_,_=>False
def All3h (p:AV->α->List Nat->Prop):Nat->AV->List AV->List α->List Nat->Prop
 | 0,e',e::es,_::xs,F=>e=e'/\All3 p es xs F
 | j + 1,e',e::es,x::xs,F=>∃ F1 F2,F=F1++F2/\p e x F1/\All3h p j e' es xs F2
 | _,_,_,_,_=>False
theorem All3.len:∀ {es:List AV}{xs:List α}{F:List Nat},All3 p es xs F->es.length=xs.length
 | [],[],_,_=>rfl
 | _::_,_::_,_,⟨_,_,_,_,h⟩=>by simp [All3.len h]
 | [],_::_,_,h=>h.elim
 | _::_,[],_,h=>h.elim
theorem All3.mono:∀ {es:List AV}{xs:List α}{F:List Nat},All3 p es xs F->(∀ e x F',(∀ b ∈ F',b ∈ F)->p e x F'->p' e x F')->All3 p' es xs F
 | [],[],_,h,_=>h
 | _::_,_::_,_,⟨F1,F2,e,h1,h2⟩,k=>⟨F1,F2,e,k _ _ F1 (fun b hb=>by rw [e]; exact List.mem_append_left _ hb) h1,h2.mono fun e' x F' hF=>k e' x F' fun b hb=>by rw [e]; exact List.mem_append_right _ (hF b hb)⟩
 | [],_::_,_,h,_=>h.elim
 | _::_,[],_,h,_=>h.elim
theorem All3h.mono:∀ {j:Nat}{e':AV}{es:List AV}{xs:List α}{F:List Nat},All3h p j e' es xs F->(∀ e x F',(∀ b ∈ F',b ∈ F)->p e x F'->p' e x F')->All3h p' j e' es xs F
 | 0,_,_::_,_::_,_,⟨h1,h2⟩,k=>⟨h1,h2.mono k⟩
 | _ + 1,_,_::_,_::_,_,⟨F1,F2,e,h1,h2⟩,k=>⟨F1,F2,e,k _ _ F1 (fun b hb=>by rw [e]; exact List.mem_append_left _ hb) h1,h2.mono fun e' x F' hF=>k e' x F' fun b hb=>by rw [e]; exact List.mem_append_right _ (hF b hb)⟩
 | 0,_,[],_,_,h,_=>by unfold All3h at h; exact h.elim
 | 0,_,_::_,[],_,h,_=>by unfold All3h at h; exact h.elim
 | _ + 1,_,[],_,_,h,_=>by unfold All3h at h; exact h.elim
 | _ + 1,_,_::_,[],_,h,_=>by unfold All3h at h; exact h.elim
theorem All3.get:∀ {es:List AV}{xs:List α}{F:List Nat}{i:Nat}{x:α},All3 p es xs F->xs[i]? = some x->∃ e Fi,es[i]? = some e/\p e x Fi/\∀ b ∈ Fi,b ∈ F
 | _::_,_::_,_,0,_,⟨F1,F2,e,h1,h2⟩,hx=>by
  simp at hx; subst hx
  exact ⟨_,F1,rfl,h1,fun b hb=>by rw [e]; exact List.mem_append_left _ hb⟩
 | _::_,_::_,_,i + 1,_,⟨F1,F2,e,h1,h2⟩,hx=>by
  obtain ⟨e',Fi,k1,k2,k3⟩:=h2.get (i:=i) (by simpa using hx)
  exact ⟨e',Fi,by simpa using k1,k2,fun b hb=>by rw [e]; exact List.mem_append_right _ (k3 b hb)⟩
 | [],[],_,_,_,_,hx=>by simp at hx
 | [],_::_,_,_,_,h,_=>h.elim
 | _::_,[],_,_,_,h,_=>h.elim
theorem All3.hole:∀ {es:List AV}{xs:List α}{F:List Nat}{i:Nat}{x:α},All3 p es xs F->xs[i]? = some x->∃ e' Fi F',es[i]? = some e'/\p e' x Fi/\All3h p i e' es xs F'/\(Fi++F').Perm F
 | _::_,_::_,_,0,_,⟨F1,F2,e,h1,h2⟩,hx=>by
  simp at hx; subst hx
  exact ⟨_,F1,F2,rfl,h1,⟨rfl,h2⟩,e ▸ List.Perm.refl _⟩
 | _::_,_::_,_,i + 1,_,⟨F1,F2,e,h1,h2⟩,hx=>by
  obtain ⟨e',Fi,F',k1,k2,k3,k4⟩:=h2.hole (i:=i) (by simpa using hx)
  refine ⟨e',Fi,F1++F',by simpa using k1,k2,⟨F1,F',rfl,h1,k3⟩,?_⟩
  rw [e]
  have:(Fi++(F1++F')).Perm (F1++(Fi++F')):=by
   rw [<-List.append_assoc,<-List.append_assoc]
   exact List.Perm.append_right _ List.perm_append_comm
  exact this.trans (List.Perm.append_left _ k4)
 | [],[],_,_,_,_,hx=>by simp at hx
 | [],_::_,_,_,_,h,_=>h.elim
 | _::_,[],_,_,_,h,_=>h.elim
theorem All3h.fill {e'':AV}{y:α}{Fi:List Nat}(hp:p e'' y Fi):∀ {j:Nat}{e':AV}{es:List AV}{xs:List α}{F':List Nat},All3h p j e' es xs F'->∃ F,All3 p (es.set j e'') (xs.set j y) F/\F.Perm (Fi++F')
 | 0,_,_::_,_::_,F',⟨_,h2⟩=>⟨Fi++F',⟨Fi,F',rfl,hp,h2⟩,List.Perm.refl _⟩
 | _ + 1,_,_::_,_::_,_,⟨F1,F2,e,h1,h2⟩=>by
  obtain ⟨F,k1,k2⟩:=All3h.fill hp h2
  refine ⟨F1++F,⟨F1,F,rfl,h1,k1⟩,?_⟩
  rw [e]
  refine (List.Perm.append_left F1 k2).trans ?_
  rw [<-List.append_assoc,<-List.append_assoc]
  exact List.Perm.append_right _ List.perm_append_comm
 | 0,_,[],_,_,h=>by unfold All3h at h; exact h.elim
 | 0,_,_::_,[],_,h=>by unfold All3h at h; exact h.elim
 | _ + 1,_,[],_,_,h=>by unfold All3h at h; exact h.elim
 | _ + 1,_,_::_,[],_,h=>by unfold All3h at h; exact h.elim
theorem All3h.at_:∀ {j:Nat}{e':AV}{es:List AV}{xs:List α}{F':List Nat},All3h p j e' es xs F'->es[j]? = some e'/\es.length=xs.length/\j < xs.length
 | 0,_,_::_,_::_,_,⟨h1,h2⟩=>⟨by simp [h1],by simp [h2.len],by simp⟩
 | _ + 1,_,_::_,_::_,_,⟨_,_,_,_,h2⟩=>by
  obtain ⟨k1,k2,k3⟩:=h2.at_
  exact ⟨by simpa using k1,by simp [k2],by simp; omega⟩
 | 0,_,[],_,_,h=>by unfold All3h at h; exact h.elim
 | 0,_,_::_,[],_,h=>by unfold All3h at h; exact h.elim
 | _ + 1,_,[],_,_,h=>by unfold All3h at h; exact h.elim
 | _ + 1,_,_::_,[],_,h=>by unfold All3h at h; exact h.elim
theorem All3.append:∀ {es:List AV}{xs:List α}{F:List Nat}{es':List AV}{xs':List α}{F':List Nat},All3 p es xs F->All3 p es' xs' F'->All3 p (es++es') (xs++xs') (F++F')
 | [],[],_,_,_,_,h,h'=>by rw [show _=[] from h]; exact h'
 | _::_,_::_,_,_,_,_,⟨F1,F2,e,h1,h2⟩,h'=>⟨F1,_,by rw [e,List.append_assoc],h1,h2.append h'⟩
 | [],_::_,_,_,_,_,h,_=>h.elim
 | _::_,[],_,_,_,_,h,_=>h.elim
theorem All3.mem:∀ {es:List AV}{xs:List α}{F:List Nat}{b:Nat},All3 p es xs F->b ∈ F->∃ e x F',p e x F'/\b ∈ F'
 | [],[],_,_,h,hb=>by rw [show _=[] from h] at hb; cases hb
 | _::_,_::_,_,_,⟨F1,F2,e,h1,h2⟩,hb=>by
  rw [e] at hb
  rcases List.mem_append.1 hb with hb | hb
  ·exact ⟨_,_,F1,h1,hb⟩
  ·exact h2.mem hb
 | [],_::_,_,_,h,_=>h.elim
 | _::_,[],_,_,h,_=>h.elim
theorem All3h.mem:∀ {j:Nat}{e':AV}{es:List AV}{xs:List α}{F:List Nat}{b:Nat},All3h p j e' es xs F->b ∈ F->∃ e x F',p e x F'/\b ∈ F'
 | 0,_,_::_,_::_,_,_,⟨_,h2⟩,hb=>h2.mem hb
 | _ + 1,_,_::_,_::_,_,_,⟨F1,F2,e,h1,h2⟩,hb=>by
  rw [e] at hb
  rcases List.mem_append.1 hb with hb | hb
  ·exact ⟨_,_,F1,h1,hb⟩
  ·exact h2.mem hb
 | 0,_,[],_,_,_,h,_=>by unfold All3h at h; exact h.elim
 | 0,_,_::_,[],_,_,h,_=>by unfold All3h at h; exact h.elim
 | _ + 1,_,[],_,_,_,h,_=>by unfold All3h at h; exact h.elim
 | _ + 1,_,_::_,[],_,_,h,_=>by unfold All3h at h; exact h.elim
end
/-- Leaves. -/
theorem GJ {α:Type}{c:Cd α}{h:Hp}:∀ {xs:List α},All3 ((ocV c).at_ h) (xs.map c.enc) xs []
 | []=>rfl
 | _x::_=>⟨[],[],rfl,⟨rfl,rfl⟩,GJ⟩
theorem All3.leaf_inv {α:Type}{c:Cd α}{h:Hp}:∀ {es:List AV}{xs:List α}{F:List Nat},All3 ((ocV c).at_ h) es xs F->es=xs.map c.enc/\F=[]
 | [],[],_,e=>⟨rfl,e⟩
 | _::_,_::_,_,⟨F1,F2,e,h1,h2⟩=>by
  obtain ⟨k1,k2⟩:=h2.leaf_inv
  exact ⟨by rw [k1,h1.1]; rfl,by rw [e,h1.2,k2]; rfl⟩
 | [],_::_,_,h=>h.elim
 | _::_,[],_,h=>h.elim
/-- An own slice of own values. -/
def ocL {α:Type}(k:Nat) (t:TypeId) (o:Oc α):Oc (List α) where
 cd:=cdL k o.cd
 at_ h e xs F:=(e = .e0/\xs=[]/\F=[])\/∃ b es F',e = .rf b 0 xs.length xs.length/\h[b]? = some (some ⟨k,t,es,false⟩)/\F=b::F'/\All3 (o.at_ h) es xs F'
 loc:=fun {h h' e x F} ha k=>by
  rcases ha with h1 | ⟨b,es,F',h1,h2,h3,h4⟩
  ·exact .inl h1
  ·subst h3
   exact .inr ⟨b,es,F',h1,(k b (by simp)).trans h2,rfl,h4.mono fun e x G hG h5=>o.loc h5 fun c hc=>k c (List.mem_cons_of_mem _ (hG c hc))⟩
 own:=fun {h e x F b} ha hb=>by
  rcases ha with ⟨_,_,h1⟩ | ⟨b',es,F',h1,h2,h3,h4⟩
  ·rw [h1] at hb; cases hb
  ·subst h3
   rcases List.mem_cons.1 hb with rfl | hb
   ·exact ⟨_,h2,rfl⟩
   ·obtain ⟨e,x,G,k1,k2⟩:=h4.mem hb
    exact o.own k1 k2
 vr:=fun {w Z R h e xs F u} hh ha hv=>by
  rcases ha with ⟨rfl,rfl,rfl⟩ | ⟨b,es,F',rfl,h2,rfl,h4⟩
  ·cases hv
   exact .sl (us:=[]) rfl rfl (Nat.le_refl _) (by unfold maxLen; omega) (fun h=>by omega) (fun i x u hx=>by simp at hx)
  ·obtain ⟨r,arr,us,g1,g2,g3,g4,g5,g6,g7,g8,g9,g10⟩:=hh.blk b _ h2
   have hl:=h4.len
   cases hv with
   | rf hr' q0 q1 q2 q3 =>
    rename_i c r'
    rw [g1] at hr'
    injection hr' with hr'
    subst hr'
    have hul:us.length=es.length:=g9.len
    refine .sl (us:=us) (by simp) (by simp; omega) (by omega) (by omega) (fun _=>⟨⟨r.c,0 * r.k,none⟩,rfl,rfl,.inr ⟨b,by simp,r,g1,rfl⟩,fun i u hu=>?_⟩) (fun i x u hx hu=>?_)
    ·obtain ⟨k1,k2,k3⟩:=g10 i u hu
     refine ⟨k1,k2,fun j q hq=>?_⟩
     have:=k3 j q hq
     rw [Nat.zero_mul,Nat.zero_add]
     simp only [World.cell?,g3]
     simpa using this
    ·rw [List.getElem?_map] at hx
     obtain ⟨y,hy,rfl⟩:=Option.map_eq_some_iff.1 hx
     obtain ⟨e,Fi,k1,k2,k3⟩:=h4.get hy
     have hvi:=g9.at_ i e u k1 hu
     exact (o.vr hh k2 hvi).mono (fun _ _=>rfl) (fun c hc=>hc.imp_right fun ⟨b',hb',hr⟩=>⟨b',List.mem_cons_of_mem _ (k3 b' hb'),hr⟩) (fun _ _ h=>h)
/-- What may be laid in a cell of k cells. -/
def Fit {α:Type}(o:Oc α) (k:Nat):Prop:=∀ (h:Hp) (e:AV) (x:α) (F:List Nat),o.at_ h e x F->e.nc=k/\e.notTp=true/\elm e.cel=e
theorem Lm (e:AV):e.cel.length=e.nc:=by cases e <;> rfl
theorem JW {α:Type}{c:Cd α}{k:Nat}(h:∀ x,(c.enc x).nc=k/\(c.enc x).notTp=true/\elm (c.enc x).cel=c.enc x):Fit (ocV c) k:=fun _ e x _ hx=>by
 rw [hx.1]; exact h x
theorem Mj {α:Type}{o:Oc α}{k:Nat}{t:TypeId}:Fit (ocL k t o) 1:=fun h e x F hx=>by
 rcases hx with ⟨rfl,_,_⟩ | ⟨b,es,F',rfl,_⟩
 ·exact ⟨rfl,rfl,rfl⟩
 ·exact ⟨rfl,rfl,rfl⟩
theorem All3.fit {α:Type}{o:Oc α}{k:Nat}(hf:Fit o k){h:Hp}:∀ {es:List AV}{xs:List α}{F:List Nat},All3 (o.at_ h) es xs F->∀ e ∈ es,e.nc=k/\e.notTp=true/\elm e.cel=e
 | [],[],_,_,e,he=>by cases he
 | _::_,_::_,_,⟨F1,F2,_,h1,h2⟩,e,he=>by
  rcases List.mem_cons.1 he with rfl | he
  ·exact hf _ _ _ _ h1
  ·exact h2.fit hf e he
 | [],_::_,_,h,_,_=>h.elim
 | _::_,[],_,h,_,_=>h.elim
/-- .. of which one element is held elsewhere. -/
def NU {α:Type}(k:Nat) (t:TypeId) (o:Oc α) (e:AV) (xs:List α) (j:Nat) (e':AV) (x0:α):Asn where
 at_ h F:=∃ b es F',e = .rf b 0 xs.length xs.length/\h[b]? = some (some ⟨k,t,es,false⟩)/\F=b::F'/\All3h (o.at_ h) j e' es xs F'/\(e'.nc=k/\elm e'.cel=e')/\xs[j]? = some x0
 loc:=fun {h h' F} ⟨b,es,F',h1,h2,h3,h4,h5⟩ k=>by
  subst h3
  exact ⟨b,es,F',h1,(k b (by simp)).trans h2,rfl,h4.mono fun e x G hG h5=>o.loc h5 fun c hc=>k c (List.mem_cons_of_mem _ (hG c hc)),h5⟩
 own:=fun {h F b} ⟨b',es,F',h1,h2,h3,h4,_⟩ hb=>by
  subst h3
  rcases List.mem_cons.1 hb with rfl | hb
  ·exact ⟨_,h2,rfl⟩
  ·obtain ⟨e,x,G,k1,k2⟩:=h4.mem hb
   exact o.own k1 k2
/-- The address of an element. -/
def eAt:AV->Nat->AV
 | .rf b lo _ _,i=> .pt b (lo + i) 0
 | x,_=>x
def Nn:AV->Nat->AV
 | .pt b i o,n=> .pt b i (o + n)
 | x,_=>x
section
variable {α:Type}{o:Oc α}{k j:Nat}{t:TypeId}{e e':AV}{xs:List α}{x y:α}{h:Hp}{L:List Asn}{c:Cd α}
theorem T.e0 {k:Nat}{ty:TypeId}(t:T h L):T h (own_ (ocL k ty o) .e0 []::L):=t.add (F:=[]) (.inl ⟨rfl,rfl,rfl⟩) List.nodup_nil (fun _ _=>rfl) (fun _ h=>by cases h)
/-- An element is held apart. -/
theorem T.focus (hf:Fit o k) (ht:T h (own_ (ocL k t o) e xs::L)) (hx:xs[j]? = some x):∃ e',T h (own_ o e' x::NU k t o e xs j e' x::L):=by
 obtain ⟨F,⟨F1,F2,rfl,p,q⟩,hn⟩:=ht
 rcases p with ⟨_,rfl,_⟩ | ⟨b,es,F',h1,h2,rfl,h4⟩
 ·simp at hx
 ·obtain ⟨e',Fi,F'',k1,k2,k3,k4⟩:=h4.hole hx
  refine ⟨e',Fi++((b::F'')++F2),⟨Fi,_,rfl,k2,_,F2,rfl,⟨b,es,F'',h1,h2,rfl,k3,⟨(hf _ _ _ _ k2).1,(hf _ _ _ _ k2).2.2⟩,hx⟩,q⟩,?_⟩
  refine List.Perm.nodup_iff (?_:List.Perm _ ((b::F')++F2)) |>.2 hn
  rw [<-List.append_assoc]
  refine List.Perm.append_right _ ?_
  exact List.perm_middle.trans (List.Perm.cons _ k4)
theorem T.merge (ht:T h (own_ o e' y::NU k t o e xs j e' x::L)):T h (own_ (ocL k t o) e (xs.set j y)::L):=by
 obtain ⟨F,⟨F1,F2,rfl,p,⟨G1,G2,rfl,⟨b,es,F',h1,h2,rfl,h4,_,_⟩,r⟩⟩,hn⟩:=ht
 obtain ⟨F'',k1,k2⟩:=h4.fill p
 obtain ⟨a1,a2,a3⟩:=h4.at_
 have hset:es.set j e'=es:=by
  apply List.ext_getElem?
  intro i
  rw [List.getElem?_set]
  split
  ·next hij=>subst hij; rw [if_pos (by omega)]; exact a1.symm
  ·rfl
 rw [hset] at k1
 refine ⟨(b::F'')++G2,⟨b::F'',G2,rfl,.inr ⟨b,es,F'',by rw [h1]; simp,h2,rfl,k1⟩,r⟩,?_⟩
 refine List.Perm.nodup_iff (?_:List.Perm _ (F1++(b::F'++G2))) |>.2 hn
 rw [<-List.append_assoc]
 refine List.Perm.append_right _ ?_
 exact (List.Perm.cons b k2).trans List.perm_middle.symm
end
section
variable {P:Program}{α:Type}{o:Oc α}{k j m off:Nat}{t ty ty2 el:TypeId}{e e' y:AV}{xs ys vs:List α}{x v v':α}{h:Hp}{L:List Asn}{c:Cd α}{i:Int}{ki:IntKind}{g:Bool}
theorem Ng (ht:T h (own_ (ocL k t o) e xs::L)) (hu:P.underlying ty=some (.slice el)):Fj P ty e=some (eI xs.length):=by
 obtain ⟨F,p,_⟩:=ht.act
 rcases p with ⟨rfl,rfl,_⟩ | ⟨b,es,F',rfl,_⟩
 ·simp [Fj,hu,eI]
 ·simp [Fj,hu,eI]
theorem OH (ht:T h (own_ (ocL k t o) e xs::L)) (hu:P.underlying ty=some (.slice el)) (hs:Az P el=some k) (hv:idx xs i=some v):A6 P h ty e (.v (.int ki i))=some (eAt e i.toNat):=by
 obtain ⟨F,p,_⟩:=ht.act
 obtain ⟨h0,h1⟩:=EB hv
 rcases p with ⟨rfl,rfl,_⟩ | ⟨b,es,F',rfl,h2,_⟩
 ·simp at h1
 ·rw [NX hu hs h2 rfl h0 (List.getElem?_eq_some_iff.1 h1).1]
  simp [eAt]
theorem NW (ht:T h (NU k t o e xs j e' x::L)) (hu:P.underlying ty=some (.slice el)) (hs:Az P el=some k) (hv:idx xs i=some v):A6 P h ty e (.v (.int ki i))=some (eAt e i.toNat):=by
 obtain ⟨F,p,_⟩:=ht.act
 obtain ⟨h0,h1⟩:=EB hv
 obtain ⟨b,es,F',rfl,h2,_⟩:=p
 rw [NX hu hs h2 rfl h0 (List.getElem?_eq_some_iff.1 h1).1]
 simp [eAt]
theorem OJ {n:Nat}(ht:T h (own_ (ocL k t (ocV c)) e xs::L)) (hv:xs[n]? = some v) (hm:Az P ty=some m) (hg:Jn P ty=some g) (he:ND (c.enc v) off m g=some y):DP P h ty (Nn (eAt e n) off)=some y:=by
 obtain ⟨F,p,_⟩:=ht.act
 rcases p with ⟨rfl,rfl,_⟩ | ⟨b,es,F',rfl,h2,_,h4⟩
 ·simp at hv
 ·obtain ⟨rfl,_⟩:=h4.leaf_inv
  simp [DP,hm,hg,eAt,Nn,h2,hv,he]
theorem No (e:AV) (n:Nat):Nn (eAt e n) 0=eAt e n:=by cases e <;> rfl
theorem Nd {n:Nat}(ht:T h (own_ (ocL k t (ocV c)) e xs::L)) (hv:xs[n]? = some v) (hm:Az P ty=some m) (hg:Jn P ty=some g) (he:ND (c.enc v) 0 m g=some y):DP P h ty (eAt e n)=some y:=by
 have:=OJ (off:=0) ht hv hm hg he
 rwa [No] at this
theorem OV {n:Nat}(ht:T h (own_ (ocL k t (ocV c)) e xs::L)) (hv:xs[n]? = some v) (hs:Az P ty=some y.nc) (hn:y.notTp=true) (he:Nq (c.enc v) off y=some (c.enc v')):∃ h',DF P h ty (Nn (eAt e n) off) y=some h'/\T h' (own_ (ocL k t (ocV c)) e (xs.set n v')::L):=by
 obtain ⟨F,p,hn',hk,_⟩:=ht.act
 rcases p with ⟨rfl,rfl,_⟩ | ⟨b,es,F',rfl,h2,rfl,h4⟩
 ·simp at hv
 ·obtain ⟨rfl,rfl⟩:=h4.leaf_inv
  have hb:=Fp h2
  refine ⟨h.set b (some ⟨k,t,(xs.set n v').map c.enc,false⟩),by simp [DF,eAt,Nn,h2,hv,hs,hn,he],hk _ _ [b] (.inr ⟨b,(xs.set n v').map c.enc,[],by simp,by simp [hb],rfl,GJ⟩) (by simp) (fun b' hb' _=>?_) (fun b' hb'=> .inl hb')⟩
  rw [List.getElem?_set,if_neg (by intro e; subst e; simp at hb')]
theorem MR {n:Nat}(ht:T h (own_ (ocL k t (ocV c)) e xs::L)) (hv:xs[n]? = some v) (hs:Az P ty=some y.nc) (hn:y.notTp=true) (he:Nq (c.enc v) 0 y=some (c.enc v')):∃ h',DF P h ty (eAt e n) y=some h'/\T h' (own_ (ocL k t (ocV c)) e (xs.set n v')::L):=by
 have:=OV (off:=0) ht hv hs hn he
 rwa [No] at this
/-- An element that is an own slice itself. -/
theorem Ix {n:Nat}{k':Nat}{t':TypeId}{β:Type}{o:Oc β}{xs:List (List β)}{x:List β}(ht:T h (own_ (ocL 1 t (ocL k' t' o)) e xs::L)) (hv:xs[n]? = some x) (hm:Az P ty=some 1) (hg:Jn P ty=some false):∃ e',DP P h ty (eAt e n)=some e'/\T h (own_ (ocL k' t' o) e' x::NU 1 t (ocL k' t' o) e xs n e' x::L):=by
 obtain ⟨e',ht'⟩:=ht.focus Mj hv
 refine ⟨e',?_,ht'⟩
 obtain ⟨F,p,_⟩:=ht'.act
 have hc:e'.cel=[e']:=by
  rcases p with ⟨rfl,_⟩ | ⟨b,es,F',rfl,_⟩ <;> rfl
 obtain ⟨F2,q,_⟩:=(T.drop ht').act
 obtain ⟨b,es,F',rfl,h2,_,h4,_⟩:=q
 obtain ⟨a1,_,_⟩:=h4.at_
 simp [DP,hm,hg,eAt,h2,a1,ND,hc]
/-- An own value is laid into a hole of another. -/
theorem Nt {n:Nat}{x0:α}(hf:Fit o k) (ht:T h (NU k t o e xs n e' x0::own_ o y x::L)) (hm:Az P ty=some k):∃ h',DF P h ty (eAt e n) y=some h'/\T h' (own_ (ocL k t o) e (xs.set n x)::L):=by
 obtain ⟨F,p,hn',hk,_⟩:=(T.join.1 ht).act
 obtain ⟨F1,F2,rfl,⟨b,es,F',rfl,h2,rfl,h4,⟨h5,h6⟩,_⟩,q⟩:=p
 obtain ⟨a1,a2,a3⟩:=h4.at_
 have hb:=Fp h2
 obtain ⟨F'',k1,k2⟩:=h4.fill q
 obtain ⟨y1,y2,y3⟩:=hf _ _ _ _ q
 have hs:Nq e' 0 y=some y:=by
  unfold Nq
  have l1:=Lm e'
  have l2:=Lm y
  rw [if_pos (by omega),List.drop_eq_nil_of_le (by omega)]
  simpa using y3
 have hbn:b ∉ F'':=fun hb'=>by
  have:=k2.mem_iff.1 hb'
  rcases List.mem_append.1 this with h1 | h1
  ·exact (Cv.1 hn').2.2 b (by simp) h1
  ·exact (List.nodup_cons.1 (Cv.1 hn').1).1 h1
 have same:∀ c,c≠b->(h.set b (some ⟨k,t,es.set n y,false⟩))[c]? = h[c]?:=fun c hc=>by rw [List.getElem?_set,if_neg (Ne.symm hc)]
 refine ⟨h.set b (some ⟨k,t,es.set n y,false⟩),by simp [DF,eAt,h2,a1,hm,y1,y2,hs],hk _ _ (b::F'') (.inr ⟨b,es.set n y,F'',by simp,by simp [hb],rfl,k1.mono fun e x G hG h5=>o.loc h5 fun c hc=>same c fun e=>hbn (e ▸ hG c hc)⟩) (List.nodup_cons.2 ⟨hbn,k2.nodup_iff.2 ?_⟩) (fun c hc _=>same c fun e=>hc (by subst e; simp)) (fun c hc=> .inl ?_)⟩
 ·obtain ⟨n1,n2,n3⟩:=Cv.1 hn'
  exact Cv.2 ⟨n2,(List.nodup_cons.1 n1).2,fun a ha ha2=>n3 a (List.mem_cons_of_mem _ ha2) ha⟩
 ·rcases List.mem_cons.1 hc with rfl | hc
  ·simp
  ·rcases List.mem_append.1 (k2.mem_iff.1 hc) with h1 | h1
   ·exact List.mem_append_right _ h1
   ·exact List.mem_append_left _ (List.mem_cons_of_mem _ h1)
/-- Loose elements. -/
def els {α:Type}(o:Oc α) (es:List AV) (xs:List α):Asn where
 at_ h F:=All3 (o.at_ h) es xs F
 loc:=fun h k=>h.mono fun _e _x _G hG h5=>o.loc h5 fun c hc=>k c (hG c hc)
 own:=fun h hb=>let ⟨_,_,_,q1,q2⟩:=h.mem hb; o.own q1 q2
theorem Ls (ht:T h L):T h (els o [] []::L):=ht.add (F:=[]) rfl List.nodup_nil (fun _ _=>rfl) (fun _ h=>by cases h)
theorem Kg {es:List AV}(ht:T h (own_ o e x::els o es xs::L)):T h (els o (e::es) (x::xs)::L):=by
 obtain ⟨F,p,hn',hk,_⟩:=(T.join.1 ht).act
 obtain ⟨F1,F2,rfl,p,q⟩:=p
 exact hk h _ (F1++F2) ⟨F1,F2,rfl,p,q⟩ hn' (fun _ _ _=>rfl) (fun b hb=> .inl hb)
theorem D8 (ht:T h L):T h (els (ocV c) (xs.map c.enc) xs::L):=ht.add (F:=[]) GJ List.nodup_nil (fun _ _=>rfl) (fun _ h=>by cases h)
/-- The elements of an own slice. -/
theorem NO (ht:T h (own_ (ocL k t o) y ys::L)) (hu:P.underlying ty2=some (.slice el)):∃ ey,T h (els o ey ys::L)/\Gc h k y=some ey/\GD P ty2 y=true:=by
 obtain ⟨F,p,hn,hk,_⟩:=ht.act
 rcases p with ⟨rfl,rfl,rfl⟩ | ⟨b,es,F',rfl,h2,rfl,h4⟩
 ·exact ⟨[],hk h _ [] rfl List.nodup_nil (fun _ _ _=>rfl) (fun _ h=>by cases h),by simp [Gc],by simp [GD,hu]⟩
 ·refine ⟨es,hk h _ F' h4 (List.nodup_cons.1 hn).2 (fun _ _ _=>rfl) (fun b hb=> .inl (List.mem_cons_of_mem _ hb)),?_,by simp [GD,hu]⟩
  have hl:=h4.len
  simp [Gc,h2,<-hl]
/-- A growing own slice takes elements. -/
theorem NK {bytes:Nat}{i:TypeInfo}{z:AV}{ey:List AV}(ht:T h (own_ (ocL k t o) e xs::els o ey ys::L)) (hsy:GD P ty2 y=true) (hel:Gc h k y=some ey) (hte:C5 P ty=some t) (hi:P.info? t=some i) (hz:C6 P t=some z) (hk:i.size=k) (h0:Nat.blt 0 k=true) (hzn:z.nc=k) (hzt:z.notTp=true) (hib:i.bytes=bytes) (hc:CK bytes (xs.length + ys.length)=true) :
  ∃ e' h',By P h ty ty2 e y=some (e',h')/\T h' (own_ (ocL k t o) e' (xs++ys)::L):=by
 subst hib hk
 obtain ⟨F,p,hn',hk,hk0⟩:=(T.join.1 ht).act
 obtain ⟨F1,Fy,rfl,px,hy4⟩:=p
 obtain ⟨n1,n2,n3⟩:=Cv.1 hn'
 obtain ⟨c1,c2⟩:=JP hc
 have h0':0 < i.size:=Nat.le_of_ble_eq_true h0
 have hly:ey.length=ys.length:=All3.len hy4
 have hlt:∀ c,c ∈ F1++Fy->c < h.length:=fun c hc=>by
  rcases List.mem_append.1 hc with hc | hc
  ·obtain ⟨B,q,_⟩:=(ocL i.size t o).own px hc
   exact Fp q
  ·obtain ⟨B,q,_⟩:=(els o ey ys).own hy4 hc
   exact Fp q
 cases hey:ey with
 | nil =>
  subst hey
  have:ys=[]:=by cases ys with | nil=>rfl | cons a b=>simp at hly
  subst this
  refine ⟨e,h,?_,?_⟩
  ·rcases px with ⟨rfl,_⟩ | ⟨b,es,F',rfl,_⟩ <;> simp [By,hsy,hte,hi,hz,hel]
  ·rw [List.append_nil]
   exact hk h _ F1 px n1 (fun _ _ _=>rfl) (fun b hb=> .inl (List.mem_append_left _ hb))
 | cons a r =>
  have he:ey.isEmpty=false:=by rw [hey]; rfl
  have hne:0 < ys.length:=by rw [<-hly,hey]; simp
  rcases px with ⟨rfl,rfl,rfl⟩ | ⟨bx,ex,Fx,rfl,hx2,rfl,hx4⟩
  ·have hc1:ey.length * i.bytes<=140737488355328/\ey.length<=140737488355328:=by
    rw [hly]; simp at c1 c2; exact ⟨c1,c2⟩
   refine ⟨.rf h.length 0 ys.length ys.length,h++[some ⟨i.size,t,ey,false⟩],?_,hk _ _ (h.length::Fy) (.inr ⟨h.length,ey,Fy,rfl,by simp,rfl,hy4.mono fun e x G hG h5=>o.loc h5 fun c hc=>List.getElem?_append_left (hlt c (List.mem_append_right _ (hG c hc)))⟩) (List.nodup_cons.2 ⟨fun hb=>by have:=hlt _ (List.mem_append_right _ hb); omega,n2⟩) (fun c _ hc=>List.getElem?_append_left hc) (fun c hc=>?_)⟩
   ·simp only [By,hsy,hte,hi,hz,hel,he]
    rw [if_neg (by simp),if_neg (by simp),if_pos ⟨h0',hzn,hzt⟩,if_pos hc1,hly]
   ·rcases List.mem_cons.1 hc with rfl | hc
    ·exact .inr (Nat.le_refl _)
    ·exact .inl (List.mem_append_right _ hc)
  ·have hlx:ex.length=xs.length:=hx4.len
   have hbx:=Fp hx2
   have hbx':bx ∉ Fx:=(List.nodup_cons.1 n1).1
   have hby':bx ∉ Fy:=n3 bx (by simp)
   have same:∀ c,c≠bx->c < h.length->((h.set bx none)++[some ⟨i.size,t,ex++ey,false⟩])[c]? = h[c]?:=fun c hc hlt=>by
    rw [List.getElem?_append_left (by simpa using hlt),List.getElem?_set,if_neg (Ne.symm hc)]
   refine ⟨.rf h.length 0 (xs++ys).length (xs++ys).length,(h.set bx none)++[some ⟨i.size,t,ex++ey,false⟩],?_,hk _ _ (h.length::(Fx++Fy)) (.inr ⟨h.length,ex++ey,Fx++Fy,rfl,?_,rfl,All3.append (hx4.mono fun e x G hG h5=>o.loc h5 fun c hc=>same c (fun e=>hbx' (e ▸ hG c hc)) (hlt c (List.mem_append_left _ (List.mem_cons_of_mem _ (hG c hc))))) (hy4.mono fun e x G hG h5=>o.loc h5 fun c hc=>same c (fun e=>hby' (e ▸ hG c hc)) (hlt c (List.mem_append_right _ (hG c hc))))⟩) (List.nodup_cons.2 ⟨fun hb=>?_,?_⟩) (fun c hc hlt=>same c (fun e=>hc (by subst e; simp)) hlt) (fun c hc=>?_)⟩
   ·simp only [By,hsy,hte,hi,hz,hel,he,hx2]
    rw [if_neg (by simp),if_neg (by simp),if_pos ⟨h0',hzn,hzt⟩,if_neg (by simp),if_neg (by omega),if_pos ⟨trivial,hlx.symm,by rw [hly]; exact c1,by rw [hly]; exact c2⟩]
    simp [hly]
   ·rw [List.getElem?_append_right (by simp)]; simp
   ·have:h.length < h.length:=hlt _ (by
     rcases List.mem_append.1 hb with hb | hb
     ·exact List.mem_append_left _ (List.mem_cons_of_mem _ hb)
     ·exact List.mem_append_right _ hb)
    omega
   ·exact Cv.2 ⟨(List.nodup_cons.1 n1).2,n2,fun a ha ha2=>n3 a (List.mem_cons_of_mem _ ha) ha2⟩
   ·rcases List.mem_cons.1 hc with rfl | hc
    ·exact .inr (Nat.le_refl _)
    ·rcases List.mem_append.1 hc with h1 | h1
     ·exact .inl (List.mem_append_left _ (List.mem_cons_of_mem _ h1))
     ·exact .inl (List.mem_append_right _ h1)
theorem NL {bytes:Nat}{i:TypeInfo}{z:AV}(ht:T h (own_ (ocL k t o) e xs::own_ (ocL k t o) y ys::L)) (hu:P.underlying ty2=some (.slice el)) (hte:C5 P ty=some t) (hi:P.info? t=some i) (hz:C6 P t=some z) (hk:i.size=k) (h0:Nat.blt 0 k=true) (hzn:z.nc=k) (hzt:z.notTp=true) (hib:i.bytes=bytes) (hc:CK bytes (xs.length + ys.length)=true) :
  ∃ e' h',By P h ty ty2 e y=some (e',h')/\T h' (own_ (ocL k t o) e' (xs++ys)::L):=by
 obtain ⟨ey,h1,h2,h3⟩:=NO (ht.front 1 rfl) hu
 exact NK (h1.front 1 rfl) h3 h2 hte hi hz hk h0 hzn hzt hib hc
/-- A block of elements. -/
theorem MD {es:List AV}{n:Nat}(ht:T h (els o es xs::L)) (hn:xs.length=n):T (h++[some ⟨k,t,es,false⟩]) (own_ (ocL k t o) (.rf h.length 0 n n) xs::L):=by
 obtain ⟨F,p,hn',hk,_⟩:=ht.act
 have hlt:∀ c,c ∈ F->c < h.length:=fun c hc=>by
  obtain ⟨B,q,_⟩:=(els o es xs).own p hc
  exact Fp q
 refine hk _ _ (h.length::F) (.inr ⟨h.length,es,F,by rw [hn],by simp,rfl,All3.mono p fun e x G hG h5=>o.loc h5 fun c hc=>List.getElem?_append_left (hlt c (hG c hc))⟩) (List.nodup_cons.2 ⟨fun hb=>by have:=hlt _ hb; omega,hn'⟩) (fun c _ hc=>List.getElem?_append_left hc) (fun c hc=>?_)
 rcases List.mem_cons.1 hc with rfl | hc
 ·exact .inr (Nat.le_refl _)
 ·exact .inl hc
def Fh (i:Nat):List AV->List (Nat×AV)
 | []=>[]
 | e::r=>(i,e)::Fh (i + 1) r
theorem JV {z:AV}(hz:z.nc=k):∀ {es pre:List AV},(∀ e ∈ es,e.nc=k/\e.notTp=true/\elm e.cel=e)->Ir (pre++List.replicate es.length z) k (Fh pre.length es)=some (pre++es)
 | [],pre,_=>by simp [Fh,Ir]
 | e::r,pre,hf=>by
  obtain ⟨h1,h2,h3⟩:=hf e (by simp)
  have:=JV hz (es:=r) (pre:=pre++[e]) (fun e' he=>hf e' (by simp [he]))
  simp only [Fh,Ir,List.length_cons,List.replicate_succ]
  rw [if_pos ⟨by simp,h1,h2⟩,h3]
  have e1:(pre++z::List.replicate r.length z).set pre.length e=(pre++[e])++List.replicate r.length z:=by simp
  rw [e1]
  simpa using this
theorem Nh {i:TypeInfo}{z:AV}{es:List AV}{n:Nat}(hf:Fit o k) (ht:T h (els o es xs::L)) (hn:es.length=n) (hte:C5 P ty=some t) (hi:P.info? t=some i) (hz:C6 P t=some z) (hk:i.size=k) (h0:Nat.blt 0 k=true) (hb:Nat.ble (n * k) 65536=true) (hzn:z.nc=k) (hzt:z.notTp=true) (hze:elm z.cel=z) :
  ∃ e' h',Iq P h ty n (Fh 0 es)=some (e',h')/\T h' (own_ (ocL k t o) e' xs::L):=by
 obtain ⟨F,p,_⟩:=ht.act
 have hl:es.length=xs.length:=All3.len p
 have:=JV hzn (es:=es) (pre:=[]) (All3.fit hf p)
 subst hn
 simp only [List.nil_append,List.length_nil] at this
 refine ⟨_,_,?_,MD ht hl.symm⟩
 simp only [Iq,hte,hi,hz,hk,hze]
 rw [if_pos ⟨Nat.le_of_ble_eq_true hb,Nat.le_of_ble_eq_true h0,hzn,hzt⟩,this]
theorem Mr {i:TypeInfo}{z:AV}{bytes:Nat}{n:Int}{kn kc:IntKind}{x0:α}(ht:T h L) (hx:∀ h,o.at_ h z x0 []) (hte:C5 P ty=some t) (hi:P.info? t=some i) (hz:C6 P t=some z) (hk:i.size=k) (hzn:z.nc=k) (hzt:z.notTp=true) (hib:i.bytes=bytes) (hc:LM bytes n=true) :
  ∃ e' h',E1 P h ty (.v (.int kn n)) (.v (.int kc n))=some (e',h')/\T h' (own_ (ocL k t o) e' (List.replicate n.toNat x0)::L):=by
 simp only [LM,Bool.and_eq_true,decide_eq_true_eq] at hc
 subst hk hib
 have ha:∀ m,All3 (o.at_ h) (List.replicate m z) (List.replicate m x0) []:=fun m=>by
  induction m with
  | zero=>exact rfl
  | succ m ih=>exact ⟨[],[],rfl,hx h,ih⟩
 have ht':T h (els o (List.replicate n.toNat z) (List.replicate n.toNat x0)::L):=ht.add (F:=[]) (ha _) List.nodup_nil (fun _ _=>rfl) (fun _ h=>by cases h)
 refine ⟨_,_,?_,MD ht' (List.length_replicate)⟩
 simp only [E1,hte,FJ,hi,hz]
 rw [if_pos ⟨trivial,hc.1.1,hc.1.2,hc.2,hzn,hzt⟩]
end
/-- What is own is written no more: it is a value as others. -/
def KB (F:List Nat) (h:Hp):Hp:=h.mapIdx fun i B=>if i ∈ F then none else B
theorem GU {F:List Nat}{h:Hp}{b:Nat}{B:Blk}:(KB F h)[b]? = some (some B)↔b ∉ F/\h[b]? = some (some B):=by
 simp only [KB,List.getElem?_mapIdx]
 constructor
 ·intro hh
  obtain ⟨o,h1,h2⟩:=Option.map_eq_some_iff.1 hh
  split at h2
  ·cases h2
  ·next hb=>exact ⟨hb,by rw [h1,h2]⟩
 ·rintro ⟨h1,h2⟩
  rw [h2]; simp [h1]
theorem LG {F:List Nat}{h:Hp}{b:Nat}(hb:b ∉ F):(KB F h)[b]? = h[b]?:=by
 simp only [KB,List.getElem?_mapIdx]
 cases h[b]? <;> simp [hb]
section
variable {E:Env}{n:Nat}{l l':List (Nat×AV)}{hp:Hp}{α:Type}{o:Oc α}{e:AV}{x:α}{L:List Asn}
/-- Slots that stay, and slots that turn. -/
def LkT (l:List (Nat×AV)) (e y:AV):List (Nat×AV)->Prop
 | []=>True
 | (t,z)::r=>(lk l t=some z\/(lk l t=some e/\z=y))/\LkT l e y r
theorem LkT.at_ {e y:AV}:∀ {l':List (Nat×AV)},LkT l e y l'->∀ t z,lk l' t=some z->lk l t=some z\/(lk l t=some e/\z=y)
 | [],_,t,z,h=>by cases h
 | (k,z0)::r,⟨h1,h2⟩,t,z,h=>by
  rw [Dv] at h
  split at h
  ·next hk=>injection h with h; subst hk h; exact h1
  ·exact h2.at_ t z h
/-- Values as a call sees them. -/
def SeeV (hp:Hp) (x y:AV):Prop:=∀ (w:World) (Z:Nat->Prop) (R:List RI) (u:Value),HR w Z R hp->VR w Z R x u->VR w (fun c=>Z c\/own R hp c) [] y u
def Sees (hp:Hp) (xs ys:List AV):Prop:=∀ (w:World) (Z:Nat->Prop) (R:List RI) (us:List Value),HR w Z R hp->VRs w Z R xs us->VRs w (fun c=>Z c\/own R hp c) [] ys us
theorem Sees.nil:Sees hp [] []:=fun w Z R us _ h=>by
 have:us=[]:=by have:=h.len; simpa using this
 subst this
 exact .nil
theorem Sees.cons {x y:AV}{xs ys:List AV}(h:SeeV hp x y) (hs:Sees hp xs ys):Sees hp (x::xs) (y::ys):=fun w Z R us hh hv=>by
 obtain ⟨u,us',rfl,hu,hn⟩:=hv.head
 exact .cons (h w Z R u hh hu) (hs w Z R us' hh hn)
theorem SeeV.id {x:AV}(hx:Bn x=true):SeeV hp x x:=fun _w _Z _R _u _ hv=>(Fe hx hv).mono (fun _ _=>rfl) (fun _ h=> .inl h) (fun _ _ h=>h)
theorem SeeV.enc {c:Cd α}:SeeV hp (c.enc x) (c.enc x):= .id (c.nr x)
theorem SeeV.own {i:Nat}(ht:T hp L) (hi:L[i]? = some (own_ o e x)):SeeV hp e (o.cd.enc x):=fun w Z R u hh hv=>by
 obtain ⟨F,p,_⟩:=(ht.front i hi).act
 refine (o.vr hh p hv).mono (fun _ _=>rfl) (fun c hc=>hc.imp_right fun ⟨b,hb,r,hr,hc⟩=>?_) (fun _ _ h=>h)
 obtain ⟨B,k1,k2⟩:=o.own p hb
 exact ⟨b,B,r,k1,k2,hr,hc.symm⟩
theorem SeeV.ag {cs cs':List AV}(hs:Sees hp cs cs'):SeeV hp (.ag cs) (.ag cs'):=fun w Z R u hh hv=>by
 cases hv with
 | ag hl h1 hx =>
  have:=hs w Z R _ hh ⟨hl,hx⟩
  exact .ag this.len h1 this.at_
end
/-- The operations that are left, one by one, in the caller's blocks. -/
def RunL (E:Env) (cx:Cx) (ops:Array Oper) (rest:List Oper) (s:St) (K:St->Prop):Prop :=
 ∀ (ro:Option Nat) (base:Bs) (Q:Act->World->Prop) (a:Act) (w:World) (Z:Nat->Prop) (R:List RI),(cx.inR=false->ro=none)->SR E base w Z R s a->YI cx w Z R s.hp ->
  (∀ s' a' w' Z' R',K s'->SR E base w' Z' R' s' a'->Step w Z R s.hp w' Z' R' s'.hp->Q a' w')->LwL E.P ops Q rest a w
section
variable {E:Env}{cx:Cx}{ops:Array Oper}{pre rest rest':List Oper}{s s1:St}{K:St->Prop}{n m:Nat}{l l':List (Nat×AV)}{hp hp':Hp}{Q:Ex->St->Prop}{id:Nat}
theorem BV (hr:rest=[]) (k:K s):RunL E cx ops rest s K:=by
 subst hr
 exact fun ro base Q a w Z R _ sr _ q=>q s a w Z R k sr (Step.refl _ _ _ _)
theorem RunL.mono {K':St->Prop}(h:RunL E cx ops rest s K) (k:∀ s,K s->K' s):RunL E cx ops rest s K':=fun ro base Q a w Z R h1 h2 h3 q=>h ro base Q a w Z R h1 h2 h3 fun s' a' w' Z' R' hK=>q s' a' w' Z' R' (k s' hK)
theorem HN (hE:EnvOk E) (n:Nat):∀ {pre:List Oper}{s:St},EE E (evC E n) ⟨none,false⟩ ops pre s=some s1->RunL E cx ops rest s1 K->RunL E cx ops (pre++rest) s K
 | [],s,e,k=>by injection e with e; subst e; exact k
 | o::pre,s,e,kk=>by
  intro ro base Q a w Z R hro sr hy q
  unfold EE at e
  split at e
  ·cases e
  ·next hw=>exact lwl_no (wantedA_eq sr hw) (HN hE n e kk ro base Q _ w Z R hro (sr.put undef_vr) hy q)
  ·next hw =>
   split at e
   ·next s2 hs2=>exact lwl_op1 hE (code_sound hE n).1 hs2 sr (wantedA_eq sr hw) fun a' w' Z' R' sr' st=>HN hE n e kk ro base Q a' w' Z' R' hro sr' (hy.step sr.hh st) fun s'' a'' w'' Z'' R'' hK sr'' st'=>q s'' a'' w'' Z'' R'' hK sr'' (st.trans st')
   ·cases e
theorem KZ (hE:EnvOk E) (m:Nat) (h:EE E (evC E 0) ⟨none,false⟩ ops (rest.take m) s=some s1) (k:RunL E cx ops (rest.drop m) s1 K):RunL E cx ops rest s K:=by
 have:=HN hE 0 h k
 rwa [List.take_append_drop] at this
theorem Le (hE:EnvOk E) (m:Nat){s:St}(l:List (Nat×AV)) (hp:Hp) (h:MP (EE E (evC E 0) ⟨none,false⟩ ops (rest.take m) s) l=some (n,xs2 l,hp)) (k:RunL E cx ops (rest.drop m) ⟨Fr n l,hp⟩ K):RunL E cx ops rest s K:=by
 obtain ⟨fr,h1,h2,h3⟩:=I8 h
 refine KZ hE m h1 ?_
 exact fun ro base Q a w Z R hro sr hy q=>k ro base Q a w Z R hro (sr.forget h2 h3) hy q
theorem AS (hE:EnvOk E) (n:Nat){o:Oper}(hr:rest=o::rest') (h:EE E (evC E n) ⟨none,false⟩ ops [o] s=some s1) (k:RunL E cx ops rest' s1 K):RunL E cx ops rest s K:=by
 subst hr
 exact HN hE n (pre:=[o]) h k
theorem RunL.store (hE:EnvOk E){t:TypeId}{p q:Operand}{y z:AV}{ty:TypeId}{pos:String}{af:Array Edge}{g:Option (Nat×Bool)}(hr:rest=⟨none,.store t p q,ty,pos,af,g⟩::rest') (hw:Au ops (Fr n l) ⟨none,.store t p q,ty,pos,af,g⟩=some true) (hp1:opA E (Fr n l) p=some y) (hq1:opA E (Fr n l) q=some z) (h:DF E.P hp t y z=some hp') (k:RunL E cx ops rest' ⟨Fr n l,hp'⟩ K):RunL E cx ops rest ⟨Fr n l,hp⟩ K :=
 AS hE 0 hr (OO hw hp1 hq1 h) k
theorem AF (h:RunL E cx ops ops.toList s fun s'=>Q .normal s'):SemY E cx (.region id ops false) s Q:=by
 intro ro base Qm a w Z R h1 h2 h3 kk
 exact wpIn_region_list (lwl_list ro (h ro base _ a w Z R h1 h2 h3 fun s' a' w' Z' R' hq sr st=>kk .normal s' a' w' Z' R' hq sr st))
end
section
variable {E:Env}{cx:Cx}{ops:Array Oper}{rest rest':List Oper}{K:St->Prop}{n:Nat}{l:List (Nat×AV)}{hp:Hp}
/-- A call that is gone through in the caller's blocks. -/
theorem JM (hP:E.P=E0.P) (hG:E.G=E0.G){e:Env}(he:EnvOk e) (heP:e.P=E0.P) (heG:e.G=E0.G){d:Nat}{f:Operand}{args:Array Operand}{tys:Array TypeId}{ty:TypeId}{pos:String}{af:Array Edge}{g:Option (Nat×Bool)}{fid:FuncId}{caps xs:List AV}{fn:Func}{c:Code}{Out:AV->Hp->Prop}(hr:rest=⟨some d,.call ⟨.value f,args,tys⟩,ty,pos,af,g⟩::rest') (hw:Au ops (Fr n l) ⟨some d,.call ⟨.value f,args,tys⟩,ty,pos,af,g⟩=some true)
  (hf:opA E (Fr n l) f=some (.fn fid [] caps)) (ha:ED (opA E (Fr n l)) args.toList=some xs) (hfn:e.fn fid=some fn) (hc:fn.body=some c) (hle:(xs++caps).length<=fn.ntmps)
  (sem:SemY e ⟨none,false⟩ c ⟨Fr fn.ntmps (BA 0 (xs++caps)),hp⟩ fun x s'=>(x = .normal\/x = .ret)/\∃ ys,EM e.P s'.fr s'.hp fn.results.toList=some ys/\Out (Ea ys) s'.hp)
  (k:∀ x h',Out x h'->RunL E cx ops rest' ⟨Fr n ((d,x)::l),h'⟩ K):RunL E cx ops rest ⟨Fr n l,hp⟩ K:=by
 obtain ⟨P,fns,G,X,I⟩:=E
 obtain ⟨P',fns',G',X',I'⟩:=e
 simp only at hP hG heP heG
 subst hP hG heP heG
 subst hr
 intro ro base Q a w Z R hro sr hy q
 have hρ:∀ o x,opA ⟨E0.P,fns,E0.G,X,I⟩ (Fr n l) o=some x->VR w Z R x (a.eval o):=fun o x e=>opA_vr sr o x e
 refine HU rfl (wantedA_eq sr hw) ?_
 have hvf:=hρ _ _ hf
 generalize hvq:a.eval f=vf at hvf
 cases hvf with
 | fn hl hl' hx hy' =>
  rename_i u1 u2
  have e1:u1=[]:=by simpa using hl
  subst e1
  obtain ⟨hff,hcall,_⟩:=he.fn fid fn hfn
  unfold Lw
  rw [DL (uf:=[]) (uc:=u2) rfl hvq rfl hcall w]
  simp only [List.nil_append]
  have hargs:VRs w Z R (xs++caps) (args.toList.map a.eval++u2):=(opds_vr hρ ha).append ⟨hl',hy'⟩
  refine Ret.mono (I6 he hfn hc hle sem sr.hh hargs sr.gl (fun y hy=>by cases hy)) fun v w' hS=>?_
  obtain ⟨Z',R',x,h',hO,h1,h2,st⟩:=hS
  have sr':=(sr.step h1 st).put (d:=some d) h2
  rw [show II (⟨Fr n l,hp⟩:St).fr (some d) x=Fr n ((d,x)::l) from Br n l d _] at sr'
  exact k x h' hO ro base Q _ w' Z' R' hro sr' (hy.step sr.hh st) fun s' a' w'' Z'' R'' hK sr'' st'=>q s' a' w'' Z'' R'' hK sr'' (st.trans st')
theorem Lf {s s1:St}(hw:WkY E s s1) (h:RunL E cx ops rest s1 K):RunL E cx ops rest s K:=fun ro base Q a w Z R hro sr hy q=>by
 obtain ⟨Z',R',sr',st⟩:=hw base w Z R a sr
 exact h ro base Q a w Z' R' hro sr' (hy.step sr.hh st) fun s' a' w' Z2 R2 hK sr2 st2=>q s' a' w' Z2 R2 hK sr2 (st.trans st2)
/-- What a part did, told by states for each way out. -/
theorem GL {c:Code}{s:St}{Q:Ex->St->Prop}{e0:Ex}{A:St->Prop}(h:SemY E cx c s fun e s'=>e=e0/\∃ s2,A s2/\WkY E s' s2) (q:∀ s2,A s2->Q e0 s2):SemY E cx c s Q:=by
 intro ro base Qm a w Z R h1 h2 h3 k
 refine h ro base Qm a w Z R h1 h2 h3 fun e s' a' w' Z' R' hQ sr st=>?_
 obtain ⟨rfl,s2,hA,hw⟩:=hQ
 obtain ⟨Z2,R2,sr2,st2⟩:=hw base w' Z' R' a' sr
 exact k e s2 a' w' Z2 R2 (q s2 hA) sr2 (st.trans st2)
theorem Cb {c:Code}{s:St}{Q:Ex->St->Prop}{e0:Ex}{A:St->Prop}{m:Nat}(h:SemYN E cx c m s fun e s'=>e=e0/\∃ s2,A s2/\WkY E s' s2) (q:∀ s2,A s2->Q e0 s2):SemYN E cx c m s Q:=by
 intro ro base Qm a w Z R h1 h2 h3 k
 refine h ro base Qm a w Z R h1 h2 h3 fun e s' a' w' Z' R' hQ sr st=>?_
 obtain ⟨rfl,s2,hA,hw⟩:=hQ
 obtain ⟨Z2,R2,sr2,st2⟩:=hw base w' Z' R' a' sr
 exact k e s2 a' w' Z2 R2 (q s2 hA) sr2 (st.trans st2)
theorem Il {c:Code}{s:St}{Q:Ex->St->Prop}(h:SemY E cx c s Q):Sem E cx c s Q :=
 fun ro base Qm a w Z R h1 h2 h3 k=>h ro base Qm a w Z R h1 h2 (fun y hy=>by rw [h3] at hy; cases hy) fun e s' a' w' Z' R' hQ sr st=>k e s' a' w' Z' R' hQ sr st.w
end
def RunDT (E:Env) (cx:Cx) (ops:Array Oper) (T:Nat) (n0 k:Nat) (rest:List Oper) (s:St) (K:St->Prop):Prop :=
 ∀ (ro:Option Nat) (base:Bs) (Q:Act->World->Prop) (w0:World) (Z:Nat->Prop) (R0:List RI) (h0:Hp) (a:Act) (w:World) (R:List RI),(cx.inR=false->ro=none)->YI cx w0 Z R0 h0->HR w0 Z R0 h0->n0=h0.length->SR E base w Z R s a->w0.grownBy w none->Step w0 Z R0 h0 w Z R s.hp->(∀ (b:Nat) (B:Option Blk),h0[b]? = some B->s.hp[b]? = some B)->(∀ j,rest[j]? = ops[k + j]?) ->
  (∀ s' a' w' Z' R',K s'->SR E base w' Z' R' s' a'->Step w0 Z R0 h0 w' Z' R' s'.hp->Q a' w')->E7 E.P ops (fun w'=>w0.grownBy w' none) (FM ops T) T Q k rest a w
section
variable {E:Env}{cx:Cx}{ops:Array Oper}{rest rest':List Oper}{s s1:St}{K:St->Prop}{n n0 k T:Nat}{l:List (Nat×AV)}{hp hp':Hp}{Q:Ex->St->Prop}{id:Nat}{x:AV}{d:Nat}
theorem Mu {o:Oper}(hops:∀ j,(o::rest')[j]? = ops[k + j]?) (hk:Nat.blt k T=true) (hq:isQ o.op=true):FM ops T k=false:=by
 have hok:ops[k]? = some o:=by have:=hops 0; simpa using this.symm
 have hlt:k < T:=Nat.le_of_ble_eq_true hk
 exact Hu hok hq (by omega)
theorem ME {o:Oper}(hops:∀ j,(o::rest')[j]? = ops[k + j]?):∀ j,rest'[j]? = ops[k + 1 + j]?:=fun j=>by have:=hops (j + 1); simpa [Nat.add_assoc,Nat.add_comm 1 j] using this
theorem RunDT.done (hr:rest=[]) (kk:K s):RunDT E cx ops T n0 k rest s K:=by
 subst hr
 exact fun ro base Q w0 Z R0 h0 a w R _ _ _ _ sr hgr st _ _ q=>⟨fun _=>hgr,q s a w Z R kk sr st⟩
theorem RunDT.mono {K':St->Prop}(h:RunDT E cx ops T n0 k rest s K) (hk:∀ s,K s->K' s):RunDT E cx ops T n0 k rest s K':=fun ro base Q w0 Z R0 h0 a w R h1 h2 h3 h4 h5 h6 h7 h8 h9 q=>h ro base Q w0 Z R0 h0 a w R h1 h2 h3 h4 h5 h6 h7 h8 h9 fun s' a' w' Z' R' hK=>q s' a' w' Z' R' (hk s' hK)
/-- An operation that reads. -/
theorem RunDT.q {o:Oper}(hr:rest=o::rest') (hk:Nat.blt k T=true) (hq:isQ o.op=true) (hw:Au ops (Fr n l) o=some true) (hd:o.dst=some d) (h:DQ E.P (opA E (Fr n l)) hp o.op=some x) (hl:Mn n0 (opA E (Fr n l)) o.op=true) (kk:RunDT E cx ops T n0 (k + 1) rest' ⟨Fr n ((d,x)::l),hp⟩ K):RunDT E cx ops T n0 k rest ⟨Fr n l,hp⟩ K:=by
 subst hr
 intro ro base Q w0 Z R0 h0 a w R hro hy hh0 hn0 sr hgr st hpre hops q
 refine ⟨fun _=>hgr,?_⟩
 rw [if_pos (wantedA_eq sr hw),Mu hops hk hq,if_neg (by simp)]
 have hρ:∀ o x,opA E (Fr n l) o=some x->VR w Z R x (a.eval o):=fun o x e=>opA_vr sr o x e
 obtain ⟨u,hu,hrun⟩:=evOpQ_sound sr.hh hρ h
 have hquiet:∃ u,VR w Z R x u/\QuietAt E.P (Cf (fun w'=>w0.grownBy w' none) o) o u a:=by
  cases hl':LF o.op with
  | false=>exact ⟨u,hu,fun w' _=>hrun w' fun h=>by rw [hl'] at h; cases h⟩
  | true =>
   obtain ⟨u1,hu1,hq1⟩:=Fd hh0 sr hgr st hpre hl' (by rw [<-hn0]; exact hl) h
   exact ⟨u1,hu1,hq1.up (Hn hl')⟩
 obtain ⟨u,hu,hquiet⟩:=hquiet
 refine ⟨u,hquiet,?_⟩
 have sr':=sr.put (d:=o.dst) hu
 rw [hd,show II (⟨Fr n l,hp⟩:St).fr (some d) x=Fr n ((d,x)::l) from Br n l d _] at sr'
 rw [hd]
 exact kk ro base Q w0 Z R0 h0 _ w R hro hy hh0 hn0 sr' hgr st hpre (ME hops) q
/-- One that is not wanted. -/
theorem RunDT.skip {o:Oper}(hr:rest=o::rest') (hw:Au ops (Fr n l) o=some false) (hd:o.dst=some d) (kk:RunDT E cx ops T n0 (k + 1) rest' ⟨Fr n ((d,.tp [])::l),hp⟩ K):RunDT E cx ops T n0 k rest ⟨Fr n l,hp⟩ K:=by
 subst hr
 intro ro base Q w0 Z R0 h0 a w R hro hy hh0 hn0 sr hgr st hpre hops q
 refine ⟨fun _=>hgr,?_⟩
 rw [if_neg (by rw [wantedA_eq sr hw]; simp)]
 have sr':=sr.put (d:=o.dst) (x:= .tp []) undef_vr
 rw [hd,show II (⟨Fr n l,hp⟩:St).fr (some d) (.tp [])=Fr n ((d,.tp [])::l) from Br n l d _] at sr'
 rw [hd]
 exact kk ro base Q w0 Z R0 h0 _ w R hro hy hh0 hn0 sr' hgr st hpre (ME hops) q
theorem Ny (hT:T=k) (h:RunL E cx ops rest s K):RunDT E cx ops T n0 k rest s K:=by
 subst hT
 intro ro base Q w0 Z R0 h0 a w R hro hy hh0 hn0 sr hgr st hpre hops q
 exact Gj (h ro base Q a w Z R hro sr (hy.step hh0 st) fun s' a' w' Z' R' hK sr' st'=>q s' a' w' Z' R' hK sr' (st.trans st')) (Nat.le_refl _) (fun _=>hgr) (fun j hj=>HT hj) hops
theorem K3 (T:Nat) (hm:E.P.follows .mixedOrders=true) (hB:Region.lexB .any ops=true) (hb:Ht ops (FM ops T) T=true) (h:RunDT E cx ops T s.hp.length 0 ops.toList s fun s'=>Q .normal s'):SemY E cx (.region id ops true) s Q:=by
 intro ro base Qm a w Z R hro sr hy kk
 have hgd:w.grownBy w.drew none:=Jx w
 have hops:ops.toList.toArray=ops:=by simp
 have st0:Step w Z R s.hp w.drew Z R s.hp:=⟨rfl,rfl,rfl,Nat.le_refl _,fun c hc _=>rfl,fun _ h=> .inl h,fun _ h=>h,fun _ h=> .inl h,fun _ _ h=>h⟩
 have hsrd:SR E base w.drew Z R s a:=⟨sr.hh.keep (Nat.le_refl _) (fun c hc=>hgd.block c hc (by simp)),sr.fr.off (fun c hc=>rfl),sr.mks.step st0,sr.gl.off (fun c hc=>rfl),sr.bs⟩
 have hm':=h ro base (fun a w=>Qm .normal a w) w.drew Z R s.hp a w.drew R hro (hy.step sr.hh st0) hsrd.hh rfl hsrd (Hy _) (Step.refl _ _ _ _) (fun b B hb=>hb) (fun j=>by simp) (fun s' a' w' Z' R' hq sr' st=>kk .normal s' a' w' Z' R' hq sr' (st0.trans st))
 have:=Er (P:=E.P) (id:=id) (l:=ops.toList) (a:=a) (w:=w) (C:=fun w'=>w.drew.grownBy w' none) (loud:=FM ops T) (T:=T) (Q':=Qm) ro 0 hm (by rw [hops]; exact hB) (by rw [hops]; exact hb) (by rw [hops]; exact hm')
 rw [hops] at this
 exact this
theorem O5 {a b:Nat}(h:a < b):Nat.blt a b=true:=by unfold Nat.blt; rw [Nat.ble_eq]; exact h
/-- May an own thing be read ahead of the tail? It was there before the region. -/
theorem Mo {α:Type}{o:Oc α}{kk off m:Nat}{t ty:TypeId}{e:AV}{xs:List α}{v:α}{h0:Hp}{L:List Asn}{p:Operand}{ρ:Operand->Option AV}(ht:Go.Proofs.YteidjjolfapemaaDoor.T h0 (own_ (ocL kk t o) e xs::L)) (hv:xs[m]? = some v) (hp:ρ p=some (Nn (eAt e m) off)):Mn h0.length ρ (.load ty p)=true:=by
 obtain ⟨F,q,_⟩:=ht.act
 rcases q with ⟨rfl,rfl,_⟩ | ⟨b,es,F',rfl,h2,_⟩
 ·simp at hv
 ·simp only [Mn,hp,eAt,Nn]
  exact O5 (Fp h2)
theorem L6 {α:Type}{o:Oc α}{kk m:Nat}{t ty:TypeId}{e:AV}{xs:List α}{v:α}{h0:Hp}{L:List Asn}{p:Operand}{ρ:Operand->Option AV}(ht:Go.Proofs.YteidjjolfapemaaDoor.T h0 (own_ (ocL kk t o) e xs::L)) (hv:xs[m]? = some v) (hp:ρ p=some (eAt e m)):Mn h0.length ρ (.load ty p)=true :=
 Mo (off:=0) ht hv (by rw [No]; exact hp)
end
section
variable {P:Program}{h:Hp}{ρ:Operand->Option AV}{α:Type}{o:Oc α}{k:Nat}{t:TypeId}{e:AV}{xs:List α}{L:List Asn}
theorem IQ {ty:TypeId}{n:Nat}{ps:Array (Nat×Operand)}{xs:List (Nat×AV)}{r:AV×Hp}(hp:El ρ ps.toList=some xs) (he:Iq P h ty n xs=some r):E4 P ρ h (.buildSlice ty n ps)=some r:=by
 show (match El ρ ps.toList with | some ps=>Iq P h ty n ps | none=>none)=some r
 rw [hp]; exact he
/-- A pointer to a cell of its own seen as another pointer. -/
def cvB (P:Program) (a b k t:Nat):Bool:=match P.underlying a,P.underlying b with
 | some (.pointer t'),some .unsafePointer=>Nat.blt 0 k&&(match Az P t' with | some (_ + 1)=>true | _=>false)
 | some .unsafePointer,some (.pointer u)=>Nat.blt 0 k&&Nat.beq t u&&Nat.beq (P.cellsOf u) k&&(P.info? u).isSome
 | _,_=>false
theorem PB {t1 t2:TypeId}{x y:Operand}{a b:AV}{r:AV×Hp}(hx:ρ x=some a) (hy:ρ y=some b) (he:JU P h t1 a b=some r):IM P ρ h (.call ⟨.builtin .unsafeString,#[x,y],#[t1,t2]⟩)=some r:=by
 show (match ED ρ [x,y],[t1,t2] with | some [x,n],[t,_]=>JU P h t x n | _,_=>none)=some r
 simp only [ED,hx,hy]
 exact he
theorem Im {j:Nat}{e':AV}{y:α}(ht:T h (own_ o e' y::NU k t o e xs j e' y::L)):T h (own_ (ocL k t o) e xs::L):=by
 have hv:xs[j]? = some y:=by
  obtain ⟨F,p,_⟩:=(T.drop ht).act
  obtain ⟨b,es,F',_,_,_,_,_,hv⟩:=p
  exact hv
 have:=ht.merge
 have he:xs.set j y=xs:=by
  apply List.ext_getElem?
  intro i
  rw [List.getElem?_set]
  split
  ·next hij=>subst hij; rw [if_pos (List.getElem?_eq_some_iff.1 hv).1]; exact hv.symm
  ·rfl
 rwa [he] at this
end
def Oj (P:Program) (t:TypeId):Bool:=match P.underlying t with
 | some (.slice _)=>true
 | _=>false
theorem Kn {P:Program}{t:TypeId}(h:Oj P t=true):∃ el,P.underlying t=some (.slice el):=by
 unfold Oj at h
 split at h
 ·next el he=>exact ⟨el,he⟩
 ·cases h
def PA:AV->Bool
 | .ag [_]=>false
 | _=>true
theorem Mf {z:AV}(h:PA z=true):elm z.cel=z:=by
 cases z with
 | ag cs =>
  match cs,h with
  | [],_=>rfl
  | [x],h=>cases h
  | x::y::l,_=>rfl
 | _=>rfl
def zeB (P:Program) (el:TypeId):Bool:=match C6 P el with
 | some z=>PA z
 | none=>false
section
variable {P:Program}{h:Hp}{α:Type}{o:Oc α}{c:Cd α}{k bytes n:Nat}{t ty ty2:TypeId}{e y:AV}{xs ys:List α}{L:List Asn}{v:α}
theorem Jd (ht:T h (own_ (ocL k t o) e xs::L)) (hu:Oj P ty=true):Fj P ty e=some (eI xs.length):=let ⟨_,h1⟩:=Kn hu; Ng ht h1
theorem N4 {i:Int}{ki:IntKind}(ht:T h (own_ (ocL k t o) e xs::L)) (ha:apB P ty t k bytes=true) (hv:idx xs i=some v):A6 P h ty e (.v (.int ki i))=some (eAt e i.toNat):=by
 obtain ⟨i',z,a1,a2,a3,a4,_⟩:=F5 ha
 have hu:P.underlying ty=some (.slice t):=by
  unfold C5 at a1
  split at a1
  ·next e he=>injection a1 with a1; rw [he,a1]
  ·cases a1
 exact OH ht hu (by rw [Az,a2,<-a4]; rfl) hv
theorem O2 {i:Int}{ki:IntKind}{j:Nat}{e':AV}{x0:α}(ht:T h (NU k t o e xs j e' x0::L)) (ha:apB P ty t k bytes=true) (hv:idx xs i=some v):A6 P h ty e (.v (.int ki i))=some (eAt e i.toNat):=by
 obtain ⟨i',z,a1,a2,a3,a4,_⟩:=F5 ha
 have hu:P.underlying ty=some (.slice t):=by
  unfold C5 at a1
  split at a1
  ·next e he=>injection a1 with a1; rw [he,a1]
  ·cases a1
 exact NW ht hu (by rw [Az,a2,<-a4]; rfl) hv
theorem Dh (ht:T h (own_ (ocL k t o) e xs::own_ (ocL k t o) y ys::L)) (hu:Oj P ty2=true) (ha:apB P ty t k bytes=true) (hc:CK bytes (xs.length + ys.length)=true):∃ e' h',By P h ty ty2 e y=some (e',h')/\T h' (own_ (ocL k t o) e' (xs++ys)::L):=by
 obtain ⟨_,h1⟩:=Kn hu
 obtain ⟨i,z,a1,a2,a3,a4,a5,a6,a7,a8⟩:=F5 ha
 exact NL ht h1 a1 a2 a3 a4 (O5 a5) a6 a7 a8 hc
theorem DK {es:List AV}(hf:Fit o k) (ht:T h (els o es xs::L)) (hn:es.length=n) (ha:apB P ty t k bytes=true) (hz:zeB P t=true) (hb:Nat.ble (n * k) 65536=true):∃ e' h',Iq P h ty n (Fh 0 es)=some (e',h')/\T h' (own_ (ocL k t o) e' xs::L):=by
 obtain ⟨i,z,a1,a2,a3,a4,a5,a6,a7,a8⟩:=F5 ha
 unfold zeB at hz
 rw [a3] at hz
 exact Nh hf ht hn a1 a2 a3 a4 (O5 a5) hb a6 a7 (Mf hz)
theorem MA {z:AV}{m:Int}{kn kc:IntKind}{x0:α}(ht:T h L) (hx:∀ h,o.at_ h z x0 []) (ha:apB P ty t k bytes=true) (hz:C6 P t=some z) (hc:LM bytes m=true):∃ e' h',E1 P h ty (.v (.int kn m)) (.v (.int kc m))=some (e',h')/\T h' (own_ (ocL k t o) e' (List.replicate m.toNat x0)::L):=by
 obtain ⟨i,z',a1,a2,a3,a4,a5,a6,a7,a8⟩:=F5 ha
 rw [hz] at a3
 injection a3 with a3
 subst a3
 exact Mr ht hx a1 a2 hz a4 a6 a7 a8 hc
end
/-- What a call is handed, own or not, as it is told. -/
def SeeD {α:Type}(hp:Hp) (c:Cd α) (x:AV) (v:α):Prop:=∃ y,SeeV hp x y/\c.dec y=some v
def SeesD {α:Type}(hp:Hp) (s:Cs α) (xs:List AV) (a:α):Prop:=∃ ys,Sees hp xs ys/\s.dec ys=some a
theorem SeesD.nil {hp:Hp}:SeesD hp csN [] ():=⟨[],.nil,rfl⟩
theorem C7 {α β:Type}{hp:Hp}{c:Cd α}{s:Cs β}{x:AV}{xs:List AV}{v:α}{a:β}(h1:SeeD hp c x v) (h2:SeesD hp s xs a):SeesD hp (csC c s) (x::xs) (v,a):=by
 obtain ⟨y,k1,k2⟩:=h1
 obtain ⟨ys,q1,q2⟩:=h2
 refine ⟨y::ys,.cons k1 q1,?_⟩
 show ((c.dec y).bind fun x=>(s.dec ys).map fun y=>(x,y))=_
 rw [k2,q2]; rfl
theorem Eb {α:Type}{hp:Hp}{c:Cd α}{v:α}:SeeD hp c (c.enc v) v:=⟨_,.enc,c.de v⟩
theorem SeeD.e0 {α:Type}{hp:Hp}{c:Cd α}{k:Nat}:SeeD hp (cdL k c) .e0 []:=⟨.e0,.id rfl,rfl⟩
theorem SeeD.own {α:Type}{hp:Hp}{o:Oc α}{e:AV}{x:α}{L:List Asn}{i:Nat}(ht:T hp L) (hi:L[i]? = some (own_ o e x)):SeeD hp o.cd e x:=⟨_,.own ht hi,o.cd.de x⟩
section
variable {E:Env}{cx:Cx}{ops:Array Oper}{rest rest':List Oper}{K:St->Prop}{n n0 k T:Nat}{l:List (Nat×AV)}{hp:Hp}
theorem RunL.call {α β:Type}{s:Cs α}{F:α->Option β}{er:β->AV}{a:α}{b:β}{xs:List AV}(hE:EnvOk E){d:Nat}{f:Operand}{args:Array Operand}{tys:Array TypeId}{ty:TypeId}{pos:String}{af:Array Edge}{g:Option (Nat×Bool)}{fid:FuncId}(hr:rest=⟨some d,.call ⟨.value f,args,tys⟩,ty,pos,af,g⟩::rest') (hw:Au ops (Fr n l) ⟨some d,.call ⟨.value f,args,tys⟩,ty,pos,af,g⟩=some true)
  (hf:opA E (Fr n l) f=some (.fn fid [] [])) (hi:E.I fid=false) (hX:E.X fid=some (Dz s F er)) (ha:ED (opA E (Fr n l)) args.toList=some xs) (hv:Sns hp s xs a) (hok:xs.all Bn=true\/Bm (er b)=true) (hF:F a=some b) (k:RunL E cx ops rest' ⟨Fr n ((d,er b)::l),hp⟩ K):RunL E cx ops rest ⟨Fr n l,hp⟩ K :=
 AS hE 0 hr (KH hw hf hi hX ha hv hok hF) k
end
section
variable {E:Env}{cx:Cx}{ops:Array Oper}{s:St}{Q:Ex->St->Prop}{id:Nat}{A:St->Prop}{c:Code}
theorem Fb (h:SemY E cx c s fun e s'=>∃ s2,WkY E s' s2/\Q e s2):SemY E cx c s Q:=by
 intro ro base Qm a w Z R h1 h2 h3 k
 refine h ro base Qm a w Z R h1 h2 h3 fun e s' a' w' Z' R' hQ sr st=>?_
 obtain ⟨s2,hw,hq⟩:=hQ
 obtain ⟨Z2,R2,sr2,st2⟩:=hw base w' Z' R' a' sr
 exact k e s2 a' w' Z2 R2 hq sr2 (st.trans st2)
end
theorem kr.{u}{α:Sort u}{a b:α}(h:a=b:=by kernel_rfl):a=b:=h
/-- The slots of a frame that are told. -/
def slG:Nat->List (Option AV)->List (Nat×AV)
 | _,[]=>[]
 | i,some x::r=>(i,x)::slG (i + 1) r
 | i,none::r=>slG (i + 1) r
theorem MQ:∀ (fr:List (Option AV)) (i t:Nat) (x:AV),lk (slG i fr) t=some x->∃ j,t=i + j/\fr[j]? = some (some x)
 | [],_,_,_,h=>by cases h
 | some y::r,i,t,x,h=>by
  rw [slG,Dv] at h
  split at h
  ·next e=>injection h with h; subst e h; exact ⟨0,rfl,rfl⟩
  ·obtain ⟨j,h1,h2⟩:=MQ r (i + 1) t x h
   exact ⟨j + 1,by omega,by simpa using h2⟩
 | none::r,i,t,x,h=>by
  obtain ⟨j,h1,h2⟩:=MQ r (i + 1) t x h
  exact ⟨j + 1,by omega,by simpa using h2⟩
def frO (o:Option St):List (Nat×AV):=match o with
 | some s=>slG 0 s.fr
 | none=>[]
def O8 (o:Option St):Option (Nat×Hp):=match o with
 | some s=>some (s.fr.length,s.hp)
 | none=>none
section
variable {E:Env}{cx:Cx}{ops:Array Oper}{rest:List Oper}{K:St->Prop}{n n0 k0 m:Nat}{l l':List (Nat×AV)}{hp hp':Hp}{Q:Ex->St->Prop}{id:Nat}{c:Code}
theorem M0 {o:Option St}(h:O8 o=some (n,hp)):∃ fr,o=some ⟨fr,hp⟩/\fr.length=n/\frO o=slG 0 fr:=by
 unfold O8 at h
 split at h
 ·next s =>
  injection h with h
  injection h with h1 h2
  subst h2
  exact ⟨s.fr,rfl,h1,rfl⟩
 ·cases h
theorem SR.comp {base:Bs}{w:World}{Z:Nat->Prop}{R:List RI}{a:Act}{fr:List (Option AV)}(sr:SR E base w Z R ⟨fr,hp⟩ a) (hl:fr.length=n):SR E base w Z R ⟨Fr n (slG 0 fr),hp⟩ a:=by
 refine ⟨sr.hh,⟨?_,fun t x hx=>sr.fr.2 t x ?_⟩,sr.mks,sr.gl,sr.bs⟩
 ·rw [De,<-hl]; exact sr.fr.1
 ·rw [DM] at hx
  split at hx
  ·injection hx with hx
   obtain ⟨j,h1,h2⟩:=MQ fr 0 t x hx
   rw [Nat.zero_add] at h1
   subst h1
   exact h2
  ·cases hx
/-- Some operations: the state behind them is computed. -/
theorem Ad (hE:EnvOk E) (m:Nat) (k:RunL E cx ops (rest.drop m) ⟨Fr n (frO (EE E (evC E 0) ⟨none,false⟩ ops (rest.take m) ⟨Fr n l,hp⟩)),hp⟩ K) (h:O8 (EE E (evC E 0) ⟨none,false⟩ ops (rest.take m) ⟨Fr n l,hp⟩)=some (n,hp):=by kernel_rfl):RunL E cx ops rest ⟨Fr n l,hp⟩ K:=by
 obtain ⟨fr,h1,h2,h3⟩:=M0 h
 rw [h3] at k
 refine KZ hE m h1 ?_
 exact fun ro base Q a w Z R hro sr hy q=>k ro base Q a w Z R hro (sr.comp h2) hy q
/-- All that are left. -/
theorem Av (hE:EnvOk E) (l':List (Nat×AV)) (k:K ⟨Fr n l',hp⟩) (h:MP (EE E (evC E 0) ⟨none,false⟩ ops rest ⟨Fr n l,hp⟩) l'=some (n,xs2 l',hp):=by kernel_rfl):RunL E cx ops rest ⟨Fr n l,hp⟩ K :=
 Le hE rest.length l' hp (by rw [List.take_length]; exact h) (BV (by simp) k)
theorem AQ (hE:EnvOk E){s:St}(h:MP (EE E (evC E 0) ⟨none,false⟩ ops rest s) l'=some (n,xs2 l',hp):=by kernel_rfl):RunS E ops rest s fun s'=>Wk E s' ⟨Fr n l',hp⟩ :=
 AB hE rest.length l' hp (by rw [List.take_length]; exact h) (AJ (by simp) Wk.refl)
theorem NI (hE:EnvOk E) (l':List (Nat×AV)) (k:Q .normal ⟨Fr n l',hp⟩) (h:MP (EE E (evC E 0) ⟨none,false⟩ ops ops.toList ⟨Fr n l,hp⟩) l'=some (n,xs2 l',hp):=by kernel_rfl):SemY E cx (.region id ops false) ⟨Fr n l,hp⟩ Q :=
 AF (Av hE l' k h)
theorem Aa (hE:EnvOk E) (l':List (Nat×AV)) (k:SemY E cx c ⟨Fr n l',hp⟩ Q) (h:MP (EE E (evC E 0) ⟨none,false⟩ ops ops.toList ⟨Fr n l,hp⟩) l'=some (n,xs2 l',hp):=by kernel_rfl):SemY E cx (.seq (.region id ops false) c) ⟨Fr n l,hp⟩ Q :=
 AM (NI hE l' k h)
theorem CP (hE:EnvOk E) (l':List (Nat×AV)) (hp':Hp) (k:Q .normal ⟨Fr n l',hp'⟩) (h:MP (EE E (evC E 0) ⟨none,false⟩ ops ops.toList ⟨Fr n l,hp⟩) l'=some (n,xs2 l',hp'):=by kernel_rfl):Sem E cx (.region id ops false) ⟨Fr n l,hp⟩ Q :=
 AG (AQ hE h) k
theorem AN (hE:EnvOk E) (l':List (Nat×AV)) (hp':Hp) (k:Sem E cx c ⟨Fr n l',hp'⟩ Q) (h:MP (EE E (evC E 0) ⟨none,false⟩ ops ops.toList ⟨Fr n l,hp⟩) l'=some (n,xs2 l',hp'):=by kernel_rfl):Sem E cx (.seq (.region id ops false) c) ⟨Fr n l,hp⟩ Q :=
 AD (CP hE l' hp' k h)
end
/- trestle/evening.guests -/
noncomputable def CW:Env:=E0
theorem Dm:EnvOk CW:=AC
noncomputable def EQ:Code:=B6 Tryd.f25
def Bg (x0:Int):Option (Bool) :=
 (if (decide (x0≥1))=true then some (decide (x0<=64)) else some false).bind fun j2 =>
 some j2
def DA:Cs (Int×Unit):=(csC cdI csN)
def DD (r:Bool):AV:=cdB.enc r
theorem GR (x0:Int) (r:Bool) (h:Bg x0=some r):Sem CW ⟨none,false⟩ EQ ⟨Fr 9 (BA 0 (DA.enc (x0,()))),[]⟩ fun e s'=>(e = .normal\/e = .ret)/\∃ xs,EM CW.P s'.fr s'.hp Tryd.f25.results.toList=some xs/\Ea xs=DD r:=by
 have he:=Dm
 unfold Bg at h;refine Bq (CM (s1:=⟨Fr 9 [(0,.v (.int .i64 x0))],[]⟩) AI ?_);refine AN he [(0,.v (.int .i64 x0))] [] ?_;refine AD ?_;obtain ⟨j2,hj2,h⟩:=OB h;refine AG (s1:=⟨Fr 9 [(2,.v (.bool j2))],[]⟩) ?_ ?_
 ·refine AB (n:=9) he 3 [(0,.v (.int .i64 x0)),(5,.v (.bool (decide (x0≥1))))] [] kr ?_
  rcases BE (decide (x0≥1)) with hc3 | hc3
  ·rw [if_pos hc3] at hj2
   rw [hc3];refine AB (n:=9) he 4 [(2,.v (.bool (decide (x0<=64))))] [] kr ?_;have hq:=OI hj2; subst hq;exact AJ rfl AI
  ·rw [BL hc3] at hj2
   rw [hc3];refine AB (n:=9) he 4 [(2,.v (.bool false))] [] kr ?_;have hq:=OI hj2; subst hq;exact AJ rfl AI
 refine AW ?_;have hq:=OI h; subst hq;exact ⟨⟨Fr 9 [(2,.v (.bool j2))],[]⟩,AI,.inr rfl,[.v (.bool j2)],kr,kr⟩
def HI:List AV->Option AV:=Dz DA (fun a=>Bg a.1) DD
theorem HL:XOk 25 HI:=by
 refine EnvOk.x (E:=CW) (CD Dm (fn:=Tryd.f25) (c:=EQ) ?h1 ?h2 ⟨Tryd.call25⟩ DA (fun a=>Bg a.1) DD (fun a=>(by show 1<=9; decide)) ?h3 ?h4) rfl rfl
 case h1=>kernel_rfl
 case h2=>kernel_rfl
 case h3=>intro b; kernel_rfl
 case h4=>exact fun a b h=>GR a.1 b h
end Go.Proofs.YteidjjolfapemaaDoor
namespace Go.Proofs.YteidjjolfapemaaDoor
open Go.Shelf
def KD:Go.Shelf.Ren:=⟨fun | 217=>66 | 266=>77 | n=>n,fun | 9=>9 | 5=>5 | 3=>3 | n=>n,fun | n=>n⟩
theorem Nc:Go.Proofs.Lays.n217 Tryd.prog KD:={
 mixed:=by kernel_rfl
 f217:=Tryd.func66.trans (congrArg some (by kernel_rfl))
 f266:=Tryd.func77.trans (congrArg some (by kernel_rfl))
 t3:=Tryd.underlying3
 a3:=Tryd.isAgg3
 z3:=Tryd.sizeOf3
 v3:=Tryd.zeroValue3
 t5:=Tryd.underlying5
 a5:=Tryd.isAgg5
 z5:=Tryd.sizeOf5
 v5:=Tryd.zeroValue5
 t9:=Tryd.underlying9
 a9:=Tryd.isAgg9
 z9:=Tryd.sizeOf9
 v9:=Tryd.zeroValue9 }
def KC:Go.Shelf.Ren:=⟨fun | 138=>11 | 195=>32 | 218=>33 | 143=>34 | 219=>52 | 217=>66 | 225=>67 | 224=>68 | 267=>69 | 266=>77 | 314=>78 | n=>n,fun | 9=>9 | 3=>3 | 4=>4 | 5=>5 | 0=>0 | 46=>108 | 146=>118 | 51=>117 | n=>n,fun | 1=>0 | n=>n⟩
theorem Nb:Go.Proofs.Lays.n138 Tryd.prog KC:={
 mixed:=by kernel_rfl
 f138:=Tryd.func11.trans (congrArg some (by kernel_rfl))
 f143:=Tryd.func34.trans (congrArg some (by kernel_rfl))
 f195:=Tryd.func32.trans (congrArg some (by kernel_rfl))
 f217:=Tryd.func66.trans (congrArg some (by kernel_rfl))
 f218:=Tryd.func33.trans (congrArg some (by kernel_rfl))
 f219:=Tryd.func52.trans (congrArg some (by kernel_rfl))
 f224:=Tryd.func68.trans (congrArg some (by kernel_rfl))
 f225:=Tryd.func67.trans (congrArg some (by kernel_rfl))
 f266:=Tryd.func77.trans (congrArg some (by kernel_rfl))
 f267:=Tryd.func69.trans (congrArg some (by kernel_rfl))
 f314:=Tryd.func78.trans (congrArg some (by kernel_rfl))
 t0:=Tryd.underlying0
 a0:=Tryd.isAgg0
 z0:=Tryd.sizeOf0
 v0:=Tryd.zeroValue0
 t3:=Tryd.underlying3
 a3:=Tryd.isAgg3
 z3:=Tryd.sizeOf3
 v3:=Tryd.zeroValue3
 t4:=Tryd.underlying4
 a4:=Tryd.isAgg4
 z4:=Tryd.sizeOf4
 v4:=Tryd.zeroValue4
 t5:=Tryd.underlying5
 a5:=Tryd.isAgg5
 z5:=Tryd.sizeOf5
 v5:=Tryd.zeroValue5
 t9:=Tryd.underlying9
 a9:=Tryd.isAgg9
 z9:=Tryd.sizeOf9
 v9:=Tryd.zeroValue9
 t46:=Tryd.underlying108
 a46:=Tryd.isAgg108
 z46:=Tryd.sizeOf108
 v46:=Tryd.zeroValue108
 t51:=Tryd.underlying117
 a51:=Tryd.isAgg117
 z51:=Tryd.sizeOf117
 v51:=Tryd.zeroValue117
 t146:=Tryd.underlying118
 a146:=Tryd.isAgg118
 z146:=Tryd.sizeOf118
 v146:=Tryd.zeroValue118
 g1:=by kernel_rfl }
open Go.RowKit Go.Lib
def CJ (s:List UInt8) (c:Int):Option Int:=some (Lib.indexByte s c.toNat.toUInt8)
def Cc:Cs (List UInt8×Int×Unit):=csC cdS (csC (cdK .u8) csN)
def ES (r:Int):AV:=cdI.enc r
def Eo:List AV->Option AV:=Dz Cc (fun a=>CJ a.1 a.2.1) ES
theorem Et:XOk 66 Eo:=by
 refine ⟨⟨Tryd.call66⟩,fun xs x h w Z us _ _ hv=>?_⟩
 obtain ⟨⟨s,c,u⟩,ha,hh⟩:=OB h
 obtain ⟨r,hb,rfl⟩:=Option.map_eq_some_iff.1 hh
 clear h hh
 replace hv:=Cc.vr ha hv
 clear ha
 obtain ⟨u1,r1,rfl,h1,hv⟩:=hv.head
 obtain ⟨u2,r2,rfl,h2,hv⟩:=hv.head
 have:r2=[]:=List.eq_nil_of_length_eq_zero hv.len
 subst this
 have e2:=h2.v_inv
 subst e2
 have hb:r=Lib.indexByte s c.toNat.toUInt8:=(OI hb).symm
 subst hb
 cases h1 with
 | st hs hn =>
  rename_i sb
  refine Calls.mono (Any.stringslite_IndexByte Nc sb c w) fun e w' he=>?_
  obtain ⟨rfl,rfl⟩:=he
  exact ⟨Hy _,by rw [hs]; exact .v rfl⟩
def En (s sub:List UInt8):Option Int:=match sub with
 | [c]=>some ((Lib.countByte s c:Nat):Int)
 | _=>none
def Ey:Cs (List UInt8×List UInt8×Unit):=csC cdS (csC cdS csN)
def HA (r:Int):AV:=cdI.enc r
def H9:List AV->Option AV:=Dz Ey (fun a=>En a.1 a.2.1) HA
theorem IF:XOk 11 H9:=by
 refine ⟨⟨Tryd.call11⟩,fun xs x h w Z us _ _ hv=>?_⟩
 obtain ⟨⟨s,sub,u⟩,ha,hh⟩:=OB h
 obtain ⟨r,hb,rfl⟩:=Option.map_eq_some_iff.1 hh
 clear h hh
 replace hv:=Ey.vr ha hv
 clear ha
 obtain ⟨u1,r1,rfl,h1,hv⟩:=hv.head
 obtain ⟨u2,r2,rfl,h2,hv⟩:=hv.head
 have:r2=[]:=List.eq_nil_of_length_eq_zero hv.len
 subst this
 obtain ⟨sb,rfl,hs⟩:∃ sb,u1 = .string sb/\sb.data.toList=s:=by cases h1 with | st h _=>exact ⟨_,rfl,h⟩
 obtain ⟨c,rfl,hr⟩:∃ c,sub=[c]/\r=((Lib.countByte s c:Nat):Int):=by
  have hb:En s sub=some r:=hb
  match sub,hb with
  | [c],hb=>exact ⟨c,rfl,(OI hb).symm⟩
 clear hb
 subst hr
 obtain ⟨sc,rfl,hs2⟩:∃ sc,u2 = .string sc/\sc.data.toList=[c]:=by cases h2 with | st h _=>exact ⟨_,rfl,h⟩
 have e:sc=ByteArray.mk #[c]:=by
  obtain ⟨d⟩:=sc
  congr 1
  apply Array.ext'
  exact hs2
 subst e
 refine Calls.mono (Any.strings_Count_one Nb sb c w) fun e w' he=>?_
 obtain ⟨rfl,rfl⟩:=he
 exact ⟨Hy _,by rw [hs]; exact .v rfl⟩
/- internal/stringslite.Index -/
noncomputable def Df:Code:=B6 Tryd.f52
def BB (x0:(List UInt8)) (x1:(List UInt8)):Option (Int) :=
 (if ((x1.length:Int)==0)=true then some true else some (x1==x0)).bind fun j2 =>
 if j2=true then
 some 0
 else
 if ((x1.length:Int)==1)=true then
 (idx x1 0).bind fun v5 =>
 (CJ x0 (v5.toNat:Int)).bind fun v6 =>
 some v6
 else
 if (decide ((x1.length:Int)≥(x0.length:Int)))=true then
 some (-1)
 else
 none
def CN:Cs ((List UInt8)×(List UInt8)×Unit):=(csC cdS (csC cdS csN))
def CO (r:Int):AV:=cdI.enc r
theorem FU (x0:(List UInt8)) (x1:(List UInt8)) (r:Int) (h:BB x0 x1=some r):Sem E0 ⟨none,false⟩ Df ⟨Fr 143 (BA 0 (CN.enc (x0,x1,()))),[]⟩ fun e s'=>(e = .normal\/e = .ret)/\∃ xs,EM E0.P s'.fr s'.hp Tryd.f52.results.toList=some xs/\Ea xs=CO r:=by
 unfold BB at h;refine Bq (CM (s1:=⟨Fr 143 [(0,.st x0),(1,.st x1)],[]⟩) AI ?_);refine AN AC [(0,.st x0),(1,.st x1)] [] ?_;refine AN AC [(0,.st x0),(1,.st x1),(5,.v (.int .i64 (x1.length:Int)))] [] ?_;refine AD ?_;refine AU ?_;refine AD ?_;obtain ⟨j2,hj2,h⟩:=OB h;refine AG (s1:=⟨Fr 143 [(0,.st x0),(1,.st x1),(5,.v (.int .i64 (x1.length:Int))),(16,.v (.bool j2))],[]⟩) ?_ ?_
 ·refine AB (n:=143) AC 3 [(0,.st x0),(1,.st x1),(5,.v (.int .i64 (x1.length:Int))),(19,.v (.bool ((x1.length:Int)==0)))] [] kr ?_
  rcases BE ((x1.length:Int)==0) with hc8 | hc8
  ·rw [if_pos hc8] at hj2
   rw [hc8];refine AB (n:=143) AC 5 [(0,.st x0),(1,.st x1),(5,.v (.int .i64 (x1.length:Int))),(16,.v (.bool true))] [] kr ?_;have hq:=OI hj2; subst hq;exact AJ rfl AI
  ·rw [BL hc8] at hj2
   rw [hc8];refine AB (n:=143) AC 5 [(0,.st x0),(1,.st x1),(5,.v (.int .i64 (x1.length:Int))),(16,.v (.bool (x1==x0)))] [] kr ?_;have hq:=OI hj2; subst hq;exact AJ rfl AI
 refine AP (b:=j2) kr (fun hb3=>?_) (fun hb3=>?_)
 ·rw [if_pos hb3] at h
  refine AN AC [(4,.v (.int .i64 0))] [] ?_;refine AW ?_;have hq:=OI h; subst hq;exact ⟨⟨Fr 143 [(4,.v (.int .i64 0))],[]⟩,AI,.inr rfl,[.v (.int .i64 0)],kr,kr⟩
 ·rw [BL hb3] at h
  refine AN AC [(0,.st x0),(1,.st x1),(5,.v (.int .i64 (x1.length:Int))),(24,.v (.bool ((x1.length:Int)==1)))] [] ?_;refine AP (b:=((x1.length:Int)==1)) kr (fun hb4=>?_) (fun hb4=>?_)
  ·rw [if_pos hb4] at h
   refine AD ?_;obtain ⟨v5,hv5,h⟩:=OB h;obtain ⟨v6,hv6,h⟩:=OB h;refine AG (s1:=⟨Fr 143 [(4,.v (.int .i64 v6))],[]⟩) ?_ ?_
   ·refine AB (n:=143) AC 2 [(27,.st x0),(28,.st x1)] [] kr ?_
    refine AK AC 0 rfl (Bu (AA rfl) rfl (Dw (a:= .st x1) (b:= .v (.int .i64 0)) kr kr (Cu (bs:=x1) (ki:= .i64) kr hv5))) ?_;refine Am (caps:=[]) (xs:=[.st x0,.v (.int .u8 (v5.toNat:Int))]) (u:=(x0,(v5.toNat:Int),())) rfl rfl Et rfl (AA rfl) kr kr (A4 (BX (c:=cdS) (v:=x0)) (A4 (BX (c:=(cdK .u8)) (v:=(v5.toNat:Int))) Ch)) (.inl kr) hv6 ?_;exact AQ AC
   refine AW ?_;have hq:=OI h; subst hq;exact ⟨⟨Fr 143 [(4,.v (.int .i64 v6))],[]⟩,AI,.inr rfl,[.v (.int .i64 v6)],kr,kr⟩
  ·rw [BL hb4] at h
   refine AN AC [(31,.v (.bool (decide ((x1.length:Int)≥(x0.length:Int)))))] [] ?_;refine AP (b:=(decide ((x1.length:Int)≥(x0.length:Int)))) kr (fun hb7=>?_) (fun hb7=>?_)
   ·rw [if_pos hb7] at h
    refine AN AC [(4,.v (.int .i64 (-1)))] [] ?_;refine AW ?_;have hq:=OI h; subst hq;exact ⟨⟨Fr 143 [(4,.v (.int .i64 (-1)))],[]⟩,AI,.inr rfl,[.v (.int .i64 (-1))],kr,kr⟩
   ·rw [BL hb7] at h
    refine AD ?_;cases h
def GG:List AV->Option AV:=Dz CN (fun a=>BB a.1 a.2.1) CO
theorem D0:XOk 52 GG:=by
 refine BJ Tryd.func52 (c:=Df) ?h2 ⟨Tryd.call52⟩ CN (fun a=>BB a.1 a.2.1) CO (fun a=>(by show 2<=143; decide)) ?h3 ?h4
 case h2=>kernel_rfl
 case h3=>intro b; kernel_rfl
 case h4=>exact fun a b h=>FU a.1 a.2.1 b h
/- internal/stringslite.Cut -/
noncomputable def D5:Code:=B6 Tryd.f48
def Bt (x0:(List UInt8)) (x1:(List UInt8)):Option ((List UInt8)×(List UInt8)×Bool) :=
 (BB x0 x1).bind fun v1 =>
 if (decide (v1≥0))=true then
 if (CF 0 v1 x0.length)=true then
 if (CF (wr .i64 (v1 + (x1.length:Int))) (x0.length:Int) x0.length)=true then
 some (((x0.take v1.toNat).drop (0:Int).toNat),((x0.take (x0.length:Int).toNat).drop (wr .i64 (v1 + (x1.length:Int))).toNat),true)
 else none
 else none
 else
 some (x0,[],false)
def Cn:Cs ((List UInt8)×(List UInt8)×Unit):=(csC cdS (csC cdS csN))
def Cr (r:(List UInt8)×(List UInt8)×Bool):AV:= .tp [cdS.enc r.1,cdS.enc r.2.1,cdB.enc r.2.2]
theorem GF (x0:(List UInt8)) (x1:(List UInt8)) (r:(List UInt8)×(List UInt8)×Bool) (h:Bt x0 x1=some r):Sem E0 ⟨none,false⟩ D5 ⟨Fr 23 (BA 0 (Cn.enc (x0,x1,()))),[]⟩ fun e s'=>(e = .normal\/e = .ret)/\∃ xs,EM E0.P s'.fr s'.hp Tryd.f48.results.toList=some xs/\Ea xs=Cr r:=by
 unfold Bt at h;refine Bq (CM (s1:=⟨Fr 23 [(0,.st x0),(1,.st x1)],[]⟩) AI ?_);refine AN AC [(0,.st x0),(1,.st x1)] [] ?_;refine AD ?_;refine AD ?_;obtain ⟨v1,hv1,h⟩:=OB h
 let p1:Nat×AV:=(7,.v (.int .i64 v1))
 refine AG (s1:=⟨Fr 23 [(0,.st x0),(1,.st x1),p1],[]⟩) ?_ ?_
 ·refine AB (n:=23) AC 2 [(0,.st x0),(1,.st x1),(8,.st x0),(9,.st x1)] [] kr ?_
  refine Am (caps:=[]) (xs:=[.st x0,.st x1]) (u:=(x0,x1,())) rfl rfl D0 rfl (AA rfl) kr kr (A4 (BX (c:=cdS) (v:=x0)) (A4 (BX (c:=cdS) (v:=x1)) Ch)) (.inl kr) hv1 ?_;exact AQ AC
 refine AN AC [(0,.st x0),(1,.st x1),p1,(12,.v (.bool (decide (v1≥0))))] [] ?_;refine AP (b:=(decide (v1≥0))) kr (fun hb2=>?_) (fun hb2=>?_)
 ·rw [if_pos hb2] at h
  refine AD ?_;by_cases hk3:(CF 0 v1 x0.length)=true
  case neg=>rw [if_neg hk3] at h; cases h
  rw [if_pos hk3] at h;by_cases hk4:(CF (wr .i64 (v1 + (x1.length:Int))) (x0.length:Int) x0.length)=true
  case neg=>rw [if_neg hk4] at h; cases h
  rw [if_pos hk4] at h
  let p2:Nat×AV:=(6,.v (.bool true))
  let p3:Nat×AV:=(5,.st ((x0.take (x0.length:Int).toNat).drop (wr .i64 (v1 + (x1.length:Int))).toNat))
  let p4:Nat×AV:=(4,.st ((x0.take v1.toNat).drop (0:Int).toNat))
  refine GK AC (s1:=⟨Fr 23 [p4,p3,p2],[]⟩) kr ?_ ?_
  ·refine Af (n:=23) AC 2 [(0,.st x0),(1,.st x1),p1,(13,.st x0),(14,.v (.int .i64 v1))] [] kr kr ?_
   refine RunDS.one AC rfl kr (HF kr (AA rfl) rfl (Em (a:= .st x0) (l:=none) (u:=(some (.v (.int .i64 v1)))) (m:=none) kr kr kr rfl (EG (bs:=x0) (lo:=0) (hi:=v1) kr rfl (Fs (Kd hk3)) hk3)) kr) ?_;refine Af (n:=23) AC 5 [(15,.st ((x0.take v1.toNat).drop (0:Int).toNat)),(16,.st x0),(20,.v (.int .i64 (wr .i64 (v1 + (x1.length:Int)))))] [] kr kr ?_;refine RunDS.one AC rfl kr (HF kr (AA rfl) rfl (Em (a:= .st x0) (l:=(some (.v (.int .i64 (wr .i64 (v1 + (x1.length:Int))))))) (u:=none) (m:=none) kr kr kr rfl (EG (bs:=x0) (lo:=(wr .i64 (v1 + (x1.length:Int)))) (hi:=(x0.length:Int)) kr (Fs (IW hk4)) rfl hk4)) kr) ?_;refine Af (n:=23) AC 3 [p4,p3,p2] [] kr kr ?_;exact RunDS.done rfl AI
  refine AW ?_;have hq:=OI h; subst hq;exact ⟨⟨Fr 23 [p4,p3,p2],[]⟩,AI,.inr rfl,[.st ((x0.take v1.toNat).drop (0:Int).toNat),.st ((x0.take (x0.length:Int).toNat).drop (wr .i64 (v1 + (x1.length:Int))).toNat),.v (.bool true)],kr,kr⟩
 ·rw [BL hb2] at h
  refine AT ?_;refine AN AC [(4,.st x0),(5,.st []),(6,.v (.bool false))] [] ?_;refine AW ?_;have hq:=OI h; subst hq;exact ⟨⟨Fr 23 [(4,.st x0),(5,.st []),(6,.v (.bool false))],[]⟩,AI,.inr rfl,[.st x0,.st [],.v (.bool false)],kr,kr⟩
def Gv:List AV->Option AV:=Dz Cn (fun a=>Bt a.1 a.2.1) Cr
theorem G0:XOk 48 Gv:=by
 refine BJ Tryd.func48 (c:=D5) ?h2 ⟨Tryd.call48⟩ Cn (fun a=>Bt a.1 a.2.1) Cr (fun a=>(by show 2<=23; decide)) ?h3 ?h4
 case h2=>kernel_rfl
 case h3=>intro b; kernel_rfl
 case h4=>exact fun a b h=>GF a.1 a.2.1 b h
/- strings.Cut -/
noncomputable def Fo:Code:=B6 Tryd.f26
def Ca (x0:(List UInt8)) (x1:(List UInt8)):Option ((List UInt8)×(List UInt8)×Bool) :=
 (Bt x0 x1).bind fun v1 =>
 some (v1.1,v1.2.1,v1.2.2)
def EJ:Cs ((List UInt8)×(List UInt8)×Unit):=(csC cdS (csC cdS csN))
def EL (r:(List UInt8)×(List UInt8)×Bool):AV:= .tp [cdS.enc r.1,cdS.enc r.2.1,cdB.enc r.2.2]
theorem H5 (x0:(List UInt8)) (x1:(List UInt8)) (r:(List UInt8)×(List UInt8)×Bool) (h:Ca x0 x1=some r):Sem E0 ⟨none,false⟩ Fo ⟨Fr 13 (BA 0 (EJ.enc (x0,x1,()))),[]⟩ fun e s'=>(e = .normal\/e = .ret)/\∃ xs,EM E0.P s'.fr s'.hp Tryd.f26.results.toList=some xs/\Ea xs=EL r:=by
 unfold Ca at h;refine Bq (CM (s1:=⟨Fr 13 [(0,.st x0),(1,.st x1)],[]⟩) AI ?_);refine AN AC [(0,.st x0),(1,.st x1)] [] ?_;refine AD ?_;obtain ⟨v1,hv1,h⟩:=OB h;refine AG (s1:=⟨Fr 13 [(4,.st v1.1),(5,.st v1.2.1),(6,.v (.bool v1.2.2))],[]⟩) ?_ ?_
 ·refine AB (n:=13) AC 2 [(7,.st x0),(8,.st x1)] [] kr ?_
  refine Am (caps:=[]) (xs:=[.st x0,.st x1]) (u:=(x0,x1,())) rfl rfl G0 rfl (AA rfl) kr kr (A4 (BX (c:=cdS) (v:=x0)) (A4 (BX (c:=cdS) (v:=x1)) Ch)) (.inl kr) hv1 ?_;exact AQ AC
 refine AW ?_;have hq:=OI h; subst hq;exact ⟨⟨Fr 13 [(4,.st v1.1),(5,.st v1.2.1),(6,.v (.bool v1.2.2))],[]⟩,AI,.inr rfl,[.st v1.1,.st v1.2.1,.v (.bool v1.2.2)],kr,kr⟩
def JE:List AV->Option AV:=Dz EJ (fun a=>Ca a.1 a.2.1) EL
theorem JI:XOk 26 JE:=by
 refine BJ Tryd.func26 (c:=Fo) ?h2 ⟨Tryd.call26⟩ EJ (fun a=>Ca a.1 a.2.1) EL (fun a=>(by show 2<=13; decide)) ?h3 ?h4
 case h2=>kernel_rfl
 case h3=>intro b; kernel_rfl
 case h4=>exact fun a b h=>H5 a.1 a.2.1 b h
section
variable {E:Env}{cx:Cx}{ops:Array Oper}{rest rest':List Oper}{K:St->Prop}{n n0 k:Nat}{l:List (Nat×AV)}{hp:Hp}{α β:Type}{s:Cs α}{F:α->Option β}{er:β->AV}{u:α}{v:β}{fid:FuncId}{w:World}{Z:Nat->Prop}{R:List RI}
theorem Om (hX:XOk fid (Dz s F er)) (hh:HR w Z R hp) (hg:GI E0 w Z){xs:List AV}{us:List Value}(hvs:VRs w Z R xs us) (hv:SeesD hp s xs u) (hok:Bm (er v)=true\/xs.all Bn=true/\s.dec xs=some u) (hF:F u=some v) :
  Ret E0.P fid us.toArray w fun x w'=>∃ Z',HR w' Z' R hp/\VR w' Z' R (er v) x/\Step w Z R hp w' Z' R hp/\w.grownBy w' none/\(Bm (er v)=true->Z'=Z):=by
 by_cases hf:Bm (er v)=true
 ·obtain ⟨ys,hv,hd⟩:=hv
  have hz1:∀ c,(Z c\/own R hp c)->c < w.heap.size:=fun c hc=>hc.elim (hh.zlt c) (fun ⟨b,B,r,h1,_,h3,h4⟩=>h4 ▸ hh.rltL h1 h3)
  have hg1:GI E0 w (fun c=>Z c\/own R hp c):=fun q y hy=>(hg q y hy).mono (fun _ _=>rfl) (fun _ h=> .inl h) (fun _ _ h=>h)
  refine Ret.mono (hX.2 ys (er v) (Ep hd hF) w _ us hz1 hg1 (hv w Z R us hh hvs)) fun x w' ⟨hs,hx⟩=>?_
  exact ⟨Z,hh.keep hs.size (fun c hc=>hs.block c hc (by simp)),GA hf hx,⟨hs.os,hs.tape,hs.output,hs.size,fun c hc _=>hs.block c hc (by simp),fun _ h=> .inl h,fun _ h=>h,fun _ h=> .inl h,fun _ _ h=>h⟩,hs,fun _=>rfl⟩
 ·obtain ⟨hn,hd⟩:=hok.resolve_left hf
  refine Ret.mono (hX.2 xs (er v) (Ep hd hF) w Z us hh.zlt hg (I1 hn hvs)) fun x w' ⟨hs,hx⟩=>?_
  obtain ⟨k1,k2⟩:=hh.addZ hs
  exact ⟨_,k1,hx.up,k2,hs,fun h=>absurd h hf⟩
theorem PE (hP:E.P=E0.P) (hG:E.G=E0.G){caps xs:List AV}{d:Option Nat}{f:Operand}{args:Array Operand}{tys:Array TypeId}{ty:TypeId}{pos:String}{af:Array Edge}{g:Option (Nat×Bool)}{base:Bs}{a:Act}(hX:XOk fid (Dz s F er)) (sr:SR E base w Z R ⟨Fr n l,hp⟩ a)
  (hf:opA E (Fr n l) f=some (.fn fid [] caps)) (ha:ED (opA E (Fr n l)) args.toList=some xs) (hv:SeesD hp s (xs++caps) u) (hok:Bm (er v)=true\/(xs++caps).all Bn=true/\s.dec (xs++caps)=some u) (hF:F u=some v) {Q:Act->World->Prop}
  (kk:∀ x w' Z',HR w' Z' R hp->VR w' Z' R (er v) x->Step w Z R hp w' Z' R hp->w.grownBy w' none->(Bm (er v)=true->Z'=Z)->SR E base w' Z' R ⟨Fr n l,hp⟩ a->Q (a.put d x) w'):Lw E.P ⟨d,.call ⟨.value f,args,tys⟩,ty,pos,af,g⟩ a w Q:=by
 have hρ:∀ o x,opA E (Fr n l) o=some x->VR w Z R x (a.eval o):=fun o x e=>opA_vr sr o x e
 have hvf:=hρ _ _ hf
 have hva:∃ uc:List Value,a.eval f = .func (.func fid) #[] uc.toArray/\VRs w Z R caps uc:=by
  generalize a.eval f=vf at hvf
  cases hvf with
  | fn hl hl' hx hy =>
   rename_i u1 u2
   have e1:u1=[]:=by simpa using hl
   subst e1
   exact ⟨u2,rfl,hl',hy⟩
 obtain ⟨uc,hva,huc⟩:=hva
 have hcl:A5 E.P fid:=hP ▸ hX.1
 unfold Lw
 rw [DL (uf:=[]) (uc:=uc) rfl hva rfl hcl w]
 have hret:=Om hX sr.hh (by have:=sr.gl; exact fun q y hy=>this q y (by rw [hG]; exact hy)) ((opds_vr hρ ha).append huc) hv hok hF
 rw [<-hP] at hret
 simp only [List.nil_append]
 refine Ret.mono hret fun x w' ⟨Z',k1,k2,k3,k4,k5⟩=>?_
 exact kk x w' Z' k1 k2 k3 k4 k5 (sr.step k1 k3)
theorem EO (hP:E.P=E0.P) (hG:E.G=E0.G) (hX:XOk fid (Dz s F er)){caps xs:List AV}{d:Nat}{f:Operand}{args:Array Operand}{tys:Array TypeId}{ty:TypeId}{pos:String}{af:Array Edge}{g:Option (Nat×Bool)}(hr:rest=⟨some d,.call ⟨.value f,args,tys⟩,ty,pos,af,g⟩::rest') (hw:Au ops (Fr n l) ⟨some d,.call ⟨.value f,args,tys⟩,ty,pos,af,g⟩=some true)
  (hf:opA E (Fr n l) f=some (.fn fid [] caps)) (ha:ED (opA E (Fr n l)) args.toList=some xs) (hv:SeesD hp s (xs++caps) u) (hok:Bm (er v)=true\/(xs++caps).all Bn=true/\s.dec (xs++caps)=some u) (hF:F u=some v) (kk:RunL E cx ops rest' ⟨Fr n ((d,er v)::l),hp⟩ K):RunL E cx ops rest ⟨Fr n l,hp⟩ K:=by
 subst hr
 intro ro base Q a w Z R hro sr hy q
 refine HU rfl (wantedA_eq sr hw) (PE hP hG hX sr hf ha hv hok hF fun x w' Z' k1 k2 k3 k4 k5 sr'=>?_)
 refine kk ro base Q _ w' Z' R hro ?_ (hy.step sr.hh k3) fun s' a' w'' Z'' R'' hK sr'' st'=>q s' a' w'' Z'' R'' hK sr'' (k3.trans st')
 have:=sr'.put (d:=some d) k2
 rwa [Br] at this
end
section
variable {w w':World}{Z Z':Nat->Prop}{R R':List RI}{h h':Hp}
end
theorem SeeV.view {hp:Hp}{x y:AV}(n:Nat) (h:C2 hp n x=some y):SeeV hp x y:=fun _w _Z _R u hh hv=>Ha hh n x y u hv h
theorem SeeD.sm {α:Type}{n:Nat}{hp:Hp}{c:Cd α}{x:AV}{v:α}(h:Sm n hp c x v):SeeD hp c x v:=let ⟨y,h1,h2⟩:=h; ⟨y,.view n h1,h2⟩
/-- A cell of its own that holds a frozen thing. -/
theorem SeeD.cel {α:Type}{hp:Hp}{c:Cd α}{p:AV}{v:α}{k:Nat}{t:TypeId}{L:List Asn}{i:Nat}(ht:T hp L) (hi:L[i]? = some (cel p k t (c.enc v))):SeeD hp (cdP c) p v:=by
 obtain ⟨F,⟨b,rfl,_,hb⟩,_⟩:=(ht.front i hi).act
 exact .sm (n:=3) (.pt hb (BX (n:=0)))
theorem SeeD.ag {α:Type}{hp:Hp}{s:Cs α}{hn:∀ x,(s.enc x).all Gk=true}{xs:List AV}{a:α}(h:SeesD hp s xs a):SeeD hp (cdA s hn) (.ag xs) a:=by
 obtain ⟨ys,k1,k2⟩:=h
 exact ⟨.ag ys,.ag k1,k2⟩
theorem SeeV.fn {hp:Hp}{f:FuncId}{cs cs':List AV}(hs:Sees hp cs cs'):SeeV hp (.fn f [] cs) (.fn f [] cs'):=fun w Z R u hh hv=>by
 cases hv with
 | fn hl hl' hx hy =>
  have:=hs w Z R _ hh ⟨hl',hy⟩
  exact .fn hl this.len (fun i x u h=>by simp at h) this.at_
/-- A closure over cells. -/
theorem SeeD.fn {α:Type}{hp:Hp}{f:FuncId}{s:Cs α}{hn:∀ x,(s.enc x).all D1=true}{q:List AV}{a:α}(h:SeesD hp s q a):SeeD hp (cdF f s hn) (.fn f [] q) a:=by
 obtain ⟨ys,k1,k2⟩:=h
 refine ⟨.fn f [] ys,.fn k1,?_⟩
 show (if f=f then s.dec ys else none)=_
 rw [if_pos rfl]; exact k2
section
variable {E:Env}{cx:Cx}{ops:Array Oper}{rest rest':List Oper}{K:St->Prop}{n n0 k:Nat}{l:List (Nat×AV)}{hp:Hp}
end
/-- A nil slice is an empty frozen one, in structs too. -/
def UpV (x y:AV):Prop:=∀ (w:World) (Z:Nat->Prop) (R:List RI) (u:Value),VR w Z R x u->VR w Z R y u
theorem UpV.refl {x:AV}:UpV x x:=fun _ _ _ _ h=>h
theorem UpV.nil {k:Nat}:UpV .e0 (.sl k []):=fun _ _ _ _ h=>by
 cases h
 exact .sl (us:=[]) rfl rfl (Nat.le_refl _) (by unfold maxLen; omega) (fun h=>by omega) (fun i x u hx=>by simp at hx)
def UpVs:List AV->List AV->Prop
 | [],[]=>True
 | x::xs,y::ys=>UpV x y/\UpVs xs ys
 | _,_=>False
theorem UpVs.len:∀ {xs ys:List AV},UpVs xs ys->xs.length=ys.length
 | [],[],_=>rfl
 | _::_,_::_,h=>by simp [UpVs.len h.2]
 | [],_::_,h=>h.elim
 | _::_,[],h=>h.elim
theorem UpVs.get:∀ {xs ys:List AV}{i:Nat}{y:AV},UpVs xs ys->ys[i]? = some y->∃ x,xs[i]? = some x/\UpV x y
 | _::_,_::_,0,_,h,e=>by simp at e; subst e; exact ⟨_,rfl,h.1⟩
 | _::_,_::_,i + 1,_,h,e=>by
  obtain ⟨x,h1,h2⟩:=UpVs.get (i:=i) h.2 (by simpa using e)
  exact ⟨x,by simpa using h1,h2⟩
 | [],[],_,_,_,e=>by simp at e
 | [],_::_,_,_,h,_=>h.elim
 | _::_,[],_,_,h,_=>h.elim
theorem UpV.ag {xs ys:List AV}(h:UpVs xs ys):UpV (.ag xs) (.ag ys):=fun w Z R u hv=>by
 cases hv with
 | ag hl h1 hx =>
  refine .ag (by rw [hl,h.len]) h1 fun i y u hy hu=>?_
  obtain ⟨x,k1,k2⟩:=h.get hy
  exact k2 _ _ _ _ (hx i x u k1 hu)
def LkU (l:List (Nat×AV)):List (Nat×AV)->Prop
 | []=>True
 | (t,z)::r=>(∃ x,lk l t=some x/\UpV x z)/\LkU l r
theorem LkU.at_ {l:List (Nat×AV)}:∀ {l':List (Nat×AV)},LkU l l'->∀ t z,lk l' t=some z->∃ x,lk l t=some x/\UpV x z
 | [],_,t,z,h=>by cases h
 | (k,z0)::r,⟨h1,h2⟩,t,z,h=>by
  rw [Dv] at h
  split at h
  ·next hk=>injection h with h; subst hk h; exact h1
  ·exact h2.at_ t z h
/-- A value in which an own thing is frozen. -/
def FzU (e z x y:AV):Prop:=∀ (w:World) (Z Z':Nat->Prop) (R:List RI) (u:Value),(∀ c,Z c->Z' c)->(∀ v,VR w Z R e v->VR w Z' R z v)->VR w Z R x u->VR w Z' R y u
section
variable {e z:AV}
theorem FzU.refl {x:AV}:FzU e z x x:=fun _ _ _ _ _ hz _ h=>h.mono (fun _ _=>rfl) hz (fun _ _ h=>h)
theorem Cg:FzU e z e z:=fun _ _ _ _ u _ k h=>k u h
def FzUs (e z:AV):List AV->List AV->Prop
 | [],[]=>True
 | x::xs,y::ys=>FzU e z x y/\FzUs e z xs ys
 | _,_=>False
theorem FzUs.len:∀ {xs ys:List AV},FzUs e z xs ys->xs.length=ys.length
 | [],[],_=>rfl
 | _::_,_::_,h=>by simp [FzUs.len h.2]
 | [],_::_,h=>h.elim
 | _::_,[],h=>h.elim
theorem FzUs.get:∀ {xs ys:List AV}{i:Nat}{y:AV},FzUs e z xs ys->ys[i]? = some y->∃ x,xs[i]? = some x/\FzU e z x y
 | _::_,_::_,0,_,h,q=>by simp at q; subst q; exact ⟨_,rfl,h.1⟩
 | _::_,_::_,i + 1,_,h,q=>by
  obtain ⟨x,h1,h2⟩:=FzUs.get (i:=i) h.2 (by simpa using q)
  exact ⟨x,by simpa using h1,h2⟩
 | [],[],_,_,_,q=>by simp at q
 | [],_::_,_,_,h,_=>h.elim
 | _::_,[],_,_,h,_=>h.elim
theorem FzU.ag {xs ys:List AV}(h:FzUs e z xs ys):FzU e z (.ag xs) (.ag ys):=fun w Z Z' R u hz k hv=>by
 cases hv with
 | ag hl h1 hx =>
  refine .ag (by rw [hl,h.len]) h1 fun i y u hy hu=>?_
  obtain ⟨x,k1,k2⟩:=h.get hy
  exact k2 _ _ _ _ _ hz k (hx i x u k1 hu)
theorem FzU.fn {f:FuncId}{xs ys:List AV}(h:FzUs e z xs ys):FzU e z (.fn f [] xs) (.fn f [] ys):=fun w Z Z' R u hz k hv=>by
 cases hv with
 | fn hl hl' hx hy =>
  refine .fn hl (by rw [hl',h.len]) (fun i x u h=>by simp at h) fun i y u hy' hu=>?_
  obtain ⟨x,k1,k2⟩:=h.get hy'
  exact k2 _ _ _ _ _ hz k (hy i x u k1 hu)
end
def LkF (l:List (Nat×AV)) (e z:AV):List (Nat×AV)->Prop
 | []=>True
 | (t,y)::r=>(∃ x,lk l t=some x/\FzU e z x y)/\LkF l e z r
theorem LkF.at_ {l:List (Nat×AV)}{e z:AV}:∀ {l':List (Nat×AV)},LkF l e z l'->∀ t y,lk l' t=some y->∃ x,lk l t=some x/\FzU e z x y
 | [],_,t,y,h=>by cases h
 | (k,z0)::r,⟨h1,h2⟩,t,y,h=>by
  rw [Dv] at h
  split at h
  ·next hk=>injection h with h; subst hk h; exact h1
  ·exact h2.at_ t y h
theorem Ci {E:Env}{n:Nat}{l l':List (Nat×AV)}{hp:Hp}{α:Type}{o:Oc α}{e:AV}{x:α}{L:List Asn}(ht:T hp (own_ o e x::L)) (hl:LkF l e (o.cd.enc x) l'):∃ hp',WkY E ⟨Fr n l,hp⟩ ⟨Fr n l',hp'⟩/\T hp' L:=by
 obtain ⟨F,p,hn',_,hk⟩:=ht.act
 refine ⟨KB F hp,fun base w Z R a sr=>?_,hk _ fun b hb _=>LG hb⟩
 have hown:∀ c,(∃ b ∈ F,∃ r,R[b]? = some r/\c=r.c)->own R hp c:=fun c ⟨b,hb,r,hr,hc⟩=>by
  obtain ⟨B,k1,k2⟩:=o.own p hb
  exact ⟨b,B,r,k1,k2,hr,hc.symm⟩
 have hown':∀ c,own R (KB F hp) c->own R hp c:=fun c ⟨b,B,r,h1,h2,h3,h4⟩=>⟨b,B,r,(GU.1 h1).2,h2,h3,h4⟩
 have hzo:∀ c,(Z c\/∃ b ∈ F,∃ r,R[b]? = some r/\c=r.c)->Z c\/own R hp c:=fun c hc=>hc.imp_right (hown c)
 have up':∀ {x:AV} {u:Value} {R':List RI},VR w Z R' x u->VR w (fun c=>Z c\/∃ b ∈ F,∃ r,R[b]? = some r/\c=r.c) R' x u:=fun hv=>hv.mono (fun _ _=>rfl) (fun _ h=> .inl h) (fun _ _ h=>h)
 refine ⟨fun c=>Z c\/∃ b ∈ F,∃ r,R[b]? = some r/\c=r.c,R,⟨⟨by simp [KB,sr.hh.len],fun b B hB=>?_,fun b b' B B' r r' h1 f1 h2 f2 g1 g2 e=>?_,fun c hc=>?_⟩,⟨?_,fun t x hx=>?_⟩,?_,fun g x hx=>up' (sr.gl g x hx),sr.bs⟩,⟨rfl,rfl,rfl,Nat.le_refl _,fun _ _ _=>rfl,fun c hc=> .inl (hown' c hc),fun _ h=> .inl h,fun c hc=>(hzo c hc).imp_right .inl,fun _ _ h=>h⟩⟩
 ·obtain ⟨hb,hB⟩:=GU.1 hB
  obtain ⟨r,arr,us,g1,g2,g3,g4,g5,g6,g7,g8,g9,g10⟩:=sr.hh.blk b B hB
  refine ⟨r,arr,us,g1,g2,g3,g4,g5,g6,fun hf=> .inl (g7 hf),fun hf hc=>?_,⟨g9.len,fun i x u hx hu=>up' (g9.at_ i x u hx hu)⟩,g10⟩
  rcases hc with hc | ⟨b',hb',r',hr',hc⟩
  ·exact g8 hf hc
  ·obtain ⟨B',k1,k2⟩:=o.own p hb'
   have:=sr.hh.inj b b' B B' r r' hB hf k1 k2 g1 hr' hc
   exact hb (this ▸ hb')
 ·exact sr.hh.inj b b' B B' r r' (GU.1 h1).2 f1 (GU.1 h2).2 f2 g1 g2 e
 ·rcases hzo c hc with hc | ⟨b,B,r,k1,_,k3,k4⟩
  ·exact sr.hh.zlt c hc
  ·exact k4 ▸ sr.hh.rltL k1 k3
 ·rw [De]; have:=sr.fr.1; rw [De] at this; exact this
 ·rw [DM] at hx
  split at hx
  ·next ht =>
   injection hx with hx
   obtain ⟨x0,h1,hf⟩:=hl.at_ t x hx
   exact hf _ _ _ _ _ (fun c h=> .inl h) (fun v hv=>(o.vr sr.hh p hv).up) (sr.fr.2 t x0 (by rw [DM,if_pos ht,h1]))
  ·cases hx
 ·exact sr.mks.imp fun q h3 h4 h5=>⟨h3,fun hc=>(hzo q hc).elim h4 h5,fun ho=>h5 (hown' q ho)⟩
/- trestle/evening.number -/
noncomputable def C9:Code:=B6 Tryd.f50
def A3 (x0:(List UInt8)):Nat->Int->Int->Option ((Int) ⊕ (Int×Bool))
 | 0,_,_=>none
 | f + 1,c5,c6 =>
  if (decide (c6 < (x0.length:Int)))=true then
  (idx x0 c6).bind fun v8 =>
  (if (decide ((v8.toNat:Int) < 48))=true then some true else (idx x0 c6).bind fun v9 =>
  some (decide ((v9.toNat:Int) > 57))).bind fun j11 =>
  if j11=true then
  some (.inr (0,false))
  else
  (idx x0 c6).bind fun v15 =>
  A3 x0 f (wr .i64 ((wr .i64 (10 * c5)) + (wr .i64 (wr .u8 ((v15.toNat:Int) - 48))))) (wr .i64 (c6 + 1))
  else
  some (.inl c5)
def Bh (x0:(List UInt8)):Option (Int×Bool) :=
 (if ((x0.length:Int)==0)=true then some true else if (decide ((x0.length:Int) > 9))=true then some true else if (decide ((x0.length:Int) > 1))=true then (idx x0 0).bind fun v1 =>
 some ((v1.toNat:Int)==48) else some false).bind fun j3 =>
 if j3=true then
 some (0,false)
 else
 (A3 x0 100000 0 0).bind fun r18 =>
 match r18 with
 | (.inl w19) =>
  some (w19,true)
 | (.inr w20) =>
  some (w20.1,w20.2)
def DB:Cs ((List UInt8)×Unit):=(csC cdS csN)
def DE (r:Int×Bool):AV:= .tp [cdI.enc r.1,cdB.enc r.2]
theorem Dg (x0:(List UInt8)):∀ (f:Nat) (c5:Int) (c6:Int) (r:(Int) ⊕ (Int×Bool)),A3 x0 f c5 c6=some r->SemN E0 ⟨none,false⟩ (pc C9 [1,1,1,0,1,0,0]) f ⟨Fr 49 [(0,.st x0),(4,.v (.int .i64 c5)),(5,.v (.int .i64 c6))],[]⟩ (fun e s=>match r with
 | (.inl w)=>e=(.exit 0)/\Wk E0 s ⟨Fr 49 [(4,.v (.int .i64 w))],[]⟩
 | (.inr w)=>e = .ret/\Wk E0 s ⟨Fr 49 [(2,.v (.int .i64 w.1)),(3,.v (.bool w.2))],[]⟩):=by
 intro f;induction f with
 | zero=>intro c5 c6 r h; cases h
 | succ f ih0 =>
  intro c5 c6 r h
  have ih:=fun (c5:Int) (c6:Int)=>ih0 c5 c6 r
  unfold A3 at h;refine BM ?_;refine AD ?_;refine AN AC [(0,.st x0),(4,.v (.int .i64 c5)),(5,.v (.int .i64 c6)),(27,.v (.bool (decide (c6 < (x0.length:Int)))))] [] ?_;refine AP (b:=(decide (c6 < (x0.length:Int)))) kr (fun hb7=>?_) (fun hb7=>?_)
  ·rw [if_pos hb7] at h
   refine AT ?_;refine AD ?_;refine AU ?_;refine AD ?_;refine AD ?_;obtain ⟨v8,hv8,h⟩:=OB h;obtain ⟨j11,hj11,h⟩:=OB h;refine AG (s1:=⟨Fr 49 [(0,.st x0),(4,.v (.int .i64 c5)),(5,.v (.int .i64 c6)),(39,.v (.bool j11))],[]⟩) ?_ ?_
   ·refine AB (n:=49) AC 2 [(0,.st x0),(4,.v (.int .i64 c5)),(5,.v (.int .i64 c6)),(30,.st x0),(31,.v (.int .i64 c6))] [] kr ?_
    refine AK AC 0 rfl (Bu (AA rfl) rfl (Dw (a:= .st x0) (b:= .v (.int .i64 c6)) kr kr (Cu (bs:=x0) (ki:= .i64) kr hv8))) ?_;refine AB (n:=49) AC 2 [(0,.st x0),(4,.v (.int .i64 c5)),(5,.v (.int .i64 c6)),(34,.v (.bool (decide ((v8.toNat:Int) < 48))))] [] kr ?_;rcases BE (decide ((v8.toNat:Int) < 48)) with hc16 | hc16
    ·rw [if_pos hc16] at hj11
     rw [hc16];refine AB (n:=49) AC 5 [(0,.st x0),(4,.v (.int .i64 c5)),(5,.v (.int .i64 c6)),(35,.tp []),(36,.tp []),(37,.tp []),(38,.tp []),(39,.v (.bool true))] [] kr ?_;have hq:=OI hj11; subst hq;exact AJ rfl AI
    ·rw [BL hc16] at hj11
     rw [hc16];refine AB (n:=49) AC 2 [(0,.st x0),(4,.v (.int .i64 c5)),(5,.v (.int .i64 c6)),(34,.v (.bool false)),(35,.st x0),(36,.v (.int .i64 c6))] [] kr ?_;obtain ⟨v9,hv9,hj11⟩:=OB hj11;refine AK AC 0 rfl (Bu kr rfl (Dw (a:= .st x0) (b:= .v (.int .i64 c6)) kr kr (Cu (bs:=x0) (ki:= .i64) kr hv9))) ?_;refine AB (n:=49) AC 2 [(0,.st x0),(4,.v (.int .i64 c5)),(5,.v (.int .i64 c6)),(35,.st x0),(36,.v (.int .i64 c6)),(37,.v (.int .u8 (v9.toNat:Int))),(38,.v (.bool (decide ((v9.toNat:Int) > 57)))),(39,.v (.bool (decide ((v9.toNat:Int) > 57))))] [] kr ?_;have hq:=OI hj11; subst hq;exact AJ rfl AI
   refine AP (b:=j11) kr (fun hb12=>?_) (fun hb12=>?_)
   ·rw [if_pos hb12] at h
    refine AN AC [(2,.v (.int .i64 0)),(3,.v (.bool false))] [] ?_;refine AW ?_;have hq:=OI h; subst hq;exact ⟨rfl,AI⟩
   ·rw [BL hb12] at h
    refine AT ?_;obtain ⟨v15,hv15,h⟩:=OB h;refine AG (s1:=⟨Fr 49 [(0,.st x0),(4,.v (.int .i64 (wr .i64 ((wr .i64 (10 * c5)) + (wr .i64 (wr .u8 ((v15.toNat:Int) - 48))))))),(5,.v (.int .i64 c6))],[]⟩) ?_ ?_
    ·refine AB (n:=49) AC 4 [(0,.st x0),(5,.v (.int .i64 c6)),(41,.v (.int .i64 (wr .i64 (10 * c5)))),(42,.st x0),(43,.v (.int .i64 c6))] [] kr ?_
     refine AK AC 0 rfl (Bu (AA rfl) rfl (Dw (a:= .st x0) (b:= .v (.int .i64 c6)) kr kr (Cu (bs:=x0) (ki:= .i64) kr hv15))) ?_;exact AQ AC
    refine CP AC [(0,.st x0),(4,.v (.int .i64 (wr .i64 ((wr .i64 (10 * c5)) + (wr .i64 (wr .u8 ((v15.toNat:Int) - 48))))))),(5,.v (.int .i64 (wr .i64 (c6 + 1))))] [] ?_;exact AY (s1:=⟨Fr 49 [(0,.st x0),(4,.v (.int .i64 (wr .i64 ((wr .i64 (10 * c5)) + (wr .i64 (wr .u8 ((v15.toNat:Int) - 48))))))),(5,.v (.int .i64 (wr .i64 (c6 + 1))))],[]⟩) AI (ih (wr .i64 ((wr .i64 (10 * c5)) + (wr .i64 (wr .u8 ((v15.toNat:Int) - 48))))) (wr .i64 (c6 + 1)) h)
  ·rw [BL hb7] at h
   refine BW ?_;have hq:=OI h; subst hq;exact ⟨rfl,AI⟩
theorem GS (x0:(List UInt8)) (r:Int×Bool) (h:Bh x0=some r):Sem E0 ⟨none,false⟩ C9 ⟨Fr 49 (BA 0 (DB.enc (x0,()))),[]⟩ fun e s'=>(e = .normal\/e = .ret)/\∃ xs,EM E0.P s'.fr s'.hp Tryd.f50.results.toList=some xs/\Ea xs=DE r:=by
 unfold Bh at h;refine Bq (CM (s1:=⟨Fr 49 [(0,.st x0)],[]⟩) AI ?_);refine AN AC [(0,.st x0)] [] ?_;refine AD ?_;refine AD ?_;obtain ⟨j3,hj3,h⟩:=OB h;refine AG (s1:=⟨Fr 49 [(0,.st x0),(23,.v (.bool j3))],[]⟩) ?_ ?_
 ·refine AB (n:=49) AC 4 [(0,.st x0),(9,.v (.bool ((x0.length:Int)==0)))] [] kr ?_
  rcases BE ((x0.length:Int)==0) with hc21 | hc21
  ·rw [if_pos hc21] at hj3
   rw [hc21];refine AB (n:=49) AC 14 [(0,.st x0),(23,.v (.bool true))] [] kr ?_;have hq:=OI hj3; subst hq;exact AJ rfl AI
  ·rw [BL hc21] at hj3
   rw [hc21];refine AB (n:=49) AC 5 [(0,.st x0),(14,.v (.bool (decide ((x0.length:Int) > 9))))] [] kr ?_;rcases BE (decide ((x0.length:Int) > 9)) with hc22 | hc22
   ·rw [if_pos hc22] at hj3
    rw [hc22];refine AB (n:=49) AC 9 [(0,.st x0),(23,.v (.bool true))] [] kr ?_;have hq:=OI hj3; subst hq;exact AJ rfl AI
   ·rw [BL hc22] at hj3
    rw [hc22];refine AB (n:=49) AC 4 [(0,.st x0),(14,.v (.bool false)),(18,.v (.bool (decide ((x0.length:Int) > 1))))] [] kr ?_;rcases BE (decide ((x0.length:Int) > 1)) with hc23 | hc23
    ·rw [if_pos hc23] at hj3
     rw [hc23];refine AB (n:=49) AC 1 [(0,.st x0),(14,.v (.bool false)),(18,.v (.bool true)),(19,.st x0)] [] kr ?_;obtain ⟨v1,hv1,hj3⟩:=OB hj3;refine AK AC 0 rfl (Bu kr rfl (Dw (a:= .st x0) (b:= .v (.int .i64 0)) kr kr (Cu (bs:=x0) (ki:= .i64) kr hv1))) ?_;refine AB (n:=49) AC 3 [(0,.st x0),(23,.v (.bool ((v1.toNat:Int)==48)))] [] kr ?_;have hq:=OI hj3; subst hq;exact AJ rfl AI
    ·rw [BL hc23] at hj3
     rw [hc23];refine AB (n:=49) AC 5 [(0,.st x0),(23,.v (.bool false))] [] kr ?_;have hq:=OI hj3; subst hq;exact AJ rfl AI
 refine AP (b:=j3) kr (fun hb4=>?_) (fun hb4=>?_)
 ·rw [if_pos hb4] at h
  refine AN AC [(2,.v (.int .i64 0)),(3,.v (.bool false))] [] ?_;refine AW ?_;have hq:=OI h; subst hq;exact ⟨⟨Fr 49 [(2,.v (.int .i64 0)),(3,.v (.bool false))],[]⟩,AI,.inr rfl,[.v (.int .i64 0),.v (.bool false)],kr,kr⟩
 ·rw [BL hb4] at h
  refine AT ?_;refine AN AC [(0,.st x0),(4,.v (.int .i64 0))] [] ?_;refine AD ?_;refine AN AC [(0,.st x0),(4,.v (.int .i64 0)),(5,.v (.int .i64 0))] [] ?_;refine AU ?_;obtain ⟨r18,hr18,h⟩:=OB h;refine Bp (n:=100000) ?_;rcases r18 with w19 | w20
  ·try dsimp only at h
   refine Ah (AY (s1:=⟨Fr 49 [(0,.st x0),(4,.v (.int .i64 0)),(5,.v (.int .i64 0))],[]⟩) AI (Dg x0 _ 0 0 _ hr18)) ?_;refine AN AC [(2,.v (.int .i64 w19)),(3,.v (.bool true))] [] ?_;refine AW ?_;have hq:=OI h; subst hq;exact ⟨⟨Fr 49 [(2,.v (.int .i64 w19)),(3,.v (.bool true))],[]⟩,AI,.inr rfl,[.v (.int .i64 w19),.v (.bool true)],kr,kr⟩
  ·try dsimp only at h
   refine Ah (AY (s1:=⟨Fr 49 [(0,.st x0),(4,.v (.int .i64 0)),(5,.v (.int .i64 0))],[]⟩) AI (Dg x0 _ 0 0 _ hr18)) ?_;have hq:=OI h; subst hq;exact ⟨⟨Fr 49 [(2,.v (.int .i64 w20.1)),(3,.v (.bool w20.2))],[]⟩,AI,.inr rfl,[.v (.int .i64 w20.1),.v (.bool w20.2)],kr,kr⟩
def HJ:List AV->Option AV:=Dz DB (fun a=>Bh a.1) DE
theorem HM:XOk 50 HJ:=by
 refine BJ Tryd.func50 (c:=C9) ?h2 ⟨Tryd.call50⟩ DB (fun a=>Bh a.1) DE (fun a=>(by show 1<=49; decide)) ?h3 ?h4
 case h2=>kernel_rfl
 case h3=>intro b; kernel_rfl
 case h4=>exact fun a b h=>GS a.1 b h
/- strings.Index -/
noncomputable def Ev:Code:=B6 Tryd.f34
def BF (x0:(List UInt8)) (x1:(List UInt8)):Option (Int) :=
 (BB x0 x1).bind fun v1 =>
 some v1
def Da:Cs ((List UInt8)×(List UInt8)×Unit):=(csC cdS (csC cdS csN))
def Dd (r:Int):AV:=cdI.enc r
theorem Gt (x0:(List UInt8)) (x1:(List UInt8)) (r:Int) (h:BF x0 x1=some r):Sem E0 ⟨none,false⟩ Ev ⟨Fr 8 (BA 0 (Da.enc (x0,x1,()))),[]⟩ fun e s'=>(e = .normal\/e = .ret)/\∃ xs,EM E0.P s'.fr s'.hp Tryd.f34.results.toList=some xs/\Ea xs=Dd r:=by
 unfold BF at h;refine Bq (CM (s1:=⟨Fr 8 [(0,.st x0),(1,.st x1)],[]⟩) AI ?_);refine AN AC [(0,.st x0),(1,.st x1)] [] ?_;refine AD ?_;obtain ⟨v1,hv1,h⟩:=OB h;refine AG (s1:=⟨Fr 8 [(4,.v (.int .i64 v1))],[]⟩) ?_ ?_
 ·refine AB (n:=8) AC 2 [(5,.st x0),(6,.st x1)] [] kr ?_
  refine Am (caps:=[]) (xs:=[.st x0,.st x1]) (u:=(x0,x1,())) rfl rfl D0 rfl (AA rfl) kr kr (A4 (BX (c:=cdS) (v:=x0)) (A4 (BX (c:=cdS) (v:=x1)) Ch)) (.inl kr) hv1 ?_;exact AQ AC
 refine AW ?_;have hq:=OI h; subst hq;exact ⟨⟨Fr 8 [(4,.v (.int .i64 v1))],[]⟩,AI,.inr rfl,[.v (.int .i64 v1)],kr,kr⟩
def IA:List AV->Option AV:=Dz Da (fun a=>BF a.1 a.2.1) Dd
theorem IG:XOk 34 IA:=by
 refine BJ Tryd.func34 (c:=Ev) ?h2 ⟨Tryd.call34⟩ Da (fun a=>BF a.1 a.2.1) Dd (fun a=>(by show 2<=8; decide)) ?h3 ?h4
 case h2=>kernel_rfl
 case h3=>intro b; kernel_rfl
 case h4=>exact fun a b h=>Gt a.1 a.2.1 b h
/-- An own block is shortened. -/
theorem Lh {E:Env}{n d:Nat}{l:List (Nat×AV)}{hp:Hp}{b k q m:Nat}{t:TypeId}{es zs:List AV}(hb:hp[b]? = some (some ⟨k,t,es++zs,false⟩)) (_:q<=m):WkY E ⟨Fr n ((d,.rf b 0 q m)::l),hp⟩ ⟨Fr n ((d,.rf b 0 q q)::l),hp.set b (some ⟨k,t,es,false⟩)⟩:=by
 intro base w Z R a sr
 obtain ⟨r,arr,us,g1,g2,g3,g4,g5,g6,g7,g8,g9,g10⟩:=sr.hh.blk b _ hb
 have hel:(es++zs).take es.length=es:=by rw [List.take_append_of_le_length (Nat.le_refl _),List.take_of_length_le (Nat.le_refl _)]
 have hput:=sr.hh.put (w':=w) (es:=es) (us:=us.take es.length) (arr:=arr) hb rfl g1 ⟨rfl,rfl,rfl,Nat.le_refl _,fun _ _ _=>rfl⟩ g3 g4 (by have:(es++zs).length<=r.cap:=g5; rw [List.length_append] at this; omega) (by have:=g9.take es.length; rwa [hel] at this) (fun i u hu=>by
  rw [List.getElem?_take] at hu
  split at hu
  ·exact g10 i u hu
  ·cases hu)
 refine ⟨Z,R,⟨hput.1,⟨?_,fun t x hx=>?_⟩,sr.mks.step hput.2,sr.gl.step sr.hh hput.2,sr.bs⟩,hput.2⟩
 ·have:=sr.fr.1; rw [De] at this ⊢; exact this
 ·have hold:∀ x,(Fr n ((d,.rf b 0 q m)::l))[t]? = some (some x)->VR w Z R x (a.tmps.getD t undef):=fun x h=>sr.fr.2 t x h
  rw [DM] at hx
  by_cases ht:t < n
  ·rw [if_pos ht] at hx
   injection hx with hx
   rw [Dv] at hx
   by_cases hd:d=t
   ·subst hd
    rw [if_pos rfl] at hx
    injection hx with hx
    subst hx
    have h2:=hold (.rf b 0 q m) (by rw [DM,if_pos ht,Dv,if_pos rfl])
    generalize a.tmps.getD d undef=u at h2
    cases h2 with
    | rf hr h0 h1 h2 hm=>exact .rf hr (Nat.le_refl _) (Nat.le_trans h0 h1) h2 hm
   ·rw [if_neg hd] at hx
    exact hold x (by rw [DM,if_pos ht,Dv,if_neg hd,hx])
  ·rw [if_neg ht] at hx; cases hx
def N1 (i:Int) (m:Nat):Bool:=decide (0 < m)&&(decide (0<=i)&&decide (i<=(m:Int)))
section
variable {E:Env}{cx:Cx}{ops:Array Oper}{rest rest':List Oper}{K:St->Prop}{n k d:Nat}{l:List (Nat×AV)}{hp:Hp}{t ty:TypeId}{α:Type}{c:Cd α}{xs:List α}{e:AV}{L:List Asn}
theorem Lc (hE:EnvOk E){x y:Operand}{i:Int}{ki:IntKind}{t':TypeId}{pos:String}{af:Array Edge}{g:Option (Nat×Bool)}(ht:T hp (own_ (ocL k t (ocV c)) e xs::L)) (hc:N1 i xs.length=true) (hr:rest=⟨some d,.slice ty x none (some y) none,t',pos,af,g⟩::rest') (hw:Au ops (Fr n l) ⟨some d,.slice ty x none (some y) none,t',pos,af,g⟩=some true)
  (hx:opA E (Fr n l) x=some e) (hy:opA E (Fr n l) y=some (.v (.int ki i))) (hu:E.P.underlying ty=some (.slice t)) (hs:Az E.P t=some k) (kk:∀ e' hp',T hp' (own_ (ocL k t (ocV c)) e' (xs.take i.toNat)::L)->RunL E cx ops rest' ⟨Fr n ((d,e')::l),hp'⟩ K):RunL E cx ops rest ⟨Fr n l,hp⟩ K:=by
 unfold N1 at hc
 simp only [Bool.and_eq_true,decide_eq_true_eq] at hc
 obtain ⟨h0,h1,h2⟩:=hc
 obtain ⟨F,p,hn',hk,_⟩:=ht.act
 rcases p with ⟨rfl,rfl,_⟩ | ⟨b,es,F',rfl,hb,rfl,h4⟩
 ·simp at h0
 ·obtain ⟨rfl,rfl⟩:=h4.leaf_inv
  have hi:i.toNat<=xs.length:=by omega
  have hsl:Ei E.P hp ty (.rf b 0 xs.length xs.length) none (some (.v (.int ki i))) none=some (.rf b 0 i.toNat xs.length):=by
   unfold Ei
   have hni:¬ i < 0:=by omega
   simp only [hu,hb,Ib,hni,if_false,hs]
   rw [if_pos ⟨Nat.zero_le _,hi,Nat.le_refl _,.inl rfl,trivial⟩,if_pos h0]
   simp
  refine AS hE 0 hr (Bu hw rfl (Em hx rfl (by show (opA E (Fr n l) y).map some=_; rw [hy]; rfl) rfl hsl)) ?_
  refine Lf (Lh (es:=(xs.take i.toNat).map c.enc) (zs:=(xs.drop i.toNat).map c.enc) (by rw [hb,<-List.map_append,List.take_append_drop]) hi) ?_
  have hlt:=Fp hb
  have hl:(xs.take i.toNat).length=i.toNat:=by rw [List.length_take]; omega
  refine kk _ _ (hk _ _ [b] (.inr ⟨b,(xs.take i.toNat).map c.enc,[],by rw [hl],by simp [hlt],rfl,GJ⟩) (by simp) (fun b' hb' _=>?_) (fun b' hb'=> .inl hb'))
  rw [List.getElem?_set,if_neg (by intro e; subst e; simp at hb')]
end
/- strings.genSplit -/
noncomputable def BY:Code:=B6 Tryd.f65
def BI (x0:(List UInt8)) (x1:(List UInt8)) (x3:Int):Option ((Int)) :=
 if (decide (x3 < 0))=true then
 (En x0 x1).bind fun v5 =>
 some (wr .i64 (v5 + 1))
 else
 some x3
def Al (x0:(List UInt8)) (x1:(List UInt8)) (x2:Int) (r7:Int):Nat->(List UInt8)->Int->(List (List UInt8))->Option (((List UInt8)×Int×(List (List UInt8))))
 | 0,_,_,_=>none
 | f + 1,c15,c16,c17 =>
  if (decide (c16 < (wr .i64 ((mnI r7 (wr .i64 ((x0.length:Int) + 1))) - 1))))=true then
  (BF c15 x1).bind fun v19 =>
  if (decide (v19 < 0))=true then
  some (c15,c16,c17)
  else
  if (CF 0 (wr .i64 (v19 + x2)) c15.length)=true then
  (idx c17 c16).bind fun v25 =>
  if (CF (wr .i64 (v19 + (x1.length:Int))) (c15.length:Int) c15.length)=true then
  Al x0 x1 x2 r7 f ((c15.take (c15.length:Int).toNat).drop (wr .i64 (v19 + (x1.length:Int))).toNat) (wr .i64 (c16 + 1)) (c17.set c16.toNat ((c15.take (wr .i64 (v19 + x2)).toNat).drop (0:Int).toNat))
  else none
  else none
  else
  some (c15,c16,c17)
def CB (x0:(List UInt8)) (x1:(List UInt8)) (x2:Int) (x3:Int):Option ((List (List UInt8))) :=
 if (x3==0)=true then
 some ([]:(List (List UInt8)))
 else
 if (x1==[])=true then
 none
 else
 (BI x0 x1 x3).bind fun r7 =>
 if (LM 16 (mnI r7 (wr .i64 ((x0.length:Int) + 1))))=true then
 (Al x0 x1 x2 r7 100000 x0 0 (List.replicate (mnI r7 (wr .i64 ((x0.length:Int) + 1))).toNat ([]:(List UInt8)))).bind fun r30 =>
 (idx r30.2.2 r30.2.1).bind fun v33 =>
 if (N1 (wr .i64 (r30.2.1 + 1)) (r30.2.2.set r30.2.1.toNat r30.1).length)=true then
 some ((r30.2.2.set r30.2.1.toNat r30.1).take (wr .i64 (r30.2.1 + 1)).toNat)
 else none
 else none
theorem EY {L:List Asn}{hp:Hp}(x0:(List UInt8)) (x1:(List UInt8)) (x3:Int) (x2:Int) (r:(Int)) (h:BI x0 x1 x3=some r) (hT:T hp (L)):SemY E0 ⟨none,false⟩ (pc BY [1,1,1,0,1]) ⟨Fr 66 [(0,.st x0),(1,.st x1),(2,.v (.int .i64 x2)),(3,.v (.int .i64 x3)),(20,.v (.bool (decide (x3 < 0))))],hp⟩ (fun e s=>e = .normal/\∃ s2,(∃ (h':Hp),T h' (L)/\s2=⟨Fr 66 [(0,.st x0),(1,.st x1),(2,.v (.int .i64 x2)),(3,.v (.int .i64 r))],h'⟩)/\WkY E0 s s2):=by
 unfold BI at h;refine Ax (b:=(decide (x3 < 0))) kr (fun hb4=>?_) (fun hb4=>?_)
 ·rw [if_pos hb4] at h
  refine AF ?_;refine Ad AC 2 ?_;obtain ⟨v5,hv5,h⟩:=OB h;refine EO (v:=v5) (caps:=[]) (xs:=[.st x0,.st x1]) (u:=(x0,x1,())) rfl rfl IF rfl (AA rfl) kr kr (C7 (Eb (c:=cdS) (v:=x0)) (C7 (Eb (c:=cdS) (v:=x1)) SeesD.nil)) (.inl kr) hv5 ?_;refine Ad AC 2 ?_;refine BV rfl ?_;have hq:=OI h; subst hq;exact ⟨rfl,_,⟨hp,hT,rfl⟩,WkY.f1⟩
 ·rw [BL hb4] at h
  refine SemY.skip ?_;have hq:=OI h; subst hq;exact ⟨rfl,_,⟨hp,hT,rfl⟩,WkY.f1⟩
theorem EZ {L:List Asn}(x0:(List UInt8)) (x1:(List UInt8)) (x2:Int) (r7:Int) (e14:AV):∀ (f:Nat) (c15:(List UInt8)) (c16:Int) (c17:(List (List UInt8))) (r:((List UInt8)×Int×(List (List UInt8)))),Al x0 x1 x2 r7 f c15 c16 c17=some r->∀ (hp:Hp),T hp ((own_ (ocL 1 9 (ocV cdS)) e14 c17)::L)->SemYN E0 ⟨none,false⟩ (pc BY [1,1,1,1,1,1,1,1,0,0,0]) f ⟨Fr 66 [(0,.st c15),(1,.st x1),(2,.v (.int .i64 x2)),(3,.v (.int .i64 (wr .i64 ((mnI r7 (wr .i64 ((x0.length:Int) + 1))) - 1)))),(9,e14),(10,.v (.int .i64 c16))],hp⟩ (fun e s=>e=(.exit 0)/\∃ s2,(∃ (h':Hp),T h' ((own_ (ocL 1 9 (ocV cdS)) e14 r.2.2)::L)/\s2=⟨Fr 66 [(0,.st r.1),(9,e14),(10,.v (.int .i64 r.2.1))],h'⟩)/\WkY E0 s s2):=by
 intro f;induction f with
 | zero=>intro c15 c16 c17 r h; cases h
 | succ f ih0 =>
  intro c15 c16 c17 r h  hp hT;unfold Al at h;refine EP ?_;refine AM ?_
  let p1:Nat×AV:=(10,.v (.int .i64 c16))
  let p2:Nat×AV:=(3,.v (.int .i64 (wr .i64 ((mnI r7 (wr .i64 ((x0.length:Int) + 1))) - 1))))
  let p3:Nat×AV:=(2,.v (.int .i64 x2))
  refine Aa AC [(0,.st c15),(1,.st x1),p3,p2,(9,e14),p1,(36,.v (.bool (decide (c16 < (wr .i64 ((mnI r7 (wr .i64 ((x0.length:Int) + 1))) - 1))))))] ?_;refine Ax (b:=(decide (c16 < (wr .i64 ((mnI r7 (wr .i64 ((x0.length:Int) + 1))) - 1))))) kr (fun hb18=>?_) (fun hb18=>?_)
  ·rw [if_pos hb18] at h
   refine SemY.skip ?_;refine B9 ?_;refine AM ?_;refine AF ?_;refine Ad AC 2 ?_;obtain ⟨v19,hv19,h⟩:=OB h;refine EO (v:=v19) (caps:=[]) (xs:=[.st c15,.st x1]) (u:=(c15,x1,())) rfl rfl IG rfl (AA rfl) kr kr (C7 (Eb (c:=cdS) (v:=c15)) (C7 (Eb (c:=cdS) (v:=x1)) SeesD.nil)) (.inl kr) hv19 ?_
   let p4:Nat×AV:=(11,.v (.int .i64 v19))
   refine Av AC [(0,.st c15),(1,.st x1),p3,p2,(9,e14),p1,p4] ?_;refine AM ?_;refine Aa AC [(0,.st c15),(1,.st x1),p3,p2,(9,e14),p1,p4,(41,.v (.bool (decide (v19 < 0))))] ?_;refine Ax (b:=(decide (v19 < 0))) kr (fun hb20=>?_) (fun hb20=>?_)
   ·rw [if_pos hb20] at h
    refine SemY.exit ?_;have hq:=OI h; subst hq;exact ⟨rfl,_,⟨hp,hT,rfl⟩,WkY.f1⟩
   ·rw [BL hb20] at h
    refine SemY.skip ?_;refine AM ?_;refine AF ?_;refine Ad AC 6 ?_;by_cases hk24:(CF 0 (wr .i64 (v19 + x2)) c15.length)=true
    case neg=>rw [if_neg hk24] at h; cases h
    rw [if_pos hk24] at h;refine AS AC 0 rfl (Bu (AA rfl) rfl (Em (a:= .st c15) (l:=none) (u:=(some (.v (.int .i64 (wr .i64 (v19 + x2)))))) (m:=none) kr kr kr rfl (EG (bs:=c15) (lo:=0) (hi:=(wr .i64 (v19 + x2))) kr rfl (Fs (Kd hk24)) hk24))) ?_;obtain ⟨v25,hv25,h⟩:=OB h;refine AS AC 0 rfl (Bu (AA rfl) rfl (AO (a:=e14) (b:= .v (.int .i64 c16)) kr kr (N4 (bytes:=16) hT kr hv25))) ?_;obtain ⟨hp26,hs27,hT28⟩:=MR (P:=Tryd.prog) (ty:=9) (y:= .st ((c15.take (wr .i64 (v19 + x2)).toNat).drop (0:Int).toNat)) (v':=((c15.take (wr .i64 (v19 + x2)).toNat).drop (0:Int).toNat)) hT (EB hv25).2 kr kr kr;refine RunL.store AC (y:=eAt e14 c16.toNat) (z:= .st ((c15.take (wr .i64 (v19 + x2)).toNat).drop (0:Int).toNat)) rfl (AA rfl) kr kr hs27 ?_;refine BV rfl (SemY.fr (l':=[(0,.st c15),(1,.st x1),p3,p2,(9,e14),p1,p4]) kr ?_);refine AM ?_;refine AF ?_;refine Ad AC 5 ?_;by_cases hk29:(CF (wr .i64 (v19 + (x1.length:Int))) (c15.length:Int) c15.length)=true
    case neg=>rw [if_neg hk29] at h; cases h
    rw [if_pos hk29] at h;refine AS AC 0 rfl (Bu (AA rfl) rfl (Em (a:= .st c15) (l:=(some (.v (.int .i64 (wr .i64 (v19 + (x1.length:Int))))))) (u:=none) (m:=none) kr kr kr rfl (EG (bs:=c15) (lo:=(wr .i64 (v19 + (x1.length:Int)))) (hi:=(c15.length:Int)) kr (Fs (IW hk29)) rfl hk29))) ?_;refine Av AC [(0,.st ((c15.take (c15.length:Int).toNat).drop (wr .i64 (v19 + (x1.length:Int))).toNat)),(1,.st x1),p3,p2,(9,e14),p1] ?_;refine AF ?_;refine Ad AC 3 ?_;refine BV rfl ?_;exact Bx WkY.f1 (ih0 ((c15.take (c15.length:Int).toNat).drop (wr .i64 (v19 + (x1.length:Int))).toNat) (wr .i64 (c16 + 1)) (c17.set c16.toNat ((c15.take (wr .i64 (v19 + x2)).toNat).drop (0:Int).toNat)) _ h  hp26 hT28)
  ·rw [BL hb18] at h
   refine SemY.exit ?_;have hq:=OI h; subst hq;exact ⟨rfl,_,⟨hp,hT,rfl⟩,WkY.f1⟩
theorem E6 {L:List Asn}{hp:Hp}(x0:(List UInt8)) (x1:(List UInt8)) (x2:Int) (x3:Int) (r:(List (List UInt8))) (h:CB x0 x1 x2 x3=some r) (hT:T hp (L)):SemY E0 ⟨none,false⟩ BY ⟨Fr 66 (BA 0 [.st x0,.st x1,.v (.int .i64 x2),.v (.int .i64 x3)]),hp⟩ fun x s'=>(x = .normal\/x = .ret)/\∃ ys,EM E0.P s'.fr s'.hp Tryd.f65.results.toList=some ys/\(fun v h'=>∃ (z0:AV),v=z0/\T h' ((own_ (ocL 1 9 (ocV cdS)) z0 r)::L)) (Ea ys) s'.hp:=by
 unfold CB at h
 let p1:Nat×AV:=(3,.v (.int .i64 x3))
 let p2:Nat×AV:=(2,.v (.int .i64 x2))
 refine Fb (F3 (s1:=⟨Fr 66 [(0,.st x0),(1,.st x1),p2,p1],hp⟩) WkY.f1 ?_);refine Aa AC [(0,.st x0),(1,.st x1),p2,p1] ?_;refine AM ?_;refine Aa AC [(0,.st x0),(1,.st x1),p2,p1,(13,.v (.bool (x3==0)))] ?_;refine Ax (b:=(x3==0)) kr (fun hb1=>?_) (fun hb1=>?_)
 ·rw [if_pos hb1] at h
  refine Aa AC [(8,.e0)] ?_;refine SemY.ret ?_;have hq:=OI h; subst hq
  have hT2:=(T.e0 (k:=1) (ty:=9) (o:=(ocV cdS)) hT)
  exact ⟨⟨Fr 66 [(8,.e0)],hp⟩,WkY.f1,.inr rfl,[.e0],kr,⟨.e0,rfl,hT2⟩⟩
 ·rw [BL hb1] at h
  refine SemY.skip ?_;refine AM ?_;refine Aa AC [(0,.st x0),(1,.st x1),p2,p1,(15,.v (.bool (x1==[])))] ?_;refine Ax (b:=(x1==[])) kr (fun hb3=>?_) (fun hb3=>?_)
  ·rw [if_pos hb3] at h
   refine AM ?_;cases h
  ·rw [BL hb3] at h
   refine SemY.skip ?_;refine AM ?_;refine Aa AC [(0,.st x0),(1,.st x1),p2,p1,(20,.v (.bool (decide (x3 < 0))))] ?_;obtain ⟨r7,hr7,h⟩:=OB h;refine GL (EY x0 x1 x3 x2 _ hr7 hT) ?_;rintro _ ⟨hp8,hT9,rfl⟩
   let p3:Nat×AV:=(3,.v (.int .i64 (mnI r7 (wr .i64 ((x0.length:Int) + 1)))))
   refine Aa AC [(0,.st x0),(1,.st x1),p2,p3] ?_;refine AM ?_;refine AF ?_;refine Ad AC 1 ?_;by_cases hk10:(LM 16 (mnI r7 (wr .i64 ((x0.length:Int) + 1))))=true
   case neg=>rw [if_neg hk10] at h; cases h
   rw [if_pos hk10] at h;obtain ⟨e14,hp11,hb12,hT13⟩:=MA (P:=Tryd.prog) (o:=(ocV cdS)) (k:=1) (t:=9) (ty:=71) (bytes:=16) (kn:= .i64) (kc:= .i64) (m:=(mnI r7 (wr .i64 ((x0.length:Int) + 1)))) (x0:=[]) hT9 (fun _=>⟨rfl,rfl⟩) kr kr hk10;refine AS AC 0 rfl (LX (AA rfl) rfl kr (NF (x:= .v (.int .i64 (mnI r7 (wr .i64 ((x0.length:Int) + 1))))) (y:= .v (.int .i64 (mnI r7 (wr .i64 ((x0.length:Int) + 1))))) kr kr hb12)) ?_;refine Av AC [(0,.st x0),(1,.st x1),p2,p3,(9,e14)] ?_
   let p4:Nat×AV:=(3,.v (.int .i64 (wr .i64 ((mnI r7 (wr .i64 ((x0.length:Int) + 1))) - 1))))
   refine Aa AC [(0,.st x0),(1,.st x1),p2,p4,(9,e14)] ?_;refine Aa AC [(0,.st x0),(1,.st x1),p2,p4,(9,e14),(10,.v (.int .i64 0))] ?_;refine AM ?_;refine B9 ?_;refine SemY.loop (n:=100000) ?_;obtain ⟨r30,hr30,h⟩:=OB h;refine Cb (Bx WkY.f1 (EZ x0 x1 x2 r7 e14 _ x0 0 (List.replicate (mnI r7 (wr .i64 ((x0.length:Int) + 1))).toNat ([]:(List UInt8))) _ hr30  hp11 hT13)) ?_;rintro _ ⟨hp31,hT32,rfl⟩;refine AM ?_;refine AF ?_;refine Ad AC 3 ?_;obtain ⟨v33,hv33,h⟩:=OB h;refine AS AC 0 rfl (Bu (AA rfl) rfl (AO (a:=e14) (b:= .v (.int .i64 r30.2.1)) kr kr (N4 (bytes:=16) hT32 kr hv33))) ?_;obtain ⟨hp34,hs35,hT36⟩:=MR (P:=Tryd.prog) (ty:=9) (y:= .st r30.1) (v':=r30.1) hT32 (EB hv33).2 kr kr kr;refine RunL.store AC (y:=eAt e14 r30.2.1.toNat) (z:= .st r30.1) rfl (AA rfl) kr kr hs35 ?_;refine BV rfl (SemY.fr (l':=[(9,e14),(10,.v (.int .i64 r30.2.1))]) kr ?_);refine AM ?_;refine AF ?_;refine Ad AC 3 ?_;by_cases hk37:(N1 (wr .i64 (r30.2.1 + 1)) (r30.2.2.set r30.2.1.toNat r30.1).length)=true
   case neg=>rw [if_neg hk37] at h; cases h
   rw [if_pos hk37] at h;refine Lc (ki:= .i64) (i:=(wr .i64 (r30.2.1 + 1))) AC hT36 hk37 rfl (AA rfl) kr kr kr kr ?_;intro e38 hp39 hT40;refine Av AC [(8,e38)] ?_;refine SemY.ret ?_;have hq:=OI h; subst hq;exact ⟨⟨Fr 66 [(8,e38)],hp39⟩,WkY.f1,.inr rfl,[e38],kr,⟨e38,rfl,hT40⟩⟩
/- strings.Split -/
noncomputable def D4:Code:=B6 Tryd.f49
def CI (x0:(List UInt8)) (x1:(List UInt8)):Option ((List (List UInt8))) :=
 (CB x0 x1 0 (-1)).bind fun v1 =>
 some v1
theorem GE {L:List Asn}{hp:Hp}(x0:(List UInt8)) (x1:(List UInt8)) (r:(List (List UInt8))) (h:CI x0 x1=some r) (hT:T hp (L)):SemY E0 ⟨none,false⟩ D4 ⟨Fr 8 (BA 0 [.st x0,.st x1]),hp⟩ fun x s'=>(x = .normal\/x = .ret)/\∃ ys,EM E0.P s'.fr s'.hp Tryd.f49.results.toList=some ys/\(fun v h'=>∃ (z0:AV),v=z0/\T h' ((own_ (ocL 1 9 (ocV cdS)) z0 r)::L)) (Ea ys) s'.hp:=by
 unfold CI at h;refine Fb (F3 (s1:=⟨Fr 8 [(0,.st x0),(1,.st x1)],hp⟩) WkY.f1 ?_);refine Aa AC [(0,.st x0),(1,.st x1)] ?_;refine AM ?_;refine AF ?_;refine Ad AC 2 ?_;obtain ⟨v1,hv1,h⟩:=OB h;refine JM (E:=E0) (e:=E0) rfl rfl AC rfl rfl (fid:=65) (caps:=[]) (xs:=[.st x0,.st x1,.v (.int .i64 0),.v (.int .i64 (-1))]) (fn:=Tryd.f65) (c:=BY) (Out:=fun v h'=>∃ (z0:AV),v=z0/\T h' ((own_ (ocL 1 9 (ocV cdS)) z0 v1)::L)) rfl (AA rfl) kr kr kr kr (by show 4<=66; decide) (E6 x0 x1 0 (-1) _ hv1 hT) ?_;rintro xx hp3 ⟨e2,hqhp3,hT4⟩; subst xx;refine Av AC [(4,e2)] ?_;refine SemY.ret ?_;have hq:=OI h; subst hq;exact ⟨⟨Fr 8 [(4,e2)],hp3⟩,WkY.f1,.inr rfl,[e2],kr,⟨e2,rfl,hT4⟩⟩
/- trestle/evening.evening -/
noncomputable def Ck:Code:=B6 Tryd.f27
def Ai (v1:(List (List UInt8))):Nat->Int->(List (List Int))->(List Int)->Option (((List (List Int))) ⊕ (Unit))
 | 0,_,_,_=>none
 | f + 1,c17,c19,c21 =>
  if (decide (c17 < ((v1++([[47]]:List (List UInt8))).length:Int)))=true then
  (idx (v1++([[47]]:List (List UInt8))) c17).bind fun v23 =>
  if (v23==[47])=true then
  if ((c21.length:Int)==0)=true then
  some (.inr ())
  else
  if (CK 24 (c19.length + ([c21]:List (List Int)).length))=true then
  Ai v1 f (wr .i64 (c17 + 1)) (c19++([c21]:List (List Int))) ([]:(List Int))
  else none
  else
  (Bh v23).bind fun v44 =>
  if (!v44.2)=true then
  some (.inr ())
  else
  if (CK 8 (c21.length + ([v44.1]:List Int).length))=true then
  Ai v1 f (wr .i64 (c17 + 1)) c19 (c21++([v44.1]:List Int))
  else none
  else
  some (.inl c19)
def BS (x0:(List UInt8)):Option ((List (List Int))×Bool) :=
 (CI x0 [32]).bind fun v1 =>
 if (CK 16 (v1.length + ([[47]]:List (List UInt8)).length))=true then
 (Ai v1 100000 0 ([]:(List (List Int))) ([]:(List Int))).bind fun r62 =>
 match r62 with
 | (.inl w63) =>
  some (w63,true)
 | (.inr w70) =>
  some (([]:(List (List Int))),false)
 else none
theorem DR {L:List Asn}(v1:(List (List UInt8))) (e12:AV):∀ (f:Nat) (c17:Int) (c19:(List (List Int))) (c21:(List Int)) (r:((List (List Int))) ⊕ (Unit)),Ai v1 f c17 c19 c21=some r->∀ (e18 e20:AV) (hp:Hp),T hp ((own_ (ocL 1 27 (ocV (cdL 1 cdI))) e18 c19)::(own_ (ocL 1 3 (ocV cdI)) e20 c21)::(own_ (ocL 1 9 (ocV cdS)) e12 (v1++([[47]]:List (List UInt8))))::L)->SemYN E0 ⟨none,false⟩ (pc Ck [1,1,1,0,1,0,0]) f ⟨Fr 41 [(4,e18),(5,e20),(13,e12),(14,.v (.int .i64 ((v1++([[47]]:List (List UInt8))).length:Int))),(15,.v (.int .i64 c17))],hp⟩ (fun e s=>match r with
 | (.inl w)=>e=(.exit 0)/\∃ s2,(∃ (e58:AV) (h':Hp),T h' ((own_ (ocL 1 27 (ocV (cdL 1 cdI))) e58 w)::L)/\s2=⟨Fr 41 [(4,e58)],h'⟩)/\WkY E0 s s2
 | (.inr w)=>e = .ret/\∃ s2,(∃ (h':Hp),T h' (L)/\s2=⟨Fr 41 [(2,.e0),(3,.v (.bool false))],h'⟩)/\WkY E0 s s2):=by
 intro f;induction f with
 | zero=>intro c17 c19 c21 r h; cases h
 | succ f ih0 =>
  intro c17 c19 c21 r h e18 e20 hp hT;unfold Ai at h;refine EP ?_
  let p1:Nat×AV:=(15,.v (.int .i64 c17))
  let p2:Nat×AV:=(14,.v (.int .i64 ((v1++([[47]]:List (List UInt8))).length:Int)))
  refine Aa AC [(4,e18),(5,e20),(13,e12),p2,p1,(16,.v (.bool (decide (c17 < ((v1++([[47]]:List (List UInt8))).length:Int)))))] ?_;refine AM ?_;refine Ax (b:=(decide (c17 < ((v1++([[47]]:List (List UInt8))).length:Int)))) kr (fun hb22=>?_) (fun hb22=>?_)
  ·rw [if_pos hb22] at h
   refine SemY.skip ?_;refine AM ?_;refine B9 ?_;refine AM ?_;refine AF ?_;obtain ⟨v23,hv23,h⟩:=OB h
   have hT24:=(hT.front 2 rfl)
   refine AS AC 0 rfl (Bu (AA rfl) rfl (AO (a:=e12) (b:= .v (.int .i64 c17)) kr kr (N4 (bytes:=16) hT24 kr hv23))) ?_;refine AS AC 0 rfl (Bu (AA rfl) rfl (Id (p:=eAt e12 c17.toNat) kr (Nd (y:= .st v23) (m:=1) (g:=false) hT24 (EB hv23).2 kr kr kr))) ?_;refine Av AC [(4,e18),(5,e20),(7,.st v23),(13,e12),p2,p1] ?_;refine AM ?_;refine Aa AC [(4,e18),(5,e20),(7,.st v23),(13,e12),p2,p1,(20,.v (.bool (v23==[47])))] ?_;refine Ax (b:=(v23==[47])) kr (fun hb25=>?_) (fun hb25=>?_)
   ·rw [if_pos hb25] at h
    refine AM ?_;refine AM ?_;refine AF ?_;refine Ad AC 1 ?_
    have hT26:=(hT24.front 2 rfl)
    refine AS AC 0 rfl (Bu (AA rfl) rfl (B8 (a:=e20) kr (Jd hT26 kr))) ?_;refine Av AC [(4,e18),(5,e20),(13,e12),p2,p1,(23,.v (.bool ((c21.length:Int)==0)))] ?_;refine Ax (b:=((c21.length:Int)==0)) kr (fun hb27=>?_) (fun hb27=>?_)
    ·rw [if_pos hb27] at h
     refine Aa AC [(2,.e0),(3,.v (.bool false))] ?_;refine SemY.ret ?_;have hq:=OI h; subst hq
     have hT28:=hT26.drop.drop.drop
     exact ⟨rfl,_,⟨hp,hT28,rfl⟩,WkY.f1⟩
    ·rw [BL hb27] at h
     refine SemY.skip ?_;refine AM ?_;refine AF ?_;refine Ad AC 2 ?_;obtain ⟨hp29,hw30,hT31⟩:=Ci (E:=E0) (n:=41) (l:=[(13,e12),p2,p1,(24,e18),(25,e20)]) (l':=[(13,e12),p2,p1,(24,e18),(25,.sl 1 (c21.map cdI.enc))]) hT26 ⟨⟨e12,kr,FzU.refl⟩,⟨.v (.int .i64 ((v1++([[47]]:List (List UInt8))).length:Int)),kr,FzU.refl⟩,⟨.v (.int .i64 c17),kr,FzU.refl⟩,⟨e18,kr,FzU.refl⟩,⟨e20,kr,Cg⟩,trivial⟩;refine Lf (WkY.trans WkY.f1 hw30) ?_;obtain ⟨e35,hp32,hb33,hT34⟩:=DK (P:=Tryd.prog) (bytes:=24) (k:=1) (t:=27) (ty:=43) (xs:=([c21]:List (List Int))) (n:=1) (JW (k:=1) (fun _=>⟨rfl,rfl,rfl⟩)) (D8 (c:=(cdL 1 cdI)) (xs:=([c21]:List (List Int))) hT31) rfl kr kr kr;refine AS AC 0 rfl (LX (AA rfl) rfl kr (IQ (xs:=Fh 0 [.sl 1 (c21.map cdI.enc)]) kr hb33)) ?_;by_cases hk40:(CK 24 (c19.length + ([c21]:List (List Int)).length))=true
     case neg=>rw [if_neg hk40] at h; cases h
     rw [if_pos hk40] at h
     have hT41:=((hT34.front 0 rfl).front 2 rfl)
     obtain ⟨e39,hp36,hb37,hT38⟩:=Dh (P:=Tryd.prog) (ty:=43) (ty2:=43) (bytes:=24) hT41 kr kr hk40;refine AS AC 0 rfl (MH (AA rfl) rfl kr kr (C3 (a:=e18) (b:=e35) kr kr hb37)) ?_;refine Av AC [(4,e39),(13,e12),p2,p1] ?_;refine Aa AC [(4,e39),(5,.e0),(13,e12),p2,p1] ?_;refine SemY.exit ?_;refine AF ?_;refine Ad AC 2 ?_;refine BV rfl ?_
     have hT42:=(T.e0 (k:=1) (ty:=3) (o:=(ocV cdI)) hT38)
     have hT43:=(((hT42.front 2 rfl).front 1 rfl).front 2 rfl)
     exact Bx WkY.f1 (ih0 (wr .i64 (c17 + 1)) (c19++([c21]:List (List Int))) ([]:(List Int)) _ h e39 .e0 hp36 hT43)
   ·rw [BL hb25] at h
    refine SemY.skip ?_;refine AM ?_;refine AF ?_;refine Ad AC 1 ?_;obtain ⟨v44,hv44,h⟩:=OB h;refine EO (v:=v44) (caps:=[]) (xs:=[.st v23]) (u:=(v23,())) rfl rfl HM rfl (AA rfl) kr kr (C7 (Eb (c:=cdS) (v:=v23)) SeesD.nil) (.inl kr) hv44 ?_;refine Av AC [(4,e18),(5,e20),(8,.v (.int .i64 v44.1)),(9,.v (.bool v44.2)),(13,e12),p2,p1] ?_;refine AM ?_;refine Aa AC [(4,e18),(5,e20),(8,.v (.int .i64 v44.1)),(13,e12),p2,p1,(34,.v (.bool (!v44.2)))] ?_;refine Ax (b:=(!v44.2)) kr (fun hb45=>?_) (fun hb45=>?_)
    ·rw [if_pos hb45] at h
     refine Aa AC [(2,.e0),(3,.v (.bool false))] ?_;refine SemY.ret ?_;have hq:=OI h; subst hq
     have hT46:=hT24.drop.drop.drop
     exact ⟨rfl,_,⟨hp,hT46,rfl⟩,WkY.f1⟩
    ·rw [BL hb45] at h
     refine SemY.skip ?_;refine AF ?_;refine Ad AC 2 ?_;obtain ⟨e50,hp47,hb48,hT49⟩:=DK (P:=Tryd.prog) (bytes:=8) (k:=1) (t:=3) (ty:=27) (xs:=([v44.1]:List Int)) (n:=1) (JW (k:=1) (fun _=>⟨rfl,rfl,rfl⟩)) (D8 (c:=cdI) (xs:=([v44.1]:List Int)) hT24) rfl kr kr kr;refine AS AC 0 rfl (LX (AA rfl) rfl kr (IQ (xs:=Fh 0 [.v (.int .i64 v44.1)]) kr hb48)) ?_;by_cases hk55:(CK 8 (c21.length + ([v44.1]:List Int).length))=true
     case neg=>rw [if_neg hk55] at h; cases h
     rw [if_pos hk55] at h
     have hT56:=((hT49.front 0 rfl).front 3 rfl)
     obtain ⟨e54,hp51,hb52,hT53⟩:=Dh (P:=Tryd.prog) (ty:=27) (ty2:=27) (bytes:=8) hT56 kr kr hk55;refine AS AC 0 rfl (MH (AA rfl) rfl kr kr (C3 (a:=e20) (b:=e50) kr kr hb52)) ?_;refine Av AC [(4,e18),(5,e54),(13,e12),p2,p1] ?_;refine AF ?_;refine Ad AC 2 ?_;refine BV rfl ?_
     have hT57:=(((hT53.front 1 rfl).front 1 rfl).front 2 rfl)
     exact Bx WkY.f1 (ih0 (wr .i64 (c17 + 1)) c19 (c21++([v44.1]:List Int)) _ h e18 e54 hp51 hT57)
  ·rw [BL hb22] at h
   refine SemY.exit ?_;have hq:=OI h; subst hq
   have hT60:=((hT.front 1 rfl).drop.front 1 rfl).drop
   exact ⟨rfl,_,⟨e18,hp,hT60,rfl⟩,WkY.f1⟩
theorem F9 {L:List Asn}{hp:Hp}(x0:(List UInt8)) (r:(List (List Int))×Bool) (h:BS x0=some r) (hT:T hp (L)):SemY E0 ⟨none,false⟩ Ck ⟨Fr 41 (BA 0 [.st x0]),hp⟩ fun x s'=>(x = .normal\/x = .ret)/\∃ ys,EM E0.P s'.fr s'.hp Tryd.f27.results.toList=some ys/\(fun v h'=>v = .tp [.sl 1 (r.1.map (cdL 1 cdI).enc),.v (.bool r.2)]/\T h' (L)) (Ea ys) s'.hp:=by
 unfold BS at h;refine Fb (F3 (s1:=⟨Fr 41 [(0,.st x0)],hp⟩) WkY.f1 ?_);refine Aa AC [(0,.st x0)] ?_;refine Aa AC [(0,.st x0),(4,.e0)] ?_;refine Aa AC [(0,.st x0),(4,.e0),(5,.e0)] ?_;refine AM ?_;refine AM ?_;refine AF ?_;refine Ad AC 1 ?_;obtain ⟨v1,hv1,h⟩:=OB h;refine JM (E:=E0) (e:=E0) rfl rfl AC rfl rfl (fid:=49) (caps:=[]) (xs:=[.st x0,.st [32]]) (fn:=Tryd.f49) (c:=D4) (Out:=fun v h'=>∃ (z0:AV),v=z0/\T h' ((own_ (ocL 1 9 (ocV cdS)) z0 v1)::L)) rfl (AA rfl) kr kr kr kr (by show 2<=8; decide) (GE x0 [32] _ hv1 hT) ?_;rintro xx hp3 ⟨e2,hqhp3,hT4⟩; subst xx;obtain ⟨e8,hp5,hb6,hT7⟩:=DK (P:=Tryd.prog) (bytes:=16) (k:=1) (t:=9) (ty:=71) (xs:=([[47]]:List (List UInt8))) (n:=1) (JW (k:=1) (fun _=>⟨rfl,rfl,rfl⟩)) (D8 (c:=cdS) (xs:=([[47]]:List (List UInt8))) hT4) rfl kr kr kr;refine AS AC 0 rfl (LX (AA rfl) rfl kr (IQ (xs:=Fh 0 [.st [47]]) kr hb6)) ?_;by_cases hk13:(CK 16 (v1.length + ([[47]]:List (List UInt8)).length))=true
 case neg=>rw [if_neg hk13] at h; cases h
 rw [if_pos hk13] at h
 have hT14:=((hT7.front 0 rfl).front 1 rfl)
 obtain ⟨e12,hp9,hb10,hT11⟩:=Dh (P:=Tryd.prog) (ty:=71) (ty2:=71) (bytes:=16) hT14 kr kr hk13;refine AS AC 0 rfl (MH (AA rfl) rfl kr kr (C3 (a:=e2) (b:=e8) kr kr hb10)) ?_;refine AS AC 0 rfl (Bu (AA rfl) rfl (B8 (a:=e12) kr (Jd hT11 kr))) ?_;refine Av AC [(4,.e0),(5,.e0),(13,e12),(14,.v (.int .i64 ((v1++([[47]]:List (List UInt8))).length:Int))),(15,.v (.int .i64 0))] ?_;refine B9 ?_
 have hT15:=(T.e0 (k:=1) (ty:=27) (o:=(ocV (cdL 1 cdI))) hT11)
 have hT16:=(T.e0 (k:=1) (ty:=3) (o:=(ocV cdI)) hT15)
 have hT61:=(((hT16.front 2 rfl).front 1 rfl).front 2 rfl)
 refine SemY.loop (n:=100000) ?_;obtain ⟨r62,hr62,h⟩:=OB h;rcases r62 with w63 | w70
 ·try dsimp only at h
  refine Cb (Bx WkY.f1 (DR v1 e12 _ 0 ([]:(List (List Int))) ([]:(List Int)) _ hr62 .e0 .e0 hp9 hT61)) ?_;rintro _ ⟨e64,hp65,hT66,rfl⟩
  let p1:Nat×AV:=(3,.v (.bool true))
  refine Aa AC [(2,e64),p1] ?_;refine SemY.ret ?_;have hq:=OI h; subst hq
  let p2:Nat×AV:=(2,.sl 1 (w63.map (cdL 1 cdI).enc))
  obtain ⟨hp67,hw68,hT69⟩:=Ci (E:=E0) (n:=41) (l:=[(2,e64),p1]) (l':=[p2,p1]) hT66 ⟨⟨e64,kr,Cg⟩,⟨.v (.bool true),kr,FzU.refl⟩,trivial⟩;exact ⟨⟨Fr 41 [p2,p1],hp67⟩,(WkY.trans (WkY.trans WkY.f1 hw68) WkY.f1),.inr rfl,[.sl 1 (w63.map (cdL 1 cdI).enc),.v (.bool true)],kr,⟨rfl,hT69⟩⟩
 ·try dsimp only at h
  refine Cb (Bx WkY.f1 (DR v1 e12 _ 0 ([]:(List (List Int))) ([]:(List Int)) _ hr62 .e0 .e0 hp9 hT61)) ?_;rintro _ ⟨hp71,hT72,rfl⟩;have hq:=OI h; subst hq
  have hT73:=(T.e0 (k:=1) (ty:=27) (o:=(ocV (cdL 1 cdI))) hT72)
  let p3:Nat×AV:=(3,.v (.bool false))
  let p4:Nat×AV:=(2,.sl 1 (([]:(List (List Int))).map (cdL 1 cdI).enc))
  obtain ⟨hp74,hw75,hT76⟩:=Ci (E:=E0) (n:=41) (l:=[(2,.e0),p3]) (l':=[p4,p3]) hT73 ⟨⟨.e0,kr,Cg⟩,⟨.v (.bool false),kr,FzU.refl⟩,trivial⟩;exact ⟨⟨Fr 41 [p4,p3],hp74⟩,(WkY.trans (WkY.trans WkY.f1 hw75) WkY.f1),.inr rfl,[.sl 1 (([]:(List (List Int))).map (cdL 1 cdI).enc),.v (.bool false)],kr,⟨rfl,hT76⟩⟩
def D6:Cs ((List UInt8)×Unit):=(csC cdS csN)
def D9 (r:(List (List Int))×Bool):AV:= .tp [(cdL 1 (cdL 1 cdI)).enc r.1,cdB.enc r.2]
def Gu:List AV->Option AV:=Dz D6 (fun a=>BS a.1) D9
theorem Gz:XOk 27 Gu:=by
 refine BJ Tryd.func27 (c:=Ck) ?h2 ⟨Tryd.call27⟩ D6 (fun a=>BS a.1) D9 (fun a=>(by show 1<=41; decide)) ?h3 ?h4
 case h2=>kernel_rfl
 case h3=>intro b; kernel_rfl
 case h4 =>
  intro a b h;refine Sem.mono (Il (F9 (L:=[]) (hp:=[]) a.1 b h T.nil)) fun e s' hs=>?_
  obtain ⟨h1,ys,h2,h3,-⟩:=hs;exact ⟨h1,ys,h2,h3⟩
/- trestle/evening.check -/
noncomputable def Ak:Env:=E0
theorem BZ:EnvOk Ak:=AC
noncomputable def B5:Code:=B6 Tryd.f28
def CY (x0:Int) (x1:(List Int)) (x2:(List (List Int))) (c9:Int) (v11:(List Int)) (c18:Int) (c20:Bool) (c22:Int) (v24:Int) (j32:Bool×(List Bool)) (v33:Bool):Option ((Int)) :=
 if (!v33)=true then
 some (wr .i64 (c18 + 1))
 else
 some c18
def BG (x0:Int) (x1:(List Int)) (x2:(List (List Int))) (c9:Int) (v11:(List Int)):Nat->Int->Bool->Bool->(List Bool)->Int->Option ((Int×Bool×Bool×(List Bool)))
 | 0,_,_,_,_,_=>none
 | f + 1,c18,c19,c20,c21,c22 =>
  if (decide (c22 < (v11.length:Int)))=true then
  (idx v11 c22).bind fun v24 =>
  (if (decide (v24 < 0))=true then some (c21,true) else some (c21,(decide (v24≥x0)))).bind fun j27 =>
  if j27.2=true then
  BG x0 x1 x2 c9 v11 f c18 c19 true j27.1 (wr .i64 (c22 + 1))
  else
  (if c19=true then some (true,j27.1) else (idx j27.1 v24).bind fun v29 =>
  some (v29,j27.1)).bind fun j32 =>
  (idx j32.2 v24).bind fun v33 =>
  (CY x0 x1 x2 c9 v11 c18 c20 c22 v24 j32 v33).bind fun r36 =>
  (idx j32.2 v24).bind fun v37 =>
  BG x0 x1 x2 c9 v11 f r36 j32.1 c20 (j32.2.set v24.toNat true) (wr .i64 (c22 + 1))
  else
  some (c18,c19,c20,c21)
def BR (x0:Int) (x1:(List Int)) (x2:(List (List Int))):Nat->Int->Bool->Bool->(List Bool)->Int->Option ((Int×Bool×Bool) ⊕ (Int))
 | 0,_,_,_,_,_=>none
 | f + 1,c5,c6,c7,c8,c9 =>
  if (decide (c9 < (x2.length:Int)))=true then
  (idx x2 c9).bind fun v11 =>
  (if ((v11.length:Int)==0)=true then some (c8,true) else if (decide ((x1.length:Int) > 0))=true then (idx x1 c9).bind fun v12 =>
  some (c8,((v11.length:Int)!=v12)) else some (c8,false)).bind fun j15 =>
  if j15.2=true then
  some (.inr 2)
  else
  (BG x0 x1 x2 c9 v11 100000 c5 c6 c7 j15.1 0).bind fun r44 =>
  BR x0 x1 x2 f r44.1 r44.2.1 r44.2.2.1 r44.2.2.2 (wr .i64 (c9 + 1))
  else
  some (.inl (c5,c6,c7))
def Ba (x0:Int) (x1:(List Int)) (x2:(List (List Int))):Option (Int) :=
 (if (decide ((x1.length:Int) > 0))=true then some ((x1.length:Int)!=(x2.length:Int)) else some false).bind fun j2 =>
 if j2=true then
 some 2
 else
 if (LM 1 x0)=true then
 (BR x0 x1 x2 100000 0 false false (List.replicate x0.toNat false) 0).bind fun r50 =>
 match r50 with
 | (.inl w51) =>
  if w51.2.2=true then
  some 6
  else
  if w51.2.1=true then
  some 5
  else
  if (decide (w51.1 < x0))=true then
  some 2
  else
  some 0
 | (.inr w55) =>
  some w55
 else none
def DZ:Cs (Int×(List Int)×(List (List Int))×Unit):=(csC cdI (csC (cdL 1 cdI) (csC (cdL 1 (cdL 1 cdI)) csN)))
def Dc (r:Int):AV:=cdI.enc r
theorem F8 (x0:Int) (x1:(List Int)) (x2:(List (List Int))) (c9:Int) (v11:(List Int)) (c18:Int) (c20:Bool) (c22:Int) (v24:Int) (j32:Bool×(List Bool)) (v33:Bool) (r:(Int)) (h:CY x0 x1 x2 c9 v11 c18 c20 c22 v24 j32 v33=some r):Sem Ak ⟨none,false⟩ (pc B5 [1,1,1,1,0,1,0,0,1,1,0,0,1,1,1,0,0,1,1,0,0,1,1,1,0,1]) ⟨Fr 91 [(0,.v (.int .i64 x0)),(1,.sl 1 (x1.map cdI.enc)),(7,.v (.int .i64 c18)),(8,.v (.bool j32.1)),(9,.v (.bool c20)),(10,.rf 0 0 j32.2.length j32.2.length),(14,.v (.int .i64 v24)),(27,.sl 1 (x2.map (cdL 1 cdI).enc)),(28,.v (.int .i64 (x2.length:Int))),(29,.v (.int .i64 c9)),(51,.sl 1 (v11.map cdI.enc)),(52,.v (.int .i64 (v11.length:Int))),(53,.v (.int .i64 c22)),(75,.v (.bool (!v33)))],[some ⟨1,4,(j32.2.map cdB.enc),false⟩]⟩ (fun e s=>e = .normal/\Wk Ak s ⟨Fr 91 [(0,.v (.int .i64 x0)),(1,.sl 1 (x1.map cdI.enc)),(7,.v (.int .i64 r)),(8,.v (.bool j32.1)),(9,.v (.bool c20)),(10,.rf 0 0 j32.2.length j32.2.length),(14,.v (.int .i64 v24)),(27,.sl 1 (x2.map (cdL 1 cdI).enc)),(28,.v (.int .i64 (x2.length:Int))),(29,.v (.int .i64 c9)),(51,.sl 1 (v11.map cdI.enc)),(52,.v (.int .i64 (v11.length:Int))),(53,.v (.int .i64 c22))],[some ⟨1,4,(j32.2.map cdB.enc),false⟩]⟩):=by
 unfold CY at h;refine AP (b:=(!v33)) kr (fun hb34=>?_) (fun hb34=>?_)
 ·rw [if_pos hb34] at h
  refine CP BZ [(0,.v (.int .i64 x0)),(1,.sl 1 (x1.map cdI.enc)),(7,.v (.int .i64 (wr .i64 (c18 + 1)))),(8,.v (.bool j32.1)),(9,.v (.bool c20)),(10,.rf 0 0 j32.2.length j32.2.length),(14,.v (.int .i64 v24)),(27,.sl 1 (x2.map (cdL 1 cdI).enc)),(28,.v (.int .i64 (x2.length:Int))),(29,.v (.int .i64 c9)),(51,.sl 1 (v11.map cdI.enc)),(52,.v (.int .i64 (v11.length:Int))),(53,.v (.int .i64 c22))] [some ⟨1,4,(j32.2.map cdB.enc),false⟩] ?_;have hq:=OI h; subst hq;exact ⟨rfl,(BP [0] ⟨⟨_,rfl,DN⟩,trivial⟩ ⟨lv,lv,lv,lv,lv,lv,lv,lv,lv,lv,lv,lv,lv,trivial⟩)⟩
 ·rw [BL hb34] at h
  refine AT ?_;have hq:=OI h; subst hq;exact ⟨rfl,(BP [0] ⟨⟨_,rfl,DN⟩,trivial⟩ ⟨lv,lv,lv,lv,lv,lv,lv,lv,lv,lv,lv,lv,lv,trivial⟩)⟩
theorem GQ (x0:Int) (x1:(List Int)) (x2:(List (List Int))) (c9:Int) (v11:(List Int)):∀ (f:Nat) (c18:Int) (c19:Bool) (c20:Bool) (c21:(List Bool)) (c22:Int) (r:(Int×Bool×Bool×(List Bool))),BG x0 x1 x2 c9 v11 f c18 c19 c20 c21 c22=some r->SemN Ak ⟨none,false⟩ (pc B5 [1,1,1,1,0,1,0,0,1,1,0,0,1,1,1,0,0]) f ⟨Fr 91 [(0,.v (.int .i64 x0)),(1,.sl 1 (x1.map cdI.enc)),(7,.v (.int .i64 c18)),(8,.v (.bool c19)),(9,.v (.bool c20)),(10,.rf 0 0 c21.length c21.length),(27,.sl 1 (x2.map (cdL 1 cdI).enc)),(28,.v (.int .i64 (x2.length:Int))),(29,.v (.int .i64 c9)),(51,.sl 1 (v11.map cdI.enc)),(52,.v (.int .i64 (v11.length:Int))),(53,.v (.int .i64 c22))],[some ⟨1,4,(c21.map cdB.enc),false⟩]⟩ (fun e s=>e=(.exit 2)/\Wk Ak s ⟨Fr 91 [(0,.v (.int .i64 x0)),(1,.sl 1 (x1.map cdI.enc)),(7,.v (.int .i64 r.1)),(8,.v (.bool r.2.1)),(9,.v (.bool r.2.2.1)),(10,.rf 0 0 r.2.2.2.length r.2.2.2.length),(27,.sl 1 (x2.map (cdL 1 cdI).enc)),(28,.v (.int .i64 (x2.length:Int))),(29,.v (.int .i64 c9))],[some ⟨1,4,(r.2.2.2.map cdB.enc),false⟩]⟩):=by
 have he:=BZ
 intro f;induction f with
 | zero=>intro c18 c19 c20 c21 c22 r h; cases h
 | succ f ih0 =>
  intro c18 c19 c20 c21 c22 r h
  have ih:=fun (c18:Int) (c19:Bool) (c20:Bool) (c21:(List Bool)) (c22:Int)=>ih0 c18 c19 c20 c21 c22 r
  unfold BG at h;refine BM ?_;refine AN he [(0,.v (.int .i64 x0)),(1,.sl 1 (x1.map cdI.enc)),(7,.v (.int .i64 c18)),(8,.v (.bool c19)),(9,.v (.bool c20)),(10,.rf 0 0 c21.length c21.length),(27,.sl 1 (x2.map (cdL 1 cdI).enc)),(28,.v (.int .i64 (x2.length:Int))),(29,.v (.int .i64 c9)),(51,.sl 1 (v11.map cdI.enc)),(52,.v (.int .i64 (v11.length:Int))),(53,.v (.int .i64 c22)),(54,.v (.bool (decide (c22 < (v11.length:Int)))))] [some ⟨1,4,(c21.map cdB.enc),false⟩] ?_;refine AD ?_;refine AP (b:=(decide (c22 < (v11.length:Int)))) kr (fun hb23=>?_) (fun hb23=>?_)
  ·rw [if_pos hb23] at h
   refine AT ?_;refine AD ?_;refine AU ?_;refine AD ?_;obtain ⟨v24,hv24,h⟩:=OB h;refine AG (s1:=⟨Fr 91 [(0,.v (.int .i64 x0)),(1,.sl 1 (x1.map cdI.enc)),(7,.v (.int .i64 c18)),(8,.v (.bool c19)),(9,.v (.bool c20)),(10,.rf 0 0 c21.length c21.length),(14,.v (.int .i64 v24)),(27,.sl 1 (x2.map (cdL 1 cdI).enc)),(28,.v (.int .i64 (x2.length:Int))),(29,.v (.int .i64 c9)),(51,.sl 1 (v11.map cdI.enc)),(52,.v (.int .i64 (v11.length:Int))),(53,.v (.int .i64 c22))],[some ⟨1,4,(c21.map cdB.enc),false⟩]⟩) ?_ ?_
   ·refine AK he 0 rfl (Bu (AA rfl) rfl (AO (a:= .sl 1 (v11.map cdI.enc)) (b:= .v (.int .i64 c22)) kr kr (Dq (e:=cdI.enc) (el:=3) (k:=1) (ki:= .i64) kr kr hv24))) ?_
    exact AQ he
   refine AD ?_;refine AD ?_;obtain ⟨j27,hj27,h⟩:=OB h;refine AG (s1:=⟨Fr 91 [(0,.v (.int .i64 x0)),(1,.sl 1 (x1.map cdI.enc)),(7,.v (.int .i64 c18)),(8,.v (.bool c19)),(9,.v (.bool c20)),(10,.rf 0 0 j27.1.length j27.1.length),(14,.v (.int .i64 v24)),(27,.sl 1 (x2.map (cdL 1 cdI).enc)),(28,.v (.int .i64 (x2.length:Int))),(29,.v (.int .i64 c9)),(51,.sl 1 (v11.map cdI.enc)),(52,.v (.int .i64 (v11.length:Int))),(53,.v (.int .i64 c22)),(63,.v (.bool j27.2))],[some ⟨1,4,(j27.1.map cdB.enc),false⟩]⟩) ?_ ?_
   ·refine AB (n:=91) he 3 [(0,.v (.int .i64 x0)),(1,.sl 1 (x1.map cdI.enc)),(7,.v (.int .i64 c18)),(8,.v (.bool c19)),(9,.v (.bool c20)),(10,.rf 0 0 c21.length c21.length),(14,.v (.int .i64 v24)),(27,.sl 1 (x2.map (cdL 1 cdI).enc)),(28,.v (.int .i64 (x2.length:Int))),(29,.v (.int .i64 c9)),(51,.sl 1 (v11.map cdI.enc)),(52,.v (.int .i64 (v11.length:Int))),(53,.v (.int .i64 c22)),(59,.v (.bool (decide (v24 < 0))))] [some ⟨1,4,(c21.map cdB.enc),false⟩] kr ?_
    rcases BE (decide (v24 < 0)) with hc39 | hc39
    ·rw [if_pos hc39] at hj27
     rw [hc39];refine AB (n:=91) he 4 [(0,.v (.int .i64 x0)),(1,.sl 1 (x1.map cdI.enc)),(7,.v (.int .i64 c18)),(8,.v (.bool c19)),(9,.v (.bool c20)),(10,.rf 0 0 c21.length c21.length),(14,.v (.int .i64 v24)),(27,.sl 1 (x2.map (cdL 1 cdI).enc)),(28,.v (.int .i64 (x2.length:Int))),(29,.v (.int .i64 c9)),(51,.sl 1 (v11.map cdI.enc)),(52,.v (.int .i64 (v11.length:Int))),(53,.v (.int .i64 c22)),(60,.tp []),(61,.tp []),(62,.tp []),(63,.v (.bool true))] [some ⟨1,4,(c21.map cdB.enc),false⟩] kr ?_;have hq:=OI hj27; subst hq;exact AJ rfl (BP [0] ⟨⟨_,rfl,DN⟩,trivial⟩ ⟨lv,lv,lv,lv,lv,lv,lv,lv,lv,lv,lv,lv,lv,lv,trivial⟩)
    ·rw [BL hc39] at hj27
     rw [hc39];refine AB (n:=91) he 4 [(0,.v (.int .i64 x0)),(1,.sl 1 (x1.map cdI.enc)),(7,.v (.int .i64 c18)),(8,.v (.bool c19)),(9,.v (.bool c20)),(10,.rf 0 0 c21.length c21.length),(14,.v (.int .i64 v24)),(27,.sl 1 (x2.map (cdL 1 cdI).enc)),(28,.v (.int .i64 (x2.length:Int))),(29,.v (.int .i64 c9)),(51,.sl 1 (v11.map cdI.enc)),(52,.v (.int .i64 (v11.length:Int))),(53,.v (.int .i64 c22)),(60,.v (.int .i64 v24)),(61,.v (.int .i64 x0)),(62,.v (.bool (decide (v24≥x0)))),(63,.v (.bool (decide (v24≥x0))))] [some ⟨1,4,(c21.map cdB.enc),false⟩] kr ?_;have hq:=OI hj27; subst hq;exact AJ rfl (BP [0] ⟨⟨_,rfl,DN⟩,trivial⟩ ⟨lv,lv,lv,lv,lv,lv,lv,lv,lv,lv,lv,lv,lv,lv,trivial⟩)
   refine AP (b:=j27.2) kr (fun hb28=>?_) (fun hb28=>?_)
   ·rw [if_pos hb28] at h
    refine AN he [(0,.v (.int .i64 x0)),(1,.sl 1 (x1.map cdI.enc)),(7,.v (.int .i64 c18)),(8,.v (.bool c19)),(9,.v (.bool true)),(10,.rf 0 0 j27.1.length j27.1.length),(27,.sl 1 (x2.map (cdL 1 cdI).enc)),(28,.v (.int .i64 (x2.length:Int))),(29,.v (.int .i64 c9)),(51,.sl 1 (v11.map cdI.enc)),(52,.v (.int .i64 (v11.length:Int))),(53,.v (.int .i64 c22))] [some ⟨1,4,(j27.1.map cdB.enc),false⟩] ?_;refine BW ?_;refine CP he [(0,.v (.int .i64 x0)),(1,.sl 1 (x1.map cdI.enc)),(7,.v (.int .i64 c18)),(8,.v (.bool c19)),(9,.v (.bool true)),(10,.rf 0 0 j27.1.length j27.1.length),(27,.sl 1 (x2.map (cdL 1 cdI).enc)),(28,.v (.int .i64 (x2.length:Int))),(29,.v (.int .i64 c9)),(51,.sl 1 (v11.map cdI.enc)),(52,.v (.int .i64 (v11.length:Int))),(53,.v (.int .i64 (wr .i64 (c22 + 1))))] [some ⟨1,4,(j27.1.map cdB.enc),false⟩] ?_;exact AY (s1:=⟨Fr 91 [(0,.v (.int .i64 x0)),(1,.sl 1 (x1.map cdI.enc)),(7,.v (.int .i64 c18)),(8,.v (.bool c19)),(9,.v (.bool true)),(10,.rf 0 0 j27.1.length j27.1.length),(27,.sl 1 (x2.map (cdL 1 cdI).enc)),(28,.v (.int .i64 (x2.length:Int))),(29,.v (.int .i64 c9)),(51,.sl 1 (v11.map cdI.enc)),(52,.v (.int .i64 (v11.length:Int))),(53,.v (.int .i64 (wr .i64 (c22 + 1))))],[some ⟨1,4,(j27.1.map cdB.enc),false⟩]⟩) (BP [0] ⟨⟨_,rfl,DN⟩,trivial⟩ ⟨lv,lv,lv,lv,lv,lv,lv,lv,lv,lv,lv,lv,trivial⟩) (ih c18 c19 true j27.1 (wr .i64 (c22 + 1)) h)
   ·rw [BL hb28] at h
    refine AT ?_;refine AD ?_;obtain ⟨j32,hj32,h⟩:=OB h;refine AG (s1:=⟨Fr 91 [(0,.v (.int .i64 x0)),(1,.sl 1 (x1.map cdI.enc)),(7,.v (.int .i64 c18)),(8,.v (.bool j32.1)),(9,.v (.bool c20)),(10,.rf 0 0 j32.2.length j32.2.length),(14,.v (.int .i64 v24)),(27,.sl 1 (x2.map (cdL 1 cdI).enc)),(28,.v (.int .i64 (x2.length:Int))),(29,.v (.int .i64 c9)),(51,.sl 1 (v11.map cdI.enc)),(52,.v (.int .i64 (v11.length:Int))),(53,.v (.int .i64 c22))],[some ⟨1,4,(j32.2.map cdB.enc),false⟩]⟩) ?_ ?_
    ·refine AB (n:=91) he 2 [(0,.v (.int .i64 x0)),(1,.sl 1 (x1.map cdI.enc)),(7,.v (.int .i64 c18)),(9,.v (.bool c20)),(10,.rf 0 0 j27.1.length j27.1.length),(14,.v (.int .i64 v24)),(27,.sl 1 (x2.map (cdL 1 cdI).enc)),(28,.v (.int .i64 (x2.length:Int))),(29,.v (.int .i64 c9)),(51,.sl 1 (v11.map cdI.enc)),(52,.v (.int .i64 (v11.length:Int))),(53,.v (.int .i64 c22)),(65,.v (.bool c19))] [some ⟨1,4,(j27.1.map cdB.enc),false⟩] kr ?_
     rcases BE c19 with hc38 | hc38
     ·rw [if_pos hc38] at hj32
      rw [hc38];refine AB (n:=91) he 6 [(0,.v (.int .i64 x0)),(1,.sl 1 (x1.map cdI.enc)),(7,.v (.int .i64 c18)),(8,.v (.bool true)),(9,.v (.bool c20)),(10,.rf 0 0 j27.1.length j27.1.length),(14,.v (.int .i64 v24)),(27,.sl 1 (x2.map (cdL 1 cdI).enc)),(28,.v (.int .i64 (x2.length:Int))),(29,.v (.int .i64 c9)),(51,.sl 1 (v11.map cdI.enc)),(52,.v (.int .i64 (v11.length:Int))),(53,.v (.int .i64 c22)),(66,.tp []),(67,.tp []),(68,.tp []),(69,.tp [])] [some ⟨1,4,(j27.1.map cdB.enc),false⟩] kr ?_;have hq:=OI hj32; subst hq;exact AJ rfl (BP [0] ⟨⟨_,rfl,DN⟩,trivial⟩ ⟨lv,lv,lv,lv,lv,lv,lv,lv,lv,lv,lv,lv,lv,trivial⟩)
     ·rw [BL hc38] at hj32
      rw [hc38];refine AB (n:=91) he 2 [(0,.v (.int .i64 x0)),(1,.sl 1 (x1.map cdI.enc)),(7,.v (.int .i64 c18)),(9,.v (.bool c20)),(10,.rf 0 0 j27.1.length j27.1.length),(14,.v (.int .i64 v24)),(27,.sl 1 (x2.map (cdL 1 cdI).enc)),(28,.v (.int .i64 (x2.length:Int))),(29,.v (.int .i64 c9)),(51,.sl 1 (v11.map cdI.enc)),(52,.v (.int .i64 (v11.length:Int))),(53,.v (.int .i64 c22)),(65,.v (.bool false)),(66,.rf 0 0 j27.1.length j27.1.length),(67,.v (.int .i64 v24))] [some ⟨1,4,(j27.1.map cdB.enc),false⟩] kr ?_;obtain ⟨v29,hv29,hj32⟩:=OB hj32;refine AK he 0 rfl (Bu kr rfl (AO (a:= .rf 0 0 j27.1.length j27.1.length) (b:= .v (.int .i64 v24)) kr kr (NY (e:=cdB.enc) (xs:=j27.1) (t':=4) (el:=4) (k:=1) (ki:= .i64) kr kr kr hv29))) ?_;refine AK he 0 rfl (Bu kr rfl (Id (p:= .pt 0 v24.toNat 0) kr (NE (B:=⟨1,4,(j27.1.map cdB.enc),false⟩) (m:=1) (g:=false) (e:=cdB.enc) (xs:=j27.1) kr kr kr rfl (EB hv29).2 kr))) ?_;refine AB (n:=91) he 2 [(0,.v (.int .i64 x0)),(1,.sl 1 (x1.map cdI.enc)),(7,.v (.int .i64 c18)),(8,.v (.bool v29)),(9,.v (.bool c20)),(10,.rf 0 0 j27.1.length j27.1.length),(14,.v (.int .i64 v24)),(27,.sl 1 (x2.map (cdL 1 cdI).enc)),(28,.v (.int .i64 (x2.length:Int))),(29,.v (.int .i64 c9)),(51,.sl 1 (v11.map cdI.enc)),(52,.v (.int .i64 (v11.length:Int))),(53,.v (.int .i64 c22)),(66,.rf 0 0 j27.1.length j27.1.length),(67,.v (.int .i64 v24)),(68,.pt 0 v24.toNat 0),(69,.v (.bool v29))] [some ⟨1,4,(j27.1.map cdB.enc),false⟩] kr ?_;have hq:=OI hj32; subst hq;exact AJ rfl (BP [0] ⟨⟨_,rfl,DN⟩,trivial⟩ ⟨lv,lv,lv,lv,lv,lv,lv,lv,lv,lv,lv,lv,lv,trivial⟩)
    refine AD ?_;refine AD ?_;obtain ⟨v33,hv33,h⟩:=OB h;refine AG (s1:=⟨Fr 91 [(0,.v (.int .i64 x0)),(1,.sl 1 (x1.map cdI.enc)),(7,.v (.int .i64 c18)),(8,.v (.bool j32.1)),(9,.v (.bool c20)),(10,.rf 0 0 j32.2.length j32.2.length),(14,.v (.int .i64 v24)),(27,.sl 1 (x2.map (cdL 1 cdI).enc)),(28,.v (.int .i64 (x2.length:Int))),(29,.v (.int .i64 c9)),(51,.sl 1 (v11.map cdI.enc)),(52,.v (.int .i64 (v11.length:Int))),(53,.v (.int .i64 c22)),(75,.v (.bool (!v33)))],[some ⟨1,4,(j32.2.map cdB.enc),false⟩]⟩) ?_ ?_
    ·refine AB (n:=91) he 2 [(0,.v (.int .i64 x0)),(1,.sl 1 (x1.map cdI.enc)),(7,.v (.int .i64 c18)),(8,.v (.bool j32.1)),(9,.v (.bool c20)),(10,.rf 0 0 j32.2.length j32.2.length),(14,.v (.int .i64 v24)),(27,.sl 1 (x2.map (cdL 1 cdI).enc)),(28,.v (.int .i64 (x2.length:Int))),(29,.v (.int .i64 c9)),(51,.sl 1 (v11.map cdI.enc)),(52,.v (.int .i64 (v11.length:Int))),(53,.v (.int .i64 c22)),(71,.rf 0 0 j32.2.length j32.2.length),(72,.v (.int .i64 v24))] [some ⟨1,4,(j32.2.map cdB.enc),false⟩] kr ?_
     refine AK he 0 rfl (Bu (AA rfl) rfl (AO (a:= .rf 0 0 j32.2.length j32.2.length) (b:= .v (.int .i64 v24)) kr kr (NY (e:=cdB.enc) (xs:=j32.2) (t':=4) (el:=4) (k:=1) (ki:= .i64) kr kr kr hv33))) ?_;refine AK he 0 rfl (Bu (AA rfl) rfl (Id (p:= .pt 0 v24.toNat 0) kr (NE (B:=⟨1,4,(j32.2.map cdB.enc),false⟩) (m:=1) (g:=false) (e:=cdB.enc) (xs:=j32.2) kr kr kr rfl (EB hv33).2 kr))) ?_;exact AQ he
    obtain ⟨r36,hr36,h⟩:=OB h;refine Lg (F8 x0 x1 x2 c9 v11 c18 c20 c22 v24 j32 v33 _ hr36) ?_;obtain ⟨v37,hv37,h⟩:=OB h;refine AG (s1:=⟨Fr 91 [(0,.v (.int .i64 x0)),(1,.sl 1 (x1.map cdI.enc)),(7,.v (.int .i64 r36)),(8,.v (.bool j32.1)),(9,.v (.bool c20)),(10,.rf 0 0 (j32.2.set v24.toNat true).length (j32.2.set v24.toNat true).length),(27,.sl 1 (x2.map (cdL 1 cdI).enc)),(28,.v (.int .i64 (x2.length:Int))),(29,.v (.int .i64 c9)),(51,.sl 1 (v11.map cdI.enc)),(52,.v (.int .i64 (v11.length:Int))),(53,.v (.int .i64 c22))],[some ⟨1,4,((j32.2.set v24.toNat true).map cdB.enc),false⟩]⟩) ?_ ?_
    ·refine AB (n:=91) he 2 [(0,.v (.int .i64 x0)),(1,.sl 1 (x1.map cdI.enc)),(7,.v (.int .i64 r36)),(8,.v (.bool j32.1)),(9,.v (.bool c20)),(10,.rf 0 0 j32.2.length j32.2.length),(27,.sl 1 (x2.map (cdL 1 cdI).enc)),(28,.v (.int .i64 (x2.length:Int))),(29,.v (.int .i64 c9)),(51,.sl 1 (v11.map cdI.enc)),(52,.v (.int .i64 (v11.length:Int))),(53,.v (.int .i64 c22)),(78,.rf 0 0 j32.2.length j32.2.length),(79,.v (.int .i64 v24))] [some ⟨1,4,(j32.2.map cdB.enc),false⟩] kr ?_
     refine AK he 0 rfl (Bu (AA rfl) rfl (AO (a:= .rf 0 0 j32.2.length j32.2.length) (b:= .v (.int .i64 v24)) kr kr (NY (e:=cdB.enc) (xs:=j32.2) (t':=4) (el:=4) (k:=1) (ki:= .i64) kr kr kr hv37))) ?_;refine RunS.store he (y:= .pt 0 v24.toNat 0) (z:= .v (.bool true)) rfl (AA rfl) kr kr (OU (t':=4) (k:=1) (e:=cdB.enc) (xs:=j32.2) (v:=v37) (v':=true) kr (EB hv37).2 kr kr kr) ?_;exact AJ rfl (BP [0] ⟨⟨_,rfl,DN⟩,trivial⟩ ⟨lv,lv,lv,lv,lv,O3 (b':=0) (n:=j32.2.length) kr (by simp) kr,lv,lv,lv,lv,lv,lv,trivial⟩)
    refine CP he [(0,.v (.int .i64 x0)),(1,.sl 1 (x1.map cdI.enc)),(7,.v (.int .i64 r36)),(8,.v (.bool j32.1)),(9,.v (.bool c20)),(10,.rf 0 0 (j32.2.set v24.toNat true).length (j32.2.set v24.toNat true).length),(27,.sl 1 (x2.map (cdL 1 cdI).enc)),(28,.v (.int .i64 (x2.length:Int))),(29,.v (.int .i64 c9)),(51,.sl 1 (v11.map cdI.enc)),(52,.v (.int .i64 (v11.length:Int))),(53,.v (.int .i64 (wr .i64 (c22 + 1))))] [some ⟨1,4,((j32.2.set v24.toNat true).map cdB.enc),false⟩] ?_;exact AY (s1:=⟨Fr 91 [(0,.v (.int .i64 x0)),(1,.sl 1 (x1.map cdI.enc)),(7,.v (.int .i64 r36)),(8,.v (.bool j32.1)),(9,.v (.bool c20)),(10,.rf 0 0 (j32.2.set v24.toNat true).length (j32.2.set v24.toNat true).length),(27,.sl 1 (x2.map (cdL 1 cdI).enc)),(28,.v (.int .i64 (x2.length:Int))),(29,.v (.int .i64 c9)),(51,.sl 1 (v11.map cdI.enc)),(52,.v (.int .i64 (v11.length:Int))),(53,.v (.int .i64 (wr .i64 (c22 + 1))))],[some ⟨1,4,((j32.2.set v24.toNat true).map cdB.enc),false⟩]⟩) (BP [0] ⟨⟨_,rfl,DN⟩,trivial⟩ ⟨lv,lv,lv,lv,lv,lv,lv,lv,lv,lv,lv,lv,trivial⟩) (ih r36 j32.1 c20 (j32.2.set v24.toNat true) (wr .i64 (c22 + 1)) h)
  ·rw [BL hb23] at h
   refine BW ?_;have hq:=OI h; subst hq;exact ⟨rfl,(BP [0] ⟨⟨_,rfl,DN⟩,trivial⟩ ⟨lv,lv,lv,lv,lv,lv,lv,lv,lv,trivial⟩)⟩
theorem EA (x0:Int) (x1:(List Int)) (x2:(List (List Int))):∀ (f:Nat) (c5:Int) (c6:Bool) (c7:Bool) (c8:(List Bool)) (c9:Int) (r:(Int×Bool×Bool) ⊕ (Int)),BR x0 x1 x2 f c5 c6 c7 c8 c9=some r->SemN Ak ⟨none,false⟩ (pc B5 [1,1,1,1,0,1,0,0]) f ⟨Fr 91 [(0,.v (.int .i64 x0)),(1,.sl 1 (x1.map cdI.enc)),(7,.v (.int .i64 c5)),(8,.v (.bool c6)),(9,.v (.bool c7)),(10,.rf 0 0 c8.length c8.length),(27,.sl 1 (x2.map (cdL 1 cdI).enc)),(28,.v (.int .i64 (x2.length:Int))),(29,.v (.int .i64 c9))],[some ⟨1,4,(c8.map cdB.enc),false⟩]⟩ (fun e s=>match r with
 | (.inl w)=>e=(.exit 0)/\Wk Ak s ⟨Fr 91 [(0,.v (.int .i64 x0)),(7,.v (.int .i64 w.1)),(8,.v (.bool w.2.1)),(9,.v (.bool w.2.2))],[]⟩
 | (.inr w)=>e = .ret/\Wk Ak s ⟨Fr 91 [(6,.v (.int .i64 w))],[]⟩):=by
 have he:=BZ
 intro f;induction f with
 | zero=>intro c5 c6 c7 c8 c9 r h; cases h
 | succ f ih0 =>
  intro c5 c6 c7 c8 c9 r h
  have ih:=fun (c5:Int) (c6:Bool) (c7:Bool) (c8:(List Bool)) (c9:Int)=>ih0 c5 c6 c7 c8 c9 r
  unfold BR at h;refine BM ?_;refine AN he [(0,.v (.int .i64 x0)),(1,.sl 1 (x1.map cdI.enc)),(7,.v (.int .i64 c5)),(8,.v (.bool c6)),(9,.v (.bool c7)),(10,.rf 0 0 c8.length c8.length),(27,.sl 1 (x2.map (cdL 1 cdI).enc)),(28,.v (.int .i64 (x2.length:Int))),(29,.v (.int .i64 c9)),(30,.v (.bool (decide (c9 < (x2.length:Int)))))] [some ⟨1,4,(c8.map cdB.enc),false⟩] ?_;refine AD ?_;refine AP (b:=(decide (c9 < (x2.length:Int)))) kr (fun hb10=>?_) (fun hb10=>?_)
  ·rw [if_pos hb10] at h
   refine AT ?_;refine AD ?_;refine AU ?_;refine AD ?_;obtain ⟨v11,hv11,h⟩:=OB h;refine AG (s1:=⟨Fr 91 [(0,.v (.int .i64 x0)),(1,.sl 1 (x1.map cdI.enc)),(7,.v (.int .i64 c5)),(8,.v (.bool c6)),(9,.v (.bool c7)),(10,.rf 0 0 c8.length c8.length),(11,.v (.int .i64 c9)),(12,.sl 1 (v11.map cdI.enc)),(27,.sl 1 (x2.map (cdL 1 cdI).enc)),(28,.v (.int .i64 (x2.length:Int))),(29,.v (.int .i64 c9))],[some ⟨1,4,(c8.map cdB.enc),false⟩]⟩) ?_ ?_
   ·refine AB (n:=91) he 1 [(0,.v (.int .i64 x0)),(1,.sl 1 (x1.map cdI.enc)),(7,.v (.int .i64 c5)),(8,.v (.bool c6)),(9,.v (.bool c7)),(10,.rf 0 0 c8.length c8.length),(27,.sl 1 (x2.map (cdL 1 cdI).enc)),(28,.v (.int .i64 (x2.length:Int))),(29,.v (.int .i64 c9)),(31,.v (.int .i64 c9))] [some ⟨1,4,(c8.map cdB.enc),false⟩] kr ?_
    refine AK he 0 rfl (Bu (AA rfl) rfl (AO (a:= .sl 1 (x2.map (cdL 1 cdI).enc)) (b:= .v (.int .i64 c9)) kr kr (Dq (e:=(cdL 1 cdI).enc) (el:=27) (k:=1) (ki:= .i64) kr kr hv11))) ?_;exact AQ he
   refine AD ?_;refine AD ?_;obtain ⟨j15,hj15,h⟩:=OB h;refine AG (s1:=⟨Fr 91 [(0,.v (.int .i64 x0)),(1,.sl 1 (x1.map cdI.enc)),(7,.v (.int .i64 c5)),(8,.v (.bool c6)),(9,.v (.bool c7)),(10,.rf 0 0 j15.1.length j15.1.length),(12,.sl 1 (v11.map cdI.enc)),(27,.sl 1 (x2.map (cdL 1 cdI).enc)),(28,.v (.int .i64 (x2.length:Int))),(29,.v (.int .i64 c9)),(50,.v (.bool j15.2))],[some ⟨1,4,(j15.1.map cdB.enc),false⟩]⟩) ?_ ?_
   ·refine AB (n:=91) he 1 [(0,.v (.int .i64 x0)),(1,.sl 1 (x1.map cdI.enc)),(7,.v (.int .i64 c5)),(8,.v (.bool c6)),(9,.v (.bool c7)),(10,.rf 0 0 c8.length c8.length),(11,.v (.int .i64 c9)),(12,.sl 1 (v11.map cdI.enc)),(27,.sl 1 (x2.map (cdL 1 cdI).enc)),(28,.v (.int .i64 (x2.length:Int))),(29,.v (.int .i64 c9)),(34,.sl 1 (v11.map cdI.enc))] [some ⟨1,4,(c8.map cdB.enc),false⟩] kr ?_
    refine AK he 0 rfl (Bu (AA rfl) rfl (B8 (a:= .sl 1 (v11.map cdI.enc)) kr (BT (el:=3) kr))) ?_;refine AB (n:=91) he 2 [(0,.v (.int .i64 x0)),(1,.sl 1 (x1.map cdI.enc)),(7,.v (.int .i64 c5)),(8,.v (.bool c6)),(9,.v (.bool c7)),(10,.rf 0 0 c8.length c8.length),(11,.v (.int .i64 c9)),(12,.sl 1 (v11.map cdI.enc)),(27,.sl 1 (x2.map (cdL 1 cdI).enc)),(28,.v (.int .i64 (x2.length:Int))),(29,.v (.int .i64 c9)),(37,.v (.bool ((v11.length:Int)==0)))] [some ⟨1,4,(c8.map cdB.enc),false⟩] kr ?_;rcases BE ((v11.length:Int)==0) with hc45 | hc45
    ·rw [if_pos hc45] at hj15
     rw [hc45];refine AB (n:=91) he 13 [(0,.v (.int .i64 x0)),(1,.sl 1 (x1.map cdI.enc)),(7,.v (.int .i64 c5)),(8,.v (.bool c6)),(9,.v (.bool c7)),(10,.rf 0 0 c8.length c8.length),(12,.sl 1 (v11.map cdI.enc)),(27,.sl 1 (x2.map (cdL 1 cdI).enc)),(28,.v (.int .i64 (x2.length:Int))),(29,.v (.int .i64 c9)),(38,.tp []),(39,.tp []),(40,.tp []),(41,.tp []),(42,.tp []),(43,.tp []),(44,.tp []),(45,.tp []),(46,.tp []),(47,.tp []),(48,.tp []),(49,.tp []),(50,.v (.bool true))] [some ⟨1,4,(c8.map cdB.enc),false⟩] kr ?_;have hq:=OI hj15; subst hq;exact AJ rfl (BP [0] ⟨⟨_,rfl,DN⟩,trivial⟩ ⟨lv,lv,lv,lv,lv,lv,lv,lv,lv,lv,lv,trivial⟩)
    ·rw [BL hc45] at hj15
     rw [hc45];refine AB (n:=91) he 1 [(0,.v (.int .i64 x0)),(1,.sl 1 (x1.map cdI.enc)),(7,.v (.int .i64 c5)),(8,.v (.bool c6)),(9,.v (.bool c7)),(10,.rf 0 0 c8.length c8.length),(11,.v (.int .i64 c9)),(12,.sl 1 (v11.map cdI.enc)),(27,.sl 1 (x2.map (cdL 1 cdI).enc)),(28,.v (.int .i64 (x2.length:Int))),(29,.v (.int .i64 c9)),(37,.v (.bool false)),(38,.sl 1 (x1.map cdI.enc))] [some ⟨1,4,(c8.map cdB.enc),false⟩] kr ?_;refine AK he 0 rfl (Bu kr rfl (B8 (a:= .sl 1 (x1.map cdI.enc)) kr (BT (el:=3) kr))) ?_;refine AB (n:=91) he 2 [(0,.v (.int .i64 x0)),(1,.sl 1 (x1.map cdI.enc)),(7,.v (.int .i64 c5)),(8,.v (.bool c6)),(9,.v (.bool c7)),(10,.rf 0 0 c8.length c8.length),(11,.v (.int .i64 c9)),(12,.sl 1 (v11.map cdI.enc)),(27,.sl 1 (x2.map (cdL 1 cdI).enc)),(28,.v (.int .i64 (x2.length:Int))),(29,.v (.int .i64 c9)),(37,.v (.bool false)),(38,.sl 1 (x1.map cdI.enc)),(39,.v (.int .i64 (x1.length:Int))),(40,.v (.bool (decide ((x1.length:Int) > 0)))),(41,.v (.bool (decide ((x1.length:Int) > 0))))] [some ⟨1,4,(c8.map cdB.enc),false⟩] kr ?_;rcases BE (decide ((x1.length:Int) > 0)) with hc46 | hc46
     ·rw [if_pos hc46] at hj15
      rw [hc46];refine AB (n:=91) he 1 [(0,.v (.int .i64 x0)),(1,.sl 1 (x1.map cdI.enc)),(7,.v (.int .i64 c5)),(8,.v (.bool c6)),(9,.v (.bool c7)),(10,.rf 0 0 c8.length c8.length),(11,.v (.int .i64 c9)),(12,.sl 1 (v11.map cdI.enc)),(27,.sl 1 (x2.map (cdL 1 cdI).enc)),(28,.v (.int .i64 (x2.length:Int))),(29,.v (.int .i64 c9)),(37,.v (.bool false)),(38,.sl 1 (x1.map cdI.enc)),(39,.v (.int .i64 (x1.length:Int))),(40,.v (.bool true)),(41,.v (.bool true)),(42,.sl 1 (v11.map cdI.enc))] [some ⟨1,4,(c8.map cdB.enc),false⟩] kr ?_;refine AK he 0 rfl (Bu kr rfl (B8 (a:= .sl 1 (v11.map cdI.enc)) kr (BT (el:=3) kr))) ?_;refine AB (n:=91) he 2 [(0,.v (.int .i64 x0)),(1,.sl 1 (x1.map cdI.enc)),(7,.v (.int .i64 c5)),(8,.v (.bool c6)),(9,.v (.bool c7)),(10,.rf 0 0 c8.length c8.length),(12,.sl 1 (v11.map cdI.enc)),(27,.sl 1 (x2.map (cdL 1 cdI).enc)),(28,.v (.int .i64 (x2.length:Int))),(29,.v (.int .i64 c9)),(37,.v (.bool false)),(38,.sl 1 (x1.map cdI.enc)),(39,.v (.int .i64 (x1.length:Int))),(40,.v (.bool true)),(41,.v (.bool true)),(42,.sl 1 (v11.map cdI.enc)),(43,.v (.int .i64 (v11.length:Int))),(44,.sl 1 (x1.map cdI.enc)),(45,.v (.int .i64 c9))] [some ⟨1,4,(c8.map cdB.enc),false⟩] kr ?_;obtain ⟨v12,hv12,hj15⟩:=OB hj15;refine AK he 0 rfl (Bu kr rfl (AO (a:= .sl 1 (x1.map cdI.enc)) (b:= .v (.int .i64 c9)) kr kr (Dq (e:=cdI.enc) (el:=3) (k:=1) (ki:= .i64) kr kr hv12))) ?_;refine AB (n:=91) he 4 [(0,.v (.int .i64 x0)),(1,.sl 1 (x1.map cdI.enc)),(7,.v (.int .i64 c5)),(8,.v (.bool c6)),(9,.v (.bool c7)),(10,.rf 0 0 c8.length c8.length),(12,.sl 1 (v11.map cdI.enc)),(27,.sl 1 (x2.map (cdL 1 cdI).enc)),(28,.v (.int .i64 (x2.length:Int))),(29,.v (.int .i64 c9)),(38,.sl 1 (x1.map cdI.enc)),(39,.v (.int .i64 (x1.length:Int))),(40,.v (.bool true)),(41,.v (.bool true)),(42,.sl 1 (v11.map cdI.enc)),(43,.v (.int .i64 (v11.length:Int))),(44,.sl 1 (x1.map cdI.enc)),(45,.v (.int .i64 c9)),(46,.pe (.v (.int .i64 v12)) 0),(47,.v (.int .i64 v12)),(48,.v (.bool ((v11.length:Int)!=v12))),(49,.v (.bool ((v11.length:Int)!=v12))),(50,.v (.bool ((v11.length:Int)!=v12)))] [some ⟨1,4,(c8.map cdB.enc),false⟩] kr ?_
      have hq:=OI hj15; subst hq;exact AJ rfl (BP [0] ⟨⟨_,rfl,DN⟩,trivial⟩ ⟨lv,lv,lv,lv,lv,lv,lv,lv,lv,lv,lv,trivial⟩)
     ·rw [BL hc46] at hj15
      rw [hc46];refine AB (n:=91) he 9 [(0,.v (.int .i64 x0)),(1,.sl 1 (x1.map cdI.enc)),(7,.v (.int .i64 c5)),(8,.v (.bool c6)),(9,.v (.bool c7)),(10,.rf 0 0 c8.length c8.length),(12,.sl 1 (v11.map cdI.enc)),(27,.sl 1 (x2.map (cdL 1 cdI).enc)),(28,.v (.int .i64 (x2.length:Int))),(29,.v (.int .i64 c9)),(38,.sl 1 (x1.map cdI.enc)),(39,.v (.int .i64 (x1.length:Int))),(40,.v (.bool false)),(41,.v (.bool false)),(42,.tp []),(43,.tp []),(44,.tp []),(45,.tp []),(46,.tp []),(47,.tp []),(48,.tp []),(49,.v (.bool false)),(50,.v (.bool false))] [some ⟨1,4,(c8.map cdB.enc),false⟩] kr ?_;have hq:=OI hj15; subst hq;exact AJ rfl (BP [0] ⟨⟨_,rfl,DN⟩,trivial⟩ ⟨lv,lv,lv,lv,lv,lv,lv,lv,lv,lv,lv,trivial⟩)
   refine AP (b:=j15.2) kr (fun hb16=>?_) (fun hb16=>?_)
   ·rw [if_pos hb16] at h
    refine AD ?_;refine AG (s1:=⟨Fr 91 [(6,.v (.int .i64 2))],[]⟩) ?_ ?_
    ·refine AB (n:=91) he 1 [(6,.v (.int .i64 2))] [some ⟨1,4,(j15.1.map cdB.enc),false⟩] kr ?_
     exact AJ rfl (BP [] trivial ⟨lv,trivial⟩)
    refine AW ?_;have hq:=OI h; subst hq;exact ⟨rfl,AI⟩
   ·rw [BL hb16] at h
    refine AT ?_;refine AD ?_;refine AG (s1:=⟨Fr 91 [(0,.v (.int .i64 x0)),(1,.sl 1 (x1.map cdI.enc)),(7,.v (.int .i64 c5)),(8,.v (.bool c6)),(9,.v (.bool c7)),(10,.rf 0 0 j15.1.length j15.1.length),(27,.sl 1 (x2.map (cdL 1 cdI).enc)),(28,.v (.int .i64 (x2.length:Int))),(29,.v (.int .i64 c9)),(51,.sl 1 (v11.map cdI.enc)),(52,.v (.int .i64 (v11.length:Int))),(53,.v (.int .i64 0))],[some ⟨1,4,(j15.1.map cdB.enc),false⟩]⟩) ?_ ?_
    ·refine AB (n:=91) he 1 [(0,.v (.int .i64 x0)),(1,.sl 1 (x1.map cdI.enc)),(7,.v (.int .i64 c5)),(8,.v (.bool c6)),(9,.v (.bool c7)),(10,.rf 0 0 j15.1.length j15.1.length),(27,.sl 1 (x2.map (cdL 1 cdI).enc)),(28,.v (.int .i64 (x2.length:Int))),(29,.v (.int .i64 c9)),(51,.sl 1 (v11.map cdI.enc))] [some ⟨1,4,(j15.1.map cdB.enc),false⟩] kr ?_
     refine AK he 0 rfl (Bu (AA rfl) rfl (B8 (a:= .sl 1 (v11.map cdI.enc)) kr (BT (el:=3) kr))) ?_;exact AQ he
    refine AU ?_;obtain ⟨r44,hr44,h⟩:=OB h;refine Bp (n:=100000) ?_;refine Ah (AY (s1:=⟨Fr 91 [(0,.v (.int .i64 x0)),(1,.sl 1 (x1.map cdI.enc)),(7,.v (.int .i64 c5)),(8,.v (.bool c6)),(9,.v (.bool c7)),(10,.rf 0 0 j15.1.length j15.1.length),(27,.sl 1 (x2.map (cdL 1 cdI).enc)),(28,.v (.int .i64 (x2.length:Int))),(29,.v (.int .i64 c9)),(51,.sl 1 (v11.map cdI.enc)),(52,.v (.int .i64 (v11.length:Int))),(53,.v (.int .i64 0))],[some ⟨1,4,(j15.1.map cdB.enc),false⟩]⟩) (BP [0] ⟨⟨_,rfl,DN⟩,trivial⟩ ⟨lv,lv,lv,lv,lv,lv,lv,lv,lv,lv,lv,lv,trivial⟩) (GQ x0 x1 x2 c9 v11 _ c5 c6 c7 j15.1 0 _ hr44)) ?_;refine CP he [(0,.v (.int .i64 x0)),(1,.sl 1 (x1.map cdI.enc)),(7,.v (.int .i64 r44.1)),(8,.v (.bool r44.2.1)),(9,.v (.bool r44.2.2.1)),(10,.rf 0 0 r44.2.2.2.length r44.2.2.2.length),(27,.sl 1 (x2.map (cdL 1 cdI).enc)),(28,.v (.int .i64 (x2.length:Int))),(29,.v (.int .i64 (wr .i64 (c9 + 1))))] [some ⟨1,4,(r44.2.2.2.map cdB.enc),false⟩] ?_;exact AY (s1:=⟨Fr 91 [(0,.v (.int .i64 x0)),(1,.sl 1 (x1.map cdI.enc)),(7,.v (.int .i64 r44.1)),(8,.v (.bool r44.2.1)),(9,.v (.bool r44.2.2.1)),(10,.rf 0 0 r44.2.2.2.length r44.2.2.2.length),(27,.sl 1 (x2.map (cdL 1 cdI).enc)),(28,.v (.int .i64 (x2.length:Int))),(29,.v (.int .i64 (wr .i64 (c9 + 1))))],[some ⟨1,4,(r44.2.2.2.map cdB.enc),false⟩]⟩) (BP [0] ⟨⟨_,rfl,DN⟩,trivial⟩ ⟨lv,lv,lv,lv,lv,lv,lv,lv,lv,trivial⟩) (ih r44.1 r44.2.1 r44.2.2.1 r44.2.2.2 (wr .i64 (c9 + 1)) h)
  ·rw [BL hb10] at h
   refine BW ?_;have hq:=OI h; subst hq;exact ⟨rfl,(BP [] trivial ⟨lv,lv,lv,lv,trivial⟩)⟩
theorem Ge (x0:Int) (x1:(List Int)) (x2:(List (List Int))) (r:Int) (h:Ba x0 x1 x2=some r):Sem Ak ⟨none,false⟩ B5 ⟨Fr 91 (BA 0 (DZ.enc (x0,x1,x2,()))),[]⟩ fun e s'=>(e = .normal\/e = .ret)/\∃ xs,EM Ak.P s'.fr s'.hp Tryd.f28.results.toList=some xs/\Ea xs=Dc r:=by
 have he:=BZ
 unfold Ba at h;refine Bq (CM (s1:=⟨Fr 91 [(0,.v (.int .i64 x0)),(1,.sl 1 (x1.map cdI.enc)),(2,.sl 1 (x2.map (cdL 1 cdI).enc))],[]⟩) AI ?_);refine AN he [(0,.v (.int .i64 x0)),(1,.sl 1 (x1.map cdI.enc)),(2,.sl 1 (x2.map (cdL 1 cdI).enc))] [] ?_;refine AD ?_;refine AD ?_;obtain ⟨j2,hj2,h⟩:=OB h;refine AG (s1:=⟨Fr 91 [(0,.v (.int .i64 x0)),(1,.sl 1 (x1.map cdI.enc)),(2,.sl 1 (x2.map (cdL 1 cdI).enc)),(24,.v (.bool j2))],[]⟩) ?_ ?_
 ·refine AB (n:=91) he 1 [(0,.v (.int .i64 x0)),(1,.sl 1 (x1.map cdI.enc)),(2,.sl 1 (x2.map (cdL 1 cdI).enc)),(15,.sl 1 (x1.map cdI.enc))] [] kr ?_
  refine AK he 0 rfl (Bu (AA rfl) rfl (B8 (a:= .sl 1 (x1.map cdI.enc)) kr (BT (el:=3) kr))) ?_;refine AB (n:=91) he 2 [(0,.v (.int .i64 x0)),(1,.sl 1 (x1.map cdI.enc)),(2,.sl 1 (x2.map (cdL 1 cdI).enc)),(18,.v (.bool (decide ((x1.length:Int) > 0))))] [] kr ?_;rcases BE (decide ((x1.length:Int) > 0)) with hc56 | hc56
  ·rw [if_pos hc56] at hj2
   rw [hc56];refine AB (n:=91) he 1 [(0,.v (.int .i64 x0)),(1,.sl 1 (x1.map cdI.enc)),(2,.sl 1 (x2.map (cdL 1 cdI).enc)),(18,.v (.bool true)),(19,.sl 1 (x1.map cdI.enc))] [] kr ?_;refine AK he 0 rfl (Bu kr rfl (B8 (a:= .sl 1 (x1.map cdI.enc)) kr (BT (el:=3) kr))) ?_;refine AB (n:=91) he 1 [(0,.v (.int .i64 x0)),(1,.sl 1 (x1.map cdI.enc)),(2,.sl 1 (x2.map (cdL 1 cdI).enc)),(18,.v (.bool true)),(20,.v (.int .i64 (x1.length:Int))),(21,.sl 1 (x2.map (cdL 1 cdI).enc))] [] kr ?_;refine AK he 0 rfl (Bu kr rfl (B8 (a:= .sl 1 (x2.map (cdL 1 cdI).enc)) kr (BT (el:=27) kr))) ?_;refine AB (n:=91) he 2 [(0,.v (.int .i64 x0)),(1,.sl 1 (x1.map cdI.enc)),(2,.sl 1 (x2.map (cdL 1 cdI).enc)),(24,.v (.bool ((x1.length:Int)!=(x2.length:Int))))] [] kr ?_;have hq:=OI hj2; subst hq;exact AJ rfl AI
  ·rw [BL hc56] at hj2
   rw [hc56];refine AB (n:=91) he 6 [(0,.v (.int .i64 x0)),(1,.sl 1 (x1.map cdI.enc)),(2,.sl 1 (x2.map (cdL 1 cdI).enc)),(24,.v (.bool false))] [] kr ?_;have hq:=OI hj2; subst hq;exact AJ rfl AI
 refine AP (b:=j2) kr (fun hb3=>?_) (fun hb3=>?_)
 ·rw [if_pos hb3] at h
  refine AN he [(6,.v (.int .i64 2))] [] ?_;refine AW ?_;have hq:=OI h; subst hq;exact ⟨⟨Fr 91 [(6,.v (.int .i64 2))],[]⟩,AI,.inr rfl,[.v (.int .i64 2)],kr,kr⟩
 ·rw [BL hb3] at h
  refine AT ?_;refine AN he [(0,.v (.int .i64 x0)),(1,.sl 1 (x1.map cdI.enc)),(2,.sl 1 (x2.map (cdL 1 cdI).enc)),(7,.v (.int .i64 0)),(8,.v (.bool false)),(9,.v (.bool false))] [] ?_;refine AD ?_;by_cases hk4:(LM 1 x0)=true
  case neg=>rw [if_neg hk4] at h; cases h
  rw [if_pos hk4] at h;refine AG (s1:=⟨Fr 91 [(0,.v (.int .i64 x0)),(1,.sl 1 (x1.map cdI.enc)),(2,.sl 1 (x2.map (cdL 1 cdI).enc)),(7,.v (.int .i64 0)),(8,.v (.bool false)),(9,.v (.bool false)),(10,.rf 0 0 (List.replicate x0.toNat false).length (List.replicate x0.toNat false).length)],[some ⟨1,4,((List.replicate x0.toNat false).map cdB.enc),false⟩]⟩) ?_ ?_
  ·refine AB (n:=91) he 1 [(0,.v (.int .i64 x0)),(1,.sl 1 (x1.map cdI.enc)),(2,.sl 1 (x2.map (cdL 1 cdI).enc)),(7,.v (.int .i64 0)),(8,.v (.bool false)),(9,.v (.bool false)),(25,.v (.int .i64 x0))] [] kr ?_
   refine AK he 0 rfl (LX (AA rfl) rfl kr (NF (x:= .v (.int .i64 x0)) (y:= .v (.int .i64 x0)) kr kr (ON (c:=cdB) (z:=false) (k:=1) (bytes:=1) (el:=4) kr kr hk4))) ?_;exact AQ he
  refine AD ?_;refine AD ?_;refine AG (s1:=⟨Fr 91 [(0,.v (.int .i64 x0)),(1,.sl 1 (x1.map cdI.enc)),(7,.v (.int .i64 0)),(8,.v (.bool false)),(9,.v (.bool false)),(10,.rf 0 0 (List.replicate x0.toNat false).length (List.replicate x0.toNat false).length),(27,.sl 1 (x2.map (cdL 1 cdI).enc)),(28,.v (.int .i64 (x2.length:Int))),(29,.v (.int .i64 0))],[some ⟨1,4,((List.replicate x0.toNat false).map cdB.enc),false⟩]⟩) ?_ ?_
  ·refine AB (n:=91) he 1 [(0,.v (.int .i64 x0)),(1,.sl 1 (x1.map cdI.enc)),(7,.v (.int .i64 0)),(8,.v (.bool false)),(9,.v (.bool false)),(10,.rf 0 0 (List.replicate x0.toNat false).length (List.replicate x0.toNat false).length),(27,.sl 1 (x2.map (cdL 1 cdI).enc))] [some ⟨1,4,((List.replicate x0.toNat false).map cdB.enc),false⟩] kr ?_
   refine AK he 0 rfl (Bu (AA rfl) rfl (B8 (a:= .sl 1 (x2.map (cdL 1 cdI).enc)) kr (BT (el:=27) kr))) ?_;exact AQ he
  refine AU ?_;obtain ⟨r50,hr50,h⟩:=OB h;refine Bp (n:=100000) ?_;rcases r50 with w51 | w55
  ·try dsimp only at h
   refine Ah (AY (s1:=⟨Fr 91 [(0,.v (.int .i64 x0)),(1,.sl 1 (x1.map cdI.enc)),(7,.v (.int .i64 0)),(8,.v (.bool false)),(9,.v (.bool false)),(10,.rf 0 0 (List.replicate x0.toNat false).length (List.replicate x0.toNat false).length),(27,.sl 1 (x2.map (cdL 1 cdI).enc)),(28,.v (.int .i64 (x2.length:Int))),(29,.v (.int .i64 0))],[some ⟨1,4,((List.replicate x0.toNat false).map cdB.enc),false⟩]⟩) (BP [0] ⟨⟨_,rfl,DN⟩,trivial⟩ ⟨lv,lv,lv,lv,lv,lv,lv,lv,lv,trivial⟩) (EA x0 x1 x2 _ 0 false false (List.replicate x0.toNat false) 0 _ hr50)) ?_;refine AD ?_;refine AU ?_;refine AN he [(0,.v (.int .i64 x0)),(7,.v (.int .i64 w51.1)),(8,.v (.bool w51.2.1)),(83,.v (.bool w51.2.2))] [] ?_;refine AP (b:=w51.2.2) kr (fun hb52=>?_) (fun hb52=>?_)
   ·rw [if_pos hb52] at h
    refine AN he [(6,.v (.int .i64 6))] [] ?_;refine AW ?_;have hq:=OI h; subst hq;exact ⟨⟨Fr 91 [(6,.v (.int .i64 6))],[]⟩,AI,.inr rfl,[.v (.int .i64 6)],kr,kr⟩
   ·rw [BL hb52] at h
    refine AN he [(0,.v (.int .i64 x0)),(7,.v (.int .i64 w51.1)),(85,.v (.bool w51.2.1))] [] ?_;refine AP (b:=w51.2.1) kr (fun hb53=>?_) (fun hb53=>?_)
    ·rw [if_pos hb53] at h
     refine AN he [(6,.v (.int .i64 5))] [] ?_;refine AW ?_;have hq:=OI h; subst hq;exact ⟨⟨Fr 91 [(6,.v (.int .i64 5))],[]⟩,AI,.inr rfl,[.v (.int .i64 5)],kr,kr⟩
    ·rw [BL hb53] at h
     refine AN he [(87,.v (.bool (decide (w51.1 < x0))))] [] ?_;refine AP (b:=(decide (w51.1 < x0))) kr (fun hb54=>?_) (fun hb54=>?_)
     ·rw [if_pos hb54] at h
      refine AN he [(6,.v (.int .i64 2))] [] ?_;refine AW ?_;have hq:=OI h; subst hq;exact ⟨⟨Fr 91 [(6,.v (.int .i64 2))],[]⟩,AI,.inr rfl,[.v (.int .i64 2)],kr,kr⟩
     ·rw [BL hb54] at h
      refine AT ?_;refine AN he [(6,.v (.int .i64 0))] [] ?_;refine AW ?_;have hq:=OI h; subst hq;exact ⟨⟨Fr 91 [(6,.v (.int .i64 0))],[]⟩,AI,.inr rfl,[.v (.int .i64 0)],kr,kr⟩
  ·try dsimp only at h
   refine Ah (AY (s1:=⟨Fr 91 [(0,.v (.int .i64 x0)),(1,.sl 1 (x1.map cdI.enc)),(7,.v (.int .i64 0)),(8,.v (.bool false)),(9,.v (.bool false)),(10,.rf 0 0 (List.replicate x0.toNat false).length (List.replicate x0.toNat false).length),(27,.sl 1 (x2.map (cdL 1 cdI).enc)),(28,.v (.int .i64 (x2.length:Int))),(29,.v (.int .i64 0))],[some ⟨1,4,((List.replicate x0.toNat false).map cdB.enc),false⟩]⟩) (BP [0] ⟨⟨_,rfl,DN⟩,trivial⟩ ⟨lv,lv,lv,lv,lv,lv,lv,lv,lv,trivial⟩) (EA x0 x1 x2 _ 0 false false (List.replicate x0.toNat false) 0 _ hr50)) ?_;have hq:=OI h; subst hq;exact ⟨⟨Fr 91 [(6,.v (.int .i64 w55))],[]⟩,AI,.inr rfl,[.v (.int .i64 w55)],kr,kr⟩
def H7:List AV->Option AV:=Dz DZ (fun a=>Ba a.1 a.2.1 a.2.2.1) Dc
theorem ID:XOk 28 H7:=by
 refine EnvOk.x (E:=Ak) (CD BZ (fn:=Tryd.f28) (c:=B5) ?h1 ?h2 ⟨Tryd.call28⟩ DZ (fun a=>Ba a.1 a.2.1 a.2.2.1) Dc (fun a=>(by show 3<=91; decide)) ?h3 ?h4) rfl rfl
 case h1=>kernel_rfl
 case h2=>kernel_rfl
 case h3=>intro b; kernel_rfl
 case h4=>exact fun a b h=>Ge a.1 a.2.1 a.2.2.1 b h
/- trestle/evening.Parse -/
noncomputable def DV:Code:=B6 Tryd.f9
def BK (x0:Int):Nat->(List UInt8)->(List (List (List Int)))->Int->Option (((List (List (List Int)))) ⊕ (Int×Int))
 | 0,_,_,_=>none
 | f + 1,c4,c5,c6 =>
  if (!(c4==[]))=true then
  (Ca c4 [10]).bind fun v8 =>
  (BS v8.1).bind fun v9 =>
  (if (!v8.2.2)=true then some (c5,true) else some (c5,(!v9.2))).bind fun j12 =>
  if j12.2=true then
  some (.inr (c6,3))
  else
  (Ba x0 [] v9.1).bind fun v16 =>
  if (v16 != 0)=true then
  some (.inr (c6,v16))
  else
  if ((j12.1.length:Int)==64)=true then
  some (.inr (c6,7))
  else
  if (CK 24 (j12.1.length + 1))=true then
  BK x0 f v8.2.1 (j12.1++[v9.1]) (wr .i64 (c6 + 1))
  else none
  else
  some (.inl c5)
def Bz (x0:Int) (x1:(List UInt8)):Option ((List (List (List Int)))×Int×Int) :=
 (Bg x0).bind fun v1 =>
 if (!v1)=true then
 some ([],0,90)
 else
 if (decide ((x1.length:Int) > 65536))=true then
 some ([],0,7)
 else
 (BK x0 100000 x1 [] 0).bind fun r22 =>
 match r22 with
 | (.inl w23) =>
  some (w23,0,0)
 | (.inr w24) =>
  some ([],w24.1,w24.2)
def DY:Cs (Int×(List UInt8)×Unit):=(csC cdI (csC cdS csN))
def Db (r:(List (List (List Int)))×Int×Int):AV:= .tp [(cdL 1 (cdL 1 (cdL 1 cdI))).enc r.1,cdI.enc r.2.1,cdI.enc r.2.2]
theorem Dp (x0:Int):∀ (f:Nat) (c4:(List UInt8)) (c5:(List (List (List Int)))) (c6:Int) (r:((List (List (List Int)))) ⊕ (Int×Int)),BK x0 f c4 c5 c6=some r->SemN E0 ⟨none,false⟩ (pc DV [1,1,1,0,1,0,0]) f ⟨Fr 62 [(0,.v (.int .i64 x0)),(1,.st c4),(7,hd 0 (c5.map (cdL 1 (cdL 1 cdI)).enc)),(8,.v (.int .i64 c6))],[mk 1 43 (c5.map (cdL 1 (cdL 1 cdI)).enc)]⟩ (fun e s=>match r with
 | (.inl w)=>e=(.exit 1)/\Wk E0 s ⟨Fr 62 [(7,hd 0 (w.map (cdL 1 (cdL 1 cdI)).enc))],[mk 1 43 (w.map (cdL 1 (cdL 1 cdI)).enc)]⟩
 | (.inr w)=>e = .ret/\Wk E0 s ⟨Fr 62 [(4,.e0),(5,.v (.int .i64 w.1)),(6,.v (.int .i64 w.2))],[]⟩):=by
 intro f;induction f with
 | zero=>intro c4 c5 c6 r h; cases h
 | succ f ih0 =>
  intro c4 c5 c6 r h
  have ih:=fun (c4:(List UInt8)) (c5:(List (List (List Int)))) (c6:Int)=>ih0 c4 c5 c6 r
  unfold BK at h;refine BM ?_;refine AD ?_;refine AN AC [(0,.v (.int .i64 x0)),(1,.st c4),(7,hd 0 (c5.map (cdL 1 (cdL 1 cdI)).enc)),(8,.v (.int .i64 c6)),(24,.v (.bool (!(c4==[]))))] [mk 1 43 (c5.map (cdL 1 (cdL 1 cdI)).enc)] ?_;refine AP (b:=(!(c4==[]))) kr (fun hb7=>?_) (fun hb7=>?_)
  ·rw [if_pos hb7] at h
   refine AT ?_;refine AD ?_;refine AU ?_;refine AD ?_;obtain ⟨v8,hv8,h⟩:=OB h;refine AG (s1:=⟨Fr 62 [(0,.v (.int .i64 x0)),(7,hd 0 (c5.map (cdL 1 (cdL 1 cdI)).enc)),(8,.v (.int .i64 c6)),(9,.st v8.1),(10,.st v8.2.1),(11,.v (.bool v8.2.2))],[mk 1 43 (c5.map (cdL 1 (cdL 1 cdI)).enc)]⟩) ?_ ?_
   ·refine AB (n:=62) AC 1 [(0,.v (.int .i64 x0)),(7,hd 0 (c5.map (cdL 1 (cdL 1 cdI)).enc)),(8,.v (.int .i64 c6)),(28,.st c4)] [mk 1 43 (c5.map (cdL 1 (cdL 1 cdI)).enc)] kr ?_
    refine Am (caps:=[]) (xs:=[.st c4,.st [10]]) (u:=(c4,[10],())) rfl rfl JI rfl (AA rfl) kr kr (A4 (BX (c:=cdS) (v:=c4)) (A4 (BX (c:=cdS) (v:=[10])) Ch)) (.inl kr) hv8 ?_;exact AQ AC
   refine AD ?_;obtain ⟨v9,hv9,h⟩:=OB h;refine AG (s1:=⟨Fr 62 [(0,.v (.int .i64 x0)),(7,hd 0 (c5.map (cdL 1 (cdL 1 cdI)).enc)),(8,.v (.int .i64 c6)),(10,.st v8.2.1),(11,.v (.bool v8.2.2)),(12,.sl 1 (v9.1.map (cdL 1 cdI).enc)),(13,.v (.bool v9.2))],[mk 1 43 (c5.map (cdL 1 (cdL 1 cdI)).enc)]⟩) ?_ ?_
   ·refine AB (n:=62) AC 1 [(0,.v (.int .i64 x0)),(7,hd 0 (c5.map (cdL 1 (cdL 1 cdI)).enc)),(8,.v (.int .i64 c6)),(10,.st v8.2.1),(11,.v (.bool v8.2.2)),(34,.st v8.1)] [mk 1 43 (c5.map (cdL 1 (cdL 1 cdI)).enc)] kr ?_
    refine Am (caps:=[]) (xs:=[.st v8.1]) (u:=(v8.1,())) rfl rfl Gz rfl (AA rfl) kr kr (A4 (BX (c:=cdS) (v:=v8.1)) Ch) (.inr kr) hv9 ?_;exact AQ AC
   refine AD ?_;refine AD ?_;obtain ⟨j12,hj12,h⟩:=OB h;refine AG (s1:=⟨Fr 62 [(0,.v (.int .i64 x0)),(7,hd 0 (j12.1.map (cdL 1 (cdL 1 cdI)).enc)),(8,.v (.int .i64 c6)),(10,.st v8.2.1),(12,.sl 1 (v9.1.map (cdL 1 cdI).enc)),(43,.v (.bool j12.2))],[mk 1 43 (j12.1.map (cdL 1 (cdL 1 cdI)).enc)]⟩) ?_ ?_
   ·refine AB (n:=62) AC 3 [(0,.v (.int .i64 x0)),(7,hd 0 (c5.map (cdL 1 (cdL 1 cdI)).enc)),(8,.v (.int .i64 c6)),(10,.st v8.2.1),(12,.sl 1 (v9.1.map (cdL 1 cdI).enc)),(13,.v (.bool v9.2)),(40,.v (.bool (!v8.2.2)))] [mk 1 43 (c5.map (cdL 1 (cdL 1 cdI)).enc)] kr ?_
    rcases BE (!v8.2.2) with hc20 | hc20
    ·rw [if_pos hc20] at hj12
     rw [hc20];refine AB (n:=62) AC 3 [(0,.v (.int .i64 x0)),(7,hd 0 (c5.map (cdL 1 (cdL 1 cdI)).enc)),(8,.v (.int .i64 c6)),(10,.st v8.2.1),(12,.sl 1 (v9.1.map (cdL 1 cdI).enc)),(41,.tp []),(42,.tp []),(43,.v (.bool true))] [mk 1 43 (c5.map (cdL 1 (cdL 1 cdI)).enc)] kr ?_;have hq:=OI hj12; subst hq;exact AJ rfl (BP [0] ⟨⟨_,rfl,Hb⟩,trivial⟩ ⟨lv,Hv (b':=0) kr kr,lv,lv,lv,lv,trivial⟩)
    ·rw [BL hc20] at hj12
     rw [hc20];refine AB (n:=62) AC 3 [(0,.v (.int .i64 x0)),(7,hd 0 (c5.map (cdL 1 (cdL 1 cdI)).enc)),(8,.v (.int .i64 c6)),(10,.st v8.2.1),(12,.sl 1 (v9.1.map (cdL 1 cdI).enc)),(41,.v (.bool v9.2)),(42,.v (.bool (!v9.2))),(43,.v (.bool (!v9.2)))] [mk 1 43 (c5.map (cdL 1 (cdL 1 cdI)).enc)] kr ?_;have hq:=OI hj12; subst hq;exact AJ rfl (BP [0] ⟨⟨_,rfl,Hb⟩,trivial⟩ ⟨lv,Hv (b':=0) kr kr,lv,lv,lv,lv,trivial⟩)
   refine AP (b:=j12.2) kr (fun hb13=>?_) (fun hb13=>?_)
   ·rw [if_pos hb13] at h
    refine AD ?_;refine AG (s1:=⟨Fr 62 [(4,.e0),(5,.v (.int .i64 c6)),(6,.v (.int .i64 3))],[]⟩) ?_ ?_
    ·refine AB (n:=62) AC 4 [(4,.e0),(5,.v (.int .i64 c6)),(6,.v (.int .i64 3))] [mk 1 43 (j12.1.map (cdL 1 (cdL 1 cdI)).enc)] kr ?_
     exact AJ rfl (BP [] trivial ⟨lv,lv,lv,trivial⟩)
    refine AW ?_;have hq:=OI h; subst hq;exact ⟨rfl,AI⟩
   ·rw [BL hb13] at h
    refine AT ?_;refine AD ?_;refine AD ?_;obtain ⟨v16,hv16,h⟩:=OB h;refine AG (s1:=⟨Fr 62 [(0,.v (.int .i64 x0)),(7,hd 0 (j12.1.map (cdL 1 (cdL 1 cdI)).enc)),(8,.v (.int .i64 c6)),(10,.st v8.2.1),(12,.sl 1 (v9.1.map (cdL 1 cdI).enc)),(14,.v (.int .i64 v16))],[mk 1 43 (j12.1.map (cdL 1 (cdL 1 cdI)).enc)]⟩) ?_ ?_
    ·refine AB (n:=62) AC 2 [(0,.v (.int .i64 x0)),(7,hd 0 (j12.1.map (cdL 1 (cdL 1 cdI)).enc)),(8,.v (.int .i64 c6)),(10,.st v8.2.1),(12,.sl 1 (v9.1.map (cdL 1 cdI).enc)),(45,.v (.int .i64 x0)),(46,.sl 1 (v9.1.map (cdL 1 cdI).enc))] [mk 1 43 (j12.1.map (cdL 1 (cdL 1 cdI)).enc)] kr ?_
     refine Am (caps:=[]) (xs:=[.v (.int .i64 x0),.e0,.sl 1 (v9.1.map (cdL 1 cdI).enc)]) (u:=(x0,[],v9.1,())) rfl rfl ID rfl (AA rfl) kr kr (A4 (BX (c:=cdI) (v:=x0)) (A4 Sm.e0 (A4 (BX (c:=(cdL 1 (cdL 1 cdI))) (v:=v9.1)) Ch))) (.inl kr) hv16 ?_;exact AQ AC
    refine AN AC [(0,.v (.int .i64 x0)),(7,hd 0 (j12.1.map (cdL 1 (cdL 1 cdI)).enc)),(8,.v (.int .i64 c6)),(10,.st v8.2.1),(12,.sl 1 (v9.1.map (cdL 1 cdI).enc)),(14,.v (.int .i64 v16)),(49,.v (.bool (v16 != 0)))] [mk 1 43 (j12.1.map (cdL 1 (cdL 1 cdI)).enc)] ?_;refine AP (b:=(v16 != 0)) kr (fun hb17=>?_) (fun hb17=>?_)
    ·rw [if_pos hb17] at h
     refine AD ?_;refine AG (s1:=⟨Fr 62 [(4,.e0),(5,.v (.int .i64 c6)),(6,.v (.int .i64 v16))],[]⟩) ?_ ?_
     ·refine AB (n:=62) AC 5 [(4,.e0),(5,.v (.int .i64 c6)),(6,.v (.int .i64 v16))] [mk 1 43 (j12.1.map (cdL 1 (cdL 1 cdI)).enc)] kr ?_
      exact AJ rfl (BP [] trivial ⟨lv,lv,lv,trivial⟩)
     refine AW ?_;have hq:=OI h; subst hq;exact ⟨rfl,AI⟩
    ·rw [BL hb17] at h
     refine AT ?_;refine AD ?_;refine AD ?_;refine AG (s1:=⟨Fr 62 [(0,.v (.int .i64 x0)),(7,hd 0 (j12.1.map (cdL 1 (cdL 1 cdI)).enc)),(8,.v (.int .i64 c6)),(10,.st v8.2.1),(12,.sl 1 (v9.1.map (cdL 1 cdI).enc)),(54,.v (.bool ((j12.1.length:Int)==64)))],[mk 1 43 (j12.1.map (cdL 1 (cdL 1 cdI)).enc)]⟩) ?_ ?_
     ·refine AB (n:=62) AC 1 [(0,.v (.int .i64 x0)),(7,hd 0 (j12.1.map (cdL 1 (cdL 1 cdI)).enc)),(8,.v (.int .i64 c6)),(10,.st v8.2.1),(12,.sl 1 (v9.1.map (cdL 1 cdI).enc)),(52,hd 0 (j12.1.map (cdL 1 (cdL 1 cdI)).enc))] [mk 1 43 (j12.1.map (cdL 1 (cdL 1 cdI)).enc)] kr ?_
      refine AK AC 0 rfl (Bu (AA rfl) rfl (B8 (a:=hd 0 (j12.1.map (cdL 1 (cdL 1 cdI)).enc)) kr (Nf (xs:=j12.1) (e:=(cdL 1 (cdL 1 cdI)).enc) (el:=43) kr))) ?_;exact AQ AC
     refine AP (b:=((j12.1.length:Int)==64)) kr (fun hb18=>?_) (fun hb18=>?_)
     ·rw [if_pos hb18] at h
      refine AD ?_;refine AG (s1:=⟨Fr 62 [(4,.e0),(5,.v (.int .i64 c6)),(6,.v (.int .i64 7))],[]⟩) ?_ ?_
      ·refine AB (n:=62) AC 4 [(4,.e0),(5,.v (.int .i64 c6)),(6,.v (.int .i64 7))] [mk 1 43 (j12.1.map (cdL 1 (cdL 1 cdI)).enc)] kr ?_
       exact AJ rfl (BP [] trivial ⟨lv,lv,lv,trivial⟩)
      refine AW ?_;have hq:=OI h; subst hq;exact ⟨rfl,AI⟩
     ·rw [BL hb18] at h
      refine AT ?_;refine AD ?_;by_cases hk19:(CK 24 (j12.1.length + 1))=true
      case neg=>rw [if_neg hk19] at h; cases h
      rw [if_pos hk19] at h;refine AG (s1:=⟨Fr 62 [(0,.v (.int .i64 x0)),(7,hd 0 ((j12.1++[v9.1]).map (cdL 1 (cdL 1 cdI)).enc)),(8,.v (.int .i64 c6)),(10,.st v8.2.1)],[mk 1 43 ((j12.1++[v9.1]).map (cdL 1 (cdL 1 cdI)).enc)]⟩) ?_ ?_
      ·refine AB (n:=62) AC 3 [(0,.v (.int .i64 x0)),(8,.v (.int .i64 c6)),(10,.st v8.2.1),(56,hd 0 (j12.1.map (cdL 1 (cdL 1 cdI)).enc)),(58,hd 1 ([v9.1].map (cdL 1 (cdL 1 cdI)).enc))] [mk 1 43 (j12.1.map (cdL 1 (cdL 1 cdI)).enc),mk 1 43 ([v9.1].map (cdL 1 (cdL 1 cdI)).enc)] kr ?_
       refine AK AC 0 rfl (MH (AA rfl) rfl kr kr (C3 (a:=hd 0 (j12.1.map (cdL 1 (cdL 1 cdI)).enc)) (b:=hd 1 ([v9.1].map (cdL 1 (cdL 1 cdI)).enc)) kr kr (Ka (c:=(cdL 1 (cdL 1 cdI))) (xs:=j12.1) (vs:=[v9.1]) (k:=1) (bytes:=24) (el:=43) kr kr (Kf (t:=43) kr) (List.cons_ne_nil _ _) kr hk19))) ?_;refine AB (n:=62) AC 1 [(0,.v (.int .i64 x0)),(7,hd 2 ((j12.1++[v9.1]).map (cdL 1 (cdL 1 cdI)).enc)),(8,.v (.int .i64 c6)),(10,.st v8.2.1)] [none,mk 1 43 ([v9.1].map (cdL 1 (cdL 1 cdI)).enc),mk 1 43 ((j12.1++[v9.1]).map (cdL 1 (cdL 1 cdI)).enc)] kr ?_;exact AJ rfl (BP [2] ⟨⟨_,rfl,Hb⟩,trivial⟩ ⟨lv,Hv (b':=2) kr kr,lv,lv,trivial⟩)
      refine CP AC [(0,.v (.int .i64 x0)),(1,.st v8.2.1),(7,hd 0 ((j12.1++[v9.1]).map (cdL 1 (cdL 1 cdI)).enc)),(8,.v (.int .i64 c6))] [mk 1 43 ((j12.1++[v9.1]).map (cdL 1 (cdL 1 cdI)).enc)] ?_;refine CP AC [(0,.v (.int .i64 x0)),(1,.st v8.2.1),(7,hd 0 ((j12.1++[v9.1]).map (cdL 1 (cdL 1 cdI)).enc)),(8,.v (.int .i64 (wr .i64 (c6 + 1))))] [mk 1 43 ((j12.1++[v9.1]).map (cdL 1 (cdL 1 cdI)).enc)] ?_;exact AY (s1:=⟨Fr 62 [(0,.v (.int .i64 x0)),(1,.st v8.2.1),(7,hd 0 ((j12.1++[v9.1]).map (cdL 1 (cdL 1 cdI)).enc)),(8,.v (.int .i64 (wr .i64 (c6 + 1))))],[mk 1 43 ((j12.1++[v9.1]).map (cdL 1 (cdL 1 cdI)).enc)]⟩) (BP [0] ⟨⟨_,rfl,Hb⟩,trivial⟩ ⟨lv,lv,Hv (b':=0) kr kr,lv,trivial⟩) (ih v8.2.1 (j12.1++[v9.1]) (wr .i64 (c6 + 1)) h)
  ·rw [BL hb7] at h
   refine BW ?_;have hq:=OI h; subst hq;exact ⟨rfl,(BP [0] ⟨⟨_,rfl,Hb⟩,trivial⟩ ⟨Hv (b':=0) kr kr,trivial⟩)⟩
theorem Gd (x0:Int) (x1:(List UInt8)) (r:(List (List (List Int)))×Int×Int) (h:Bz x0 x1=some r):Sem E0 ⟨none,false⟩ DV ⟨Fr 62 (BA 0 (DY.enc (x0,x1,()))),[]⟩ fun e s'=>(e = .normal\/e = .ret)/\∃ xs,EM E0.P s'.fr s'.hp Tryd.f9.results.toList=some xs/\Ea xs=Db r:=by
 unfold Bz at h
 let p1:Nat×AV:=(0,.v (.int .i64 x0))
 refine Bq (CM (s1:=⟨Fr 62 [p1,(1,.st x1)],[]⟩) AI ?_);refine AN AC [p1,(1,.st x1)] [] ?_;refine AD ?_;refine AU ?_;refine AD ?_;obtain ⟨v1,hv1,h⟩:=OB h;refine AG (s1:=⟨Fr 62 [p1,(1,.st x1),(15,.v (.bool (!v1)))],[]⟩) ?_ ?_
 ·refine AB (n:=62) AC 1 [p1,(1,.st x1),(16,.v (.int .i64 x0))] [] kr ?_
  refine Am (caps:=[]) (xs:=[.v (.int .i64 x0)]) (u:=(x0,())) rfl rfl HL rfl (AA rfl) kr kr (A4 (BX (c:=cdI) (v:=x0)) Ch) (.inl kr) hv1 ?_;exact AQ AC
 refine AP (b:=(!v1)) kr (fun hb2=>?_) (fun hb2=>?_)
 ·rw [if_pos hb2] at h
  let p2:Nat×AV:=(6,.v (.int .i64 90))
  let p3:Nat×AV:=(5,.v (.int .i64 0))
  refine AN AC [(4,.e0),p3,p2] [] ?_;refine AW ?_;have hq:=OI h; subst hq
  let p4:Nat×AV:=(4,.sl 1 ([].map (cdL 1 (cdL 1 cdI)).enc))
  exact ⟨⟨Fr 62 [p4,p3,p2],[]⟩,(Wk.trans (s1:=⟨Fr 62 [(4,.e0),p3,p2],[]⟩) AI (Wk.trans (s1:=⟨Fr 62 [(4,.e0),p3,p2],[none]⟩) Wk.none (Wk.trans (s1:=⟨Fr 62 [p4,p3,p2],[none]⟩) (FB 0 (.inr kr) ⟨.inl rfl,trivial⟩ ⟨⟨.e0,kr,LE⟩,⟨.v (.int .i64 0),kr,.inl rfl⟩,⟨.v (.int .i64 90),kr,.inl rfl⟩,trivial⟩) (BP [] trivial ⟨lv,lv,lv,trivial⟩)))),.inr rfl,[.sl 1 ([].map (cdL 1 (cdL 1 cdI)).enc),.v (.int .i64 0),.v (.int .i64 90)],kr,kr⟩
 ·rw [BL hb2] at h
  refine AN AC [p1,(1,.st x1),(19,.v (.bool (decide ((x1.length:Int) > 65536))))] [] ?_;refine AP (b:=(decide ((x1.length:Int) > 65536))) kr (fun hb3=>?_) (fun hb3=>?_)
  ·rw [if_pos hb3] at h
   let p5:Nat×AV:=(6,.v (.int .i64 7))
   let p6:Nat×AV:=(5,.v (.int .i64 0))
   refine AN AC [(4,.e0),p6,p5] [] ?_;refine AW ?_;have hq:=OI h; subst hq
   let p7:Nat×AV:=(4,.sl 1 ([].map (cdL 1 (cdL 1 cdI)).enc))
   exact ⟨⟨Fr 62 [p7,p6,p5],[]⟩,(Wk.trans (s1:=⟨Fr 62 [(4,.e0),p6,p5],[]⟩) AI (Wk.trans (s1:=⟨Fr 62 [(4,.e0),p6,p5],[none]⟩) Wk.none (Wk.trans (s1:=⟨Fr 62 [p7,p6,p5],[none]⟩) (FB 0 (.inr kr) ⟨.inl rfl,trivial⟩ ⟨⟨.e0,kr,LE⟩,⟨.v (.int .i64 0),kr,.inl rfl⟩,⟨.v (.int .i64 7),kr,.inl rfl⟩,trivial⟩) (BP [] trivial ⟨lv,lv,lv,trivial⟩)))),.inr rfl,[.sl 1 ([].map (cdL 1 (cdL 1 cdI)).enc),.v (.int .i64 0),.v (.int .i64 7)],kr,kr⟩
  ·rw [BL hb3] at h
   refine AT ?_;refine AN AC [p1,(1,.st x1),(7,.e0)] [] ?_;refine AD ?_
   let p8:Nat×AV:=(8,.v (.int .i64 0))
   refine AN AC [p1,(1,.st x1),(7,.e0),p8] [] ?_;refine AU ?_;obtain ⟨r22,hr22,h⟩:=OB h;refine Bp (n:=100000) ?_;rcases r22 with w23 | w24
   ·try dsimp only at h
    let p9:Option Blk:=mk 1 43 ([].map (cdL 1 (cdL 1 cdI)).enc)
    let p10:Nat×AV:=(7,hd 0 ([].map (cdL 1 (cdL 1 cdI)).enc))
    refine Ah (AY (s1:=⟨Fr 62 [p1,(1,.st x1),p10,p8],[p9]⟩) (Wk.trans (s1:=⟨Fr 62 [p1,(1,.st x1),p10,p8],[p9]⟩) Wk.none (BP [0] ⟨⟨_,rfl,Io⟩,trivial⟩ ⟨lv,lv,lv,lv,trivial⟩)) (Dp x0 _ x1 [] 0 _ hr22)) ?_
    let p11:Nat×AV:=(6,.v (.int .i64 0))
    let p12:Nat×AV:=(5,.v (.int .i64 0))
    refine AN AC [(4,hd 0 (w23.map (cdL 1 (cdL 1 cdI)).enc)),p12,p11] [mk 1 43 (w23.map (cdL 1 (cdL 1 cdI)).enc)] ?_;refine AW ?_;have hq:=OI h; subst hq
    let p13:Nat×AV:=(4,.sl 1 (w23.map (cdL 1 (cdL 1 cdI)).enc))
    exact ⟨⟨Fr 62 [p13,p12,p11],[]⟩,(Wk.trans (s1:=⟨Fr 62 [p13,p12,p11],[none]⟩) (FB 0 (.inl kr) ⟨.inl rfl,trivial⟩ ⟨⟨hd 0 (w23.map (cdL 1 (cdL 1 cdI)).enc),kr,OF (t:=43) kr Kh⟩,⟨.v (.int .i64 0),kr,.inl rfl⟩,⟨.v (.int .i64 0),kr,.inl rfl⟩,trivial⟩) (BP [] trivial ⟨lv,lv,lv,trivial⟩)),.inr rfl,[.sl 1 (w23.map (cdL 1 (cdL 1 cdI)).enc),.v (.int .i64 0),.v (.int .i64 0)],kr,kr⟩
   ·try dsimp only at h
    let p14:Option Blk:=mk 1 43 ([].map (cdL 1 (cdL 1 cdI)).enc)
    let p15:Nat×AV:=(7,hd 0 ([].map (cdL 1 (cdL 1 cdI)).enc))
    refine Ah (AY (s1:=⟨Fr 62 [p1,(1,.st x1),p15,p8],[p14]⟩) (Wk.trans (s1:=⟨Fr 62 [p1,(1,.st x1),p15,p8],[p14]⟩) Wk.none (BP [0] ⟨⟨_,rfl,Io⟩,trivial⟩ ⟨lv,lv,lv,lv,trivial⟩)) (Dp x0 _ x1 [] 0 _ hr22)) ?_;have hq:=OI h; subst hq
    let p16:Nat×AV:=(6,.v (.int .i64 w24.2))
    let p17:Nat×AV:=(5,.v (.int .i64 w24.1))
    let p18:Nat×AV:=(4,.sl 1 ([].map (cdL 1 (cdL 1 cdI)).enc))
    exact ⟨⟨Fr 62 [p18,p17,p16],[]⟩,(Wk.trans (s1:=⟨Fr 62 [(4,.e0),p17,p16],[]⟩) AI (Wk.trans (s1:=⟨Fr 62 [(4,.e0),p17,p16],[none]⟩) Wk.none (Wk.trans (s1:=⟨Fr 62 [p18,p17,p16],[none]⟩) (FB 0 (.inr kr) ⟨.inl rfl,trivial⟩ ⟨⟨.e0,kr,LE⟩,⟨.v (.int .i64 w24.1),kr,.inl rfl⟩,⟨.v (.int .i64 w24.2),kr,.inl rfl⟩,trivial⟩) (BP [] trivial ⟨lv,lv,lv,trivial⟩)))),.inr rfl,[.sl 1 ([].map (cdL 1 (cdL 1 cdI)).enc),.v (.int .i64 w24.1),.v (.int .i64 w24.2)],kr,kr⟩
def H6:List AV->Option AV:=Dz DY (fun a=>Bz a.1 a.2.1) Db
theorem IC:XOk 9 H6:=by
 refine BJ Tryd.func9 (c:=DV) ?h2 ⟨Tryd.call9⟩ DY (fun a=>Bz a.1 a.2.1) Db (fun a=>(by show 2<=62; decide)) ?h3 ?h4
 case h2=>kernel_rfl
 case h3=>intro b; kernel_rfl
 case h4=>exact fun a b h=>Gd a.1 a.2.1 b h
/- trestle/trestlekit.Lines -/
noncomputable def D2:Code:=B6 Tryd.f35
def DS (x0:(List UInt8)) (c2:Int) (c3:Int) (c5:(List (List UInt8))) (v7:UInt8):Option ((Int×(List (List UInt8)))) :=
 if ((v7.toNat:Int)==10)=true then
 if (CF c2 c3 x0.length)=true then
 if (CK 16 (c5.length + ([((x0.take c3.toNat).drop c2.toNat)]:List (List UInt8)).length))=true then
 some ((wr .i64 (c3 + 1)),(c5++([((x0.take c3.toNat).drop c2.toNat)]:List (List UInt8))))
 else none
 else none
 else
 some (c2,c5)
def Bb (x0:(List UInt8)):Nat->Int->Int->(List (List UInt8))->Option ((Int×(List (List UInt8))))
 | 0,_,_,_=>none
 | f + 1,c2,c3,c5 =>
  if (decide (c3 < (x0.length:Int)))=true then
  (idx x0 c3).bind fun v7 =>
  (DS x0 c2 c3 c5 v7).bind fun r23 =>
  Bb x0 f r23.1 (wr .i64 (c3 + 1)) r23.2
  else
  some (c2,c5)
def Dr (x0:(List UInt8)):Option ((List (List UInt8))×Bool) :=
 (Bb x0 100000 0 0 ([]:(List (List UInt8)))).bind fun r30 =>
 if (decide (r30.1 < (x0.length:Int)))=true then
 if (CF r30.1 (x0.length:Int) x0.length)=true then
 if (CK 16 (r30.2.length + ([((x0.take (x0.length:Int).toNat).drop r30.1.toNat)]:List (List UInt8)).length))=true then
 some ((r30.2++([((x0.take (x0.length:Int).toNat).drop r30.1.toNat)]:List (List UInt8))),false)
 else none
 else none
 else
 some (r30.2,true)
theorem Hq {L:List Asn}{hp:Hp}(x0:(List UInt8)) (c2:Int) (c3:Int) (c5:(List (List UInt8))) (v7:UInt8) (e4:AV) (r:(Int×(List (List UInt8)))) (h:DS x0 c2 c3 c5 v7=some r) (hT:T hp ((own_ (ocL 1 9 (ocV cdS)) e4 c5)::L)):SemY E0 ⟨none,false⟩ (pc D2 [1,1,1,0,1,0,0,1,0,0,1]) ⟨Fr 37 [(0,.st x0),(4,e4),(5,.v (.int .i64 c2)),(6,.v (.int .i64 c3)),(16,.v (.bool ((v7.toNat:Int)==10)))],hp⟩ (fun e s=>e = .normal/\∃ s2,(∃ (e21:AV) (h':Hp),T h' ((own_ (ocL 1 9 (ocV cdS)) e21 r.2)::L)/\s2=⟨Fr 37 [(0,.st x0),(4,e21),(5,.v (.int .i64 r.1)),(6,.v (.int .i64 c3))],h'⟩)/\WkY E0 s s2):=by
 unfold DS at h;refine Ax (b:=((v7.toNat:Int)==10)) kr (fun hb8=>?_) (fun hb8=>?_)
 ·rw [if_pos hb8] at h
  refine AM ?_;refine AF ?_;refine Ad AC 4 ?_;by_cases hk9:(CF c2 c3 x0.length)=true
  case neg=>rw [if_neg hk9] at h; cases h
  rw [if_pos hk9] at h;refine AS AC 0 rfl (Bu (AA rfl) rfl (Em (a:= .st x0) (l:=(some (.v (.int .i64 c2)))) (u:=(some (.v (.int .i64 c3)))) (m:=none) kr kr kr rfl (EG (bs:=x0) (lo:=c2) (hi:=c3) kr (Fs (IW hk9)) (Fs (Kd hk9)) hk9))) ?_;obtain ⟨e13,hp10,hb11,hT12⟩:=DK (P:=Tryd.prog) (bytes:=16) (k:=1) (t:=9) (ty:=71) (xs:=([((x0.take c3.toNat).drop c2.toNat)]:List (List UInt8))) (n:=1) (JW (k:=1) (fun _=>⟨rfl,rfl,rfl⟩)) (D8 (c:=cdS) (xs:=([((x0.take c3.toNat).drop c2.toNat)]:List (List UInt8))) hT) rfl kr kr kr;refine AS AC 0 rfl (LX (AA rfl) rfl kr (IQ (xs:=Fh 0 [.st ((x0.take c3.toNat).drop c2.toNat)]) kr hb11)) ?_;by_cases hk18:(CK 16 (c5.length + ([((x0.take c3.toNat).drop c2.toNat)]:List (List UInt8)).length))=true
  case neg=>rw [if_neg hk18] at h; cases h
  rw [if_pos hk18] at h
  have hT19:=((hT12.front 0 rfl).front 1 rfl)
  obtain ⟨e17,hp14,hb15,hT16⟩:=Dh (P:=Tryd.prog) (ty:=71) (ty2:=71) (bytes:=16) hT19 kr kr hk18;refine AS AC 0 rfl (MH (AA rfl) rfl kr kr (C3 (a:=e4) (b:=e13) kr kr hb15)) ?_;refine Av AC [(0,.st x0),(4,e17),(6,.v (.int .i64 c3))] ?_;refine AF ?_;refine Ad AC 3 ?_;refine BV rfl ?_;have hq:=OI h; subst hq;exact ⟨rfl,_,⟨e17,hp14,hT16,rfl⟩,WkY.f1⟩
 ·rw [BL hb8] at h
  refine SemY.skip ?_;have hq:=OI h; subst hq;exact ⟨rfl,_,⟨e4,hp,hT,rfl⟩,WkY.f1⟩
theorem Hr {L:List Asn}(x0:(List UInt8)):∀ (f:Nat) (c2:Int) (c3:Int) (c5:(List (List UInt8))) (r:(Int×(List (List UInt8)))),Bb x0 f c2 c3 c5=some r->∀ (e4:AV) (hp:Hp),T hp ((own_ (ocL 1 9 (ocV cdS)) e4 c5)::L)->SemYN E0 ⟨none,false⟩ (pc D2 [1,1,1,0,1,0,0]) f ⟨Fr 37 [(0,.st x0),(4,e4),(5,.v (.int .i64 c2)),(6,.v (.int .i64 c3))],hp⟩ (fun e s=>e=(.exit 0)/\∃ s2,(∃ (e28:AV) (h':Hp),T h' ((own_ (ocL 1 9 (ocV cdS)) e28 r.2)::L)/\s2=⟨Fr 37 [(0,.st x0),(4,e28),(5,.v (.int .i64 r.1))],h'⟩)/\WkY E0 s s2):=by
 intro f;induction f with
 | zero=>intro c2 c3 c5 r h; cases h
 | succ f ih0 =>
  intro c2 c3 c5 r h e4 hp hT;unfold Bb at h;refine EP ?_;refine AM ?_;refine Aa AC [(0,.st x0),(4,e4),(5,.v (.int .i64 c2)),(6,.v (.int .i64 c3)),(10,.v (.bool (decide (c3 < (x0.length:Int)))))] ?_;refine Ax (b:=(decide (c3 < (x0.length:Int)))) kr (fun hb6=>?_) (fun hb6=>?_)
  ·rw [if_pos hb6] at h
   refine SemY.skip ?_;refine AM ?_;refine B9 ?_;refine AM ?_;refine AF ?_;refine Ad AC 2 ?_;obtain ⟨v7,hv7,h⟩:=OB h;refine AS AC 0 rfl (Bu (AA rfl) rfl (Dw (a:= .st x0) (b:= .v (.int .i64 c3)) kr kr (Cu (bs:=x0) (ki:= .i64) kr hv7))) ?_;refine Av AC [(0,.st x0),(4,e4),(5,.v (.int .i64 c2)),(6,.v (.int .i64 c3)),(16,.v (.bool ((v7.toNat:Int)==10)))] ?_;obtain ⟨r23,hr23,h⟩:=OB h;refine GL (Hq x0 c2 c3 c5 v7 e4 _ hr23 hT) ?_;rintro _ ⟨e24,hp25,hT26,rfl⟩;refine AF ?_;refine Ad AC 3 ?_;refine BV rfl ?_;exact Bx WkY.f1 (ih0 r23.1 (wr .i64 (c3 + 1)) r23.2 _ h e24 hp25 hT26)
  ·rw [BL hb6] at h
   refine SemY.exit ?_;have hq:=OI h; subst hq;exact ⟨rfl,_,⟨e4,hp,hT,rfl⟩,WkY.f1⟩
theorem Iu {L:List Asn}{hp:Hp}(x0:(List UInt8)) (r:(List (List UInt8))×Bool) (h:Dr x0=some r) (hT:T hp (L)):SemY E0 ⟨none,false⟩ D2 ⟨Fr 37 (BA 0 [.st x0]),hp⟩ fun x s'=>(x = .normal\/x = .ret)/\∃ ys,EM E0.P s'.fr s'.hp Tryd.f35.results.toList=some ys/\(fun v h'=>v = .tp [.sl 1 (r.1.map cdS.enc),.v (.bool r.2)]/\T h' (L)) (Ea ys) s'.hp:=by
 unfold Dr at h;refine Fb (F3 (s1:=⟨Fr 37 [(0,.st x0)],hp⟩) WkY.f1 ?_);refine Aa AC [(0,.st x0)] ?_;refine Aa AC [(0,.st x0),(4,.e0)] ?_;refine Aa AC [(0,.st x0),(4,.e0),(5,.v (.int .i64 0))] ?_;refine AM ?_;refine Aa AC [(0,.st x0),(4,.e0),(5,.v (.int .i64 0)),(6,.v (.int .i64 0))] ?_;refine B9 ?_
 have hT1:=(T.e0 (k:=1) (ty:=9) (o:=(ocV cdS)) hT)
 refine SemY.loop (n:=100000) ?_;obtain ⟨r30,hr30,h⟩:=OB h;refine Cb (Bx WkY.f1 (Hr x0 _ 0 0 ([]:(List (List UInt8))) _ hr30 .e0 hp hT1)) ?_;rintro _ ⟨e31,hp32,hT33,rfl⟩;refine AM ?_;refine Aa AC [(0,.st x0),(4,e31),(5,.v (.int .i64 r30.1)),(29,.v (.bool (decide (r30.1 < (x0.length:Int)))))] ?_;refine Ax (b:=(decide (r30.1 < (x0.length:Int)))) kr (fun hb34=>?_) (fun hb34=>?_)
 ·rw [if_pos hb34] at h
  refine AM ?_;refine AF ?_;refine Ad AC 3 ?_;by_cases hk35:(CF r30.1 (x0.length:Int) x0.length)=true
  case neg=>rw [if_neg hk35] at h; cases h
  rw [if_pos hk35] at h;refine AS AC 0 rfl (Bu (AA rfl) rfl (Em (a:= .st x0) (l:=(some (.v (.int .i64 r30.1)))) (u:=none) (m:=none) kr kr kr rfl (EG (bs:=x0) (lo:=r30.1) (hi:=(x0.length:Int)) kr (Fs (IW hk35)) rfl hk35))) ?_;obtain ⟨e39,hp36,hb37,hT38⟩:=DK (P:=Tryd.prog) (bytes:=16) (k:=1) (t:=9) (ty:=71) (xs:=([((x0.take (x0.length:Int).toNat).drop r30.1.toNat)]:List (List UInt8))) (n:=1) (JW (k:=1) (fun _=>⟨rfl,rfl,rfl⟩)) (D8 (c:=cdS) (xs:=([((x0.take (x0.length:Int).toNat).drop r30.1.toNat)]:List (List UInt8))) hT33) rfl kr kr kr;refine AS AC 0 rfl (LX (AA rfl) rfl kr (IQ (xs:=Fh 0 [.st ((x0.take (x0.length:Int).toNat).drop r30.1.toNat)]) kr hb37)) ?_;by_cases hk44:(CK 16 (r30.2.length + ([((x0.take (x0.length:Int).toNat).drop r30.1.toNat)]:List (List UInt8)).length))=true
  case neg=>rw [if_neg hk44] at h; cases h
  rw [if_pos hk44] at h
  have hT45:=((hT38.front 0 rfl).front 1 rfl)
  obtain ⟨e43,hp40,hb41,hT42⟩:=Dh (P:=Tryd.prog) (ty:=71) (ty2:=71) (bytes:=16) hT45 kr kr hk44;refine AS AC 0 rfl (MH (AA rfl) rfl kr kr (C3 (a:=e31) (b:=e39) kr kr hb41)) ?_
  let p1:Nat×AV:=(3,.v (.bool false))
  refine Av AC [(2,e43),p1] ?_;refine SemY.ret ?_;have hq:=OI h; subst hq
  let p2:Nat×AV:=(2,.sl 1 ((r30.2++([((x0.take (x0.length:Int).toNat).drop r30.1.toNat)]:List (List UInt8))).map cdS.enc))
  obtain ⟨hp46,hw47,hT48⟩:=Ci (E:=E0) (n:=37) (l:=[(2,e43),p1]) (l':=[p2,p1]) hT42 ⟨⟨e43,kr,Cg⟩,⟨.v (.bool false),kr,FzU.refl⟩,trivial⟩;exact ⟨⟨Fr 37 [p2,p1],hp46⟩,(WkY.trans (WkY.trans WkY.f1 hw47) WkY.f1),.inr rfl,[.sl 1 ((r30.2++([((x0.take (x0.length:Int).toNat).drop r30.1.toNat)]:List (List UInt8))).map cdS.enc),.v (.bool false)],kr,⟨rfl,hT48⟩⟩
 ·rw [BL hb34] at h
  refine SemY.skip ?_
  let p3:Nat×AV:=(3,.v (.bool true))
  refine Aa AC [(2,e31),p3] ?_;refine SemY.ret ?_;have hq:=OI h; subst hq;obtain ⟨hp49,hw50,hT51⟩:=Ci (E:=E0) (n:=37) (l:=[(2,e31),p3]) (l':=[(2,.sl 1 (r30.2.map cdS.enc)),p3]) hT33 ⟨⟨e31,kr,Cg⟩,⟨.v (.bool true),kr,FzU.refl⟩,trivial⟩;exact ⟨⟨Fr 37 [(2,.sl 1 (r30.2.map cdS.enc)),p3],hp49⟩,(WkY.trans (WkY.trans WkY.f1 hw50) WkY.f1),.inr rfl,[.sl 1 (r30.2.map cdS.enc),.v (.bool true)],kr,⟨rfl,hT51⟩⟩
def G3:Cs ((List UInt8)×Unit):=(csC cdS csN)
def G4 (r:(List (List UInt8))×Bool):AV:= .tp [(cdL 1 cdS).enc r.1,cdB.enc r.2]
def KN:List AV->Option AV:=Dz G3 (fun a=>Dr a.1) G4
theorem KW:XOk 35 KN:=by
 refine BJ Tryd.func35 (c:=D2) ?h2 ⟨Tryd.call35⟩ G3 (fun a=>Dr a.1) G4 (fun a=>(by show 1<=37; decide)) ?h3 ?h4
 case h2=>kernel_rfl
 case h3=>intro b; kernel_rfl
 case h4 =>
  intro a b h;refine Sem.mono (Il (Iu (L:=[]) (hp:=[]) a.1 b h T.nil)) fun e s' hs=>?_
  obtain ⟨h1,ys,h2,h3,-⟩:=hs;exact ⟨h1,ys,h2,h3⟩
/- trestle/trestlekit.Words -/
noncomputable def D3:Code:=B6 Tryd.f53
def Ce (x0:(List UInt8)) (c2:Int) (c3:Int) (c5:(List (List UInt8))) (v7:UInt8):Option ((Int×(List (List UInt8))) ⊕ (Unit)) :=
 if ((v7.toNat:Int)==32)=true then
 if (c3==c2)=true then
 some (.inr ())
 else
 if (CF c2 c3 x0.length)=true then
 if (CK 16 (c5.length + ([((x0.take c3.toNat).drop c2.toNat)]:List (List UInt8)).length))=true then
 some (.inl ((wr .i64 (c3 + 1)),(c5++([((x0.take c3.toNat).drop c2.toNat)]:List (List UInt8)))))
 else none
 else none
 else
 some (.inl (c2,c5))
def BH (x0:(List UInt8)):Nat->Int->Int->(List (List UInt8))->Option ((Int×(List (List UInt8))) ⊕ (Unit))
 | 0,_,_,_=>none
 | f + 1,c2,c3,c5 =>
  if (decide (c3 < (x0.length:Int)))=true then
  (idx x0 c3).bind fun v7 =>
  (Ce x0 c2 c3 c5 v7).bind fun r25 =>
  match r25 with
  | (.inl w26) =>
   BH x0 f w26.1 (wr .i64 (c3 + 1)) w26.2
  | (.inr w30) =>
   some (.inr ())
  else
  some (.inl (c2,c5))
def Dt (x0:(List UInt8)):Option ((List (List UInt8))×Bool) :=
 (BH x0 100000 0 0 ([]:(List (List UInt8)))).bind fun r36 =>
 match r36 with
 | (.inl w37) =>
  if (w37.1==(x0.length:Int))=true then
  some (([]:(List (List UInt8))),false)
  else
  if (CF w37.1 (x0.length:Int) x0.length)=true then
  if (CK 16 (w37.2.length + ([((x0.take (x0.length:Int).toNat).drop w37.1.toNat)]:List (List UInt8)).length))=true then
  some ((w37.2++([((x0.take (x0.length:Int).toNat).drop w37.1.toNat)]:List (List UInt8))),true)
  else none
  else none
 | (.inr w60) =>
  some (([]:(List (List UInt8))),false)
theorem FK {L:List Asn}{hp:Hp}(x0:(List UInt8)) (c2:Int) (c3:Int) (c5:(List (List UInt8))) (v7:UInt8) (e4:AV) (r:(Int×(List (List UInt8))) ⊕ (Unit)) (h:Ce x0 c2 c3 c5 v7=some r) (hT:T hp ((own_ (ocL 1 9 (ocV cdS)) e4 c5)::L)):SemY E0 ⟨none,false⟩ (pc D3 [1,1,1,0,1,0,0,1,0,0,1]) ⟨Fr 39 [(0,.st x0),(4,e4),(5,.v (.int .i64 c2)),(6,.v (.int .i64 c3)),(16,.v (.bool ((v7.toNat:Int)==32)))],hp⟩ (fun e s=>match r with
 | (.inl w)=>e = .normal/\∃ s2,(∃ (e23:AV) (h':Hp),T h' ((own_ (ocL 1 9 (ocV cdS)) e23 w.2)::L)/\s2=⟨Fr 39 [(0,.st x0),(4,e23),(5,.v (.int .i64 w.1)),(6,.v (.int .i64 c3))],h'⟩)/\WkY E0 s s2
 | (.inr w)=>e = .ret/\∃ s2,(∃ (h':Hp),T h' (L)/\s2=⟨Fr 39 [(2,.e0),(3,.v (.bool false))],h'⟩)/\WkY E0 s s2):=by
 unfold Ce at h;refine Ax (b:=((v7.toNat:Int)==32)) kr (fun hb8=>?_) (fun hb8=>?_)
 ·rw [if_pos hb8] at h
  refine AM ?_;refine Aa AC [(0,.st x0),(4,e4),(5,.v (.int .i64 c2)),(6,.v (.int .i64 c3)),(19,.v (.bool (c3==c2)))] ?_;refine Ax (b:=(c3==c2)) kr (fun hb9=>?_) (fun hb9=>?_)
  ·rw [if_pos hb9] at h
   refine Aa AC [(2,.e0),(3,.v (.bool false))] ?_;refine SemY.ret ?_;have hq:=OI h; subst hq
   have hT10:=hT.drop
   exact ⟨rfl,_,⟨hp,hT10,rfl⟩,WkY.f1⟩
  ·rw [BL hb9] at h
   refine SemY.skip ?_;refine AM ?_;refine AF ?_;refine Ad AC 4 ?_;by_cases hk11:(CF c2 c3 x0.length)=true
   case neg=>rw [if_neg hk11] at h; cases h
   rw [if_pos hk11] at h;refine AS AC 0 rfl (Bu (AA rfl) rfl (Em (a:= .st x0) (l:=(some (.v (.int .i64 c2)))) (u:=(some (.v (.int .i64 c3)))) (m:=none) kr kr kr rfl (EG (bs:=x0) (lo:=c2) (hi:=c3) kr (Fs (IW hk11)) (Fs (Kd hk11)) hk11))) ?_;obtain ⟨e15,hp12,hb13,hT14⟩:=DK (P:=Tryd.prog) (bytes:=16) (k:=1) (t:=9) (ty:=71) (xs:=([((x0.take c3.toNat).drop c2.toNat)]:List (List UInt8))) (n:=1) (JW (k:=1) (fun _=>⟨rfl,rfl,rfl⟩)) (D8 (c:=cdS) (xs:=([((x0.take c3.toNat).drop c2.toNat)]:List (List UInt8))) hT) rfl kr kr kr;refine AS AC 0 rfl (LX (AA rfl) rfl kr (IQ (xs:=Fh 0 [.st ((x0.take c3.toNat).drop c2.toNat)]) kr hb13)) ?_;by_cases hk20:(CK 16 (c5.length + ([((x0.take c3.toNat).drop c2.toNat)]:List (List UInt8)).length))=true
   case neg=>rw [if_neg hk20] at h; cases h
   rw [if_pos hk20] at h
   have hT21:=((hT14.front 0 rfl).front 1 rfl)
   obtain ⟨e19,hp16,hb17,hT18⟩:=Dh (P:=Tryd.prog) (ty:=71) (ty2:=71) (bytes:=16) hT21 kr kr hk20;refine AS AC 0 rfl (MH (AA rfl) rfl kr kr (C3 (a:=e4) (b:=e15) kr kr hb17)) ?_;refine Av AC [(0,.st x0),(4,e19),(6,.v (.int .i64 c3))] ?_;refine AF ?_;refine Ad AC 3 ?_;refine BV rfl ?_;have hq:=OI h; subst hq;exact ⟨rfl,_,⟨e19,hp16,hT18,rfl⟩,WkY.f1⟩
 ·rw [BL hb8] at h
  refine SemY.skip ?_;have hq:=OI h; subst hq;exact ⟨rfl,_,⟨e4,hp,hT,rfl⟩,WkY.f1⟩
theorem FL {L:List Asn}(x0:(List UInt8)):∀ (f:Nat) (c2:Int) (c3:Int) (c5:(List (List UInt8))) (r:(Int×(List (List UInt8))) ⊕ (Unit)),BH x0 f c2 c3 c5=some r->∀ (e4:AV) (hp:Hp),T hp ((own_ (ocL 1 9 (ocV cdS)) e4 c5)::L)->SemYN E0 ⟨none,false⟩ (pc D3 [1,1,1,0,1,0,0]) f ⟨Fr 39 [(0,.st x0),(4,e4),(5,.v (.int .i64 c2)),(6,.v (.int .i64 c3))],hp⟩ (fun e s=>match r with
 | (.inl w)=>e=(.exit 0)/\∃ s2,(∃ (e34:AV) (h':Hp),T h' ((own_ (ocL 1 9 (ocV cdS)) e34 w.2)::L)/\s2=⟨Fr 39 [(0,.st x0),(4,e34),(5,.v (.int .i64 w.1))],h'⟩)/\WkY E0 s s2
 | (.inr w)=>e = .ret/\∃ s2,(∃ (h':Hp),T h' (L)/\s2=⟨Fr 39 [(2,.e0),(3,.v (.bool false))],h'⟩)/\WkY E0 s s2):=by
 intro f;induction f with
 | zero=>intro c2 c3 c5 r h; cases h
 | succ f ih0 =>
  intro c2 c3 c5 r h e4 hp hT;unfold BH at h;refine EP ?_;refine AM ?_;refine Aa AC [(0,.st x0),(4,e4),(5,.v (.int .i64 c2)),(6,.v (.int .i64 c3)),(10,.v (.bool (decide (c3 < (x0.length:Int)))))] ?_;refine Ax (b:=(decide (c3 < (x0.length:Int)))) kr (fun hb6=>?_) (fun hb6=>?_)
  ·rw [if_pos hb6] at h
   refine SemY.skip ?_;refine AM ?_;refine B9 ?_;refine AM ?_;refine AF ?_;refine Ad AC 2 ?_;obtain ⟨v7,hv7,h⟩:=OB h;refine AS AC 0 rfl (Bu (AA rfl) rfl (Dw (a:= .st x0) (b:= .v (.int .i64 c3)) kr kr (Cu (bs:=x0) (ki:= .i64) kr hv7))) ?_;refine Av AC [(0,.st x0),(4,e4),(5,.v (.int .i64 c2)),(6,.v (.int .i64 c3)),(16,.v (.bool ((v7.toNat:Int)==32)))] ?_;obtain ⟨r25,hr25,h⟩:=OB h;rcases r25 with w26 | w30
   ·try dsimp only at h
    refine GL (FK x0 c2 c3 c5 v7 e4 _ hr25 hT) ?_;rintro _ ⟨e27,hp28,hT29,rfl⟩;refine AF ?_;refine Ad AC 3 ?_;refine BV rfl ?_;exact Bx WkY.f1 (ih0 w26.1 (wr .i64 (c3 + 1)) w26.2 _ h e27 hp28 hT29)
   ·try dsimp only at h
    refine GL (FK x0 c2 c3 c5 v7 e4 _ hr25 hT) ?_;rintro _ ⟨hp31,hT32,rfl⟩;have hq:=OI h; subst hq;exact ⟨rfl,_,⟨hp31,hT32,rfl⟩,WkY.f1⟩
  ·rw [BL hb6] at h
   refine SemY.exit ?_;have hq:=OI h; subst hq;exact ⟨rfl,_,⟨e4,hp,hT,rfl⟩,WkY.f1⟩
theorem Iw {L:List Asn}{hp:Hp}(x0:(List UInt8)) (r:(List (List UInt8))×Bool) (h:Dt x0=some r) (hT:T hp (L)):SemY E0 ⟨none,false⟩ D3 ⟨Fr 39 (BA 0 [.st x0]),hp⟩ fun x s'=>(x = .normal\/x = .ret)/\∃ ys,EM E0.P s'.fr s'.hp Tryd.f53.results.toList=some ys/\(fun v h'=>v = .tp [.sl 1 (r.1.map cdS.enc),.v (.bool r.2)]/\T h' (L)) (Ea ys) s'.hp:=by
 unfold Dt at h;refine Fb (F3 (s1:=⟨Fr 39 [(0,.st x0)],hp⟩) WkY.f1 ?_);refine Aa AC [(0,.st x0)] ?_;refine Aa AC [(0,.st x0),(4,.e0)] ?_;refine Aa AC [(0,.st x0),(4,.e0),(5,.v (.int .i64 0))] ?_;refine AM ?_;refine Aa AC [(0,.st x0),(4,.e0),(5,.v (.int .i64 0)),(6,.v (.int .i64 0))] ?_;refine B9 ?_
 have hT1:=(T.e0 (k:=1) (ty:=9) (o:=(ocV cdS)) hT)
 refine SemY.loop (n:=100000) ?_;obtain ⟨r36,hr36,h⟩:=OB h;rcases r36 with w37 | w60
 ·try dsimp only at h
  refine Cb (Bx WkY.f1 (FL x0 _ 0 0 ([]:(List (List UInt8))) _ hr36 .e0 hp hT1)) ?_;rintro _ ⟨e38,hp39,hT40,rfl⟩;refine AM ?_;refine Aa AC [(0,.st x0),(4,e38),(5,.v (.int .i64 w37.1)),(32,.v (.bool (w37.1==(x0.length:Int))))] ?_;refine Ax (b:=(w37.1==(x0.length:Int))) kr (fun hb41=>?_) (fun hb41=>?_)
  ·rw [if_pos hb41] at h
   let p1:Nat×AV:=(3,.v (.bool false))
   refine Aa AC [(2,.e0),p1] ?_;refine SemY.ret ?_;have hq:=OI h; subst hq
   have hT42:=(T.e0 (k:=1) (ty:=9) (o:=(ocV cdS)) hT40)
   let p2:Nat×AV:=(2,.sl 1 (([]:(List (List UInt8))).map cdS.enc))
   obtain ⟨hp43,hw44,hT45⟩:=Ci (E:=E0) (n:=39) (l:=[(2,.e0),p1]) (l':=[p2,p1]) hT42 ⟨⟨.e0,kr,Cg⟩,⟨.v (.bool false),kr,FzU.refl⟩,trivial⟩;exact ⟨⟨Fr 39 [p2,p1],hp43⟩,(WkY.trans (WkY.trans WkY.f1 hw44) WkY.f1),.inr rfl,[.sl 1 (([]:(List (List UInt8))).map cdS.enc),.v (.bool false)],kr,⟨rfl,hT45.drop⟩⟩
  ·rw [BL hb41] at h
   refine SemY.skip ?_;refine AM ?_;refine AF ?_;refine Ad AC 3 ?_;by_cases hk46:(CF w37.1 (x0.length:Int) x0.length)=true
   case neg=>rw [if_neg hk46] at h; cases h
   rw [if_pos hk46] at h;refine AS AC 0 rfl (Bu (AA rfl) rfl (Em (a:= .st x0) (l:=(some (.v (.int .i64 w37.1)))) (u:=none) (m:=none) kr kr kr rfl (EG (bs:=x0) (lo:=w37.1) (hi:=(x0.length:Int)) kr (Fs (IW hk46)) rfl hk46))) ?_;obtain ⟨e50,hp47,hb48,hT49⟩:=DK (P:=Tryd.prog) (bytes:=16) (k:=1) (t:=9) (ty:=71) (xs:=([((x0.take (x0.length:Int).toNat).drop w37.1.toNat)]:List (List UInt8))) (n:=1) (JW (k:=1) (fun _=>⟨rfl,rfl,rfl⟩)) (D8 (c:=cdS) (xs:=([((x0.take (x0.length:Int).toNat).drop w37.1.toNat)]:List (List UInt8))) hT40) rfl kr kr kr;refine AS AC 0 rfl (LX (AA rfl) rfl kr (IQ (xs:=Fh 0 [.st ((x0.take (x0.length:Int).toNat).drop w37.1.toNat)]) kr hb48)) ?_;by_cases hk55:(CK 16 (w37.2.length + ([((x0.take (x0.length:Int).toNat).drop w37.1.toNat)]:List (List UInt8)).length))=true
   case neg=>rw [if_neg hk55] at h; cases h
   rw [if_pos hk55] at h
   have hT56:=((hT49.front 0 rfl).front 1 rfl)
   obtain ⟨e54,hp51,hb52,hT53⟩:=Dh (P:=Tryd.prog) (ty:=71) (ty2:=71) (bytes:=16) hT56 kr kr hk55;refine AS AC 0 rfl (MH (AA rfl) rfl kr kr (C3 (a:=e38) (b:=e50) kr kr hb52)) ?_
   let p3:Nat×AV:=(3,.v (.bool true))
   refine Av AC [(2,e54),p3] ?_;refine SemY.ret ?_;have hq:=OI h; subst hq
   let p4:Nat×AV:=(2,.sl 1 ((w37.2++([((x0.take (x0.length:Int).toNat).drop w37.1.toNat)]:List (List UInt8))).map cdS.enc))
   obtain ⟨hp57,hw58,hT59⟩:=Ci (E:=E0) (n:=39) (l:=[(2,e54),p3]) (l':=[p4,p3]) hT53 ⟨⟨e54,kr,Cg⟩,⟨.v (.bool true),kr,FzU.refl⟩,trivial⟩;exact ⟨⟨Fr 39 [p4,p3],hp57⟩,(WkY.trans (WkY.trans WkY.f1 hw58) WkY.f1),.inr rfl,[.sl 1 ((w37.2++([((x0.take (x0.length:Int).toNat).drop w37.1.toNat)]:List (List UInt8))).map cdS.enc),.v (.bool true)],kr,⟨rfl,hT59⟩⟩
 ·try dsimp only at h
  refine Cb (Bx WkY.f1 (FL x0 _ 0 0 ([]:(List (List UInt8))) _ hr36 .e0 hp hT1)) ?_;rintro _ ⟨hp61,hT62,rfl⟩;have hq:=OI h; subst hq
  have hT63:=(T.e0 (k:=1) (ty:=9) (o:=(ocV cdS)) hT62)
  let p5:Nat×AV:=(3,.v (.bool false))
  let p6:Nat×AV:=(2,.sl 1 (([]:(List (List UInt8))).map cdS.enc))
  obtain ⟨hp64,hw65,hT66⟩:=Ci (E:=E0) (n:=39) (l:=[(2,.e0),p5]) (l':=[p6,p5]) hT63 ⟨⟨.e0,kr,Cg⟩,⟨.v (.bool false),kr,FzU.refl⟩,trivial⟩;exact ⟨⟨Fr 39 [p6,p5],hp64⟩,(WkY.trans (WkY.trans WkY.f1 hw65) WkY.f1),.inr rfl,[.sl 1 (([]:(List (List UInt8))).map cdS.enc),.v (.bool false)],kr,⟨rfl,hT66⟩⟩
def FE:Cs ((List UInt8)×Unit):=(csC cdS csN)
def G5 (r:(List (List UInt8))×Bool):AV:= .tp [(cdL 1 cdS).enc r.1,cdB.enc r.2]
def KO:List AV->Option AV:=Dz FE (fun a=>Dt a.1) G5
theorem KX:XOk 53 KO:=by
 refine BJ Tryd.func53 (c:=D3) ?h2 ⟨Tryd.call53⟩ FE (fun a=>Dt a.1) G5 (fun a=>(by show 1<=39; decide)) ?h3 ?h4
 case h2=>kernel_rfl
 case h3=>intro b; kernel_rfl
 case h4 =>
  intro a b h;refine Sem.mono (Il (Iw (L:=[]) (hp:=[]) a.1 b h T.nil)) fun e s' hs=>?_
  obtain ⟨h1,ys,h2,h3,-⟩:=hs;exact ⟨h1,ys,h2,h3⟩
/- trestle/trestlekit.Number -/
noncomputable def Ed:Code:=B6 Tryd.f54
def A0 (x0:(List UInt8)):Nat->Int->Int->Option ((Int) ⊕ (Int×Bool))
 | 0,_,_=>none
 | f + 1,c4,c5 =>
  if (decide (c5 < (x0.length:Int)))=true then
  (idx x0 c5).bind fun v7 =>
  (if (decide ((v7.toNat:Int) < 48))=true then some true else (idx x0 c5).bind fun v8 =>
  if (decide ((v8.toNat:Int) > 57))=true then some true else if (c5==1)=true then (idx x0 0).bind fun v9 =>
  some ((v9.toNat:Int)==48) else some false).bind fun j11 =>
  if j11=true then
  some (.inr (0,false))
  else
  (idx x0 c5).bind fun v15 =>
  A0 x0 f (wr .i64 ((wr .i64 ((wr .i64 (10 * c4)) + (wr .i64 (v15.toNat:Int)))) - 48)) (wr .i64 (c5 + 1))
  else
  some (.inl c4)
def DH (x0:(List UInt8)):Option (Int×Bool) :=
 (if ((x0.length:Int)==0)=true then some true else some (decide ((x0.length:Int) > 9))).bind fun j2 =>
 if j2=true then
 some (0,false)
 else
 (A0 x0 100000 0 0).bind fun r20 =>
 match r20 with
 | (.inl w21) =>
  some (w21,true)
 | (.inr w22) =>
  some (w22.1,w22.2)
def Ee:Cs ((List UInt8)×Unit):=(csC cdS csN)
def Eg (r:Int×Bool):AV:= .tp [cdI.enc r.1,cdB.enc r.2]
theorem E3 (x0:(List UInt8)):∀ (f:Nat) (c4:Int) (c5:Int) (r:(Int) ⊕ (Int×Bool)),A0 x0 f c4 c5=some r->SemN E0 ⟨none,false⟩ (pc Ed [1,1,1,0,1,0,0]) f ⟨Fr 48 [(0,.st x0),(4,.v (.int .i64 c4)),(5,.v (.int .i64 c5))],[]⟩ (fun e s=>match r with
 | (.inl w)=>e=(.exit 0)/\Wk E0 s ⟨Fr 48 [(4,.v (.int .i64 w))],[]⟩
 | (.inr w)=>e = .ret/\Wk E0 s ⟨Fr 48 [(2,.v (.int .i64 w.1)),(3,.v (.bool w.2))],[]⟩):=by
 intro f;induction f with
 | zero=>intro c4 c5 r h; cases h
 | succ f ih0 =>
  intro c4 c5 r h
  have ih:=fun (c4:Int) (c5:Int)=>ih0 c4 c5 r
  unfold A0 at h;refine BM ?_;refine AD ?_;refine AN AC [(0,.st x0),(4,.v (.int .i64 c4)),(5,.v (.int .i64 c5)),(17,.v (.bool (decide (c5 < (x0.length:Int)))))] [] ?_;refine AP (b:=(decide (c5 < (x0.length:Int)))) kr (fun hb6=>?_) (fun hb6=>?_)
  ·rw [if_pos hb6] at h
   refine AT ?_;refine AD ?_;refine AU ?_;refine AD ?_;refine AD ?_;obtain ⟨v7,hv7,h⟩:=OB h;obtain ⟨j11,hj11,h⟩:=OB h;refine AG (s1:=⟨Fr 48 [(0,.st x0),(4,.v (.int .i64 c4)),(5,.v (.int .i64 c5)),(38,.v (.bool j11))],[]⟩) ?_ ?_
   ·refine AB (n:=48) AC 2 [(0,.st x0),(4,.v (.int .i64 c4)),(5,.v (.int .i64 c5)),(20,.st x0),(21,.v (.int .i64 c5))] [] kr ?_
    refine AK AC 0 rfl (Bu (AA rfl) rfl (Dw (a:= .st x0) (b:= .v (.int .i64 c5)) kr kr (Cu (bs:=x0) (ki:= .i64) kr hv7))) ?_;refine AB (n:=48) AC 2 [(0,.st x0),(4,.v (.int .i64 c4)),(5,.v (.int .i64 c5)),(24,.v (.bool (decide ((v7.toNat:Int) < 48))))] [] kr ?_;rcases BE (decide ((v7.toNat:Int) < 48)) with hc16 | hc16
    ·rw [if_pos hc16] at hj11
     rw [hc16];refine AB (n:=48) AC 14 [(0,.st x0),(4,.v (.int .i64 c4)),(5,.v (.int .i64 c5)),(25,.tp []),(26,.tp []),(27,.tp []),(28,.tp []),(31,.tp []),(32,.tp []),(33,.tp []),(34,.tp []),(35,.tp []),(36,.tp []),(37,.tp []),(38,.v (.bool true))] [] kr ?_;have hq:=OI hj11; subst hq;exact AJ rfl AI
    ·rw [BL hc16] at hj11
     rw [hc16];refine AB (n:=48) AC 2 [(0,.st x0),(4,.v (.int .i64 c4)),(5,.v (.int .i64 c5)),(24,.v (.bool false)),(25,.st x0),(26,.v (.int .i64 c5))] [] kr ?_;obtain ⟨v8,hv8,hj11⟩:=OB hj11;refine AK AC 0 rfl (Bu kr rfl (Dw (a:= .st x0) (b:= .v (.int .i64 c5)) kr kr (Cu (bs:=x0) (ki:= .i64) kr hv8))) ?_;refine AB (n:=48) AC 3 [(0,.st x0),(4,.v (.int .i64 c4)),(5,.v (.int .i64 c5)),(25,.st x0),(26,.v (.int .i64 c5)),(27,.v (.int .u8 (v8.toNat:Int))),(28,.v (.bool (decide ((v8.toNat:Int) > 57)))),(30,.v (.bool (decide ((v8.toNat:Int) > 57))))] [] kr ?_;rcases BE (decide ((v8.toNat:Int) > 57)) with hc17 | hc17
     ·rw [if_pos hc17] at hj11
      rw [hc17];refine AB (n:=48) AC 8 [(0,.st x0),(4,.v (.int .i64 c4)),(5,.v (.int .i64 c5)),(25,.st x0),(26,.v (.int .i64 c5)),(27,.v (.int .u8 (v8.toNat:Int))),(28,.v (.bool true)),(31,.tp []),(32,.tp []),(33,.tp []),(34,.tp []),(35,.tp []),(36,.tp []),(37,.tp []),(38,.v (.bool true))] [] kr ?_;have hq:=OI hj11; subst hq;exact AJ rfl AI
     ·rw [BL hc17] at hj11
      rw [hc17];refine AB (n:=48) AC 3 [(0,.st x0),(4,.v (.int .i64 c4)),(5,.v (.int .i64 c5)),(25,.st x0),(26,.v (.int .i64 c5)),(27,.v (.int .u8 (v8.toNat:Int))),(28,.v (.bool false)),(30,.v (.bool false)),(31,.v (.int .i64 c5)),(32,.v (.bool (c5==1))),(33,.v (.bool (c5==1)))] [] kr ?_;rcases BE (c5==1) with hc18 | hc18
      ·rw [if_pos hc18] at hj11
       rw [hc18];refine AB (n:=48) AC 1 [(0,.st x0),(4,.v (.int .i64 c4)),(5,.v (.int .i64 c5)),(25,.st x0),(26,.v (.int .i64 c5)),(27,.v (.int .u8 (v8.toNat:Int))),(28,.v (.bool false)),(30,.v (.bool false)),(31,.v (.int .i64 c5)),(32,.v (.bool true)),(33,.v (.bool true)),(34,.st x0)] [] kr ?_;obtain ⟨v9,hv9,hj11⟩:=OB hj11;refine AK AC 0 rfl (Bu kr rfl (Dw (a:= .st x0) (b:= .v (.int .i64 0)) kr kr (Cu (bs:=x0) (ki:= .i64) kr hv9))) ?_;refine AB (n:=48) AC 3 [(0,.st x0),(4,.v (.int .i64 c4)),(5,.v (.int .i64 c5)),(25,.st x0),(26,.v (.int .i64 c5)),(27,.v (.int .u8 (v8.toNat:Int))),(28,.v (.bool false)),(31,.v (.int .i64 c5)),(32,.v (.bool true)),(33,.v (.bool true)),(34,.st x0),(35,.v (.int .u8 (v9.toNat:Int))),(36,.v (.bool ((v9.toNat:Int)==48))),(37,.v (.bool ((v9.toNat:Int)==48))),(38,.v (.bool ((v9.toNat:Int)==48)))] [] kr ?_;have hq:=OI hj11; subst hq;exact AJ rfl AI
      ·rw [BL hc18] at hj11
       rw [hc18];refine AB (n:=48) AC 5 [(0,.st x0),(4,.v (.int .i64 c4)),(5,.v (.int .i64 c5)),(25,.st x0),(26,.v (.int .i64 c5)),(27,.v (.int .u8 (v8.toNat:Int))),(28,.v (.bool false)),(31,.v (.int .i64 c5)),(32,.v (.bool false)),(33,.v (.bool false)),(34,.tp []),(35,.tp []),(36,.tp []),(37,.v (.bool false)),(38,.v (.bool false))] [] kr ?_;have hq:=OI hj11; subst hq;exact AJ rfl AI
   refine AP (b:=j11) kr (fun hb12=>?_) (fun hb12=>?_)
   ·rw [if_pos hb12] at h
    refine AN AC [(2,.v (.int .i64 0)),(3,.v (.bool false))] [] ?_;refine AW ?_;have hq:=OI h; subst hq;exact ⟨rfl,AI⟩
   ·rw [BL hb12] at h
    refine AT ?_;obtain ⟨v15,hv15,h⟩:=OB h;refine AG (s1:=⟨Fr 48 [(0,.st x0),(4,.v (.int .i64 (wr .i64 ((wr .i64 ((wr .i64 (10 * c4)) + (wr .i64 (v15.toNat:Int)))) - 48)))),(5,.v (.int .i64 c5))],[]⟩) ?_ ?_
    ·refine AB (n:=48) AC 4 [(0,.st x0),(5,.v (.int .i64 c5)),(40,.v (.int .i64 (wr .i64 (10 * c4)))),(41,.st x0),(42,.v (.int .i64 c5))] [] kr ?_
     refine AK AC 0 rfl (Bu (AA rfl) rfl (Dw (a:= .st x0) (b:= .v (.int .i64 c5)) kr kr (Cu (bs:=x0) (ki:= .i64) kr hv15))) ?_;exact AQ AC
    refine CP AC [(0,.st x0),(4,.v (.int .i64 (wr .i64 ((wr .i64 ((wr .i64 (10 * c4)) + (wr .i64 (v15.toNat:Int)))) - 48)))),(5,.v (.int .i64 (wr .i64 (c5 + 1))))] [] ?_;exact AY (s1:=⟨Fr 48 [(0,.st x0),(4,.v (.int .i64 (wr .i64 ((wr .i64 ((wr .i64 (10 * c4)) + (wr .i64 (v15.toNat:Int)))) - 48)))),(5,.v (.int .i64 (wr .i64 (c5 + 1))))],[]⟩) AI (ih (wr .i64 ((wr .i64 ((wr .i64 (10 * c4)) + (wr .i64 (v15.toNat:Int)))) - 48)) (wr .i64 (c5 + 1)) h)
  ·rw [BL hb6] at h
   refine BW ?_;have hq:=OI h; subst hq;exact ⟨rfl,AI⟩
theorem IN (x0:(List UInt8)) (r:Int×Bool) (h:DH x0=some r):Sem E0 ⟨none,false⟩ Ed ⟨Fr 48 (BA 0 (Ee.enc (x0,()))),[]⟩ fun e s'=>(e = .normal\/e = .ret)/\∃ xs,EM E0.P s'.fr s'.hp Tryd.f54.results.toList=some xs/\Ea xs=Eg r:=by
 unfold DH at h;refine Bq (CM (s1:=⟨Fr 48 [(0,.st x0)],[]⟩) AI ?_);refine AN AC [(0,.st x0)] [] ?_;refine AD ?_;refine AD ?_;obtain ⟨j2,hj2,h⟩:=OB h;refine AG (s1:=⟨Fr 48 [(0,.st x0),(13,.v (.bool j2))],[]⟩) ?_ ?_
 ·refine AB (n:=48) AC 4 [(0,.st x0),(9,.v (.bool ((x0.length:Int)==0)))] [] kr ?_
  rcases BE ((x0.length:Int)==0) with hc23 | hc23
  ·rw [if_pos hc23] at hj2
   rw [hc23];refine AB (n:=48) AC 4 [(0,.st x0),(13,.v (.bool true))] [] kr ?_;have hq:=OI hj2; subst hq;exact AJ rfl AI
  ·rw [BL hc23] at hj2
   rw [hc23];refine AB (n:=48) AC 4 [(0,.st x0),(13,.v (.bool (decide ((x0.length:Int) > 9))))] [] kr ?_;have hq:=OI hj2; subst hq;exact AJ rfl AI
 refine AP (b:=j2) kr (fun hb3=>?_) (fun hb3=>?_)
 ·rw [if_pos hb3] at h
  refine AN AC [(2,.v (.int .i64 0)),(3,.v (.bool false))] [] ?_;refine AW ?_;have hq:=OI h; subst hq;exact ⟨⟨Fr 48 [(2,.v (.int .i64 0)),(3,.v (.bool false))],[]⟩,AI,.inr rfl,[.v (.int .i64 0),.v (.bool false)],kr,kr⟩
 ·rw [BL hb3] at h
  refine AT ?_;refine AN AC [(0,.st x0),(4,.v (.int .i64 0))] [] ?_;refine AD ?_;refine AN AC [(0,.st x0),(4,.v (.int .i64 0)),(5,.v (.int .i64 0))] [] ?_;refine AU ?_;obtain ⟨r20,hr20,h⟩:=OB h;refine Bp (n:=100000) ?_;rcases r20 with w21 | w22
  ·try dsimp only at h
   refine Ah (AY (s1:=⟨Fr 48 [(0,.st x0),(4,.v (.int .i64 0)),(5,.v (.int .i64 0))],[]⟩) AI (E3 x0 _ 0 0 _ hr20)) ?_;refine AN AC [(2,.v (.int .i64 w21)),(3,.v (.bool true))] [] ?_;refine AW ?_;have hq:=OI h; subst hq;exact ⟨⟨Fr 48 [(2,.v (.int .i64 w21)),(3,.v (.bool true))],[]⟩,AI,.inr rfl,[.v (.int .i64 w21),.v (.bool true)],kr,kr⟩
  ·try dsimp only at h
   refine Ah (AY (s1:=⟨Fr 48 [(0,.st x0),(4,.v (.int .i64 0)),(5,.v (.int .i64 0))],[]⟩) AI (E3 x0 _ 0 0 _ hr20)) ?_;have hq:=OI h; subst hq;exact ⟨⟨Fr 48 [(2,.v (.int .i64 w22.1)),(3,.v (.bool w22.2))],[]⟩,AI,.inr rfl,[.v (.int .i64 w22.1),.v (.bool w22.2)],kr,kr⟩
def Jk:List AV->Option AV:=Dz Ee (fun a=>DH a.1) Eg
theorem Js:XOk 54 Jk:=by
 refine BJ Tryd.func54 (c:=Ed) ?h2 ⟨Tryd.call54⟩ Ee (fun a=>DH a.1) Eg (fun a=>(by show 1<=48; decide)) ?h3 ?h4
 case h2=>kernel_rfl
 case h3=>intro b; kernel_rfl
 case h4=>exact fun a b h=>IN a.1 b h
end Go.Proofs.YteidjjolfapemaaDoor
