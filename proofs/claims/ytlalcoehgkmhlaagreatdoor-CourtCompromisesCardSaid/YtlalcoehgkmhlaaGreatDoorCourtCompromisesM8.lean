/- Lemmas for the proof. -/
import Derived.Test.YtlalcoehgkmhlaaGreatDoorCourtCompromisesM1
import Derived.Test.YtlalcoehgkmhlaaGreatDoorCourtCompromisesM2
import Derived.Test.YtlalcoehgkmhlaaGreatDoorCourtCompromisesM3
import Derived.Test.YtlalcoehgkmhlaaGreatDoorCourtCompromisesM4
import Derived.Test.YtlalcoehgkmhlaaGreatDoorCourtCompromisesM5
import Derived.Test.YtlalcoehgkmhlaaGreatDoorCourtCompromisesM6
import Derived.Test.YtlalcoehgkmhlaaGreatDoorCourtCompromisesM7
namespace Go.Proofs.YtlalcoehgkmhlaaGreatDoor
open Go.RowKit
section
variable {P:Program}{ops:Array Oper}{C:World->Prop}{Q:Act->World->Prop}{loud:Nat->Bool}{T:Nat}
/-- Loud operations that may come up now: one of them is the first loud one, if every other stands behind one of them. -/
theorem Sx {n:Nat}(L:List Nat) (hL:L≠[]) (ht:M3 ops loud T n) (hin:∀ i ∈ L,∃ o,ops[i]? = some o) (hsel:∀ (j:Nat) (o:Oper) cs b,ops[j]? = some o->o.op≠ .select cs b) :
  ∀ (fuel:Nat) (listed:Array Bool) (a:Act) (w:World),(∀ j,j < ops.size->j ∉ L->loud j=true->listed.getD j true=false->∃ i ∈ L,IL ops n j i=true)->Closed ops listed->listed.size=ops.size->(Us ops loud T listed->C w) ->
   (∀ i ∈ L,∀ oi,ops[i]? = some oi->∀ j oj,ops[j]? = some oj->j≠i->listed.getD j true=false->(∀ e ∈ oj.after,Region.binds .any e=true->e.on≠i)->oi.apart ops oj=true) ->
   (∀ i ∈ L,i ∈ Region.ready .any ops listed) ->
   (∀ i ∈ L,mOp P ops C loud i (wpM P ops C loud T Q fuel (listed.setIfInBounds i true)) a w)->wpM P ops C loud T Q (fuel + 1) listed a w:=by
 intro fuel
 obtain ⟨i0,hi0⟩:=List.exists_mem_of_ne_nil L hL
 obtain ⟨o0,ho0⟩:=hin i0 hi0
 induction fuel with
 | zero =>
  intro listed a w _ _ _ hC _ hr H
  refine ⟨hC,fun h=>(by have:=hr i0 hi0; rw [h] at this; cases this),fun j hj=>?_⟩
  by_cases hji:j ∈ L
  ·exact H j hji
  ·obtain ⟨u,w',h1⟩:=LN ho0 (H i0 hi0)
   have:=ready_mono hj (fun e=>hji (e ▸ hi0))
   rw [h1.2.1] at this
   cases this
 | succ fuel ih =>
  intro listed a w hT hcl hsz hC hfree hr H
  refine ⟨hC,fun h=>(by have:=hr i0 hi0; rw [h] at this; cases this),fun j hj=>?_⟩
  by_cases hji:j ∈ L
  ·exact H j hji
  obtain ⟨hjun,oj,hoj,hall⟩:=mem_ready.1 hj
  have hnl:∀ i ∈ L,¬ listed.getD i false=true:=fun i hi h1=>by
   obtain ⟨ox,hx⟩:=hin i hi
   have hun:=(mem_ready.1 (hr i hi)).1
   have hlt:i < ops.size:=(Array.getElem?_eq_some_iff.1 hx).1
   have h':i < listed.size:=by omega
   simp [h'] at hun h1; rw [hun] at h1; cases h1
  have hne:∀ i ∈ L,j≠i:=fun i hi e=>hji (e ▸ hi)
  have hnot:∀ i ∈ L,∀ e ∈ oj.after,Region.binds .any e=true->e.on≠i:=fun i hi e he hb heq=>hnl i hi (by rw [<-heq]; exact hall e he hb)
  have hjlt:j < ops.size:=(Array.getElem?_eq_some_iff.1 hoj).1
  have hlj:loud j=false:=by
   cases hlj:loud j with
   | false=>rfl
   | true =>
    obtain ⟨i,hi,hw⟩:=hT j hjlt hji hlj hjun
    exact absurd (LU hcl n j i hw fun o ho e he hb=>by rw [hoj] at ho; injection ho with ho; subst ho; exact hall e he hb) (hnl i hi)
  have ap:∀ i ∈ L,∀ oi,ops[i]? = some oi->oi.apart ops oj=true:=fun i hi oi hoi=>hfree i hi oi hoi j oj hoj (hne i hi) hjun (hnot i hi)
  have hun':∀ k,(listed.setIfInBounds j true).getD k true=false->listed.getD k true=false:=fun k hun=>by
   by_cases hjk:j=k
   ·subst hjk; exact hjun
   ·rw [getD_set_ne true hjk] at hun; exact hun
  have hCw:Us ops loud T (listed.setIfInBounds j true)->C w:=fun hn=>hC fun k hTk hk hlk=>hun' k (hn k hTk hk hlk)
  obtain ⟨ap1,ap2,ap3⟩:=Oper.apart_spec (ap i0 hi0 o0 ho0)
  obtain ⟨u,w',h1⟩:=LN ho0 (H i0 hi0)
  obtain ⟨v,hy,_⟩:=Ep hoj hlj (h1.2.2 j (ready_mono hj (hne i0 hi0)))
  have hya:YieldsM P ops C oj v a:=hy.same (execOp_put oj (fun cs b=>hsel j oj cs b hoj) _ o0.dst u ap1).symm (wanted_put oj _ o0.dst u ap1).symm
  refine hya.mOp hoj hlj ?_
  exact ih (listed.setIfInBounds j true) (a.put oj.dst v) w (fun k hk h1 h2 h3=>hT k hk h1 h2 (hun' k h3)) (hcl.set hj) (by simpa using hsz) hCw (fun i hi oi hoi k ok hk h1 h2 h3=>hfree i hi oi hoi k ok hk h1 (hun' k h2) h3) (fun i hi=>ready_mono (hr i hi) (Ne.symm (hne i hi)))
   (fun i hi=>by
    obtain ⟨oi,hoi⟩:=hin i hi
    obtain ⟨bp1,bp2,bp3⟩:=Oper.apart_spec (ap i hi oi hoi)
    exact SH ht hoi hoj hsel hcl hsz bp1 bp2 bp3 (hr i hi) hj (hne i hi) hlj hya (H i hi))
/-- What holds of the region throughout. -/
structure MOk (ops:Array Oper) (T:Nat):Prop where
 ns:Region.noSelect ops=true
 tl:M3 ops (Fs ops T) T ops.size
 tT:T < ops.size->Fs ops T T=true
/-- What is checked of an operation that may come up now. -/
def Ou (ops:Array Oper) (m:List Bool) (i:Nat):Bool:=(Region.ready .any ops m.toArray).contains i&&Region.free .any ops m.toArray i
def Ts (ops:Array Oper) (T:Nat) (m:List Bool) (L:List Nat):Bool :=
 (L.all fun i=>Ou ops m i)&&(List.range ops.size).all fun j=>L.contains j||!Fs ops T j||m.toArray.getD j true||L.any fun i=>IL ops ops.size j i
def XF (ops:Array Oper) (T p f:Nat) (m:List Bool):Bool :=
 Nat.beq (p + f) ops.size&&Region.lexFrom .any ops f p m.toArray&&((List.range p).all fun j=>m.toArray.getD j true)&&(List.range ops.size).all fun k=>!(Nat.ble p k&&Fs ops T k)||(List.range ops.size).all fun j=>!(Nat.blt k j&&Fs ops T j)||IL ops ops.size j k
end
def RunM (E:Env) (ops:Array Oper) (T n0 f:Nat) (m:List Bool) (s:St) (K:St->Prop):Prop :=
 ∀ (base:Bs) (Q:Act->World->Prop) (w0:World) (Z:Nat->Prop) (R0:List RI) (h0:Hp) (a:Act) (w:World) (R:List RI),MOk ops T->Closed ops m.toArray->m.length=ops.size->HR w0 Z R0 h0->n0=h0.length->SR E base w Z R s a->w0.grownBy w none->Step w0 Z R0 h0 w Z R s.hp->(∀ (b:Nat) (B:Option Blk),h0[b]? = some B->s.hp[b]? = some B) ->
  (∀ s' a' w' Z' R',K s'->SR E base w' Z' R' s' a'->StepW w0 Z R0 h0 w' Z' R' s'.hp->Q a' w')->wpM E.P ops (fun w'=>w0.grownBy w' none) (Fs ops T) T Q f m.toArray a w
section
variable {E:Env}{cx:Cx}{ops:Array Oper}{s s1:St}{K:St->Prop}{n0 f T i j k:Nat}{m:List Bool}{Q:Ex->St->Prop}{id:Nat}{o o2 o3:Oper}
theorem Hx (m:List Bool) (i:Nat):m.toArray.setIfInBounds i true=(m.set i true).toArray:=by simp
/-- An operation that is quiet. -/
theorem RunM.q (i:Nat) (hq:(Ou ops m i&&!Fs ops T i)=true) (ho:ops[i]? = some o) (h:Op1 E ops T n0 i o s fun s'=>RunM E ops T n0 f (m.set i true) s' K):RunM E ops T n0 (f + 1) m s K:=by
 intro base Q w0 Z R0 h0 a w R hM hcl hsz hh0 hn0 sr hgr st hpre q
 unfold Ou at hq
 simp only [Bool.and_eq_true,Bool.not_eq_true'] at hq
 obtain ⟨⟨hr,hf⟩,hl⟩:=hq
 have hr':i ∈ Region.ready .any ops m.toArray:=by simpa using hr
 have hst:=h base (fun a w=>wpM E.P ops (fun w'=>w0.grownBy w' none) (Fs ops T) T Q f (m.set i true).toArray a w) w0 Z R0 h0 a w R hh0 hn0 sr hgr st hpre ho fun s' a' w' R' hk sr' hg' st' hp' =>
  hk base Q w0 Z R0 h0 a' w' R' hM (by rw [<-Hx]; exact hcl.set hr') (by simpa using hsz) hh0 hn0 sr' hg' st' hp' q
 obtain ⟨v,hy,hK⟩:=Ep ho hl hst
 refine MU ho hl (Region.noSelect_spec hM.ns) f m.toArray a w (fun _=>hgr) hcl (by simpa using hsz) (Region.free_spec ho hf) hr' hy ?_
 rw [Hx]
 exact hK
/-- The loud ones that may come up now: each of them. -/
theorem RunM.loud (L:List Nat) (hne:L≠[]) (hl:Ts ops T m L=true) (h:∀ i ∈ L,∃ o,ops[i]? = some o/\Op1 E ops T n0 i o s fun s'=>RunM E ops T n0 f (m.set i true) s' K):RunM E ops T n0 (f + 1) m s K:=by
 intro base Q w0 Z R0 h0 a w R hM hcl hsz hh0 hn0 sr hgr st hpre q
 unfold Ts at hl
 simp only [Bool.and_eq_true] at hl
 obtain ⟨h1,h2⟩:=hl
 have hr:∀ i ∈ L,i ∈ Region.ready .any ops m.toArray/\Region.free .any ops m.toArray i=true:=fun i hi=>by
  have:=List.all_eq_true.1 h1 i hi
  unfold Ou at this
  simp only [Bool.and_eq_true] at this
  exact ⟨by simpa using this.1,this.2⟩
 refine Sx (n:=ops.size) L hne hM.tl (fun i hi=>⟨_,(h i hi).choose_spec.1⟩) (Region.noSelect_spec hM.ns) f m.toArray a w (fun j hj hjL hlj hun=>?_) hcl (by simpa using hsz) (fun _=>hgr) (fun i hi oi hoi=>Region.free_spec hoi (hr i hi).2) (fun i hi=>(hr i hi).1) fun i hi=>?_
 ·have:=List.all_eq_true.1 h2 j (by simpa using hj)
  simp only [Bool.or_eq_true,Bool.not_eq_true',List.any_eq_true] at this
  rcases this with ((h3 | h3) | h3) | h3
  ·exact absurd (by simpa using h3) hjL
  ·rw [hlj] at h3; cases h3
  ·rw [hun] at h3; cases h3
  ·exact h3
 ·obtain ⟨o,ho,hop⟩:=h i hi
  rw [Hx]
  exact hop base (fun a w=>wpM E.P ops (fun w'=>w0.grownBy w' none) (Fs ops T) T Q f (m.set i true).toArray a w) w0 Z R0 h0 a w R hh0 hn0 sr hgr st hpre ho fun s' a' w' R' hk sr' hg' st' hp' =>
   hk base Q w0 Z R0 h0 a' w' R' hM (by rw [<-Hx]; exact hcl.set (hr i hi).1) (by simpa using hsz) hh0 hn0 sr' hg' st' hp' q
/-- What is left stands in one order. -/
theorem ACj (p:Nat) (hp:XF ops T p f m=true) (h:RunDX E ops T n0 p (ops.toList.drop p) s K):RunM E ops T n0 f m s K:=by
 intro base Q w0 Z R0 h0 a w R hM hcl hsz hh0 hn0 sr hgr st hpre q
 unfold XF at hp
 simp only [Bool.and_eq_true] at hp
 obtain ⟨⟨⟨h1,h2⟩,h3⟩,h4⟩:=hp
 have h1:=Nat.eq_of_beq_eq_true h1
 have hlen:(ops.toList.drop p).length=f:=by simp; omega
 have hops:∀ j,(ops.toList.drop p)[j]? = ops[p + j]?:=fun j=>by simp
 have:=Ro hM.ns (n:=ops.size) (k0:=p) (fun k j hk hks hj hlk hlj hkj=>?_) hM.tl hM.tT (ops.toList.drop p) p m.toArray a w (Nat.le_refl _) (by omega) hops (by rw [hlen]; exact h2) hcl (by simpa using hsz) (fun j hj=>List.all_eq_true.1 h3 j (by simpa using hj)) (h base Q w0 Z R0 h0 a w R hh0 hn0 sr hgr st hpre hops q)
 ·rwa [hlen] at this
 ·have a1:=List.all_eq_true.1 h4 k (by simpa using hks)
  simp only [hlk,Nat.ble_eq_true_of_le hk,Bool.and_self,Bool.not_true,Bool.false_or] at a1
  have a2:=List.all_eq_true.1 a1 j (by simpa using hj)
  have hb:Nat.blt k j=true:=Nat.ble_eq_true_of_le hkj
  simpa [hlj,hb] using a2
end
/-- As Op1, of an operation behind which nothing is read any more. -/
def OpZ (E:Env) (ops:Array Oper) (T k:Nat) (o:Oper) (s:St) (Ks:St->Prop):Prop :=
 ∀ (base:Bs) (K:Act->World->Prop) (w0:World) (Z:Nat->Prop) (a:Act) (w:World) (R:List RI),SR E base w Z R s a->w0.grownBy w none->ops[k]? = some o ->
  (∀ s' a' w' Z' R',Ks s'->SR E base w' Z' R' s' a'->w0.grownBy w' none->StepW w Z R s.hp w' Z' R' s'.hp->K a' w')->mOp E.P ops (fun w'=>w0.grownBy w' none) (Fs ops T) k K a w
def RunZ (E:Env) (ops:Array Oper) (T f:Nat) (m:List Bool) (s:St) (K:St->Prop):Prop :=
 ∀ (base:Bs) (Q:Act->World->Prop) (w0:World) (Z:Nat->Prop) (a:Act) (w:World) (R:List RI),MOk ops T->Closed ops m.toArray->m.length=ops.size->SR E base w Z R s a->w0.grownBy w none ->
  (∀ s' a' w' Z' R',K s'->SR E base w' Z' R' s' a'->StepW w Z R s.hp w' Z' R' s'.hp->Q a' w')->wpM E.P ops (fun w'=>w0.grownBy w' none) (Fs ops T) T Q f m.toArray a w
section
variable {E:Env}{cx:Cx}{ops:Array Oper}{s s1:St}{K Ks:St->Prop}{n n0 f T i j k:Nat}{m:List Bool}{o o2 o3:Oper}{l:List (Nat×AV)}{hp:Hp}{fid:FuncId}
theorem ACg (hE:EnvOk E) (hW:isW o.op=false) (hLd:UG o.op=false) (hk:k < T) (e:opsD E (evC E 0) ⟨none,false⟩ ops n0 [o] s=some s1) (kk:Ks s1):OpZ E ops T k o s Ks:=by
 intro base K w0 Z a w R sr hgr hok q
 have hkT:¬ T<=k:=by omega
 unfold mOp
 rw [hok]
 dsimp only
 unfold opsD at e
 rw [if_neg (by rw [hW]; simp)] at e
 split at e
 ·cases e
 ·next hw =>
  rw [if_neg (by rw [wantedA_eq sr hw]; simp)]
  injection e with e
  subst e
  exact q _ _ w Z R kk (sr.put undef_vr) hgr (StepW.refl _ _ _ _)
 ·next hw =>
  rw [if_pos (wantedA_eq sr hw)]
  have hρ:∀ o x,opA E s.fr o=some x->VR w Z R x (a.eval o):=fun o x e=>opA_vr sr o x e
  split at e
  ·next x hx =>
   split at e
   ·injection e with e
    subst e
    have hq:=SC hx
    rw [if_neg (by rw [N4 hok hq hkT]; simp)]
    obtain ⟨u,hu,hrun⟩:=evOpQ_sound sr.hh hρ hx
    exact ⟨u,(fun w' _=>hrun w' fun h=>by rw [hLd] at h; cases h),q _ _ w Z R kk (sr.put hu) hgr (StepW.refl _ _ _ _)⟩
   ·cases e
  ·split at e
   ·next x h' hx =>
    injection e with e
    subst e
    have hq:=Mv hx
    rw [if_pos (HE hok hq)]
    obtain ⟨u,w',R',h1,h2,h3,h4,h5⟩:=evOpN_sound hρ sr.hh hx
    exact Pf h1 (q _ _ w' Z R' kk ((sr.step h2 h4).put h3) (GL hgr h5) h4.w)
   ·split at e
    ·next f args tys ho =>
     split at e
     ·next fv xs hf hxs =>
      split at e
      ·next r hr =>
       injection e with e
       subst e
       obtain ⟨x,h'⟩:=r
       have hq:isQ o.op=false:=by rw [ho]; rfl
       rw [if_pos (HE hok hq)]
       obtain ⟨g,uf,uc,hva,hcl,hret⟩:=Hz hE (code_sound hE 0).1 (hρ _ _ hf) (opds_vr hρ hxs) sr.hh sr.gl hr
       unfold Lw
       rw [Hh (uf:=uf) (uc:=uc) ho hva rfl hcl w]
       refine Ret.mono hret fun v w' hS=>?_
       obtain ⟨hg1,R',k1,k2,k3⟩:=hS
       exact q _ _ w' Z R' kk ((sr.step k1 k3).put k2) (GL hgr hg1) k3.w
      ·cases e
     ·cases e
    ·cases e
theorem AEI (hE:EnvOk E){s:St}(l:List (Nat×AV)) (hp:Hp) (hW:(!isW o.op&&!UG o.op&&Nat.blt k T)=true) (h:UX (opsD E (evC E 0) ⟨none,false⟩ ops 0 [o] s) l=some (n,xs2 l,hp)) (kk:Ks ⟨Fr n l,hp⟩):OpZ E ops T k o s Ks:=by
 obtain ⟨fr,h1,h2,h3⟩:=JU h
 simp only [Bool.and_eq_true,Bool.not_eq_true'] at hW
 intro base K w0 Z a w R sr hgr hok q
 exact ACg (Ks:=fun s=>s=⟨fr,hp⟩) hE hW.1.1 hW.1.2 (Nat.le_of_ble_eq_true hW.2) h1 rfl base K w0 Z a w R sr hgr hok fun s' a' w' Z' R' hs sr' hg' st'=>by
  subst hs
  exact q _ a' w' Z' R' kk (sr'.forget h2 h3) hg' st'
theorem OpZ.one (hE:EnvOk E) (hW:(!isW o.op&&!UG o.op&&Nat.blt k T)=true) (h:opsD E (evC E 0) ⟨none,false⟩ ops 0 [o] s=some s1) (kk:Ks s1):OpZ E ops T k o s Ks:=by
 simp only [Bool.and_eq_true,Bool.not_eq_true'] at hW
 exact ACg hE hW.1.1 hW.1.2 (Nat.le_of_ble_eq_true hW.2) h kk
theorem RunM.z (h:RunZ E ops T f m s K):RunM E ops T n0 f m s K:=fun base Q w0 Z _ _ a w R hM hcl hsz _ _ sr hgr st _ q=>h base Q w0 Z a w R hM hcl hsz sr hgr fun s' a' w' Z' R' hK sr' st'=>q s' a' w' Z' R' hK sr' (st.w.trans st')
theorem RunZ.q (i:Nat) (hq:(Ou ops m i&&!Fs ops T i)=true) (ho:ops[i]? = some o) (h:OpZ E ops T i o s fun s'=>RunZ E ops T f (m.set i true) s' K):RunZ E ops T (f + 1) m s K:=by
 intro base Q w0 Z a w R hM hcl hsz sr hgr q
 unfold Ou at hq
 simp only [Bool.and_eq_true,Bool.not_eq_true'] at hq
 obtain ⟨⟨hr,hf⟩,hl⟩:=hq
 have hr':i ∈ Region.ready .any ops m.toArray:=by simpa using hr
 have hst:=h base (fun a w=>wpM E.P ops (fun w'=>w0.grownBy w' none) (Fs ops T) T Q f (m.set i true).toArray a w) w0 Z a w R sr hgr ho fun s' a' w' Z' R' hk sr' hg' st' =>
  hk base Q w0 Z' a' w' R' hM (by rw [<-Hx]; exact hcl.set hr') (by simpa using hsz) sr' hg' fun s2 a2 w2 Z2 R2 hK sr2 st2=>q s2 a2 w2 Z2 R2 hK sr2 (st'.trans st2)
 obtain ⟨v,hy,hK⟩:=Ep ho hl hst
 refine MU ho hl (Region.noSelect_spec hM.ns) f m.toArray a w (fun _=>hgr) hcl (by simpa using hsz) (Region.free_spec ho hf) hr' hy ?_
 rw [Hx]
 exact hK
theorem ACm (L:List Nat) (hne:L≠[]) (hl:Ts ops T m L=true) (h:∀ i ∈ L,∃ o,ops[i]? = some o/\OpZ E ops T i o s fun s'=>RunZ E ops T f (m.set i true) s' K):RunZ E ops T (f + 1) m s K:=by
 intro base Q w0 Z a w R hM hcl hsz sr hgr q
 unfold Ts at hl
 simp only [Bool.and_eq_true] at hl
 obtain ⟨h1,h2⟩:=hl
 have hr:∀ i ∈ L,i ∈ Region.ready .any ops m.toArray/\Region.free .any ops m.toArray i=true:=fun i hi=>by
  have:=List.all_eq_true.1 h1 i hi
  unfold Ou at this
  simp only [Bool.and_eq_true] at this
  exact ⟨by simpa using this.1,this.2⟩
 refine Sx (n:=ops.size) L hne hM.tl (fun i hi=>⟨_,(h i hi).choose_spec.1⟩) (Region.noSelect_spec hM.ns) f m.toArray a w (fun j hj hjL hlj hun=>?_) hcl (by simpa using hsz) (fun _=>hgr) (fun i hi oi hoi=>Region.free_spec hoi (hr i hi).2) (fun i hi=>(hr i hi).1) fun i hi=>?_
 ·have:=List.all_eq_true.1 h2 j (by simpa using hj)
  simp only [Bool.or_eq_true,Bool.not_eq_true',List.any_eq_true] at this
  rcases this with ((h3 | h3) | h3) | h3
  ·exact absurd (by simpa using h3) hjL
  ·rw [hlj] at h3; cases h3
  ·rw [hun] at h3; cases h3
  ·exact h3
 ·obtain ⟨o,ho,hop⟩:=h i hi
  rw [Hx]
  exact hop base (fun a w=>wpM E.P ops (fun w'=>w0.grownBy w' none) (Fs ops T) T Q f (m.set i true).toArray a w) w0 Z a w R sr hgr ho fun s' a' w' Z' R' hk sr' hg' st' =>
   hk base Q w0 Z' a' w' R' hM (by rw [<-Hx]; exact hcl.set (hr i hi).1) (by simpa using hsz) sr' hg' fun s2 a2 w2 Z2 R2 hK sr2 st2=>q s2 a2 w2 Z2 R2 hK sr2 (st'.trans st2)
/-- The stores. -/
theorem ACn (hp:XF ops T T f m=true) (h:RunS E ops (ops.toList.drop T) s K):RunZ E ops T f m s K:=by
 intro base Q w0 Z a w R hM hcl hsz sr hgr q
 unfold XF at hp
 simp only [Bool.and_eq_true] at hp
 obtain ⟨⟨⟨h1,h2⟩,h3⟩,h4⟩:=hp
 have h1:=Nat.eq_of_beq_eq_true h1
 have hlen:(ops.toList.drop T).length=f:=by simp; omega
 have hops:∀ j,(ops.toList.drop T)[j]? = ops[T + j]?:=fun j=>by simp
 have:=Ro (C:=fun w'=>w0.grownBy w' none) hM.ns (n:=ops.size) (k0:=T) (fun k j hk hks hj hlk hlj hkj=>?_) hM.tl hM.tT (ops.toList.drop T) T m.toArray a w (Nat.le_refl _) (by omega) hops (by rw [hlen]; exact h2) hcl (by simpa using hsz) (fun j hj=>List.all_eq_true.1 h3 j (by simpa using hj))
  (N5 (h base Q a w Z R sr q) (Nat.le_refl _) (fun _=>hgr) (fun j hj=>OQ (by omega)) hops)
 ·rwa [hlen] at this
 ·have a1:=List.all_eq_true.1 h4 k (by simpa using hks)
  simp only [hlk,Nat.ble_eq_true_of_le hk,Bool.and_self,Bool.not_true,Bool.false_or] at a1
  have a2:=List.all_eq_true.1 a1 j (by simpa using hj)
  have hb:Nat.blt k j=true:=Nat.ble_eq_true_of_le hkj
  simpa [hlj,hb] using a2
end
/-- Every order of what is not free is gone through, in the world as it is. -/
def RunA (E:Env) (ops:Array Oper) (f:Nat) (m:List Bool) (s:St) (K:St->Prop):Prop :=
 ∀ (base:Bs) (Q:Act->World->Prop) (a:Act) (w:World) (Z:Nat->Prop) (R:List RI),Region.noSelect ops=true->Closed ops m.toArray->m.length=ops.size->SR E base w Z R s a ->
  (∀ s' a' w' Z' R',K s'->SR E base w' Z' R' s' a'->StepW w Z R s.hp w' Z' R' s'.hp->Q a' w')->wpM E.P ops (fun _=>True) (Fs ops 0) 0 Q f m.toArray a w
section
variable {E:Env}{cx:Cx}{ops:Array Oper}{s s1:St}{K:St->Prop}{f i j:Nat}{m:List Bool}{Q:Ex->St->Prop}{id k:Nat}{o o2 o3:Oper}
theorem ABp {i:Nat}(h:Fs ops 0 i=false):Hl ops i=true:=by
 unfold Fs at h
 simp only [Bool.or_eq_false_iff,Bool.and_eq_false_iff,Bool.not_eq_false'] at h
 rcases h.2 with h1 | h1
 ·cases h1
 ·exact h1
theorem AEn (n:Nat):M3 ops (Fs ops 0) 0 n:=fun j _ _ _ i _ hl hf=>by rw [ABp hl] at hf; cases hf
theorem RunA.q (i:Nat) (hq:(Ou ops m i&&!Fs ops 0 i)=true) (ho:ops[i]? = some o) (h:RunS E ops [o] s fun s'=>RunA E ops f (m.set i true) s' K):RunA E ops (f + 1) m s K:=by
 intro base Q a w Z R hns hcl hsz sr q
 unfold Ou at hq
 simp only [Bool.and_eq_true,Bool.not_eq_true'] at hq
 obtain ⟨⟨hr,hf⟩,hl⟩:=hq
 have hr':i ∈ Region.ready .any ops m.toArray:=by simpa using hr
 have hst:=h base (fun a w=>wpM E.P ops (fun _=>True) (Fs ops 0) 0 Q f (m.set i true).toArray a w) a w Z R sr fun s' a' w' Z' R' hk sr' st' =>
  hk base Q a' w' Z' R' hns (by rw [<-Hx]; exact hcl.set hr') (by simpa using hsz) sr' fun s2 a2 w2 Z2 R2 hK sr2 st2=>q s2 a2 w2 Z2 R2 hK sr2 (st'.trans st2)
 have hfr:Lk o=true:=by have:=ABp hl; simpa [Hl,ho] using this
 have hy:∃ v,YieldsM E.P ops (fun _=>True) o v a/\wpM E.P ops (fun _=>True) (Fs ops 0) 0 Q f (m.set i true).toArray (a.put o.dst v) w:=by
  unfold LwL at hst
  split at hst
  ·next hw =>
   obtain ⟨u,h1,h2⟩:=hst
   exact ⟨u,.inl ⟨hw,fun w' _=>h1 w'⟩,h2⟩
  ·next hw=>exact ⟨undef,.inr ⟨by simpa using hw,rfl⟩,hst⟩
 obtain ⟨v,hy,hK⟩:=hy
 refine MU ho hl (Region.noSelect_spec hns) f m.toArray a w (fun _=>trivial) hcl (by simpa using hsz) (Region.free_spec ho hf) hr' hy ?_
 rw [Hx]
 exact hK
theorem ACi (L:List Nat) (hne:L≠[]) (hl:(Ts ops 0 m L&&L.all fun i=>!Hl ops i)=true) (h:∀ i ∈ L,∃ o,ops[i]? = some o/\RunS E ops [o] s fun s'=>RunA E ops f (m.set i true) s' K):RunA E ops (f + 1) m s K:=by
 intro base Q a w Z R hns hcl hsz sr q
 simp only [Bool.and_eq_true] at hl
 obtain ⟨hl,hfr⟩:=hl
 unfold Ts at hl
 simp only [Bool.and_eq_true] at hl
 obtain ⟨h1,h2⟩:=hl
 have hr:∀ i ∈ L,i ∈ Region.ready .any ops m.toArray/\Region.free .any ops m.toArray i=true:=fun i hi=>by
  have:=List.all_eq_true.1 h1 i hi
  unfold Ou at this
  simp only [Bool.and_eq_true] at this
  exact ⟨by simpa using this.1,this.2⟩
 refine Sx (n:=ops.size) L hne (AEn _) (fun i hi=>⟨_,(h i hi).choose_spec.1⟩) (Region.noSelect_spec hns) f m.toArray a w (fun j hj hjL hlj hun=>?_) hcl (by simpa using hsz) (fun _=>trivial) (fun i hi oi hoi=>Region.free_spec hoi (hr i hi).2) (fun i hi=>(hr i hi).1) fun i hi=>?_
 ·have:=List.all_eq_true.1 h2 j (by simpa using hj)
  simp only [Bool.or_eq_true,Bool.not_eq_true',List.any_eq_true] at this
  rcases this with ((h3 | h3) | h3) | h3
  ·exact absurd (by simpa using h3) hjL
  ·rw [hlj] at h3; cases h3
  ·rw [hun] at h3; cases h3
  ·exact h3
 ·obtain ⟨o,ho,hop⟩:=h i hi
  have hfi:Hl ops i=false:=by simpa using List.all_eq_true.1 hfr i hi
  have hli:Fs ops 0 i=true:=by
   cases hh:Fs ops 0 i with
   | true=>rfl
   | false=>rw [ABp hh] at hfi; cases hfi
  have hfo:Lk o=false:=by simpa [Hl,ho] using hfi
  rw [Hx]
  have hst:=hop base (fun a w=>wpM E.P ops (fun _=>True) (Fs ops 0) 0 Q f (m.set i true).toArray a w) a w Z R sr fun s' a' w' Z' R' hk sr' st' =>
   hk base Q a' w' Z' R' hns (by rw [<-Hx]; exact hcl.set (hr i hi).1) (by simpa using hsz) sr' fun s2 a2 w2 Z2 R2 hK sr2 st2=>q s2 a2 w2 Z2 R2 hK sr2 (st'.trans st2)
  unfold mOp
  rw [ho]
  dsimp only
  unfold LwL at hst
  split at hst
  ·next hw =>
   rw [if_pos hw,if_pos hli]
   rw [hfo] at hst
   exact hst
  ·next hw=>rw [if_neg hw]; exact hst
theorem ACk {n:Nat}(hE:EnvOk E){s:St}(l:List (Nat×AV)) (hp:Hp) (h:UX (Jb E (evC E 0) ⟨none,false⟩ ops [o] s) l=some (n,xs2 l,hp)) (k:K ⟨Fr n l,hp⟩):RunS E ops [o] s K :=
 AD (rest:=[o]) hE 1 l hp h (AI rfl k)
theorem RunA.done (h:(Region.ready .any ops m.toArray).isEmpty=true) (kk:K s):RunA E ops 0 m s K:=fun base Q a w Z R _ _ _ sr q =>
 ⟨fun _=>trivial,by simpa using h,q s a w Z R kk sr (StepW.refl _ _ _ _)⟩
end
/- trestle/trestlelaw03.Made -/
def u8 (n:Int):Prop:=0<=n/\n<=255
/-- Every clause is valid behind what stands before it. -/
def O8 (pre:List AG):List AG->Prop
 | []=>True
 | x::r=>chk pre x=0/\O8 (pre++[x]) r
theorem SA:∀ (a pre b:List AG),O8 pre (a++b)↔O8 pre a/\O8 (pre++a) b
 | [],pre,b=>by simp [O8]
 | x::a,pre,b=>by
  simp only [List.cons_append,O8,SA a (pre++[x]) b,List.append_assoc,List.cons_append,List.nil_append,and_assoc]
/-- The decision of a merged text. -/
theorem Rj (a b:Ai) (i j:Int) (x:AG) (r:List AG) (k:Nat):rsn a b i j (x::r) k=if dir x a b i j=0 then rsn a b i j r (k + 1) else .inr ((k:Int),dir x a b i j):=rfl
theorem Yq (a b:Ai) (i j:Int):∀ (c d:List AG) (k:Nat),rsn a b i j (c++d) k=match rsn a b i j c k with | .inl _=>rsn a b i j d (k + c.length) | .inr w=> .inr w
 | [],d,k=>rfl
 | x::c,d,k=>by
  rw [List.cons_append,Rj,Rj]
  by_cases h:dir x a b i j=0
  ·rw [if_pos h,if_pos h,Yq a b i j c d (k + 1),List.length_cons,show k + 1 + c.length=k + (c.length + 1) by omega]
  ·rw [if_neg h,if_neg h]
theorem Yr (a b:Ai) (i j:Int):∀ (c:List AG) (k:Nat),(∃ u,rsn a b i j c k = .inl u)\/∃ w,rsn a b i j c k = .inr w/\w.2≠0
 | [],k=> .inl ⟨(),rfl⟩
 | x::c,k=>by
  unfold rsn
  by_cases h:dir x a b i j=0
  ·rw [if_pos h]; exact Yr a b i j c (k + 1)
  ·rw [if_neg h]; exact .inr ⟨_,rfl,h⟩
theorem ADf (a b:Ai) (i j:Int):∀ (c:List AG) (k q:Nat),(match rsn a b i j c k with | .inl _=>(0:Int) | .inr w=>w.2)=(match rsn a b i j c q with | .inl _=>(0:Int) | .inr w=>w.2)
 | [],_,_=>rfl
 | x::c,k,q=>by
  unfold rsn
  by_cases h:dir x a b i j=0
  ·rw [if_pos h,if_pos h]; exact ADf a b i j c (k + 1) (q + 1)
  ·rw [if_neg h,if_neg h]
def Vp (c:List AG) (a b:Ai) (i j:Int):Int:=(ACa c a b i j).2
theorem Rt (c:List AG) (a b:Ai) (i j:Int):Vp c a b i j=match rsn a b i j c 0 with | .inl _=>(0:Int) | .inr w=>w.2:=by
 unfold Vp ACa
 cases rsn a b i j c 0 <;> rfl
theorem ABK (c d:List AG) (a b:Ai) (i j:Int):Vp (c++d) a b i j=if Vp c a b i j=0 then Vp d a b i j else Vp c a b i j:=by
 rw [Rt,Rt,Rt,Yq]
 rcases Yr a b i j c 0 with ⟨u,h⟩ | ⟨w,h,hw⟩
 ·rw [h]
  simp only [if_true]
  exact ADf a b i j d _ _
 ·rw [h]
  simp only [hw,if_false]
/-- -1, 0 or 1, turned round with its arguments, and a chain decides by its least. -/
structure Wk3 {α:Type} (f:α->α->Int):Prop where
 v:∀ a b,f a b = -1\/f a b=0\/f a b=1
 s:∀ a b,f a b = - f b a
 t:∀ a b c,f a b<=0->f b c<=0->f a c=min (f a b) (f b c)
theorem Uk {α:Type}(k:α->Int):Wk3 (fun a b=>NK (k a) (k b)):=by
 refine ⟨fun a b=>?_,fun a b=>?_,fun a b c h1 h2=>?_⟩
 ·unfold NK; split
  ·exact .inl rfl
  ·split
   ·exact .inr (.inr rfl)
   ·exact .inr (.inl rfl)
 ·unfold NK; split <;> split <;> first | rfl | omega | (split <;> first | rfl | omega)
 ·(try dsimp only at h1 h2 ⊢)
  unfold NK at *
  split at h1 <;> split at h2 <;> first | (split at h1 <;> first | omega | skip) | skip
  all_goals first | (split at h2 <;> first | omega | skip) | skip
  all_goals (split <;> first | omega | skip)
  all_goals first | rfl | omega | (split <;> first | rfl | omega)
theorem Wh:∀ (x:List UInt8),Go.Op.bytesLess x x=false
 | []=>rfl
 | a::x=>by
  show (decide (a < a)||(a==a&&Go.Op.bytesLess x x))=false
  rw [Wh x]; simp
theorem T7:∀ (x y z:List UInt8),Go.Op.bytesLess x y=true->Go.Op.bytesLess y z=true->Go.Op.bytesLess x z=true
 | x,[],_,h,_=>by cases x <;> cases h
 | _,_::_,[],_,h=>by cases h
 | [],_::_,_::_,_,_=>rfl
 | a::x,b::y,c::z,h1,h2=>by
  have h1':(decide (a < b)||(a==b&&Go.Op.bytesLess x y))=true:=h1
  have h2':(decide (b < c)||(b==c&&Go.Op.bytesLess y z))=true:=h2
  show (decide (a < c)||(a==c&&Go.Op.bytesLess x z))=true
  simp only [Bool.or_eq_true,Bool.and_eq_true,decide_eq_true_eq,beq_iff_eq] at h1' h2' ⊢
  rcases h1' with q1 | ⟨rfl,q1⟩ <;> rcases h2' with q2 | ⟨rfl,q2⟩
  ·exact .inl (UInt8.lt_trans q1 q2)
  ·exact .inl q1
  ·exact .inl q2
  ·exact .inr ⟨rfl,T7 x y z q1 q2⟩
theorem ACO {α:Type}(k:α->List UInt8):Wk3 (fun a b=>Xq (k a) (k b)):=by
 have val:∀ x y:List UInt8,(Go.Op.bytesLess x y=true/\Xq x y = -1)\/(x=y/\Xq x y=0)\/(Go.Op.bytesLess y x=true/\Xq x y=1):=fun x y=>by
  unfold Xq
  cases h:Go.Op.bytesLess x y with
  | true=>exact .inl ⟨rfl,rfl⟩
  | false =>
   have:=T6 x y h
   cases he:(x==y) with
   | true=>exact .inr (.inl ⟨by simpa using he,rfl⟩)
   | false=>exact .inr (.inr ⟨by rw [this,he]; rfl,rfl⟩)
 have asy:∀ x y:List UInt8,Go.Op.bytesLess x y=true->Go.Op.bytesLess y x=true->False:=fun x y h1 h2=>by
  have:=T7 x y x h1 h2
  rw [Wh] at this
  cases this
 refine ⟨fun a b=>?_,fun a b=>?_,fun a b c h1 h2=>?_⟩
 ·rcases val (k a) (k b) with ⟨_,h⟩ | ⟨_,h⟩ | ⟨_,h⟩
  ·exact .inl h
  ·exact .inr (.inl h)
  ·exact .inr (.inr h)
 ·(try dsimp only)
  rcases val (k a) (k b) with ⟨p,h⟩ | ⟨p,h⟩ | ⟨p,h⟩ <;> rcases val (k b) (k a) with ⟨q,g⟩ | ⟨q,g⟩ | ⟨q,g⟩ <;> rw [h,g] <;> first | rfl | (exfalso; first | exact asy _ _ p q | (rw [q,Wh] at p; cases p) | (rw [p,Wh] at q; cases q))
 ·(try dsimp only at h1 h2 ⊢)
  rcases val (k a) (k b) with ⟨p,h⟩ | ⟨p,h⟩ | ⟨p,h⟩ <;> rcases val (k b) (k c) with ⟨q,g⟩ | ⟨q,g⟩ | ⟨q,g⟩ <;> first | (rw [h] at h1; exact absurd h1 (by decide)) | (rw [g] at h2; exact absurd h2 (by decide)) | skip
  ·rw [h,g]
   have:=T7 _ _ _ p q
   unfold Xq
   rw [if_pos this]; rfl
  ·rw [h,g,<-q,h]; rfl
  ·rw [h,g,p,g]; rfl
  ·rw [h,g,p,g]; rfl
theorem AAs {α:Type}(y:Bool) (k:α->Int):Wk3 (fun a b=>snc y (k a) (k b)):=by
 have val:∀ s t:Int,snc y s t=if s=0 then (if t=0 then 0 else 1) else if t=0 then -1 else if y=true then NK t s else NK s t:=fun s t=>by
  rw [Yt]
  unfold NK
  by_cases hs:s=0 <;> by_cases ht:t=0
  ·simp [hs,ht]
  ·simp [hs,ht]
  ·simp [hs,ht]
  ·cases y <;> simp [hs,ht]
 refine ⟨fun a b=>?_,fun a b=>?_,fun a b c h1 h2=>?_⟩
 ·(try dsimp only)
  rw [val]
  unfold NK
  split
  ·split
   ·exact .inr (.inl rfl)
   ·exact .inr (.inr rfl)
  ·split
   ·exact .inl rfl
   ·split <;> (split; · exact .inl rfl) <;> (split; · exact .inr (.inr rfl)) <;> exact .inr (.inl rfl)
 ·(try dsimp only)
  rw [val,val]
  unfold NK
  cases y <;> simp only [if_true,if_false,Bool.false_eq_true] <;> (repeat' split) <;> first | rfl | omega
 ·(try dsimp only at h1 h2 ⊢)
  rw [val] at h1 h2
  rw [val,val,val]
  unfold NK at *
  cases y <;> simp only [if_true,if_false,Bool.false_eq_true] at h1 h2 ⊢ <;> (repeat' split at h1) <;> (repeat' split at h2) <;> first | omega | ((repeat' split) <;> first | rfl | omega)
/-- A second order where a first one ties. -/
theorem ADr {α:Type}{f g:α->α->Int}(hf:Wk3 f) (gv:∀ a b,g a b = -1\/g a b=0\/g a b=1) (gs:∀ a b,g a b = - g b a)
  (gt:∀ a b c,f a b=0->f b c=0->g a b<=0->g b c<=0->g a c=min (g a b) (g b c)):Wk3 (fun a b=>if f a b=0 then g a b else f a b):=by
 refine ⟨fun a b=>?_,fun a b=>?_,fun a b c h1 h2=>?_⟩
 ·show (if f a b=0 then g a b else f a b) = -1\/_
  split
  ·exact gv a b
  ·exact hf.v a b
 ·show (if f a b=0 then g a b else f a b) = - (if f b a=0 then g b a else f b a)
  have:=hf.s a b
  by_cases h:f b a=0
  ·rw [if_pos h,if_pos (by omega)]; exact gs a b
  ·rw [if_neg h,if_neg (by omega)]; exact this
 ·have h1':(if f a b=0 then g a b else f a b)<=0:=h1
  have h2':(if f b c=0 then g b c else f b c)<=0:=h2
  show (if f a c=0 then g a c else f a c)=min (if f a b=0 then g a b else f a b) (if f b c=0 then g b c else f b c)
  have ab:=hf.v a b
  have bc:=hf.v b c
  have gab:=gv a b
  have gbc:=gv b c
  by_cases x:f a b=0 <;> by_cases y:f b c=0
  ·have:=hf.t a b c (by omega) (by omega)
   rw [if_pos x] at h1' ⊢
   rw [if_pos y] at h2' ⊢
   rw [if_pos (by omega)]
   exact gt a b c x y h1' h2'
  ·rw [if_pos x] at h1' ⊢
   rw [if_neg y] at h2' ⊢
   have:=hf.t a b c (by omega) (by omega)
   rw [if_neg (by omega)]
   omega
  ·rw [if_neg x] at h1' ⊢
   rw [if_pos y] at h2' ⊢
   have:=hf.t a b c (by omega) (by omega)
   rw [if_neg (by omega)]
   omega
  ·rw [if_neg x] at h1' ⊢
   rw [if_neg y] at h2' ⊢
   have:=hf.t a b c (by omega) (by omega)
   rw [if_neg (by omega)]
   omega
/-- A guest at a place of the row. -/
abbrev At:={ p:Ai×Int // O9 p.2=true }
theorem ADs (x:AG):Wk3 (fun a b:At=>Ri x a.1.1 b.1.1 a.1.2 b.1.2):=by
 have e:(fun a b:At=>Ri x a.1.1 b.1.1 a.1.2 b.1.2)=fun a b:At =>
   if (x.1==1)=true then NK (rk x.2.2.2.1 a.1.1.2.1) (rk x.2.2.2.1 b.1.1.2.1) else
   if (x.1==2)=true then snc false a.1.1.2.2.2.1 b.1.1.2.2.2.1 else
   if (x.1==3)=true then snc true a.1.1.2.2.2.1 b.1.1.2.2.2.1 else
   if (x.1==8)=true then Xq a.1.1.1 b.1.1.1 else
   if (x.1==9)=true then NK a.1.2 b.1.2 else
   if (x.1==10)=true then NK (kyI a.1.2 x.2.2.2.2) (kyI b.1.2 x.2.2.2.2) else
   NK (nv x a.1.1) (nv x b.1.1):=by
  funext a b
  unfold Ri
  rw [a.2,b.2]
  simp only [Bool.not_true,Bool.or_self,Bool.false_eq_true,if_false]
 rw [e]
 by_cases h1:(x.1==1)=true
 ·simp only [h1,if_true]; exact Uk (fun a:At=>rk x.2.2.2.1 a.1.1.2.1)
 by_cases h2:(x.1==2)=true
 ·simp only [h1,h2,if_true,if_false,Bool.false_eq_true]; exact AAs false (fun a:At=>a.1.1.2.2.2.1)
 by_cases h3:(x.1==3)=true
 ·simp only [h1,h2,h3,if_true,if_false,Bool.false_eq_true]; exact AAs true (fun a:At=>a.1.1.2.2.2.1)
 by_cases h8:(x.1==8)=true
 ·simp only [h1,h2,h3,h8,if_true,if_false,Bool.false_eq_true]; exact ACO (fun a:At=>a.1.1.1)
 by_cases h9:(x.1==9)=true
 ·simp only [h1,h2,h3,h8,h9,if_true,if_false,Bool.false_eq_true]; exact Uk (fun a:At=>a.1.2)
 by_cases h10:(x.1==10)=true
 ·simp only [h1,h2,h3,h8,h9,h10,if_true,if_false,Bool.false_eq_true]; exact Uk (fun a:At=>kyI a.1.2 x.2.2.2.2)
 ·simp only [h1,h2,h3,h8,h9,h10,if_false,Bool.false_eq_true]; exact Uk (fun a:At=>nv x a.1.1)
theorem Yn (s:List UInt8):∀ (l:List (List UInt8)) (i:Nat),i<=rkN s l i
 | [],i=>Nat.le_refl i
 | v::r,i=>by
  unfold rkN
  split
  ·exact Nat.le_refl i
  ·have:=Yn s r (i + 1); omega
theorem WO (s t:List UInt8):∀ (l:List (List UInt8)) (i:Nat),NO l s=true->rkN s l i=rkN t l i->t=s
 | [],_,h,_=>by cases h
 | v::r,i,h,e=>by
  have h':((s==v)||NO r s)=true:=h
  unfold rkN at e
  by_cases hs:(s==v)=true
  ·rw [if_pos hs] at e
   by_cases ht:(t==v)=true
   ·rw [beq_iff_eq] at hs ht; rw [hs,ht]
   ·rw [if_neg ht] at e
    have:=Yn t r (i + 1)
    omega
  ·rw [if_neg hs] at e
   by_cases ht:(t==v)=true
   ·rw [if_pos ht] at e
    have:=Yn s r (i + 1)
    omega
   ·rw [if_neg ht] at e
    have h2:NO r s=true:=by
     cases hq:(s==v) with
     | true=>exact absurd hq hs
     | false=>rwa [hq,Bool.false_or] at h'
    exact WO s t r (i + 1) h2 e
theorem AEa {x:AG}(h:fm x=true) (hk:(x.1==1)=true):x.2.1=[]:=by
 unfold fm BI at h
 rw [if_pos hk] at h
 cases hb:BV (x.2.2.2.1.length:Int) 1 16 with
 | none=>rw [hb] at h; cases h
 | some v =>
  rw [hb,OS] at h
  cases v with
  | false=>cases h
  | true =>
   by_cases h2:(x.2.2.2.2==0)=true
   ·by_cases h3:(!x.2.2.1)=true
    ·rw [if_pos rfl,if_pos h2,if_pos h3] at h
     simpa using h
    ·rw [if_pos rfl,if_pos h2,if_neg h3] at h; cases h
   ·rw [if_pos rfl,if_neg h2] at h; cases h
theorem AC0 {pre:List AG}{x:AG}(h:chk pre x=0):fm x=true:=by
 unfold chk at h
 split at h
 ·cases h
 ·next h1=>simpa using h1
theorem ACz {pre:List AG}{x:AG}(h:chk pre x=0):x.2.1=[]\/NS pre x.2.1=true:=by
 unfold chk at h
 split at h
 ·cases h
 split at h
 ·cases h
 split at h
 ·cases h
 split at h
 ·next h4=>exact h4
 ·cases h
theorem VH:∀ (c pre:List AG),O8 pre c->∀ x ∈ c,fm x=true
 | y::r,pre,h,x,hx=>by
  rcases List.mem_cons.1 hx with e | e
  ·rw [e]; exact AC0 h.1
  ·exact VH r _ h.2 x e
/-- Ties of a text tie every clause of it. -/
theorem YE (a b:Ai) (i j:Int):∀ (c:List AG) (k:Nat),rsn a b i j c k = .inl ()->∀ x ∈ c,dir x a b i j=0
 | y::r,k,h,x,hx=>by
  rw [Rj] at h
  by_cases q:dir y a b i j=0
  ·rw [if_pos q] at h
   rcases List.mem_cons.1 hx with e | e
   ·rw [e]; exact q
   ·exact YE a b i j r (k + 1) h x e
  ·rw [if_neg q] at h; cases h
theorem ZN {c:List AG}{a b:Ai}{i j:Int}(h:Vp c a b i j=0):∀ x ∈ c,dir x a b i j=0:=by
 rw [Rt] at h
 rcases Yr a b i j c 0 with ⟨u,e⟩ | ⟨w,e,hw⟩
 ·exact YE a b i j c 0 e
 ·rw [e] at h; exact absurd h hw
theorem AC1 {x y:Int}(h:NK x y=0):x=y:=by
 unfold NK at h
 split at h
 ·cases h
 split at h
 ·cases h
 ·omega
/-- A text that ranks a rank ties nobody of it with anybody of another rank. -/
theorem XG {c:List AG}{s:List UInt8}(hc:∀ x ∈ c,fm x=true) (hr:NS c s=true){a b:Ai}{i j:Int}(h:Vp c a b i j=0):(a.2.1==s)=(b.2.1==s):=by
 unfold NS at hr
 obtain ⟨y,hy,e⟩:=List.any_eq_true.1 hr
 rw [Bool.and_eq_true] at e
 have hd:=ZN h y hy
 have ham:=AEa (hc y hy) e.1
 unfold dir amB at hd
 rw [ham,if_neg (by simp)] at hd
 unfold Ri at hd
 rw [if_pos e.1] at hd
 have hk:=AC1 hd
 unfold rk at hk
 have hn:rkN a.2.1 y.2.2.2.1 0=rkN b.2.1 y.2.2.2.1 0:=by omega
 by_cases ha:a.2.1=s
 ·have hb:=WO a.2.1 b.2.1 _ 0 (by rw [ha]; exact e.2) hn
  rw [hb]
 ·by_cases hb:b.2.1=s
  ·have:=WO b.2.1 a.2.1 _ 0 (by rw [hb]; exact e.2) hn.symm
   exact absurd (this.trans hb) ha
  ·rw [beq_eq_false_iff_ne.2 ha,beq_eq_false_iff_ne.2 hb]
theorem ACu (x:AG) (a b:Ai):amB x a b=amB x b a:=by
 unfold amB
 cases (x.2.1==[]) <;> cases (a.2.1==x.2.1) <;> cases (b.2.1==x.2.1) <;> rfl
theorem ABL (x:AG) (a b:Ai) (i j:Int):Vp [x] a b i j=dir x a b i j:=by
 rw [Rt,Rj]
 by_cases h:dir x a b i j=0
 ·rw [if_pos h,h]; rfl
 ·rw [if_neg h]
theorem Y4:∀ (c pre:List AG),O8 [] (pre++c)->Wk3 (fun a b:At=>Vp pre a.1.1 b.1.1 a.1.2 b.1.2)->Wk3 (fun a b:At=>Vp (pre++c) a.1.1 b.1.1 a.1.2 b.1.2)
 | [],pre,_,h=>by rw [List.append_nil]; exact h
 | x::r,pre,hg,h=>by
  have e:pre++x::r=(pre++[x])++r:=by simp
  rw [e] at hg ⊢
  refine Y4 r (pre++[x]) hg ?_
  have hgx:=(SA (pre++[x]) [] r).1 hg
  have hp:=(SA pre [] [x]).1 hgx.1
  have hchk:chk pre x=0:=by simpa using hp.2.1
  have hfm:=VH pre [] hp.1
  have ho:=ADs x
  have hx:(fun a b:At=>Vp (pre++[x]) a.1.1 b.1.1 a.1.2 b.1.2)=fun a b:At=>if Vp pre a.1.1 b.1.1 a.1.2 b.1.2=0 then dir x a.1.1 b.1.1 a.1.2 b.1.2 else Vp pre a.1.1 b.1.1 a.1.2 b.1.2:=by
   funext a b
   rw [ABK,ABL]
  rw [hx]
  refine ADr h (fun a b=>?_) (fun a b=>?_) (fun a b c h1 h2=>?_)
  ·unfold dir
   split
   ·exact .inr (.inl rfl)
   ·exact ho.v a b
  ·unfold dir
   rw [ACu x b.1.1 a.1.1]
   split
   ·rfl
   ·exact ho.s a b
  ·unfold dir
   rcases ACz hchk with ha | ha
   ·have q:∀ u v:Ai,amB x u v=false:=fun u v=>by unfold amB; rw [ha]; rfl
    rw [q,q,q,if_neg (by decide),if_neg (by decide),if_neg (by decide)]
    exact ho.t a b c
   ·have t1:=XG hfm ha h1
    have t2:=XG hfm ha h2
    unfold amB
    rw [<-t2,<-t1]
    cases (!(x.2.1==[]))
    ·exact ho.t a b c
    ·cases (a.1.1.2.1==x.2.1)
     ·intro _ _; rfl
     ·exact ho.t a b c
theorem AAQ (c:List AG) (hg:O8 [] c):Wk3 (fun a b:At=>Vp c a.1.1 b.1.1 a.1.2 b.1.2) :=
 Y4 c [] hg ⟨fun _ _=> .inr (.inl rfl),fun _ _=>rfl,fun _ _ _ _ _=>rfl⟩
/- trestle/trestleref03.Valid -/
/- trestle/trestleref03.AllValid -/
/-- A loop whose states are known. -/
theorem AEv {σ ρ:Type}(n:Nat) (S:Nat->σ) (R:Option ρ) (L:Nat->Int->σ->Option ρ) (hn:n<=1000000) (hs:∀ i,i < n->∀ f,L (f + 1) (i:Int) (S i)=L f (wr .i64 ((i:Int) + 1)) (S (i + 1))) (he:∀ f,L (f + 1) (n:Int) (S n)=R):∀ (d i f:Nat),i + d=n->d < f->L f (i:Int) (S i)=R
 | 0,i,f + 1,e,_=>by
  rw [show i=n by omega]
  exact he f
 | d + 1,i,f + 1,e,hf=>by
  rw [hs i (by omega) f,Xr (by omega) (by omega),show ((i:Int) + 1)=((i + 1:Nat):Int) by omega]
  exact AEv n S R L hn hs he d (i + 1) f (by omega) (by omega)
theorem P6 {σ ρ:Type}(n:Nat) (S:Nat->σ) (R:Option ρ) (L:Nat->Int->σ->Option ρ) (hn:n<=99999) (hs:∀ i,i < n->∀ f,L (f + 1) (i:Int) (S i)=L f (wr .i64 ((i:Int) + 1)) (S (i + 1))) (he:∀ f,L (f + 1) (n:Int) (S n)=R):L 100000 0 (S 0)=R :=
 AEv n S R L (by omega) hs he n 0 100000 (by omega) (by omega)
/-- A valid text, as it is checked. -/
theorem U0 (c:List AG):∀ (r pre:List AG),c=pre++r->(∃ u,XU c r pre.length = .inl u)->O8 pre r
 | [],_,_,_=>trivial
 | x::r,pre,e,⟨u,h⟩=>by
  unfold XU at h
  rw [show c.take pre.length=pre by rw [e]; simp] at h
  by_cases hx:chk pre x=0
  ·rw [if_neg (by simpa using hx)] at h
   exact ⟨hx,U0 c r (pre++[x]) (by rw [e]; simp) ⟨u,by simpa using h⟩⟩
  ·rw [if_pos hx] at h; cases h
theorem PS {c:List AG}(h:(Tk c).2=0):c.length<=32/\O8 [] c:=by
 unfold Tk at h
 split at h
 ·cases h
 ·next hl =>
  refine ⟨by omega,U0 c c [] rfl ?_⟩
  rcases UA c c 0 with ⟨u,h1,_⟩ | ⟨w,h1,h2⟩
  ·exact ⟨u,h1⟩
  ·rw [h1] at h; exact absurd h h2
theorem Zw (c:List AG) (h:few c):HO c=some (if (Tk c).2=0 then (c,true) else ([],false)):=by
 unfold HO
 rw [X9 c h,OS]
 by_cases hv:(Tk c).2=0
 ·have e0:Eq c 100000 [] 0=some c:=VQ c h (Sv hv) c [] 100000 rfl (by have:=h.1; omega)
  rw [if_neg (by simpa using hv),if_pos hv,e0]; rfl
 ·rw [if_pos (by simpa using hv),if_neg hv]
/-- Guests at their places. -/
def Fd:List Ai->Nat->List A5
 | [],_=>[]
 | g::r,i=>(g,(i:Int))::Fd r (i + 1)
theorem OU:∀ (g:List Ai) (i:Nat),(Fd g i).length=g.length
 | [],_=>rfl
 | _::r,i=>by simp [Fd,OU r (i + 1)]
theorem Tu:∀ (g:List Ai) (i k:Nat),(Fd g i)[k]? = (g[k]?).map fun x=>(x,((i + k:Nat):Int))
 | [],_,_=>by simp [Fd]
 | x::r,i,0=>by simp [Fd]
 | x::r,i,k + 1=>by
  simp only [Fd,List.getElem?_cons_succ]
  rw [Tu r (i + 1) k,show i + 1 + k=i + (k + 1) by omega]
theorem SK:∀ (g:List Ai) (x:Ai) (i:Nat),Fd (g++[x]) i=Fd g i++[(x,((i + g.length:Nat):Int))]
 | [],x,i=>by simp [Fd]
 | y::r,x,i=>by
  simp only [List.cons_append,Fd,SK r x (i + 1),List.length_cons]
  rw [show i + 1 + r.length=i + (r.length + 1) by omega]
theorem ADS (g:List Ai) (h:g.length<=99999):I8 g=some (Fd g 0):=by
 unfold I8
 have:ED g 100000 [] 0=some (Fd g 0):=by
  have:=P6 (σ:=List A5) g.length (fun i=>Fd (g.take i) 0) (some (Fd g 0)) (fun f c s=>ED g f s c) h (fun i hi f=>by
   show ED g (f + 1) (Fd (g.take i) 0) (i:Int)=_
   conv=>lhs; unfold ED
   rw [if_pos (by simp; omega),Ke hi,OS,if_pos (Hv (by omega) (by rw [OU]; simp; omega))]
   have e:Fd (g.take (i + 1)) 0=Fd (g.take i) 0++[(g[i],(i:Int))]:=by
    rw [List.take_succ_eq_append_getElem hi,SK]; simp; omega
   show _=ED g f (Fd (g.take (i + 1)) 0) _
   rw [e]) (fun f=>by
   show ED g (f + 1) (Fd (g.take g.length) 0) (g.length:Int)=_
   conv=>lhs; unfold ED
   rw [if_neg (by simp),List.take_length])
  exact this
 rw [this]; rfl
/-- What a text says of the guests at two places. -/
def dG:Ai:=([],[],[],0,0,[],false,false,[])
def gAt (g:List Ai) (x:Nat):Ai:=g.getD x dG
def cm (c:List AG) (g:List Ai) (x y:Nat):Int:=Vp c (gAt g x) (gAt g y) (x:Int) (y:Int)
theorem ADJ {x:Nat}(h:x < 64):O9 (x:Int)=true:=by simp [O9]; omega
/-- Who sits in a row of at most 64. -/
abbrev Pl:={ x:Nat // x < 64 }
theorem ADt {c:List AG}(g:List Ai) (hg:O8 [] c):Wk3 (fun a b:Pl=>cm c g a.1 b.1) :=
 let h:=AAQ c hg
 let k:Pl->At:=fun a=>⟨(gAt g a.1,(a.1:Int)),ADJ a.2⟩
 ⟨fun a b=>h.v (k a) (k b),fun a b=>h.s (k a) (k b),fun a b d=>h.t (k a) (k b) (k d)⟩
theorem AEu {c:List AG}{g:List Ai}(hg:O8 [] c){x y:Nat}(hx:x < 64) (hy:y < 64):cm c g x y = -1\/cm c g x y=0\/cm c g x y=1:=(ADt g hg).v ⟨x,hx⟩ ⟨y,hy⟩
theorem AEt {c:List AG}{g:List Ai}(hg:O8 [] c){x y:Nat}(hx:x < 64) (hy:y < 64):cm c g x y = - cm c g y x:=(ADt g hg).s ⟨x,hx⟩ ⟨y,hy⟩
theorem AEs {c:List AG}{g:List Ai}(hg:O8 [] c){x:Nat}(hx:x < 64):cm c g x x=0:=by have:=AEt (g:=g) hg hx hx; omega
/-- Few guests, their places. -/
structure FewR (g:List Ai):Prop where
 n:g.length<=64
 f:∀ x ∈ g,Wr x
theorem FewR.at_ {g:List Ai}(h:FewR g){x:Nat}(hx:x < g.length):Wr (gAt g x):=h.f _ (by unfold gAt; rw [List.getD_eq_getElem?_getD,List.getElem?_eq_getElem hx]; exact List.getElem_mem hx)
theorem VT (g:List Ai){x:Nat}(hx:x < g.length):idx (Fd g 0) (x:Int)=some (gAt g x,(x:Int)):=by
 unfold idx
 rw [if_pos (by omega),Int.toNat_natCast,Tu,List.getElem?_eq_getElem hx]
 simp [gAt,hx]
theorem ADI (g:List Ai){x:Nat}(hx:x < g.length):idx g (x:Int)=some (gAt g x):=by
 rw [Ke hx]; simp [gAt,hx]
/-- Tables of numbers. -/
def Qe (n:Nat) (f:Nat->Int):List Int:=(List.range n).map f
def Kn (n:Nat) (M:Nat->Nat->Int):List (List Int):=(List.range n).map fun x=>Qe n (M x)
theorem AAA (n:Nat) (f:Nat->Int):(Qe n f).length=n:=by simp [Qe]
theorem Zn (n:Nat) (M:Nat->Nat->Int):(Kn n M).length=n:=by simp [Kn]
theorem WP {n:Nat}{f:Nat->Int}{x:Nat}(h:x < n):idx (Qe n f) (x:Int)=some (f x):=by
 rw [Ke (by rw [AAA]; exact h)]; simp [Qe]
theorem WH {n:Nat}{M:Nat->Nat->Int}{x:Nat}(h:x < n):idx (Kn n M) (x:Int)=some (Qe n (M x)):=by
 rw [Ke (by rw [Zn]; exact h)]; simp [Kn]
theorem WG {α:Type}(n:Nat) (f h:Nat->α) (x:Nat) (v:α) (hx:h x=v) (hn:∀ y,y≠x->h y=f y):((List.range n).map f).set x v=(List.range n).map h:=by
 apply List.ext_getElem?
 intro i
 rw [List.getElem?_set]
 simp only [List.getElem?_map,List.length_map,List.length_range]
 by_cases e:x=i
 ·subst e
  rw [if_pos rfl]
  split
  ·next h1=>rw [List.getElem?_range h1]; simp [hx]
  ·next h1=>rw [List.getElem?_eq_none (by simp; omega)]; rfl
 ·rw [if_neg e]
  by_cases hi:i < n
  ·rw [List.getElem?_range hi]; simp [hn i (Ne.symm e)]
  ·rw [List.getElem?_eq_none (by simp; omega)]; rfl
theorem AAB {n x:Nat}{f h:Nat->Int}{v:Int}(hx:h x=v) (hn:∀ y,y≠x->h y=f y):(Qe n f).set x v=Qe n h:=WG n f h x v hx hn
theorem Zo {n x:Nat}{M K:Nat->Nat->Int}{r:List Int}(hx:Qe n (K x)=r) (hn:∀ z,z≠x->K z=M z):(Kn n M).set x r=Kn n K :=
 WG n _ _ x r hx fun z hz=>by rw [hn z hz]
/-- One more in a table. -/
def AA3 (M:Nat->Nat->Int) (x y:Nat):Nat->Nat->Int:=fun a b=>if a=x/\b=y then M a b + 1 else M a b
theorem VM {n x y:Nat}{M:Nat->Nat->Int}:(Kn n M).set x ((Qe n (M x)).set y (M x y + 1))=Kn n (AA3 M x y):=by
 refine Zo ?_ fun z hz=>?_
 ·rw [AAB (h:=fun b=>AA3 M x y x b) (by simp [AA3]) (fun b hb=>by simp [AA3,hb])]
 ·funext b; simp [AA3,hz]
section
variable {c:List AG}{g:List Ai}(hc:few c) (hv:(Tk c).2=0) (hg:FewR g)
include hc hv hg
theorem Zb {x y:Nat}(hx:x < g.length) (hy:y < g.length):∃ k,BH c (gAt g x,(x:Int)) (gAt g y,(y:Int))=some (k,cm c g x y) :=
 ⟨_,ABX c (gAt g x) (gAt g y) x y hc (Sv hv) (hg.at_ hx) (hg.at_ hy)⟩
/-- What a text adds to the table. -/
def dl (c:List AG) (g:List Ai) (x y:Nat):Int:=if cm c g x y = -1 then 1 else 0
def Km (M:Nat->Nat->Int) (c:List AG) (g:List Ai) (i k:Nat):Nat->Nat->Int:=fun x y=>M x y + if (x=i/\y < k)\/(y=i/\x < k) then dl c g x y else 0
theorem AAF (M:Nat->Nat->Int) (B:Int) (hB:B<=1000000) (hM:∀ x y,0<=M x y/\M x y<=B) (i:Nat) (hi:i < g.length):Dp (Fd g 0) (c,true) (i:Int) 100000 0 (Kn g.length M)=some (Kn g.length (Km M c g i i)):=by
 have hgd:=(PS hv).2
 have hn:=hg.n
 have h0:Km M c g i 0=M:=by funext x y; simp [Km]
 suffices h1:Dp (Fd g 0) (c,true) (i:Int) 100000 0 (Kn g.length (Km M c g i 0))=some (Kn g.length (Km M c g i i)) by rwa [h0] at h1
 refine P6 (σ:=List (List Int)) i (fun k=>Kn g.length (Km M c g i k)) (some (Kn g.length (Km M c g i i))) (fun f c' s=>Dp (Fd g 0) (c,true) (i:Int) f c' s) (by omega) (fun k hk f=>?_) (fun f=>?_)
 ·show Dp (Fd g 0) (c,true) (i:Int) (f + 1) (k:Int) (Kn g.length (Km M c g i k))=_
  conv=>lhs; unfold Dp
  obtain ⟨q,hq⟩:=Zb hc hv hg hi (show k < g.length by omega)
  have s1:Km M c g i k i k=M i k:=by unfold Km; rw [if_neg (by omega)]; omega
  have s2:Km M c g i k k i=M k i:=by unfold Km; rw [if_neg (by omega)]; omega
  have b1:=hM i k
  have b2:=hM k i
  have anti:=AEt (g:=g) hgd (show i < 64 by omega) (show k < 64 by omega)
  have key:Hs (i:Int) (k:Int) (Kn g.length (Km M c g i k)) (q,cm c g i k)=some (Kn g.length (Km M c g i (k + 1))):=by
   have other:∀ x y,¬ (x=i/\y=k)->¬ (x=k/\y=i)->Km M c g i (k + 1) x y=Km M c g i k x y:=fun x y h1 h2=>by
    unfold Km
    by_cases e:(x=i/\y < k)\/(y=i/\x < k)
    ·rw [if_pos e,if_pos (by omega)]
    ·rw [if_neg e,if_neg (by omega)]
   have t1:Km M c g i (k + 1) i k=M i k + dl c g i k:=by unfold Km; rw [if_pos (by omega)]
   have t2:Km M c g i (k + 1) k i=M k i + dl c g k i:=by unfold Km; rw [if_pos (by omega)]
   unfold Hs JS
   rcases AEu (g:=g) hgd (show i < 64 by omega) (show k < 64 by omega) with e | e | e
   ·rw [e,if_pos (by rfl),WH hi,OS,WP (by omega),OS,OS,s1,Xr (by omega) (by omega),Int.toNat_natCast,Int.toNat_natCast,<-s1,VM]
    congr 2
    funext x y
    unfold AA3
    by_cases h1:x=i/\y=k
    ·rw [if_pos h1,h1.1,h1.2,s1,t1]; unfold dl; rw [if_pos e]
    ·rw [if_neg h1]
     by_cases h2:x=k/\y=i
     ·rw [h2.1,h2.2,s2,t2]; unfold dl; rw [if_neg (by omega)]; omega
     ·exact (other x y h1 h2).symm
   ·rw [e,if_neg (by simp),if_neg (by simp),OS]
    congr 2
    funext x y
    by_cases h1:x=i/\y=k
    ·rw [h1.1,h1.2,s1,t1]; unfold dl; rw [if_neg (by omega)]; omega
    ·by_cases h2:x=k/\y=i
     ·rw [h2.1,h2.2,s2,t2]; unfold dl; rw [if_neg (by omega)]; omega
     ·exact (other x y h1 h2).symm
   ·rw [e,if_neg (by simp),if_pos (by rfl),WH (show k < g.length by omega),OS,WP hi,OS,OS,s2,Xr (by omega) (by omega),Int.toNat_natCast,Int.toNat_natCast,<-s2,VM,OS]
    congr 2
    funext x y
    unfold AA3
    by_cases h1:x=k/\y=i
    ·rw [if_pos h1,h1.1,h1.2,s2,t2]; unfold dl; rw [if_pos (by omega)]
    ·rw [if_neg h1]
     by_cases h2:x=i/\y=k
     ·rw [h2.1,h2.2,s1,t1]; unfold dl; rw [if_neg (by omega)]; omega
     ·exact (other x y h2 h1).symm
  rw [if_pos (by simp; omega),VT g hi,OS,VT g (by omega),OS,hq,OS,key,OS]
 ·show Dp (Fd g 0) (c,true) (i:Int) (f + 1) (i:Int) (Kn g.length (Km M c g i i))=_
  conv=>lhs; unfold Dp
  rw [if_neg (by simp)]
def Od (M:Nat->Nat->Int) (c:List AG) (g:List Ai) (m:Nat):Nat->Nat->Int:=fun x y=>M x y + if x < m/\y < m then dl c g x y else 0
theorem Yy (M:Nat->Nat->Int) (B:Int) (hB:B<=10000) (hM:∀ x y,0<=M x y/\M x y<=B):Do (Fd g 0) (c,true) 100000 0 (Kn g.length M)=some (Kn g.length (Od M c g g.length)):=by
 have hgd:=(PS hv).2
 have hn:=hg.n
 have h0:Od M c g 0=M:=by funext x y; simp [Od]
 have hd:∀ x y,0<=dl c g x y/\dl c g x y<=1:=fun x y=>by unfold dl; split <;> omega
 have h1:Do (Fd g 0) (c,true) 100000 0 (Kn g.length (Od M c g 0))=some (Kn g.length (Od M c g g.length)):=by
  refine P6 (σ:=List (List Int)) g.length (fun k=>Kn g.length (Od M c g k)) (some (Kn g.length (Od M c g g.length))) (fun f c' s=>Do (Fd g 0) (c,true) f c' s) (by omega) (fun i hi f=>?_) (fun f=>?_)
  ·show Do (Fd g 0) (c,true) (f + 1) (i:Int) (Kn g.length (Od M c g i))=_
   conv=>lhs; unfold Do
   have e:Km (Od M c g i) c g i i=Od M c g (i + 1):=by
    funext x y
    unfold Km Od
    by_cases h1:x < i/\y < i
    ·rw [if_pos h1,if_neg (by omega),if_pos (by omega)]; omega
    ·rw [if_neg h1]
     by_cases h2:(x=i/\y < i)\/(y=i/\x < i)
     ·rw [if_pos h2,if_pos (by omega)]; omega
     ·rw [if_neg h2]
      by_cases h3:x < i + 1/\y < i + 1
      ·rw [if_pos h3]
       have:x=i/\y=i:=by omega
       rw [this.1,this.2]
       have:=AEs (g:=g) hgd (show i < 64 by omega)
       unfold dl; rw [if_neg (by omega)]; omega
      ·rw [if_neg h3]; omega
   rw [if_pos (by rw [OU]; simp; omega),AAF hc hv hg (Od M c g i) (B + 1) (by omega) (fun x y=>by
    have:=hM x y; have:=hd x y
    unfold Od; split <;> omega) i hi,OS,e]
  ·show Do (Fd g 0) (c,true) (f + 1) (g.length:Int) (Kn g.length (Od M c g g.length))=_
   conv=>lhs; unfold Do
   rw [if_neg (by rw [OU]; simp)]
 rwa [h0] at h1
end
/-- How many texts put x before y. -/
def vt (l:List (List AG)) (g:List Ai) (x y:Nat):Int:=((l.countP fun c=>cm c g x y == -1:Nat):Int)
theorem Y3 (l:List (List AG)) (c:List AG) (g:List Ai) (x y:Nat):vt (l++[c]) g x y=vt l g x y + dl c g x y:=by
 unfold vt dl
 rw [List.countP_append]
 by_cases h:cm c g x y = -1 <;> simp [h]
theorem AAO (l:List (List AG)) (g:List Ai) (x y:Nat):0<=vt l g x y/\vt l g x y<=l.length:=by
 unfold vt
 have:=List.countP_le_length (p:=fun c=>cm c g x y == -1) (l:=l)
 omega
theorem Xd {n:Nat}{M K:Nat->Nat->Int}(h:∀ x y,x < n->y < n->M x y=K x y):Kn n M=Kn n K:=by
 unfold Kn
 refine List.map_congr_left fun x hx=>?_
 unfold Qe
 exact List.map_congr_left fun y hy=>h x y (List.mem_range.1 hx) (List.mem_range.1 hy)
def okT (l:List (List AG)):Bool:=l.all fun c=>decide ((Tk c).2=0)
section
variable {l:List (List AG)}{g:List Ai}(hl:∀ c ∈ l,few c) (hg:FewR g)
include hl hg
theorem XE (h16:l.length<=16):∀ (r pre:List (List AG)) (f:Nat),l=pre++r->r.length < f->okT pre=true->GN l (Fd g 0) f (pre.length:Int) (Kn g.length (vt pre g))=some (if okT l=true then .inl (Kn g.length (vt l g)) else .inr ())
 | [],pre,f + 1,e,_,hv=>by
  have e':l=pre:=by rw [e]; simp
  unfold GN
  rw [if_neg (by rw [e']; simp),e',if_pos hv]
 | c::r,pre,f + 1,e,hf,hv=>by
  have hcf:few c:=hl c (by rw [e]; simp)
  have hll:l.length=pre.length + r.length + 1:=by rw [e]; simp; omega
  unfold GN
  rw [if_pos (by rw [e]; exact G7 pre c r),show idx l (pre.length:Int)=some c by rw [e,D5],OS,Zw c hcf,OS]
  by_cases h0:(Tk c).2=0
  ·rw [if_pos h0]
   have hM:=Yy hcf h0 hg (vt pre g) pre.length (by omega) (fun x y=>AAO pre g x y)
   have e2:Kn g.length (Od (vt pre g) c g g.length)=Kn g.length (vt (pre++[c]) g):=Xd fun x y hx hy=>by
    rw [Y3]; unfold Od; rw [if_pos ⟨hx,hy⟩]
   rw [if_neg (by simp),hM,OS,e2,show wr .i64 ((pre.length:Int) + 1)=((pre++[c]).length:Int) from Fv pre c r (by rw [<-e]; omega)]
   exact XE h16 r (pre++[c]) f (by rw [e]; simp) (by simp at hf; omega) (by unfold okT at hv ⊢; rw [List.all_append,hv]; simp [h0])
  ·rw [if_neg h0,if_pos (by rfl),if_neg]
   unfold okT
   rw [e,List.all_append]
   simp [h0]
/-- The table of the program. -/
theorem ACJ:H1 l g=some (if l.length<=16/\okT l=true then (Kn g.length (vt l g),true) else ([],false)):=by
 have hn:=hg.n
 unfold H1
 by_cases h16:l.length<=16
 ·have j:(if (decide ((l.length:Int) > 16))=true then some true else some (decide ((g.length:Int) > 64)))=some false:=by
   rw [if_neg (by simp; omega)]; simp; omega
  rw [j,OS,if_neg (by simp),if_pos (by simp [Ur]; omega)]
  have z:D7 g 100000 0 (List.replicate (g.length:Int).toNat ([]:List Int))=some (Kn g.length (vt [] g)):=by
   have:=P6 (σ:=List (List Int)) g.length (fun i=>(List.range g.length).map fun x=>if x < i then Qe g.length (vt [] g x) else []) (some (Kn g.length (vt [] g))) (fun f c' s=>D7 g f c' s) (by omega) (fun i hi f=>by
    show D7 g (f + 1) (i:Int) ((List.range g.length).map fun x=>if x < i then Qe g.length (vt [] g x) else [])=_
    conv=>lhs; unfold D7
    rw [if_pos (by simp; omega),if_pos (by simp [Ur]; omega),Ke (by simpa using hi),OS,Int.toNat_natCast,Int.toNat_natCast]
    rw [WG g.length _ (fun x=>if x < i + 1 then Qe g.length (vt [] g x) else []) i _ (by
     rw [if_pos (by omega)]
     unfold Qe
     apply List.ext_getElem <;> simp [vt]) (fun y hy=>by
     by_cases h1:y < i
     ·rw [if_pos (by omega),if_pos h1]
     ·rw [if_neg (by omega),if_neg h1])]) (fun f=>by
    show D7 g (f + 1) (g.length:Int) ((List.range g.length).map fun x=>if x < g.length then Qe g.length (vt [] g x) else [])=_
    conv=>lhs; unfold D7
    rw [if_neg (by simp)]
    congr 1
    unfold Kn
    exact List.map_congr_left fun x hx=>by rw [if_pos (List.mem_range.1 hx)])
   rw [<-this]
   congr 1
   apply List.ext_getElem <;> simp
  have t:=XE hl hg h16 l [] 100000 rfl (by omega) rfl
  rw [z,OS,ADS g (by omega),OS]
  rw [show ((([]:List (List AG)).length:Nat):Int)=0 from rfl] at t
  rw [t,OS]
  by_cases hv:okT l=true
  ·rw [if_pos hv,if_pos ⟨h16,hv⟩]
  ·rw [if_neg hv,if_neg (fun h=>hv h.2)]
 ·have j:(if (decide ((l.length:Int) > 16))=true then some true else some (decide ((g.length:Int) > 64)))=some true:=by
   rw [if_pos (by simp; omega)]
  rw [j,OS,if_pos rfl,if_neg (fun h=>h16 h.1)]
end
/-- The numbers below n. -/
def Oh (n:Nat):List Int:=(List.range n).map fun (i:Nat)=>(i:Int)
theorem JV (n:Nat):(Oh n).length=n:=by simp [Oh]
theorem Zp {n:Nat}{v:Int}:v ∈ Oh n↔0<=v/\v < n:=by
 unfold Oh
 rw [List.mem_map]
 constructor
 ·rintro ⟨i,hi,rfl⟩
  have:=List.mem_range.1 hi
  omega
 ·rintro ⟨h1,h2⟩
  exact ⟨v.toNat,List.mem_range.2 (by omega),by omega⟩
/-- Sums. -/
def I3 {α:Type}(f:α->Int):List α->Int
 | []=>0
 | x::r=>f x + I3 f r
theorem Rm {α:Type}(f:α->Int):∀ a b:List α,I3 f (a++b)=I3 f a + I3 f b
 | [],b=>by simp [I3]
 | x::a,b=>by simp only [List.cons_append,I3,Rm f a b]; omega
theorem Qi {α:Type}{f:α->Int}{B:Int}:∀ {l:List α},(∀ x ∈ l,0<=f x/\f x<=B)->0<=I3 f l/\I3 f l<=l.length * B
 | [],_=>by simp [I3]
 | x::l,h=>by
  have h1:=h x (by simp)
  have h2:=Qi (l:=l) fun y hy=>h y (List.mem_cons_of_mem _ hy)
  simp only [I3,List.length_cons]
  have:((l.length + 1:Nat):Int) * B=l.length * B + B:=by rw [Int.natCast_add,Int.add_mul]; simp
  rw [this]
  omega
/-- The sum over the pairs of an order: W of the later and the earlier one. -/
def prS (W:Int->Int->Int):List Int->Int
 | []=>0
 | x::r=>I3 (fun y=>W y x) r + prS W r
theorem W9 (W:Int->Int->Int) (y:Int):∀ r:List Int,prS W (r++[y])=prS W r + I3 (fun x=>W y x) r
 | []=>by simp [prS,I3]
 | x::r=>by
  simp only [List.cons_append,prS,W9 W y r,Rm,I3]
  omega
theorem W8 {W:Int->Int->Int}{B:Int}(hB:0<=B):∀ {l:List Int},(∀ x ∈ l,∀ y ∈ l,0<=W x y/\W x y<=B)->0<=prS W l/\prS W l<=l.length * (l.length * B)
 | [],_=>by simp [prS]
 | x::l,h=>by
  have h1:=Qi (f:=fun y=>W y x) (l:=l) (B:=B) fun y hy=>h y (List.mem_cons_of_mem _ hy) x (by simp)
  have h2:=W8 hB (l:=l) fun a ha b hb=>h a (List.mem_cons_of_mem _ ha) b (List.mem_cons_of_mem _ hb)
  simp only [prS,List.length_cons]
  have e:((l.length + 1:Nat):Int) * (((l.length + 1:Nat):Int) * B)=l.length * (l.length * B) + l.length * B + (l.length * B + B):=by
   rw [Int.natCast_add]
   simp only [Int.add_mul,Int.mul_add,Int.one_mul,Int.natCast_one]
  rw [e]
  have:0<=(l.length:Int) * B:=Int.mul_nonneg (by omega) hB
  omega
end Go.Proofs.YtlalcoehgkmhlaaGreatDoor
