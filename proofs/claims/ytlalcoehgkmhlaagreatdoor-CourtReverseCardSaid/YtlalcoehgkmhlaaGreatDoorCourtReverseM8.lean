/- Lemmas for the proof. -/
import Derived.Test.YtlalcoehgkmhlaaGreatDoorCourtReverseM1
import Derived.Test.YtlalcoehgkmhlaaGreatDoorCourtReverseM2
import Derived.Test.YtlalcoehgkmhlaaGreatDoorCourtReverseM3
import Derived.Test.YtlalcoehgkmhlaaGreatDoorCourtReverseM4
import Derived.Test.YtlalcoehgkmhlaaGreatDoorCourtReverseM5
import Derived.Test.YtlalcoehgkmhlaaGreatDoorCourtReverseM6
import Derived.Test.YtlalcoehgkmhlaaGreatDoorCourtReverseM7
namespace Go.Proofs.YtlalcoehgkmhlaaGreatDoor
open Go.RowKit
/- trestle/trestlekit.SameGuests -/
/- trestle/trestlelaw03.FewAll$1 -/
/- slices.IndexFunc[[][]trestle/api.Clause,[]trestle/api.Clause] -/
/- slices.ContainsFunc[[][]trestle/api.Clause,[]trestle/api.Clause] -/
/- trestle/trestlelaw03.FewAll -/
/- trestle/trestlelaw03.CopyAll -/
/- slices.EqualFunc[[][]trestle/api.Clause,[][]trestle/api.Clause,[]trestle/api.Clause,[]trestle/api.Clause] -/
/- trestle/trestlelaw03.SameAll -/
/- trestle/trestleref03.Agree -/
/- trestle/trestleref03.Conflicts -/
/- slices.Index[[]int,int] -/
/- slices.Contains[[]int,int] -/
/- trestle/trestlelaw03.permutation -/
/- slices.Equal[[][2]int,[2]int] -/
/- slices.Equal[[]int,int] -/
/- trestle/trestlelaw03.pairs -/
/- trestle/trestlelaw03.CourtPairs -/
/-- The pairs of numbers below n that meet a test. -/
def SB (p:Nat->Nat->Bool) (x k:Nat):List (Int×Int):=((List.range k).filter (p x)).map fun (y:Nat)=>((x:Int),(y:Int))
def IM (p:Nat->Nat->Bool) (n k:Nat):List (Int×Int):=(List.range k).flatMap fun x=>SB p x n
theorem Tt (p:Nat->Nat->Bool) (x k:Nat):SB p x (k + 1)=SB p x k++if p x k=true then [((x:Int),(k:Int))] else []:=by
 unfold SB
 rw [List.range_succ,List.filter_append,List.map_append]
 congr 1
 by_cases h:p x k=true <;> simp [h]
theorem Ts (p:Nat->Nat->Bool) (x k:Nat):(SB p x k).length<=k:=by
 unfold SB
 have:=List.length_filter_le (p x) (List.range k)
 simpa using this
theorem Wn (p:Nat->Nat->Bool) (x k:Nat) (h:∀ y,y < k->p x y=false):SB p x k=[]:=by
 unfold SB
 rw [List.filter_eq_nil_iff.2 (fun y hy=>by simp [h y (List.mem_range.1 hy)])]; rfl
theorem Km (p:Nat->Nat->Bool) (n k:Nat):IM p n (k + 1)=IM p n k++SB p k n:=by
 unfold IM
 rw [List.range_succ,List.flatMap_append]; simp
theorem R6 (p:Nat->Nat->Bool) (n:Nat):∀ k,(IM p n k).length<=k * n
 | 0=>by simp [IM]
 | k + 1=>by
  rw [Km,List.length_append,Nat.add_mul]
  have:=R6 p n k
  have:=Ts p k n
  omega
theorem ZY {σ ρ:Type}(n lo:Nat) (S:Nat->σ) (R:Option ρ) (L:Nat->Int->σ->Option ρ) (hn:n<=1000000) (hs:∀ i,lo<=i->i < n->∀ f,L (f + 1) (i:Int) (S i)=L f (wr .i64 ((i:Int) + 1)) (S (i + 1))) (he:∀ f,L (f + 1) (n:Int) (S n)=R):∀ (d i f:Nat),lo<=i->i + d=n->d < f->L f (i:Int) (S i)=R
 | 0,i,f + 1,_,e,_=>by
  rw [show i=n by omega]
  exact he f
 | d + 1,i,f + 1,hi,e,hf=>by
  rw [hs i hi (by omega) f,P1 (by omega) (by omega),show ((i:Int) + 1)=((i + 1:Nat):Int) by omega]
  exact ZY n lo S R L hn hs he d (i + 1) f (by omega) (by omega) (by omega)
/-- Two loops that gather pairs. -/
theorem X8 (n:Nat) (hn:n<=64) (p:Nat->Nat->Bool) (st:Nat->Nat) (hst:∀ x,x < n->st x<=n/\∀ y,y < st x->p x y=false) (L1:Nat->Int->List (Int×Int)->Option (List (Int×Int))) (L2:Nat->Nat->Int->List (Int×Int)->Option (List (Int×Int)))
  (h1:∀ x,x < n->∀ f s,L1 (f + 1) (x:Int) s=(L2 x 100000 ((st x:Nat):Int) s).bind fun r=>L1 f (wr .i64 ((x:Int) + 1)) r) (h1e:∀ f s,L1 (f + 1) (n:Int) s=some s)
  (h2:∀ x y,x < n->y < n->st x<=y->∀ f s,s.length<=100000->L2 x (f + 1) (y:Int) s=L2 x f (wr .i64 ((y:Int) + 1)) (s++if p x y=true then [((x:Int),(y:Int))] else [])) (h2e:∀ x,x < n->∀ f s,L2 x (f + 1) (n:Int) s=some s):L1 100000 0 []=some (IM p n n):=by
 have hsq:n * n<=4096:=Nat.mul_le_mul hn hn
 refine Oa (σ:=List (Int×Int)) n (fun k=>IM p n k) (some (IM p n n)) L1 (by omega) (fun x hx f=>?_) (fun f=>h1e f _)
 have hl:=R6 p n x
 have hxn:x * n<=n * n:=Nat.mul_le_mul_right n (by omega)
 have hin:L2 x 100000 ((st x:Nat):Int) (IM p n x++SB p x (st x))=some (IM p n x++SB p x n) :=
  ZY (σ:=List (Int×Int)) n (st x) (fun k=>IM p n x++SB p x k) (some (IM p n x++SB p x n)) (L2 x) (by omega) (fun k hlo hk f=>by
   have:=Ts p x k
   rw [h2 x k hx hk hlo f _ (by simp; omega),Tt,List.append_assoc]) (fun f=>h2e x hx f _) (n - st x) (st x) 100000 (by omega) (by have:=(hst x hx).1; omega) (by omega)
 rw [Wn p x (st x) (hst x hx).2,List.append_nil] at hin
 rw [h1 x hx f,hin,OS,Km]
section
variable {l:List (List AD)}{g:List Ah}(hl:∀ c ∈ l,few c) (hg:FewR g) (h16:l.length<=16) (hv:okT l=true)
include hl hg h16 hv
def agP (l:List (List AD)) (g:List Ah) (x y:Nat):Bool:=vt l g x y==(l.length:Int)
def cfP (l:List (List AD)) (g:List Ah) (x y:Nat):Bool:=decide (x < y)&&(decide (vt l g x y > 0)&&decide (vt l g y x > 0))
theorem Vi:Eg l g=some (if l=[] then [] else IM (agP l g) g.length g.length):=by
 have hn:=hg.n
 have e:Bc (g.length:Int) (Ho g.length (vt l g),l)=some (IM (agP l g) g.length g.length):=by
  unfold Bc
  rw [X8 g.length hn (agP l g) (fun _=>0) (fun x hx=>⟨by omega,fun y hy=>by omega⟩) (fun f c s=>A0 (g.length:Int) (Ho g.length (vt l g),l) f c s) (fun x f c s=>A1 (g.length:Int) (Ho g.length (vt l g),l) (x:Int) f c s) (fun x hx f s=>by
   show A0 _ _ (f + 1) (x:Int) s=_
   conv=>lhs; unfold A0
   rw [if_pos (by simp; omega)]; rfl) (fun f s=>by
   show A0 _ _ (f + 1) (g.length:Int) s=_
   conv=>lhs; unfold A0
   rw [if_neg (by simp)]) (fun x y hx hy _ f s hs=>by
   show A1 _ _ (x:Int) (f + 1) (y:Int) s=_
   conv=>lhs; unfold A1
   have q:Eh (x:Int) (y:Int) (Ho g.length (vt l g)) l=some (agP l g x y):=by
    unfold Eh
    rw [MQ hx,OS,MU hy]; rfl
   rw [if_pos (by simp; omega),q,OS]
   unfold Ci
   by_cases h:agP l g x y=true
   ·rw [if_pos h,if_pos h,if_pos (IQ (by omega) (by simp; omega)),OS]
   ·rw [if_neg h,if_neg h,OS,List.append_nil]) (fun x hx f s=>by
   show A1 _ _ (x:Int) (f + 1) (g.length:Int) s=_
   conv=>lhs; unfold A1
   rw [if_neg (by simp)])]
  rfl
 unfold Eg
 rw [RR hl hg,if_pos ⟨h16,hv⟩,OS,if_neg (by simp),OS]
 by_cases h0:l=[]
 ·rw [if_pos h0,if_pos (by rw [h0]; rfl)]
 ·rw [if_neg h0,if_neg (by simp; exact h0),e]; rfl
theorem Vy:Cu l g=some (IM (cfP l g) g.length g.length):=by
 have hn:=hg.n
 have e:BH (g.length:Int) (Ho g.length (vt l g))=some (IM (cfP l g) g.length g.length):=by
  unfold BH
  rw [X8 g.length hn (cfP l g) (fun _=>0) (fun x hx=>⟨by omega,fun y hy=>by omega⟩) (fun f c s=>Am (g.length:Int) (Ho g.length (vt l g)) f c s) (fun x f c s=>An (g.length:Int) (Ho g.length (vt l g)) (x:Int) f c s) (fun x hx f s=>by
   show Am _ _ (f + 1) (x:Int) s=_
   conv=>lhs; unfold Am
   rw [if_pos (by simp; omega)]; rfl) (fun f s=>by
   show Am _ _ (f + 1) (g.length:Int) s=_
   conv=>lhs; unfold Am
   rw [if_neg (by simp)]) (fun x y hx hy _ f s hs=>by
   show An _ _ (x:Int) (f + 1) (y:Int) s=_
   conv=>lhs; unfold An
   have q:DA (x:Int) (y:Int) (Ho g.length (vt l g))=some (cfP l g x y):=by
    unfold DA cfP
    by_cases h0:x < y
    ·rw [if_pos (by simp; omega),MQ hx,OS,MU hy,OS]
     by_cases h1:vt l g x y > 0
     ·rw [if_pos (by simpa using h1),MQ hy,OS,MU hx,OS]
      simp [h0,h1]
     ·rw [if_neg (by simpa using h1)]
      simp [h1]
    ·rw [if_neg (by simp; omega)]
     simp [h0]
   rw [if_pos (by simp; omega),q,OS]
   unfold CJ
   by_cases h:cfP l g x y=true
   ·rw [if_pos h,if_pos h,if_pos (IQ (by omega) (by simp; omega)),OS]
   ·rw [if_neg h,if_neg h,OS,List.append_nil]) (fun x hx f s=>by
   show An _ _ (x:Int) (f + 1) (g.length:Int) s=_
   conv=>lhs; unfold An
   rw [if_neg (by simp)])]
  rfl
 unfold Cu
 rw [RR hl hg,if_pos ⟨h16,hv⟩,OS,if_neg (by simp),e]; rfl
end
/-- The disagreements of an order. -/
def WI (l:List (List AD)) (g:List Ah) (a b:Int):Int:=vt l g a.toNat b.toNat
theorem Sv {l:List (List AD)}(g:List Ah) (h16:l.length<=16) (a b:Int):0<=WI l g a b/\WI l g a b<=16:=by
 have:=YP l g a.toNat b.toNat
 unfold WI; omega
theorem X1 {l:List (List AD)}{g:List Ah}{a b:Int}(ha:0<=a/\a < g.length) (hb:0<=b/\b < g.length):∃ r,idx (Ho g.length (vt l g)) a=some r/\idx r b=some (WI l g a b):=by
 have e1:((a.toNat:Nat):Int)=a:=by omega
 have e2:((b.toNat:Nat):Int)=b:=by omega
 refine ⟨Qa g.length (vt l g a.toNat),?_,?_⟩
 ·have:=MQ (n:=g.length) (M:=vt l g) (x:=a.toNat) (by omega)
  rwa [e1] at this
 ·have:=MU (n:=g.length) (f:=vt l g a.toNat) (x:=b.toNat) (by omega)
  rwa [e2] at this
theorem Tw {n:Nat}{pre:List Int}{v:Int}(hv:0<=v/\v < n):idx ((List.range n).map fun (k:Nat)=>decide ((k:Int) ∈ pre)) v=some (decide (v ∈ pre)):=by
 have e:((v.toNat:Nat):Int)=v:=by omega
 have:idx ((List.range n).map fun (k:Nat)=>decide ((k:Int) ∈ pre)) ((v.toNat:Nat):Int)=some (decide (((v.toNat:Nat):Int) ∈ pre)):=by
  rw [I8 (by simp; omega)]; simp
 rwa [e] at this
theorem Tj (n:Nat) (o:List Int) (ho:o.length<=1000):∀ (r pre:List Int) (f:Nat),o=pre++r->r.length < f->CY o (n:Int) f ((List.range n).map fun (k:Nat)=>decide ((k:Int) ∈ pre)) (pre.length:Int)=some (if pmB n pre r=true then .inl () else .inr false)
 | [],pre,f + 1,e,_=>by
  unfold CY
  rw [if_neg (by rw [e]; simp)]; rfl
 | v::r,pre,f + 1,e,hf=>by
  simp only [List.length_cons] at hf
  have hl:o.length=pre.length + r.length + 1:=by rw [e]; simp; omega
  unfold CY
  rw [if_pos (by rw [e]; exact II pre v r),show idx o (pre.length:Int)=some v by rw [e,Fp],OS]
  by_cases h0:v < 0
  ·rw [if_pos (by simpa using h0),OS,if_pos rfl,if_neg]
   unfold pmB; simp [h0]
  ·rw [if_neg (by simpa using h0)]
   by_cases h1:v≥(n:Int)
   ·rw [if_pos (by simpa using h1),OS,if_pos rfl,if_neg]
    unfold pmB; simp [h1]
   ·rw [if_neg (by simpa using h1),Tw ⟨by omega,by omega⟩,OS,OS]
    by_cases h2:v ∈ pre
    ·rw [if_pos (by simpa using h2),if_neg]
     unfold pmB; simp [h2]
    ·rw [if_neg (by simpa using h2),Tw ⟨by omega,by omega⟩,OS]
     have e2:((List.range n).map fun (k:Nat)=>decide ((k:Int) ∈ pre)).set v.toNat true=(List.range n).map fun (k:Nat)=>decide ((k:Int) ∈ pre++[v]) :=
      KT n _ _ v.toNat true (by simp; omega) (fun y hy=>by
       have:¬ ((y:Int)=v):=by omega
       simp [this])
     have e3:pmB n pre (v::r)=pmB n (pre++[v]) r:=by
      conv=>lhs; unfold pmB
      simp [h0,h1,h2]
     rw [e2,Fq pre v r (by rw [<-e]; omega),e3]
     exact Tj n o ho r (pre++[v]) f (by rw [e]; simp) (by omega)
theorem X9 (n:Nat) (o:List Int) (hn:n<=64) (ho:o.length<=1000):DB o (n:Int)=some (VT n o):=by
 have h:=Tj n o ho o [] 100000 rfl (by omega)
 have e:(List.replicate (n:Int).toNat false)=(List.range n).map fun (k:Nat)=>decide ((k:Int) ∈ ([]:List Int)):=by
  apply List.ext_getElem <;> simp
 unfold DB
 rw [if_pos (by simp [P0]; omega),e]
 rw [show ((([]:List Int).length:Nat):Int)=0 from rfl] at h
 rw [h,OS]
 unfold VT
 cases pmB n [] o with
 | false=>rfl
 | true =>
  show some ((o.length:Int)==(n:Int))=_
  by_cases hq:o.length=n
  ·simp [hq]
  ·have:¬ ((o.length:Int)=(n:Int)):=by omega
   simp [hq,this]
section
variable {l:List (List AD)}{g:List Ah}{o:List Int}(hg:FewR g) (h16:l.length<=16) (ho:o.length<=64) (hm:∀ v ∈ o,0<=v/\v < (g.length:Int))
include hg h16 ho hm
theorem Xf (c7:Int) (x:Int) (hx:0<=x/\x < (g.length:Int)) (ys:List Int) (hys:((o.take (o.length:Int).toNat).drop (wr .i64 (c7 + 1)).toNat)=ys) (hyo:∀ v ∈ ys,v ∈ o) (a:Int) (ha:0<=a/\a<=1000000) (hyl:ys.length<=64):Az o (Ho g.length (vt l g),true) c7 x 100000 a 0=some (a + FI (fun y=>WI l g y x) ys):=by
 have _:=hg; have _:=ho
 have bnd:∀ k,0<=FI (fun y=>WI l g y x) (ys.take k)/\FI (fun y=>WI l g y x) (ys.take k)<=1024:=fun k=>by
  have:=Nz (f:=fun y=>WI l g y x) (B:=16) (l:=ys.take k) (fun y _=>Sv g h16 y x)
  have hk:(ys.take k).length<=64:=by simp; omega
  omega
 have h0:a + FI (fun y=>WI l g y x) (ys.take 0)=a:=by simp [FI]
 have h1:Az o (Ho g.length (vt l g),true) c7 x 100000 (a + FI (fun y=>WI l g y x) (ys.take 0)) 0=some (a + FI (fun y=>WI l g y x) ys):=by
  refine Oa (σ:=Int) ys.length (fun k=>a + FI (fun y=>WI l g y x) (ys.take k)) _ (fun f c s=>Az o (Ho g.length (vt l g),true) c7 x f s c) (by omega) (fun k hk f=>?_) (fun f=>?_)
  ·show Az _ _ c7 x (f + 1) (a + FI (fun y=>WI l g y x) (ys.take k)) (k:Int)=_
   conv=>lhs; unfold Az
   have hb:=bnd k
   have hw:=Sv g h16 ys[k] x
   obtain ⟨r,r1,r2⟩:=X1 (l:=l) (hm ys[k] (hyo _ (List.getElem_mem hk))) hx
   rw [hys,if_pos (by simp; omega),I8 hk,OS,r1,OS,r2,OS,P1 (by omega) (by omega)]
   have e:FI (fun y=>WI l g y x) (ys.take (k + 1))=FI (fun y=>WI l g y x) (ys.take k) + WI l g ys[k] x:=by
    rw [List.take_succ_eq_append_getElem hk,NH]; simp [FI]
   show Az _ _ c7 x f _ _=Az _ _ c7 x f _ _
   rw [e,Int.add_assoc]
  ·show Az _ _ c7 x (f + 1) (a + FI (fun y=>WI l g y x) (ys.take ys.length)) (ys.length:Int)=_
   conv=>lhs; unfold Az
   rw [hys,if_neg (by simp),List.take_length]
 rwa [h0] at h1
theorem RM:0<=prS (WI l g) o/\prS (WI l g) o<=100000:=by
 have _:=hg; have _:=hm
 have:=R9 (W:=WI l g) (B:=16) (by omega) (l:=o) (fun x _ y _=>Sv g h16 x y)
 have h1:(o.length:Int) * ((o.length:Int) * 16)<=64 * (64 * 16):=by
  have:o.length * (o.length * 16)<=64 * (64 * 16):=Nat.mul_le_mul ho (Nat.mul_le_mul ho (Nat.le_refl _))
  exact_mod_cast this
 omega
theorem V1 (r:List Int):∀ (pre:List Int) (f:Nat) (a:Int),o=pre++r->r.length < f->0<=a->a + prS (WI l g) r<=100000->CG o (Ho g.length (vt l g),true) f a (pre.length:Int)=some (a + prS (WI l g) r):=by
 induction r with
 | nil =>
  intro pre f a e hf _ _
  obtain ⟨f,rfl⟩:∃ q,f=q + 1:=⟨f - 1,by simp at hf; omega⟩
  unfold CG
  rw [if_neg (by rw [e]; simp)]
  simp [prS]
 | cons x r ih =>
  intro pre f a e hf ha hb
  obtain ⟨f,rfl⟩:∃ q,f=q + 1:=⟨f - 1,by simp at hf; omega⟩
  simp only [List.length_cons] at hf
  have hl:o.length=pre.length + r.length + 1:=by rw [e]; simp; omega
  have hx:=hm x (by rw [e]; simp)
  have hsub:∀ v ∈ r,v ∈ o:=fun v hv=>by rw [e]; simp [hv]
  have hps:0<=prS (WI l g) r:=(R9 (W:=WI l g) (B:=16) (by omega) (l:=r) (fun x _ y _=>Sv g h16 x y)).1
  have hs:=Nz (f:=fun y=>WI l g y x) (B:=16) (l:=r) (fun y _=>Sv g h16 y x)
  simp only [prS] at hb ⊢
  unfold CG
  have k1:0<=a/\a<=1000000:=by omega
  have k2:r.length<=64:=by omega
  have k3:0<=a + FI (fun y=>WI l g y x) r:=by omega
  have k4:a + FI (fun y=>WI l g y x) r + prS (WI l g) r<=100000:=by omega
  have k5:r.length < f:=by omega
  have k6:DG ((pre.length + 1:Nat):Int) (o.length:Int) o.length=true:=by simp [DG]; omega
  have k7:(pre++x::r).length<=1000000000:=by rw [<-e]; omega
  have hw:wr .i64 ((pre.length:Int) + 1)=((pre.length + 1:Nat):Int):=by rw [P1 (by omega) (by omega)]; omega
  have hys:((o.take (o.length:Int).toNat).drop (wr .i64 ((pre.length:Int) + 1)).toNat)=r:=by
   rw [hw,Int.toNat_natCast,Int.toNat_natCast,List.take_length,e]
   rw [show pre++x::r=(pre++[x])++r by simp,show pre.length + 1=(pre++[x]).length by simp,List.drop_left]
  rw [if_pos (by rw [e]; exact II pre x r),show idx o (pre.length:Int)=some x by rw [e,Fp],OS,if_pos (by rw [hw]; exact k6),Xf hg h16 ho hm (pre.length:Int) x hx r hys hsub a k1 k2,OS,Fq pre x r k7,ih (pre++[x]) f _ (by rw [e]; simp) k5 k3 k4,Int.add_assoc]
end
theorem Xe {l:List (List AD)}{g:List Ah}(hl:∀ c ∈ l,few c) (hg:FewR g) (h16:l.length<=16) (hv:okT l=true) (o:List Int) (ho:o.length<=64):Bu l g o=some (if VT g.length o=true then prS (WI l g) o else 0):=by
 unfold Bu
 rw [RR hl hg,if_pos ⟨h16,hv⟩,OS,if_neg (by simp),X9 g.length o hg.n (by omega),OS,OS]
 by_cases hp:VT g.length o=true
 ·have hm:=PS hp
  have hb:=RM hg h16 ho hm
  have:=V1 hg h16 ho hm o [] 100000 0 rfl (by omega) (by omega) (by omega)
  rw [show ((([]:List Int).length:Nat):Int)=0 from rfl] at this
  rw [if_neg (by simp [hp]),if_pos hp,this]
  simp
 ·rw [if_pos (by simpa using hp),if_neg hp]
/- trestle/trestlelaw03.Guests -/
noncomputable def S4:Code:=Bh Tryz.f20
def KQ (x0:(List (Int×Int))) (x1:Int):Nat->(List Ah)->Int->Option (((List Ah)))
 | 0,_,_=>none
 | f + 1,c2,c3 =>
  if (decide (c3 < (((x0.take (mnI (x0.length:Int) x1).toNat).drop (0:Int).toNat).length:Int)))=true then
  (idx ((x0.take (mnI (x0.length:Int) x1).toNat).drop (0:Int).toNat) c3).bind fun v5 =>
  if (okB ([103]++(by8 [(wr .u8 (wr .i64 (97 + (wr .i64 (c3.tdiv 26))))),(wr .u8 (wr .i64 (97 + (c3.tmod 26))))])))=true then
  (FG (v5.1,v5.2) ([103]++(by8 [(wr .u8 (wr .i64 (97 + (wr .i64 (c3.tdiv 26))))),(wr .u8 (wr .i64 (97 + (c3.tmod 26))))]))).bind fun v7 =>
  if (FP 112 (c2.length + 1))=true then
  KQ x0 x1 f (c2++[v7]) (wr .i64 (c3 + 1))
  else none
  else none
  else
  some c2
def VV (x0:(List (Int×Int))) (x1:Int):Option ((List Ah)) :=
 if (DG 0 (mnI (x0.length:Int) x1) x0.length)=true then
 (KQ x0 x1 100000 [] 0).bind fun r10 =>
 some r10
 else none
theorem Vk:((List.range 256).all fun n=>decide (0<=Du .u8 ((n:Int).fdiv 8) 3)&&decide (Du .u8 ((n:Int).fdiv 8) 3 < 4)&&(decide (0<=Du .u8 ((n:Int).fdiv 16) 3)&&decide (Du .u8 ((n:Int).fdiv 16) 3 < 4)))=true:=by kernel_rfl
theorem YY {a:Int}(h:u8 a):(0<=Du .u8 (a.fdiv 8) 3/\Du .u8 (a.fdiv 8) 3 < 4)/\0<=Du .u8 (a.fdiv 16) 3/\Du .u8 (a.fdiv 16) 3 < 4:=by
 obtain ⟨n,rfl⟩:=Int.eq_ofNat_of_zero_le h.1
 have hn:n < 256:=by have:=h.2; omega
 have:=List.all_eq_true.1 Vk n (by simpa using hn)
 simp only [Bool.and_eq_true,decide_eq_true_eq] at this
 exact ⟨this.1,this.2⟩
theorem WC (x:Int×Int) (nm:List UInt8) (h1:u8 x.1):∃ r,Fa x nm=some r/\r.1=x.1/\r.2.1=x.2:=by
 obtain ⟨⟨a1,a2⟩,_⟩:=YY h1
 obtain ⟨d1,d2⟩:=W8 a1 a2
 unfold Fa
 by_cases hc:((Du .u8 x.1 4)!=0)=true
 ·rw [if_pos hc,if_pos d1,if_pos d2]; exact ⟨_,rfl,rfl,rfl⟩
 ·rw [if_neg hc]; exact ⟨_,rfl,rfl,rfl⟩
theorem WD (r) (h2:u8 r.2.1):∃ r',Fb r=some r'/\r'.1=r.1/\r'.2.1=r.2.1:=by
 obtain ⟨⟨a1,a2⟩,_⟩:=YY h2
 obtain ⟨d1,d2⟩:=W8 a1 a2
 unfold Fb
 by_cases hc:((Du .u8 r.2.1 4)!=0)=true
 ·rw [if_pos hc,if_pos d1,if_pos d2]; exact ⟨_,rfl,rfl,rfl⟩
 ·rw [if_neg hc]; exact ⟨_,rfl,rfl,rfl⟩
theorem WE (r) (h1:u8 r.1):∃ r',Fc r=some r'/\r'.1=r.1/\r'.2.1=r.2.1/\r'.2.2.2.2.2.2.2.2.2.2.2.2.2.2.2.2.2.2.length<=1:=by
 obtain ⟨_,a1,a2⟩:=YY h1
 obtain ⟨d1,d2⟩:=W8 a1 a2
 unfold Fc
 by_cases hc:((Du .u8 r.2.1 64)!=0)=true
 ·rw [if_pos hc,if_pos d1,if_pos d2]; exact ⟨_,rfl,rfl,rfl,by simp⟩
 ·rw [if_neg hc]; exact ⟨_,rfl,rfl,rfl,by simp⟩
theorem WF (r) (h2:u8 r.2.1):∃ r',Fd r=some r'/\r'.2.2.2.2.2.2.2.2.2.2.2.2.2.2.2.2=r.2.2.2.2.2.2.2.2.2.2.2.2.2.2.2.2.2.2:=by
 obtain ⟨_,a1,a2⟩:=YY h2
 obtain ⟨d1,d2⟩:=W8 a1 a2
 unfold Fd
 by_cases hc:((Du .u8 r.1 128)!=0)=true
 ·rw [if_pos hc,if_pos d1,if_pos d2]; exact ⟨_,rfl,rfl⟩
 ·rw [if_neg hc]; exact ⟨_,rfl,rfl⟩
theorem Ue (x:Int×Int) (nm:List UInt8) (h1:u8 x.1) (h2:u8 x.2):∃ g,FG x nm=some g/\Qr g:=by
 obtain ⟨r1,e1,p1,q1⟩:=WC x nm h1
 obtain ⟨r2,e2,p2,q2⟩:=WD r1 (q1 ▸ h2)
 obtain ⟨r3,e3,p3,q3,t3⟩:=WE r2 (by rw [p2,p1]; exact h1)
 obtain ⟨r4,e4,t4⟩:=WF r3 (by rw [q3,q2,q1]; exact h2)
 refine ⟨r4.2.2.2.2.2.2.2.2,?_,?_⟩
 ·unfold FG
  rw [e1,OS,e2,OS,e3,OS,e4]; rfl
 ·unfold Qr
  rw [t4]; omega
theorem ok3 (a b:Int):okB ([103]++by8 [a,b])=true:=rfl
theorem Lh {n:Nat}{o:List Int}(h:o.Perm (Ga n)):VT n o=true:=by
 have hl:o.length=n:=by rw [h.length_eq,Ji]
 have:=(YA n o).2 ⟨hl,fun w hw=>h.mem_iff.2 (Kk.2 ⟨by omega,by omega⟩)⟩
 unfold VT
 rw [this.1,decide_eq_true this.2]; rfl
/-- Texts that are made, one after the other. -/
theorem Vz (ys:List (List (Int×Int×Int×Bool×Bool))) (hy:ys.length<=5) (hb:∀ x ∈ ys,∀ v ∈ x,P9 v) (L:Nat->Int->List (List AD)->Option (List (List AD)))
  (hs:∀ (pre:List (List (Int×Int×Int×Bool×Bool))) v r,ys=pre++v::r->∀ f st,L (f + 1) (pre.length:Int) st=(Fv v).bind fun v9=>if (FP 24 (st.length + ([v9]:List (List AD)).length))=true then L f (wr .i64 ((pre.length:Int) + 1)) (st++[v9]) else none)
  (he:∀ f st,L (f + 1) (ys.length:Int) st=some st):∃ c,L 100000 0 []=some c/\(∀ x ∈ c,few x)/\okT c=true/\c.length=ys.length:=by
 have go:∀ (r pre:List (List (Int×Int×Int×Bool×Bool))) (f:Nat) (st:List (List AD)),ys=pre++r->r.length < f->st.length=pre.length->(∀ x ∈ st,few x)->okT st=true->∃ c,L f (pre.length:Int) st=some c/\(∀ x ∈ c,few x)/\okT c=true/\c.length=ys.length:=by
  intro r
  induction r with
  | nil =>
   intro pre f st e hf hl h1 h2
   obtain ⟨f,rfl⟩:∃ q,f=q + 1:=⟨f - 1,by simp at hf; omega⟩
   have e':ys=pre:=by rw [e]; simp
   subst e'
   exact ⟨st,he f st,h1,h2,hl⟩
  | cons v r ih =>
   intro pre f st e hf hl h1 h2
   obtain ⟨f,rfl⟩:∃ q,f=q + 1:=⟨f - 1,by simp at hf; omega⟩
   simp only [List.length_cons] at hf
   have hl2:ys.length=pre.length + r.length + 1:=by rw [e]; simp; omega
   obtain ⟨c,c1,c2,c3,c4⟩:=WV v (hb v (by rw [e]; simp))
   have hc:(Ow c).2=0:=by rw [TS (by omega) c3]
   obtain ⟨d,d1,d2⟩:=ih (pre++[v]) f (st++[c]) (by rw [e]; simp) (by omega) (by simp [hl]) (fun x hx=>by
    rcases List.mem_append.1 hx with hx | hx
    ·exact h1 x hx
    ·rw [List.mem_singleton.1 hx]; exact c2) (by unfold okT at h2 ⊢; rw [List.all_append,h2]; simp [hc])
   refine ⟨d,?_,d2⟩
   rw [hs pre v r e f st,c1,OS,if_pos (IQ (by omega) (by simp; omega)),Fq pre v r (by rw [<-e]; omega)]
   exact d1
 exact go ys [] 100000 [] rfl (by omega) rfl (fun x hx=>by cases hx) rfl
/- trestle/trestlelaw03.CourtPareto -/
theorem SE {f h:Int->Int}:∀ l:List Int,FI (fun a=>f a + h a) l=FI f l + FI h l
 | []=>rfl
 | a::l=>by simp only [FI,SE l]; omega
section
variable {l:List (List AD)}{g:List Ah}(hv:okT l=true) (hn:g.length<=7)
include hv hn
end
theorem Tl (W:Int->Int->Int):∀ l:List Int,prS W l.reverse=prS (fun x y=>W y x) l
 | []=>rfl
 | x::r=>by
  rw [List.reverse_cons,Pe,Tl W r,Qc (List.reverse_perm r)]
  simp only [prS]
  omega
theorem RL (W V:Int->Int->Int):∀ l:List Int,prS W l + prS V l=prS (fun x y=>W x y + V x y) l
 | []=>rfl
 | x::r=>by
  have h1:=RL W V r
  have h2:=SE (f:=fun y=>W y x) (h:=fun y=>V y x) r
  simp only [prS]
  omega
/-- A symmetric sum does not hang on the order. -/
theorem Uv {S:Int->Int->Int}(hs:∀ x y,S x y=S y x){a b:List Int}(h:a.Perm b):prS S a=prS S b:=by
 induction h with
 | nil=>rfl
 | cons x p ih=>simp only [prS,ih,Qc p]
 | swap x y l =>
  simp only [prS,FI]
  rw [hs x y]
  omega
 | trans _ _ h1 h2=>exact h1.trans h2
/-- Both together: all that any two decide. -/
theorem Uu (W:Int->Int->Int){o:List Int}{n:Nat}(h:o.Perm (Ga n)):prS W o + prS W o.reverse=prS (fun x y=>W x y + W y x) (Ga n):=by
 rw [Tl,RL,Uv (fun x y=>Int.add_comm _ _) h]
/-- Is anything decided? -/
def nz (c:List AD) (g:List Ah) (x y:Nat):Int:=if cm c g x y=0 then 0 else 1
theorem T4 {g:List Ah}{x y:Nat}(hx:x < 64) (hy:y < 64):∀ l:List (List AD),okT l=true->vt l g x y + vt l g y x=FI (fun c=>nz c g x y) l
 | [],_=>rfl
 | c::l,hv=>by
  unfold okT at hv
  rw [List.all_cons,Bool.and_eq_true,decide_eq_true_eq] at hv
  have ih:=T4 (g:=g) hx hy l hv.2
  have hgd:=(I2 hv.1).2
  have hs:=Y7 (g:=g) hgd hy hx
  unfold vt at ih ⊢
  simp only [FI]
  rw [<-ih,List.countP_cons,List.countP_cons]
  unfold nz
  rcases ZX (g:=g) hgd hx hy with h | h | h <;> rw [hs,h] <;> simp <;> omega
theorem SA:∀ o:List Int,prS (fun _ _=>0) o=0
 | []=>rfl
 | x::r=>by
  have z:∀ l:List Int,FI (fun _=>(0:Int)) l=0:=fun l=>by
   induction l with
   | nil=>rfl
   | cons a l ih=>simp only [FI,ih]; rfl
  simp only [prS,SA r,z]; rfl
theorem Tm {α:Type}(f:α->Int->Int->Int) (o:List Int):∀ l:List α,prS (fun x y=>FI (fun c=>f c x y) l) o=FI (fun c=>prS (f c) o) l
 | []=>SA o
 | c::l=>by
  simp only [FI]
  rw [<-Tm f o l,RL]
/-- .. of the places below n: one row after the other. -/
theorem Uw (S:Int->Int->Int) (n:Nat):prS S (Ga (n + 1))=prS S (Ga n) + FI (fun y=>S (n:Int) y) (Ga n):=by
 have e:Ga (n + 1)=Ga n++[(n:Int)]:=by unfold Ga; rw [List.range_succ,List.map_append]; rfl
 rw [e,Pe]
/- trestle/court.Inversions$1 -/
/- slices.IndexFunc[[]int,int] -/
/- slices.ContainsFunc[[]int,int] -/
/- trestle/court.Inversions -/
/-- How many stand behind x and below it. -/
def XU (x:Int) (r:List Int):Nat:=r.countP fun y=>decide (x > y)
section
variable (cl od:List Int)
end
/- trestle/trestlelaw03.compromises -/
/- trestle/trestlelaw03.CourtCompromises -/
theorem Oy (x0:List (Int×Int)) (n:Int) (ys:List (Int×Int)) (hys:((x0.take (mnI (x0.length:Int) n).toNat).drop (0:Int).toNat)=ys) (hb:∀ v ∈ ys,u8 v.1/\u8 v.2) (h20:ys.length<=20):∀ (r pre:List (Int×Int)) (c2:List Ah) (f:Nat),ys=pre++r->r.length < f->c2.length=pre.length->(∀ g ∈ c2,Qr g) ->
  ∃ c,Co x0 n f (pre.length:Int) c2=some c/\(∀ g ∈ c,Qr g)/\c.length=ys.length
 | [],pre,c2,f + 1,e,_,hl,hk=>by
  refine ⟨c2,?_,hk,by rw [hl,e]; simp⟩
  unfold Co
  rw [hys,if_neg (by rw [e]; simp)]
 | v::r,pre,c2,f + 1,e,hf,hl,hk=>by
  have hv:=hb v (by rw [e]; simp)
  have hl2:ys.length=pre.length + r.length + 1:=by rw [e]; simp; omega
  simp only [List.length_cons] at hf
  obtain ⟨g,hg,hgf⟩:=Ue (v.1,v.2) ([103]++(by8 [(wr .u8 (wr .i64 (97 + (wr .i64 ((pre.length:Int).tdiv 26))))),(wr .u8 (wr .i64 (97 + ((pre.length:Int).tmod 26))))])) hv.1 hv.2
  obtain ⟨c,q1,q2,q3⟩:=Oy x0 n ys hys hb h20 r (pre++[v]) (c2++[g]) f (by rw [e]; simp) (by omega) (by simp [hl]) (fun y hy=>by
   rcases List.mem_append.1 hy with hy | hy
   ·exact hk y hy
   ·rw [List.mem_singleton.1 hy]; exact hgf)
  refine ⟨c,?_,q2,q3⟩
  rw [<-q1]
  conv=>lhs; unfold Co
  rw [hys,if_pos (by rw [e]; exact II pre v r),show idx ys (pre.length:Int)=some v by rw [e,Fp],OS,if_pos (ok3 _ _),hg,OS,if_pos (IQ (by omega) (by simp; omega)),Fq pre v r (by rw [<-e]; omega)]
theorem TT (x0:List (Int×Int)) (n:Nat) (hn:n<=20) (hb:∀ v ∈ x0,u8 v.1/\u8 v.2):∃ c,Di x0 (n:Int)=some c/\FewR c/\c.length<=n:=by
 have hm:0<=mnI (x0.length:Int) n/\mnI (x0.length:Int) n<=n/\mnI (x0.length:Int) n<=x0.length:=by
  unfold mnI
  split <;> omega
 have h8:((x0.take (mnI (x0.length:Int) n).toNat).drop (0:Int).toNat).length<=n:=by
  rw [List.length_drop,List.length_take]; omega
 obtain ⟨c,h1,h2,h3⟩:=Oy x0 n _ rfl (fun v hv=>hb v (List.mem_of_mem_take (List.mem_of_mem_drop hv))) (Nat.le_trans h8 hn) _ [] [] 100000 rfl (Nat.lt_of_le_of_lt h8 (by omega)) rfl (fun g hg=>by simp at hg)
 refine ⟨c,?_,⟨by omega,h2⟩,by omega⟩
 unfold Di
 rw [if_pos (by unfold DG; simp; omega)]
 have e:Co x0 n 100000 0 []=some c:=h1
 rw [e]; rfl
/-- slices.Reverse. -/
theorem ZS (o:List Int) (hn:o.length<=1000):C7 o=some o.reverse:=by
 have fin:∀ k,o.length<=2 * k + 1->((List.range o.length).map fun i=>if i < k\/o.length - k<=i then o.getD (o.length - 1 - i) 0 else o.getD i 0)=o.reverse:=fun k hk=>by
  apply List.ext_getElem
  ·simp
  ·intro i h1 h2
   simp only [List.length_map,List.length_range] at h1
   rw [List.getElem_map,List.getElem_range,List.getElem_reverse]
   by_cases hi:i < k\/o.length - k<=i
   ·rw [if_pos hi,List.getD_eq_getElem?_getD,List.getElem?_eq_getElem (by omega)]; rfl
   ·rw [if_neg hi,List.getD_eq_getElem?_getD,List.getElem?_eq_getElem (by omega)]
    show o[i]=_
    congr 1
    omega
 have go:∀ (d k f:Nat),o.length<=2 * k + d->d < f->2 * k<=o.length + 1->BF f (k:Int) ((o.length:Int) - 1 - k) ((List.range o.length).map fun i=>if i < k\/o.length - k<=i then o.getD (o.length - 1 - i) 0 else o.getD i 0)=some o.reverse:=by
  intro d
  induction d with
  | zero =>
   intro k f h1 h2 h3
   obtain ⟨f,rfl⟩:∃ q,f=q + 1:=⟨f - 1,by omega⟩
   unfold BF
   rw [if_neg (by simp; omega),fin k (by omega)]
  | succ d ih =>
   intro k f h1 h2 h3
   obtain ⟨f,rfl⟩:∃ q,f=q + 1:=⟨f - 1,by omega⟩
   by_cases hk:2 * k + 1 < o.length
   ·have e2:((o.length:Int) - 1 - k)=((o.length - 1 - k:Nat):Int):=by omega
    have at_:∀ (F:Nat->Int) (x:Nat),x < o.length->idx ((List.range o.length).map F) (x:Int)=some (F x):=fun F x hx=>by
     rw [I8 (by simpa using hx)]; simp
    have v1:=at_ (fun i=>if i < k\/o.length - k<=i then o.getD (o.length - 1 - i) 0 else o.getD i 0) k (by omega)
    have v2:=at_ (fun i=>if i < k\/o.length - k<=i then o.getD (o.length - 1 - i) 0 else o.getD i 0) (o.length - 1 - k) (by omega)
    have n1:¬ (k < k\/o.length - k<=k):=by omega
    have n2:¬ (o.length - 1 - k < k\/o.length - k<=o.length - 1 - k):=by omega
    simp only [if_neg n1] at v1
    simp only [if_neg n2] at v2
    have s1:((List.range o.length).map fun i=>if i < k\/o.length - k<=i then o.getD (o.length - 1 - i) 0 else o.getD i 0).set k (o.getD (o.length - 1 - k) 0)=(List.range o.length).map fun i=>if i < k + 1\/o.length - k<=i then o.getD (o.length - 1 - i) 0 else o.getD i 0 :=
     KT o.length _ _ k _ (by rw [if_pos (by omega)]) fun y hy=>by
      by_cases h:y < k\/o.length - k<=y
      ·rw [if_pos h,if_pos (by omega)]
      ·rw [if_neg h,if_neg (by omega)]
    have v3:=at_ (fun i=>if i < k + 1\/o.length - k<=i then o.getD (o.length - 1 - i) 0 else o.getD i 0) (o.length - 1 - k) (by omega)
    have s2:((List.range o.length).map fun i=>if i < k + 1\/o.length - k<=i then o.getD (o.length - 1 - i) 0 else o.getD i 0).set (o.length - 1 - k) (o.getD k 0)=(List.range o.length).map fun i=>if i < k + 1\/o.length - (k + 1)<=i then o.getD (o.length - 1 - i) 0 else o.getD i 0 :=
     KT o.length _ _ (o.length - 1 - k) _ (by rw [if_pos (by omega),show o.length - 1 - (o.length - 1 - k)=k by omega]) fun y hy=>by
      by_cases h:y < k + 1\/o.length - k<=y
      ·rw [if_pos h,if_pos (by omega)]
      ·rw [if_neg h,if_neg (by omega)]
    unfold BF
    rw [e2,if_pos (by simp; omega),v2,OS,v1,OS,OS,Int.toNat_natCast,Int.toNat_natCast,s1,v3,OS,s2,P1 (n:=(k:Int) + 1) (by omega) (by omega),P1 (n:=((o.length - 1 - k:Nat):Int) - 1) (by omega) (by omega)]
    have:=ih (k + 1) f (by omega) (by omega) (by omega)
    rw [show ((k + 1:Nat):Int)=(k:Int) + 1 by omega] at this
    rw [<-this]
    congr 1
    omega
   ·unfold BF
    rw [if_neg (by simp; omega),fin k (by omega)]
 have h:=go o.length 0 100000 (by omega) (by omega) (by omega)
 have e0:((List.range o.length).map fun i=>if i < 0\/o.length - 0<=i then o.getD (o.length - 1 - i) 0 else o.getD i 0)=o:=by
  apply List.ext_getElem
  ·simp
  ·intro i h1 h2
   rw [List.getElem_map,List.getElem_range,if_neg (by omega),List.getD_eq_getElem?_getD,List.getElem?_eq_getElem h2]; rfl
 rw [e0] at h
 have h':BF 100000 0 ((o.length:Int) - 1) o=some o.reverse:=by
  have e3:((o.length:Int) - 1 - ((0:Nat):Int))=(o.length:Int) - 1:=by omega
  rw [e3] at h
  exact h
 unfold C7
 rw [P1 (by omega) (by omega),h']; rfl
/-- Two that change places. -/
theorem YH (g:List Ah) (o:List Int) (hol:o.length=g.length) (v:Int×Int) (hv:u8 v.1/\u8 v.2):∃ o',DO g o v=some o'/\o'.Perm o:=by
 unfold DO
 unfold u8 at hv
 by_cases h0:g.length=0
 ·exact ⟨o,by rw [if_neg (by rw [decide_eq_true_eq]; omega)],List.Perm.refl _⟩
 ·have w1:wr .i64 v.1=v.1:=P1 (by omega) (by omega)
  have w2:wr .i64 v.2=v.2:=P1 (by omega) (by omega)
  have r1:0<=v.1.tmod (g.length:Int)/\v.1.tmod (g.length:Int) < g.length:=⟨Int.tmod_nonneg _ (by omega),Int.tmod_lt_of_pos _ (by omega)⟩
  have r2:0<=v.2.tmod (g.length:Int)/\v.2.tmod (g.length:Int) < g.length:=⟨Int.tmod_nonneg _ (by omega),Int.tmod_lt_of_pos _ (by omega)⟩
  rw [w1,w2]
  obtain ⟨i,hi⟩:∃ i:Nat,v.1.tmod (g.length:Int)=(i:Int):=⟨_,(Int.toNat_of_nonneg r1.1).symm⟩
  obtain ⟨j,hj⟩:∃ j:Nat,v.2.tmod (g.length:Int)=(j:Int):=⟨_,(Int.toNat_of_nonneg r2.1).symm⟩
  rw [hi] at r1
  rw [hj] at r2
  have hi':i < o.length:=by omega
  have hj':j < o.length:=by omega
  rw [hi,hj,if_pos (by simp; omega),if_neg (by omega),if_neg (by omega),I8 hj',OS,I8 hi',OS,OS,Int.toNat_natCast,Int.toNat_natCast,I8 (by rw [List.length_set]; exact hj'),OS]
  exact ⟨_,rfl,List.set_set_perm hi' hj'⟩
/-- What a text decides of two. -/
def nzI (c:List AD) (g:List Ah) (x y:Int):Int:=nz c g x.toNat y.toNat
theorem X4 (c:List AD) (g:List Ah) (x y:Int):0<=nzI c g x y/\nzI c g x y<=1:=by unfold nzI nz; split <;> omega
theorem R8 {W V:Int->Int->Int}:∀ {o:List Int},(∀ x ∈ o,∀ y ∈ o,W x y=V x y)->prS W o=prS V o
 | [],_=>rfl
 | x::r,h=>by
  have e:∀ (s:List Int),(∀ y ∈ s,y ∈ r)->FI (fun y=>W y x) s=FI (fun y=>V y x) s:=fun s=>by
   induction s with
   | nil=>intro _; rfl
   | cons a s ih =>
    intro hs
    simp only [FI]
    rw [ih fun y hy=>hs y (List.mem_cons_of_mem _ hy),h a (List.mem_cons_of_mem _ (hs a (by simp))) x (by simp)]
  simp only [prS]
  rw [e r fun _ h=>h,R8 fun a ha b hb=>h a (List.mem_cons_of_mem _ ha) b (List.mem_cons_of_mem _ hb)]
section
variable {g:List Ah}(hg:FewR g) (hn:g.length<=8)
include hg hn
theorem XR {c:List AD}(hc:few c) (hv:(Ow c).2=0) (x:Nat) (hx:x < g.length) (a:Int) (ha:0<=a/\a<=100000):A9 g c (x:Int) 100000 a 0=some (a + FI (fun y=>nzI c g (x:Int) y) (Ga x)):=by
 have hgd:=I2 hv
 have up:∀ k:Nat,FI (fun y=>nzI c g (x:Int) y) (Ga (k + 1))=FI (fun y=>nzI c g (x:Int) y) (Ga k) + nzI c g (x:Int) (k:Int):=fun k=>by
  have e:Ga (k + 1)=Ga k++[(k:Int)]:=by unfold Ga; rw [List.range_succ,List.map_append]; rfl
  rw [e,NH]; simp [FI]
 have bnd:∀ k:Nat,k<=8->0<=FI (fun y=>nzI c g (x:Int) y) (Ga k)/\FI (fun y=>nzI c g (x:Int) y) (Ga k)<=8:=fun k hk=>by
  have:=Nz (f:=fun y=>nzI c g (x:Int) y) (B:=1) (l:=Ga k) (fun y _=>X4 c g x y)
  rw [Ji] at this
  omega
 have h:=Oa (σ:=Int) x (fun k=>a + FI (fun y=>nzI c g (x:Int) y) (Ga k)) (some (a + FI (fun y=>nzI c g (x:Int) y) (Ga x))) (fun f c' s=>A9 g c (x:Int) f s c') (by omega) (fun k hk f=>by
  show A9 g c (x:Int) (f + 1) (a + FI (fun y=>nzI c g (x:Int) y) (Ga k)) (k:Int)=A9 g c (x:Int) f (a + FI (fun y=>nzI c g (x:Int) y) (Ga (k + 1))) _
  conv=>lhs; unfold A9
  have hb:=bnd k (by omega)
  have hkg:k < g.length:=by omega
  have hz:nzI c g (x:Int) (k:Int)=if Ox c (gAt g x) (gAt g k) (x:Int) (k:Int)=0 then 0 else 1:=rfl
  have e:DP (a + FI (fun y=>nzI c g (x:Int) y) (Ga k)) (Ox c (gAt g x) (gAt g k) (x:Int) (k:Int))=some (a + FI (fun y=>nzI c g (x:Int) y) (Ga (k + 1))):=by
   unfold DP
   rw [up,hz]
   by_cases h0:Ox c (gAt g x) (gAt g k) (x:Int) (k:Int)=0
   ·rw [if_neg (by simp [h0]),if_pos h0,Int.add_zero]
   ·rw [if_pos (by simp [h0]),if_neg h0,P1 (by omega) (by omega),Int.add_assoc]
  rw [if_pos (by simp; omega),Xl g hx,OS,Xl g hkg,OS,Vx c _ _ _ _ hc hgd.1 hgd.2 (hg.at_ hx) (hg.at_ hkg),OS,e,OS]) (fun f=>by
  show A9 g c (x:Int) (f + 1) _ (x:Int)=_
  conv=>lhs; unfold A9
  rw [if_neg (by simp)])
 have h':A9 g c (x:Int) 100000 (a + FI (fun y=>nzI c g (x:Int) y) (Ga 0)) 0=some (a + FI (fun y=>nzI c g (x:Int) y) (Ga x)):=h
 rwa [show FI (fun y=>nzI c g (x:Int) y) (Ga 0)=0 from rfl,Int.add_zero] at h'
omit hg in
theorem VW (c:List AD) (k:Nat) (hk:k<=g.length):0<=prS (nzI c g) (Ga k)/\prS (nzI c g) (Ga k)<=64:=by
 have:=R9 (W:=nzI c g) (B:=1) (by omega) (l:=Ga k) (fun x _ y _=>X4 c g x y)
 rw [Ji] at this
 have h2:k * k<=8 * 8:=Nat.mul_le_mul (by omega) (by omega)
 have h3:(k:Int) * ((k:Int) * 1)<=64:=by rw [Int.mul_one]; exact_mod_cast h2
 omega
theorem Vj {c:List AD}(hc:few c) (hv:(Ow c).2=0) (a:Int) (ha:0<=a/\a<=1000):A8 g c 100000 a 0=some (a + prS (nzI c g) (Ga g.length)):=by
 have h:=Oa (σ:=Int) g.length (fun k=>a + prS (nzI c g) (Ga k)) (some (a + prS (nzI c g) (Ga g.length))) (fun f c' s=>A8 g c f s c') (by omega) (fun k hk f=>by
  show A8 g c (f + 1) (a + prS (nzI c g) (Ga k)) (k:Int)=A8 g c f (a + prS (nzI c g) (Ga (k + 1))) _
  conv=>lhs; unfold A8
  have hb:=VW hn c k (by omega)
  rw [if_pos (by simp; omega),XR hg hn hc hv k hk _ ⟨by omega,by omega⟩,OS,Uw,Int.add_assoc]) (fun f=>by
  show A8 g c (f + 1) _ (g.length:Int)=_
  conv=>lhs; unfold A8
  rw [if_neg (by simp)])
 have h':A8 g c 100000 (a + prS (nzI c g) (Ga 0)) 0=some (a + prS (nzI c g) (Ga g.length)):=h
 rwa [show prS (nzI c g) (Ga 0)=0 from rfl,Int.add_zero] at h'
theorem XQ {l:List (List AD)}(hl:∀ c ∈ l,few c) (hv:okT l=true) (h5:l.length<=5):Bt g l 100000 0 0=some (FI (fun c=>prS (nzI c g) (Ga g.length)) l):=by
 have go:∀ (r pre:List (List AD)) (f:Nat) (a:Int),l=pre++r->r.length < f->0<=a->a<=(pre.length:Int) * 64->Bt g l f a (pre.length:Int)=some (a + FI (fun c=>prS (nzI c g) (Ga g.length)) r):=by
  intro r
  induction r with
  | nil =>
   intro pre f a e hf _ _
   obtain ⟨f,rfl⟩:∃ q,f=q + 1:=⟨f - 1,by simp at hf; omega⟩
   unfold Bt
   rw [if_neg (by rw [e]; simp)]
   simp [FI]
  | cons c r ih =>
   intro pre f a e hf ha hb
   obtain ⟨f,rfl⟩:∃ q,f=q + 1:=⟨f - 1,by simp at hf; omega⟩
   simp only [List.length_cons] at hf
   have hll:l.length=pre.length + r.length + 1:=by rw [e]; simp; omega
   have hcv:(Ow c).2=0:=by
    unfold okT at hv
    have:=List.all_eq_true.1 hv c (by rw [e]; simp)
    simpa using this
   have hq:=VW hn c g.length (Nat.le_refl _)
   unfold Bt
   rw [if_pos (by rw [e]; exact II pre c r),show idx l (pre.length:Int)=some c by rw [e,Fp],OS,Vj hg hn (hl c (by rw [e]; simp)) hcv a ⟨ha,by omega⟩,OS,Fq pre c r (by rw [<-e]; omega),ih (pre++[c]) f _ (by rw [e]; simp) (by omega) (by omega) (by rw [List.length_append]; simp; omega)]
   simp only [FI]
   rw [Int.add_assoc]
 have h:=go l [] 100000 0 rfl (by omega) (by omega) (by simp)
 have h':Bt g l 100000 0 0=some (0 + FI (fun c=>prS (nzI c g) (Ga g.length)) l):=h
 rwa [Int.zero_add] at h'
/-- The disagreements of an order and of its reverse. -/
theorem UU {l:List (List AD)}(hv:okT l=true){o:List Int}(ho:o.Perm (Ga g.length)):prS (WI l g) o + prS (WI l g) o.reverse=FI (fun c=>prS (nzI c g) (Ga g.length)) l:=by
 have _:=hg
 rw [Uu (WI l g) ho,<-Tm (fun c x y=>nzI c g x y)]
 refine R8 fun x hx y hy=>?_
 have h1:=Kk.1 hx
 have h2:=Kk.1 hy
 exact T4 (g:=g) (x:=x.toNat) (y:=y.toNat) (by omega) (by omega) l hv
end
/-- A guest of another year. -/
def wS (v:Ah) (s:Int):Ah:=(v.1,v.2.1,v.2.2.1,s,v.2.2.2.2.1,v.2.2.2.2.2.1,v.2.2.2.2.2.2.1,v.2.2.2.2.2.2.2.1,v.2.2.2.2.2.2.2.2)
def yrs (g:List Ah):List Ah:=(List.range g.length).map fun x=>wS (gAt g x) (1 + (x:Int))
theorem UA (g:List Ah):(yrs g).length=g.length:=by simp [yrs]
theorem SK (g:List Ah){x:Nat}(hx:x < g.length):gAt (yrs g) x=wS (gAt g x) (1 + (x:Int)):=by
 unfold yrs
 conv=>lhs; unfold gAt
 rw [List.getD_eq_getElem?_getD,List.getElem?_eq_getElem (by simpa using hx)]
 simp [gAt]
theorem W2 {g:List Ah}(hg:FewR g):FewR (yrs g):=by
 refine ⟨by rw [UA]; exact hg.n,fun x hx=>?_⟩
 unfold yrs at hx
 obtain ⟨i,hi,rfl⟩:=List.mem_map.1 hx
 exact hg.at_ (List.mem_range.1 hi)
theorem W0 (g:List Ah) (hn:g.length<=1000):BI g 100000 0 g=some (yrs g):=by
 have e0:g=(List.range g.length).map fun x=>if x < 0 then wS (gAt g x) (1 + (x:Int)) else gAt g x:=by
  apply List.ext_getElem
  ·simp
  ·intro i h1 h2
   rw [List.getElem_map,List.getElem_range,if_neg (by omega)]
   unfold gAt
   rw [List.getD_eq_getElem?_getD,List.getElem?_eq_getElem h1]; rfl
 have h:=Oa (σ:=List Ah) g.length (fun k=>(List.range g.length).map fun x=>if x < k then wS (gAt g x) (1 + (x:Int)) else gAt g x) (some (yrs g)) (fun f c' s=>BI g f c' s) (by omega) (fun k hk f=>by
  show BI g (f + 1) (k:Int) ((List.range g.length).map fun x=>if x < k then wS (gAt g x) (1 + (x:Int)) else gAt g x)=_
  conv=>lhs; unfold BI
  have hi:idx ((List.range g.length).map fun x=>if x < k then wS (gAt g x) (1 + (x:Int)) else gAt g x) (k:Int)=some (gAt g k):=by
   rw [I8 (by simpa using hk)]; simp
  rw [if_pos (by simp; omega),hi,OS,Int.toNat_natCast,P1 (n:=1 + (k:Int)) (by omega) (by omega)]
  have s:=KT g.length (fun x=>if x < k then wS (gAt g x) (1 + (x:Int)) else gAt g x) (fun x=>if x < k + 1 then wS (gAt g x) (1 + (x:Int)) else gAt g x) k (wS (gAt g k) (1 + (k:Int))) (by rw [if_pos (by omega)]) fun y hy=>by
   by_cases h:y < k
   ·rw [if_pos h,if_pos (by omega)]
   ·rw [if_neg h,if_neg (by omega)]
  unfold wS at s ⊢
  rw [s]) (fun f=>by
  show BI g (f + 1) (g.length:Int) _=_
  conv=>lhs; unfold BI
  rw [if_neg (by simp)]
  congr 1
  unfold yrs
  exact List.map_congr_left fun x hx=>by rw [if_pos (List.mem_range.1 hx)])
 have h':BI g 100000 0 ((List.range g.length).map fun x=>if x < 0 then wS (gAt g x) (1 + (x:Int)) else gAt g x)=some (yrs g):=h
 rwa [<-e0] at h'
def tw1:List AD:=[(2,[],false,[],0),(8,[],false,[],0)]
def tw2:List AD:=[(3,[],false,[],0),(8,[],false,[],0)]
theorem Vc:∀ c ∈ [tw1,tw2],few c:=by
 intro c hc
 have:c=tw1\/c=tw2:=by simpa using hc
 rcases this with rfl | rfl
 ·refine ⟨by decide,fun x hx=>?_⟩
  have:x=(2,[],false,[],0)\/x=(8,[],false,[],0):=by simpa [tw1] using hx
  rcases this with rfl | rfl <;> exact ⟨by simp,by simp,fun s hs=>by simp at hs⟩
 ·refine ⟨by decide,fun x hx=>?_⟩
  have:x=(3,[],false,[],0)\/x=(8,[],false,[],0):=by simpa [tw2] using hx
  rcases this with rfl | rfl <;> exact ⟨by simp,by simp,fun s hs=>by simp at hs⟩
theorem Wu:okT [tw1,tw2]=true:=by kernel_rfl
theorem VQ (k:Int) (y:Bool) (hk:k=2/\y=false\/k=3/\y=true) (a b:Ah) (i j:Int):dir (k,[],false,[],0) a b i j=snc y a.2.2.2.1 b.2.2.2.1:=by
 unfold dir amB Ns
 rcases hk with ⟨rfl,rfl⟩ | ⟨rfl,rfl⟩ <;> simp
theorem VZ (y:Bool) (s t:Nat) (h:s≠t) (hs:s<=1000) (ht:t<=1000):snc y (1 + (s:Int)) (1 + (t:Int))=if decide (s < t)=y then 1 else -1:=by
 have e1:((1 + (s:Int))==0)=false:=by rw [beq_eq_false_iff_ne]; omega
 have e2:((1 + (t:Int))==0)=false:=by rw [beq_eq_false_iff_ne]; omega
 have w3:wr .i64 (-1) = -1:=by decide
 have w4:wr .i64 1=1:=by decide
 have c:KA (1 + (s:Int)) (1 + (t:Int))=if s < t then -1 else 1:=by
  unfold KA
  by_cases q:s < t
  ·rw [if_pos (by omega),if_pos q]
  ·rw [if_neg (by omega),if_pos (by omega),if_neg q]
 unfold snc
 rw [e1,e2,if_neg (by simp),c]
 by_cases q:s < t <;> cases y <;> simp [q,w3,w4]
theorem Y8 {g:List Ah}(hn:g.length<=1000){x y:Nat}(hx:x < g.length) (hy:y < g.length) (h:x≠y):cm tw1 (yrs g) x y=(if x < y then -1 else 1)/\cm tw2 (yrs g) x y=(if x < y then 1 else -1):=by
 have e1:dir (2,[],false,[],0) (gAt (yrs g) x) (gAt (yrs g) y) (x:Int) (y:Int)=if x < y then -1 else 1:=by
  rw [VQ 2 false (.inl ⟨rfl,rfl⟩),SK g hx,SK g hy]
  show snc false (1 + (x:Int)) (1 + (y:Int))=_
  rw [VZ false x y h (by omega) (by omega)]
  by_cases q:x < y <;> simp [q]
 have e2:dir (3,[],false,[],0) (gAt (yrs g) x) (gAt (yrs g) y) (x:Int) (y:Int)=if x < y then 1 else -1:=by
  rw [VQ 3 true (.inr ⟨rfl,rfl⟩),SK g hx,SK g hy]
  show snc true (1 + (x:Int)) (1 + (y:Int))=_
  rw [VZ true x y h (by omega) (by omega)]
  by_cases q:x < y <;> simp [q]
 have s1:tw1=[((2,[],false,[],0):AD)]++[((8,[],false,[],0):AD)]:=rfl
 have s2:tw2=[((3,[],false,[],0):AD)]++[((8,[],false,[],0):AD)]:=rfl
 unfold cm
 constructor
 ·rw [s1,Q0,Q1,e1,if_neg (by split <;> decide)]
 ·rw [s2,Q0,Q1,e2,if_neg (by split <;> decide)]
theorem Wx {g:List Ah}(hn:g.length<=8){x y:Nat}(hx:x < g.length) (hy:y < g.length):vt [tw1,tw2] (yrs g) x y=if x=y then 0 else 1:=by
 have hok:=Wu
 unfold okT at hok
 simp only [List.all_cons,List.all_nil,Bool.and_true,Bool.and_eq_true,decide_eq_true_eq] at hok
 unfold vt
 by_cases h:x=y
 ·subst h
  have z1:=Y6 (g:=yrs g) (I2 hok.1).2 (show x < 64 by omega)
  have z2:=Y6 (g:=yrs g) (I2 hok.2).2 (show x < 64 by omega)
  simp [z1,z2]
 ·obtain ⟨q1,q2⟩:=Y8 (by omega) hx hy h
  rw [if_neg h]
  by_cases hl:x < y
  ·rw [if_pos hl] at q1 q2
   simp [q1,q2]
  ·rw [if_neg hl] at q1 q2
   simp [q1,q2]
theorem MR {p q:Nat->Nat->Bool}{n:Nat}(h:∀ x y,x < n->y < n->p x y=q x y):∀ k,k<=n->IM p n k=IM q n k
 | 0,_=>rfl
 | k + 1,hk=>by
  rw [Km,Km,MR h k (by omega)]
  congr 1
  unfold SB
  rw [List.filter_congr fun y hy=>h k y (by omega) (List.mem_range.1 hy)]
theorem XX:∀ n:Nat,n < 9->(((IM (fun x y=>decide (x < y)) n n).length:Int)==(wr .i64 ((wr .i64 ((n:Int) * (wr .i64 ((n:Int) - 1)))).tdiv 2)))=true:=by decide
theorem XP:∀ n:Nat,n < 9->(IM (fun _ _=>false) n n).length=0:=by decide
theorem Wm (l:List (List (Int×Int×Int×Bool×Bool))) (p s:List (Int×Int)) (hl:∀ x ∈ l,∀ v ∈ x,P9 v) (hp:∀ v ∈ p,u8 v.1/\u8 v.2) (hs:∀ v ∈ s,u8 v.1/\u8 v.2):Cz l p s=some true:=by
 obtain ⟨g,g1,hg,hn⟩:=TT p 8 (by omega) hp
 have hm:0<=mnI (l.length:Int) 5/\mnI (l.length:Int) 5<=5/\mnI (l.length:Int) 5<=l.length:=by
  unfold mnI
  split <;> omega
 have hms:0<=mnI (s.length:Int) 12/\mnI (s.length:Int) 12<=12/\mnI (s.length:Int) 12<=s.length:=by
  unfold mnI
  split <;> omega
 obtain ⟨c,c1,c2,c3,c4⟩:=Vz ((l.take (mnI (l.length:Int) 5).toNat).drop (0:Int).toNat) (by rw [List.length_drop,List.length_take]; omega) (fun x hx=>hl x (List.mem_of_mem_take (List.mem_of_mem_drop hx))) (fun f i st=>BT l f i st) (fun pre v r e f st=>by
  show BT l (f + 1) (pre.length:Int) st=_
  conv=>lhs; unfold BT
  rw [if_pos (by rw [e]; exact II pre v r)]
  rw [show idx ((l.take (mnI (l.length:Int) 5).toNat).drop (0:Int).toNat) (pre.length:Int)=some v by rw [e,Fp],OS]) (fun f st=>by
  show BT l (f + 1) _ st=_
  conv=>lhs; unfold BT
  rw [if_neg (by simp)])
 have c5:c.length<=5:=by rw [c4,List.length_drop,List.length_take]; omega
 have ord:BU g 100000 0 (List.replicate (g.length:Int).toNat (0:Int))=some (Ga g.length):=by
  have e0:List.replicate (g.length:Int).toNat (0:Int)=(List.range g.length).map fun (x:Nat)=>if x < 0 then (x:Int) else 0:=by
   apply List.ext_getElem <;> simp
  have h:=Oa (σ:=List Int) g.length (fun k=>(List.range g.length).map fun (x:Nat)=>if x < k then (x:Int) else 0) (some (Ga g.length)) (fun f c' q=>BU g f c' q) (by omega) (fun k hk f=>by
   show BU g (f + 1) (k:Int) ((List.range g.length).map fun (x:Nat)=>if x < k then (x:Int) else 0)=_
   conv=>lhs; unfold BU
   rw [if_pos (by simp; omega),I8 (by simpa using hk),OS,Int.toNat_natCast]
   rw [KT g.length (fun (x:Nat)=>if x < k then (x:Int) else 0) (fun (x:Nat)=>if x < k + 1 then (x:Int) else 0) k (k:Int) (by rw [if_pos (by omega)]) fun y hy=>by
    by_cases h:y < k
    ·rw [if_pos h,if_pos (by omega)]
    ·rw [if_neg h,if_neg (by omega)]]) (fun f=>by
   show BU g (f + 1) (g.length:Int) _=_
   conv=>lhs; unfold BU
   rw [if_neg (by simp)]
   congr 1
   unfold Ga
   exact List.map_congr_left fun x hx=>by rw [if_pos (List.mem_range.1 hx)])
  rw [e0]
  exact h
 have go:∀ (r pre:List (Int×Int)) (f:Nat) (o:List Int),((s.take (mnI (s.length:Int) 12).toNat).drop (0:Int).toNat)=pre++r->r.length < f->o.Perm (Ga g.length)->∃ o',B7 s g f (pre.length:Int) o=some o'/\o'.Perm (Ga g.length):=by
  intro r
  induction r with
  | nil =>
   intro pre f o e hf ho
   obtain ⟨f,rfl⟩:∃ q,f=q + 1:=⟨f - 1,by simp at hf; omega⟩
   refine ⟨o,?_,ho⟩
   unfold B7
   rw [if_neg (by rw [e]; simp)]
  | cons v r ih =>
   intro pre f o e hf ho
   obtain ⟨f,rfl⟩:∃ q,f=q + 1:=⟨f - 1,by simp at hf; omega⟩
   simp only [List.length_cons] at hf
   have hle:(pre++v::r).length<=1000:=by rw [<-e,List.length_drop,List.length_take]; omega
   obtain ⟨o1,e1,p1⟩:=YH g o (by rw [ho.length_eq,Ji]) v (hs v (List.mem_of_mem_take (List.mem_of_mem_drop (by rw [e]; simp))))
   obtain ⟨o2,e2,p2⟩:=ih (pre++[v]) f o1 (by rw [e]; simp) (by omega) (p1.trans ho)
   refine ⟨o2,?_,p2⟩
   unfold B7
   rw [if_pos (by rw [e]; exact II pre v r),show idx ((s.take (mnI (s.length:Int) 12).toNat).drop (0:Int).toNat) (pre.length:Int)=some v by rw [e,Fp],OS,e1,OS,Fq pre v r (by omega)]
   exact e2
 obtain ⟨o,o1,o2⟩:=go _ [] 100000 (Ga g.length) rfl (by first | (rw [List.length_drop,List.length_take]; omega) | (rw [List.length_take]; omega)) (List.Perm.refl _)
 have o1':B7 s g 100000 0 (Ga g.length)=some o:=o1
 have ol:o.length=g.length:=by rw [o2.length_eq,Ji]
 have c1':BT l 100000 0 []=some c:=c1
 have g1':Di p 8=some g:=g1
 have or2:o.reverse.Perm (Ga g.length):=(List.reverse_perm o).trans o2
 have d1:Bu c g o=some (prS (WI c g) o):=by rw [Xe c2 hg (by omega) c3 o (by omega),if_pos (Lh o2)]
 have d2:Bu c g o.reverse=some (prS (WI c g) o.reverse):=by rw [Xe c2 hg (by omega) c3 o.reverse (by rw [List.length_reverse]; omega),if_pos (Lh or2)]
 have b1:=RM (l:=c) (g:=g) (o:=o) hg (by omega) (by omega) (PS (Lh o2))
 have b2:=RM (l:=c) (g:=g) (o:=o.reverse) hg (by omega) (by rw [List.length_reverse]; omega) (PS (Lh or2))
 have hgy:=W2 hg
 have yl:=UA g
 have f1:Cu [tw1,tw2] (yrs g)=some (IM (fun x y=>decide (x < y)) g.length g.length):=by
  rw [Vy Vc hgy (by decide) Wu,yl]
  congr 1
  refine MR (fun x y hx hy=>?_) g.length (Nat.le_refl _)
  unfold cfP
  rw [Wx hn hx hy,Wx hn hy hx]
  by_cases h:x < y
  ·have h1:¬ x=y:=by omega
   have h2:¬ y=x:=by omega
   simp [h,h1,h2]
  ·simp [h]
 have f2:Eg [tw1,tw2] (yrs g)=some (IM (fun _ _=>false) g.length g.length):=by
  rw [Vi Vc hgy (by decide) Wu,yl,if_neg (by simp)]
  congr 1
  refine MR (fun x y hx hy=>?_) g.length (Nat.le_refl _)
  unfold agP
  rw [Wx hn hx hy]
  by_cases h:x=y <;> simp [h]
 unfold Cz
 rw [g1',OS,if_pos (by unfold DG; simp; omega),c1',OS,if_pos (by simp [P0]; omega),ord,OS,if_pos (by unfold DG; simp; omega),o1',OS,if_pos (IQ (by omega) (by omega)),ZS o (by omega),OS,XQ hg hn c2 c3 c5,OS,W0 g (by omega),OS,OS,d1,OS,OS,d2,OS]
 rw [P1 (n:=prS (WI c g) o + prS (WI c g) o.reverse) (by omega) (by omega),UU hg hn c3 o2,if_pos (by simp)]
 show (((Cu [tw1,tw2] (yrs g)).bind fun v186=>if ((v186.length:Int)==(wr .i64 ((wr .i64 (((yrs g).length:Int) * (wr .i64 (((yrs g).length:Int) - 1)))).tdiv 2)))=true then (Eg [tw1,tw2] (yrs g)).bind fun v187=>if ((v187.length:Int)==0)=true then LJ.bind fun v188=>some v188 else some false else some false).bind fun j189=>some j189)=_
 rw [f1,OS,yl,if_pos (XX g.length (by omega)),f2,OS,XP g.length (by omega)]
 rfl
end Go.Proofs.YtlalcoehgkmhlaaGreatDoor
namespace Go.Proofs.YtlalcoehgkmhlaaGreatDoor
open Go.RowKit Go.ChangeShapes Go.WideShapes Go.Deep
theorem Wj {α:Type}{P:Program}{c:Cd α}{t e:TypeId}{good:α->Prop}{hn:∀ x,((csC c (csE c)).enc x).all K7=true}(ht:P.underlying t=some (.array 2 e)) (hl:P.cellsOf t=2) (hc:P.cellsOf e=1) (hs:∀ a,((csC c (csE c)).enc a).length=2) (he:∀ a,elm ((csC c (csE c)).enc a) = .ag ((csC c (csE c)).enc a)) (h1:∀ a,(c.enc a).cel=[c.enc a]) (r:Rc P c e good):Rc P (cdA (csC c (csE c)) hn) t (fun x=>good x.1/\good x.2):=⟨fun a=>he a,fun a=>(hs a).trans hl.symm,fun {H enc w base spare held fuel cs x} h hw=>by
 obtain ⟨xs,m,_,rfl,hlc,hlx,hf⟩:=DataW.trod_array ht h
 simp only [DataW.weights,ht] at hw
 have r2 : Rf P (csC c (csE c)) [Field.mk "" e 0 false "" "" 0, Field.mk "" e 1 false "" "" 0] 0 (fun x => good x.1 ∧ good x.2) := MT r rfl hc h1 (Tq r rfl hc h1)
 obtain ⟨a,k1,k2,k3⟩:=r2.rd (cs:=cs) (xs:=xs) (n:=m) (by rw [hlc,hl]; rfl) (by rw [hlx]; rfl) (fun j f hj=>by
  match j,hj with
  | 0,hj =>
   obtain rfl:=OI hj
   have:=hf 0 (by omega)
   rw [Nat.zero_mul] at this
   exact this
  | 1,hj =>
   obtain rfl:=OI hj
   have:=hf 1 (by omega)
   rw [Nat.one_mul,hc] at this
   rw [hc]
   exact this) (by
  match xs,hlx with
  | [y,z],_ =>
   simp only [List.map_cons,List.map_nil,DataW.weightsAll,DataW.weightsEach] at hw ⊢
   exact hw)
 exact ⟨a,k1,k2,k3⟩⟩
end Go.Proofs.YtlalcoehgkmhlaaGreatDoor
