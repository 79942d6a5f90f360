/- trestlelaw03.CourtTakes returns true for every input, and its arguments read behind the call as before; conditions: those that the given row names. -/
import Derived.Test.YtlalcoehgkmhlaaGreatDoorCourtTakesM1
import Derived.Test.YtlalcoehgkmhlaaGreatDoorCourtTakesM2
import Derived.Test.YtlalcoehgkmhlaaGreatDoorCourtTakesM3
import Derived.Test.YtlalcoehgkmhlaaGreatDoorCourtTakesM4
import Derived.Test.YtlalcoehgkmhlaaGreatDoorCourtTakesM5
import Derived.Test.YtlalcoehgkmhlaaGreatDoorCourtTakesM6
namespace Go.Proofs.YtlalcoehgkmhlaaGreatDoor
open Go.RowKit
section
variable {c:List AE}{g:List Aq}(hc:few c) (hv:(Kt c).2=0) (hg:FewR g) (hn:g.length<=20)
include hc hv hg hn
theorem UW (q:AL->Bool):∃ L,EL c ((FX g 0).filter q)=some (toI L)/\Kb c g (toG ((List.range g.length).filter fun x=>q (sd g x)))=some (toI L)/\GL (fN c g) pI L/\(∀ x,x ∈ L.flatten↔x ∈ (List.range g.length).filter fun x=>q (sd g x)):=by
 have e:(FX g 0).filter q=sdL g ((List.range g.length).filter fun x=>q (sd g x)):=by
  rw [S7]
  unfold sdL
  rw [List.filter_map]; rfl
 have ha:((List.range g.length).filter fun x=>q (sd g x)).Pairwise fun a b=>a < b:=List.Pairwise.filter _ List.pairwise_lt_range
 have hb:∀ x ∈ (List.range g.length).filter (fun x=>q (sd g x)),x < g.length:=fun x hx=>List.mem_range.1 (List.mem_filter.1 hx).1
 have hl:((List.range g.length).filter fun x=>q (sd g x)).length<=g.length:=by
  have:=List.length_filter_le (fun x=>q (sd g x)) (List.range g.length)
  simpa using this
 obtain ⟨L,h1,h2,h3⟩:=VH hc hv hg _ ha hb (by omega)
 obtain ⟨M,k1,k2,k3⟩:=VI hc hv hg _ ha hb (by omega)
 have hLM:L=M:=QM (Xo g (IQ hv).2).s L M h2 k2 fun x=>by rw [h3,k3]
 exact ⟨L,by rw [e]; exact h1,by rw [k1,hLM],h2,h3⟩
end
/-- What a round gives. -/
def Nj (rows:List (List Int)) (r:Nat):List Int:=rows.filterMap fun l=>l[r]?
def TI (rows:List (List Int)) (n:Nat):List Int:=(List.range n).flatMap (Nj rows)
theorem Nk (rows:List (List Int)) (n:Nat):TI rows (n + 1)=TI rows n++Nj rows n:=by
 unfold TI
 rw [List.range_succ,List.flatMap_append]; simp
/- trestle/trestleref03.Alternate -/
theorem U2 (a b:List (List Int)) (r:Nat):Nj (a++b) r=Nj a r++Nj b r:=List.filterMap_append
theorem SB (a:List (List Int)) (r:Nat):(Nj a r).length<=a.length:=List.length_filterMap_le _ _
theorem Pj (a:List (List Int)):∀ n,(TI a n).length<=n * a.length
 | 0=>by simp [TI]
 | n + 1=>by
  rw [Nk,List.length_append,Nat.add_mul]
  have:=Pj a n
  have:=SB a n
  omega
theorem Z6 (w:List (List UInt8)) (rows:List (List Int)) (hr:rows.length<=1000) (r:Nat) (hrr:r<=1000) (acc:List Int) (ha:acc.length<=1000000):Bc (w,rows) (r:Int) 100000 0 acc=some (acc++Nj rows r):=by
 have h:=QU (σ:=List Int) rows.length (fun k=>acc++Nj (rows.take k) r) (some (acc++Nj rows r)) (fun f c s=>Bc (w,rows) (r:Int) f c s) (by omega) (fun k hk f=>by
  show Bc (w,rows) (r:Int) (f + 1) (k:Int) (acc++Nj (rows.take k) r)=Bc (w,rows) (r:Int) f _ (acc++Nj (rows.take (k + 1)) r)
  conv=>lhs; unfold Bc
  have hl:=SB (rows.take k) r
  have hl2:(rows.take k).length<=1000:=by rw [List.length_take]; omega
  have e:EJ (r:Int) (acc++Nj (rows.take k) r) rows[k]=some (acc++Nj (rows.take (k + 1)) r):=by
   unfold EJ
   rw [List.take_succ_eq_append_getElem hk,U2]
   by_cases hlt:r < rows[k].length
   ·rw [if_pos (by simp; omega),JT hlt,OS,if_pos (D8 (by omega) (by rw [List.length_append]; simp; omega)),List.append_assoc]
    have:Nj [rows[k]] r=[rows[k][r]]:=by simp [Nj,hlt]
    rw [this]
   ·rw [if_neg (by simp; omega)]
    have:Nj [rows[k]] r=[]:=by
     unfold Nj
     rw [List.filterMap_eq_nil_iff]
     intro l hl
     rw [List.mem_singleton.1 hl]
     exact List.getElem?_eq_none (by omega)
    rw [this,List.append_nil]
  rw [if_pos (by simp; omega),JT hk,OS,e,OS]) (fun f=>by
  show Bc (w,rows) (r:Int) (f + 1) (rows.length:Int) (acc++Nj (rows.take rows.length) r)=_
  conv=>lhs; unfold Bc
  rw [if_neg (by simp),List.take_length])
 have h':Bc (w,rows) (r:Int) 100000 0 (acc++Nj [] r)=some (acc++Nj rows r):=h
 rwa [show Nj [] r=[] from rfl,List.append_nil] at h'
theorem Z4 (w:List (List UInt8)) (rows:List (List Int)) (hr:rows.length<=100) (g:List Aq) (hg:g.length<=100):Bb g (w,rows) 100000 0 []=some (TI rows g.length):=by
 exact QU (σ:=List Int) g.length (fun k=>TI rows k) (some (TI rows g.length)) (fun f c s=>Bb g (w,rows) f c s) (by omega) (fun k hk f=>by
  show Bb g (w,rows) (f + 1) (k:Int) (TI rows k)=Bb g (w,rows) f _ (TI rows (k + 1))
  conv=>lhs; unfold Bb
  have hl:=Pj rows k
  have:k * rows.length<=100 * 100:=Nat.mul_le_mul (by omega) hr
  rw [if_pos (by simp; omega),Z6 w rows (by omega) k (by omega) _ (by omega),OS,Nk]) (fun f=>by
  show Bb g (w,rows) (f + 1) (g.length:Int) _=_
  conv=>lhs; unfold Bb
  rw [if_neg (by simp)])
section
variable {x0:List AL}{x1:List (List UInt8)}{x2:Int}{p:AL->Bool}(hp:∀ v ∈ x0,Ci v x1 x2=some (p v)) (hn:x0.length<=1000)
include hp hn
theorem Pm:∀ (d j i f:Nat) (c5:List AL),i<=j->j + d=x0.length->d < f->c5.length=x0.length->c5.take i=(x0.take j).filter (fun v=>!p v)->c5.drop j=x0.drop j->∃ (i':Nat) (c':List AL),AW x1 x2 f (i:Int) (j:Int) c5=some ((i':Int),c')/\i'<=i + d/\c'.length=x0.length/\c'.take i'=x0.filter (fun v=>!p v)
 | 0,j,i,f + 1,c5,_,hj,_,hl,ht,_=>by
  refine ⟨i,c5,?_,by omega,hl,?_⟩
  ·unfold AW
   rw [if_neg (by simp; omega)]
  ·rw [ht,List.take_of_length_le (by omega)]
 | d + 1,j,i,f + 1,c5,hij,hj,hf,hl,ht,hd=>by
  have hjl:j < x0.length:=by omega
  have hv:c5[j]? = x0[j]?:=by
   have:=congrArg (fun l:List AL=>l[0]?) hd
   simpa using this
  have hc:c5[j]'(by omega)=x0[j]:=by
   rw [List.getElem?_eq_getElem (by omega),List.getElem?_eq_getElem hjl] at hv
   exact OI hv
  have hstep:(x0.take (j + 1)).filter (fun v=>!p v)=(x0.take j).filter (fun v=>!p v)++if p x0[j]=true then [] else [x0[j]]:=by
   rw [List.take_succ_eq_append_getElem hjl,List.filter_append]
   cases h:p x0[j] <;> simp [h]
  have hdr:∀ c:List AL,c.drop j=x0.drop j->c.drop (j + 1)=x0.drop (j + 1):=fun c h=>by
   have:=congrArg (List.drop 1) h
   simpa [List.drop_drop,Nat.add_comm] using this
  cases hpj:p x0[j] with
  | true =>
   rw [hpj,if_pos rfl,List.append_nil] at hstep
   obtain ⟨i',c',e1,e2,e3,e4⟩:=Pm d (j + 1) i f c5 (by omega) (by omega) (by omega) hl (by rw [hstep]; exact ht) (hdr c5 hd)
   refine ⟨i',c',?_,by omega,e3,e4⟩
   unfold AW
   rw [if_pos (by simp; omega),JT (by omega),OS,hc,hp _ (List.getElem_mem hjl),OS,hpj]
   show (Af (i:Int) c5 x0[j] true).bind _=_
   unfold Af
   rw [if_neg (by simp),OS,QI (by omega) (by omega),show ((j:Int) + 1)=((j + 1:Nat):Int) by omega]
   exact e1
  | false =>
   rw [hpj,if_neg (by simp)] at hstep
   have hil:i < c5.length:=by omega
   obtain ⟨i',c',e1,e2,e3,e4⟩:=Pm d (j + 1) (i + 1) f (c5.set i x0[j]) (by omega) (by omega) (by omega) (by simp [hl]) (by
    rw [hstep,<-ht,List.take_succ_eq_append_getElem (by simp; omega),List.take_set_of_le (Nat.le_refl _)]
    simp) (by
    rw [List.drop_set_of_lt (by omega)]
    exact hdr c5 hd)
   refine ⟨i',c',?_,by omega,e3,e4⟩
   unfold AW
   rw [if_pos (by simp; omega),JT (by omega),OS,hc,hp _ (List.getElem_mem hjl),OS,hpj]
   show (Af (i:Int) c5 x0[j] false).bind _=_
   unfold Af
   rw [if_pos (by rfl),JT hil,OS,OS,QI (n:=(i:Int) + 1) (by omega) (by omega),QI (n:=(j:Int) + 1) (by omega) (by omega),show ((j:Int) + 1)=((j + 1:Nat):Int) by omega,show ((i:Int) + 1)=((i + 1:Nat):Int) by omega,Int.toNat_natCast]
   exact e1
theorem Th:(AO x0 (x1,x2)=some (-1)/\∀ v ∈ x0,p v=false)\/∃ i:Nat,AO x0 (x1,x2)=some (i:Int)/\i < x0.length/\(x0.take (i + 1)).filter (fun v=>!p v)=x0.take i:=by
 have go:∀ (r pre:List AL) (f:Nat),x0=pre++r->r.length < f->(∀ v ∈ pre,p v=false)->(AG x0 (x1,x2) f (pre.length:Int)=some (.inl ())/\∀ v ∈ x0,p v=false)\/∃ i:Nat,AG x0 (x1,x2) f (pre.length:Int)=some (.inr (i:Int))/\i < x0.length/\(x0.take (i + 1)).filter (fun v=>!p v)=x0.take i:=by
  intro r
  induction r with
  | nil =>
   intro pre f e hf hk
   obtain ⟨f,rfl⟩:∃ q,f=q + 1:=⟨f - 1,by simp at hf; omega⟩
   refine .inl ⟨?_,fun v hv=>hk v (by rw [e] at hv; simpa using hv)⟩
   unfold AG
   rw [if_neg (by rw [e]; simp)]
  | cons v r ih =>
   intro pre f e hf hk
   obtain ⟨f,rfl⟩:∃ q,f=q + 1:=⟨f - 1,by simp at hf; omega⟩
   simp only [List.length_cons] at hf
   have hl:x0.length=pre.length + r.length + 1:=by rw [e]; simp; omega
   have hv:=hp v (by rw [e]; simp)
   have hstep:AG x0 (x1,x2) (f + 1) (pre.length:Int)=if p v=true then some (.inr (pre.length:Int)) else AG x0 (x1,x2) f ((pre++[v]).length:Int):=by
    conv=>lhs; unfold AG
    rw [if_pos (by rw [e]; exact HS pre v r),show idx x0 (pre.length:Int)=some v by rw [e,Do],OS,hv,OS,FV pre v r (by rw [<-e]; omega)]
   rw [hstep]
   cases hpv:p v with
   | true =>
    refine .inr ⟨pre.length,by rw [if_pos rfl],by omega,?_⟩
    have e1:x0.take (pre.length + 1)=pre++[v]:=by
     rw [e,show pre++v::r=(pre++[v])++r by simp]
     exact List.take_left' (by simp)
    have e2:x0.take pre.length=pre:=by rw [e]; exact List.take_left' rfl
    rw [e1,e2,List.filter_append,List.filter_eq_self.2 (fun w hw=>by simp [hk w hw])]
    simp [hpv]
   | false =>
    rw [if_neg (by simp)]
    exact ih (pre++[v]) f (by rw [e]; simp) (by omega) fun w hw=>by
     rcases List.mem_append.1 hw with h | h
     ·exact hk w h
     ·rw [List.mem_singleton.1 h]; exact hpv
 unfold AO
 rcases go x0 [] 100000 rfl (by omega) (fun v hv=>by cases hv) with ⟨h,k⟩ | ⟨i,h,k⟩
 ·have h':AG x0 (x1,x2) 100000 0=some (.inl ()):=h
  exact .inl ⟨by rw [h']; rfl,k⟩
 ·have h':AG x0 (x1,x2) 100000 0=some (.inr (i:Int)):=h
  exact .inr ⟨i,by rw [h']; rfl,k⟩
theorem Zf:BA x0 x1 x2=some (x1,x2,x0.filter fun v=>!p v):=by
 unfold BA
 rcases Th hp hn with ⟨h,k⟩ | ⟨i,h,k1,k2⟩
 ·rw [h,OS,if_pos (by rfl),List.filter_eq_self.2 (fun v hv=>by simp [k v hv])]
 ·obtain ⟨i',c',e1,e2,e3,e4⟩:=Pm hp hn (x0.length - (i + 1)) (i + 1) i 100000 x0 (by omega) (by omega) (by omega) rfl k2.symm rfl
  rw [h,OS,if_neg (by simp <;> omega),QI (by omega) (by omega),show ((i:Int) + 1)=((i + 1:Nat):Int) by omega,e1,OS]
  have hi':i' < c'.length:=by omega
  show (if (Xj (i':Int) c'.length)=true then _ else none)=_
  rw [if_pos (by unfold Xj; simp <;> omega),Int.toNat_natCast,if_pos (by unfold YF; simp <;> omega),List.take_append_of_le_length (by simp; omega),List.take_take,Nat.min_self,e4]
end
/- trestle/trestlelaw03.FewAll$1 -/
/- slices.IndexFunc[[][]trestle/api.Clause,[]trestle/api.Clause] -/
/- slices.ContainsFunc[[][]trestle/api.Clause,[]trestle/api.Clause] -/
/- trestle/trestlelaw03.FewAll -/
/- trestle/trestlelaw03.CopyAll -/
/- slices.EqualFunc[[][]trestle/api.Clause,[][]trestle/api.Clause,[]trestle/api.Clause,[]trestle/api.Clause] -/
/- trestle/trestlelaw03.SameAll -/
/- trestle/trestlelaw03.CourtTurns$1 -/
/- slices.IndexFunc[[]string,string] -/
/- slices.ContainsFunc[[]string,string] -/
/- trestle/trestlelaw03.turns -/
/- trestle/trestlelaw03.CourtTurns -/
theorem W9 (g:List Aq) (h:g.length<=99999):HQ g=some (FX g 0):=by
 unfold HQ
 have:Cp g 100000 0 []=some (FX g 0):=by
  have:=QU (σ:=List AL) g.length (fun i=>FX (g.take i) 0) (some (FX g 0)) (fun f c s=>Cp g f c s) h (fun i hi f=>by
   show Cp g (f + 1) (i:Int) (FX (g.take i) 0)=_
   conv=>lhs; unfold Cp
   rw [if_pos (by simp; omega),JT hi,OS,if_pos (D8 (by omega) (by rw [Mj]; simp; omega))]
   have e:FX (g.take (i + 1)) 0=FX (g.take i) 0++[(g[i],(i:Int))]:=by
    rw [List.take_succ_eq_append_getElem hi,OA]; simp; omega
   rw [e]) (fun f=>by
   show Cp g (f + 1) (g.length:Int) (FX (g.take g.length) 0)=_
   conv=>lhs; unfold Cp
   rw [if_neg (by simp),List.take_length])
  exact this
 rw [this]; rfl
/-- Is a guest of a court? -/
def ofC (s:List UInt8) (v:AL):Bool:=v.1.2.2.1==s
section
variable {l:List (List AE)}{w:List (List UInt8)}{g:List Aq}(hl:∀ c ∈ l,few c) (hlw:l.length=w.length) (h16:l.length<=16) (hw:∀ s ∈ w,s.length<=40) (hg:FewR g) (hn:g.length<=20)
include hl hlw h16 hw hg hn
omit hl hlw h16 hw hg in
theorem Yq (R:List (List Int)) (hwl:w.length<=1000) (acc:List Int) (ha:acc.length<=100000):Bd g (w,R) 100000 0 acc=some (acc++toG ((List.range g.length).filter fun x=>!GM w (gAt g x).2.2.1)):=by
 have h:=QU (σ:=List Int) g.length (fun i=>acc++toG ((List.range i).filter fun x=>!GM w (gAt g x).2.2.1)) (some (acc++toG ((List.range g.length).filter fun x=>!GM w (gAt g x).2.2.1))) (fun f c s=>Bd g (w,R) f c s) (by omega) (fun i hi f=>by
  show Bd g (w,R) (f + 1) (i:Int) (acc++toG ((List.range i).filter fun x=>!GM w (gAt g x).2.2.1))=_
  conv=>lhs; unfold Bd
  have hl:((List.range i).filter fun x=>!GM w (gAt g x).2.2.1).length<=i:=by
   have:=List.length_filter_le (fun x=>!GM w (gAt g x).2.2.1) (List.range i)
   simpa using this
  have e:EK (i:Int) (acc++toG ((List.range i).filter fun x=>!GM w (gAt g x).2.2.1)) (GM w (gAt g i).2.2.1)=some (acc++toG ((List.range (i + 1)).filter fun x=>!GM w (gAt g x).2.2.1)):=by
   unfold EK
   rw [List.range_succ,List.filter_append,Lb]
   by_cases hb:(!GM w (gAt g i).2.2.1)=true
   ·rw [if_pos hb,if_pos (D8 (by omega) (by simp only [List.length_append,Fn]; simp; omega))]
    simp [hb,toG,pI]
   ·rw [if_neg hb]
    simp [hb,toG]
  rw [if_pos (by simp; omega),S1 g hi,OS,GF _ _ (show w.length<=99999 by omega),OS,e,OS]) (fun f=>by
  show Bd g (w,R) (f + 1) (g.length:Int) _=_
  conv=>lhs; unfold Bd
  rw [if_neg (by simp)])
 have h':Bd g (w,R) 100000 0 (acc++[])=_:=h
 rwa [List.append_nil] at h'
end
theorem WQ:((List.range 256).all fun n=>decide (0<=D7 .u8 ((n:Int).fdiv 8) 3)&&decide (D7 .u8 ((n:Int).fdiv 8) 3 < 4)&&(decide (0<=D7 .u8 ((n:Int).fdiv 16) 3)&&decide (D7 .u8 ((n:Int).fdiv 16) 3 < 4)))=true:=by kernel_rfl
theorem Y9 {a:Int}(h:u8 a):(0<=D7 .u8 (a.fdiv 8) 3/\D7 .u8 (a.fdiv 8) 3 < 4)/\0<=D7 .u8 (a.fdiv 16) 3/\D7 .u8 (a.fdiv 16) 3 < 4:=by
 obtain ⟨n,rfl⟩:=Int.eq_ofNat_of_zero_le h.1
 have hn:n < 256:=by have:=h.2; omega
 have:=List.all_eq_true.1 WQ n (by simpa using hn)
 simp only [Bool.and_eq_true,decide_eq_true_eq] at this
 exact ⟨this.1,this.2⟩
theorem Ww (x:Int×Int) (nm:List UInt8) (h1:u8 x.1):∃ r,FM x nm=some r/\r.1=x.1/\r.2.1=x.2:=by
 obtain ⟨⟨a1,a2⟩,_⟩:=Y9 h1
 obtain ⟨d1,d2⟩:=Wf a1 a2
 unfold FM
 by_cases hc:((D7 .u8 x.1 4)!=0)=true
 ·rw [if_pos hc,if_pos d1,if_pos d2]; exact ⟨_,rfl,rfl,rfl⟩
 ·rw [if_neg hc]; exact ⟨_,rfl,rfl,rfl⟩
theorem Wx (r) (h2:u8 r.2.1):∃ r',FN r=some r'/\r'.1=r.1/\r'.2.1=r.2.1:=by
 obtain ⟨⟨a1,a2⟩,_⟩:=Y9 h2
 obtain ⟨d1,d2⟩:=Wf a1 a2
 unfold FN
 by_cases hc:((D7 .u8 r.2.1 4)!=0)=true
 ·rw [if_pos hc,if_pos d1,if_pos d2]; exact ⟨_,rfl,rfl,rfl⟩
 ·rw [if_neg hc]; exact ⟨_,rfl,rfl,rfl⟩
theorem Wy (r) (h1:u8 r.1):∃ r',FO r=some r'/\r'.1=r.1/\r'.2.1=r.2.1/\r'.2.2.2.2.2.2.2.2.2.2.2.2.2.2.2.2.2.2.length<=1:=by
 obtain ⟨_,a1,a2⟩:=Y9 h1
 obtain ⟨d1,d2⟩:=Wf a1 a2
 unfold FO
 by_cases hc:((D7 .u8 r.2.1 64)!=0)=true
 ·rw [if_pos hc,if_pos d1,if_pos d2]; exact ⟨_,rfl,rfl,rfl,by simp⟩
 ·rw [if_neg hc]; exact ⟨_,rfl,rfl,rfl,by simp⟩
theorem Wz (r) (h2:u8 r.2.1):∃ r',FP r=some r'/\r'.2.2.2.2.2.2.2.2.2.2.2.2.2.2.2.2=r.2.2.2.2.2.2.2.2.2.2.2.2.2.2.2.2.2.2:=by
 obtain ⟨_,a1,a2⟩:=Y9 h2
 obtain ⟨d1,d2⟩:=Wf a1 a2
 unfold FP
 by_cases hc:((D7 .u8 r.1 128)!=0)=true
 ·rw [if_pos hc,if_pos d1,if_pos d2]; exact ⟨_,rfl,rfl⟩
 ·rw [if_neg hc]; exact ⟨_,rfl,rfl⟩
theorem VJ (x:Int×Int) (nm:List UInt8) (h1:u8 x.1) (h2:u8 x.2):∃ g,FD x nm=some g/\Ot g:=by
 obtain ⟨r1,e1,p1,q1⟩:=Ww x nm h1
 obtain ⟨r2,e2,p2,q2⟩:=Wx r1 (q1 ▸ h2)
 obtain ⟨r3,e3,p3,q3,t3⟩:=Wy r2 (by rw [p2,p1]; exact h1)
 obtain ⟨r4,e4,t4⟩:=Wz r3 (by rw [q3,q2,q1]; exact h2)
 refine ⟨r4.2.2.2.2.2.2.2.2,?_,?_⟩
 ·unfold FD
  rw [e1,OS,e2,OS,e3,OS,e4]; rfl
 ·unfold Ot
  rw [t4]; omega
theorem ok3 (a b:Int):okB ([103]++by8 [a,b])=true:=rfl
/- cmp.Less[int] -/
/- slices.IsSorted[[]int,int] -/
/- trestle/trestlelaw03.CourtGroups -/
section
variable {c:List AE}{g:List Aq}(hc:few c) (hv:(Kt c).2=0) (hg:FewR g) (hn:g.length<=20){L:List (List Nat)}(hL:GL (fN c g) pI L) (hall:∀ x,x ∈ L.flatten↔x < g.length){s:List Int}(hs:Zp L g.length L.length s) (v5:List Int×Int)
include hc hv hg hn hL hall hs
end
/- trestle/trestlelaw03.CourtMoved$2 -/
/- slices.IndexFunc[[]trestle/api.Guest,trestle/api.Guest] -/
/- trestle/trestlelaw03.CourtMoved$1 -/
/- slices.IndexFunc[[]trestle/api.Clause,trestle/api.Clause] -/
/- slices.DeleteFunc[[]trestle/api.Clause,trestle/api.Clause] -/
/- trestle/trestlelaw03.CourtMoved -/
section
variable {x0:List AE}(hn:x0.length<=1000)
include hn
end
/-- The name of a guest of numbers. -/
def nmI (i:Nat):List UInt8:=[103]++(by8 [(wr .u8 (wr .i64 (97 + (wr .i64 ((i:Int).tdiv 26))))),(wr .u8 (wr .i64 (97 + ((i:Int).tmod 26))))])
theorem XK:((List.range 20).all fun i=>(List.range 20).all fun j=>(i==j)||!(nmI i==nmI j))=true:=by kernel_rfl
theorem XL {i j:Nat}(hi:i < 20) (hj:j < 20) (h:nmI i=nmI j):i=j:=by
 have:=List.all_eq_true.1 (List.all_eq_true.1 XK i (by simpa using hi)) j (by simpa using hj)
 rw [h] at this
 simpa using this
theorem VK {x:Int×Int}{nm:List UInt8}{g:Aq}(h:FD x nm=some g):g.1=nm:=by
 unfold FD at h
 obtain ⟨r1,e1,h⟩:=OB h
 obtain ⟨r2,e2,h⟩:=OB h
 obtain ⟨r3,e3,h⟩:=OB h
 obtain ⟨r4,e4,h⟩:=OB h
 have k1:r1.2.2.2.2.2.2.2.2.2.2.1=nm:=by
  unfold FM at e1
  repeat' split at e1
  all_goals first | (cases e1; done) | (injection e1 with e1; subst e1; rfl)
 have k2:r2.2.2.2.2.2.2.2.2.2.2.1=r1.2.2.2.2.2.2.2.2.2.2.1:=by
  unfold FN at e2
  repeat' split at e2
  all_goals first | (cases e2; done) | (injection e2 with e2; subst e2; rfl)
 have k3:r3.2.2.2.2.2.2.2.2.2.2.1=r2.2.2.2.2.2.2.2.2.2.2.1:=by
  unfold FO at e3
  repeat' split at e3
  all_goals first | (cases e3; done) | (injection e3 with e3; subst e3; rfl)
 have k4:r4.2.2.2.2.2.2.2.2.1=r3.2.2.2.2.2.2.2.2.2.2.1:=by
  unfold FP at e4
  repeat' split at e4
  all_goals first | (cases e4; done) | (injection e4 with e4; subst e4; rfl)
 injection h with h
 rw [<-h,k4,k3,k2,k1]
theorem PH (x0:List (Int×Int)) (n:Int) (ys:List (Int×Int)) (hys:((x0.take (mnI (x0.length:Int) n).toNat).drop (0:Int).toNat)=ys) (hb:∀ v ∈ ys,u8 v.1/\u8 v.2) (h20:ys.length<=20):∀ (r pre:List (Int×Int)) (c2:List Aq) (f:Nat),ys=pre++r->r.length < f->c2.length=pre.length->(∀ g ∈ c2,Ot g)->(∀ i,i < c2.length->(gAt c2 i).1=nmI i) ->
  ∃ c,DV x0 n f c2 (pre.length:Int)=some c/\(∀ g ∈ c,Ot g)/\c.length=ys.length/\∀ i,i < c.length->(gAt c i).1=nmI i
 | [],pre,c2,f + 1,e,_,hl,hk,hm=>by
  refine ⟨c2,?_,hk,by rw [hl,e]; simp,hm⟩
  unfold DV
  rw [hys,if_neg (by rw [e]; simp)]
 | v::r,pre,c2,f + 1,e,hf,hl,hk,hm=>by
  have hv:=hb v (by rw [e]; simp)
  have hl2:ys.length=pre.length + r.length + 1:=by rw [e]; simp; omega
  simp only [List.length_cons] at hf
  obtain ⟨g,hg,hgf⟩:=VJ (v.1,v.2) ([103]++(by8 [(wr .u8 (wr .i64 (97 + (wr .i64 ((pre.length:Int).tdiv 26))))),(wr .u8 (wr .i64 (97 + ((pre.length:Int).tmod 26))))])) hv.1 hv.2
  have hgn:g.1=nmI pre.length:=VK hg
  obtain ⟨c,q1,q2,q3,q4⟩:=PH x0 n ys hys hb h20 r (pre++[v]) (c2++[g]) f (by rw [e]; simp) (by omega) (by simp [hl]) (fun y hy=>by
   rcases List.mem_append.1 hy with hy | hy
   ·exact hk y hy
   ·rw [List.mem_singleton.1 hy]; exact hgf) (fun i hi=>by
   rw [List.length_append,List.length_singleton] at hi
   by_cases h:i < c2.length
   ·have:gAt (c2++[g]) i=gAt c2 i:=by
     unfold gAt
     rw [List.getD_eq_getElem?_getD,List.getD_eq_getElem?_getD,List.getElem?_append_left h]
    rw [this]; exact hm i h
   ·have hi':i=c2.length:=by omega
    have:gAt (c2++[g]) i=g:=by
     unfold gAt
     rw [List.getD_eq_getElem?_getD,hi',List.getElem?_append_right (Nat.le_refl _)]
     simp
    rw [this,hgn,hi',hl])
  refine ⟨c,?_,q2,q3,q4⟩
  rw [<-q1]
  conv=>lhs; unfold DV
  rw [hys,if_pos (by rw [e]; exact HS pre v r),show idx ys (pre.length:Int)=some v by rw [e,Do],OS,if_pos (ok3 _ _),hg,OS,if_pos (D8 (by omega) (by omega)),FV pre v r (by rw [<-e]; omega)]
theorem Tz (x0:List (Int×Int)) (n:Nat) (hn:n<=20) (hb:∀ v ∈ x0,u8 v.1/\u8 v.2):∃ c,Er x0 (n:Int)=some c/\FewR c/\c.length<=n/\∀ i,i < c.length->(gAt c i).1=nmI i:=by
 have hm:0<=mnI (x0.length:Int) n/\mnI (x0.length:Int) n<=n/\mnI (x0.length:Int) n<=x0.length:=by
  unfold mnI
  split <;> omega
 have h8:((x0.take (mnI (x0.length:Int) n).toNat).drop (0:Int).toNat).length<=n:=by
  rw [List.length_drop,List.length_take]; omega
 obtain ⟨c,h1,h2,h3,h4⟩:=PH x0 n _ rfl (fun v hv=>hb v (List.mem_of_mem_take (List.mem_of_mem_drop hv))) (Nat.le_trans h8 hn) _ [] [] 100000 rfl (Nat.lt_of_le_of_lt h8 (by omega)) rfl (fun g hg=>by simp at hg) (fun i hi=>by simp at hi)
 refine ⟨c,?_,⟨by omega,h2⟩,by omega,h4⟩
 unfold Er
 rw [if_pos (by unfold DK; simp; omega)]
 have e:DV x0 n 100000 [] 0=some c:=h1
 rw [e]; rfl
def nmC:AE:=(8,[],false,[],0)
theorem XI (pre:List AE):chk pre nmC=0:=by
 have h1:fm nmC=true:=by kernel_rfl
 unfold chk
 rw [h1]
 simp [nmC,Ti]
theorem XJ:Wl nmC:=⟨by simp [nmC],by simp [nmC],fun s hs=>by simp [nmC] at hs⟩
theorem YD {a b:List UInt8}(h:RH a b=0):a=b:=by
 unfold RH at h
 split at h
 ·exact absurd h (by decide)
 ·next h1 =>
  split at h
  ·exact absurd h (by decide)
  ·next h2 =>
   by_cases e:a=b
   ·exact e
   ·exfalso
    apply h2
    simp [h1,e]
theorem Yj {c0:List AE}{a b:Aq}{i j:Int}(h:a.1≠b.1):PG (c0++[nmC]) a b i j≠0:=by
 rw [TZ]
 by_cases h0:PG c0 a b i j=0
 ·rw [if_pos h0,Ta]
  intro e
  have:dir nmC a b i j=RH a.1 b.1:=by
   unfold dir amB NI nmC
   simp
  rw [this] at e
  exact h (YD e)
 ·rw [if_neg h0]; exact h0
theorem NT (s:List UInt8):∀ l:List (List UInt8),GM l s=true↔s ∈ l
 | []=>by
  have e:GM [] s=false:=rfl
  rw [e]; simp
 | v::r=>by
  have e:GM (v::r) s=((s==v)||GM r s):=rfl
  rw [e,Bool.or_eq_true,beq_iff_eq,NT s r,List.mem_cons]
theorem UO (s:List UInt8):∀ (l:List (List UInt8)) (i:Nat),s ∈ l->∃ k,rkN s l i=i + k/\l[k]? = some s
 | v::r,i,h=>by
  unfold rkN
  by_cases e:(s==v)=true
  ·rw [if_pos e]
   refine ⟨0,by omega,?_⟩
   rw [beq_iff_eq] at e
   rw [e]; rfl
  ·rw [if_neg e]
   have hr:s ∈ r:=by
    rcases List.mem_cons.1 h with h | h
    ·exact absurd (by simpa using h) e
    ·exact h
   obtain ⟨k,h1,h2⟩:=UO s r (i + 1) hr
   exact ⟨k + 1,by omega,by simpa using h2⟩
/-- The court of a guest: its number, 4 if it is none of them. -/
def WZ (w:List (List UInt8)) (s:List UInt8):Nat:=if GM w s=true then rkN s w 0 else 4
theorem Nh {w:List (List UInt8)}(s:List UInt8):(GM w s=true/\WZ w s < w.length/\w[WZ w s]? = some s)\/(GM w s=false/\WZ w s=4):=by
 unfold WZ
 cases hb:GM w s with
 | true =>
  obtain ⟨q,q1,q2⟩:=UO s w 0 ((NT s w).1 hb)
  refine .inl ⟨rfl,?_,?_⟩
  ·rw [if_pos rfl,q1]
   have:=(List.getElem?_eq_some_iff.1 q2).1
   omega
  ·rw [if_pos rfl,q1,Nat.zero_add]; exact q2
 | false=>exact .inr ⟨rfl,by rw [if_neg (by simp)]⟩
theorem nodup_at {α:Type}{w:List α}(hd:w.Nodup){i j:Nat}{s:α}(hi:w[i]? = some s) (hj:w[j]? = some s):i=j:=by
 obtain ⟨i1,i2⟩:=List.getElem?_eq_some_iff.1 hi
 obtain ⟨j1,j2⟩:=List.getElem?_eq_some_iff.1 hj
 rcases Nat.lt_trichotomy i j with h | h | h
 ·exact absurd (i2.trans j2.symm) (List.pairwise_iff_getElem.1 hd i j i1 j1 h)
 ·exact h
 ·exact absurd (j2.trans i2.symm) (List.pairwise_iff_getElem.1 hd j i j1 i1 h)
theorem Wa {w:List (List UInt8)}(hd:w.Nodup) (h4:w.length<=4){s:List UInt8}{k:Nat}(hk:k < w.length):WZ w s=k↔w[k]? = some s:=by
 rcases Nh (w:=w) s with ⟨a1,a2,a3⟩ | ⟨a1,a2⟩
 ·constructor
  ·intro e; rw [<-e]; exact a3
  ·intro e; exact nodup_at hd a3 e
 ·constructor
  ·intro e; omega
  ·intro e
   have:=(NT s w).2 (List.mem_of_getElem? e)
   rw [a1] at this; cases this
theorem W0 (l:List (List UInt8)) (s:List UInt8) (h:l.length<=99999):A4 l s=some (if GM l s=true then (rkN s l 0:Int) else -1):=by
 unfold A4
 have e:Ac l s 100000 0=some (if GM l s=true then .inr (rkN s l 0:Int) else .inl ()):=by
  rw [<-SL]
  refine KW l (Ac l s) _ _ 100000 (by omega) (fun f pre v r e=>?_) (fun f=>?_)
  ·conv=>lhs; unfold Ac
   rw [if_pos (by rw [e]; exact HS pre v r),show idx l (pre.length:Int)=some v by rw [e,Do],OS,FV pre v r (by rw [<-e]; omega)]
  ·conv=>lhs; unfold Ac
   rw [if_neg (by simp)]
 rw [e]
 cases GM l s <;> rfl
/-- The court of a guest at a place. -/
def cls (w:List (List UInt8)) (g:List Aq) (x:Nat):Nat:=WZ w (gAt g x).2.2.1
theorem AAE (w:List (List UInt8)) (g:List Aq) (h:w.length<=1000){x:Nat}(hx:x < g.length):C6 (x:Int) w g=some ((cls w g x:Int),w,g):=by
 unfold C6
 rw [S1 g hx,OS,W0 _ _ (by omega),OS]
 unfold cls WZ
 cases hb:GM w (gAt g x).2.2.1 with
 | true=>rw [if_pos rfl,if_pos rfl,if_pos (by simp)]
 | false=>rw [if_neg (by simp),if_neg (by simp)]; rfl
-- rows
def colRN (RN:List (List Nat)) (r:Nat):List Nat:=RN.filterMap fun l=>l[r]?
def IR (RN:List (List Nat)) (n:Nat):List Nat:=(List.range n).flatMap (colRN RN)
theorem U3 (RN:List (List Nat)) (r:Nat):Nj (toI RN) r=toG (colRN RN r):=by
 unfold Nj colRN toI toG
 rw [List.filterMap_map,List.map_filterMap]
 congr 1
 funext l
 simp
theorem MJ (RN:List (List Nat)) (n:Nat):IR RN (n + 1)=IR RN n++colRN RN n:=by
 unfold IR
 rw [List.range_succ,List.flatMap_append]; simp
theorem SC (RN:List (List Nat)):∀ n,TI (toI RN) n=toG (IR RN n)
 | 0=>rfl
 | n + 1=>by rw [Nk,MJ,SC RN n,U3,Lb]
section
variable {cl:Nat->Nat}{RN:List (List Nat)}(hR:∀ j,j < RN.length->∀ x ∈ RN.getD j [],cl x=j)
include hR
theorem V2 (r k:Nat):∀ j,j<=RN.length->(colRN (RN.take j) r).filter (fun x=>cl x==k)=if k < j then ((RN.getD k [])[r]?).toList else []:=by
 intro j
 induction j with
 | zero=>intro _; simp [colRN]
 | succ j ih =>
  intro hj
  have hg:RN.getD j []=RN[j]:=by rw [List.getD_eq_getElem?_getD,List.getElem?_eq_getElem (by omega)]; rfl
  have e1:colRN (RN.take (j + 1)) r=colRN (RN.take j) r++((RN.getD j [])[r]?).toList:=by
   rw [List.take_succ_eq_append_getElem (by omega),hg]
   unfold colRN
   rw [List.filterMap_append]
   congr 1
  rw [e1,List.filter_append,ih (by omega)]
  by_cases hkj:k=j
  ·subst hkj
   rw [if_neg (by omega),if_pos (by omega),List.nil_append,List.filter_eq_self.2]
   intro x hx
   have hx':(RN.getD k [])[r]? = some x:=by simpa using hx
   have:=hR k (by omega) x (List.mem_of_getElem? hx')
   simp [this]
  ·have e2:(((RN.getD j [])[r]?).toList).filter (fun x=>cl x==k)=[]:=by
    rw [List.filter_eq_nil_iff]
    intro x hx
    have hx':(RN.getD j [])[r]? = some x:=by simpa using hx
    have:=hR j (by omega) x (List.mem_of_getElem? hx')
    simp [this]; omega
   rw [e2,List.append_nil]
   by_cases h:k < j
   ·rw [if_pos h,if_pos (by omega)]
   ·rw [if_neg h,if_neg (by omega)]
theorem SJ (k:Nat) (hk:k < RN.length):∀ r,(IR RN r).filter (fun x=>cl x==k)=(RN.getD k []).take r
 | 0=>by simp [IR]
 | r + 1=>by
  have:=V2 hR r k RN.length (Nat.le_refl _)
  rw [List.take_length,if_pos hk] at this
  rw [MJ,List.filter_append,SJ k hk r,this,List.take_add_one]
end
theorem P9 (r:Nat) (x:Nat) (S:List Nat):∀ (RN:List (List Nat)) (az:List Nat),colRN RN r=az++x::S->∃ j,j < RN.length/\az=colRN (RN.take j) r/\(RN.getD j [])[r]? = some x
 | [],az,h=>by simp [colRN] at h
 | a::RN,az,h=>by
  have e1:∀ M:List (List Nat),colRN (a::M) r=(a[r]?).toList++colRN M r:=fun M=>by
   unfold colRN
   rw [List.filterMap_cons]
   cases a[r]? <;> rfl
  rw [e1] at h
  cases ha:a[r]? with
  | none =>
   rw [ha] at h
   obtain ⟨j,h1,h2,h3⟩:=P9 r x S RN az h
   refine ⟨j + 1,by simp; omega,?_,by simpa using h3⟩
   rw [List.take_succ_cons,e1,ha]; exact h2
  | some y =>
   rw [ha] at h
   cases az with
   | nil =>
    have:y=x:=by
     have:=congrArg List.head? h
     simpa using this
    subst this
    exact ⟨0,by simp,by simp [colRN],by simpa using ha⟩
   | cons z az =>
    have hz:y::colRN RN r=z::(az++x::S):=h
    injection hz with hz1 hz2
    subst hz1
    obtain ⟨j,h1,h2,h3⟩:=P9 r x S RN az hz2
    refine ⟨j + 1,by simp; omega,?_,by simpa using h3⟩
    rw [List.take_succ_cons,e1,ha,h2]; rfl
theorem UX (RN:List (List Nat)) (x:Nat):∀ (n:Nat) (P S:List Nat),IR RN n=P++x::S->∃ r j,r < n/\j < RN.length/\P=IR RN r++colRN (RN.take j) r/\(RN.getD j [])[r]? = some x
 | 0,P,S,h=>by simp [IR] at h
 | n + 1,P,S,h=>by
  rw [MJ] at h
  rcases List.append_eq_append_iff.1 h with ⟨az,h1,h2⟩ | ⟨bs,h1,h2⟩
  ·obtain ⟨j,q1,q2,q3⟩:=P9 n x S RN az h2
   exact ⟨n,j,by omega,q1,by rw [h1,q2],q3⟩
  ·cases bs with
   | nil =>
    obtain ⟨j,q1,q2,q3⟩:=P9 n x S RN [] (by simpa using h2.symm)
    exact ⟨n,j,by omega,q1,by rw [<-q2,h1]; simp,q3⟩
   | cons z bs =>
    injection h2 with h2 h3
    subst h2
    obtain ⟨r,j,q1,q2⟩:=UX RN x n P bs h1
    exact ⟨r,j,by omega,q2⟩
/-- The row of a court: its guests in the order of its text. -/
def Xw (l:List (List AE)) (w:List (List UInt8)) (g:List Aq) (j:Nat) (a:List Nat):Prop:=(∀ x,x ∈ a↔x < g.length/\(gAt g x).2.2.1=w.getD j [])/\a.Pairwise fun x y=>fN (l.getD j []) g x y < 0
section
variable {c c0:List AE}{g:List Aq}(hc:few c) (hv:(Kt c).2=0) (hg:FewR g) (hn:g.length<=20) (hnm:∀ x y,x < g.length->y < g.length->x≠y->(gAt g x).1≠(gAt g y).1) (he:c=c0++[nmC])
include hc hv hg hn hnm he
theorem XX (q:AL->Bool):∃ (G:List (List Int)) (a:List Nat),EL c ((FX g 0).filter q)=some G/\GO G=some (toG a,0)/\(∀ x,x ∈ a↔x < g.length/\q (sd g x)=true)/\a.Pairwise fun x y=>fN c g x y < 0:=by
 obtain ⟨L,h1,h2,hL,hall⟩:=UW hc hv hg hn q
 have hs:=(Xo g (IQ hv).2).s
 have hmem:∀ x,x ∈ L.flatten↔x < g.length/\q (sd g x)=true:=fun x=>by
  rw [hall,List.mem_filter,List.mem_range]
 have hnd:L.flatten.Nodup:=by
  refine List.pairwise_flatten.2 ⟨fun gr h=>(hL.tie gr h).imp fun h e=>by subst e; exact absurd h (Int.lt_irrefl _),hL.lt.imp fun h a ha b hb e=>?_⟩
  subst e
  have:=h a ha a hb
  have:=hs a a
  omega
 have hf:L.flatten.length<=g.length:=by
  have:=Id hnd (m:=List.range g.length) fun x hx=>List.mem_range.2 ((hmem x).1 hx).1
  simpa using this
 have hnum:∀ M:List (List Nat),(∀ gr ∈ M,gr≠[])->M.length<=M.flatten.length:=fun M hM=>by
  induction M with
  | nil=>simp
  | cons a M ih =>
   have:=ih fun gr h=>hM gr (List.mem_cons_of_mem _ h)
   have:=List.length_pos_iff.2 (hM a (by simp))
   simp only [List.flatten_cons,List.length_append,List.length_cons]
   omega
 have hl:=hnum L hL.ne
 have one:∀ gr ∈ L,∃ x,gr=[x]:=fun gr hgr=>by
  cases hq:gr with
  | nil=>exact absurd hq (hL.ne gr hgr)
  | cons a r =>
   cases r with
   | nil=>exact ⟨a,rfl⟩
   | cons b r =>
    exfalso
    have hab:=(List.pairwise_cons.1 (hq ▸ hL.tie gr hgr)).1 b (by simp)
    have h0:=hL.eq gr hgr a (by rw [hq]; simp) b (by rw [hq]; simp)
    have ha:=((hmem a).1 (List.mem_flatten.2 ⟨gr,hgr,by rw [hq]; simp⟩)).1
    have hb:=((hmem b).1 (List.mem_flatten.2 ⟨gr,hgr,by rw [hq]; simp⟩)).1
    rw [VB (by omega) (by omega)] at h0
    unfold cm at h0
    rw [he] at h0
    exact Yj (hnm a b ha hb (fun e=>by subst e; exact Int.lt_irrefl _ hab)) h0
 have hln:lnE L=true:=by
  unfold lnE
  rw [List.all_eq_true]
  intro gr hgr
  obtain ⟨x,rfl⟩:=one gr hgr
  rfl
 have hline:=Ya L hL.ne (by omega) (by omega)
 rw [if_pos hln] at hline
 refine ⟨toI L,L.flatten,h1,hline,hmem,List.pairwise_flatten.2 ⟨fun gr hgr=>?_,hL.lt.imp fun h a ha b hb=>by have:=h a ha b hb; omega⟩⟩
 obtain ⟨x,rfl⟩:=one gr hgr
 exact List.pairwise_singleton _ _
end
section
variable {l:List (List AE)}{w:List (List UInt8)}{g:List Aq}(hl:∀ c ∈ l,few c/\(Kt c).2=0/\∃ c0,c=c0++[nmC]) (hlw:l.length=w.length) (h4:l.length<=4) (hw:∀ s ∈ w,FJ s=true/\s.length<=40) (hwd:w.Nodup) (hg:FewR g) (hn:g.length<=20) (hnm:∀ x y,x < g.length->y < g.length->x≠y->(gAt g x).1≠(gAt g y).1)
include hl hlw h4 hw hwd hg hn hnm
theorem TO:∀ (r pre:List (List AE)) (f:Nat) (RN:List (List Nat)),l=pre++r->r.length < f->RN.length=pre.length->(∀ j,j < pre.length->Xw l w g j (RN.getD j []))->∃ RN',CH l g f (pre.length:Int) w (toI RN)=some (.inl (w,toI RN'))/\RN'.length=l.length/\∀ j,j < l.length->Xw l w g j (RN'.getD j [])
 | [],pre,f + 1,RN,e,_,hr,hx=>by
  have e':l=pre:=by rw [e]; simp
  refine ⟨RN,?_,by rw [hr,e'],by rw [e'] at hx ⊢; exact hx⟩
  unfold CH
  rw [if_neg (by rw [e]; simp)]
 | c::r,pre,f + 1,RN,e,hf,hr,hx=>by
  simp only [List.length_cons] at hf
  have hll:l.length=pre.length + r.length + 1:=by rw [e]; simp; omega
  have hkw:pre.length < w.length:=by omega
  obtain ⟨hcf,hcv,c0,hc0⟩:=hl c (by rw [e]; simp)
  have hic:idx l (pre.length:Int)=some c:=by rw [e,Do]
  have hiw:idx w (pre.length:Int)=some w[pre.length]:=JT hkw
  obtain ⟨hwn,hwl⟩:=hw _ (List.getElem_mem hkw)
  have hlt:(decide ((pre.length:Int) < (l.length:Int)))=true:=by rw [e]; exact HS pre c r
  have hcut:DK 0 (pre.length:Int) w.length=true:=by unfold DK; simp; omega
  have htl:((w.take (pre.length:Int).toNat).drop (0:Int).toNat).length<=99999:=by rw [List.length_drop,List.length_take]; omega
  have hhas:GM ((w.take (pre.length:Int).toNat).drop (0:Int).toNat) w[pre.length]=false:=by
   cases hb:GM ((w.take (pre.length:Int).toNat).drop (0:Int).toNat) w[pre.length] with
   | false=>rfl
   | true =>
    exfalso
    have hm:=(NT _ _).1 hb
    rw [Int.toNat_natCast] at hm
    have hm2:w[pre.length] ∈ w.take pre.length:=by simpa using hm
    obtain ⟨q,q1,q2⟩:=List.getElem_of_mem hm2
    rw [List.length_take] at q1
    rw [List.getElem_take] at q2
    have:=nodup_at hwd (i:=q) (j:=pre.length) (s:=w[pre.length]) (by rw [List.getElem?_eq_getElem (by omega),q2]) (List.getElem?_eq_getElem hkw)
    omega
  have ec:(if (!(w[pre.length]==[]))=true then some (!FJ w[pre.length]) else some false)=some false:=by
   rw [hwn]
   cases (!(w[pre.length]==[])) <;> rfl
  have hp:∀ v ∈ FX g 0,Ci v w (pre.length:Int)=some (!ofC w[pre.length] v):=fun v _=>by
   unfold Ci
   rw [hiw]; rfl
  have hd:=Zf hp (by rw [Mj]; omega)
  have ef:(FX g 0).filter (fun v=>!(!ofC w[pre.length] v))=(FX g 0).filter (ofC w[pre.length]):=by
   congr 1
   funext v
   rw [Bool.not_not]
  rw [ef] at hd
  obtain ⟨G,a,q1,q2,q3,q4⟩:=XX hcf hcv hg hn hnm hc0 (ofC w[pre.length])
  have h3':¬ (((Kt c).2 != 0)=true):=by simpa using hcv
  have hcap:Dj 24 ((toI RN).length + ([toG a]:List (List Int)).length)=true:=D8 (by omega) (by rw [Ih]; simp; omega)
  have hstep:CH l g (f + 1) (pre.length:Int) w (toI RN)=CH l g f ((pre++[c]).length:Int) w (toI (RN++[a])):=by
   conv=>lhs; unfold CH
   simp only [if_pos hlt,hic,hiw,OS,Re _ (show w[pre.length].length<=99999 by omega),ec,Bool.false_eq_true,if_false,if_pos hcut,GF _ _ htl,hhas,RG c hcf,if_neg h3',VY c hcf,if_pos hcv,W9 g (show g.length<=99999 by omega),hd,q1,q2]
   rw [if_neg (by simp),if_pos hcap,FV pre c r (by rw [<-e]; omega),Ob]
   rfl
  have gl:l.getD pre.length []=c:=by rw [List.getD_eq_getElem?_getD,e,List.getElem?_append_right (Nat.le_refl _)]; simp
  have gw:w.getD pre.length []=w[pre.length]:=by rw [List.getD_eq_getElem?_getD,List.getElem?_eq_getElem hkw]; rfl
  rw [hstep]
  refine TO r (pre++[c]) f (RN++[a]) (by rw [e]; simp) (by omega) (by simp [hr]) fun j hj=>?_
  rw [List.length_append,List.length_singleton] at hj
  by_cases h:j < pre.length
  ·have:(RN++[a]).getD j []=RN.getD j []:=by
    rw [List.getD_eq_getElem?_getD,List.getD_eq_getElem?_getD,List.getElem?_append_left (by omega)]
   rw [this]; exact hx j h
  ·have hj':j=pre.length:=by omega
   subst hj'
   have:(RN++[a]).getD pre.length []=a:=by
    rw [List.getD_eq_getElem?_getD,List.getElem?_append_right (by omega),hr]; simp
   rw [this]
   refine ⟨fun x=>?_,by rw [gl]; exact q4⟩
   rw [q3,gw]
   unfold ofC
   rw [beq_iff_eq]
   rfl
/-- Those of no court. -/
def LY (w:List (List UInt8)) (g:List Aq):List Nat:=(List.range g.length).filter fun x=>!GM w (gAt g x).2.2.1
theorem AAJ:∃ RN:List (List Nat),Dy l w g=some (toG (IR RN g.length++LY w g),0)/\RN.length=l.length/\∀ j,j < l.length->Xw l w g j (RN.getD j []):=by
 obtain ⟨RN,r1,r2,r3⟩:=TO hl hlw h4 hw hwd hg hn hnm l [] 100000 [] rfl (by omega) rfl (fun j hj=>by simp at hj)
 have r1':CH l g 100000 0 w []=some (.inl (w,toI RN)):=r1
 refine ⟨RN,?_,r2,r3⟩
 have j:(if (decide ((l.length:Int) > 16))=true then some true else some (decide ((g.length:Int) > 64)))=some false:=by
  rw [if_neg (by simp; omega)]; simp; omega
 have hc:=Pj (toI RN) g.length
 rw [Ih,r2] at hc
 have hcm:g.length * l.length<=20 * 16:=Nat.mul_le_mul hn (by omega)
 have e2:=Z4 w (toI RN) (by rw [Ih]; omega) g (by omega)
 have k1:=Yq (w:=w) hn (toI RN) (by omega) (TI (toI RN) g.length) (by omega)
 unfold Dy
 rw [j]
 simp only [OS,Bool.false_eq_true,if_false]
 rw [if_neg (by simp; omega),r1',OS]
 show ((Bb g (w,toI RN) 100000 0 []).bind fun r154=>(Bd g (w,toI RN) 100000 0 r154).bind fun r195=>some (r195,0))=_
 rw [e2,OS,k1,OS,SC,<-Lb]
 rfl
end
/-- Lists of five. -/
def MF (h:Nat->Int):List Int:=(List.range 5).map h
theorem LQ (h:Nat->Int){k:Nat}(hk:k < 5):idx (MF h) (k:Int)=some (h k):=by
 unfold MF
 rw [JT (by simpa using hk)]; simp
theorem NS {h h':Nat->Int}{k:Nat}{v:Int}(e1:h' k=v) (e2:∀ y,y≠k->h' y=h y):(MF h).set k v=MF h':=UA 5 h h' k v e1 e2
/-- How many of a class, and the last one. -/
def Fc (cl:Nat->Nat) (P:List Nat) (m:Nat):Nat:=(P.filter fun x=>cl x==m).length
def Uj (cl:Nat->Nat) (P:List Nat) (m:Nat):Int:=match (P.filter fun x=>cl x==m).getLast? with
 | some y=>(y:Int)
 | none=> -1
theorem JM (cl:Nat->Nat) (P:List Nat) (x m:Nat):Fc cl (P++[x]) m=Fc cl P m + if cl x=m then 1 else 0:=by
 unfold Fc
 rw [List.filter_append,List.length_append]
 congr 1
 by_cases h:cl x=m <;> simp [h]
theorem Qn (cl:Nat->Nat) (P:List Nat) (x m:Nat):Uj cl (P++[x]) m=if cl x=m then (x:Int) else Uj cl P m:=by
 unfold Uj
 rw [List.filter_append]
 by_cases h:cl x=m
 ·simp [h]
 ·rw [if_neg h]
  have:([x].filter fun x=>cl x==m)=[]:=by simp [h]
  rw [this,List.append_nil]
theorem RJ (cl:Nat->Nat) (P:List Nat) (m:Nat):Fc cl P m<=P.length:=List.length_filter_le _ _
theorem Rh {o:List Nat}:(∀ P x S,o=P++x::S->x ∉ P)->o.Nodup:=by
 refine OK (P:=fun o=>(∀ P x S,o=P++x::S->x ∉ P)->o.Nodup) (fun _=>List.nodup_nil) (fun l x ih h=>?_) o
 have h1:=ih fun P y S e=>h P y (S++[x]) (by rw [e]; simp)
 have h2:=h l x [] rfl
 refine List.nodup_append.2 ⟨h1,by simp,fun a ha b hb e=>?_⟩
 have:b=x:=by simpa using hb
 subst this
 subst e
 exact h2 ha
/-- What is asked of a guest at its turn. -/
abbrev Vu (l:List (List AE)) (w:List (List UInt8)) (g:List Aq) (P:List Nat) (x:Nat):Prop:=x < g.length/\x ∉ P/\(∀ y,(P.filter fun z=>cls w g z==cls w g x).getLast? = some y->y < g.length/\(cls w g x=4->y < x)/\(cls w g x≠4->cls w g x < l.length/\fN (l.getD (cls w g x) []) g y x < 0)) /\
  ∀ m,m < l.length->m≠cls w g x->Fc (cls w g) P m < Fc (cls w g) (List.range g.length) m->¬ (cls w g x=4\/Fc (cls w g) P m < Fc (cls w g) P (cls w g x)\/(Fc (cls w g) P m=Fc (cls w g) P (cls w g x)/\m < cls w g x))
section
variable {l:List (List AE)}{w:List (List UInt8)}{g:List Aq}{RN:List (List Nat)}(hlen:RN.length=l.length) (hlw:l.length=w.length) (h4:l.length<=4) (hwd:w.Nodup) (hrow:∀ j,j < l.length->Xw l w g j (RN.getD j [])) (hs:∀ j,j < l.length->∀ a b,fN (l.getD j []) g a b = - fN (l.getD j []) g b a)
include hlen hlw h4 hwd hrow hs
theorem Ml {j:Nat}(hj:j < l.length) (x:Nat):x ∈ RN.getD j []↔x < g.length/\cls w g x=j:=by
 have _:=hlen; have _:=hs
 rw [(hrow j hj).1 x]
 have hw:w[j]? = some (w.getD j []):=by rw [List.getD_eq_getElem?_getD,List.getElem?_eq_getElem (by omega)]; rfl
 have:=Wa hwd (by omega) (s:=(gAt g x).2.2.1) (k:=j) (by omega)
 unfold cls
 rw [this,hw]
 constructor
 ·rintro ⟨a,b⟩; exact ⟨a,by rw [b]⟩
 ·rintro ⟨a,b⟩; exact ⟨a,(OI b).symm⟩
theorem UQ:∀ j,j < RN.length->∀ x ∈ RN.getD j [],cls w g x=j:=fun j hj x hx=>((Ml hlen hlw h4 hwd hrow hs (show j < l.length by omega) x).1 hx).2
theorem OF {j:Nat}(hj:j < l.length):(RN.getD j []).Nodup:=by
 have _:=hlen; have _:=hlw; have _:=h4; have _:=hwd
 refine (hrow j hj).2.imp fun h e=>?_
 subst e
 have:=hs j hj
 have:=this _ _ ▸ h
 omega
theorem Uc {m:Nat}(hm:m < l.length):Fc (cls w g) (List.range g.length) m=(RN.getD m []).length:=by
 have h1:((List.range g.length).filter fun x=>cls w g x==m).Nodup:=List.Pairwise.filter _ List.nodup_range
 have hmem:∀ x,x ∈ (List.range g.length).filter (fun x=>cls w g x==m)↔x ∈ RN.getD m []:=fun x=>by
  rw [List.mem_filter,List.mem_range,Ml hlen hlw h4 hwd hrow hs hm x,beq_iff_eq]
 have a:=Id h1 (m:=RN.getD m []) fun x hx=>(hmem x).1 hx
 have b:=Id (OF hlen hlw h4 hwd hrow hs hm) (m:=(List.range g.length).filter fun x=>cls w g x==m) fun x hx=>(hmem x).2 hx
 unfold Fc
 omega
theorem WE {m:Nat}(hm:m < l.length):(RN.getD m []).length<=g.length:=by
 have:=Id (OF hlen hlw h4 hwd hrow hs hm) (m:=List.range g.length) fun x hx=>List.mem_range.2 ((Ml hlen hlw h4 hwd hrow hs hm x).1 hx).1
 simpa using this
omit hlen h4 hwd hrow hs in
theorem Pi (x:Nat):cls w g x < l.length\/cls w g x=4:=by
 unfold cls
 rcases Nh (w:=w) (gAt g x).2.2.1 with ⟨_,h,_⟩ | ⟨_,h⟩
 ·exact .inl (by omega)
 ·exact .inr h
omit hlen hwd hrow hs in
theorem P4 (x:Nat):x ∈ LY w g↔x < g.length/\cls w g x=4:=by
 unfold LY
 rw [List.mem_filter,List.mem_range]
 unfold cls
 rcases Nh (w:=w) (gAt g x).2.2.1 with ⟨h1,h2,_⟩ | ⟨h1,h2⟩
 ·rw [h1]
  constructor
  ·rintro ⟨_,h⟩; cases h
  ·rintro ⟨_,h⟩; omega
 ·rw [h1,h2]; simp
theorem Td {x r:Nat}(h:x ∈ IR RN r):cls w g x < l.length:=by
 unfold IR at h
 obtain ⟨q,_,h2⟩:=List.mem_flatMap.1 h
 unfold colRN at h2
 obtain ⟨a,h3,h5⟩:=List.mem_filterMap.1 h2
 obtain ⟨j,hj,e⟩:=List.getElem_of_mem h3
 have e2:RN.getD j []=a:=by rw [List.getD_eq_getElem?_getD,List.getElem?_eq_getElem hj]; exact e
 have:=UQ hlen hlw h4 hwd hrow hs j hj x (by rw [e2]; exact List.mem_of_getElem? h5)
 omega
/-- Each guest at its turn. -/
theorem good {P S:List Nat}{x:Nat}(h:IR RN g.length++LY w g=P++x::S):Vu l w g P x:=by
 have hcl:=UQ hlen hlw h4 hwd hrow hs
 have rest:∀ az,P=IR RN g.length++az->LY w g=az++x::S->Vu l w g P x:=fun az hP hr=>by
  have hx:=(P4 hlw h4 x).1 (show x ∈ LY w g by rw [hr]; simp)
  have hsort:(az++x::S).Pairwise fun a b=>a < b:=by
   rw [<-hr]
   exact List.Pairwise.filter _ List.pairwise_lt_range
  have hlt:∀ y ∈ az,y < x:=fun y hy=>(List.pairwise_append.1 hsort).2.2 y hy x (by simp)
  have has:∀ y ∈ az,y < g.length/\cls w g y=4:=fun y hy=>(P4 hlw h4 y).1 (by rw [hr]; simp [hy])
  have f4:(P.filter fun z=>cls w g z==4)=az:=by
   rw [hP,List.filter_append,List.filter_eq_nil_iff.2 (fun y hy=>by have:=Td hlen hlw h4 hwd hrow hs hy; simp; omega),List.nil_append,List.filter_eq_self]
   intro y hy
   simp [(has y hy).2]
  refine ⟨hx.1,fun hm=>?_,fun y hy=>?_,fun m hm _ hc=>?_⟩
  ·rw [hP] at hm
   rcases List.mem_append.1 hm with hm | hm
   ·have:=Td hlen hlw h4 hwd hrow hs hm; omega
   ·exact absurd (hlt x hm) (Nat.lt_irrefl _)
  ·rw [hx.2,f4] at hy
   obtain ⟨ys,rfl⟩:=List.getLast?_eq_some_iff.1 hy
   exact ⟨(has y (by simp)).1,fun _=>hlt y (by simp),fun h=>absurd hx.2 h⟩
  ·exfalso
   have e1:(P.filter fun z=>cls w g z==m)=RN.getD m []:=by
    rw [hP,List.filter_append,SJ hcl m (by omega) g.length,List.take_of_length_le (WE hlen hlw h4 hwd hrow hs hm),List.filter_eq_nil_iff.2 (fun y hy=>by have:=(has y hy).2; simp; omega),List.append_nil]
   rw [Uc hlen hlw h4 hwd hrow hs hm] at hc
   unfold Fc at hc
   rw [e1] at hc
   omega
 rcases List.append_eq_append_iff.1 h with ⟨az,h1,h2⟩ | ⟨bs,h1,h2⟩
 ·exact rest az h1 h2
 ·cases bs with
  | nil=>exact rest [] (by rw [h1]; simp) (by simpa using h2.symm)
  | cons z bs =>
   injection h2 with h2 h3
   subst h2
   obtain ⟨r,j,hr,hj,hP,hx⟩:=UX RN x g.length P bs h1
   have hjl:j < l.length:=by omega
   have hxm:=(Ml hlen hlw h4 hwd hrow hs hjl x).1 (List.mem_of_getElem? hx)
   have fm:∀ m,m < l.length->(P.filter fun z=>cls w g z==m)=(RN.getD m []).take r++if m < j then ((RN.getD m [])[r]?).toList else []:=fun m hm=>by
    rw [hP,List.filter_append,SJ hcl m (by omega) r,V2 hcl r m j (by omega)]
   have fj:(P.filter fun z=>cls w g z==j)=(RN.getD j []).take r:=by rw [fm j hjl,if_neg (by omega),List.append_nil]
   obtain ⟨hrl,hrx⟩:=List.getElem?_eq_some_iff.1 hx
   refine ⟨hxm.1,fun hm=>?_,fun y hy=>?_,fun m hm hne hc=>?_⟩
   ·have:x ∈ P.filter fun z=>cls w g z==j:=List.mem_filter.2 ⟨hm,by simp [hxm.2]⟩
    rw [fj] at this
    obtain ⟨q,q1,q2⟩:=List.getElem_of_mem this
    rw [List.length_take] at q1
    rw [List.getElem_take] at q2
    have:=nodup_at (OF hlen hlw h4 hwd hrow hs hjl) (i:=q) (j:=r) (s:=x) (by rw [List.getElem?_eq_getElem (by omega),q2]) hx
    omega
   ·rw [hxm.2,fj] at hy
    rw [hxm.2]
    obtain ⟨ys,hys⟩:=List.getLast?_eq_some_iff.1 hy
    have hym:y ∈ (RN.getD j []).take r:=by rw [hys]; simp
    obtain ⟨q,q1,q2⟩:=List.getElem_of_mem hym
    rw [List.length_take] at q1
    rw [List.getElem_take] at q2
    have hlt:=List.pairwise_iff_getElem.1 (hrow j hjl).2 q r (by omega) hrl (by omega)
    rw [q2,hrx] at hlt
    exact ⟨((Ml hlen hlw h4 hwd hrow hs hjl y).1 (List.mem_of_mem_take hym)).1,fun e=>by omega,fun _=>⟨hjl,hlt⟩⟩
   ·rw [hxm.2] at hne ⊢
    rw [Uc hlen hlw h4 hwd hrow hs hm] at hc
    have cj:Fc (cls w g) P j=r:=by
     unfold Fc
     rw [fj,List.length_take]; omega
    have cm':Fc (cls w g) P m=r + if m < j then 1 else 0:=by
     unfold Fc at hc ⊢
     rw [fm m hm,List.length_append,List.length_take] at hc ⊢
     cases hq:(RN.getD m [])[r]? with
     | none =>
      have:=List.getElem?_eq_none_iff.1 hq
      omega
     | some v =>
      have:=(List.getElem?_eq_some_iff.1 hq).1
      by_cases hmj:m < j
      ·rw [if_pos hmj,if_pos hmj]
       have e:((some v:Option Nat).toList).length=1:=rfl
       rw [e]; omega
      ·rw [if_neg hmj,if_neg hmj,List.length_nil]
       omega
    rw [cj,cm']
    by_cases hmj:m < j
    ·rw [if_pos hmj]; omega
    ·rw [if_neg hmj]; omega
theorem UJ:(IR RN g.length++LY w g).Nodup:=Rh fun _ _ _ h=>(good hlen hlw h4 hwd hrow hs h).2.1
theorem UI:(IR RN g.length++LY w g).length=g.length:=by
 have hm:∀ x,x ∈ IR RN g.length++LY w g↔x ∈ List.range g.length:=fun x=>by
  rw [List.mem_range]
  constructor
  ·intro hx
   obtain ⟨P,S,e⟩:=List.append_of_mem hx
   exact (good hlen hlw h4 hwd hrow hs e).1
  ·intro hx
   rcases Pi (g:=g) hlw x with hc | hc
   ·have h1:=(Ml hlen hlw h4 hwd hrow hs hc x).2 ⟨hx,rfl⟩
    have h2:=SJ (UQ hlen hlw h4 hwd hrow hs) (cls w g x) (by omega) g.length
    rw [List.take_of_length_le (WE hlen hlw h4 hwd hrow hs hc)] at h2
    rw [<-h2] at h1
    exact List.mem_append_left _ (List.mem_filter.1 h1).1
   ·exact List.mem_append_right _ ((P4 hlw h4 x).2 ⟨hx,hc⟩)
 have a:=Id (UJ hlen hlw h4 hwd hrow hs) (m:=List.range g.length) fun x hx=>(hm x).1 hx
 have b:=Id (List.nodup_range (n:=g.length)) (m:=IR RN g.length++LY w g) fun x hx=>(hm x).2 hx
 rw [List.length_range] at a b
 omega
end
section
variable {l:List (List AE)}{w:List (List UInt8)}{g:List Aq}(hlw:l.length=w.length) (h4:l.length<=4) (hl:∀ c ∈ l,few c/\(Kt c).2=0) (hg:FewR g) (hn:g.length<=20)
include hlw h4 hl hg hn
/-- What the turn before says. -/
theorem X3 (P:List Nat) (x:Nat) (hx:x < g.length) (sn:List Bool) (hb:∀ y,(P.filter fun z=>cls w g z==cls w g x).getLast? = some y->y < g.length/\(cls w g x=4->y < x)/\(cls w g x≠4->cls w g x < l.length/\fN (l.getD (cls w g x) []) g y x < 0)) (v:Int) (hv:v=Uj (cls w g) P (cls w g x)) (k:Int) (hk:k=(cls w g x:Int)) :
  (if (decide (v≥0))=true then if (k==4)=true then if (decide (v > (x:Int)))=true then some (true,sn) else if (decide (k < 4))=true then (idx l k).bind fun v188=>(idx g v).bind fun v190=>(idx g (x:Int)).bind fun v191=>(C1 v188 v190 v191 v (x:Int)).bind fun v192=>some ((decide (v192≥0)),sn) else some (false,sn) else if (decide (k < 4))=true then (idx l k).bind fun v193=>(idx g v).bind fun v195=>(idx g (x:Int)).bind fun v196=>(C1 v193 v195 v196 v (x:Int)).bind fun v197=>some ((decide (v197≥0)),sn) else some (false,sn) else some (false,sn))=some (false,sn):=by
 subst hk
 have _:=hlw
 cases hq:(P.filter fun z=>cls w g z==cls w g x).getLast? with
 | none =>
  have:v = -1:=by rw [hv]; unfold Uj; rw [hq]
  rw [this,if_neg (by simp)]
 | some y =>
  have hvy:v=(y:Int):=by rw [hv]; unfold Uj; rw [hq]
  obtain ⟨b1,b2,b3⟩:=hb y hq
  rw [hvy,if_pos (by simp)]
  by_cases hc:cls w g x=4
  ·have:=b2 hc
   rw [hc,if_pos (by rfl),if_neg (by simp; omega),if_neg (by simp)]
  ·obtain ⟨c1,c2⟩:=b3 hc
   have hcm:l.getD (cls w g x) [] ∈ l:=by
    rw [List.getD_eq_getElem?_getD,List.getElem?_eq_getElem c1]; exact List.getElem_mem c1
   have hi:idx l (cls w g x:Int)=some (l.getD (cls w g x) []):=by
    rw [JT c1,List.getD_eq_getElem?_getD,List.getElem?_eq_getElem c1]; rfl
   obtain ⟨d1,d2⟩:=hl _ hcm
   have hgd:=IQ d2
   have hcmp:=We (l.getD (cls w g x) []) (gAt g y) (gAt g x) (y:Int) (x:Int) d1 hgd.1 hgd.2 (hg.at_ b1) (hg.at_ hx)
   have e:PG (l.getD (cls w g x) []) (gAt g y) (gAt g x) (y:Int) (x:Int)=fN (l.getD (cls w g x) []) g y x:=(VB (by omega) (by omega)).symm
   rw [e] at hcmp
   rw [if_neg (by simp; omega),if_pos (by simp; omega),hi,OS,S1 g b1,OS,S1 g hx,OS,hcmp,OS,decide_eq_false (by omega)]
omit hl hg hn in
/-- .. and the other courts. -/
theorem Ym (P:List Nat) (x:Nat) (hc:∀ m,m < l.length->m≠cls w g x->Fc (cls w g) P m < Fc (cls w g) (List.range g.length) m->¬ (cls w g x=4\/Fc (cls w g) P m < Fc (cls w g) P (cls w g x)\/(Fc (cls w g) P m=Fc (cls w g) P (cls w g x)/\m < cls w g x))) (hk5:cls w g x < 5):B7 (l,w) (MF fun m=>(Fc (cls w g) P m:Int)) (MF fun m=>(Fc (cls w g) (List.range g.length) m:Int) - (Fc (cls w g) P m:Int)) ((cls w g x:Int),w,g) 100000 0=some (.inl ()):=by
 have _:=hlw
 refine QU (σ:=Unit) l.length (fun _=>()) (some (.inl ())) (fun f c' _=>B7 (l,w) (MF fun m=>(Fc (cls w g) P m:Int)) (MF fun m=>(Fc (cls w g) (List.range g.length) m:Int) - (Fc (cls w g) P m:Int)) ((cls w g x:Int),w,g) f c') (by omega) (fun m hm f=>?_) (fun f=>?_)
 ·show B7 (l,w) _ _ ((cls w g x:Int),w,g) (f + 1) (m:Int)=_
  conv=>lhs; unfold B7
  have gm:=LQ (fun m=>(Fc (cls w g) P m:Int)) (k:=m) (by omega)
  have gk:=LQ (fun m=>(Fc (cls w g) P m:Int)) hk5
  have lm:=LQ (fun m=>(Fc (cls w g) (List.range g.length) m:Int) - (Fc (cls w g) P m:Int)) (k:=m) (by omega)
  have e:(if (decide ((Fc (cls w g) (List.range g.length) m:Int) - (Fc (cls w g) P m:Int) > 0))=true then if ((m:Int)!=(cls w g x:Int))=true then if ((cls w g x:Int)==4)=true then some true else (idx (MF fun m=>(Fc (cls w g) P m:Int)) (m:Int)).bind fun v234=>(idx (MF fun m=>(Fc (cls w g) P m:Int)) (cls w g x:Int)).bind fun v236=>if (decide (v234 < v236))=true then some true else (idx (MF fun m=>(Fc (cls w g) P m:Int)) (m:Int)).bind fun v237=>(idx (MF fun m=>(Fc (cls w g) P m:Int)) (cls w g x:Int)).bind fun v238=>if (v237==v238)=true then some (decide ((m:Int) < (cls w g x:Int))) else some false else some false else some false)=some false:=by
   by_cases h1:(Fc (cls w g) (List.range g.length) m:Int) - (Fc (cls w g) P m:Int) > 0
   ·rw [if_pos (by simpa using h1)]
    by_cases h2:m=cls w g x
    ·rw [if_neg (by simp [h2])]
    ·have hh:=hc m hm h2 (by omega)
     rw [if_pos (by simp; omega),if_neg (by simp; omega),gm,OS,gk,OS,if_neg (by simp; omega),OS,OS]
     by_cases h3:Fc (cls w g) P m=Fc (cls w g) P (cls w g x)
     ·rw [if_pos (by rw [beq_iff_eq]; omega),decide_eq_false (by omega)]
     ·rw [if_neg (by rw [beq_iff_eq]; omega)]
   ·rw [if_neg (by simpa using h1)]
  rw [if_pos (by simp; omega),lm,OS,e,OS,if_neg (by simp)]
 ·show B7 (l,w) _ _ ((cls w g x:Int),w,g) (f + 1) (l.length:Int)=_
  conv=>lhs; unfold B7
  rw [if_neg (by simp)]
end
/-- Who has been told. -/
def OJ (n:Nat) (P:List Nat):List Bool:=(List.range n).map fun y=>decide (y ∈ P)
theorem Sa {n x:Nat}(P:List Nat) (h:x < n):idx (OJ n P) (x:Int)=some (decide (x ∈ P)):=by
 unfold OJ
 rw [JT (by simpa using h)]; simp
theorem UT (n x:Nat) (P:List Nat):(OJ n P).set x true=OJ n (P++[x]):=by
 unfold OJ
 exact UA n _ _ x true (by simp) fun y hy=>by simp [hy]
section
variable {l:List (List AE)}{w:List (List UInt8)}{g:List Aq}{RN:List (List Nat)}(hlen:RN.length=l.length) (hlw:l.length=w.length) (h4:l.length<=4) (hwd:w.Nodup) (hrow:∀ j,j < l.length->Xw l w g j (RN.getD j [])) (hs:∀ j,j < l.length->∀ a b,fN (l.getD j []) g a b = - fN (l.getD j []) g b a) (hl:∀ c ∈ l,few c/\(Kt c).2=0) (hg:FewR g) (hn:g.length<=20)
include hlen hlw h4 hwd hrow hs hl hg hn
theorem Sf:∀ (S P:List Nat) (f:Nat),IR RN g.length++LY w g=P++S->S.length < f->Cb (l,w) (toG (IR RN g.length++LY w g),0) f (P.length:Int) g (OJ g.length P) (MF fun m=>(Fc (cls w g) P m:Int)) (MF fun m=>(Fc (cls w g) (List.range g.length) m:Int) - (Fc (cls w g) P m:Int)) (MF (Uj (cls w g) P)) w=some (.inl ())
 | [],P,f + 1,h,_=>by
  unfold Cb
  rw [if_neg (by rw [h]; simp [toG])]
 | x::S,P,f + 1,h,hf=>by
  simp only [List.length_cons] at hf
  obtain ⟨g1,g2,g3,g4⟩:=good hlen hlw h4 hwd hrow hs h
  have hol:=UI hlen hlw h4 hwd hrow hs
  have hpl:P.length + S.length + 1=g.length:=by
   rw [<-hol,h]; simp; omega
  have hk5:cls w g x < 5:=by
   rcases Pi (g:=g) hlw x with hc | hc <;> omega
  have hi:idx (toG (IR RN g.length++LY w g)) (P.length:Int)=some (x:Int):=by
   rw [h,Lb]
   have:=Do (toG P) (pI x) (toG S)
   rw [Fn] at this
   exact this
  have e1:(if (decide ((x:Int) < 0))=true then some true else if (decide ((x:Int)≥(g.length:Int)))=true then some true else (idx (OJ g.length P) (x:Int)).bind fun v154=>some v154)=some false:=by
   rw [if_neg (by simp),if_neg (by simp; omega),Sa P g1,OS,decide_eq_false g2]
  have e2:=X3 hlw h4 hl hg hn P x g1 ((OJ g.length P).set x true) g3 _ rfl _ rfl
  have e3:=Ym (g:=g) hlw h4 P x g4 hk5
  have a1:=LQ (fun m=>(Fc (cls w g) P m:Int)) hk5
  have a2:=LQ (fun m=>(Fc (cls w g) (List.range g.length) m:Int) - (Fc (cls w g) P m:Int)) hk5
  have a3:=LQ (Uj (cls w g) P) hk5
  have c1:=RJ (cls w g) P (cls w g x)
  have c2:=RJ (cls w g) (List.range g.length) (cls w g x)
  rw [List.length_range] at c2
  have s1:(MF fun m=>(Fc (cls w g) P m:Int)).set (cls w g x) (wr .i64 ((Fc (cls w g) P (cls w g x):Int) + 1))=MF fun m=>(Fc (cls w g) (P++[x]) m:Int):=by
   rw [QI (by omega) (by omega)]
   refine NS ?_ fun y hy=>?_
   ·rw [JM,if_pos rfl]; omega
   ·rw [JM,if_neg (by omega)]; omega
  have s2:(MF fun m=>(Fc (cls w g) (List.range g.length) m:Int) - (Fc (cls w g) P m:Int)).set (cls w g x) (wr .i64 ((Fc (cls w g) (List.range g.length) (cls w g x):Int) - (Fc (cls w g) P (cls w g x):Int) - 1))=MF fun m=>(Fc (cls w g) (List.range g.length) m:Int) - (Fc (cls w g) (P++[x]) m:Int):=by
   rw [QI (by omega) (by omega)]
   refine NS ?_ fun y hy=>?_
   ·rw [JM,if_pos rfl]; omega
   ·rw [JM,if_neg (by omega)]; omega
  have s3:(MF (Uj (cls w g) P)).set (cls w g x) (x:Int)=MF (Uj (cls w g) (P++[x])):=by
   refine NS ?_ fun y hy=>?_
   ·rw [Qn,if_pos rfl]
   ·rw [Qn,if_neg (by omega)]
  unfold Cb
  dsimp only
  rw [if_pos (by rw [Fn,hol]; simp; omega),hi,OS,e1,OS,if_neg (by simp),Sa P g1,OS,AAE w g (by omega) g1,OS]
  dsimp only
  rw [a3,OS,Int.toNat_natCast,e2,OS]
  dsimp only
  rw [if_neg (by simp),e3,OS]
  dsimp only
  rw [OS,a1,OS,OS,a2,OS,OS,Int.toNat_natCast,s1,s2,s3,UT,QI (by omega) (by omega),show ((P.length:Int) + 1)=(((P++[x]).length:Nat):Int) by simp]
  exact Sf S (P++[x]) f (by rw [h]; simp) (by omega)
omit hlen hwd hrow hs hl hg in
theorem Vi:B6 g 100000 0 g (List.replicate (5:Int).toNat (0:Int)) w=some (g,(MF fun m=>(Fc (cls w g) (List.range g.length) m:Int)),w):=by
 have h:=QU (σ:=List Int) g.length (fun i=>MF fun m=>(Fc (cls w g) (List.range i) m:Int)) (some (g,(MF fun m=>(Fc (cls w g) (List.range g.length) m:Int)),w)) (fun f c s=>B6 g f c g s w) (by omega) (fun i hi f=>by
  show B6 g (f + 1) (i:Int) g (MF fun m=>(Fc (cls w g) (List.range i) m:Int)) w=_
  conv=>lhs; unfold B6
  have hk5:cls w g i < 5:=by
   rcases Pi (g:=g) hlw i with hc | hc <;> omega
  have a:=LQ (fun m=>(Fc (cls w g) (List.range i) m:Int)) hk5
  have c1:=RJ (cls w g) (List.range i) (cls w g i)
  rw [List.length_range] at c1
  have s1:(MF fun m=>(Fc (cls w g) (List.range i) m:Int)).set (cls w g i) (wr .i64 ((Fc (cls w g) (List.range i) (cls w g i):Int) + 1))=MF fun m=>(Fc (cls w g) (List.range (i + 1)) m:Int):=by
   rw [QI (by omega) (by omega),List.range_succ]
   refine NS ?_ fun y hy=>?_
   ·rw [JM,if_pos rfl]; omega
   ·rw [JM,if_neg (by omega)]; omega
  rw [if_pos (by simp; omega),AAE w g (by omega) hi,OS]
  dsimp only
  rw [a,OS,OS,Int.toNat_natCast,s1]) (fun f=>by
  show B6 g (f + 1) (g.length:Int) g _ w=_
  conv=>lhs; unfold B6
  rw [if_neg (by simp)])
 exact h
end
/-- The courts of the statement. -/
theorem Se (x0:List (List (Int×Int×Int×Bool×Bool))) (ys:List (List (Int×Int×Int×Bool×Bool))) (hys:((x0.take (mnI (x0.length:Int) 4).toNat).drop (0:Int).toNat)=ys) (hy:ys.length<=4) (hb:∀ x ∈ ys,∀ v ∈ x,QV v):∀ (r pre:List (List (Int×Int×Int×Bool×Bool))) (f:Nat) (L:List (List AE)),ys=pre++r->r.length < f->L.length=pre.length->(∀ c ∈ L,few c/\(Kt c).2=0/\∃ c0,c=c0++[nmC]) ->
  ∃ l:List (List AE),Ca x0 f (pre.length:Int) L ((List.range pre.length).map fun (j:Nat)=>wd (j:Int))=some (l,(List.range l.length).map fun (j:Nat)=>wd (j:Int))/\l.length<=4/\∀ c ∈ l,few c/\(Kt c).2=0/\∃ c0,c=c0++[nmC]
 | [],pre,f + 1,L,e,_,hL,hc=>by
  have e':ys=pre:=by rw [e]; simp
  refine ⟨L,?_,by rw [hL,<-e']; exact hy,hc⟩
  unfold Ca
  rw [hys,if_neg (by rw [e]; simp),hL]
 | v::r,pre,f + 1,L,e,hf,hL,hc=>by
  simp only [List.length_cons] at hf
  have hll:ys.length=pre.length + r.length + 1:=by rw [e]; simp; omega
  obtain ⟨c,m1,m2,m3,m4⟩:=XF v (hb v (by rw [e]; simp))
  have hgd:JB [] (c++[nmC]):=(KU c [] [nmC]).2 ⟨m3,XI _,trivial⟩
  have hln:(c++[nmC]).length=c.length + 1:=by simp
  have hnew:few (c++[nmC])/\(Kt (c++[nmC])).2=0/\∃ c0,c++[nmC]=c0++[nmC]:=by
   refine ⟨⟨by omega,fun x hx=>?_⟩,by rw [Ty (by omega) hgd],c,rfl⟩
   rcases List.mem_append.1 hx with hx | hx
   ·exact m2.2 x hx
   ·rw [List.mem_singleton.1 hx]; exact XJ
  obtain ⟨d1,d2⟩:=Wf (k:=(pre.length:Int)) (by omega) (by omega)
  obtain ⟨l,q1,q2,q3⟩:=Se x0 ys hys hy hb r (pre++[v]) f (L++[c++[nmC]]) (by rw [e]; simp) (by omega) (by simp [hL]) (fun x hx=>by
   rcases List.mem_append.1 hx with hx | hx
   ·exact hc x hx
   ·rw [List.mem_singleton.1 hx]; exact hnew)
  refine ⟨l,?_,q2,q3⟩
  rw [<-q1]
  conv=>lhs; unfold Ca
  have er:(List.range (pre++[v]).length).map (fun (j:Nat)=>wd (j:Int))=(List.range pre.length).map (fun (j:Nat)=>wd (j:Int))++[wd (pre.length:Int)]:=by
   rw [List.length_append,List.length_singleton,List.range_succ,List.map_append]; rfl
  rw [hys,if_pos (by rw [e]; exact HS pre v r),show idx ys (pre.length:Int)=some v by rw [e,Do],OS,m1,OS,if_pos (D8 (by omega) (by simp; omega)),if_pos (D8 (by omega) (by simp; omega)),if_pos d1,if_pos d2,if_pos (D8 (by omega) (by simp; omega)),FV pre v r (by rw [<-e]; omega),er]
  rfl
theorem UZ (x0:List (List (Int×Int×Int×Bool×Bool))) (p:List (Int×Int)) (hb:∀ x ∈ x0,∀ v ∈ x,QV v) (hp:∀ v ∈ p,u8 v.1/\u8 v.2):Df x0 p=some true:=by
 obtain ⟨g,g1,hg,hn,hnm0⟩:=Tz p 20 (by omega) hp
 have hnm:∀ x y,x < g.length->y < g.length->x≠y->(gAt g x).1≠(gAt g y).1:=fun x y hx hy hne e=>hne (XL (by omega) (by omega) (by rw [<-hnm0 x hx,<-hnm0 y hy,e]))
 have hm:0<=mnI (x0.length:Int) 4/\mnI (x0.length:Int) 4<=4/\mnI (x0.length:Int) 4<=x0.length:=by
  unfold mnI
  split <;> omega
 obtain ⟨l,l1,l2,l3⟩:=Se x0 _ rfl (by first | (rw [List.length_drop,List.length_take]; omega) | (rw [List.length_take]; omega)) (fun x hx=>hb x (List.mem_of_mem_take (List.mem_of_mem_drop hx))) _ [] 100000 [] rfl (by first | (rw [List.length_drop,List.length_take]; omega) | (rw [List.length_take]; omega)) rfl (fun c hc=>by simp at hc)
 have l1':Ca x0 100000 0 [] []=some (l,(List.range l.length).map fun (j:Nat)=>wd (j:Int)):=l1
 generalize hw:((List.range l.length).map fun (j:Nat)=>wd (j:Int))=w at l1'
 have hlw:l.length=w.length:=by rw [<-hw]; simp
 have hwn:∀ s ∈ w,FJ s=true/\s.length<=40:=fun s hs=>by
  rw [<-hw] at hs
  obtain ⟨j,hj,rfl⟩:=List.mem_map.1 hs
  have hj:=List.mem_range.1 hj
  obtain ⟨a,b⟩:=Rs (k:=(j:Int)) (by omega) (by omega)
  exact ⟨a,by omega⟩
 have hwd:w.Nodup:=by
  rw [<-hw]
  refine List.pairwise_map.2 (List.Pairwise.imp_of_mem (fun {a b} ha hb h e=>?_) (List.pairwise_lt_range (n:=l.length)))
  have ha:=List.mem_range.1 ha
  have hb:=List.mem_range.1 hb
  have:=WI (a:=(a:Int)) (b:=(b:Int)) (by omega) (by omega) (by omega) (by omega) (by rw [e]; simp)
  omega
 obtain ⟨RN,a1,a2,a3⟩:=AAJ l3 hlw l2 hwn hwd hg hn hnm
 have hl2:∀ c ∈ l,few c/\(Kt c).2=0:=fun c hc=>⟨(l3 c hc).1,(l3 c hc).2.1⟩
 have hs:∀ j,j < l.length->∀ a b,fN (l.getD j []) g a b = - fN (l.getD j []) g b a:=fun j hj=>by
  have hm:l.getD j [] ∈ l:=by
   rw [List.getD_eq_getElem?_getD,List.getElem?_eq_getElem hj]; exact List.getElem_mem hj
  exact (Xo g (IQ (hl2 _ hm).2).2).s
 have hol:=UI a2 hlw l2 hwd a3 hs
 have t2:=Vi (g:=g) hlw l2 hn
 have t3:=Sf a2 hlw l2 hwd a3 hs hl2 hg hn (IR RN g.length++LY w g) [] 100000 rfl (by omega)
 have e0:List.replicate (g.length:Int).toNat (false:Bool)=OJ g.length []:=by
  apply List.ext_getElem <;> simp [OJ]
 have t3':Cb (l,w) (toG (IR RN g.length++LY w g),0) 100000 0 g (OJ g.length []) (List.replicate (5:Int).toNat (0:Int)) (MF fun m=>(Fc (cls w g) (List.range g.length) m:Int)) ([(-1),(-1),(-1),(-1),(-1)]:List Int) w=some (.inl ()):=by
  have z:(fun m=>(Fc (cls w g) (List.range g.length) m:Int) - (Fc (cls w g) [] m:Int))=fun m=>(Fc (cls w g) (List.range g.length) m:Int):=by
   funext m
   show (Fc (cls w g) (List.range g.length) m:Int) - ((0:Nat):Int)=_
   omega
  rw [z] at t3
  exact t3
 unfold Df
 have g1':Er p 20=some g:=g1
 rw [g1',OS,if_pos (by unfold DK; simp; omega),l1',OS]
 dsimp only
 rw [a1,OS]
 dsimp only
 rw [if_neg (by simp),Fn,hol,OS,if_neg (by simp),if_pos (by simp [Uk]; omega),if_pos (by decide),if_pos (by decide),t2,OS]
 dsimp only
 rw [e0,t3']
 rfl
end Go.Proofs.YtlalcoehgkmhlaaGreatDoor
namespace Go.Proofs.YtlalcoehgkmhlaaGreatDoor
open Go.RowKit Go.ChangeShapes Go.WideShapes Go.Deep
end Go.Proofs.YtlalcoehgkmhlaaGreatDoor
namespace Go.Proofs.YtlalcoehgkmhlaaGreatDoor.courtTakes
open Go.ChangeShapes Go.WideShapes Go.ChangeAt Go.RowKit
theorem W5 (a0:(List (List (Int×Int×Int×Bool×Bool)))) (a1:(List (Int×Int))) (h:Df a0 a1=some true){w:World}{v0 v1:Value}(h0:VR w (fun c=>c < w.heap.size) [] ((cdL 1 (cdL 5 (cdA (csC (cdK .u8) (csC (cdK .u8) (csC (cdK .u8) (csC cdB (csE cdB))))) (fun _=>rfl)))).enc a0) v0) (h1:VR w (fun c=>c < w.heap.size) [] ((cdL 2 (Oq (cdK .u8) (cdK .u8) (fun _=>rfl) (fun _=>rfl))).enc a1) v1):Ret Tryz.prog 9 #[v0,v1] w fun v w'=>v = .bool true/\w.grownBy w' none :=
 Ret.mono (ME.2 (FC.enc (a0,a1,())) (GK true) (Nc (s:=FC) (a:=(a0,a1,())) h) w (fun c=>c < w.heap.size) [v0,v1] (fun c hc=>hc) (fun g x h=>by cases h) (.cons h0 (.cons h1 .nil))) fun v w' h=>⟨h.2.v_inv,h.1⟩
set_option maxRecDepth 100000 in
theorem U4 (H:Type) (enc:TypeId×Value->H) (W:World) (base:Nat) (args:Array Value) (ds gs:List (DataW H)) (before:List MemPlace)
  (hval:∀ (j:Nat) t v,Tryz.f9.params[j]? = some t->args[j]? = some v->Value.okWide Tryz.prog W .any base t v)
  (hW:DataW.Whole enc Tryz.prog Tryz.f9.params.toList Rows.courtTakesSpec.vars false W args.toList ds gs before)
  (hsz:(DataW.weightsEach Tryz.prog (Tryz.f9.params.toList++(OpenSpec.ofChange Rows.courtTakesSpec).bare.plain.varTypes Tryz.prog) (ds++gs)).all (·<=reachBytes)=true) :
  Calls Tryz.prog 9 args W fun e W'=>∃ v,e = .returned v/\Rows.courtTakesSpec.post enc Tryz.prog Tryz.f9 false true false false W args v W':=by
 have hW':=hW
 obtain ⟨p,q,hA0,hV,rfl,hfz,hnd⟩:=hW
 have hA:DataW.TrodAll enc Tryz.prog W 0 (fun _=>true) true Tryz.f9.params.toList args.toList ds p:=hA0
 have hpar:Tryz.f9.params=#[73,36]:=by kernel_rfl
 rw [hpar] at hA hval
 obtain ⟨v0,vs0,d0,ds0,p0,q0,hargs,rfl,rfl,h0,r0⟩:=trodAll_cons hA
 obtain ⟨v1,vs1,d1,ds1,p1,q1,rfl,rfl,rfl,h1,r1⟩:=trodAll_cons r0
 obtain ⟨rfl,rfl,rfl⟩:=trodAll_nil r1
 obtain rfl:args=#[v0,v1]:=by apply Array.ext'; simpa using hargs
 obtain ⟨a0, k0, g0⟩ := WC (P2 (by kernel_rfl : Tryz.prog.underlying 73 = some (.slice 28)) (by kernel_rfl) (by kernel_rfl) (by kernel_rfl) (by kernel_rfl) (P2 (by kernel_rfl : Tryz.prog.underlying 28 = some (.slice 107)) (by kernel_rfl) (by kernel_rfl) (by kernel_rfl) (by kernel_rfl) (Qs (hn := fun _ => rfl) (fs := #[(Field.mk "Kind" 5 0 false "" "" 0), (Field.mk "N" 5 1 false "" "" 1), (Field.mk "Names" 5 2 false "" "" 2), (Field.mk "Last" 4 3 false "" "" 3), (Field.mk "Among" 4 4 false "" "" 4)]) (by kernel_rfl) (by kernel_rfl) (fun _ => rfl) (fun _ => rfl) (OE (Qr (by kernel_rfl : Tryz.prog.underlying 5 = some (.int .u8)) (by kernel_rfl)) rfl (by kernel_rfl) (fun _ => rfl) (OE (Qr (by kernel_rfl : Tryz.prog.underlying 5 = some (.int .u8)) (by kernel_rfl)) rfl (by kernel_rfl) (fun _ => rfl) (OE (Qr (by kernel_rfl : Tryz.prog.underlying 5 = some (.int .u8)) (by kernel_rfl)) rfl (by kernel_rfl) (fun _ => rfl) (OE (UM (by kernel_rfl : Tryz.prog.underlying 4 = some .bool) (by kernel_rfl)) rfl (by kernel_rfl) (fun _ => rfl) (WD (UM (by kernel_rfl : Tryz.prog.underlying 4 = some .bool) (by kernel_rfl)) rfl (by kernel_rfl) (fun _ => rfl))))))))) (Qp (by kernel_rfl : Tryz.prog.underlying 73 = some (.slice 28)) (hval 0 73 v0 rfl rfl)) (fun _ => rfl) h0 hsz (j := 0) (by kernel_rfl) rfl
 obtain ⟨a1, k1, g1⟩ := WC (P2 (by kernel_rfl : Tryz.prog.underlying 36 = some (.slice 30)) (by kernel_rfl) (by kernel_rfl) (by kernel_rfl) (by kernel_rfl) (Qs (hn := fun _ => rfl) (fs := #[(Field.mk "A" 5 0 false "" "" 0), (Field.mk "B" 5 1 false "" "" 1)]) (by kernel_rfl) (by kernel_rfl) (fun _ => rfl) (fun _ => rfl) (OE (Qr (by kernel_rfl : Tryz.prog.underlying 5 = some (.int .u8)) (by kernel_rfl)) rfl (by kernel_rfl) (fun _ => rfl) (WD (Qr (by kernel_rfl : Tryz.prog.underlying 5 = some (.int .u8)) (by kernel_rfl)) rfl (by kernel_rfl) (fun _ => rfl))))) (Qp (by kernel_rfl : Tryz.prog.underlying 36 = some (.slice 30)) (hval 1 36 v1 rfl rfl)) (fun _ => rfl) h1 hsz (j := 1) (by kernel_rfl) rfl
 have hc:=W5 a0 a1 (UZ a0 a1 (fun x hx v hv=>⟨bounds_u8 ((g0.2 x hx).2 v hv).1,bounds_u8 ((g0.2 x hx).2 v hv).2.1,bounds_u8 ((g0.2 x hx).2 v hv).2.2.1⟩) (fun v hv=>⟨bounds_u8 (g1.2 v hv).1,bounds_u8 (g1.2 v hv).2⟩)) k0 k1
 unfold Ret at hc
 refine hc.mono fun e W' he=>?_
 cases e with
 | returned v =>
  obtain ⟨rfl,hg⟩:=he
  exact ⟨_,rfl,UK W4 (fun t ht=>⟨LU (fun t=>Tryz.prog.readableRec t) (by kernel_rfl) ht,of_decide_eq_true (LU (fun t=>decide (t < Tryz.prog.types.size)) (by kernel_rfl) ht)⟩) hW' rfl (by kernel_rfl) (by kernel_rfl:Tryz.prog.underlying 4=some .bool) rfl hg⟩
 | panicked c=>exact he.elim
 | outgrown=>exact he.elim
theorem VM (os:Os):laidMet Tryz.prog Rows.courtTakesRow.laid ((N1 os).forCall (fun _ _=>0) ⟨#[],#[Value.slice none 0 0,Value.slice none 0 0],[]⟩).memory :=
 laidMet_of_run' 8 (by kernel_rfl) (by kernel_rfl)
theorem Zy (os:Os){H:Type}(enc:TypeId×Value->H):∃ places,DataW.whole enc Tryz.prog ((N1 os).forCall (fun _ _=>0) ⟨#[],#[Value.slice none 0 0,Value.slice none 0 0],[]⟩).memory Tryz.f9.params.toList Rows.courtTakesSpec.vars false #[Value.slice none 0 0,Value.slice none 0 0].toList 8=some ([.nil,.nil],[],places) :=
 ⟨[],by kernel_rfl⟩
set_option maxRecDepth 100000 in
theorem YZ (os:Os) (started:os.Started) (H:Type) (enc:TypeId×Value->H) (F:Stop.Interp) :
  ReturnsInHanded {} Tryz.checked os 9 .any ((OpenSpec.ofChange Rows.courtTakesSpec).preRow enc Tryz.prog Tryz.f9 Rows.courtTakesRow.domain false Rows.courtTakesRow.laid) (((OpenSpec.ofChange Rows.courtTakesSpec).at F).post enc Tryz.prog Tryz.f9 false true false false):=by
 obtain ⟨places,hx⟩:=Zy os enc
 refine returnsInHanded_of_row (C:=Tryz.checked) (s:=OpenSpec.ofChange Rows.courtTakesSpec) VZ started (by kernel_rfl) Tryz.func9
  (witness_row_at (enc:=enc) (C:=Tryz.checked) false (N1 os) #[Value.slice none 0 0,Value.slice none 0 0] rfl (by kernel_rfl) (by kernel_rfl) (by kernel_rfl)
   (OpenSpec.preRow_of_cond 8 hx (by kernel_rfl) (fun k hk=>by cases hk) (by kernel_rfl) (VM os))) ?_
 intro W base args ds gs before hval hW _ _ hsz _ _ _
 exact U4 H enc W base args ds gs before hval hW hsz
theorem WS:Tryz.pinned.checked.prog.funcNamed Rows.courtTakesRow.func=some 9:=by kernel_rfl
theorem Uy:joinedFacts Tryz.pinned.checked.prog 9 Tryz.f9 (OpenSpec.ofChange Rows.courtTakesSpec).bare Rows.courtTakesRow=true:=by kernel_rfl
theorem AAP:Rows.CourtTakesSaid :=
 OpenClaim.holds_of_cond 9 Tryz.f9 rfl rfl rfl rfl rfl rfl rfl ⟨rfl,rfl,rfl,rfl,rfl⟩ rfl rfl rfl rfl rfl WS Tryz.func9 Uy
  (of_decide_eq_true (by kernel_rfl)) (by unfold Func.isWrapper; first | (rw [if_pos (by decide +kernel)]; kernel_rfl) | (rw [if_neg (by decide +kernel)]; exact ⟨rfl,rfl⟩))
  (fun os started H enc _ F=>by rw [OpenClaim.pre_eq_preRow]; exact YZ os started H enc F)
theorem Zw (f : FuncId) (fn : Func) (hf : Tryz.pinned.checked.prog.funcNamed "trestle/trestlelaw03.CourtTakes" = some f) (hfn : Tryz.pinned.checked.prog.funcs[f]? = some fn) :
  true=Tryz.pinned.checked.prog.looks []/\∀ (j:Nat) t,fn.params[j]? = some t->Tryz.pinned.checked.prog.wantsStandIn t=false:=by
 obtain rfl : f = 9 := OI ((show Tryz.prog.funcNamed "trestle/trestlelaw03.CourtTakes" = some 9 by kernel_rfl).symm.trans hf) |>.symm
 obtain rfl:fn=Tryz.f9:=(OI (Tryz.func9.symm.trans hfn)).symm
 refine ⟨by kernel_rfl,fun j t ht=>?_⟩
 have hm:t ∈ Tryz.f9.params.toList:=by simpa using Array.mem_of_getElem? ht
 exact (show Tryz.prog.wantsStandIn t=false from Bool.not_eq_true' _ |>.mp (LU (fun t=>!Tryz.prog.wantsStandIn t) (by kernel_rfl) hm))
theorem card:Rows.CourtTakesCardSaid :=
 Claim7.holds_tied_plain_at .later [] _ _ _ _ AAP (fun _ h=>by cases h) (by kernel_rfl) (fun _ h=>by cases h) courtTakes_row_tie rfl ⟨rfl,rfl⟩ (by kernel_rfl) rfl Zw (by kernel_rfl)
end Go.Proofs.YtlalcoehgkmhlaaGreatDoor.courtTakes
