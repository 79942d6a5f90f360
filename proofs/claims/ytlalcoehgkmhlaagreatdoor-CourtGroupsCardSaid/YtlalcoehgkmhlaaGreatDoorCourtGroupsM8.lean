/- Lemmas for the proof. -/
import Derived.Test.YtlalcoehgkmhlaaGreatDoorCourtGroupsM1
import Derived.Test.YtlalcoehgkmhlaaGreatDoorCourtGroupsM2
import Derived.Test.YtlalcoehgkmhlaaGreatDoorCourtGroupsM3
import Derived.Test.YtlalcoehgkmhlaaGreatDoorCourtGroupsM4
import Derived.Test.YtlalcoehgkmhlaaGreatDoorCourtGroupsM5
import Derived.Test.YtlalcoehgkmhlaaGreatDoorCourtGroupsM6
import Derived.Test.YtlalcoehgkmhlaaGreatDoorCourtGroupsM7
namespace Go.Proofs.YtlalcoehgkmhlaaGreatDoor
open Go.RowKit
theorem Xo (a b:Int):FC a b=some (decide (a < b)):=by
 unfold FC DG
 simp
theorem U4 (gr:List Nat) (hp:gr.Pairwise fun a b=>pI a < pI b) (h0:gr≠[]) (hl:gr.length<=1000):CO (toG gr)=some true:=by
 have hpos:=List.length_pos_iff.2 h0
 have go:∀ (k fu:Nat),k < gr.length->k < fu->B7 (toG gr) fu (k:Int)=some (.inl ()):=by
  intro k
  induction k with
  | zero =>
   intro fu _ hf
   obtain ⟨fu,rfl⟩:∃ q,fu=q + 1:=⟨fu - 1,by omega⟩
   unfold B7
   rw [if_neg (by simp)]
  | succ k ih =>
   intro fu hk hf
   obtain ⟨fu,rfl⟩:∃ q,fu=q + 1:=⟨fu - 1,by omega⟩
   have hlt:=List.pairwise_iff_getElem.1 hp k (k + 1) (by omega) hk (by omega)
   unfold B7
   rw [if_pos (by simp <;> omega),Qd gr (k + 1) hk,OS,Pt (by omega) (by omega),show (((k + 1:Nat):Int) - 1)=(k:Int) by omega,Qd gr k (by omega),OS,Xo,OS,if_neg (by simp; omega)]
   exact ih fu (by omega) (by omega)
 unfold CO
 rw [Fb,Pt (by omega) (by omega),show ((gr.length:Int) - 1)=((gr.length - 1:Nat):Int) by omega,go (gr.length - 1) 100000 (by omega) (by omega)]; rfl
section
variable {c:List AF}{g:List A6}(hc:few c) (hv:(On c).2=0) (hg:FewR g) (hn:g.length<=20){L:List (List Nat)}(hL:GL (fN c g) pI L) (hall:∀ x,x ∈ L.flatten↔x < g.length){s:List Int}(hs:Q6 L g.length L.length s) (v5:List Int×Int)
include hc hv hg hn hL hall hs
theorem VM {x:Nat}(hx:x < g.length):∃ j gr,j < L.length/\L[j]? = some gr/\x ∈ gr/\idx s (x:Int)=some (j:Int):=by
 have _:=hc; have _:=hv; have _:=hg; have _:=hn; have _:=hL
 obtain ⟨gr,h1,h2⟩:=List.mem_flatten.1 ((hall x).2 hx)
 obtain ⟨j,hj,e⟩:=List.getElem_of_mem h1
 have hj':L[j]? = some gr:=by rw [List.getElem?_eq_getElem hj,e]
 refine ⟨j,gr,hj,hj',h2,?_⟩
 unfold idx
 rw [if_pos (by omega),Int.toNat_natCast]
 exact hs.2 j hj gr hj' x h2
theorem Ue (k:Nat) (hk:k < L.length) (a:Int) (ha:0<=a/\a<=10000):A8 c g (toI L) s v5 (k:Int) (toG L[k]) 100000 a 0=some (.inl (a + (L[k].length:Int))):=by
 have _:=hc; have _:=hv; have _:=hg
 have hgm:L[k] ∈ L:=List.getElem_mem hk
 have hll:=Q5 hL hall hgm
 have h0:a + ((0:Nat):Int)=a:=by omega
 have h:=Qw (σ:=Int) L[k].length (fun i=>a + (i:Int)) (some (.inl (a + (L[k].length:Int)))) (fun f c' q=>A8 c g (toI L) s v5 (k:Int) (toG L[k]) f q c') (by omega) (fun i hi f=>by
  show A8 c g (toI L) s v5 (k:Int) (toG L[k]) (f + 1) (a + (i:Int)) (i:Int)=_
  conv=>lhs; unfold A8
  have hx:L[k][i] ∈ L[k]:=List.getElem_mem hi
  have hxl:=PJ hL hall hgm _ hx
  have e:idx s (pI L[k][i])=some (k:Int):=by
   unfold idx pI
   rw [if_pos (by omega),Int.toNat_natCast]
   exact hs.2 k hk L[k] (List.getElem?_eq_getElem hk) _ hx
  rw [if_pos (by rw [Fb]; simp; omega),Qd L[k] i hi,OS,if_neg (by rw [decide_eq_true_eq]; unfold pI; omega),if_neg (by rw [decide_eq_true_eq]; unfold pI; omega),e,OS,OS,if_neg (by simp)]
  show A8 c g (toI L) s v5 (k:Int) (toG L[k]) f (wr .i64 (a + (i:Int) + 1)) _=A8 c g (toI L) s v5 (k:Int) (toG L[k]) f (a + ((i + 1:Nat):Int)) _
  rw [Pt (n:=a + (i:Int) + 1) (by omega) (by omega),show a + (i:Int) + 1=a + ((i + 1:Nat):Int) by omega]) (fun f=>by
  show A8 c g (toI L) s v5 (k:Int) (toG L[k]) (f + 1) (a + (L[k].length:Int)) (L[k].length:Int)=_
  conv=>lhs; unfold A8
  rw [if_neg (by rw [Fb]; simp)])
 have h':A8 c g (toI L) s v5 (k:Int) (toG L[k]) 100000 (a + ((0:Nat):Int)) 0=some (.inl (a + (L[k].length:Int))):=h
 rwa [h0] at h'
theorem WB:BH c g (toI L) s v5 100000 0 0=some (.inl (g.length:Int)):=by
 have hsy:=(Vc g (G9 hv).2).s
 have hfl:=I2 hL hall hsy
 have hnl:=Ti hL hall hsy
 have tk:∀ k,(L.take k).flatten.length<=g.length:=fun k=>by
  rw [<-hfl]
  conv=>rhs; rw [<-List.take_append_drop k L,List.flatten_append,List.length_append]
  omega
 have h:=Qw (σ:=Int) L.length (fun k=>((L.take k).flatten.length:Int)) (some (.inl (g.length:Int))) (fun f c' q=>BH c g (toI L) s v5 f q c') (by omega) (fun k hk f=>by
  show BH c g (toI L) s v5 (f + 1) ((L.take k).flatten.length:Int) (k:Int)=_
  conv=>lhs; unfold BH
  have hgm:L[k] ∈ L:=List.getElem_mem hk
  have hll:=Q5 hL hall hgm
  have hne:=List.length_pos_iff.2 (hL.ne _ hgm)
  have htk:=tk k
  have e:(L.take (k + 1)).flatten.length=(L.take k).flatten.length + L[k].length:=by rw [List.take_succ_eq_append_getElem hk,List.flatten_append,List.length_append]; simp
  rw [if_pos (by rw [Hr]; simp; omega),Tx L k hk,OS,if_neg (by rw [Fb]; simp; exact hL.ne _ hgm),U4 L[k] (hL.tie _ hgm) (hL.ne _ hgm) (by omega),OS,OS,if_neg (by simp),Ue hc hv hg hn hL hall hs v5 k hk _ ⟨by omega,by omega⟩,OS]
  show BH c g (toI L) s v5 f _ _=BH c g (toI L) s v5 f ((L.take (k + 1)).flatten.length:Int) _
  rw [e]; simp) (fun f=>by
  show BH c g (toI L) s v5 (f + 1) ((L.take L.length).flatten.length:Int) (L.length:Int)=_
  conv=>lhs; unfold BH
  rw [if_neg (by rw [Hr]; simp),List.take_length,hfl])
 exact h
theorem Vu {x y j k:Nat}{a b:List Nat}(hj:L[j]? = some a) (hk:L[k]? = some b) (hx:x ∈ a) (hy:y ∈ b):(fN c g x y < 0↔j < k)/\(fN c g x y=0↔j=k):=by
 have _:=hc; have _:=hg; have _:=hn; have _:=hall; have _:=hs
 have hsy:=(Vc g (G9 hv).2).s
 obtain ⟨j1,j2⟩:=List.getElem?_eq_some_iff.1 hj
 obtain ⟨k1,k2⟩:=List.getElem?_eq_some_iff.1 hk
 rcases Nat.lt_trichotomy j k with h | h | h
 ·have:=List.pairwise_iff_getElem.1 hL.lt j k j1 k1 h x (j2 ▸ hx) y (k2 ▸ hy)
  omega
 ·subst h
  rw [hj] at hk
  have:=OI hk
  subst this
  have:=hL.eq a (List.mem_of_getElem? hj) x hx y hy
  omega
 ·have:=List.pairwise_iff_getElem.1 hL.lt k j k1 j1 h y (k2 ▸ hy) x (j2 ▸ hx)
  have:=hsy x y
  omega
theorem Vs (w:Int):BZ c g (toI L) s v5 w 100000 0=some (.inl ()):=by
 have hgd:=G9 hv
 have inner:∀ x,x < g.length->Ba c g (toI L) s v5 w (x:Int) 100000 0=some (.inl ()):=fun x hx=>by
  obtain ⟨j,a,j1,j2,j3,j4⟩:=VM hc hv hg hn hL hall hs hx
  exact Qw (σ:=Unit) g.length (fun _=>()) (some (.inl ())) (fun f c' _=>Ba c g (toI L) s v5 w (x:Int) f c') (by omega) (fun y hy f=>by
   show Ba c g (toI L) s v5 w (x:Int) (f + 1) (y:Int)=_
   conv=>lhs; unfold Ba
   obtain ⟨k,b,k1,k2,k3,k4⟩:=VM hc hv hg hn hL hall hs hy
   obtain ⟨q1,q2⟩:=Vu hc hv hg hn hL hall hs j2 k2 j3 k3
   have hfe:Pr c (gAt g x) (gAt g y) (x:Int) (y:Int)=fN c g x y:=(Xb (by omega) (by omega)).symm
   have b1:(decide (fN c g x y < 0)==decide ((j:Int) < (k:Int)))=true:=by
    by_cases h:j < k
    ·simp [q1.2 h,h]
    ·have:¬ fN c g x y < 0:=fun e=>h (q1.1 e)
     simp [this,h]
   have b2:((fN c g x y==0)==((j:Int)==(k:Int)))=true:=by
    by_cases h:j=k
    ·simp [q2.2 h,h]
    ·have:¬ fN c g x y=0:=fun e=>h (q2.1 e)
     have h':¬ ((j:Int)=(k:Int)):=by omega
     rw [beq_eq_false_iff_ne.2 this,beq_eq_false_iff_ne.2 h']; rfl
   rw [if_pos (by simp; omega),Xh g hx,OS,Xh g hy,OS,Vx c _ _ _ _ hc hgd.1 hgd.2 (hg.at_ hx) (hg.at_ hy),OS,j4,OS,k4,OS,hfe,b1,OS,OS,b2,if_neg (by simp),OS,if_neg (by simp)]) (fun f=>by
   show Ba c g (toI L) s v5 w (x:Int) (f + 1) (g.length:Int)=_
   conv=>lhs; unfold Ba
   rw [if_neg (by simp)])
 exact Qw (σ:=Unit) g.length (fun _=>()) (some (.inl ())) (fun f c' _=>BZ c g (toI L) s v5 w f c') (by omega) (fun x hx f=>by
  show BZ c g (toI L) s v5 w (f + 1) (x:Int)=_
  conv=>lhs; unfold BZ
  rw [if_pos (by simp; omega),inner x hx,OS]) (fun f=>by
  show BZ c g (toI L) s v5 w (f + 1) (g.length:Int)=_
  conv=>lhs; unfold BZ
  rw [if_neg (by simp)])
/-- All groups have one guest. -/
theorem Tj (h1:L.length=g.length) (k:Nat) (hk:k < g.length):∃ x,L[k]? = some [x]/\L.flatten[k]? = some x:=by
 have _:=hc; have _:=hg; have _:=hn; have _:=hs
 have hsy:=(Vc g (G9 hv).2).s
 have hfl:=I2 hL hall hsy
 have gen:∀ M:List (List Nat),(∀ gr ∈ M,gr≠[])->M.length=M.flatten.length->∀ k,k < M.length->∃ x,M[k]? = some [x]/\M.flatten[k]? = some x:=fun M=>by
  induction M with
  | nil=>intro _ _ k hk; simp at hk
  | cons a M ih =>
   intro hne hl k hk
   have hle:∀ N:List (List Nat),(∀ gr ∈ N,gr≠[])->N.length<=N.flatten.length:=fun N hN=>by
    induction N with
    | nil=>simp
    | cons b N ihN =>
     have:=ihN fun gr h=>hN gr (List.mem_cons_of_mem _ h)
     have:=List.length_pos_iff.2 (hN b (by simp))
     simp only [List.flatten_cons,List.length_append,List.length_cons]
     omega
   have h2:=hle M fun gr h=>hne gr (List.mem_cons_of_mem _ h)
   have h3:=List.length_pos_iff.2 (hne a (by simp))
   simp only [List.flatten_cons,List.length_append,List.length_cons] at hl
   have ha:a.length=1:=by omega
   obtain ⟨x,rfl⟩:∃ x,a=[x]:=by
    match a,ha with
    | [x],_=>exact ⟨x,rfl⟩
   cases k with
   | zero=>exact ⟨x,rfl,rfl⟩
   | succ k =>
    obtain ⟨y,y1,y2⟩:=ih (fun gr h=>hne gr (List.mem_cons_of_mem _ h)) (by simp only [List.length_cons,List.length_nil] at hl; omega) k (by simpa using hk)
    exact ⟨y,by simpa using y1,by simpa using y2⟩
 exact gen L hL.ne (by omega) k (by omega)
theorem Un (h1:L.length=g.length) (e0:Int):Bb g s (toG L.flatten,e0) 100000 0=some (.inl ()):=by
 have hsy:=(Vc g (G9 hv).2).s
 have hfl:=I2 hL hall hsy
 exact Qw (σ:=Unit) g.length (fun _=>()) (some (.inl ())) (fun f c' _=>Bb g s (toG L.flatten,e0) f c') (by omega) (fun k hk f=>by
  show Bb g s (toG L.flatten,e0) (f + 1) (k:Int)=_
  conv=>lhs; unfold Bb
  obtain ⟨x,x1,x2⟩:=Tj hc hv hg hn hL hall hs h1 k hk
  have hxl:x < g.length:=(hall x).1 (List.mem_of_getElem? x2)
  have e:idx s (pI x)=some (k:Int):=by
   unfold idx pI
   rw [if_pos (by omega),Int.toNat_natCast]
   exact hs.2 k (by omega) [x] x1 x (by simp)
  have e2:idx (toG L.flatten) (k:Int)=some (pI x):=by
   have hkl:k < L.flatten.length:=by omega
   rw [Qd _ k hkl]
   rw [List.getElem?_eq_getElem hkl] at x2
   rw [OI x2]
  rw [if_pos (by rw [decide_eq_true_eq,Fb,hfl]; omega),e2,OS,if_neg (by rw [decide_eq_true_eq]; unfold pI; omega),if_neg (by rw [decide_eq_true_eq]; unfold pI; omega),e,OS,OS,if_neg (by simp)]) (fun f=>by
  show Bb g s (toG L.flatten,e0) (f + 1) (g.length:Int)=_
  conv=>lhs; unfold Bb
  rw [if_neg (by rw [decide_eq_true_eq,Fb,hfl]; omega)])
theorem Ug (h1:L.length=g.length):Cu s (toG L.flatten)=some 0:=by
 have hsy:=(Vc g (G9 hv).2).s
 have hfl:=I2 hL hall hsy
 have hmap:(toG L.flatten).map (vl s)=toG (List.range g.length):=by
  apply List.ext_getElem?
  intro k
  by_cases hk:k < g.length
  ·obtain ⟨x,x1,x2⟩:=Tj hc hv hg hn hL hall hs h1 k hk
   have hxs:=hs.2 k (by omega) [x] x1 x (by simp)
   unfold toG
   rw [List.getElem?_map,List.getElem?_map,x2,List.getElem?_map,List.getElem?_range hk]
   simp [vl,pI,hxs]
  ·rw [List.getElem?_eq_none (by rw [List.length_map,Fb,hfl]; omega),List.getElem?_eq_none (by simp [toG]; omega)]
 have hbad:(toG L.flatten).any (bad s)=false:=by
  rw [List.any_eq_false]
  intro v hv2
  obtain ⟨x,hx,rfl⟩:=List.mem_map.1 hv2
  have hxl:=(hall x).1 hx
  show ¬ (decide (pI x < 0)||decide (pI x≥(s.length:Int)))=true
  rw [Bool.not_eq_true,Bool.or_eq_false_iff,decide_eq_false_iff_not,decide_eq_false_iff_not,hs.1]
  unfold pI; omega
 have hinv:∀ n,inv (toG (List.range n))=0:=fun n=>by
  induction n with
  | zero=>rfl
  | succ n ih =>
   rw [List.range_succ,Tw]
   show inv (toG (List.range n)++[pI n])=0
   rw [Rw,ih,Nat.zero_add,List.countP_eq_zero]
   intro v hv2
   obtain ⟨x,hx,rfl⟩:=List.mem_map.1 hv2
   have:=List.mem_range.1 hx
   simp [pI]; omega
 rw [TC s (toG L.flatten) (by rw [Fb]; omega),hbad,hmap,hinv]; rfl
end
theorem Sa (l:List (Int×Int×Int×Bool×Bool)) (p:List (Int×Int)) (hl:∀ v ∈ l,Rl v) (hp:∀ v ∈ p,u8 v.1/\u8 v.2):DD l p=some true:=by
 obtain ⟨c,c1,c2,c3,c4⟩:=WY l hl
 obtain ⟨g,g1,g2,g3⟩:=TT p 20 (by decide) (by decide) hp
 have hv:(On c).2=0:=by rw [TS (by omega) c3]
 have hg:FewR g:=⟨by omega,g2⟩
 have hsy:=(Vc g c3).s
 obtain ⟨L,o1,o2,o3⟩:=Wm c2 hv hg g3
 obtain ⟨s,s1,s2⟩:=UL g3 o2 o3 hsy
 have hfl:=I2 o2 o3 hsy
 have hnl:=Ti o2 o3 hsy
 have e1:Fo c g=some s:=by
  unfold Fo
  rw [o1,OS,s1]; rfl
 have e2:Gr c g=some (if lnE L=true then (toG L.flatten,0) else ([],32)):=by
  unfold Gr
  rw [Qv c c2,OS,if_neg (by simp [hv]),if_neg (by simp; omega),o1,OS,Xq L o2.ne (by omega) (by omega)]
  cases lnE L <;> rfl
 have hlnE:lnE L=true↔L.length=g.length:=by
  constructor
  ·intro h
   have gen:∀ M:List (List Nat),lnE M=true->M.length=M.flatten.length:=fun M=>by
    induction M with
    | nil=>intro _; rfl
    | cons a M ih =>
     intro h
     simp only [lnE,List.all_cons,Bool.and_eq_true,beq_iff_eq] at h
     have:=ih h.2
     simp only [List.flatten_cons,List.length_append,List.length_cons]
     omega
   have:=gen L h
   omega
  ·intro h
   unfold lnE
   rw [List.all_eq_true]
   intro gr hgr
   obtain ⟨k,hk,e⟩:=List.getElem_of_mem hgr
   obtain ⟨x,x1,_⟩:=Tj c2 hv hg g3 o2 o3 s2 h k (by omega)
   rw [List.getElem?_eq_getElem hk,e] at x1
   rw [OI x1]; rfl
 unfold DD
 rw [c1,OS,g1,OS,o1,OS,e1,OS,e2,OS,if_neg (by rw [s2.1]; simp),WB c2 hv hg g3 o2 o3 s2,OS]
 simp only [Vs c2 hv hg g3 o2 o3 s2,OS]
 rw [if_neg (by simp),Hr]
 by_cases h1:L.length=g.length
 ·rw [if_neg (by simp; omega),hlnE.2 h1,if_pos rfl,Un c2 hv hg g3 o2 o3 s2 h1]
  simp only [OS]
  rw [if_pos (by rfl),if_pos (by rw [Fb,hfl]; simp),Ug c2 hv hg g3 o2 o3 s2 h1]
  rfl
 ·rw [if_pos (by simp; omega),if_neg (fun h=>h1 (hlnE.1 h))]
  rfl
end Go.Proofs.YtlalcoehgkmhlaaGreatDoor
