/- Guests under other names meet each other as those did; two schedules in one let everybody meet as often as both do. -/
import Derived.Test.YtcmgmkepodbpkaaDoorEveningRelabelsM1
import Derived.Test.YtcmgmkepodbpkaaDoorEveningRelabelsM2
import Derived.Test.YtcmgmkepodbpkaaDoorEveningRelabelsM3
import Derived.Test.YtcmgmkepodbpkaaDoorEveningRelabelsM4
import Derived.Test.YtcmgmkepodbpkaaDoorEveningRelabelsM5
import Derived.Test.YtcmgmkepodbpkaaDoorEveningRelabelsM6
namespace Go.Proofs.YtcmgmkepodbpkaaDoor
open Go.RowKit
/-- How often two guests meet. -/
def cX (n : Nat) (L : List Nat) (x y : Nat) : Int := ((L.count (x * n + y) : Nat) : Int)
theorem at_eq {n x y : Nat} (L : List Nat) (hn : n ≤ 64) (hx : x < n) (hy : y < n) : square_at ((n : Int), celM n L) x y = some (cX n L x y) := by
  unfold square_at
  rw [if_pos (by simp; omega)]
  have e : (x : Int) * (n : Int) + (y : Int) = ((x * n + y : Nat) : Int) := by simp
  show idx (celM n L) ((x : Int) * (n : Int) + (y : Int)) = _
  rw [e]
  exact celM_idx L hx hy
theorem mn_cases (a b : Int) : mnI a b ≤ a ∧ mnI a b ≤ b ∧ (mnI a b = a ∨ mnI a b = b) := by unfold mnI; split <;> omega
theorem mx_cases (a b : Int) : a ≤ mxI a b ∧ b ≤ mxI a b ∧ (mxI a b = a ∨ mxI a b = b) := by unfold mxI; split <;> omega
theorem ext_2 (n : Nat) (hn : n ≤ 64) (L : List Nat) (v1 : Int × List Int) (hv : v1 = ((n : Int), celM n L)) (x0 : Int) (x : Nat) (hx : x < n) : ∀ (k y f : Nat) (lo hi : Int), y + k = x → k < f →
    ∃ lo' hi', evening_extremes_2 x0 v1 x f lo hi y = some (lo', hi') ∧ lo' ≤ lo ∧ hi ≤ hi' ∧ (∀ z, y ≤ z → z < x → lo' ≤ cX n L x z ∧ cX n L x z ≤ hi') ∧ (lo' = lo ∨ ∃ z, z < x ∧ lo' = cX n L x z) ∧ (hi' = hi ∨ ∃ z, z < x ∧ hi' = cX n L x z)
  | 0, y, f + 1, lo, hi, h, _ => by
    refine ⟨lo, hi, ?_, Int.le_refl _, Int.le_refl _, fun z h1 h2 => by omega, .inl rfl, .inl rfl⟩
    unfold evening_extremes_2
    rw [if_neg (by simp; omega)]
  | k + 1, y, f + 1, lo, hi, h, hf => by
    obtain ⟨a1, a2, a3⟩ := mn_cases lo (cX n L x y)
    obtain ⟨b1, b2, b3⟩ := mx_cases hi (cX n L x y)
    obtain ⟨lo', hi', e, c1, c2, c3, c4, c5⟩ := ext_2 n hn L v1 hv x0 x hx k (y + 1) f (mnI lo (cX n L x y)) (mxI hi (cX n L x y)) (by omega) (by omega)
    refine ⟨lo', hi', ?_, by omega, by omega, fun z h1 h2 => ?_, ?_, ?_⟩
    · unfold evening_extremes_2
      rw [if_pos (by simp; omega), hv]
      simp only
      rw [at_eq L hn hx (by omega)]
      simp only [Option.bind_some]
      rw [wr_nat (by omega), ← hv]
      exact e
    · by_cases hz : z = y
      · subst hz; omega
      · exact c3 z (by omega) h2
    · rcases c4 with c4 | c4
      · rcases a3 with a3 | a3
        · exact .inl (by omega)
        · exact .inr ⟨y, by omega, by omega⟩
      · exact .inr c4
    · rcases c5 with c5 | c5
      · rcases b3 with b3 | b3
        · exact .inl (by omega)
        · exact .inr ⟨y, by omega, by omega⟩
      · exact .inr c5
theorem ext_1 (n : Nat) (hn : n ≤ 64) (L : List Nat) (v1 : Int × List Int) (hv : v1 = ((n : Int), celM n L)) : ∀ (k x f : Nat) (lo hi : Int), x + k = n → k < f →
    ∃ lo' hi', evening_extremes_1 n v1 f lo hi x = some (lo', hi') ∧ lo' ≤ lo ∧ hi ≤ hi' ∧ (∀ u z, x ≤ u → u < n → z < u → lo' ≤ cX n L u z ∧ cX n L u z ≤ hi') ∧ (lo' = lo ∨ ∃ u z, u < n ∧ z < u ∧ lo' = cX n L u z) ∧ (hi' = hi ∨ ∃ u z, u < n ∧ z < u ∧ hi' = cX n L u z)
  | 0, x, f + 1, lo, hi, h, _ => by
    refine ⟨lo, hi, ?_, Int.le_refl _, Int.le_refl _, fun u z h1 h2 => by omega, .inl rfl, .inl rfl⟩
    unfold evening_extremes_1
    rw [if_neg (by simp; omega)]
  | k + 1, x, f + 1, lo, hi, h, hf => by
    obtain ⟨l1, h1, e1, a1, a2, a3, a4, a5⟩ := ext_2 n hn L v1 hv n x (by omega) x 0 100000 lo hi (by omega) (by omega)
    obtain ⟨lo', hi', e, c1, c2, c3, c4, c5⟩ := ext_1 n hn L v1 hv k (x + 1) f l1 h1 (by omega) (by omega)
    refine ⟨lo', hi', ?_, by omega, by omega, fun u z g1 g2 g3 => ?_, ?_, ?_⟩
    · rw [show ((0 : Nat) : Int) = 0 from rfl] at e1
      unfold evening_extremes_1
      rw [if_pos (by simp; omega), e1]
      simp only [Option.bind_some]
      rw [wr_nat (by omega)]
      exact e
    · by_cases hz : u = x
      · subst hz
        have := a3 z (by omega) g3
        omega
      · exact c3 u z (by omega) g2 g3
    · rcases c4 with c4 | c4
      · rcases a4 with a4 | ⟨z, z1, z2⟩
        · exact .inl (by omega)
        · exact .inr ⟨x, z, by omega, z1, by omega⟩
      · exact .inr c4
    · rcases c5 with c5 | c5
      · rcases a5 with a5 | ⟨z, z1, z2⟩
        · exact .inl (by omega)
        · exact .inr ⟨x, z, by omega, z1, by omega⟩
      · exact .inr c5
/-- The least and the greatest number of meetings. -/
structure Exts (n : Nat) (L : List Nat) (lo hi : Int) : Prop where
  all : ∀ u z, u < n → z < u → lo ≤ cX n L u z ∧ cX n L u z ≤ hi
  lo_ : lo = 64 ∨ ∃ u z, u < n ∧ z < u ∧ lo = cX n L u z
  hi_ : hi = 0 ∨ ∃ u z, u < n ∧ z < u ∧ hi = cX n L u z
theorem ext_eq {n : Nat} {s : List (List (List Nat))} (h : SmM n s) : ∃ lo hi, evening_extremes n (toI3 s) = some (if n = 1 then 0 else lo, hi) ∧ Exts n (meetS n s) lo hi := by
  obtain ⟨lo, hi, e, _, _, c3, c4, c5⟩ := ext_1 n h.n64 (meetS n s) _ rfl n 0 100000 64 0 (by omega) (by have := h.n64; omega)
  refine ⟨lo, hi, ?_, fun u z h1 h2 => c3 u z (by omega) h1 h2, c4, c5⟩
  unfold evening_extremes
  rw [meetings_eq h]
  simp only [Option.bind_some]
  rw [show ((0 : Nat) : Int) = 0 from rfl] at e
  rw [e]
  simp only [Option.bind_some]
  unfold evening_extremes_j3
  by_cases h1 : n = 1
  · subst h1; simp
  · have : ((n : Int) == 1) = false := by simp; omega
    rw [this, if_neg h1]; simp
theorem most_eq {n : Nat} {s : List (List (List Nat))} (h : SmM n s) (hv : evening_valid n (toI3 s) = some true) : ∃ lo hi, evening_Most n (toI3 s) = some hi ∧ evening_Least n (toI3 s) = some (if n = 1 then 0 else lo) ∧ Exts n (meetS n s) lo hi := by
  obtain ⟨lo, hi, e, ex⟩ := ext_eq h
  refine ⟨lo, hi, ?_, ?_, ex⟩
  · unfold evening_Most
    rw [hv]
    simp only [Option.bind_some, Bool.not_true, Bool.false_eq_true, if_false]
    rw [e]
    rfl
  · unfold evening_Least
    rw [hv]
    simp only [Option.bind_some, Bool.not_true, Bool.false_eq_true, if_false]
    rw [e]
    rfl
def sqSum : List Int → Int
  | [] => 0
  | v :: r => v * v + sqSum r
theorem sq_nn (v : Int) (h0 : 0 ≤ v) (h1 : v ≤ 10000000) : 0 ≤ v * v ∧ v * v ≤ 100000000000000 := by
  refine ⟨Int.mul_nonneg h0 h0, ?_⟩
  have := Int.mul_le_mul h1 h1 h0 (by omega)
  omega
theorem strain_1 (n0 : Int) (cs : List Int) (hb : ∀ v ∈ cs, 0 ≤ v ∧ v ≤ 10000000) (hl : cs.length ≤ 5000) : ∀ (r pre : List Int) (f : Nat) (c : Int), cs = pre ++ r → r.length < f → 0 ≤ c → c ≤ 100000000000000 * pre.length → evening_Strain_1 (n0, cs) f c pre.length = some (c + sqSum r)
  | [], pre, f + 1, c, h, _, _, _ => by
    unfold evening_Strain_1
    rw [if_neg (by rw [h]; simp)]
    simp [sqSum]
  | v :: r, pre, f + 1, c, h, hf, h0, h1 => by
    obtain ⟨v0, v1⟩ := hb v (by rw [h]; simp)
    obtain ⟨s0, s1⟩ := sq_nn v v0 v1
    have hp : pre.length < cs.length := by rw [h]; simp
    have ih := strain_1 n0 cs hb hl r (pre ++ [v]) f (c + v * v) (by rw [h]; simp) (by simp at hf; omega) (by omega) (by simp; omega)
    unfold evening_Strain_1
    rw [if_pos (by rw [h]; simp; omega), show idx cs (pre.length : Int) = some v by rw [h]; exact idx_app pre v r]
    simp only [Option.bind_some]
    rw [wr_nat (by omega), wr_i (n := v * v) (by omega) (by omega), wr_i (by omega) (by omega)]
    have : ((pre.length + 1 : Nat) : Int) = ((pre ++ [v]).length : Int) := by simp
    rw [this, ih]
    simp only [sqSum]
    congr 1; omega
theorem celM_mem {n : Nat} {L : List Nat} {v : Int} (h : v ∈ celM n L) : ∃ j, j < n * n ∧ v = ((L.count j : Nat) : Int) := by
  obtain ⟨j, hj, hv⟩ := List.getElem_of_mem h
  have hj' := hj
  rw [celM_len] at hj'
  refine ⟨j, hj', ?_⟩
  have := cnt_get L (n * n) j hj'
  rw [← this, ← hv, List.getD_eq_getElem?_getD]
  show _ = (celM n L)[j]?.getD 0
  rw [List.getElem?_eq_getElem hj]
  rfl
theorem sqSum_le : ∀ (r : List Int), (∀ v ∈ r, 0 ≤ v ∧ v ≤ 10000000) → 0 ≤ sqSum r ∧ sqSum r ≤ 100000000000000 * r.length
  | [], _ => by simp [sqSum]
  | v :: r, h => by
    obtain ⟨v0, v1⟩ := h v (by simp)
    obtain ⟨s0, s1⟩ := sq_nn v v0 v1
    obtain ⟨a, b⟩ := sqSum_le r fun w hw => h w (by simp [hw])
    simp only [sqSum, List.length_cons]; omega
theorem strain_eq {n : Nat} {s : List (List (List Nat))} (h : SmM n s) (hv : evening_valid n (toI3 s) = some true) (hL : (meetS n s).length ≤ 10000000) : evening_Strain n (toI3 s) = some (sqSum (celM n (meetS n s)) / 2) := by
  have hb : ∀ v ∈ celM n (meetS n s), 0 ≤ v ∧ v ≤ 10000000 := fun v hv => by
    obtain ⟨j, _, rfl⟩ := celM_mem hv
    have : (meetS n s).count j ≤ (meetS n s).length := List.count_le_length
    omega
  have h2 : n * n ≤ 64 * 64 := Nat.mul_le_mul h.n64 h.n64
  have hl : (celM n (meetS n s)).length ≤ 5000 := by rw [celM_len]; omega
  have h1 := strain_1 n _ hb hl (celM n (meetS n s)) [] 100000 0 rfl (by omega) (by omega) (by simp)
  obtain ⟨q0, q1⟩ := sqSum_le _ hb
  unfold evening_Strain
  rw [hv]
  simp only [Option.bind_some, Bool.not_true, Bool.false_eq_true, if_false]
  rw [meetings_eq h]
  simp only [Option.bind_some]
  rw [show ((([] : List Int).length : Nat) : Int) = 0 from rfl, Int.zero_add] at h1
  rw [h1]
  simp only [Option.bind_some]
  rw [tdiv2 _ q0, wr_i (by omega) (by omega)]
/-- An evening of these sizes, everybody once. -/
structure Evn (n : Nat) (sz : List Nat) (ev : List (List Nat)) : Prop where
  sz_ : ev.map List.length = sz
  ne : ∀ t ∈ ev, t.length ≠ 0
  cnt : ∀ j, ev.flatten.count j = if j < n then 1 else 0
section
variable {n : Nat} {sz : List Nat} {ev : List (List Nat)} {s : List (List (List Nat))}
theorem Evn.flt (h : Evn n sz ev) {j : Nat} (hj : j ∈ ev.flatten) : j < n := by
  have := h.cnt j
  have := List.count_pos_iff.2 hj
  split at * <;> omega
theorem Evn.lt (h : Evn n sz ev) : ∀ t ∈ ev, ∀ x ∈ t, x < n := fun t ht _ hx => h.flt (List.mem_flatten.2 ⟨t, ht, hx⟩)
theorem Evn.len (h : Evn n sz ev) : ev.flatten.length = sz.sum := by rw [List.length_flatten, h.sz_]
theorem chk_evn (h : Evn n sz ev) (zs : List Int) (hs : zs = [] ∨ zs = toI1 sz) : chk n zs (toI2 ev) = 0 := by
  have hz : zs = [] ∨ zs = (toI2 ev).map (fun t => (t.length : Int)) := hs.imp id fun e => by rw [e, ← h.sz_]; simp [toI1, toI2]
  unfold chk
  have h1 : (decide ((zs.length : Int) > 0) && ((zs.length : Int) != ((toI2 ev).length : Int))) = false := by
    rcases hz with h | h
    · subst h; rfl
    · rw [h]; simp
  have h2 : sbad zs (toI2 ev) 0 = false := sbad_ok (toI2 ev) [] zs (by simpa using hz) (fun t ht => by
    obtain ⟨u, hu, rfl⟩ := List.mem_map.1 ht
    rw [toI1_len]; exact h.ne u hu)
  have h3 : (toI2 ev).flatten.any (badV n) = false := by
    rw [toI2_flat]
    refine List.any_eq_false.2 fun v hv => ?_
    obtain ⟨j, hj, rfl⟩ := mem_toI1 hv
    have := h.flt hj
    simp only [badV, decide_eq_true_eq]
    simp
    omega
  have h4 : anyN (fun x => decide (((toI2 ev).flatten.count x : Int) > 1)) (n : Int).toNat 0 = false := anyN_false _ _ fun x hx => by
    rw [toI2_flat, toI1_count, h.cnt]
    simp only [decide_eq_false_iff_not]
    split <;> simp
  have h5 : anyN (fun x => (((toI2 ev).flatten.count x : Int) == 0)) (n : Int).toNat 0 = false := anyN_false _ _ fun x hx => by
    rw [toI2_flat, toI1_count, h.cnt, if_pos (by simpa using hx)]
    rfl
  rw [h1, h2, h3, h4, h5]
  rfl
theorem chkAll_evn (h1 : 1 ≤ n) (h2 : n ≤ 64) (zs : List Int) (hz : zs = [] ∨ (zs = toI1 sz ∧ fitP n zs = true)) (hs : s.length ≤ 64) (hv : ∀ ev ∈ s, Evn n sz ev) : chkAll n zs (toI3 s) = (0, 0) := by
  unfold chkAll
  have e1 : decide ((n : Int) < 1) = false := by simp; omega
  have e2 : decide ((n : Int) > 64) = false := by simp; omega
  have e3 : (decide ((zs.length : Int) > 0) && !fitP n zs) = false := by
    rcases hz with h | h
    · subst h; rfl
    · rw [h.2]; simp
  rw [e1, e2, e3]
  simp only [Bool.or_self, Bool.false_eq_true, if_false]
  rw [if_neg (by rw [toI3_len]; omega)]
  refine chkS_ok n zs (toI3 s) 0 fun ev he => ?_
  obtain ⟨u, hu, rfl⟩ := List.mem_map.1 he
  exact chk_evn (hv u hu) zs (hz.imp id fun h => h.1)
theorem evn_check (h1 : 1 ≤ n) (hn : n ≤ 64) (hs : s.length ≤ 64) (hv : ∀ ev ∈ s, Evn n sz ev) (hsum : sz.sum ≤ 64) (hf : fitP n (toI1 sz) = true) (hzl : sz.length ≤ 64) : evening_Check n (toI1 sz) (toI3 s) = some (0, 0) ∧ evening_valid n (toI3 s) = some true := by
  have hl : ∀ ev ∈ toI3 s, ev.length ≤ 50000 ∧ ev.flatten.length ≤ 50000 := fun ev he => by
    obtain ⟨u, hu, rfl⟩ := List.mem_map.1 he
    have h := hv u hu
    have e : u.flatten.length ≤ 64 := by rw [h.len]; exact hsum
    have := len_flat h.ne
    rw [toI2_len, toI2_flat, toI1_len]
    omega
  have c1 := (check_both n ⟨by omega, by omega⟩ (toI1 sz) (by rw [toI1_len]; omega) (toI3 s) (by rw [toI3_len]; omega) hl).1
  have c2 := (check_both n ⟨by omega, by omega⟩ [] (by simp) (toI3 s) (by rw [toI3_len]; omega) hl).1
  rw [chkAll_evn h1 hn (toI1 sz) (.inr ⟨rfl, hf⟩) hs hv] at c1
  rw [chkAll_evn h1 hn [] (.inl rfl) hs hv] at c2
  refine ⟨c1, ?_⟩
  unfold evening_valid
  rw [c2]
  rfl
end
theorem fit_sum {n : Nat} {sz : List Nat} (h1 : 1 ≤ n) (hn : n ≤ 64) (hp : ∀ k ∈ sz, 1 ≤ k) (hs : sz.sum = n) : fitP n (toI1 sz) = true := by
  have key : ∀ sz : List Nat, sumL (toI1 sz) = ((sz.sum : Nat) : Int) := fun sz => by
    induction sz with
    | nil => rfl
    | cons k sz ih =>
      show (k : Int) + sumL (toI1 sz) = _
      rw [ih, List.sum_cons]; push_cast; rfl
  simp only [fitP, Bool.and_eq_true, decide_eq_true_eq]
  refine ⟨⟨⟨List.all_eq_true.2 fun v hv => ?_, ?_⟩, by omega⟩, by omega⟩
  · obtain ⟨j, hj, rfl⟩ := mem_toI1 hv
    have := hp j hj
    simp; omega
  · rw [key, hs]
/- slices.Index[[]int,int] -/
/- slices.Contains[[]int,int] -/
/- trestle/evening.Together -/
theorem map_count (n z x y : Nat) (hy : y < n) : ∀ (l : List Nat), (∀ w ∈ l, w < n) → (l.map fun w => Nat.add (Nat.mul z n) w).count (x * n + y) = if z = x then l.count y else 0
  | [], _ => by simp
  | w :: l, h => by
    have ih := map_count n z x y hy l fun u hu => h u (by simp [hu])
    have hw := h w (by simp)
    rw [List.map_cons, List.count_cons, ih, List.count_cons]
    by_cases e : z * n + w = x * n + y
    · obtain ⟨e1, e2⟩ := cell_eq hw hy e
      subst e1 e2
      simp
    · have : ((Nat.add (Nat.mul z n) w) == (x * n + y)) = false := by simpa using e
      rw [this]
      by_cases hz : z = x
      · subst hz
        have : ¬ w = y := fun e2 => e (by rw [e2])
        simp [this]
      · simp [hz]
theorem meetT_count (n x y : Nat) (hy : y < n) : ∀ (r pre : List Nat), (∀ z ∈ pre ++ r, z < n) → (meetT n pre r).count (x * n + y) = r.count x * ((pre ++ r).count y - if x = y then 1 else 0)
  | [], _, _ => by simp [meetT]
  | z :: r, pre, h => by
    have ih := meetT_count n x y hy r (pre ++ [z]) (by simpa using h)
    have e : (pre ++ [z]) ++ r = pre ++ z :: r := by simp
    rw [e] at ih
    have hT : (pre ++ z :: r).count y = (pre ++ r).count y + if z = y then 1 else 0 := by
      rw [List.count_append, List.count_append, List.count_cons]
      by_cases hz : z = y
      · subst hz; simp; omega
      · simp [hz]
    simp only [meetT, List.count_append]
    rw [map_count n z x y hy (pre ++ r) (fun w hw => h w (by
      rcases List.mem_append.1 hw with hw | hw
      · simp [hw]
      · simp [hw])), List.count_cons]
    rw [List.count_append] at ih
    rw [ih]
    have hT' : List.count y pre + List.count y (z :: r) = (pre ++ r).count y + if z = y then 1 else 0 := by rw [← hT, List.count_append]
    rw [hT']
    by_cases hz : z = x
    · subst hz
      by_cases hxy : z = y
      · subst hxy
        simp [Nat.add_mul]; omega
      · simp [hxy, Nat.add_mul]; omega
    · have : (z == x) = false := by simpa using hz
      simp [hz]
/-- On how many tables of an evening two guests sit together. -/
def pE (x y : Nat) : List (List Nat) → Nat
  | [] => 0
  | t :: ev => t.count x * t.count y + pE x y ev
def pS (x y : Nat) : List (List (List Nat)) → Nat
  | [] => 0
  | ev :: s => pE x y ev + pS x y s
theorem pE_comm (x y : Nat) : ∀ ev, pE x y ev = pE y x ev
  | [] => rfl
  | t :: ev => by simp only [pE, pE_comm x y ev, Nat.mul_comm]
theorem pS_comm (x y : Nat) : ∀ s, pS x y s = pS y x s
  | [] => rfl
  | ev :: s => by simp only [pS, pS_comm x y s, pE_comm x y ev]
theorem meetE_count (n x y : Nat) (hy : y < n) (hxy : x ≠ y) : ∀ (ev : List (List Nat)), (∀ t ∈ ev, ∀ z ∈ t, z < n) → (meetE n ev).count (x * n + y) = pE x y ev
  | [], _ => rfl
  | t :: ev, h => by
    have ih := meetE_count n x y hy hxy ev fun u hu => h u (by simp [hu])
    simp only [meetE, pE, List.count_append, ih]
    rw [meetT_count n x y hy t [] (by simpa using h t (by simp)), if_neg hxy]
    simp
theorem meetS_count (n x y : Nat) (hy : y < n) (hxy : x ≠ y) : ∀ (s : List (List (List Nat))), (∀ ev ∈ s, ∀ t ∈ ev, ∀ z ∈ t, z < n) → (meetS n s).count (x * n + y) = pS x y s
  | [], _ => rfl
  | ev :: s, h => by
    have ih := meetS_count n x y hy hxy s fun u hu => h u (by simp [hu])
    simp only [meetS, pS, List.count_append, ih, meetE_count n x y hy hxy ev (h ev (by simp))]
/- Together. -/
theorem mem_toI {t : List Nat} {x : Nat} : ((x : Int) ∈ toI1 t) ↔ x ∈ t := by
  constructor
  · intro h
    obtain ⟨j, hj, e⟩ := mem_toI1 h
    have : x = j := by
      have : (x : Int) = (j : Int) := e
      omega
    rw [this]; exact hj
  · intro h
    exact List.mem_map.2 ⟨x, h, rfl⟩
/-- Where guests beside each other are counted. -/
def bp (n x y : Nat) : List Nat := bif Nat.beq x y then [] else [Nat.add (Nat.mul x n) y, Nat.add (Nat.mul y n) x]
def besL (n f : Nat) : List Nat → List Nat
  | [] => []
  | x :: r => bp n x (r.headD f) ++ besL n f r
def besT (n : Nat) : List Nat → List Nat
  | [] => []
  | [x, y] => bp n x y
  | f :: r => besL n f (f :: r)
def besE (n : Nat) : List (List Nat) → List Nat
  | [] => []
  | t :: ev => besT n t ++ besE n ev
def besS (n : Nat) : List (List (List Nat)) → List Nat
  | [] => []
  | ev :: s => besE n ev ++ besS n s
/-- The pairs beside each other, as the loop finds them. -/
def besG (n f0 : Nat) (two : Bool) : Nat → List Nat → List Nat
  | _, [] => []
  | i, x :: r => (if (two && i == 1) = true then [] else bp n x (r.headD f0)) ++ besG n f0 two (i + 1) r
theorem besG_len (n f0 : Nat) (two : Bool) : ∀ (r : List Nat) (i : Nat), (besG n f0 two i r).length ≤ 2 * r.length
  | [], _ => by simp [besG]
  | x :: r, i => by
    have := besG_len n f0 two r (i + 1)
    have h2 : (bp n x (r.headD f0)).length ≤ 2 := by unfold bp; cases Nat.beq x (r.headD f0) <;> simp
    simp only [besG, List.length_append, List.length_cons]
    split
    · simp only [List.length_nil]; omega
    · omega
theorem besG_L (n f0 : Nat) : ∀ (r : List Nat) (i : Nat), besG n f0 false i r = besL n f0 r
  | [], _ => rfl
  | x :: r, i => by
    simp only [besG, besL, Bool.false_and, Bool.false_eq_true, if_false]
    rw [besG_L n f0 r (i + 1)]
theorem besG_T (n : Nat) : ∀ (t : List Nat), besG n (t.headD 0) (t.length == 2) 0 t = besT n t
  | [] => rfl
  | [x] => by simp [besG, besT, besL]
  | [x, y] => by simp [besG, besT]
  | x :: y :: z :: r => by
    have : ((x :: y :: z :: r).length == 2) = false := by simp
    rw [this, besG_L]; rfl
theorem besT_len (n : Nat) (t : List Nat) : (besT n t).length ≤ 2 * t.length := by
  rw [← besG_T]; exact besG_len _ _ _ _ _
theorem bes_k2 {n x y : Nat} (L : List Nat) (hn : n ≤ 64) (hx : x < n) (hy : y < n) : evening_Beside_k2 n (celM n L) n x y = some (n : Int) := by
  unfold evening_Beside_k2
  rw [celM_wr hn hx hy, celM_idx L hx hy]
  rfl
theorem next_idx (pre : List Nat) (x : Nat) (r : List Nat) (hl : (pre ++ x :: r).length ≤ 1000000) : idx (toI1 (pre ++ x :: r)) ((wr .i64 ((pre.length : Int) + 1)).tmod ((toI1 (pre ++ x :: r)).length : Int)) = some ((r.headD ((pre ++ x :: r).headD 0) : Nat) : Int) := by
  rw [toI1_len]
  simp only [List.length_append, List.length_cons] at hl ⊢
  rw [wr_nat (by omega), Int.tmod_eq_emod_of_nonneg (by omega)]
  cases r with
  | nil =>
    have e : (((pre.length + 1 : Nat) : Int)) % ((pre.length + (([] : List Nat).length + 1) : Nat) : Int) = ((0 : Nat) : Int) := by simp
    rw [e]
    cases pre with
    | nil => rfl
    | cons a pre => exact idx_toI1 [] a (pre ++ [x])
  | cons y r =>
    have e : (((pre.length + 1 : Nat) : Int)) % ((pre.length + ((y :: r).length + 1) : Nat) : Int) = ((pre ++ [x]).length : Int) := by
      rw [Int.emod_eq_of_lt (by omega) (by simp; omega)]; simp
    rw [e, show pre ++ x :: y :: r = (pre ++ [x]) ++ y :: r by simp]
    exact idx_toI1 (pre ++ [x]) y r
theorem bes_3 (x1 : List (List (List Int))) (c6 : Int) (v8 : List (List Int)) (c11 : Int) (n : Nat) (hn : n ≤ 64) (t : List Nat) (ht : ∀ x ∈ t, x < n) (htl : t.length ≤ 90000) : ∀ (r pre : List Nat) (f : Nat) (L : List Nat), t = pre ++ r → r.length < f → L.length + 2 * r.length ≤ 9000000 →
    evening_Beside_3 x1 c6 v8 c11 (toI1 t) f n (celM n L) pre.length = some ((n : Int), celM n (L ++ besG n (t.headD 0) (t.length == 2) pre.length r))
  | [], pre, f + 1, L, h, _, _ => by
    unfold evening_Beside_3
    rw [if_neg (by rw [toI1_len, h]; simp)]
    simp [besG]
  | x :: r, pre, f + 1, L, h, hf, hL => by
    have hx : x < n := ht x (by rw [h]; simp)
    have hy : r.headD (t.headD 0) < n := by
      cases r with
      | nil =>
        have : t ≠ [] := by rw [h]; simp
        cases t with
        | nil => exact absurd rfl this
        | cons a t => exact ht a (by simp)
      | cons y r => exact ht y (by rw [h]; simp)
    simp only [List.length_cons] at hf hL
    have hlen : ((toI1 t).length : Int) = (t.length : Int) := by rw [toI1_len]
    have hpos : ¬ ((toI1 t).length : Int) = 0 := by rw [hlen, h]; simp; omega
    have hi : idx (toI1 t) (pre.length : Int) = some (x : Int) := by rw [h]; exact idx_toI1 pre x r
    have hnx : idx (toI1 t) ((wr .i64 ((pre.length : Int) + 1)).tmod ((toI1 t).length : Int)) = some ((r.headD (t.headD 0) : Nat) : Int) := by
      rw [h]; exact next_idx pre x r (by rw [← h]; omega)
    have hb : bp n x (r.headD (t.headD 0)) = if ((x : Int) == ((r.headD (t.headD 0) : Nat) : Int)) = true then [] else [x * n + r.headD (t.headD 0), r.headD (t.headD 0) * n + x] := by
      rw [beq_nat]
      unfold bp
      cases Nat.beq x (r.headD (t.headD 0)) <;> rfl
    have h2 : (((toI1 t).length : Int) == 2) = (t.length == 2) := by
      rw [hlen, show ((2 : Int)) = ((2 : Nat) : Int) from rfl, beq_nat]
      rw [Bool.eq_iff_iff, Nat.beq_eq]; simp
    have h1 : ((pre.length : Int) == 1) = (pre.length == 1) := by
      rw [show ((1 : Int)) = ((1 : Nat) : Int) from rfl, beq_nat]
      rw [Bool.eq_iff_iff, Nat.beq_eq]; simp
    have hwr : wr .i64 ((pre.length : Int) + 1) = ((pre ++ [x]).length : Int) := by
      have : pre.length ≤ t.length := by rw [h]; simp
      rw [wr_nat (by omega)]; simp
    have rec_ := fun L' hL' => bes_3 x1 c6 v8 c11 n hn t ht htl r (pre ++ [x]) f L' (by rw [h]; simp) (by omega) hL'
    unfold evening_Beside_3
    rw [if_pos (by rw [hlen, h]; simp; omega), hi]
    simp only [Option.bind_some]
    rw [if_neg hpos, hnx]
    simp only [Option.bind_some]
    rw [h2, h1]
    generalize hyy : r.headD (t.headD 0) = y at *
    simp only [besG, hyy, hb]
    cases hxy : ((x : Int) == (y : Int)) with
    | true =>
      simp only [if_true, Option.bind_some]
      rw [hwr, rec_ L (by omega)]
      simp
    | false =>
      cases hb2 : (t.length == 2 && pre.length == 1) with
      | true =>
        simp only [Bool.and_eq_true] at hb2
        simp only [hb2.1, hb2.2, if_true, Bool.false_eq_true, if_false, Option.bind_some]
        rw [hwr]
        have := rec_ L (by omega)
        simp only [hb2.1] at this
        rw [this]
        simp
      | false =>
        have e : (if false = true then some ((n : Int), celM n L, true) else if (t.length == 2) = true then some ((n : Int), celM n L, (pre.length == 1)) else some ((n : Int), celM n L, false)) = some ((n : Int), celM n L, false) := by
          cases h5 : (t.length == 2) with
          | false => rfl
          | true => rw [h5] at hb2; simp at hb2; simp [hb2]
        rw [e]
        simp only [Option.bind_some, Bool.false_eq_true, if_false]
        rw [bes_k2 L hn hx hy]
        simp only [Option.bind_some]
        rw [celM_wr hn hx hy, celM_idx L hx hy]
        simp only [Option.bind_some]
        rw [celM_set L (by omega) hx hy, bes_k2 _ hn hy hx]
        simp only [Option.bind_some]
        rw [celM_wr hn hy hx, celM_idx _ hy hx]
        simp only [Option.bind_some]
        rw [celM_set _ (by simp; omega) hy hx, hwr, rec_ _ (by simp; omega)]
        simp
theorem besE_len (n : Nat) : ∀ (ev : List (List Nat)), (besE n ev).length ≤ 2 * ev.flatten.length
  | [] => by simp [besE]
  | t :: ev => by
    have := besE_len n ev
    have := besT_len n t
    simp only [besE, List.flatten_cons, List.length_append]; omega
theorem bes_2 (x1 : List (List (List Int))) (c6 : Int) (n : Nat) (hn : n ≤ 64) (ev : List (List Nat)) (hev : ∀ t ∈ ev, ∀ x ∈ t, x < n) (hel : ev.flatten.length ≤ 90000) (hev2 : ev.length ≤ 90000) : ∀ (r pre : List (List Nat)) (f : Nat) (L : List Nat), ev = pre ++ r → r.length < f → L.length + 2 * r.flatten.length ≤ 9000000 →
    evening_Beside_2 x1 c6 (toI2 ev) f n (celM n L) pre.length = some ((n : Int), celM n (L ++ besE n r))
  | [], pre, f + 1, L, h, _, _ => by
    unfold evening_Beside_2
    rw [if_neg (by rw [toI2_len, h]; simp)]
    simp [besE]
  | t :: r, pre, f + 1, L, h, hf, hL => by
    have htl : t.length ≤ ev.flatten.length := len_mem (by rw [h]; simp)
    simp only [List.flatten_cons, List.length_append] at hL
    have h3 := bes_3 x1 c6 (toI2 ev) pre.length n hn t (hev t (by rw [h]; simp)) (by omega) t [] 100000 L rfl (by omega) (by omega)
    rw [show ((([] : List Nat).length : Nat) : Int) = 0 from rfl, show ([] : List Nat).length = 0 from rfl, besG_T] at h3
    have hwr : wr .i64 ((pre.length : Int) + 1) = ((pre ++ [t]).length : Int) := by
      have : pre.length ≤ ev.length := by rw [h]; simp
      rw [wr_nat (by omega)]; simp
    have hb := besT_len n t
    have ih := bes_2 x1 c6 n hn ev hev hel hev2 r (pre ++ [t]) f (L ++ besT n t) (by rw [h]; simp) (by simp at hf; omega) (by rw [List.length_append]; omega)
    unfold evening_Beside_2
    rw [if_pos (by rw [toI2_len, h]; simp; omega), show idx (toI2 ev) (pre.length : Int) = some (toI1 t) by rw [h]; exact idx_toI2 pre t r]
    simp only [Option.bind_some]
    rw [h3]
    simp only [Option.bind_some]
    rw [hwr, ih]
    simp [besE]
theorem bes_1 (n : Nat) (hn : n ≤ 64) (s : List (List (List Nat))) (hs : ∀ ev ∈ s, ∀ t ∈ ev, ∀ x ∈ t, x < n) (hsl : ∀ ev ∈ s, ev.flatten.length ≤ 90000 ∧ ev.length ≤ 90000) (hs2 : s.length ≤ 90000) : ∀ (r pre : List (List (List Nat))) (f : Nat) (L : List Nat), s = pre ++ r → r.length < f → L.length + 2 * r.flatten.flatten.length ≤ 9000000 →
    evening_Beside_1 (toI3 s) f n (celM n L) pre.length = some ((n : Int), celM n (L ++ besS n r))
  | [], pre, f + 1, L, h, _, _ => by
    unfold evening_Beside_1
    rw [if_neg (by rw [toI3_len, h]; simp)]
    simp [besS]
  | ev :: r, pre, f + 1, L, h, hf, hL => by
    obtain ⟨hl1, hl2⟩ := hsl ev (by rw [h]; simp)
    simp only [List.flatten_cons, List.flatten_append, List.length_append] at hL
    have h3 := bes_2 (toI3 s) pre.length n hn ev (hs ev (by rw [h]; simp)) hl1 hl2 ev [] 100000 L rfl (by omega) (by omega)
    rw [show ((([] : List (List Nat)).length : Nat) : Int) = 0 from rfl] at h3
    have hwr : wr .i64 ((pre.length : Int) + 1) = ((pre ++ [ev]).length : Int) := by
      have : pre.length ≤ s.length := by rw [h]; simp
      rw [wr_nat (by omega)]; simp
    have hb := besE_len n ev
    have ih := bes_1 n hn s hs hsl hs2 r (pre ++ [ev]) f (L ++ besE n ev) (by rw [h]; simp) (by simp at hf; omega) (by rw [List.length_append]; omega)
    unfold evening_Beside_1
    rw [if_pos (by rw [toI3_len, h]; simp; omega), show idx (toI3 s) (pre.length : Int) = some (toI2 ev) by rw [h]; exact idx_toI3 pre ev r]
    simp only [Option.bind_some]
    rw [h3]
    simp only [Option.bind_some]
    rw [hwr, ih]
    simp [besS]
theorem beside_eq {n : Nat} {s : List (List (List Nat))} (h : Sml n s) (hv : evening_valid n (toI3 s) = some true) : evening_Beside n (toI3 s) = some (rowsC n (celM n (besS n s)) n 0) := by
  unfold evening_Beside
  rw [hv]
  simp only [Option.bind_some, Bool.not_true, Bool.false_eq_true, if_false]
  obtain ⟨m1, m2⟩ := mkOk_nn h.n64
  unfold evening_Beside_k1
  rw [if_pos m1, m2]
  simp only [Option.bind_some]
  have hl := h.len
  have h1 := bes_1 n h.n64 s h.mem h.ev h.len s [] 100000 [] rfl (by omega) (by have := h.all; simp at this ⊢; omega)
  rw [show ((([] : List (List (List Nat))).length : Nat) : Int) = 0 from rfl, List.nil_append] at h1
  rw [h1]
  simp only [Option.bind_some]
  rw [rows_eq n h.n64 _ (celM_len n _)]
  rfl
/-- An evening with everybody once. -/
def EvV (n : Nat) (ev : List (List Nat)) : Prop := Evn n (ev.map List.length) ev
theorem cnt_len {L : List Nat} {n : Nat} (h : ∀ j, L.count j = if j < n then 1 else 0) : L.length = n := by
  have hp : L.Perm (List.range n) := List.perm_iff_count.2 fun j => by rw [h, List.count_range]
  rw [hp.length_eq]; simp
theorem EvV.flen {n : Nat} {ev : List (List Nat)} (h : EvV n ev) : ev.flatten.length = n := cnt_len h.cnt
theorem EvV.elen {n : Nat} {ev : List (List Nat)} (h : EvV n ev) : ev.length ≤ n := by
  have := len_flat h.ne
  rw [h.flen] at this
  exact this
theorem EvV.tlen {n : Nat} {ev : List (List Nat)} (h : EvV n ev) {t : List Nat} (ht : t ∈ ev) : t.length ≤ n := by
  have := len_mem ht
  rw [h.flen] at this
  exact this
section
variable {n : Nat} {s : List (List (List Nat))}
theorem evv_small (hn : n ≤ 64) (hs : s.length ≤ 70) (hv : ∀ ev ∈ s, EvV n ev) : Sml n s ∧ SmM n s := by
  have h3 : ∀ ev ∈ s, sqs ev ≤ 4096 := fun ev he => by
    have := sqs_le ev fun t ht => by have := (hv ev he).tlen ht; omega
    have := (hv ev he).flen
    omega
  have h4 := sqS_le s h3
  have h5 := flats_le s fun ev he => by have := (hv ev he).flen; omega
  exact ⟨⟨hn, fun ev he => (hv ev he).lt, fun ev he => ⟨by have := (hv ev he).flen; omega, by have := (hv ev he).elen; omega⟩, by omega, by omega⟩, ⟨hn, fun ev he => (hv ev he).lt, fun ev he => ⟨fun t ht => by have := (hv ev he).tlen ht; omega, by have := (hv ev he).elen; omega⟩, by omega, by omega⟩⟩
theorem vS_sym (hv : ∀ ev ∈ s, EvV n ev) {x y : Nat} (hx : x < n) (hy : y < n) : (meetS n s).count (x * n + y) = (meetS n s).count (y * n + x) := by
  by_cases e : x = y
  · rw [e]
  · have mem : ∀ ev ∈ s, ∀ t ∈ ev, ∀ z ∈ t, z < n := fun ev he => (hv ev he).lt
    rw [meetS_count n x y hy e s mem, meetS_count n y x hx (Ne.symm e) s mem, pS_comm]
end
theorem anyN_no {p : Int → Bool} {k : Nat} (h : anyN p k 0 = false) (x : Nat) (hx : x < k) : p x = false := by
  cases e : p x with
  | false => rfl
  | true =>
    have := (anyN_iff p k 0).2 ⟨(x : Int), by omega, by omega, e⟩
    rw [h] at this
    cases this
/- trestle/trestlekit.CopyInts -/
def kit_CopyInts_d_1 (x0 : (List Int)) : Nat → Int → (List Int) → Option (((List Int)))
  | 0, _, _ => none
  | f + 1, c2, c4 =>
    if (decide (c2 < (x0.length : Int))) = true then
    (idx x0 c2).bind fun v6 =>
    if (capOk 8 (c4.length + ([v6] : List Int).length)) = true then
    kit_CopyInts_d_1 x0 f (wr .i64 (c2 + 1)) (c4 ++ ([v6] : List Int))
    else none
    else
    some c4
/- trestle/trestlekit.CopyLists -/
/- trestle/trestleref09.Copy -/
/- trestle/evening.Relabel -/
def evening_Relabel_d_3 (x2 : (List Int)) (c31 : Int) (c32 : (List (List Int))) (v34 : (List Int)) : Nat → Int → (List Int) → Option (((List (List Int))))
  | 0, _, _ => none
  | f + 1, c39, c40 =>
    if (decide (c39 < (v34.length : Int))) = true then
    (idx c40 c39).bind fun v42 =>
    (idx x2 v42).bind fun v44 =>
    (idx c40 c39).bind fun _v45 =>
    evening_Relabel_d_3 x2 c31 c32 v34 f (wr .i64 (c39 + 1)) (c40.set c39.toNat v44)
    else
    some (c32.set c31.toNat c40)
def evening_Relabel_d_2 (x2 : (List Int)) (c24 : Int) (c25 : (List (List (List Int)))) (v27 : (List (List Int))) : Nat → Int → (List (List Int)) → Option (((List (List (List Int)))))
  | 0, _, _ => none
  | f + 1, c31, c32 =>
    if (decide (c31 < (v27.length : Int))) = true then
    (idx c32 c31).bind fun v34 =>
    (evening_Relabel_d_3 x2 c31 c32 v34 100000 0 v34).bind fun r57 =>
    evening_Relabel_d_2 x2 c24 c25 v27 f (wr .i64 (c31 + 1)) r57
    else
    some (c25.set c24.toNat c32)
def evening_Relabel_d_1 (x2 : (List Int)) (v20 : (List (List (List Int)))) : Nat → Int → (List (List (List Int))) → Option (((List (List (List Int)))))
  | 0, _, _ => none
  | f + 1, c24, c25 =>
    if (decide (c24 < (v20.length : Int))) = true then
    (idx c25 c24).bind fun v27 =>
    (evening_Relabel_d_2 x2 c24 c25 v27 100000 0 v27).bind fun r66 =>
    evening_Relabel_d_1 x2 v20 f (wr .i64 (c24 + 1)) r66
    else
    some c25
def evening_Relabel_d (x0 : Int) (x1 : (List (List (List Int)))) (x2 : (List Int)) : Option (Int × (List (List (List Int)))) :=
  (evening_Check x0 [] x1).bind fun v1 =>
  if (v1.2 != 0) = true then
  some (v1.2, ([] : (List (List (List Int)))))
  else
  (if ((x2.length : Int) != x0) = true then some true else (evening_check x0 ([x0] : List Int) ([x2] : List (List Int))).bind fun v12 =>
  some (v12 != 0)).bind fun j13 =>
  if j13 = true then
  some (2, ([] : (List (List (List Int)))))
  else
  (evening_clone_d x1).bind fun v20 =>
  (evening_Relabel_d_1 x2 v20 100000 0 v20).bind fun r70 =>
  some (0, r70)
/- trestle/trestlelaw09.spoil -/
/- trestle/evening.Join -/
/- trestle/trestlelaw09.permutation -/
theorem clone_2 (ev : List (List Int)) (he : ev.length ≤ 50000) (hs : ∀ t ∈ ev, t.length ≤ 50000) : ∀ (r pre : List (List Int)) (f : Nat), ev = pre ++ r → r.length < f → evening_clone_d_2 ev f pre.length pre = some ev
  | [], pre, f + 1, h, _ => by
    subst h
    unfold evening_clone_d_2
    rw [nlt_len]
    simp
  | t :: r, pre, f + 1, h, hf => by
    have ht := hs t (by rw [h]; simp)
    have ih := clone_2 ev he hs r (pre ++ [t]) f (by rw [h]; simp) (by simp at hf; omega)
    subst h
    simp only [List.length_append, List.length_cons] at he
    unfold evening_clone_d_2
    rw [if_pos (lt_len pre t r), idx_app]
    simp only [Option.bind_some]
    rw [if_pos (capOk_le (by omega) (by omega)), if_pos (capOk_le (by omega) (by simp; omega)), wr_snoc pre t r (by simp; omega)]
    exact ih
theorem clone_1 (s : List (List (List Int))) (he : s.length ≤ 50000) (hs : ∀ ev ∈ s, ev.length ≤ 50000 ∧ ∀ t ∈ ev, t.length ≤ 50000) : ∀ (r pre : List (List (List Int))) (f : Nat), s = pre ++ r → r.length < f → evening_clone_d_1 s f pre.length pre = some s
  | [], pre, f + 1, h, _ => by
    subst h
    unfold evening_clone_d_1
    rw [nlt_len]
    simp
  | ev :: r, pre, f + 1, h, hf => by
    obtain ⟨h1, h2⟩ := hs ev (by rw [h]; simp)
    have ih := clone_1 s he hs r (pre ++ [ev]) f (by rw [h]; simp) (by simp at hf; omega)
    have h3 := clone_2 ev h1 h2 ev [] 100000 rfl (by omega)
    rw [show ((([] : List (List Int)).length : Nat) : Int) = 0 from rfl] at h3
    subst h
    simp only [List.length_append, List.length_cons] at he
    unfold evening_clone_d_1
    rw [if_pos (lt_len pre ev r), idx_app]
    simp only [Option.bind_some]
    rw [h3]
    simp only [Option.bind_some]
    rw [if_pos (capOk_le (by omega) (by simp; omega)), wr_snoc pre ev r (by simp; omega)]
    exact ih
theorem clone_eq (s : List (List (List Int))) (he : s.length ≤ 50000) (hs : ∀ ev ∈ s, ev.length ≤ 50000 ∧ ∀ t ∈ ev, t.length ≤ 50000) : evening_clone_d s = some s := by
  unfold evening_clone_d
  have := clone_1 s he hs s [] 100000 rfl (by omega)
  rw [show ((([] : List (List (List Int))).length : Nat) : Int) = 0 from rfl] at this
  rw [this]; rfl
theorem rcopyI_1 (t : List Int) (he : t.length ≤ 50000) : ∀ (r pre : List Int) (f : Nat), t = pre ++ r → r.length < f → kit_CopyInts_d_1 t f pre.length pre = some t
  | [], pre, f + 1, h, _ => by
    subst h
    unfold kit_CopyInts_d_1
    rw [nlt_len]
    simp
  | x :: r, pre, f + 1, h, hf => by
    have ih := rcopyI_1 t he r (pre ++ [x]) f (by rw [h]; simp) (by simp at hf; omega)
    subst h
    simp only [List.length_append, List.length_cons] at he
    unfold kit_CopyInts_d_1
    rw [if_pos (lt_len pre x r), idx_app]
    simp only [Option.bind_some]
    rw [if_pos (capOk_le (by omega) (by simp; omega)), wr_snoc pre x r (by simp; omega)]
    exact ih
/- Other names. -/
def nm1 (p : List Int) (t : List Int) : List Int := t.map fun k => p.getD k.toNat 0
def nm2 (p : List Int) (ev : List (List Int)) : List (List Int) := ev.map (nm1 p)
def nm3 (p : List Int) (s : List (List (List Int))) : List (List (List Int)) := s.map (nm2 p)
theorem idx_getD {p : List Int} {k : Int} (h0 : 0 ≤ k) (h1 : k < p.length) : idx p k = some (p.getD k.toNat 0) := by
  obtain ⟨j, rfl⟩ : ∃ j : Nat, k = j := ⟨k.toNat, by omega⟩
  have hj : j < p.length := by omega
  rw [idx_lt hj, Int.toNat_natCast, List.getD_eq_getElem?_getD, List.getElem?_eq_getElem hj]
  rfl
theorem set_app {α : Type} (pre : List α) (x y : α) (r : List α) : (pre ++ x :: r).set ((pre.length : Int)).toNat y = pre ++ y :: r := by
  rw [Int.toNat_natCast]
  simp
theorem rel_3 (p : List Int) (ev0 : List (List Int)) (i : Int) (t : List Int) (hl : t.length ≤ 50000) (ht : ∀ k ∈ t, 0 ≤ k ∧ k < p.length) : ∀ (r pre : List Int) (f : Nat), t = pre ++ r → r.length < f → evening_Relabel_d_3 p i ev0 t f pre.length (nm1 p pre ++ r) = some (ev0.set i.toNat (nm1 p t))
  | [], pre, f + 1, h, _ => by
    subst h
    unfold evening_Relabel_d_3
    rw [nlt_len]
    simp
  | k :: r, pre, f + 1, h, hf => by
    have hk := ht k (by rw [h]; simp)
    have ih := rel_3 p ev0 i t hl ht r (pre ++ [k]) f (by rw [h]; simp) (by simp at hf; omega)
    have e1 : ((pre.length : Nat) : Int) = ((nm1 p pre).length : Int) := by simp [nm1]
    have e2 : nm1 p (pre ++ [k]) ++ r = nm1 p pre ++ p.getD k.toNat 0 :: r := by simp [nm1]
    rw [e2] at ih
    unfold evening_Relabel_d_3
    rw [if_pos (by rw [h]; simp; omega)]
    have hi : idx (nm1 p pre ++ k :: r) ((pre.length : Nat) : Int) = some k := by rw [e1]; exact idx_app _ _ _
    rw [hi]
    simp only [Option.bind_some]
    rw [idx_getD hk.1 hk.2]
    simp only [Option.bind_some]
    have hw : wr .i64 ((pre.length : Int) + 1) = ((pre ++ [k]).length : Int) := wr_snoc pre k r (by rw [← h]; omega)
    rw [hw, show (nm1 p pre ++ k :: r).set ((pre.length : Nat) : Int).toNat (p.getD k.toNat 0) = nm1 p pre ++ p.getD k.toNat 0 :: r by rw [e1]; exact set_app _ _ _ _]
    exact ih
theorem rel_2 (p : List Int) (s0 : List (List (List Int))) (i : Int) (ev : List (List Int)) (hl : ev.length ≤ 50000) (ht : ∀ t ∈ ev, t.length ≤ 50000 ∧ ∀ k ∈ t, 0 ≤ k ∧ k < p.length) : ∀ (r pre : List (List Int)) (f : Nat), ev = pre ++ r → r.length < f → evening_Relabel_d_2 p i s0 ev f pre.length (nm2 p pre ++ r) = some (s0.set i.toNat (nm2 p ev))
  | [], pre, f + 1, h, _ => by
    subst h
    unfold evening_Relabel_d_2
    rw [nlt_len]
    simp
  | t :: r, pre, f + 1, h, hf => by
    obtain ⟨h1, h2⟩ := ht t (by rw [h]; simp)
    have ih := rel_2 p s0 i ev hl ht r (pre ++ [t]) f (by rw [h]; simp) (by simp at hf; omega)
    have e1 : ((pre.length : Nat) : Int) = ((nm2 p pre).length : Int) := by simp [nm2]
    have e2 : nm2 p (pre ++ [t]) ++ r = nm2 p pre ++ nm1 p t :: r := by simp [nm2]
    rw [e2] at ih
    have h3 := rel_3 p (nm2 p pre ++ t :: r) pre.length t h1 h2 t [] 100000 rfl (by omega)
    rw [show ((([] : List Int).length : Nat) : Int) = 0 from rfl, show nm1 p [] ++ t = t from rfl] at h3
    unfold evening_Relabel_d_2
    rw [if_pos (by rw [h]; simp; omega)]
    have hi : idx (nm2 p pre ++ t :: r) ((pre.length : Nat) : Int) = some t := by rw [e1]; exact idx_app _ _ _
    rw [hi]
    simp only [Option.bind_some]
    rw [h3]
    simp only [Option.bind_some]
    have hw : wr .i64 ((pre.length : Int) + 1) = ((pre ++ [t]).length : Int) := wr_snoc pre t r (by rw [← h]; omega)
    rw [hw, show (nm2 p pre ++ t :: r).set ((pre.length : Nat) : Int).toNat (nm1 p t) = nm2 p pre ++ nm1 p t :: r by rw [e1]; exact set_app _ _ _ _]
    exact ih
theorem rel_1 (p : List Int) (s : List (List (List Int))) (hl : s.length ≤ 50000) (ht : ∀ ev ∈ s, ev.length ≤ 50000 ∧ ∀ t ∈ ev, t.length ≤ 50000 ∧ ∀ k ∈ t, 0 ≤ k ∧ k < p.length) : ∀ (r pre : List (List (List Int))) (f : Nat), s = pre ++ r → r.length < f → evening_Relabel_d_1 p s f pre.length (nm3 p pre ++ r) = some (nm3 p s)
  | [], pre, f + 1, h, _ => by
    subst h
    unfold evening_Relabel_d_1
    rw [nlt_len]
    simp
  | t :: r, pre, f + 1, h, hf => by
    obtain ⟨h1, h2⟩ := ht t (by rw [h]; simp)
    have ih := rel_1 p s hl ht r (pre ++ [t]) f (by rw [h]; simp) (by simp at hf; omega)
    have e1 : ((pre.length : Nat) : Int) = ((nm3 p pre).length : Int) := by simp [nm3]
    have e2 : nm3 p (pre ++ [t]) ++ r = nm3 p pre ++ nm2 p t :: r := by simp [nm3]
    rw [e2] at ih
    have h3 := rel_2 p (nm3 p pre ++ t :: r) pre.length t h1 h2 t [] 100000 rfl (by omega)
    rw [show ((([] : List (List Int)).length : Nat) : Int) = 0 from rfl, show nm2 p [] ++ t = t from rfl] at h3
    unfold evening_Relabel_d_1
    rw [if_pos (by rw [h]; simp; omega)]
    have hi : idx (nm3 p pre ++ t :: r) ((pre.length : Nat) : Int) = some t := by rw [e1]; exact idx_app _ _ _
    rw [hi]
    simp only [Option.bind_some]
    rw [h3]
    simp only [Option.bind_some]
    have hw : wr .i64 ((pre.length : Int) + 1) = ((pre ++ [t]).length : Int) := wr_snoc pre t r (by rw [← h]; omega)
    rw [hw, show (nm3 p pre ++ t :: r).set ((pre.length : Nat) : Int).toNat (nm2 p t) = nm3 p pre ++ nm2 p t :: r by rw [e1]; exact set_app _ _ _ _]
    exact ih
theorem rel_all (p : List Int) (s : List (List (List Int))) (hl : s.length ≤ 50000) (ht : ∀ ev ∈ s, ev.length ≤ 50000 ∧ ∀ t ∈ ev, t.length ≤ 50000 ∧ ∀ k ∈ t, 0 ≤ k ∧ k < p.length) : evening_Relabel_d_1 p s 100000 0 s = some (nm3 p s) := by
  have := rel_1 p s hl ht s [] 100000 rfl (by omega)
  rw [show ((([] : List (List (List Int))).length : Nat) : Int) = 0 from rfl, show nm3 p [] ++ s = s from rfl] at this
  exact this
/- What is written over. -/
/- Permutations. -/
theorem perm_of_sub : ∀ (l p : List Int), l.Nodup → (∀ x ∈ l, x ∈ p) → p.length ≤ l.length → p.Perm l
  | [], p, _, _, h => by
    have : p = [] := by cases p with
      | nil => rfl
      | cons => simp at h
    subst this; exact .nil
  | x :: l, p, hd, hs, h => by
    have hx := hs x (by simp)
    have h1 := List.perm_cons_erase hx
    have hd2 := List.nodup_cons.1 hd
    refine h1.trans (List.Perm.cons x (perm_of_sub l (p.erase x) hd2.2 (fun y hy => ?_) ?_))
    · have hne : y ≠ x := fun e => hd2.1 (e ▸ hy)
      exact (List.mem_erase_of_ne hne).2 (hs y (by simp [hy]))
    · rw [List.length_erase_of_mem hx]; simp at h; omega
theorem perm_chk (p : List Int) (n : Nat) (h1 : 1 ≤ n) (hn : n ≤ 64) (hl : p.length = n) : chk n [(n : Int)] [p] = 0 ↔ ∀ x : Nat, x < n → (x : Int) ∈ p := by
  have hsb : sbad [(n : Int)] [p] 0 = false := by
    unfold sbad sbad
    simp [hl, idx]
    omega
  have hfl : [p].flatten = p := by simp
  constructor
  · intro h x hx
    unfold chk at h
    rw [hsb, hfl] at h
    rw [if_neg (by simp), if_neg Bool.false_ne_true] at h
    cases hu : p.any (badV n) with
    | true => rw [hu, if_pos rfl] at h; cases h
    | false =>
      rw [hu, if_neg Bool.false_ne_true] at h
      cases h5 : anyN (fun x => decide ((p.count x : Int) > 1)) (n : Int).toNat 0 with
      | true => rw [h5, if_pos rfl] at h; cases h
      | false =>
        rw [h5, if_neg Bool.false_ne_true] at h
        cases h2 : anyN (fun x => ((p.count x : Int) == 0)) (n : Int).toNat 0 with
        | true => rw [h2, if_pos rfl] at h; cases h
        | false =>
          have b := anyN_no h2 x (by simpa using hx)
          have b : ¬ ((p.count (x : Int) : Nat) : Int) = 0 := by simpa using b
          exact List.count_pos_iff.1 (by omega)
  · intro h
    have hp : p.Perm (toI1 (List.range n)) := perm_of_sub _ _ (by
      unfold toI1
      exact (List.pairwise_map).2 (List.nodup_range.imp fun hne e => hne (Int.ofNat.inj e))) (fun x hx => by
      obtain ⟨j, hj, rfl⟩ := mem_toI1 hx
      exact h j (List.mem_range.1 hj)) (by rw [toI1_len]; simp [hl])
    have hc : ∀ x : Nat, x < n → p.count (x : Int) = 1 := fun x hx => by
      rw [hp.count_eq, toI1_count, List.count_range, if_pos hx]
    unfold chk
    rw [hsb, hfl]
    have hu : p.any (badV n) = false := by
      rw [List.any_eq_false]
      intro v hv
      obtain ⟨j, hj, rfl⟩ := mem_toI1 (hp.mem_iff.1 hv)
      have := List.mem_range.1 hj
      simp [badV]; omega
    have h5 : anyN (fun x => decide ((p.count x : Int) > 1)) (n : Int).toNat 0 = false := by
      rw [Bool.eq_false_iff]
      intro g
      obtain ⟨x, x0, x1, g⟩ := (anyN_iff _ _ _).1 g
      obtain ⟨j, rfl⟩ : ∃ j : Nat, x = j := ⟨x.toNat, by omega⟩
      have := hc j (by omega)
      simp [this] at g
    have h2 : anyN (fun x => ((p.count x : Int) == 0)) (n : Int).toNat 0 = false := by
      rw [Bool.eq_false_iff]
      intro g
      obtain ⟨x, x0, x1, g⟩ := (anyN_iff _ _ _).1 g
      obtain ⟨j, rfl⟩ : ∃ j : Nat, x = j := ⟨x.toNat, by omega⟩
      have := hc j (by omega)
      simp [this] at g
    rw [hu, h5, h2]
    simp
def rowM (n : Nat) (L : List Nat) (x : Nat) : Nat → Nat → List Int
  | 0, _ => []
  | k + 1, y => cX n L x y :: rowM n L x k (y + 1)
def matM (n : Nat) (L : List Nat) : Nat → Nat → List (List Int)
  | 0, _ => []
  | k + 1, x => rowM n L x n 0 :: matM n L k (x + 1)
theorem rowM_len (n : Nat) (L : List Nat) (x : Nat) : ∀ k y, (rowM n L x k y).length = k
  | 0, _ => rfl
  | k + 1, y => by simp [rowM, rowM_len n L x k (y + 1)]
theorem rowM_at (n : Nat) (L : List Nat) (x : Nat) : ∀ k y i, i < k → (rowM n L x k y)[i]? = some (cX n L x (y + i))
  | 0, _, i, h => by omega
  | k + 1, y, 0, _ => by simp [rowM]
  | k + 1, y, i + 1, h => by
    simp only [rowM, List.getElem?_cons_succ]
    rw [rowM_at n L x k (y + 1) i (by omega), show y + 1 + i = y + (i + 1) by omega]
theorem matM_len (n : Nat) (L : List Nat) : ∀ k x, (matM n L k x).length = k
  | 0, _ => rfl
  | k + 1, x => by simp [matM, matM_len n L k (x + 1)]
theorem matM_at (n : Nat) (L : List Nat) : ∀ k x i, i < k → (matM n L k x)[i]? = some (rowM n L (x + i) n 0)
  | 0, _, i, h => by omega
  | k + 1, x, 0, _ => by simp [matM]
  | k + 1, x, i + 1, h => by
    simp only [matM, List.getElem?_cons_succ]
    rw [matM_at n L k (x + 1) i (by omega), show x + 1 + i = x + (i + 1) by omega]
theorem rowsC_M (n : Nat) (L : List Nat) : ∀ k x, x + k = n → rowsC n (celM n L) k x = matM n L k x
  | 0, _, _ => rfl
  | k + 1, x, h => by
    simp only [rowsC, matM]
    rw [rowsC_M n L k (x + 1) (by omega)]
    congr 1
    apply List.ext_getElem?
    intro i
    have hx : x < n := by omega
    have hr := row_at (celM_len n L) hx hx
    by_cases hi : i < n
    · rw [(row_at (celM_len n L) hx hi).2, rowM_at n L x n 0 i hi, Nat.zero_add]
      congr 1
      exact cnt_get L (n * n) (x * n + i) (cell_lt hx hi)
    · rw [List.getElem?_eq_none (by rw [hr.1]; omega), List.getElem?_eq_none (by rw [rowM_len]; omega)]
theorem mat_at {n : Nat} {L : List Nat} {x y : Nat} (hx : x < n) (hy : y < n) : ∃ row, idx (matM n L n 0) (x : Int) = some row ∧ idx row (y : Int) = some (cX n L x y) := by
  refine ⟨rowM n L x n 0, ?_, ?_⟩
  · unfold idx
    rw [if_pos (by omega), Int.toNat_natCast, matM_at n L n 0 x hx, Nat.zero_add]
  · unfold idx
    rw [if_pos (by omega), Int.toNat_natCast, rowM_at n L x n 0 y hy, Nat.zero_add]
theorem headD_lt {n f : Nat} {r : List Nat} (hf : f < n) (h : ∀ z ∈ r, z < n) : r.headD f < n := by
  cases r with
  | nil => exact hf
  | cons a r => exact h a (by simp)
def szOf (codes : List Int) : List Nat := (codes.take 8).map fun c => 1 + (c % 6).toNat
theorem cut_0 {α : Type} (xs : List α) (k : Nat) (K : Int) (hK : K = (k : Int)) (h : xs.length ≤ 140737488355328) : cutOk 0 (mnI (xs.length : Int) K) xs.length = true ∧ (xs.take (mnI (xs.length : Int) K).toNat).drop (0 : Int).toNat = xs.take k := by
  subst hK
  have h1 : mnI (xs.length : Int) k = ((min xs.length k : Nat) : Int) := by unfold mnI; split <;> omega
  rw [h1]
  refine ⟨?_, ?_⟩
  · simp only [cutOk, Bool.and_eq_true, decide_eq_true_eq]; omega
  · rw [Int.toNat_natCast]
    show ((xs.take (min xs.length k)).drop 0) = _
    rw [List.drop_zero]
    by_cases hk : k ≤ xs.length
    · rw [Nat.min_eq_right hk]
    · rw [Nat.min_eq_left (by omega), List.take_of_length_le (Nat.le_refl _), List.take_of_length_le (by omega)]
theorem sizes_1 (x0 ys : List Int) (hy : (x0.take (mnI (x0.length : Int) 8).toNat).drop (0 : Int).toNat = ys) (hl : ys.length ≤ 8) (hc : ∀ c ∈ ys, 0 ≤ c ∧ c ≤ 255) : ∀ (r pre : List Int) (f : Nat) (out : List Nat) (m : Nat), ys = pre ++ r → r.length < f → out.length ≤ pre.length → m ≤ 6 * pre.length → law09_Sizes_1 x0 f (toI1 out) m pre.length = some (toI1 (out ++ r.map fun c => 1 + (c % 6).toNat), ((m + (r.map fun c => 1 + (c % 6).toNat).sum : Nat) : Int))
  | [], pre, f + 1, out, m, h, _, _, _ => by
    unfold law09_Sizes_1
    rw [hy, if_neg (by rw [h]; simp)]
    simp
  | c :: r, pre, f + 1, out, m, h, hf, ho, hm => by
    obtain ⟨c0, c1⟩ := hc c (by rw [h]; simp)
    have hp : pre.length < ys.length := by rw [h]; simp
    have e6 : c.tmod 6 = c % 6 := Int.tmod_eq_emod_of_nonneg c0
    have b1 := Int.emod_nonneg c (show (6 : Int) ≠ 0 by decide)
    have b2 := Int.emod_lt_of_pos c (show (0 : Int) < 6 by decide)
    have e : wr .i64 (1 + wr .i64 (c.tmod 6)) = ((1 + (c % 6).toNat : Nat) : Int) := by
      have q : wr .i64 (c % 6) = c % 6 := wr_i (by omega) (by omega)
      rw [e6, q, wr_i (by omega) (by omega)]; omega
    have ih := sizes_1 x0 ys hy hl hc r (pre ++ [c]) f (out ++ [1 + (c % 6).toNat]) (m + (1 + (c % 6).toNat)) (by rw [h]; simp) (by simp at hf; omega) (by simp; omega) (by simp; omega)
    unfold law09_Sizes_1
    rw [hy, if_pos (by rw [h]; simp; omega), show idx ys (pre.length : Int) = some c by rw [h]; exact idx_app pre c r]
    simp only [Option.bind_some]
    rw [if_pos (capOk_le (by omega) (by rw [toI1_len]; omega)), e, wr_nat (by omega), wr_i (n := (m : Int) + _) (by omega) (by omega)]
    have a1 : toI1 out ++ [((1 + (c % 6).toNat : Nat) : Int)] = toI1 (out ++ [1 + (c % 6).toNat]) := by simp [toI1]
    have a2 : (m : Int) + ((1 + (c % 6).toNat : Nat) : Int) = ((m + (1 + (c % 6).toNat) : Nat) : Int) := by push_cast; rfl
    have a3 : ((pre.length + 1 : Nat) : Int) = ((pre ++ [c]).length : Int) := by simp
    rw [a1, a2, a3, ih]
    simp only [List.map_cons, List.sum_cons, List.append_assoc, List.cons_append, List.nil_append]
    rw [Nat.add_assoc]
structure SzOk (sz : List Nat) (n : Nat) : Prop where
  sum : sz.sum = n
  pos : ∀ k ∈ sz, 1 ≤ k
  len : sz.length ≤ 8
  n1 : 1 ≤ n
  n48 : n ≤ 48
theorem sizes_eq (codes : List Int) (hl : codes.length ≤ 140737488355328) (hc : ∀ c ∈ codes, 0 ≤ c ∧ c ≤ 255) : ∃ sz n, law09_Sizes codes = some (toI1 sz, ((n : Nat) : Int)) ∧ SzOk sz n := by
  obtain ⟨k1, k2⟩ := cut_0 codes 8 8 rfl hl
  have hc' : ∀ c ∈ codes.take 8, 0 ≤ c ∧ c ≤ 255 := fun c h => hc c (List.mem_of_mem_take h)
  have hl8 : (codes.take 8).length ≤ 8 := by simp; omega
  have h1 := sizes_1 codes (codes.take 8) k2 hl8 hc' (codes.take 8) [] 100000 [] 0 rfl (by omega) (by simp) (by simp)
  have hpos : ∀ k ∈ szOf codes, 1 ≤ k ∧ k ≤ 6 := fun k hk => by
    obtain ⟨c, hc1, rfl⟩ := List.mem_map.1 hk
    obtain ⟨c0, _⟩ := hc' c hc1
    have b1 := Int.emod_nonneg c (show (6 : Int) ≠ 0 by decide)
    have b2 := Int.emod_lt_of_pos c (show (0 : Int) < 6 by decide)
    omega
  have hsum : ∀ l : List Nat, (∀ k ∈ l, 1 ≤ k ∧ k ≤ 6) → l.sum ≤ 6 * l.length ∧ l.length ≤ l.sum := fun l => by
    induction l with
    | nil => intro _; simp
    | cons k l ih =>
      intro h
      have := ih fun j hj => h j (by simp [hj])
      have := h k (by simp)
      simp only [List.sum_cons, List.length_cons]; omega
  obtain ⟨s1, s2⟩ := hsum _ hpos
  have hlen : (szOf codes).length ≤ 8 := by unfold szOf; rw [List.length_map]; exact hl8
  rw [show toI1 [] = [] from rfl, show ((0 : Nat) : Int) = 0 from rfl, show ((([] : List Int).length : Nat) : Int) = 0 from rfl, List.nil_append, Nat.zero_add] at h1
  unfold law09_Sizes
  rw [if_pos k1, h1]
  simp only [Option.bind_some]
  by_cases h0 : (szOf codes).sum = 0
  · refine ⟨[1], 1, ?_, ⟨rfl, by simp, by simp, by omega, by omega⟩⟩
    have : ((((codes.take 8).map fun c => 1 + (c % 6).toNat).sum : Nat) : Int) = 0 := by
      show (((szOf codes).sum : Nat) : Int) = 0
      rw [h0]; rfl
    rw [this]
    rfl
  · refine ⟨szOf codes, (szOf codes).sum, ?_, ⟨rfl, fun k hk => (hpos k hk).1, hlen, by omega, by omega⟩⟩
    have : ((((codes.take 8).map fun c => 1 + (c % 6).toNat).sum : Nat) : Int) = (((szOf codes).sum : Nat) : Int) := rfl
    rw [this, if_neg (by simpa using h0)]
    rfl
theorem made_1 (x1 : List (List (Int × Int))) (v1 : List Int × Int) (n : Nat) (hv : v1.2 = (n : Int)) (hn : n ≤ 64) : ∀ (k i f : Nat) (c : List Int), i + k = n → k < f → c.length = n → (∀ j, j < i → c[j]? = some (j : Int)) → law09_Made_1 x1 v1 f c i = some (toI1 (List.range n))
  | 0, i, f + 1, c, h, _, hl, hc => by
    unfold law09_Made_1
    rw [if_neg (by rw [hv]; simp; omega)]
    congr 1
    apply List.ext_getElem?
    intro j
    by_cases hj : j < n
    · rw [hc j (by omega)]
      simp [toI1, hj]
    · rw [List.getElem?_eq_none (by omega), List.getElem?_eq_none (by simp [toI1]; omega)]
  | k + 1, i, f + 1, c, h, hf, hl, hc => by
    have ih := made_1 x1 v1 n hv hn k (i + 1) f (c.set i (i : Int)) (by omega) (by omega) (by simpa using hl) (fun j hj => by
      by_cases e : i = j
      · subst e; rw [List.getElem?_set_self (by omega)]
      · rw [List.getElem?_set_ne e]; exact hc j (by omega))
    unfold law09_Made_1
    rw [if_pos (by rw [hv]; simp; omega), idx_lt (show i < c.length by omega)]
    simp only [Option.bind_some]
    rw [wr_nat (by omega), Int.toNat_natCast, ih]
/-- Orders of n guests. -/
structure Ord (n : Nat) (o : List Nat) : Prop where
  len : o.length = n
  perm : o.Perm (List.range n)
theorem made_3 (x1 : List (List (Int × Int))) (v1 : List Int × Int) (c12 : Int) (n : Nat) (hv : v1.2 = (n : Int)) (hn1 : 1 ≤ n) (v14 ys : List (Int × Int)) (hy : (v14.take (mnI (v14.length : Int) 20).toNat).drop (0 : Int).toNat = ys) (hyl : ys.length ≤ 20) (hc : ∀ p ∈ ys, (0 ≤ p.1 ∧ p.1 ≤ 255) ∧ 0 ≤ p.2 ∧ p.2 ≤ 255) (c17 : List (List (List Int))) : ∀ (r pre : List (Int × Int)) (f : Nat) (o : List Nat), ys = pre ++ r → r.length < f → Ord n o → ∃ o', law09_Made_3 x1 v1 c12 v14 f (toI1 o) c17 pre.length = some (toI1 o', c17) ∧ Ord n o'
  | [], pre, f + 1, o, h, _, ho => by
    refine ⟨o, ?_, ho⟩
    unfold law09_Made_3
    rw [hy, if_neg (by rw [h]; simp)]
  | p :: r, pre, f + 1, o, h, hf, ho => by
    obtain ⟨⟨p1, p2⟩, p3, p4⟩ := hc p (by rw [h]; simp)
    have hp : pre.length < ys.length := by rw [h]; simp
    have hn0 : ¬ v1.2 = 0 := by omega
    have ix : ∀ x : Int, 0 ≤ x → x ≤ 255 → ∃ a : Nat, a < n ∧ (wr .i64 x).tmod v1.2 = (a : Int) := fun x h0 h1 => by
      rw [wr_i (by omega) (by omega), hv, Int.tmod_eq_emod_of_nonneg h0]
      have b1 := Int.emod_nonneg x (show (n : Int) ≠ 0 by omega)
      have b2 := Int.emod_lt_of_pos x (show (0 : Int) < n by omega)
      exact ⟨(x % (n : Int)).toNat, by omega, by omega⟩
    obtain ⟨a, ha, ea⟩ := ix p.1 p1 p2
    obtain ⟨b, hb, eb⟩ := ix p.2 p3 p4
    have hla : a < o.length := by rw [ho.len]; exact ha
    have hlb : b < o.length := by rw [ho.len]; exact hb
    have hI : ∀ (l : List Nat) (j : Nat) (hj : j < l.length), idx (toI1 l) (j : Int) = some ((l[j] : Nat) : Int) := fun l j hj => by
      have hj' : j < (toI1 l).length := by rw [toI1_len]; exact hj
      rw [idx_lt hj']
      simp [toI1]
    have hS : ∀ (l : List Nat) (j v : Nat), (toI1 l).set j (v : Int) = toI1 (l.set j v) := fun l j v => by
      simp [toI1, List.map_set]
    have ho' : Ord n ((o.set a o[b]).set b o[a]) := ⟨by simp [ho.len], (List.set_set_perm hla hlb).trans ho.perm⟩
    obtain ⟨o', e1, e2⟩ := made_3 x1 v1 c12 n hv hn1 v14 ys hy hyl hc c17 r (pre ++ [p]) f _ (by rw [h]; simp) (by simp at hf; omega) ho'
    refine ⟨o', ?_, e2⟩
    unfold law09_Made_3
    rw [hy, if_pos (by rw [h]; simp; omega), show idx ys (pre.length : Int) = some p by rw [h]; exact idx_app pre p r]
    simp only [Option.bind_some]
    rw [if_neg hn0, if_neg hn0, ea, eb, hI o b hlb, hI o a hla]
    simp only [Option.bind_some]
    rw [Int.toNat_natCast, hS]
    have hlb' : b < (o.set a o[b]).length := by simpa using hlb
    rw [hI _ b hlb']
    simp only [Option.bind_some]
    rw [Int.toNat_natCast, hS, wr_nat (by omega)]
    have a3 : ((pre.length + 1 : Nat) : Int) = ((pre ++ [p]).length : Int) := by simp
    rw [a3]
    exact e1
/-- The tables of an order, of these sizes. -/
def cutT (o : List Nat) : List Nat → Nat → List (List Nat)
  | [], _ => []
  | k :: sz, i => ((o.take (i + k)).drop i) :: cutT o sz (i + k)
theorem made_4 (x1 : List (List (Int × Int))) (v1 : List Int × Int) (c12 : Int) (r29 : List Int × List (List (List Int))) (o : List Nat) (hr : r29.1 = toI1 o) (sz : List Nat) (hv : v1.1 = toI1 sz) (hsz : ∀ k ∈ sz, 1 ≤ k) (hsl : sz.length ≤ 8) (hol : o.length ≤ 48) : ∀ (r pre : List Nat) (f i : Nat) (out : List (List Nat)), sz = pre ++ r → r.length < f → i + r.sum = o.length → out.length ≤ pre.length → law09_Made_4 x1 v1 c12 r29 f (toI2 out) i pre.length = some (toI2 (out ++ cutT o r i))
  | [], pre, f + 1, i, out, h, _, _, _ => by
    unfold law09_Made_4
    rw [hv, if_neg (by rw [toI1_len, h]; simp)]
    simp [cutT]
  | k :: r, pre, f + 1, i, out, h, hf, hs, ho => by
    have hk := hsz k (by rw [h]; simp)
    have hp : pre.length < sz.length := by rw [h]; simp
    rw [List.sum_cons] at hs
    have ih := made_4 x1 v1 c12 r29 o hr sz hv hsz hsl hol r (pre ++ [k]) f (i + k) (out ++ [(o.take (i + k)).drop i]) (by rw [h]; simp) (by simp at hf; omega) (by omega) (by simp; omega)
    have e1 : wr .i64 ((i : Int) + (k : Int)) = ((i + k : Nat) : Int) := by rw [wr_i (by omega) (by omega)]; simp
    have hpk : Go.Proofs.YtcmgmkepodbpkaaDoor.partOk (i : Int) ((i + k : Nat) : Int) (toI1 o).length = true := by
      simp only [partOk, cutOk, Bool.and_eq_true, decide_eq_true_eq, toI1_len]; omega
    have ht : ((toI1 o).take (i + k)).drop i = toI1 ((o.take (i + k)).drop i) := by simp [toI1, List.map_take, List.map_drop]
    unfold law09_Made_4
    rw [hv, if_pos (by rw [toI1_len, h]; simp; omega), show idx (toI1 sz) (pre.length : Int) = some (k : Int) by rw [h]; exact idx_toI1 pre k r]
    simp only [Option.bind_some]
    rw [e1, hr, if_pos hpk, Int.toNat_natCast, Int.toNat_natCast, ht, if_pos (capOk_le (by omega) (by rw [toI1_len, List.length_drop, List.length_take]; omega)), if_pos (capOk_le (by omega) (by rw [toI2_len]; omega)), wr_nat (by omega)]
    have a1 : toI2 out ++ [toI1 ((o.take (i + k)).drop i)] = toI2 (out ++ [(o.take (i + k)).drop i]) := by simp [toI2]
    have a3 : ((pre.length + 1 : Nat) : Int) = ((pre ++ [k]).length : Int) := by simp
    rw [a1, a3, ih]
    simp [cutT]
theorem cutT_evn {o : List Nat} : ∀ (sz : List Nat) (i : Nat), i + sz.sum = o.length → (∀ k ∈ sz, 1 ≤ k) → (cutT o sz i).map List.length = sz ∧ (∀ t ∈ cutT o sz i, t.length ≠ 0) ∧ (cutT o sz i).flatten = o.drop i
  | [], i, h, _ => by
    refine ⟨rfl, fun t ht => by simp [cutT] at ht, ?_⟩
    simp at h
    simp [cutT, h]
  | k :: sz, i, h, hp => by
    rw [List.sum_cons] at h
    obtain ⟨a, b, c⟩ := cutT_evn (o := o) sz (i + k) (by omega) fun j hj => hp j (by simp [hj])
    have hk := hp k (by simp)
    have hl : ((o.take (i + k)).drop i).length = k := by rw [List.length_drop, List.length_take]; omega
    refine ⟨by simp only [cutT, List.map_cons, a, hl], fun t ht => ?_, ?_⟩
    · simp only [cutT] at ht
      rcases List.mem_cons.1 ht with rfl | ht
      · rw [hl]; omega
      · exact b t ht
    · simp only [cutT, List.flatten_cons, c]
      rw [List.drop_take, Nat.add_sub_cancel_left, ← List.drop_drop, List.take_append_drop]
theorem made_2 (x1 : List (List (Int × Int))) (hx1 : ∀ l ∈ x1, l.length ≤ 140737488355328 ∧ ∀ p ∈ l, (0 ≤ p.1 ∧ p.1 ≤ 255) ∧ 0 ≤ p.2 ∧ p.2 ≤ 255) (v1 : List Int × Int) (n : Nat) (sz : List Nat) (hv : v1 = (toI1 sz, (n : Int))) (hs : SzOk sz n) (ys : List (List (Int × Int))) (hy : (x1.take (mnI (x1.length : Int) 10).toNat).drop (0 : Int).toNat = ys) (hyl : ys.length ≤ 10) (hym : ∀ l ∈ ys, l ∈ x1) : ∀ (r pre : List (List (Int × Int))) (f : Nat) (o : List Nat) (out : List (List (List Nat))), ys = pre ++ r → r.length < f → Ord n o → out.length = pre.length → (∀ ev ∈ out, Evn n sz ev) → ∃ out', law09_Made_2 x1 v1 f (toI1 o) (toI3 out) pre.length = some (toI3 out') ∧ (∀ ev ∈ out', Evn n sz ev) ∧ out'.length = ys.length
  | [], pre, f + 1, o, out, h, _, _, hl, hev => by
    refine ⟨out, ?_, hev, by rw [hl, h]; simp⟩
    unfold law09_Made_2
    rw [hy, if_neg (by rw [h]; simp)]
  | l :: r, pre, f + 1, o, out, h, hf, ho, hl, hev => by
    obtain ⟨l1, l2⟩ := hx1 l (hym l (by rw [h]; simp))
    have hp : pre.length < ys.length := by rw [h]; simp
    obtain ⟨k1, k2⟩ := cut_0 l 20 20 rfl l1
    have hn1 := hs.n1
    have hn48 := hs.n48
    have hs8 := hs.len
    obtain ⟨o', e1, e2⟩ := made_3 x1 v1 pre.length n (by rw [hv]) hs.n1 l (l.take 20) k2 (by simp; omega) (fun p hp => l2 p (List.mem_of_mem_take hp)) (toI3 out) (l.take 20) [] 100000 o rfl (by simp; omega) ho
    rw [show ((([] : List (Int × Int)).length : Nat) : Int) = 0 from rfl] at e1
    have h4 := made_4 x1 v1 pre.length (toI1 o', toI3 out) o' rfl sz (by rw [hv]) hs.pos hs8 (by rw [e2.len]; exact hn48) sz [] 100000 0 [] rfl (by omega) (by rw [e2.len, hs.sum]; omega) (by simp)
    rw [show toI2 [] = [] from rfl, show ((0 : Nat) : Int) = 0 from rfl, show ((([] : List Nat).length : Nat) : Int) = 0 from rfl, List.nil_append] at h4
    obtain ⟨c1, c2, c3⟩ := cutT_evn (o := o') sz 0 (by rw [e2.len, hs.sum]; omega) hs.pos
    have hevn : Evn n sz (cutT o' sz 0) := ⟨c1, c2, fun j => by
      rw [c3, List.drop_zero, e2.perm.count_eq, List.count_range]⟩
    obtain ⟨out', g1, g2, g3⟩ := made_2 x1 hx1 v1 n sz hv hs ys hy hyl hym r (pre ++ [l]) f o' (out ++ [cutT o' sz 0]) (by rw [h]; simp) (by simp at hf; omega) e2 (by simp [hl]) (fun ev he => by
      rcases List.mem_append.1 he with he | he
      · exact hev ev he
      · rw [List.mem_singleton.1 he]; exact hevn)
    refine ⟨out', ?_, g2, g3⟩
    unfold law09_Made_2
    rw [hy, if_pos (by rw [h]; simp; omega), show idx ys (pre.length : Int) = some l by rw [h]; exact idx_app pre l r]
    simp only [Option.bind_some]
    rw [if_pos k1, e1]
    simp only [Option.bind_some]
    rw [h4]
    simp only [Option.bind_some]
    rw [if_pos (capOk_le (by omega) (by rw [toI3_len]; omega)), wr_nat (by omega)]
    have a1 : toI3 out ++ [toI2 (cutT o' sz 0)] = toI3 (out ++ [cutT o' sz 0]) := by simp [toI3]
    have a3 : ((pre.length + 1 : Nat) : Int) = ((pre ++ [l]).length : Int) := by simp
    rw [a1, a3]
    exact g1
/-- What Made returns. -/
structure MadeOk (s : List (List (List Nat))) (sz : List Nat) (n : Nat) : Prop where
  sz_ : SzOk sz n
  ev : ∀ ev ∈ s, Evn n sz ev
  len : s.length ≤ 10
theorem made_eq (codes : List Int) (hl : codes.length ≤ 140737488355328) (hc : ∀ c ∈ codes, 0 ≤ c ∧ c ≤ 255) (swaps : List (List (Int × Int))) (hsl : swaps.length ≤ 140737488355328) (hx1 : ∀ l ∈ swaps, l.length ≤ 140737488355328 ∧ ∀ p ∈ l, (0 ≤ p.1 ∧ p.1 ≤ 255) ∧ 0 ≤ p.2 ∧ p.2 ≤ 255) : ∃ s sz n, law09_Made codes swaps = some (toI3 s, toI1 sz, ((n : Nat) : Int)) ∧ MadeOk s sz n := by
  obtain ⟨sz, n, h1, hs⟩ := sizes_eq codes hl hc
  obtain ⟨k1, k2⟩ := cut_0 swaps 10 10 rfl hsl
  have hn1 := hs.n1
  have hn48 := hs.n48
  have m1 := made_1 swaps (toI1 sz, (n : Int)) n rfl (by omega) n 0 100000 (List.replicate n 0) (by omega) (by omega) (by simp) (fun j hj => by omega)
  rw [show ((0 : Nat) : Int) = 0 from rfl] at m1
  obtain ⟨s, g1, g2, g3⟩ := made_2 swaps hx1 (toI1 sz, (n : Int)) n sz rfl hs (swaps.take 10) k2 (by simp; omega) (fun l hl => List.mem_of_mem_take hl) (swaps.take 10) [] 100000 (List.range n) [] rfl (by simp; omega) ⟨by simp, List.Perm.refl _⟩ rfl (fun ev he => by cases he)
  rw [show toI3 [] = [] from rfl, show ((([] : List (List (Int × Int))).length : Nat) : Int) = 0 from rfl] at g1
  refine ⟨s, sz, n, ?_, hs, g2, by rw [g3]; simp; omega⟩
  have hmk : mkOk 8 (n : Int) = true := by
    simp only [mkOk, Bool.and_eq_true, decide_eq_true_eq]; omega
  unfold law09_Made
  rw [h1]
  simp only [Option.bind_some]
  rw [if_pos hmk, Int.toNat_natCast, m1]
  simp only [Option.bind_some]
  rw [if_pos k1, g1]
  rfl
def pi_ (P : List Nat) (x : Nat) : Nat := P.getD x 0
def nN3 (P : List Nat) (s : List (List (List Nat))) : List (List (List Nat)) := s.map fun ev => ev.map fun t => t.map (pi_ P)
theorem nm1_I (P : List Nat) (t : List Nat) : nm1 (toI1 P) (toI1 t) = toI1 (t.map (pi_ P)) := by
  unfold nm1 toI1
  rw [List.map_map, List.map_map]
  refine List.map_congr_left fun k _ => ?_
  show (P.map Int.ofNat).getD (Int.ofNat k).toNat 0 = Int.ofNat (P.getD k 0)
  rw [List.getD_eq_getElem?_getD, List.getD_eq_getElem?_getD, List.getElem?_map, show (Int.ofNat k).toNat = k from rfl]
  cases P[k]? <;> rfl
theorem nm3_I (P : List Nat) (s : List (List (List Nat))) : nm3 (toI1 P) (toI3 s) = toI3 (nN3 P s) := by
  unfold nm3 toI3 nN3
  rw [List.map_map, List.map_map]
  refine List.map_congr_left fun ev _ => ?_
  show nm2 (toI1 P) (toI2 ev) = toI2 (ev.map fun t => t.map (pi_ P))
  unfold nm2 toI2
  rw [List.map_map, List.map_map]
  exact List.map_congr_left fun t _ => nm1_I P t
section
variable {n : Nat} {P : List Nat}
theorem pi_map (h : Ord n P) : (List.range n).map (pi_ P) = P := by
  refine List.ext_getElem (by simp [h.len]) fun i h1 h2 => ?_
  rw [List.getElem_map, List.getElem_range]
  unfold pi_
  rw [List.getD_eq_getElem?_getD, List.getElem?_eq_getElem h2]
  rfl
theorem pi_lt (h : Ord n P) {x : Nat} (hx : x < n) : pi_ P x < n := by
  have : pi_ P x ∈ P := by
    unfold pi_
    rw [List.getD_eq_getElem?_getD, List.getElem?_eq_getElem (by rw [h.len]; exact hx)]
    exact List.getElem_mem _
  exact List.mem_range.1 (h.perm.mem_iff.1 this)
theorem pi_inj (h : Ord n P) {x y : Nat} (hx : x < n) (hy : y < n) (e : pi_ P x = pi_ P y) : x = y := by
  have hd : P.Nodup := h.perm.nodup_iff.2 List.nodup_range
  unfold pi_ at e
  have hx' : x < P.length := by rw [h.len]; exact hx
  have hy' : y < P.length := by rw [h.len]; exact hy
  rw [List.getD_eq_getElem?_getD, List.getD_eq_getElem?_getD, List.getElem?_eq_getElem hx', List.getElem?_eq_getElem hy'] at e
  exact (List.getElem_inj hd).1 e
theorem pi_sur (h : Ord n P) {y : Nat} (hy : y < n) : ∃ x, x < n ∧ pi_ P x = y := by
  have : y ∈ (List.range n).map (pi_ P) := by
    rw [pi_map h]
    exact h.perm.mem_iff.2 (List.mem_range.2 hy)
  obtain ⟨x, hx, e⟩ := List.mem_map.1 this
  exact ⟨x, List.mem_range.1 hx, e⟩
theorem pi_in (_h : Ord n P) (x : Nat) : (toI1 P).getD x 0 = ((pi_ P x : Nat) : Int) := by
  unfold toI1 pi_
  rw [List.getD_eq_getElem?_getD, List.getD_eq_getElem?_getD, List.getElem?_map]
  cases P[x]? <;> rfl
theorem evn_nm (h : Ord n P) {sz : List Nat} {ev : List (List Nat)} (he : Evn n sz ev) : Evn n sz (ev.map fun t => t.map (pi_ P)) := by
  refine ⟨?_, fun t ht => ?_, fun j => ?_⟩
  · rw [← he.sz_, List.map_map]
    exact List.map_congr_left fun t _ => by simp
  · obtain ⟨u, hu, rfl⟩ := List.mem_map.1 ht
    rw [List.length_map]; exact he.ne u hu
  · have hp : ev.flatten.Perm (List.range n) := List.perm_iff_count.2 fun j => by rw [he.cnt, List.count_range]
    have e : (ev.map fun t => t.map (pi_ P)).flatten = ev.flatten.map (pi_ P) := (List.map_flatten).symm
    have hq : (ev.flatten.map (pi_ P)).Perm (List.range n) := by
      have := hp.map (pi_ P)
      rw [pi_map h] at this
      exact this.trans h.perm
    rw [e, hq.count_eq, List.count_range]
/- Cells. -/
def sg (n : Nat) (P : List Nat) (c : Nat) : Nat := pi_ P (c / n) * n + pi_ P (c % n)
theorem sg_at (P : List Nat) {x y : Nat} (hy : y < n) : sg n P (x * n + y) = pi_ P x * n + pi_ P y := by
  unfold sg
  rw [show (x * n + y) / n = x by
    rw [Nat.mul_comm, Nat.mul_add_div (by omega), Nat.div_eq_of_lt hy, Nat.add_zero], show (x * n + y) % n = y by
    rw [Nat.mul_comm, Nat.mul_add_mod, Nat.mod_eq_of_lt hy]]
theorem sg_lt (h : Ord n P) {c : Nat} (hc : c < n * n) : sg n P c < n * n := by
  have hn : 0 < n := by
    rcases Nat.eq_zero_or_pos n with e | e
    · subst e; simp at hc
    · exact e
  exact cell_lt (pi_lt h (Nat.div_lt_of_lt_mul hc)) (pi_lt h (Nat.mod_lt _ hn))
theorem sg_inj (h : Ord n P) {c d : Nat} (hc : c < n * n) (hd : d < n * n) (e : sg n P c = sg n P d) : c = d := by
  have hn : 0 < n := by
    rcases Nat.eq_zero_or_pos n with e | e
    · subst e; simp at hc
    · exact e
  obtain ⟨e1, e2⟩ := cell_eq (pi_lt h (Nat.mod_lt _ hn)) (pi_lt h (Nat.mod_lt _ hn)) e
  have e1 := pi_inj h (Nat.div_lt_of_lt_mul hc) (Nat.div_lt_of_lt_mul hd) e1
  have e2 := pi_inj h (Nat.mod_lt _ hn) (Nat.mod_lt _ hn) e2
  rw [← Nat.div_add_mod c n, ← Nat.div_add_mod d n, e1, e2]
theorem meetT_nm (P : List Nat) : ∀ (r pre : List Nat), (∀ z ∈ pre ++ r, z < n) → meetT n (pre.map (pi_ P)) (r.map (pi_ P)) = (meetT n pre r).map (sg n P) ∧ ∀ c ∈ meetT n pre r, c < n * n
  | [], _, _ => ⟨rfl, fun _ h => by cases h⟩
  | x :: r, pre, h => by
    have hx : x < n := h x (by simp)
    obtain ⟨i1, i2⟩ := meetT_nm P r (pre ++ [x]) (fun z hz => h z (by simpa using hz))
    have hm : ∀ y ∈ pre ++ r, y < n := fun y hy => h y (by
      rcases List.mem_append.1 hy with q | q
      · simp [q]
      · simp [q])
    refine ⟨?_, fun c hc => ?_⟩
    · rw [List.map_append] at i1
      simp only [List.map_cons, meetT, List.map_append, List.map_map, List.map_nil] at i1 ⊢
      rw [i1, ← List.map_append, ← List.map_append]
      congr 1
      refine List.map_congr_left fun y hy => ?_
      exact (sg_at P (hm y hy)).symm
    · simp only [meetT, List.mem_append, List.mem_map] at hc
      rcases hc with ⟨y, hy, rfl⟩ | hc
      · exact cell_lt hx (hm y (List.mem_append.2 hy))
      · exact i2 c hc
theorem meetE_nm (P : List Nat) : ∀ (ev : List (List Nat)), (∀ t ∈ ev, ∀ z ∈ t, z < n) → meetE n (ev.map fun t => t.map (pi_ P)) = (meetE n ev).map (sg n P) ∧ ∀ c ∈ meetE n ev, c < n * n
  | [], _ => ⟨rfl, fun _ h => by cases h⟩
  | t :: ev, h => by
    obtain ⟨i1, i2⟩ := meetE_nm P ev fun u hu => h u (by simp [hu])
    obtain ⟨j1, j2⟩ := meetT_nm P t [] (fun z hz => h t (by simp) z (by simpa using hz))
    refine ⟨?_, fun c hc => ?_⟩
    · simp only [List.map_cons, meetE, List.map_append]
      rw [i1, ← j1]; rfl
    · simp only [meetE, List.mem_append] at hc
      exact hc.elim (j2 c) (i2 c)
theorem meetS_nm (P : List Nat) : ∀ (s : List (List (List Nat))), (∀ ev ∈ s, ∀ t ∈ ev, ∀ z ∈ t, z < n) → meetS n (nN3 P s) = (meetS n s).map (sg n P) ∧ ∀ c ∈ meetS n s, c < n * n
  | [], _ => ⟨rfl, fun _ h => by cases h⟩
  | ev :: s, h => by
    obtain ⟨i1, i2⟩ := meetS_nm P s fun u hu => h u (by simp [hu])
    obtain ⟨j1, j2⟩ := meetE_nm P ev (h ev (by simp))
    refine ⟨?_, fun c hc => ?_⟩
    · unfold nN3 at i1 ⊢
      simp only [List.map_cons, meetS, List.map_append]
      rw [i1, ← j1]
    · simp only [meetS, List.mem_append] at hc
      exact hc.elim (j2 c) (i2 c)
theorem bp_nm (h : Ord n P) {x y : Nat} (hx : x < n) (hy : y < n) : bp n (pi_ P x) (pi_ P y) = (bp n x y).map (sg n P) ∧ ∀ c ∈ bp n x y, c < n * n := by
  unfold bp
  by_cases e : x = y
  · subst e
    rw [Nat.beq_refl, Nat.beq_refl]
    exact ⟨rfl, fun _ h => by cases h⟩
  · have e1 : Nat.beq x y = false := by
      cases q : Nat.beq x y with
      | false => rfl
      | true => exact absurd (Nat.eq_of_beq_eq_true q) e
    have e2 : Nat.beq (pi_ P x) (pi_ P y) = false := by
      cases q : Nat.beq (pi_ P x) (pi_ P y) with
      | false => rfl
      | true => exact absurd (pi_inj h hx hy (Nat.eq_of_beq_eq_true q)) e
    rw [e1, e2]
    refine ⟨?_, fun c hc => ?_⟩
    · show [pi_ P x * n + pi_ P y, pi_ P y * n + pi_ P x] = [sg n P (x * n + y), sg n P (y * n + x)]
      rw [sg_at P hy, sg_at P hx]
    · rcases List.mem_cons.1 hc with rfl | hc
      · exact cell_lt hx hy
      · rw [List.mem_singleton.1 hc]; exact cell_lt hy hx
theorem besL_nm (h : Ord n P) {f : Nat} (hf : f < n) : ∀ (r : List Nat), (∀ z ∈ r, z < n) → besL n (pi_ P f) (r.map (pi_ P)) = (besL n f r).map (sg n P) ∧ ∀ c ∈ besL n f r, c < n * n
  | [], _ => ⟨rfl, fun _ h => by cases h⟩
  | x :: r, hr => by
    have hx := hr x (by simp)
    obtain ⟨i1, i2⟩ := besL_nm h hf r fun z hz => hr z (by simp [hz])
    have hh := headD_lt hf (fun z hz => hr z (by simp [hz]) : ∀ z ∈ r, z < n)
    obtain ⟨j1, j2⟩ := bp_nm h hx hh
    have e : (r.map (pi_ P)).headD (pi_ P f) = pi_ P (r.headD f) := by cases r <;> rfl
    refine ⟨?_, fun c hc => ?_⟩
    · simp only [List.map_cons, besL, List.map_append]
      rw [e, i1, j1]
    · simp only [besL, List.mem_append] at hc
      exact hc.elim (j2 c) (i2 c)
theorem besT_nm (h : Ord n P) (t : List Nat) (ht : ∀ z ∈ t, z < n) : besT n (t.map (pi_ P)) = (besT n t).map (sg n P) ∧ ∀ c ∈ besT n t, c < n * n := by
  match t, ht with
  | [], _ => exact ⟨rfl, fun _ h => by cases h⟩
  | [x], ht => exact besL_nm h (ht x (by simp)) [x] ht
  | [x, y], ht => exact bp_nm h (ht x (by simp)) (ht y (by simp))
  | x :: y :: z :: r, ht => exact besL_nm h (ht x (by simp)) (x :: y :: z :: r) ht
theorem besE_nm (h : Ord n P) : ∀ (ev : List (List Nat)), (∀ t ∈ ev, ∀ z ∈ t, z < n) → besE n (ev.map fun t => t.map (pi_ P)) = (besE n ev).map (sg n P) ∧ ∀ c ∈ besE n ev, c < n * n
  | [], _ => ⟨rfl, fun _ h => by cases h⟩
  | t :: ev, hv => by
    obtain ⟨i1, i2⟩ := besE_nm h ev fun u hu => hv u (by simp [hu])
    obtain ⟨j1, j2⟩ := besT_nm h t (hv t (by simp))
    refine ⟨?_, fun c hc => ?_⟩
    · simp only [List.map_cons, besE, List.map_append]
      rw [i1, ← j1]
    · simp only [besE, List.mem_append] at hc
      exact hc.elim (j2 c) (i2 c)
theorem besS_nm (h : Ord n P) : ∀ (s : List (List (List Nat))), (∀ ev ∈ s, ∀ t ∈ ev, ∀ z ∈ t, z < n) → besS n (nN3 P s) = (besS n s).map (sg n P) ∧ ∀ c ∈ besS n s, c < n * n
  | [], _ => ⟨rfl, fun _ h => by cases h⟩
  | ev :: s, hv => by
    obtain ⟨i1, i2⟩ := besS_nm h s fun u hu => hv u (by simp [hu])
    obtain ⟨j1, j2⟩ := besE_nm h ev (hv ev (by simp))
    refine ⟨?_, fun c hc => ?_⟩
    · unfold nN3 at i1 ⊢
      simp only [List.map_cons, besS, List.map_append]
      rw [i1, ← j1]
    · simp only [besS, List.mem_append] at hc
      exact hc.elim (j2 c) (i2 c)
theorem meetS_app (n : Nat) : ∀ (a b : List (List (List Nat))), meetS n (a ++ b) = meetS n a ++ meetS n b
  | [], _ => rfl
  | ev :: a, b => by simp only [List.cons_append, meetS, meetS_app n a b, List.append_assoc]
theorem count_inj (f : Nat → Nat) (c : Nat) : ∀ (L : List Nat), (∀ d ∈ L, f d = f c → d = c) → (L.map f).count (f c) = L.count c
  | [], _ => rfl
  | d :: L, h => by
    have ih := count_inj f c L fun e he => h e (by simp [he])
    rw [List.map_cons, List.count_cons, List.count_cons, ih]
    by_cases e : d = c
    · subst e; simp
    · have : f d ≠ f c := fun q => e (h d (by simp) q)
      simp [e, this]
theorem cX_nm (h : Ord n P) {L : List Nat} (hL : ∀ c ∈ L, c < n * n) {x y : Nat} (hx : x < n) (hy : y < n) : cX n (L.map (sg n P)) (pi_ P x) (pi_ P y) = cX n L x y := by
  unfold cX
  rw [← sg_at P hy, count_inj (sg n P) (x * n + y) L fun d hd e => sg_inj h (hL d hd) (cell_lt hx hy) e]
theorem cel_map (n : Nat) (L : List Nat) : celM n L = (List.range (n * n)).map fun j => ((L.count j : Nat) : Int) := by
  refine List.ext_getElem (by rw [celM_len]; simp) fun i h1 h2 => ?_
  have hi : i < n * n := by rw [celM_len] at h1; exact h1
  have := cnt_get L (n * n) i hi
  rw [List.getD_eq_getElem?_getD, show incs (zeros (n * n)) L = celM n L from rfl, List.getElem?_eq_getElem h1] at this
  rw [List.getElem_map, List.getElem_range]
  exact this
theorem sqSum_perm {a b : List Int} (h : a.Perm b) : sqSum a = sqSum b := by
  induction h with
  | nil => rfl
  | cons v _ ih => simp only [sqSum, ih]
  | swap v w r => simp only [sqSum]; omega
  | trans _ _ i1 i2 => rw [i1, i2]
theorem perm_of_subN : ∀ (l p : List Nat), l.Nodup → (∀ x ∈ l, x ∈ p) → p.length ≤ l.length → p.Perm l
  | [], p, _, _, h => by
    have : p = [] := by cases p with
      | nil => rfl
      | cons => simp at h
    subst this; exact .nil
  | x :: l, p, hd, hs, h => by
    have hx := hs x (by simp)
    have h1 := List.perm_cons_erase hx
    have hd2 := List.nodup_cons.1 hd
    refine h1.trans (List.Perm.cons x (perm_of_subN l (p.erase x) hd2.2 (fun y hy => ?_) ?_))
    · have hne : y ≠ x := fun e => hd2.1 (e ▸ hy)
      exact (List.mem_erase_of_ne hne).2 (hs y (by simp [hy]))
    · rw [List.length_erase_of_mem hx]; simp at h; omega
theorem sq_nm (h : Ord n P) {L : List Nat} (hL : ∀ c ∈ L, c < n * n) : sqSum (celM n (L.map (sg n P))) = sqSum (celM n L) := by
  have hp : (List.range (n * n)).Perm ((List.range (n * n)).map (sg n P)) := perm_of_subN _ _ (List.pairwise_map.2 (List.Pairwise.imp_of_mem (fun {a b} ha hb hne e => hne (sg_inj h (List.mem_range.1 ha) (List.mem_range.1 hb) e)) List.nodup_range)) (fun x hx => by
    obtain ⟨c, hc, rfl⟩ := List.mem_map.1 hx
    exact List.mem_range.2 (sg_lt h (List.mem_range.1 hc))) (by simp)
  rw [cel_map, cel_map]
  refine (sqSum_perm (hp.map fun j => (((L.map (sg n P)).count j : Nat) : Int))).trans ?_
  rw [List.map_map]
  congr 1
  refine List.map_congr_left fun c hc => ?_
  show (((L.map (sg n P)).count (sg n P c) : Nat) : Int) = _
  rw [count_inj (sg n P) c L fun d hd e => sg_inj h (hL d hd) (List.mem_range.1 hc) e]
theorem hi_le {L L' : List Nat} {lo hi lo' hi' : Int} (f : Nat → Nat) (hf : ∀ x, x < n → f x < n) (inj : ∀ x y, x < n → y < n → f x = f y → x = y) (hc : ∀ x y, x < n → y < n → cX n L' (f x) (f y) = cX n L x y) (sy : ∀ x y, x < n → y < n → cX n L' x y = cX n L' y x) (a : Exts n L lo hi) (b : Exts n L' lo' hi') : hi ≤ hi' := by
  rcases a.hi_ with rfl | ⟨u, z, hu, hz, rfl⟩
  · rcases b.hi_ with rfl | ⟨u, z, hu, hz, rfl⟩
    · exact Int.le_refl _
    · unfold cX; omega
  · have hzn : z < n := by omega
    rw [← hc u z hu hzn]
    have hne : f u ≠ f z := fun e => by have := inj u z hu hzn e; omega
    rcases Nat.lt_or_gt_of_ne hne with q | q
    · rw [sy _ _ (hf u hu) (hf z hzn)]
      exact (b.all _ _ (hf z hzn) q).2
    · exact (b.all _ _ (hf u hu) q).2
end
theorem rk_3 (p : List Int) (c : Int) (a : List (List Int)) (v : List Int) : ∀ (f : Nat) (i : Int) (m : List Int), evening_Relabel_3 p c a v f i m = evening_Relabel_d_3 p c a v f i m
  | 0, _, _ => rfl
  | f + 1, i, m => by
    unfold evening_Relabel_3 evening_Relabel_d_3
    simp only [rk_3 p c a v f]
theorem rk_2 (p : List Int) (c : Int) (a : List (List (List Int))) (v : List (List Int)) : ∀ (f : Nat) (i : Int) (m : List (List Int)), evening_Relabel_2 p c a v f i m = evening_Relabel_d_2 p c a v f i m
  | 0, _, _ => rfl
  | f + 1, i, m => by
    unfold evening_Relabel_2 evening_Relabel_d_2
    simp only [rk_2 p c a v f, rk_3]
theorem rk_1 (p : List Int) (v : List (List (List Int))) : ∀ (f : Nat) (i : Int) (m : List (List (List Int))), evening_Relabel_1 p v f i m = evening_Relabel_d_1 p v f i m
  | 0, _, _ => rfl
  | f + 1, i, m => by
    unfold evening_Relabel_1 evening_Relabel_d_1
    simp only [rk_1 p v f, rk_2]
theorem joinT_1 {n : Int} {a b : List (List (List Int))} {F G : Int × Int} (c1 : evening_Check n [] a = some F) (c2 : evening_Check n [] b = some G) (hF : F.2 = 0) (hG : G.2 = 0) (f : Nat) : evening_Join_1 n a b (f + 3) 0 = some (.inl ()) := by
  unfold evening_Join_1
  rw [if_pos (by simp), show idx [a, b] 0 = some a from rfl]
  simp only [Option.bind_some]
  rw [c1]
  simp only [Option.bind_some]
  rw [hF, if_neg (by decide), show wr .i64 ((0 : Int) + 1) = 1 from rfl]
  unfold evening_Join_1
  rw [if_pos (by simp), show idx [a, b] 1 = some b from rfl]
  simp only [Option.bind_some]
  rw [c2]
  simp only [Option.bind_some]
  rw [hG, if_neg (by decide), show wr .i64 ((1 : Int) + 1) = 2 from rfl]
  unfold evening_Join_1
  rw [if_neg (by simp)]
theorem made_sizes {x0 : List Int} {x1 : List (List (Int × Int))} {r : List (List (List Int)) × List Int × Int} (h : law09_Made x0 x1 = some r) : law09_Sizes x0 = some r.2 := by
  unfold law09_Made at h
  obtain ⟨v, hv, h⟩ := Option.bind_eq_some_iff.1 h
  rw [hv]
  split at h
  · obtain ⟨_, _, h⟩ := Option.bind_eq_some_iff.1 h
    split at h
    · obtain ⟨_, _, h⟩ := Option.bind_eq_some_iff.1 h
      have h := Option.some.inj h
      subst h
      rfl
    · cases h
  · cases h
theorem valid_chk {n : Int} {s : List (List (List Int))} (h : evening_valid n s = some true) : ∃ v, evening_Check n [] s = some v ∧ v.2 = 0 := by
  unfold evening_valid at h
  obtain ⟨v, hv, h⟩ := Option.bind_eq_some_iff.1 h
  have h := Option.some.inj h
  exact ⟨v, hv, by simpa using h⟩
theorem meetS_leN (n : Nat) : ∀ (s : List (List (List Nat))), (meetS n s).length ≤ sqS s
  | [] => Nat.le_refl _
  | ev :: s => by
    have a := meetS_leN n s
    have b := meetE_len n ev
    simp only [meetS, sqS, List.length_append]; omega
theorem er_1 (v1 : List (List (List Int)) × List Int × Int) (n : Nat) (hv : v1.2.2 = (n : Int)) (hn : n ≤ 64) : ∀ (k i f : Nat) (c : List Int), i + k = n → k < f → c.length = n → (∀ j, j < i → c[j]? = some (j : Int)) → law09_EveningRelabels_1 v1 f i c = some (toI1 (List.range n))
  | 0, i, f + 1, c, h, _, hl, hc => by
    unfold law09_EveningRelabels_1
    rw [if_neg (by rw [hv]; simp; omega)]
    congr 1
    apply List.ext_getElem?
    intro j
    by_cases hj : j < n
    · rw [hc j (by omega)]
      simp [toI1, hj]
    · rw [List.getElem?_eq_none (by omega), List.getElem?_eq_none (by simp [toI1]; omega)]
  | k + 1, i, f + 1, c, h, hf, hl, hc => by
    have ih := er_1 v1 n hv hn k (i + 1) f (c.set i (i : Int)) (by omega) (by omega) (by simpa using hl) (fun j hj => by
      by_cases e : i = j
      · subst e; rw [List.getElem?_set_self (by omega)]
      · rw [List.getElem?_set_ne e]; exact hc j (by omega))
    unfold law09_EveningRelabels_1
    rw [if_pos (by rw [hv]; simp; omega), idx_lt (show i < c.length by omega)]
    simp only [Option.bind_some]
    rw [wr_nat (by omega), Int.toNat_natCast, ih]
theorem er_2 (v1 : List (List (List Int)) × List Int × Int) (n : Nat) (hv : v1.2.2 = (n : Int)) (hn1 : 1 ≤ n) (v14 ys : List (Int × Int)) (hy : (v14.take (mnI (v14.length : Int) 20).toNat).drop (0 : Int).toNat = ys) (hyl : ys.length ≤ 20) (hc : ∀ p ∈ ys, (0 ≤ p.1 ∧ p.1 ≤ 255) ∧ 0 ≤ p.2 ∧ p.2 ≤ 255) : ∀ (r pre : List (Int × Int)) (f : Nat) (o : List Nat), ys = pre ++ r → r.length < f → Ord n o → ∃ o', law09_EveningRelabels_2 v14 v1 f pre.length (toI1 o) = some (toI1 o') ∧ Ord n o'
  | [], pre, f + 1, o, h, _, ho => by
    refine ⟨o, ?_, ho⟩
    unfold law09_EveningRelabels_2
    rw [hy, if_neg (by rw [h]; simp)]
  | p :: r, pre, f + 1, o, h, hf, ho => by
    obtain ⟨⟨p1, p2⟩, p3, p4⟩ := hc p (by rw [h]; simp)
    have hp : pre.length < ys.length := by rw [h]; simp
    have hn0 : ¬ v1.2.2 = 0 := by omega
    have ix : ∀ x : Int, 0 ≤ x → x ≤ 255 → ∃ a : Nat, a < n ∧ (wr .i64 x).tmod v1.2.2 = (a : Int) := fun x h0 h1 => by
      rw [wr_i (by omega) (by omega), hv, Int.tmod_eq_emod_of_nonneg h0]
      have b1 := Int.emod_nonneg x (show (n : Int) ≠ 0 by omega)
      have b2 := Int.emod_lt_of_pos x (show (0 : Int) < n by omega)
      exact ⟨(x % (n : Int)).toNat, by omega, by omega⟩
    obtain ⟨a, ha, ea⟩ := ix p.1 p1 p2
    obtain ⟨b, hb, eb⟩ := ix p.2 p3 p4
    have hla : a < o.length := by rw [ho.len]; exact ha
    have hlb : b < o.length := by rw [ho.len]; exact hb
    have hI : ∀ (l : List Nat) (j : Nat) (hj : j < l.length), idx (toI1 l) (j : Int) = some ((l[j] : Nat) : Int) := fun l j hj => by
      have hj' : j < (toI1 l).length := by rw [toI1_len]; exact hj
      rw [idx_lt hj']
      simp [toI1]
    have hS : ∀ (l : List Nat) (j v : Nat), (toI1 l).set j (v : Int) = toI1 (l.set j v) := fun l j v => by
      simp [toI1, List.map_set]
    have ho' : Ord n ((o.set a o[b]).set b o[a]) := ⟨by simp [ho.len], (List.set_set_perm hla hlb).trans ho.perm⟩
    obtain ⟨o', e1, e2⟩ := er_2 v1 n hv hn1 v14 ys hy hyl hc r (pre ++ [p]) f _ (by rw [h]; simp) (by simp at hf; omega) ho'
    refine ⟨o', ?_, e2⟩
    unfold law09_EveningRelabels_2
    rw [hy, if_pos (by rw [h]; simp; omega), show idx ys (pre.length : Int) = some p by rw [h]; exact idx_app pre p r]
    simp only [Option.bind_some]
    rw [if_neg hn0, if_neg hn0, ea, eb, hI o b hlb, hI o a hla]
    simp only [Option.bind_some]
    rw [Int.toNat_natCast, hS]
    have hlb' : b < (o.set a o[b]).length := by simpa using hlb
    rw [hI _ b hlb']
    simp only [Option.bind_some]
    rw [Int.toNat_natCast, hS, wr_nat (by omega)]
    have a3 : ((pre.length + 1 : Nat) : Int) = ((pre ++ [p]).length : Int) := by simp
    rw [a3]
    exact e1
section
variable {n : Nat} {P : List Nat} {L1 L2 L3 L4 L5 L6 : List Nat}
theorem p_idx (h : Ord n P) {x : Nat} (hx : x < n) : idx (toI1 P) (x : Int) = some ((pi_ P x : Nat) : Int) := by
  rw [idx_lt (show x < (toI1 P).length by rw [toI1_len, h.len]; exact hx), ← pi_in h, List.getD_eq_getElem?_getD, List.getElem?_eq_getElem (by rw [toI1_len, h.len]; exact hx)]
  rfl
theorem er_4 (v1 : List (List (List Int)) × List Int × Int) (hv : v1.2.2 = (n : Int)) (hn : n ≤ 64) (h : Ord n P) (h3 : ∀ x y, x < n → y < n → cX n L3 (pi_ P x) (pi_ P y) = cX n L1 x y) (h4 : ∀ x y, x < n → y < n → cX n L4 x y = cX n L1 x y + cX n L2 x y) (h6 : ∀ x y, x < n → y < n → cX n L6 (pi_ P x) (pi_ P y) = cX n L5 x y) (b1 : L1.length ≤ 10000000) (b2 : L2.length ≤ 10000000) (x : Nat) (hx : x < n) : ∀ (k y f : Nat), y + k = n → k < f → law09_EveningRelabels_4 v1 (toI1 P) (matM n L1 n 0) (matM n L2 n 0) (matM n L3 n 0) (matM n L4 n 0) (matM n L5 n 0) (matM n L6 n 0) x f y = some (.inl ())
  | 0, y, f + 1, e, _ => by
    unfold law09_EveningRelabels_4
    rw [hv, if_neg (by simp; omega)]
  | k + 1, y, f + 1, e, hf => by
    have hy : y < n := by omega
    have ih := er_4 v1 hv hn h h3 h4 h6 b1 b2 x hx k (y + 1) f (by omega) (by omega)
    obtain ⟨r1, q1, q1'⟩ := mat_at (L := L1) hx hy
    obtain ⟨r2, q2, q2'⟩ := mat_at (L := L2) hx hy
    obtain ⟨r3, q3, q3'⟩ := mat_at (L := L3) (pi_lt h hx) (pi_lt h hy)
    obtain ⟨r4, q4, q4'⟩ := mat_at (L := L4) hx hy
    obtain ⟨r5, q5, q5'⟩ := mat_at (L := L5) hx hy
    obtain ⟨r6, q6, q6'⟩ := mat_at (L := L6) (pi_lt h hx) (pi_lt h hy)
    have w : wr .i64 (cX n L1 x y + cX n L2 x y) = cX n L1 x y + cX n L2 x y := by
      have c1 : L1.count (x * n + y) ≤ L1.length := List.count_le_length
      have c2 : L2.count (x * n + y) ≤ L2.length := List.count_le_length
      unfold cX
      exact wr_i (by omega) (by omega)
    unfold law09_EveningRelabels_4
    rw [hv, if_pos (by simp; omega), p_idx h hx, p_idx h hy]
    simp only [Option.bind_some]
    rw [q3]
    simp only [Option.bind_some]
    rw [q3', q1]
    simp only [Option.bind_some]
    rw [q1']
    simp only [Option.bind_some]
    rw [q4]
    simp only [Option.bind_some]
    rw [q4', q2]
    simp only [Option.bind_some]
    rw [q2']
    simp only [Option.bind_some]
    rw [q6]
    simp only [Option.bind_some]
    rw [q6', q5]
    simp only [Option.bind_some]
    rw [q5']
    simp only [Option.bind_some]
    rw [w, h3 x y hx hy, h4 x y hx hy, h6 x y hx hy, wr_nat (by omega)]
    simp only [bne_self_eq_false, Bool.false_eq_true, if_false, Option.bind_some]
    exact ih
theorem er_3 (v1 : List (List (List Int)) × List Int × Int) (hv : v1.2.2 = (n : Int)) (hn : n ≤ 64) (h : Ord n P) (h3 : ∀ x y, x < n → y < n → cX n L3 (pi_ P x) (pi_ P y) = cX n L1 x y) (h4 : ∀ x y, x < n → y < n → cX n L4 x y = cX n L1 x y + cX n L2 x y) (h6 : ∀ x y, x < n → y < n → cX n L6 (pi_ P x) (pi_ P y) = cX n L5 x y) (b1 : L1.length ≤ 10000000) (b2 : L2.length ≤ 10000000) : ∀ (k x f : Nat), x + k = n → k < f → law09_EveningRelabels_3 v1 (toI1 P) (matM n L1 n 0) (matM n L2 n 0) (matM n L3 n 0) (matM n L4 n 0) (matM n L5 n 0) (matM n L6 n 0) f x = some (.inl ())
  | 0, x, f + 1, e, _ => by
    unfold law09_EveningRelabels_3
    rw [hv, if_neg (by simp; omega)]
  | k + 1, x, f + 1, e, hf => by
    have ih := er_3 v1 hv hn h h3 h4 h6 b1 b2 k (x + 1) f (by omega) (by omega)
    have g := er_4 v1 hv hn h h3 h4 h6 b1 b2 x (by omega) n 0 100000 (by omega) (by omega)
    rw [show ((0 : Nat) : Int) = 0 from rfl] at g
    unfold law09_EveningRelabels_3
    rw [hv, if_pos (by simp; omega), g]
    simp only [Option.bind_some]
    rw [wr_nat (by omega)]
    exact ih
end
theorem evv_evn {n : Nat} {sz : List Nat} {ev : List (List Nat)} (h : Evn n sz ev) : EvV n ev := ⟨rfl, h.ne, h.cnt⟩
theorem small_lens {n : Nat} {s : List (List (List Nat))} (hn : n ≤ 64) (hv : ∀ ev ∈ s, EvV n ev) (hs : s.length ≤ 64) : (toI3 s).length ≤ 50000 ∧ ∀ ev ∈ toI3 s, ev.length ≤ 50000 ∧ ∀ t ∈ ev, t.length ≤ 50000 := by
  refine ⟨by rw [toI3_len]; omega, fun ev he => ?_⟩
  obtain ⟨u, hu, rfl⟩ := List.mem_map.1 he
  have h := hv u hu
  refine ⟨by rw [toI2_len]; have := h.elen; omega, fun t ht => ?_⟩
  obtain ⟨w, hw, rfl⟩ := List.mem_map.1 ht
  rw [toI1_len]; have := h.tlen hw; omega
theorem chkAll_evv {n : Nat} {s : List (List (List Nat))} (h1 : 1 ≤ n) (h2 : n ≤ 64) (hs : s.length ≤ 64) (hv : ∀ ev ∈ s, EvV n ev) : chkAll n [] (toI3 s) = (0, 0) := by
  unfold chkAll
  rw [if_neg (by simp; omega), if_neg (by rw [toI3_len]; omega)]
  refine chkS_ok n [] (toI3 s) 0 fun ev he => ?_
  obtain ⟨u, hu, rfl⟩ := List.mem_map.1 he
  exact chk_evn (hv u hu) [] (.inl rfl)
theorem relabels_law (codes : List Int) (hl : codes.length ≤ 140737488355328) (hc : ∀ c ∈ codes, 0 ≤ c ∧ c ≤ 255) (sw1 sw2 : List (List (Int × Int))) (hs1 : sw1.length ≤ 140737488355328) (hx1 : ∀ l ∈ sw1, l.length ≤ 140737488355328 ∧ ∀ p ∈ l, (0 ≤ p.1 ∧ p.1 ≤ 255) ∧ 0 ≤ p.2 ∧ p.2 ≤ 255) (hs2 : sw2.length ≤ 140737488355328) (hx2 : ∀ l ∈ sw2, l.length ≤ 140737488355328 ∧ ∀ p ∈ l, (0 ≤ p.1 ∧ p.1 ≤ 255) ∧ 0 ≤ p.2 ∧ p.2 ≤ 255) (sw : List (Int × Int)) (hsw : sw.length ≤ 140737488355328) (hsw2 : ∀ p ∈ sw, (0 ≤ p.1 ∧ p.1 ≤ 255) ∧ 0 ≤ p.2 ∧ p.2 ≤ 255) : law09_EveningRelabels codes sw1 sw2 sw = some true := by
  obtain ⟨a, sz, n, hmA, ⟨hsz, hA, hlenA⟩⟩ := made_eq codes hl hc sw1 hs1 hx1
  obtain ⟨b, sz', n', hmB, ⟨_, hB, hlenB⟩⟩ := made_eq codes hl hc sw2 hs2 hx2
  have e1 := made_sizes hmA
  have e2 := made_sizes hmB
  rw [e1] at e2
  have e2 := Option.some.inj e2
  obtain ⟨zsum, zpos, zlen, n1, n48⟩ := hsz
  have en : n' = n := by
    have := congrArg Prod.snd e2
    have : (n : Int) = (n' : Int) := this
    omega
  subst en
  have hf : fitP n' (toI1 sz) = true := fit_sum n1 (by omega) zpos zsum
  have vA : ∀ ev ∈ a, EvV n' ev := fun ev he => evv_evn (hA ev he)
  have vB : ∀ ev ∈ b, EvV n' ev := fun ev he => evv_evn (hB ev he)
  obtain ⟨_, vlA⟩ := evn_check n1 (by omega) (by omega) hA (by omega) hf (by omega)
  -- b's evenings, whatever their sizes
  have vlid : ∀ (s : List (List (List Nat))), (∀ ev ∈ s, EvV n' ev) → s.length ≤ 64 → evening_valid n' (toI3 s) = some true := fun s hv hs => by
    have hl2 : ∀ ev ∈ toI3 s, ev.length ≤ 50000 ∧ ev.flatten.length ≤ 50000 := fun ev he => by
      obtain ⟨u, hu, rfl⟩ := List.mem_map.1 he
      have h := hv u hu
      have := h.elen
      have := h.flen
      rw [toI2_len, toI2_flat, toI1_len]; omega
    have c2 := (check_both n' ⟨by omega, by omega⟩ [] (by simp) (toI3 s) (by rw [toI3_len]; omega) hl2).1
    unfold evening_valid
    rw [c2, chkAll_evv n1 (by omega) hs hv]
    rfl
  have vlB := vlid b vB (by omega)
  obtain ⟨cA, kA, kA2⟩ := valid_chk vlA
  obtain ⟨cB, kB, kB2⟩ := valid_chk vlB
  -- the permutation
  have hmk : mkOk 8 (n' : Int) = true := by
    simp only [mkOk, Bool.and_eq_true, decide_eq_true_eq]; omega
  obtain ⟨k1, k2⟩ := cut_0 sw 20 20 rfl hsw
  have m1 := er_1 (toI3 a, toI1 sz, (n' : Int)) n' rfl (by omega) n' 0 100000 (List.replicate n' 0) (by omega) (by omega) (by simp) (fun j hj => by omega)
  rw [show ((0 : Nat) : Int) = 0 from rfl] at m1
  obtain ⟨P, m2, hP⟩ := er_2 (toI3 a, toI1 sz, (n' : Int)) n' rfl n1 sw _ k2 (by simp; omega) (fun p hp => hsw2 p (List.mem_of_mem_take hp)) (sw.take 20) [] 100000 (List.range n') rfl (by simp; omega) ⟨by simp, List.Perm.refl _⟩
  rw [show ((([] : List (Int × Int)).length : Nat) : Int) = 0 from rfl] at m2
  -- other names
  have lA := small_lens (by omega) vA (by omega)
  have lB := small_lens (by omega) vB (by omega)
  have hin : ∀ x : Nat, x < n' → (x : Int) ∈ toI1 P := fun x hx => mem_toI.2 (hP.perm.mem_iff.2 (List.mem_range.2 hx))
  have hPl : (toI1 P).length = n' := by rw [toI1_len, hP.len]
  have hk : evening_check n' [(n' : Int)] [toI1 P] = some 0 := by
    rw [evening_check_eq n' (by omega) (by omega) _ _ (by simp) (by simp; omega), (perm_chk (toI1 P) n' n1 (by omega) hPl).2 hin]
  have hr := rel_all (toI1 P) (toI3 a) lA.1 (fun ev he => ⟨(lA.2 ev he).1, fun t ht => ⟨(lA.2 ev he).2 t ht, fun k hk => by
    obtain ⟨u, hu, rfl⟩ := List.mem_map.1 he
    obtain ⟨w, hw, rfl⟩ := List.mem_map.1 ht
    obtain ⟨j, hj, rfl⟩ := mem_toI1 hk
    have := (hA u hu).lt w hw j hj
    rw [hPl]
    exact ⟨Int.natCast_nonneg j, Int.ofNat_lt.2 this⟩⟩⟩)
  rw [nm3_I] at hr
  have hR : evening_Relabel n' (toI3 a) (toI1 P) = some (toI3 (nN3 P a), 0) := by
    unfold evening_Relabel
    rw [kA]
    simp only [Option.bind_some]
    rw [kA2, if_neg (by decide), hPl, hk]
    simp only [bne_self_eq_false, Bool.false_eq_true, if_false, Option.bind_some]
    rw [clone_eq _ lA.1 lA.2]
    simp only [Option.bind_some]
    rw [rk_1, hr]
    rfl
  have hJ : evening_Join n' (toI3 a) (toI3 b) = some (toI3 (a ++ b), 0) := by
    have hj := joinT_1 kA kB kA2 kB2 99997
    rw [show 99997 + 3 = 100000 from rfl] at hj
    unfold evening_Join
    rw [hj]
    simp only [Option.bind_some]
    rw [wr_i (by omega) (by rw [toI3_len, toI3_len]; omega), if_neg (by rw [toI3_len, toI3_len]; simp; omega), clone_eq _ lA.1 lA.2, clone_eq _ lB.1 lB.2]
    simp only [Option.bind_some]
    rw [if_pos (capOk_le (by omega) (by rw [toI3_len, toI3_len]; omega))]
    unfold toI3
    rw [List.map_append]
  -- the moved and the joined schedule
  have hM : ∀ ev ∈ nN3 P a, Evn n' sz ev := fun ev he => by
    obtain ⟨u, hu, rfl⟩ := List.mem_map.1 he
    exact evn_nm hP (hA u hu)
  have hMl : (nN3 P a).length ≤ 64 := by unfold nN3; rw [List.length_map]; omega
  have vM : ∀ ev ∈ nN3 P a, EvV n' ev := fun ev he => evv_evn (hM ev he)
  obtain ⟨cM, vlM⟩ := evn_check n1 (by omega) hMl hM (by omega) hf (by omega)
  have vJ : ∀ ev ∈ a ++ b, EvV n' ev := fun ev he => (List.mem_append.1 he).elim (vA ev) (vB ev)
  have hJl : (a ++ b).length ≤ 64 := by rw [List.length_append]; omega
  have vlJ := vlid (a ++ b) vJ hJl
  obtain ⟨sA, smA⟩ := evv_small (n := n') (s := a) (by omega) (by omega) vA
  obtain ⟨sB, smB⟩ := evv_small (n := n') (s := b) (by omega) (by omega) vB
  obtain ⟨sM, smM⟩ := evv_small (n := n') (s := nN3 P a) (by omega) (by omega) vM
  obtain ⟨sJ, smJ⟩ := evv_small (n := n') (s := a ++ b) (by omega) (by omega) vJ
  have t1 := meet_eq smA vlA
  have t2 := meet_eq smB vlB
  have t3 := meet_eq smM vlM
  have t4 := meet_eq smJ vlJ
  have t5 := beside_eq sA vlA
  have t6 := beside_eq sM vlM
  rw [rowsC_M n' _ n' 0 (by omega)] at t1 t2 t3 t4 t5 t6
  have memA : ∀ ev ∈ a, ∀ t ∈ ev, ∀ z ∈ t, z < n' := fun ev he t ht z hz => (hA ev he).lt t ht z hz
  obtain ⟨w1, w2⟩ := meetS_nm (n := n') P a memA
  obtain ⟨u1, u2⟩ := besS_nm (n := n') hP a memA
  have b1 := meetS_leN n' a
  have b2 := meetS_leN n' b
  have b3 := meetS_leN n' (nN3 P a)
  have q1 := smA.all
  have q2 := smB.all
  have q3 := smM.all
  have h3 : ∀ x y, x < n' → y < n' → cX n' (meetS n' (nN3 P a)) (pi_ P x) (pi_ P y) = cX n' (meetS n' a) x y := fun x y hx hy => by
    rw [w1]; exact cX_nm hP w2 hx hy
  have h6 : ∀ x y, x < n' → y < n' → cX n' (besS n' (nN3 P a)) (pi_ P x) (pi_ P y) = cX n' (besS n' a) x y := fun x y hx hy => by
    rw [u1]; exact cX_nm hP u2 hx hy
  have h4 : ∀ x y, x < n' → y < n' → cX n' (meetS n' (a ++ b)) x y = cX n' (meetS n' a) x y + cX n' (meetS n' b) x y := fun x y hx hy => by
    rw [meetS_app]
    unfold cX
    rw [List.count_append]
    omega
  have g := er_3 (toI3 a, toI1 sz, (n' : Int)) rfl (by omega) hP h3 h4 h6 (by omega) (by omega) n' 0 100000 (by omega) (by omega)
  rw [show ((0 : Nat) : Int) = 0 from rfl] at g
  have sA' := strain_eq smA vlA (by omega)
  have sM' := strain_eq smM vlM (by omega)
  rw [w1, sq_nm hP w2] at sM'
  obtain ⟨lo, hi, o1, _, o2⟩ := most_eq smA vlA
  obtain ⟨lo', hi', o3, _, o4⟩ := most_eq smM vlM
  have hh : hi' = hi := by
    have d1 : hi ≤ hi' := hi_le (n := n') (pi_ P) (fun x hx => pi_lt hP hx) (fun x y hx hy e => pi_inj hP hx hy e) h3 (fun x y hx hy => by
      unfold cX
      rw [vS_sym vM hx hy]) o2 o4
    have hch : ∀ y, ∃ x, y < n' → x < n' ∧ pi_ P x = y := fun y => by
      by_cases hy : y < n'
      · obtain ⟨x, h1, h2⟩ := pi_sur hP hy
        exact ⟨x, fun _ => ⟨h1, h2⟩⟩
      · exact ⟨0, fun h => absurd h hy⟩
    have d2 : hi' ≤ hi := hi_le (n := n') (fun y => (hch y).choose) (fun y hy => ((hch y).choose_spec hy).1) (fun x y hx hy e => by
      have a1 := ((hch x).choose_spec hx).2
      have a2 := ((hch y).choose_spec hy).2
      have e : (hch x).choose = (hch y).choose := e
      rw [← a1, ← a2, e]) (fun x y hx hy => by
      have a1 := (hch x).choose_spec hx
      have a2 := (hch y).choose_spec hy
      rw [← h3 _ _ a1.1 a2.1, a1.2, a2.2]) (fun x y hx hy => by
      unfold cX
      rw [vS_sym vA hx hy]) o4 o2
    omega
  have hmin : mnI (mnI (mnI (mnI (mnI (((matM n' (meetS n' a) n' 0).length : Nat) : Int) ((matM n' (meetS n' b) n' 0).length : Int)) ((matM n' (meetS n' (nN3 P a)) n' 0).length : Int)) ((matM n' (meetS n' (a ++ b)) n' 0).length : Int)) ((matM n' (besS n' a) n' 0).length : Int)) ((matM n' (besS n' (nN3 P a)) n' 0).length : Int) = (n' : Int) := by
    simp only [matM_len]
    simp [mnI]
  have hjl : wr .i64 (((toI3 a).length : Int) + ((toI3 b).length : Int)) = ((toI3 (a ++ b)).length : Int) := by
    rw [wr_i (by omega) (by rw [toI3_len, toI3_len]; omega), toI3_len, toI3_len, toI3_len, List.length_append]; simp
  unfold law09_EveningRelabels
  rw [hmA, hmB]
  simp only [Option.bind_some]
  rw [if_pos hmk, Int.toNat_natCast, m1]
  simp only [Option.bind_some]
  rw [if_pos k1, m2]
  simp only [Option.bind_some]
  rw [hR, hJ]
  simp only [Option.bind_some, bne_self_eq_false, Bool.false_eq_true, if_false]
  rw [hjl]
  simp only [bne_self_eq_false, Bool.false_eq_true, if_false]
  rw [cM]
  simp only [bne_self_eq_false, Bool.false_eq_true, if_false, Option.bind_some]
  rw [t1, t2, t3, t4, t5, t6]
  simp only [Option.bind_some]
  rw [hmin]
  simp only [bne_self_eq_false, Bool.false_eq_true, if_false]
  rw [g]
  simp only [Option.bind_some]
  rw [sM', sA', o1, o3, hh]
  simp only [Option.bind_some, beq_self_eq_true, if_true]
  rfl
end Go.Proofs.YtcmgmkepodbpkaaDoor
namespace Go.Proofs.YtcmgmkepodbpkaaDoor.eveningRelabels
open Go.ChangeShapes Go.WideShapes Go.ChangeAt Go.RowKit
theorem law_ret (a0 : (List Int)) (a1 : (List (List (Int × Int)))) (a2 : (List (List (Int × Int)))) (a3 : (List (Int × Int))) (h : law09_EveningRelabels a0 a1 a2 a3 = some true) {w : World} {v0 v1 v2 v3 : Value} (h0 : VR w (fun c => c < w.heap.size) [] ((cdL 1 (cdK .u8)).enc a0) v0) (h1 : VR w (fun c => c < w.heap.size) [] ((cdL 1 (cdL 2 (cdG2 (cdK .u8) (cdK .u8) (fun _ => rfl) (fun _ => rfl)))).enc a1) v1) (h2 : VR w (fun c => c < w.heap.size) [] ((cdL 1 (cdL 2 (cdG2 (cdK .u8) (cdK .u8) (fun _ => rfl) (fun _ => rfl)))).enc a2) v2) (h3 : VR w (fun c => c < w.heap.size) [] ((cdL 2 (cdG2 (cdK .u8) (cdK .u8) (fun _ => rfl) (fun _ => rfl))).enc a3) v3) : Ret Tryd.prog 8 #[v0, v1, v2, v3] w fun v w' => v = .bool true ∧ w.grownBy w' none :=
  Ret.mono (x_law09_EveningRelabels.2 (cs_law09_EveningRelabels.enc (a0, a1, a2, a3, ())) (er_law09_EveningRelabels true) (told_enc (s := cs_law09_EveningRelabels) (a := (a0, a1, a2, a3, ())) h) w (fun c => c < w.heap.size) [v0, v1, v2, v3] (fun c hc => hc) (fun g x h => by cases h) (.cons h0 (.cons h1 (.cons h2 (.cons h3 .nil))))) fun v w' h => ⟨h.2.v_inv, h.1⟩
set_option maxRecDepth 100000 in
theorem contract (H : Type) (enc : TypeId × Value → H) (W : World) (base : Nat) (args : Array Value) (ds gs : List (DataW H)) (before : List MemPlace)
    (hval : ∀ (j : Nat) t v, Tryd.f8.params[j]? = some t → args[j]? = some v → Value.okWide Tryd.prog W .any base t v)
    (hW : DataW.Whole enc Tryd.prog Tryd.f8.params.toList Rows.eveningRelabelsSpec.vars false W args.toList ds gs before)
    (hsz : (DataW.weightsEach Tryd.prog (Tryd.f8.params.toList ++ (OpenSpec.ofChange Rows.eveningRelabelsSpec).bare.plain.varTypes Tryd.prog) (ds ++ gs)).all (· ≤ reachBytes) = true) :
    Calls Tryd.prog 8 args W fun e W' => ∃ v, e = .returned v ∧ Rows.eveningRelabelsSpec.post enc Tryd.prog Tryd.f8 false true false false W args v W' := by
  have hW' := hW
  obtain ⟨p, q, hA0, hV, rfl, hfz, hnd⟩ := hW
  have hA : DataW.TrodAll enc Tryd.prog W 0 (fun _ => true) true Tryd.f8.params.toList args.toList ds p := hA0
  have hpar : Tryd.f8.params = #[41, 42, 42, 52] := by kernel_rfl
  rw [hpar] at hA hval
  obtain ⟨v0, vs0, d0, ds0, p0, q0, hargs, rfl, rfl, h0, r0⟩ := trodAll_cons hA
  obtain ⟨v1, vs1, d1, ds1, p1, q1, rfl, rfl, rfl, h1, r1⟩ := trodAll_cons r0
  obtain ⟨v2, vs2, d2, ds2, p2, q2, rfl, rfl, rfl, h2, r2⟩ := trodAll_cons r1
  obtain ⟨v3, vs3, d3, ds3, p3, q3, rfl, rfl, rfl, h3, r3⟩ := trodAll_cons r2
  obtain ⟨rfl, rfl, rfl⟩ := trodAll_nil r3
  obtain rfl : args = #[v0, v1, v2, v3] := by apply Array.ext'; simpa using hargs
  obtain ⟨a0, k0, g0⟩ := rd_arg (rd_slice (by kernel_rfl : Tryd.prog.underlying 41 = some (.slice 5)) (by kernel_rfl) (by kernel_rfl) (rd_int (by kernel_rfl : Tryd.prog.underlying 5 = some (.int .u8)))) (one_slice (by kernel_rfl : Tryd.prog.underlying 41 = some (.slice 5)) (hval 0 41 v0 rfl rfl)) h0 hsz (j := 0) (by kernel_rfl) rfl
  obtain ⟨a1, k1, g1⟩ := rd_arg (rd_slice (by kernel_rfl : Tryd.prog.underlying 42 = some (.slice 52)) (by kernel_rfl) (by kernel_rfl) (rd_pairs (by kernel_rfl : Tryd.prog.underlying 52 = some (.slice 53)) (by kernel_rfl : Tryd.prog.underlying 53 = some (.array 2 5)) (by kernel_rfl : Tryd.prog.underlying 5 = some (.int .u8)) (by kernel_rfl) (by kernel_rfl) (by kernel_rfl))) (one_slice (by kernel_rfl : Tryd.prog.underlying 42 = some (.slice 52)) (hval 1 42 v1 rfl rfl)) h1 hsz (j := 1) (by kernel_rfl) rfl
  obtain ⟨a2, k2, g2⟩ := rd_arg (rd_slice (by kernel_rfl : Tryd.prog.underlying 42 = some (.slice 52)) (by kernel_rfl) (by kernel_rfl) (rd_pairs (by kernel_rfl : Tryd.prog.underlying 52 = some (.slice 53)) (by kernel_rfl : Tryd.prog.underlying 53 = some (.array 2 5)) (by kernel_rfl : Tryd.prog.underlying 5 = some (.int .u8)) (by kernel_rfl) (by kernel_rfl) (by kernel_rfl))) (one_slice (by kernel_rfl : Tryd.prog.underlying 42 = some (.slice 52)) (hval 2 42 v2 rfl rfl)) h2 hsz (j := 2) (by kernel_rfl) rfl
  obtain ⟨a3, k3, g3⟩ := rd_arg (rd_pairs (by kernel_rfl : Tryd.prog.underlying 52 = some (.slice 53)) (by kernel_rfl : Tryd.prog.underlying 53 = some (.array 2 5)) (by kernel_rfl : Tryd.prog.underlying 5 = some (.int .u8)) (by kernel_rfl) (by kernel_rfl) (by kernel_rfl)) (one_slice (by kernel_rfl : Tryd.prog.underlying 52 = some (.slice 53)) (hval 3 52 v3 rfl rfl)) h3 hsz (j := 3) (by kernel_rfl) rfl
  have hc := law_ret a0 a1 a2 a3 (relabels_law a0 g0.1 (fun c hc => bounds_u8 (g0.2 c hc)) a1 a2 g1.1 (fun l hl => ⟨(g1.2 l hl).1, fun p hp => ⟨bounds_u8 ((g1.2 l hl).2 p hp).1, bounds_u8 ((g1.2 l hl).2 p hp).2⟩⟩) g2.1 (fun l hl => ⟨(g2.2 l hl).1, fun p hp => ⟨bounds_u8 ((g2.2 l hl).2 p hp).1, bounds_u8 ((g2.2 l hl).2 p hp).2⟩⟩) a3 g3.1 (fun p hp => ⟨bounds_u8 (g3.2 p hp).1, bounds_u8 (g3.2 p hp).2⟩)) k0 k1 k2 k3
  unfold Ret at hc
  refine hc.mono fun e W' he => ?_
  cases e with
  | returned v =>
    obtain ⟨rfl, hg⟩ := he
    exact ⟨_, rfl, post_true laidOut (fun t ht => ⟨mem_of_laid (fun t => Tryd.prog.readableRec t) (by kernel_rfl) ht, of_decide_eq_true (mem_of_laid (fun t => decide (t < Tryd.prog.types.size)) (by kernel_rfl) ht)⟩) hW' rfl (by kernel_rfl) (by kernel_rfl : Tryd.prog.underlying 4 = some .bool) rfl hg⟩
  | panicked c => exact he.elim
  | outgrown => exact he.elim
theorem laid_met (os : Os) : laidMet Tryd.prog Rows.eveningRelabelsRow.laid ((laidWorld os).forCall (fun _ _ => 0) ⟨#[], #[Value.slice none 0 0, Value.slice none 0 0, Value.slice none 0 0, Value.slice none 0 0], []⟩).memory :=
  laidMet_of_run' 8 (by kernel_rfl) (by kernel_rfl)
theorem reads (os : Os) {H : Type} (enc : TypeId × Value → H) : ∃ places, DataW.whole enc Tryd.prog ((laidWorld os).forCall (fun _ _ => 0) ⟨#[], #[Value.slice none 0 0, Value.slice none 0 0, Value.slice none 0 0, Value.slice none 0 0], []⟩).memory Tryd.f8.params.toList Rows.eveningRelabelsSpec.vars false #[Value.slice none 0 0, Value.slice none 0 0, Value.slice none 0 0, Value.slice none 0 0].toList 8 = some ([.nil, .nil, .nil, .nil], [], places) :=
  ⟨[], by kernel_rfl⟩
set_option maxRecDepth 100000 in
theorem lifted (os : Os) (started : os.Started) (H : Type) (enc : TypeId × Value → H) (F : Stop.Interp) :
    ReturnsInHanded {} Tryd.checked os 8 .any ((OpenSpec.ofChange Rows.eveningRelabelsSpec).preRow enc Tryd.prog Tryd.f8 Rows.eveningRelabelsRow.domain false Rows.eveningRelabelsRow.laid) (((OpenSpec.ofChange Rows.eveningRelabelsSpec).at F).post enc Tryd.prog Tryd.f8 false true false false) := by
  obtain ⟨places, hx⟩ := reads os enc
  refine returnsInHanded_of_row (C := Tryd.checked) (s := OpenSpec.ofChange Rows.eveningRelabelsSpec) ownKnob0 started (by kernel_rfl) Tryd.func8
    (witness_row_at (enc := enc) (C := Tryd.checked) false (laidWorld os) #[Value.slice none 0 0, Value.slice none 0 0, Value.slice none 0 0, Value.slice none 0 0] rfl (by kernel_rfl) (by kernel_rfl) (by kernel_rfl)
      (OpenSpec.preRow_of_cond 8 hx (by kernel_rfl) (fun k hk => by cases hk) (by kernel_rfl) (laid_met os))) ?_
  intro W base args ds gs before hval hW _ _ hsz _ _ _
  exact contract H enc W base args ds gs before hval hW hsz
theorem said : Rows.EveningRelabelsSaid :=
  OpenClaim.holds_of_cond 8 Tryd.f8 rfl rfl rfl rfl rfl rfl rfl ⟨rfl, rfl, rfl, rfl, rfl⟩ rfl rfl rfl rfl rfl (by kernel_rfl) Tryd.func8 (by kernel_rfl)
    (of_decide_eq_true (by kernel_rfl)) (by unfold Func.isWrapper; first | (rw [if_pos (by decide +kernel)]; kernel_rfl) | (rw [if_neg (by decide +kernel)]; exact ⟨rfl, rfl⟩))
    (fun os started H enc _ F => by rw [OpenClaim.pre_eq_preRow]; exact lifted os started H enc F)
theorem plain (f : FuncId) (fn : Func) (hf : Tryd.pinned.checked.prog.funcNamed "trestle/trestlelaw09.EveningRelabels" = some f) (hfn : Tryd.pinned.checked.prog.funcs[f]? = some fn) :
    false = Tryd.pinned.checked.prog.looks [] ∧ ∀ (j : Nat) t, fn.params[j]? = some t → Tryd.pinned.checked.prog.wantsStandIn t = false := by
  obtain rfl : f = 8 := Option.some.inj ((show Tryd.prog.funcNamed "trestle/trestlelaw09.EveningRelabels" = some 8 by kernel_rfl).symm.trans hf) |>.symm
  obtain rfl : fn = Tryd.f8 := (Option.some.inj (Tryd.func8.symm.trans hfn)).symm
  refine ⟨by kernel_rfl, fun j t ht => ?_⟩
  have hm : t ∈ Tryd.f8.params.toList := by simpa using Array.mem_of_getElem? ht
  exact (show Tryd.prog.wantsStandIn t = false from Bool.not_eq_true' _ |>.mp (mem_of_laid (fun t => !Tryd.prog.wantsStandIn t) (by kernel_rfl) hm))
theorem card : Rows.EveningRelabelsCardSaid :=
  Claim7.holds_tied_plain_at .later [] _ _ _ _ said (fun _ h => by cases h) (by kernel_rfl) (fun _ h => by cases h) eveningRelabels_row_tie rfl ⟨rfl, rfl⟩ (by kernel_rfl) rfl plain (by kernel_rfl)
end Go.Proofs.YtcmgmkepodbpkaaDoor.eveningRelabels
