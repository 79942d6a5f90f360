/- Polishing keeps the sizes, each exchange makes the strain less, and where it stops before its last round no exchange of two guests on an evening makes it less. -/
import Derived.Test.YtcmgmkepodbpkaaDoorEveningBetterM1
import Derived.Test.YtcmgmkepodbpkaaDoorEveningBetterM2
import Derived.Test.YtcmgmkepodbpkaaDoorEveningBetterM3
import Derived.Test.YtcmgmkepodbpkaaDoorEveningBetterM4
import Derived.Test.YtcmgmkepodbpkaaDoorEveningBetterM5
namespace Go.Proofs.YtcmgmkepodbpkaaDoor
open Go.RowKit
/- trestle/evening.Meet -/
/-- Where guests who meet are counted. -/
def meetT (n : Nat) : List Nat → List Nat → List Nat
 | _, [] => []
 | pre, x :: r => (pre ++ r).map (fun y => Nat.add (Nat.mul x n) y) ++ meetT n (pre ++ [x]) r
def meetE (n : Nat) : List (List Nat) → List Nat
 | [] => []
 | t :: ev => meetT n [] t ++ meetE n ev
def meetS (n : Nat) : List (List (List Nat)) → List Nat
 | [] => []
 | ev :: s => meetE n ev ++ meetS n s
/- Meetings. -/
def inner (n x i : Nat) : Nat → List Nat → List Nat
 | _, [] => []
 | k, y :: r => (if i = k then [] else [x * n + y]) ++ inner n x i (k + 1) r
def meetG (n : Nat) (t : List Nat) : Nat → List Nat → List Nat
 | _, [] => []
 | i, x :: r => inner n x i 0 t ++ meetG n t (i + 1) r
theorem inner_len (n x i : Nat) : ∀ (r : List Nat) (k : Nat), (inner n x i k r).length ≤ r.length
 | [], _ => by simp [inner]
 | y :: r, k => by
  have := inner_len n x i r (k + 1)
  simp only [inner, List.length_append, List.length_cons]
  split
  ·simp only [List.length_nil]; omega
  ·simp only [List.length_singleton]; omega
theorem inner_ge (n x i : Nat) : ∀ (r : List Nat) (k : Nat), i < k → inner n x i k r = r.map fun y => x * n + y
 | [], _, _ => rfl
 | y :: r, k, h => by
  simp only [inner, List.map_cons]
  rw [if_neg (by omega), inner_ge n x i r (k + 1) (by omega)]
  rfl
theorem inner_app (n x z : Nat) (r : List Nat) : ∀ (pre : List Nat) (k i : Nat), i = k + pre.length → inner n x i k (pre ++ z :: r) = (pre ++ r).map fun y => x * n + y
 | [], k, i, h => by
  simp only [List.nil_append, inner]
  rw [if_pos (by simpa using h), inner_ge n x i r (k + 1) (by simp at h; omega)]
  rfl
 | y :: pre, k, i, h => by
  simp only [List.cons_append, inner, List.map_cons]
  simp only [List.length_cons] at h
  rw [if_neg (by omega), inner_app n x z r pre (k + 1) i (by omega)]
  rfl
theorem meetG_T (n : Nat) (t : List Nat) : ∀ (r pre : List Nat), t = pre ++ r → meetG n t pre.length r = meetT n pre r
 | [], _, _ => rfl
 | x :: r, pre, h => by
  have ih := meetG_T n t r (pre ++ [x]) (by rw [h]; simp)
  simp only [meetG, meetT]
  rw [show pre.length + 1 = (pre ++ [x]).length by simp, ih]
  congr 1
  rw [h]
  exact inner_app n x x r pre 0 pre.length (by omega)
theorem meetG_len (n : Nat) (t : List Nat) : ∀ (r : List Nat) (i : Nat), (meetG n t i r).length ≤ t.length * r.length
 | [], _ => by simp [meetG]
 | x :: r, i => by
  have := meetG_len n t r (i + 1)
  have := inner_len n x i t 0
  simp only [meetG, List.length_append, List.length_cons, Nat.mul_succ]
  omega
theorem meetT_len (n : Nat) (t : List Nat) : (meetT n [] t).length ≤ t.length * t.length := by
 rw [← meetG_T n t t [] rfl]; exact meetG_len n t t 0
theorem mtg_y {n x y : Nat} {y0 y5 y6 : Int} {y3 : List (List Int)} {y4 : List (List (List Int))} (L : List Nat) (hn : n ≤ 64) (hL : L.length ≤ 10000000) (hx : x < n) (hy : y < n) : evening_meetings_k3_y y0 n (celM n L) y3 y4 y5 y6 x y = some (celM n (L ++ [x * n + y])) := by
 unfold evening_meetings_k3_y evening_meetings_k3_y_k1
 rw [celM_wr hn hx hy, celM_idx L hx hy]
 simp only [Option.bind_some]
 rw [celM_set L hL hx hy]
theorem mtg_3 (y0 : Int) (y3 : List (List Int)) (y4 : List (List (List Int))) (y5 y6 c1 : Int) (n : Nat) (hn : n ≤ 64) (t : List Nat) (ht : ∀ x ∈ t, x < n) (htl : t.length ≤ 2000) (i x : Nat) (hx : x < n) : ∀ (r pre : List Nat) (f : Nat) (L : List Nat), t = pre ++ r → r.length < f → L.length + r.length ≤ 10000000 →
  evening_meetings_k3_3 y0 n y3 y4 y5 y6 c1 (toI1 t) i x f pre.length (celM n L) = some (celM n (L ++ inner n x i pre.length r))
 | [], pre, f + 1, L, h, _, _ => by
  unfold evening_meetings_k3_3
  rw [if_neg (by rw [toI1_len, h]; simp)]
  simp [inner]
 | y :: r, pre, f + 1, L, h, hf, hL => by
  have hy : y < n := ht y (by rw [h]; simp)
  simp only [List.length_cons] at hf hL
  have hwr : wr .i64 ((pre.length : Int) + 1) = ((pre ++ [y]).length : Int) := by
   have : pre.length ≤ t.length := by rw [h]; simp
   rw [wr_nat (by omega)]; simp
  have rec_ := fun L' hL' => mtg_3 y0 y3 y4 y5 y6 c1 n hn t ht htl i x hx r (pre ++ [y]) f L' (by rw [h]; simp) (by omega) hL'
  unfold evening_meetings_k3_3
  rw [if_pos (by rw [toI1_len, h]; simp; omega), show idx (toI1 t) (pre.length : Int) = some (y : Int) by rw [h]; exact idx_toI1 pre y r]
  simp only [Option.bind_some, inner]
  by_cases e : i = pre.length
  ·rw [if_neg (by simp [e]), if_pos e, hwr, rec_ L (by omega)]
   simp
  ·rw [if_pos (by simp; omega), if_neg e, mtg_y L hn (by omega) hx hy]
   simp only [Option.bind_some]
   rw [hwr, rec_ _ (by simp; omega)]
   simp
theorem mtg_2 (y0 : Int) (y3 : List (List Int)) (y4 : List (List (List Int))) (y5 y6 c1 : Int) (n : Nat) (hn : n ≤ 64) (t : List Nat) (ht : ∀ x ∈ t, x < n) (htl : t.length ≤ 2000) : ∀ (r pre : List Nat) (f : Nat) (L : List Nat), t = pre ++ r → r.length < f → L.length + t.length * r.length ≤ 10000000 →
  evening_meetings_k3_2 y0 n y3 y4 y5 y6 c1 (toI1 t) f pre.length (celM n L) = some (celM n (L ++ meetG n t pre.length r))
 | [], pre, f + 1, L, h, _, _ => by
  unfold evening_meetings_k3_2
  rw [if_neg (by rw [toI1_len, h]; simp)]
  simp [meetG]
 | x :: r, pre, f + 1, L, h, hf, hL => by
  have hx : x < n := ht x (by rw [h]; simp)
  simp only [List.length_cons, Nat.mul_succ] at hf hL
  have hwr : wr .i64 ((pre.length : Int) + 1) = ((pre ++ [x]).length : Int) := by
   have : pre.length ≤ t.length := by rw [h]; simp
   rw [wr_nat (by omega)]; simp
  have h3 := mtg_3 y0 y3 y4 y5 y6 c1 n hn t ht htl pre.length x hx t [] 100000 L rfl (by omega) (by omega)
  rw [show ((([] : List Nat).length : Nat) : Int) = 0 from rfl, show ([] : List Nat).length = 0 from rfl] at h3
  have hin := inner_len n x pre.length t 0
  have ih := mtg_2 y0 y3 y4 y5 y6 c1 n hn t ht htl r (pre ++ [x]) f (L ++ inner n x pre.length 0 t) (by rw [h]; simp) (by omega) (by rw [List.length_append]; omega)
  unfold evening_meetings_k3_2
  rw [if_pos (by rw [toI1_len, h]; simp; omega), show idx (toI1 t) (pre.length : Int) = some (x : Int) by rw [h]; exact idx_toI1 pre x r]
  simp only [Option.bind_some]
  rw [h3]
  simp only [Option.bind_some]
  rw [hwr, ih]
  simp [meetG]
theorem meetE_len (n : Nat) : ∀ (ev : List (List Nat)), (meetE n ev).length ≤ sqs ev
 | [] => by simp [meetE]
 | t :: ev => by
  have := meetE_len n ev
  have := meetT_len n t
  simp only [meetE, sqs, List.length_append]; omega
theorem mtg_1 (y0 : Int) (y4 : List (List (List Int))) (y5 y6 : Int) (n : Nat) (hn : n ≤ 64) (ev : List (List Nat)) (hev : ∀ t ∈ ev, ∀ x ∈ t, x < n) (hel : ∀ t ∈ ev, t.length ≤ 2000) (hev2 : ev.length ≤ 90000) : ∀ (r pre : List (List Nat)) (f : Nat) (L : List Nat), ev = pre ++ r → r.length < f → L.length + sqs r ≤ 10000000 →
  evening_meetings_k3_1 y0 n (toI2 ev) y4 y5 y6 f pre.length (celM n L) = some (celM n (L ++ meetE n r))
 | [], pre, f + 1, L, h, _, _ => by
  unfold evening_meetings_k3_1
  rw [if_neg (by rw [toI2_len, h]; simp)]
  simp [meetE]
 | t :: r, pre, f + 1, L, h, hf, hL => by
  have htl : t.length ≤ 2000 := hel t (by rw [h]; simp)
  simp only [sqs] at hL
  have h3 := mtg_2 y0 (toI2 ev) y4 y5 y6 pre.length n hn t (hev t (by rw [h]; simp)) (by omega) t [] 100000 L rfl (by omega) (by omega)
  rw [show ((([] : List Nat).length : Nat) : Int) = 0 from rfl, meetG_T n t t [] rfl] at h3
  have hwr : wr .i64 ((pre.length : Int) + 1) = ((pre ++ [t]).length : Int) := by
   have : pre.length ≤ ev.length := by rw [h]; simp
   rw [wr_nat (by omega)]; simp
  have hb := meetT_len n t
  have ih := mtg_1 y0 y4 y5 y6 n hn ev hev hel hev2 r (pre ++ [t]) f (L ++ meetT n [] t) (by rw [h]; simp) (by simp at hf; omega) (by rw [List.length_append]; omega)
  unfold evening_meetings_k3_1
  rw [if_pos (by rw [toI2_len, h]; simp; omega), show idx (toI2 ev) (pre.length : Int) = some (toI1 t) by rw [h]; exact idx_toI2 pre t r]
  simp only [Option.bind_some]
  rw [h3]
  simp only [Option.bind_some]
  rw [hwr, ih]
  simp [meetE]
theorem mtg_0 (n : Nat) (hn : n ≤ 64) (s : List (List (List Nat))) (v1 : Int × Int × List Int) (hv1 : v1.1 = (n : Int)) (hs : ∀ ev ∈ s, ∀ t ∈ ev, ∀ x ∈ t, x < n) (hsl : ∀ ev ∈ s, (∀ t ∈ ev, t.length ≤ 2000) ∧ ev.length ≤ 90000) (hs2 : s.length ≤ 90000) : ∀ (r pre : List (List (List Nat))) (f : Nat) (L : List Nat), s = pre ++ r → r.length < f → L.length + sqS r ≤ 10000000 →
  evening_meetings_1 (toI3 s) v1 f (celM n L) pre.length = some (celM n (L ++ meetS n r))
 | [], pre, f + 1, L, h, _, _ => by
  unfold evening_meetings_1
  rw [if_neg (by rw [toI3_len, h]; simp)]
  simp [meetS]
 | ev :: r, pre, f + 1, L, h, hf, hL => by
  obtain ⟨hl1, hl2⟩ := hsl ev (by rw [h]; simp)
  simp only [sqS] at hL
  have h3 := mtg_1 0 (toI3 s) ((toI3 s).length : Int) pre.length n hn ev (hs ev (by rw [h]; simp)) hl1 hl2 ev [] 100000 L rfl (by omega) (by omega)
  rw [show ((([] : List (List Nat)).length : Nat) : Int) = 0 from rfl] at h3
  have hwr : wr .i64 ((pre.length : Int) + 1) = ((pre ++ [ev]).length : Int) := by
   have : pre.length ≤ s.length := by rw [h]; simp
   rw [wr_nat (by omega)]; simp
  have hb := meetE_len n ev
  have ih := mtg_0 n hn s v1 hv1 hs hsl hs2 r (pre ++ [ev]) f (L ++ meetE n ev) (by rw [h]; simp) (by simp at hf; omega) (by rw [List.length_append]; omega)
  unfold evening_meetings_1
  rw [if_pos (by rw [toI3_len, h]; simp; omega), show idx (toI3 s) (pre.length : Int) = some (toI2 ev) by rw [h]; exact idx_toI3 pre ev r]
  simp only [Option.bind_some, evening_meetings_k2, evening_meetings_k3, hv1]
  rw [h3]
  simp only [Option.bind_some]
  rw [hwr, ih]
  simp [meetS]
theorem meetings_eq {n : Nat} {s : List (List (List Nat))} (h : SmM n s) : evening_meetings n (toI3 s) = some ((n : Int), celM n (meetS n s)) := by
 unfold evening_meetings
 obtain ⟨m1, m2⟩ := mkOk_nn h.n64
 unfold evening_meetings_k1
 rw [if_pos m1, m2]
 simp only [Option.bind_some]
 have hl := h.len
 have h1 := mtg_0 n h.n64 s ((n : Int), (n : Int), celM n []) rfl h.mem h.ev h.len s [] 100000 [] rfl (by omega) (by have := h.all; simp at this ⊢; omega)
 rw [show ((([] : List (List (List Nat))).length : Nat) : Int) = 0 from rfl, List.nil_append] at h1
 rw [h1]
 rfl
/- trestle/evening.extremes -/
/- trestle/evening.Most -/
/- trestle/evening.Least -/
/-- How often two guests meet. -/
def cX (n : Nat) (L : List Nat) (x y : Nat) : Int := ((L.count (x * n + y) : Nat) : Int)
def sqSum : List Int → Int
 | [] => 0
 | v :: r => v * v + sqSum r
theorem sq_nn (v : Int) (h0 : 0 ≤ v) (h1 : v ≤ 10000000) : 0 ≤ v * v ∧ v * v ≤ 100000000000000 := by
 refine ⟨Int.mul_nonneg h0 h0, ?_⟩
 have := Int.mul_le_mul h1 h1 h0 (by omega)
 omega
theorem strain_1 (n0 : Int) (cs : List Int) (hb : ∀ v ∈ cs, 0 ≤ v ∧ v ≤ 10000000) (hl : cs.length ≤ 5000) : ∀ (r pre : List Int) (f : Nat) (c : Int), cs = pre ++ r → r.length < f → 0 ≤ c → c ≤ 100000000000000 * pre.length → evening_Strain_1 (n0, cs) f c pre.length = some (c + sqSum r)
 | [], pre, f + 1, c, h, _, _, _ => by
  unfold evening_Strain_1
  rw [if_neg (by rw [h]; simp)]
  simp [sqSum]
 | v :: r, pre, f + 1, c, h, hf, h0, h1 => by
  obtain ⟨v0, v1⟩ := hb v (by rw [h]; simp)
  obtain ⟨s0, s1⟩ := sq_nn v v0 v1
  have hp : pre.length < cs.length := by rw [h]; simp
  have ih := strain_1 n0 cs hb hl r (pre ++ [v]) f (c + v * v) (by rw [h]; simp) (by simp at hf; omega) (by omega) (by simp; omega)
  unfold evening_Strain_1
  rw [if_pos (by rw [h]; simp; omega), show idx cs (pre.length : Int) = some v by rw [h]; exact idx_app pre v r]
  simp only [Option.bind_some]
  rw [wr_nat (by omega), wr_i (n := v * v) (by omega) (by omega), wr_i (by omega) (by omega)]
  have : ((pre.length + 1 : Nat) : Int) = ((pre ++ [v]).length : Int) := by simp
  rw [this, ih]
  simp only [sqSum]
  congr 1; omega
theorem celM_mem {n : Nat} {L : List Nat} {v : Int} (h : v ∈ celM n L) : ∃ j, j < n * n ∧ v = ((L.count j : Nat) : Int) := by
 obtain ⟨j, hj, hv⟩ := List.getElem_of_mem h
 have hj' := hj
 rw [celM_len] at hj'
 refine ⟨j, hj', ?_⟩
 have := cnt_get L (n * n) j hj'
 rw [← this, ← hv, List.getD_eq_getElem?_getD]
 show _ = (celM n L)[j]?.getD 0
 rw [List.getElem?_eq_getElem hj]
 rfl
theorem sqSum_le : ∀ (r : List Int), (∀ v ∈ r, 0 ≤ v ∧ v ≤ 10000000) → 0 ≤ sqSum r ∧ sqSum r ≤ 100000000000000 * r.length
 | [], _ => by simp [sqSum]
 | v :: r, h => by
  obtain ⟨v0, v1⟩ := h v (by simp)
  obtain ⟨s0, s1⟩ := sq_nn v v0 v1
  obtain ⟨a, b⟩ := sqSum_le r fun w hw => h w (by simp [hw])
  simp only [sqSum, List.length_cons]; omega
theorem strain_eq {n : Nat} {s : List (List (List Nat))} (h : SmM n s) (hv : evening_valid n (toI3 s) = some true) (hL : (meetS n s).length ≤ 10000000) : evening_Strain n (toI3 s) = some (sqSum (celM n (meetS n s)) / 2) := by
 have hb : ∀ v ∈ celM n (meetS n s), 0 ≤ v ∧ v ≤ 10000000 := fun v hv => by
  obtain ⟨j, _, rfl⟩ := celM_mem hv
  have : (meetS n s).count j ≤ (meetS n s).length := List.count_le_length
  omega
 have h2 : n * n ≤ 64 * 64 := Nat.mul_le_mul h.n64 h.n64
 have hl : (celM n (meetS n s)).length ≤ 5000 := by rw [celM_len]; omega
 have h1 := strain_1 n _ hb hl (celM n (meetS n s)) [] 100000 0 rfl (by omega) (by omega) (by simp)
 obtain ⟨q0, q1⟩ := sqSum_le _ hb
 unfold evening_Strain
 rw [hv]
 simp only [Option.bind_some, Bool.not_true, Bool.false_eq_true, if_false]
 rw [meetings_eq h]
 simp only [Option.bind_some]
 rw [show ((([] : List Int).length : Nat) : Int) = 0 from rfl, Int.zero_add] at h1
 rw [h1]
 simp only [Option.bind_some]
 rw [tdiv2 _ q0, wr_i (by omega) (by omega)]
/-- An evening of these sizes, everybody once. -/
structure Evn (n : Nat) (sz : List Nat) (ev : List (List Nat)) : Prop where
 sz_ : ev.map List.length = sz
 ne : ∀ t ∈ ev, t.length ≠ 0
 cnt : ∀ j, ev.flatten.count j = if j < n then 1 else 0
section
variable {n : Nat} {sz : List Nat} {ev : List (List Nat)} {s : List (List (List Nat))}
theorem Evn.flt (h : Evn n sz ev) {j : Nat} (hj : j ∈ ev.flatten) : j < n := by
 have := h.cnt j
 have := List.count_pos_iff.2 hj
 split at * <;> omega
theorem Evn.lt (h : Evn n sz ev) : ∀ t ∈ ev, ∀ x ∈ t, x < n := fun t ht _ hx => h.flt (List.mem_flatten.2 ⟨t, ht, hx⟩)
theorem Evn.len (h : Evn n sz ev) : ev.flatten.length = sz.sum := by rw [List.length_flatten, h.sz_]
theorem chk_evn (h : Evn n sz ev) (zs : List Int) (hs : zs = [] ∨ zs = toI1 sz) : chk n zs (toI2 ev) = 0 := by
 have hz : zs = [] ∨ zs = (toI2 ev).map (fun t => (t.length : Int)) := hs.imp id fun e => by rw [e, ← h.sz_]; simp [toI1, toI2]
 unfold chk
 have h1 : (decide ((zs.length : Int) > 0) && ((zs.length : Int) != ((toI2 ev).length : Int))) = false := by
  rcases hz with h | h
  ·subst h; rfl
  ·rw [h]; simp
 have h2 : sbad zs (toI2 ev) 0 = false := sbad_ok (toI2 ev) [] zs (by simpa using hz) (fun t ht => by
  obtain ⟨u, hu, rfl⟩ := List.mem_map.1 ht
  rw [toI1_len]; exact h.ne u hu)
 have h3 : (toI2 ev).flatten.any (badV n) = false := by
  rw [toI2_flat]
  refine List.any_eq_false.2 fun v hv => ?_
  obtain ⟨j, hj, rfl⟩ := mem_toI1 hv
  have := h.flt hj
  simp only [badV, decide_eq_true_eq]
  simp
  omega
 have h4 : anyN (fun x => decide (((toI2 ev).flatten.count x : Int) > 1)) (n : Int).toNat 0 = false := anyN_false _ _ fun x hx => by
  rw [toI2_flat, toI1_count, h.cnt]
  simp only [decide_eq_false_iff_not]
  split <;> simp
 have h5 : anyN (fun x => (((toI2 ev).flatten.count x : Int) == 0)) (n : Int).toNat 0 = false := anyN_false _ _ fun x hx => by
  rw [toI2_flat, toI1_count, h.cnt, if_pos (by simpa using hx)]
  rfl
 rw [h1, h2, h3, h4, h5]
 rfl
theorem chkAll_evn (h1 : 1 ≤ n) (h2 : n ≤ 64) (zs : List Int) (hz : zs = [] ∨ (zs = toI1 sz ∧ fitP n zs = true)) (hs : s.length ≤ 64) (hv : ∀ ev ∈ s, Evn n sz ev) : chkAll n zs (toI3 s) = (0, 0) := by
 unfold chkAll
 have e1 : decide ((n : Int) < 1) = false := by simp; omega
 have e2 : decide ((n : Int) > 64) = false := by simp; omega
 have e3 : (decide ((zs.length : Int) > 0) && !fitP n zs) = false := by
  rcases hz with h | h
  ·subst h; rfl
  ·rw [h.2]; simp
 rw [e1, e2, e3]
 simp only [Bool.or_self, Bool.false_eq_true, if_false]
 rw [if_neg (by rw [toI3_len]; omega)]
 refine chkS_ok n zs (toI3 s) 0 fun ev he => ?_
 obtain ⟨u, hu, rfl⟩ := List.mem_map.1 he
 exact chk_evn (hv u hu) zs (hz.imp id fun h => h.1)
theorem evn_check (h1 : 1 ≤ n) (hn : n ≤ 64) (hs : s.length ≤ 64) (hv : ∀ ev ∈ s, Evn n sz ev) (hsum : sz.sum ≤ 64) (hf : fitP n (toI1 sz) = true) (hzl : sz.length ≤ 64) : evening_Check n (toI1 sz) (toI3 s) = some (0, 0) ∧ evening_valid n (toI3 s) = some true := by
 have hl : ∀ ev ∈ toI3 s, ev.length ≤ 50000 ∧ ev.flatten.length ≤ 50000 := fun ev he => by
  obtain ⟨u, hu, rfl⟩ := List.mem_map.1 he
  have h := hv u hu
  have e : u.flatten.length ≤ 64 := by rw [h.len]; exact hsum
  have := len_flat h.ne
  rw [toI2_len, toI2_flat, toI1_len]
  omega
 have c1 := (check_both n ⟨by omega, by omega⟩ (toI1 sz) (by rw [toI1_len]; omega) (toI3 s) (by rw [toI3_len]; omega) hl).1
 have c2 := (check_both n ⟨by omega, by omega⟩ [] (by simp) (toI3 s) (by rw [toI3_len]; omega) hl).1
 rw [chkAll_evn h1 hn (toI1 sz) (.inr ⟨rfl, hf⟩) hs hv] at c1
 rw [chkAll_evn h1 hn [] (.inl rfl) hs hv] at c2
 refine ⟨c1, ?_⟩
 unfold evening_valid
 rw [c2]
 rfl
end
theorem fit_sum {n : Nat} {sz : List Nat} (h1 : 1 ≤ n) (hn : n ≤ 64) (hp : ∀ k ∈ sz, 1 ≤ k) (hs : sz.sum = n) : fitP n (toI1 sz) = true := by
 have key : ∀ sz : List Nat, sumL (toI1 sz) = ((sz.sum : Nat) : Int) := fun sz => by
  induction sz with
  | nil => rfl
  | cons k sz ih =>
   show (k : Int) + sumL (toI1 sz) = _
   rw [ih, List.sum_cons]; push_cast; rfl
 simp only [fitP, Bool.and_eq_true, decide_eq_true_eq]
 refine ⟨⟨⟨List.all_eq_true.2 fun v hv => ?_, ?_⟩, by omega⟩, by omega⟩
 ·obtain ⟨j, hj, rfl⟩ := mem_toI1 hv
  have := hp j hj
  simp; omega
 ·rw [key, hs]
/- slices.Index[[]int,int] -/
/- slices.Contains[[]int,int] -/
/- trestle/evening.Together -/
theorem map_count (n z x y : Nat) (hy : y < n) : ∀ (l : List Nat), (∀ w ∈ l, w < n) → (l.map fun w => Nat.add (Nat.mul z n) w).count (x * n + y) = if z = x then l.count y else 0
 | [], _ => by simp
 | w :: l, h => by
  have ih := map_count n z x y hy l fun u hu => h u (by simp [hu])
  have hw := h w (by simp)
  rw [List.map_cons, List.count_cons, ih, List.count_cons]
  by_cases e : z * n + w = x * n + y
  ·obtain ⟨e1, e2⟩ := cell_eq hw hy e
   subst e1 e2
   simp
  ·have : ((Nat.add (Nat.mul z n) w) == (x * n + y)) = false := by simpa using e
   rw [this]
   by_cases hz : z = x
   ·subst hz
    have : ¬ w = y := fun e2 => e (by rw [e2])
    simp [this]
   ·simp [hz]
theorem meetT_count (n x y : Nat) (hy : y < n) : ∀ (r pre : List Nat), (∀ z ∈ pre ++ r, z < n) → (meetT n pre r).count (x * n + y) = r.count x * ((pre ++ r).count y - if x = y then 1 else 0)
 | [], _, _ => by simp [meetT]
 | z :: r, pre, h => by
  have ih := meetT_count n x y hy r (pre ++ [z]) (by simpa using h)
  have e : (pre ++ [z]) ++ r = pre ++ z :: r := by simp
  rw [e] at ih
  have hT : (pre ++ z :: r).count y = (pre ++ r).count y + if z = y then 1 else 0 := by
   rw [List.count_append, List.count_append, List.count_cons]
   by_cases hz : z = y
   ·subst hz; simp; omega
   ·simp [hz]
  simp only [meetT, List.count_append]
  rw [map_count n z x y hy (pre ++ r) (fun w hw => h w (by
   rcases List.mem_append.1 hw with hw | hw
   ·simp [hw]
   ·simp [hw])), List.count_cons]
  rw [List.count_append] at ih
  rw [ih]
  have hT' : List.count y pre + List.count y (z :: r) = (pre ++ r).count y + if z = y then 1 else 0 := by rw [← hT, List.count_append]
  rw [hT']
  by_cases hz : z = x
  ·subst hz
   by_cases hxy : z = y
   ·subst hxy
    simp [Nat.add_mul]; omega
   ·simp [hxy, Nat.add_mul]; omega
  ·have : (z == x) = false := by simpa using hz
   simp [hz]
/-- On how many tables of an evening two guests sit together. -/
def pE (x y : Nat) : List (List Nat) → Nat
 | [] => 0
 | t :: ev => t.count x * t.count y + pE x y ev
def pS (x y : Nat) : List (List (List Nat)) → Nat
 | [] => 0
 | ev :: s => pE x y ev + pS x y s
theorem pE_comm (x y : Nat) : ∀ ev, pE x y ev = pE y x ev
 | [] => rfl
 | t :: ev => by simp only [pE, pE_comm x y ev, Nat.mul_comm]
theorem pS_comm (x y : Nat) : ∀ s, pS x y s = pS y x s
 | [] => rfl
 | ev :: s => by simp only [pS, pS_comm x y s, pE_comm x y ev]
theorem meetE_count (n x y : Nat) (hy : y < n) (hxy : x ≠ y) : ∀ (ev : List (List Nat)), (∀ t ∈ ev, ∀ z ∈ t, z < n) → (meetE n ev).count (x * n + y) = pE x y ev
 | [], _ => rfl
 | t :: ev, h => by
  have ih := meetE_count n x y hy hxy ev fun u hu => h u (by simp [hu])
  simp only [meetE, pE, List.count_append, ih]
  rw [meetT_count n x y hy t [] (by simpa using h t (by simp)), if_neg hxy]
  simp
theorem meetS_count (n x y : Nat) (hy : y < n) (hxy : x ≠ y) : ∀ (s : List (List (List Nat))), (∀ ev ∈ s, ∀ t ∈ ev, ∀ z ∈ t, z < n) → (meetS n s).count (x * n + y) = pS x y s
 | [], _ => rfl
 | ev :: s, h => by
  have ih := meetS_count n x y hy hxy s fun u hu => h u (by simp [hu])
  simp only [meetS, pS, List.count_append, ih, meetE_count n x y hy hxy ev (h ev (by simp))]
theorem cnt_le {x : Nat} {t : List Nat} {ev : List (List Nat)} (ht : t ∈ ev) (h : ev.flatten.count x ≤ 1) : t.count x ≤ 1 := by
 induction ev with
 | nil => cases ht
 | cons u ev ih =>
  rw [List.flatten_cons, List.count_append] at h
  rcases List.mem_cons.1 ht with rfl | ht
  ·omega
  ·exact ih ht (by omega)
theorem Evn.le1 {n : Nat} {sz : List Nat} {ev : List (List Nat)} (h : Evn n sz ev) {t : List Nat} (ht : t ∈ ev) (x : Nat) : t.count x ≤ 1 := by
 refine cnt_le ht ?_
 rw [h.cnt]; split <;> omega
theorem meetE_diag (n x : Nat) (hx : x < n) : ∀ (ev : List (List Nat)), (∀ t ∈ ev, t.count x ≤ 1) → (∀ t ∈ ev, ∀ z ∈ t, z < n) → (meetE n ev).count (x * n + x) = 0
 | [], _, _ => rfl
 | t :: ev, h1, h => by
  have ih := meetE_diag n x hx ev (fun u hu => h1 u (by simp [hu])) fun u hu => h u (by simp [hu])
  have hc := h1 t (by simp)
  simp only [meetE, List.count_append, ih]
  rw [meetT_count n x x hx t [] (by simpa using h t (by simp)), if_pos rfl]
  have : t.count x - 1 = 0 := by omega
  simp [this]
theorem rowsC_flat (n : Nat) (cs : List Int) (hcs : cs.length = n * n) : ∀ (k x : Nat), x + k = n → (rowsC n cs k x).flatten = cs.drop (x * n)
 | 0, x, h => by
  simp only [rowsC, List.flatten_nil]
  rw [show x = n by omega, List.drop_eq_nil_of_le (by omega)]
 | k + 1, x, h => by
  have e : (x + 1) * n = x * n + n := Nat.succ_mul x n
  simp only [rowsC, List.flatten_cons, rowsC_flat n cs hcs k (x + 1) (by omega)]
  rw [e, List.drop_take, Nat.add_sub_cancel_left, ← List.drop_drop, List.take_append_drop]
/- Together. -/
/- trestle/evening.Beside -/
/-- An evening with everybody once. -/
def EvV (n : Nat) (ev : List (List Nat)) : Prop := Evn n (ev.map List.length) ev
theorem cnt_len {L : List Nat} {n : Nat} (h : ∀ j, L.count j = if j < n then 1 else 0) : L.length = n := by
 have hp : L.Perm (List.range n) := List.perm_iff_count.2 fun j => by rw [h, List.count_range]
 rw [hp.length_eq]; simp
theorem EvV.flen {n : Nat} {ev : List (List Nat)} (h : EvV n ev) : ev.flatten.length = n := cnt_len h.cnt
theorem EvV.elen {n : Nat} {ev : List (List Nat)} (h : EvV n ev) : ev.length ≤ n := by
 have := len_flat h.ne
 rw [h.flen] at this
 exact this
theorem EvV.tlen {n : Nat} {ev : List (List Nat)} (h : EvV n ev) {t : List Nat} (ht : t ∈ ev) : t.length ≤ n := by
 have := len_mem ht
 rw [h.flen] at this
 exact this
section
variable {n : Nat} {s : List (List (List Nat))}
theorem evv_small (hn : n ≤ 64) (hs : s.length ≤ 70) (hv : ∀ ev ∈ s, EvV n ev) : Sml n s ∧ SmM n s := by
 have h3 : ∀ ev ∈ s, sqs ev ≤ 4096 := fun ev he => by
  have := sqs_le ev fun t ht => by have := (hv ev he).tlen ht; omega
  have := (hv ev he).flen
  omega
 have h4 := sqS_le s h3
 have h5 := flats_le s fun ev he => by have := (hv ev he).flen; omega
 exact ⟨⟨hn, fun ev he => (hv ev he).lt, fun ev he => ⟨by have := (hv ev he).flen; omega, by have := (hv ev he).elen; omega⟩, by omega, by omega⟩, ⟨hn, fun ev he => (hv ev he).lt, fun ev he => ⟨fun t ht => by have := (hv ev he).tlen ht; omega, by have := (hv ev he).elen; omega⟩, by omega, by omega⟩⟩
theorem vS_diag (x : Nat) (hx : x < n) : ∀ (s : List (List (List Nat))), (∀ ev ∈ s, EvV n ev) → (meetS n s).count (x * n + x) = 0
 | [], _ => rfl
 | ev :: s, h => by
  have ih := vS_diag x hx s fun u hu => h u (by simp [hu])
  have he := h ev (by simp)
  simp only [meetS, List.count_append, ih, meetE_diag n x hx ev (fun t ht => he.le1 ht x) he.lt]
theorem vS_sym (hv : ∀ ev ∈ s, EvV n ev) {x y : Nat} (hx : x < n) (hy : y < n) : (meetS n s).count (x * n + y) = (meetS n s).count (y * n + x) := by
 by_cases e : x = y
 ·rw [e]
 ·have mem : ∀ ev ∈ s, ∀ t ∈ ev, ∀ z ∈ t, z < n := fun ev he => (hv ev he).lt
  rw [meetS_count n x y hy e s mem, meetS_count n y x hx (Ne.symm e) s mem, pS_comm]
end
/- trestle/trestlekit.CopyInts -/
/- trestle/trestlekit.CopyLists -/
/- trestle/trestleref09.Copy -/
/- trestle/evening.Relabel -/
/- trestle/trestlelaw09.spoil -/
/- trestle/evening.Join -/
/- trestle/trestlelaw09.permutation -/
theorem clone_2 (ev : List (List Int)) (he : ev.length ≤ 50000) (hs : ∀ t ∈ ev, t.length ≤ 50000) : ∀ (r pre : List (List Int)) (f : Nat), ev = pre ++ r → r.length < f → evening_clone_d_2 ev f pre.length pre = some ev
 | [], pre, f + 1, h, _ => by
  subst h
  unfold evening_clone_d_2
  rw [nlt_len]
  simp
 | t :: r, pre, f + 1, h, hf => by
  have ht := hs t (by rw [h]; simp)
  have ih := clone_2 ev he hs r (pre ++ [t]) f (by rw [h]; simp) (by simp at hf; omega)
  subst h
  simp only [List.length_append, List.length_cons] at he
  unfold evening_clone_d_2
  rw [if_pos (lt_len pre t r), idx_app]
  simp only [Option.bind_some]
  rw [if_pos (capOk_le (by omega) (by omega)), if_pos (capOk_le (by omega) (by simp; omega)), wr_snoc pre t r (by simp; omega)]
  exact ih
theorem clone_1 (s : List (List (List Int))) (he : s.length ≤ 50000) (hs : ∀ ev ∈ s, ev.length ≤ 50000 ∧ ∀ t ∈ ev, t.length ≤ 50000) : ∀ (r pre : List (List (List Int))) (f : Nat), s = pre ++ r → r.length < f → evening_clone_d_1 s f pre.length pre = some s
 | [], pre, f + 1, h, _ => by
  subst h
  unfold evening_clone_d_1
  rw [nlt_len]
  simp
 | ev :: r, pre, f + 1, h, hf => by
  obtain ⟨h1, h2⟩ := hs ev (by rw [h]; simp)
  have ih := clone_1 s he hs r (pre ++ [ev]) f (by rw [h]; simp) (by simp at hf; omega)
  have h3 := clone_2 ev h1 h2 ev [] 100000 rfl (by omega)
  rw [show ((([] : List (List Int)).length : Nat) : Int) = 0 from rfl] at h3
  subst h
  simp only [List.length_append, List.length_cons] at he
  unfold evening_clone_d_1
  rw [if_pos (lt_len pre ev r), idx_app]
  simp only [Option.bind_some]
  rw [h3]
  simp only [Option.bind_some]
  rw [if_pos (capOk_le (by omega) (by simp; omega)), wr_snoc pre ev r (by simp; omega)]
  exact ih
theorem clone_eq (s : List (List (List Int))) (he : s.length ≤ 50000) (hs : ∀ ev ∈ s, ev.length ≤ 50000 ∧ ∀ t ∈ ev, t.length ≤ 50000) : evening_clone_d s = some s := by
 unfold evening_clone_d
 have := clone_1 s he hs s [] 100000 rfl (by omega)
 rw [show ((([] : List (List (List Int))).length : Nat) : Int) = 0 from rfl] at this
 rw [this]; rfl
/- Other names. -/
/- What is written over. -/
/- Permutations. -/
def rowM (n : Nat) (L : List Nat) (x : Nat) : Nat → Nat → List Int
 | 0, _ => []
 | k + 1, y => cX n L x y :: rowM n L x k (y + 1)
def matM (n : Nat) (L : List Nat) : Nat → Nat → List (List Int)
 | 0, _ => []
 | k + 1, x => rowM n L x n 0 :: matM n L k (x + 1)
theorem rowM_len (n : Nat) (L : List Nat) (x : Nat) : ∀ k y, (rowM n L x k y).length = k
 | 0, _ => rfl
 | k + 1, y => by simp [rowM, rowM_len n L x k (y + 1)]
theorem rowM_at (n : Nat) (L : List Nat) (x : Nat) : ∀ k y i, i < k → (rowM n L x k y)[i]? = some (cX n L x (y + i))
 | 0, _, i, h => by omega
 | k + 1, y, 0, _ => by simp [rowM]
 | k + 1, y, i + 1, h => by
  simp only [rowM, List.getElem?_cons_succ]
  rw [rowM_at n L x k (y + 1) i (by omega), show y + 1 + i = y + (i + 1) by omega]
theorem matM_len (n : Nat) (L : List Nat) : ∀ k x, (matM n L k x).length = k
 | 0, _ => rfl
 | k + 1, x => by simp [matM, matM_len n L k (x + 1)]
theorem matM_at (n : Nat) (L : List Nat) : ∀ k x i, i < k → (matM n L k x)[i]? = some (rowM n L (x + i) n 0)
 | 0, _, i, h => by omega
 | k + 1, x, 0, _ => by simp [matM]
 | k + 1, x, i + 1, h => by
  simp only [matM, List.getElem?_cons_succ]
  rw [matM_at n L k (x + 1) i (by omega), show x + 1 + i = x + (i + 1) by omega]
theorem rowsC_M (n : Nat) (L : List Nat) : ∀ k x, x + k = n → rowsC n (celM n L) k x = matM n L k x
 | 0, _, _ => rfl
 | k + 1, x, h => by
  simp only [rowsC, matM]
  rw [rowsC_M n L k (x + 1) (by omega)]
  congr 1
  apply List.ext_getElem?
  intro i
  have hx : x < n := by omega
  have hr := row_at (celM_len n L) hx hx
  by_cases hi : i < n
  ·rw [(row_at (celM_len n L) hx hi).2, rowM_at n L x n 0 i hi, Nat.zero_add]
   congr 1
   exact cnt_get L (n * n) (x * n + i) (cell_lt hx hi)
  ·rw [List.getElem?_eq_none (by rw [hr.1]; omega), List.getElem?_eq_none (by rw [rowM_len]; omega)]
theorem mat_at {n : Nat} {L : List Nat} {x y : Nat} (hx : x < n) (hy : y < n) : ∃ row, idx (matM n L n 0) (x : Int) = some row ∧ idx row (y : Int) = some (cX n L x y) := by
 refine ⟨rowM n L x n 0, ?_, ?_⟩
 ·unfold idx
  rw [if_pos (by omega), Int.toNat_natCast, matM_at n L n 0 x hx, Nat.zero_add]
 ·unfold idx
  rw [if_pos (by omega), Int.toNat_natCast, rowM_at n L x n 0 y hy, Nat.zero_add]
def szOf (codes : List Int) : List Nat := (codes.take 8).map fun c => 1 + (c % 6).toNat
theorem cut_0 {α : Type} (xs : List α) (k : Nat) (K : Int) (hK : K = (k : Int)) (h : xs.length ≤ 140737488355328) : cutOk 0 (mnI (xs.length : Int) K) xs.length = true ∧ (xs.take (mnI (xs.length : Int) K).toNat).drop (0 : Int).toNat = xs.take k := by
 subst hK
 have h1 : mnI (xs.length : Int) k = ((min xs.length k : Nat) : Int) := by unfold mnI; split <;> omega
 rw [h1]
 refine ⟨?_, ?_⟩
 ·simp only [cutOk, Bool.and_eq_true, decide_eq_true_eq]; omega
 ·rw [Int.toNat_natCast]
  show ((xs.take (min xs.length k)).drop 0) = _
  rw [List.drop_zero]
  by_cases hk : k ≤ xs.length
  ·rw [Nat.min_eq_right hk]
  ·rw [Nat.min_eq_left (by omega), List.take_of_length_le (Nat.le_refl _), List.take_of_length_le (by omega)]
theorem sizes_1 (x0 ys : List Int) (hy : (x0.take (mnI (x0.length : Int) 8).toNat).drop (0 : Int).toNat = ys) (hl : ys.length ≤ 8) (hc : ∀ c ∈ ys, 0 ≤ c ∧ c ≤ 255) : ∀ (r pre : List Int) (f : Nat) (out : List Nat) (m : Nat), ys = pre ++ r → r.length < f → out.length ≤ pre.length → m ≤ 6 * pre.length → law09_Sizes_1 x0 f (toI1 out) m pre.length = some (toI1 (out ++ r.map fun c => 1 + (c % 6).toNat), ((m + (r.map fun c => 1 + (c % 6).toNat).sum : Nat) : Int))
 | [], pre, f + 1, out, m, h, _, _, _ => by
  unfold law09_Sizes_1
  rw [hy, if_neg (by rw [h]; simp)]
  simp
 | c :: r, pre, f + 1, out, m, h, hf, ho, hm => by
  obtain ⟨c0, c1⟩ := hc c (by rw [h]; simp)
  have hp : pre.length < ys.length := by rw [h]; simp
  have e6 : c.tmod 6 = c % 6 := Int.tmod_eq_emod_of_nonneg c0
  have b1 := Int.emod_nonneg c (show (6 : Int) ≠ 0 by decide)
  have b2 := Int.emod_lt_of_pos c (show (0 : Int) < 6 by decide)
  have e : wr .i64 (1 + wr .i64 (c.tmod 6)) = ((1 + (c % 6).toNat : Nat) : Int) := by
   have q : wr .i64 (c % 6) = c % 6 := wr_i (by omega) (by omega)
   rw [e6, q, wr_i (by omega) (by omega)]; omega
  have ih := sizes_1 x0 ys hy hl hc r (pre ++ [c]) f (out ++ [1 + (c % 6).toNat]) (m + (1 + (c % 6).toNat)) (by rw [h]; simp) (by simp at hf; omega) (by simp; omega) (by simp; omega)
  unfold law09_Sizes_1
  rw [hy, if_pos (by rw [h]; simp; omega), show idx ys (pre.length : Int) = some c by rw [h]; exact idx_app pre c r]
  simp only [Option.bind_some]
  rw [if_pos (capOk_le (by omega) (by rw [toI1_len]; omega)), e, wr_nat (by omega), wr_i (n := (m : Int) + _) (by omega) (by omega)]
  have a1 : toI1 out ++ [((1 + (c % 6).toNat : Nat) : Int)] = toI1 (out ++ [1 + (c % 6).toNat]) := by simp [toI1]
  have a2 : (m : Int) + ((1 + (c % 6).toNat : Nat) : Int) = ((m + (1 + (c % 6).toNat) : Nat) : Int) := by push_cast; rfl
  have a3 : ((pre.length + 1 : Nat) : Int) = ((pre ++ [c]).length : Int) := by simp
  rw [a1, a2, a3, ih]
  simp only [List.map_cons, List.sum_cons, List.append_assoc, List.cons_append, List.nil_append]
  rw [Nat.add_assoc]
structure SzOk (sz : List Nat) (n : Nat) : Prop where
 sum : sz.sum = n
 pos : ∀ k ∈ sz, 1 ≤ k
 len : sz.length ≤ 8
 n1 : 1 ≤ n
 n48 : n ≤ 48
theorem sizes_eq (codes : List Int) (hl : codes.length ≤ 140737488355328) (hc : ∀ c ∈ codes, 0 ≤ c ∧ c ≤ 255) : ∃ sz n, law09_Sizes codes = some (toI1 sz, ((n : Nat) : Int)) ∧ SzOk sz n := by
 obtain ⟨k1, k2⟩ := cut_0 codes 8 8 rfl hl
 have hc' : ∀ c ∈ codes.take 8, 0 ≤ c ∧ c ≤ 255 := fun c h => hc c (List.mem_of_mem_take h)
 have hl8 : (codes.take 8).length ≤ 8 := by simp; omega
 have h1 := sizes_1 codes (codes.take 8) k2 hl8 hc' (codes.take 8) [] 100000 [] 0 rfl (by omega) (by simp) (by simp)
 have hpos : ∀ k ∈ szOf codes, 1 ≤ k ∧ k ≤ 6 := fun k hk => by
  obtain ⟨c, hc1, rfl⟩ := List.mem_map.1 hk
  obtain ⟨c0, _⟩ := hc' c hc1
  have b1 := Int.emod_nonneg c (show (6 : Int) ≠ 0 by decide)
  have b2 := Int.emod_lt_of_pos c (show (0 : Int) < 6 by decide)
  omega
 have hsum : ∀ l : List Nat, (∀ k ∈ l, 1 ≤ k ∧ k ≤ 6) → l.sum ≤ 6 * l.length ∧ l.length ≤ l.sum := fun l => by
  induction l with
  | nil => intro _; simp
  | cons k l ih =>
   intro h
   have := ih fun j hj => h j (by simp [hj])
   have := h k (by simp)
   simp only [List.sum_cons, List.length_cons]; omega
 obtain ⟨s1, s2⟩ := hsum _ hpos
 have hlen : (szOf codes).length ≤ 8 := by unfold szOf; rw [List.length_map]; exact hl8
 rw [show toI1 [] = [] from rfl, show ((0 : Nat) : Int) = 0 from rfl, show ((([] : List Int).length : Nat) : Int) = 0 from rfl, List.nil_append, Nat.zero_add] at h1
 unfold law09_Sizes
 rw [if_pos k1, h1]
 simp only [Option.bind_some]
 by_cases h0 : (szOf codes).sum = 0
 ·refine ⟨[1], 1, ?_, ⟨rfl, by simp, by simp, by omega, by omega⟩⟩
  have : ((((codes.take 8).map fun c => 1 + (c % 6).toNat).sum : Nat) : Int) = 0 := by
   show (((szOf codes).sum : Nat) : Int) = 0
   rw [h0]; rfl
  rw [this]
  rfl
 ·refine ⟨szOf codes, (szOf codes).sum, ?_, ⟨rfl, fun k hk => (hpos k hk).1, hlen, by omega, by omega⟩⟩
  have : ((((codes.take 8).map fun c => 1 + (c % 6).toNat).sum : Nat) : Int) = (((szOf codes).sum : Nat) : Int) := rfl
  rw [this, if_neg (by simpa using h0)]
  rfl
theorem made_1 (x1 : List (List (Int × Int))) (v1 : List Int × Int) (n : Nat) (hv : v1.2 = (n : Int)) (hn : n ≤ 64) : ∀ (k i f : Nat) (c : List Int), i + k = n → k < f → c.length = n → (∀ j, j < i → c[j]? = some (j : Int)) → law09_Made_1 x1 v1 f c i = some (toI1 (List.range n))
 | 0, i, f + 1, c, h, _, hl, hc => by
  unfold law09_Made_1
  rw [if_neg (by rw [hv]; simp; omega)]
  congr 1
  apply List.ext_getElem?
  intro j
  by_cases hj : j < n
  ·rw [hc j (by omega)]
   simp [toI1, hj]
  ·rw [List.getElem?_eq_none (by omega), List.getElem?_eq_none (by simp [toI1]; omega)]
 | k + 1, i, f + 1, c, h, hf, hl, hc => by
  have ih := made_1 x1 v1 n hv hn k (i + 1) f (c.set i (i : Int)) (by omega) (by omega) (by simpa using hl) (fun j hj => by
   by_cases e : i = j
   ·subst e; rw [List.getElem?_set_self (by omega)]
   ·rw [List.getElem?_set_ne e]; exact hc j (by omega))
  unfold law09_Made_1
  rw [if_pos (by rw [hv]; simp; omega), idx_lt (show i < c.length by omega)]
  simp only [Option.bind_some]
  rw [wr_nat (by omega), Int.toNat_natCast, ih]
/-- Orders of n guests. -/
structure Ord (n : Nat) (o : List Nat) : Prop where
 len : o.length = n
 perm : o.Perm (List.range n)
theorem made_3 (x1 : List (List (Int × Int))) (v1 : List Int × Int) (c12 : Int) (n : Nat) (hv : v1.2 = (n : Int)) (hn1 : 1 ≤ n) (v14 ys : List (Int × Int)) (hy : (v14.take (mnI (v14.length : Int) 20).toNat).drop (0 : Int).toNat = ys) (hyl : ys.length ≤ 20) (hc : ∀ p ∈ ys, (0 ≤ p.1 ∧ p.1 ≤ 255) ∧ 0 ≤ p.2 ∧ p.2 ≤ 255) (c17 : List (List (List Int))) : ∀ (r pre : List (Int × Int)) (f : Nat) (o : List Nat), ys = pre ++ r → r.length < f → Ord n o → ∃ o', law09_Made_3 x1 v1 c12 v14 f (toI1 o) c17 pre.length = some (toI1 o', c17) ∧ Ord n o'
 | [], pre, f + 1, o, h, _, ho => by
  refine ⟨o, ?_, ho⟩
  unfold law09_Made_3
  rw [hy, if_neg (by rw [h]; simp)]
 | p :: r, pre, f + 1, o, h, hf, ho => by
  obtain ⟨⟨p1, p2⟩, p3, p4⟩ := hc p (by rw [h]; simp)
  have hp : pre.length < ys.length := by rw [h]; simp
  have hn0 : ¬ v1.2 = 0 := by omega
  have ix : ∀ x : Int, 0 ≤ x → x ≤ 255 → ∃ a : Nat, a < n ∧ (wr .i64 x).tmod v1.2 = (a : Int) := fun x h0 h1 => by
   rw [wr_i (by omega) (by omega), hv, Int.tmod_eq_emod_of_nonneg h0]
   have b1 := Int.emod_nonneg x (show (n : Int) ≠ 0 by omega)
   have b2 := Int.emod_lt_of_pos x (show (0 : Int) < n by omega)
   exact ⟨(x % (n : Int)).toNat, by omega, by omega⟩
  obtain ⟨a, ha, ea⟩ := ix p.1 p1 p2
  obtain ⟨b, hb, eb⟩ := ix p.2 p3 p4
  have hla : a < o.length := by rw [ho.len]; exact ha
  have hlb : b < o.length := by rw [ho.len]; exact hb
  have hI : ∀ (l : List Nat) (j : Nat) (hj : j < l.length), idx (toI1 l) (j : Int) = some ((l[j] : Nat) : Int) := fun l j hj => by
   have hj' : j < (toI1 l).length := by rw [toI1_len]; exact hj
   rw [idx_lt hj']
   simp [toI1]
  have hS : ∀ (l : List Nat) (j v : Nat), (toI1 l).set j (v : Int) = toI1 (l.set j v) := fun l j v => by
   simp [toI1, List.map_set]
  have ho' : Ord n ((o.set a o[b]).set b o[a]) := ⟨by simp [ho.len], (List.set_set_perm hla hlb).trans ho.perm⟩
  obtain ⟨o', e1, e2⟩ := made_3 x1 v1 c12 n hv hn1 v14 ys hy hyl hc c17 r (pre ++ [p]) f _ (by rw [h]; simp) (by simp at hf; omega) ho'
  refine ⟨o', ?_, e2⟩
  unfold law09_Made_3
  rw [hy, if_pos (by rw [h]; simp; omega), show idx ys (pre.length : Int) = some p by rw [h]; exact idx_app pre p r]
  simp only [Option.bind_some]
  rw [if_neg hn0, if_neg hn0, ea, eb, hI o b hlb, hI o a hla]
  simp only [Option.bind_some]
  rw [Int.toNat_natCast, hS]
  have hlb' : b < (o.set a o[b]).length := by simpa using hlb
  rw [hI _ b hlb']
  simp only [Option.bind_some]
  rw [Int.toNat_natCast, hS, wr_nat (by omega)]
  have a3 : ((pre.length + 1 : Nat) : Int) = ((pre ++ [p]).length : Int) := by simp
  rw [a3]
  exact e1
/-- The tables of an order, of these sizes. -/
def cutT (o : List Nat) : List Nat → Nat → List (List Nat)
 | [], _ => []
 | k :: sz, i => ((o.take (i + k)).drop i) :: cutT o sz (i + k)
theorem made_4 (x1 : List (List (Int × Int))) (v1 : List Int × Int) (c12 : Int) (r29 : List Int × List (List (List Int))) (o : List Nat) (hr : r29.1 = toI1 o) (sz : List Nat) (hv : v1.1 = toI1 sz) (hsz : ∀ k ∈ sz, 1 ≤ k) (hsl : sz.length ≤ 8) (hol : o.length ≤ 48) : ∀ (r pre : List Nat) (f i : Nat) (out : List (List Nat)), sz = pre ++ r → r.length < f → i + r.sum = o.length → out.length ≤ pre.length → law09_Made_4 x1 v1 c12 r29 f (toI2 out) i pre.length = some (toI2 (out ++ cutT o r i))
 | [], pre, f + 1, i, out, h, _, _, _ => by
  unfold law09_Made_4
  rw [hv, if_neg (by rw [toI1_len, h]; simp)]
  simp [cutT]
 | k :: r, pre, f + 1, i, out, h, hf, hs, ho => by
  have hk := hsz k (by rw [h]; simp)
  have hp : pre.length < sz.length := by rw [h]; simp
  rw [List.sum_cons] at hs
  have ih := made_4 x1 v1 c12 r29 o hr sz hv hsz hsl hol r (pre ++ [k]) f (i + k) (out ++ [(o.take (i + k)).drop i]) (by rw [h]; simp) (by simp at hf; omega) (by omega) (by simp; omega)
  have e1 : wr .i64 ((i : Int) + (k : Int)) = ((i + k : Nat) : Int) := by rw [wr_i (by omega) (by omega)]; simp
  have hpk : Go.Proofs.YtcmgmkepodbpkaaDoor.partOk (i : Int) ((i + k : Nat) : Int) (toI1 o).length = true := by
   simp only [partOk, cutOk, Bool.and_eq_true, decide_eq_true_eq, toI1_len]; omega
  have ht : ((toI1 o).take (i + k)).drop i = toI1 ((o.take (i + k)).drop i) := by simp [toI1, List.map_take, List.map_drop]
  unfold law09_Made_4
  rw [hv, if_pos (by rw [toI1_len, h]; simp; omega), show idx (toI1 sz) (pre.length : Int) = some (k : Int) by rw [h]; exact idx_toI1 pre k r]
  simp only [Option.bind_some]
  rw [e1, hr, if_pos hpk, Int.toNat_natCast, Int.toNat_natCast, ht, if_pos (capOk_le (by omega) (by rw [toI1_len, List.length_drop, List.length_take]; omega)), if_pos (capOk_le (by omega) (by rw [toI2_len]; omega)), wr_nat (by omega)]
  have a1 : toI2 out ++ [toI1 ((o.take (i + k)).drop i)] = toI2 (out ++ [(o.take (i + k)).drop i]) := by simp [toI2]
  have a3 : ((pre.length + 1 : Nat) : Int) = ((pre ++ [k]).length : Int) := by simp
  rw [a1, a3, ih]
  simp [cutT]
theorem cutT_evn {o : List Nat} : ∀ (sz : List Nat) (i : Nat), i + sz.sum = o.length → (∀ k ∈ sz, 1 ≤ k) → (cutT o sz i).map List.length = sz ∧ (∀ t ∈ cutT o sz i, t.length ≠ 0) ∧ (cutT o sz i).flatten = o.drop i
 | [], i, h, _ => by
  refine ⟨rfl, fun t ht => by simp [cutT] at ht, ?_⟩
  simp at h
  simp [cutT, h]
 | k :: sz, i, h, hp => by
  rw [List.sum_cons] at h
  obtain ⟨a, b, c⟩ := cutT_evn (o := o) sz (i + k) (by omega) fun j hj => hp j (by simp [hj])
  have hk := hp k (by simp)
  have hl : ((o.take (i + k)).drop i).length = k := by rw [List.length_drop, List.length_take]; omega
  refine ⟨by simp only [cutT, List.map_cons, a, hl], fun t ht => ?_, ?_⟩
  ·simp only [cutT] at ht
   rcases List.mem_cons.1 ht with rfl | ht
   ·rw [hl]; omega
   ·exact b t ht
  ·simp only [cutT, List.flatten_cons, c]
   rw [List.drop_take, Nat.add_sub_cancel_left, ← List.drop_drop, List.take_append_drop]
theorem made_2 (x1 : List (List (Int × Int))) (hx1 : ∀ l ∈ x1, l.length ≤ 140737488355328 ∧ ∀ p ∈ l, (0 ≤ p.1 ∧ p.1 ≤ 255) ∧ 0 ≤ p.2 ∧ p.2 ≤ 255) (v1 : List Int × Int) (n : Nat) (sz : List Nat) (hv : v1 = (toI1 sz, (n : Int))) (hs : SzOk sz n) (ys : List (List (Int × Int))) (hy : (x1.take (mnI (x1.length : Int) 10).toNat).drop (0 : Int).toNat = ys) (hyl : ys.length ≤ 10) (hym : ∀ l ∈ ys, l ∈ x1) : ∀ (r pre : List (List (Int × Int))) (f : Nat) (o : List Nat) (out : List (List (List Nat))), ys = pre ++ r → r.length < f → Ord n o → out.length = pre.length → (∀ ev ∈ out, Evn n sz ev) → ∃ out', law09_Made_2 x1 v1 f (toI1 o) (toI3 out) pre.length = some (toI3 out') ∧ (∀ ev ∈ out', Evn n sz ev) ∧ out'.length = ys.length
 | [], pre, f + 1, o, out, h, _, _, hl, hev => by
  refine ⟨out, ?_, hev, by rw [hl, h]; simp⟩
  unfold law09_Made_2
  rw [hy, if_neg (by rw [h]; simp)]
 | l :: r, pre, f + 1, o, out, h, hf, ho, hl, hev => by
  obtain ⟨l1, l2⟩ := hx1 l (hym l (by rw [h]; simp))
  have hp : pre.length < ys.length := by rw [h]; simp
  obtain ⟨k1, k2⟩ := cut_0 l 20 20 rfl l1
  have hn1 := hs.n1
  have hn48 := hs.n48
  have hs8 := hs.len
  obtain ⟨o', e1, e2⟩ := made_3 x1 v1 pre.length n (by rw [hv]) hs.n1 l (l.take 20) k2 (by simp; omega) (fun p hp => l2 p (List.mem_of_mem_take hp)) (toI3 out) (l.take 20) [] 100000 o rfl (by simp; omega) ho
  rw [show ((([] : List (Int × Int)).length : Nat) : Int) = 0 from rfl] at e1
  have h4 := made_4 x1 v1 pre.length (toI1 o', toI3 out) o' rfl sz (by rw [hv]) hs.pos hs8 (by rw [e2.len]; exact hn48) sz [] 100000 0 [] rfl (by omega) (by rw [e2.len, hs.sum]; omega) (by simp)
  rw [show toI2 [] = [] from rfl, show ((0 : Nat) : Int) = 0 from rfl, show ((([] : List Nat).length : Nat) : Int) = 0 from rfl, List.nil_append] at h4
  obtain ⟨c1, c2, c3⟩ := cutT_evn (o := o') sz 0 (by rw [e2.len, hs.sum]; omega) hs.pos
  have hevn : Evn n sz (cutT o' sz 0) := ⟨c1, c2, fun j => by
   rw [c3, List.drop_zero, e2.perm.count_eq, List.count_range]⟩
  obtain ⟨out', g1, g2, g3⟩ := made_2 x1 hx1 v1 n sz hv hs ys hy hyl hym r (pre ++ [l]) f o' (out ++ [cutT o' sz 0]) (by rw [h]; simp) (by simp at hf; omega) e2 (by simp [hl]) (fun ev he => by
   rcases List.mem_append.1 he with he | he
   ·exact hev ev he
   ·rw [List.mem_singleton.1 he]; exact hevn)
  refine ⟨out', ?_, g2, g3⟩
  unfold law09_Made_2
  rw [hy, if_pos (by rw [h]; simp; omega), show idx ys (pre.length : Int) = some l by rw [h]; exact idx_app pre l r]
  simp only [Option.bind_some]
  rw [if_pos k1, e1]
  simp only [Option.bind_some]
  rw [h4]
  simp only [Option.bind_some]
  rw [if_pos (capOk_le (by omega) (by rw [toI3_len]; omega)), wr_nat (by omega)]
  have a1 : toI3 out ++ [toI2 (cutT o' sz 0)] = toI3 (out ++ [cutT o' sz 0]) := by simp [toI3]
  have a3 : ((pre.length + 1 : Nat) : Int) = ((pre ++ [l]).length : Int) := by simp
  rw [a1, a3]
  exact g1
/-- What Made returns. -/
structure MadeOk (s : List (List (List Nat))) (sz : List Nat) (n : Nat) : Prop where
 sz_ : SzOk sz n
 ev : ∀ ev ∈ s, Evn n sz ev
 len : s.length ≤ 10
theorem made_eq (codes : List Int) (hl : codes.length ≤ 140737488355328) (hc : ∀ c ∈ codes, 0 ≤ c ∧ c ≤ 255) (swaps : List (List (Int × Int))) (hsl : swaps.length ≤ 140737488355328) (hx1 : ∀ l ∈ swaps, l.length ≤ 140737488355328 ∧ ∀ p ∈ l, (0 ≤ p.1 ∧ p.1 ≤ 255) ∧ 0 ≤ p.2 ∧ p.2 ≤ 255) : ∃ s sz n, law09_Made codes swaps = some (toI3 s, toI1 sz, ((n : Nat) : Int)) ∧ MadeOk s sz n := by
 obtain ⟨sz, n, h1, hs⟩ := sizes_eq codes hl hc
 obtain ⟨k1, k2⟩ := cut_0 swaps 10 10 rfl hsl
 have hn1 := hs.n1
 have hn48 := hs.n48
 have m1 := made_1 swaps (toI1 sz, (n : Int)) n rfl (by omega) n 0 100000 (List.replicate n 0) (by omega) (by omega) (by simp) (fun j hj => by omega)
 rw [show ((0 : Nat) : Int) = 0 from rfl] at m1
 obtain ⟨s, g1, g2, g3⟩ := made_2 swaps hx1 (toI1 sz, (n : Int)) n sz rfl hs (swaps.take 10) k2 (by simp; omega) (fun l hl => List.mem_of_mem_take hl) (swaps.take 10) [] 100000 (List.range n) [] rfl (by simp; omega) ⟨by simp, List.Perm.refl _⟩ rfl (fun ev he => by cases he)
 rw [show toI3 [] = [] from rfl, show ((([] : List (List (Int × Int))).length : Nat) : Int) = 0 from rfl] at g1
 refine ⟨s, sz, n, ?_, hs, g2, by rw [g3]; simp; omega⟩
 have hmk : mkOk 8 (n : Int) = true := by
  simp only [mkOk, Bool.and_eq_true, decide_eq_true_eq]; omega
 unfold law09_Made
 rw [h1]
 simp only [Option.bind_some]
 rw [if_pos hmk, Int.toNat_natCast, m1]
 simp only [Option.bind_some]
 rw [if_pos k1, g1]
 rfl
def pi_ (P : List Nat) (x : Nat) : Nat := P.getD x 0
section
variable {n : Nat} {P : List Nat}
theorem pi_map (h : Ord n P) : (List.range n).map (pi_ P) = P := by
 refine List.ext_getElem (by simp [h.len]) fun i h1 h2 => ?_
 rw [List.getElem_map, List.getElem_range]
 unfold pi_
 rw [List.getD_eq_getElem?_getD, List.getElem?_eq_getElem h2]
 rfl
theorem pi_lt (h : Ord n P) {x : Nat} (hx : x < n) : pi_ P x < n := by
 have : pi_ P x ∈ P := by
  unfold pi_
  rw [List.getD_eq_getElem?_getD, List.getElem?_eq_getElem (by rw [h.len]; exact hx)]
  exact List.getElem_mem _
 exact List.mem_range.1 (h.perm.mem_iff.1 this)
theorem pi_inj (h : Ord n P) {x y : Nat} (hx : x < n) (hy : y < n) (e : pi_ P x = pi_ P y) : x = y := by
 have hd : P.Nodup := h.perm.nodup_iff.2 List.nodup_range
 unfold pi_ at e
 have hx' : x < P.length := by rw [h.len]; exact hx
 have hy' : y < P.length := by rw [h.len]; exact hy
 rw [List.getD_eq_getElem?_getD, List.getD_eq_getElem?_getD, List.getElem?_eq_getElem hx', List.getElem?_eq_getElem hy'] at e
 exact (List.getElem_inj hd).1 e
theorem evn_nm (h : Ord n P) {sz : List Nat} {ev : List (List Nat)} (he : Evn n sz ev) : Evn n sz (ev.map fun t => t.map (pi_ P)) := by
 refine ⟨?_, fun t ht => ?_, fun j => ?_⟩
 ·rw [← he.sz_, List.map_map]
  exact List.map_congr_left fun t _ => by simp
 ·obtain ⟨u, hu, rfl⟩ := List.mem_map.1 ht
  rw [List.length_map]; exact he.ne u hu
 ·have hp : ev.flatten.Perm (List.range n) := List.perm_iff_count.2 fun j => by rw [he.cnt, List.count_range]
  have e : (ev.map fun t => t.map (pi_ P)).flatten = ev.flatten.map (pi_ P) := (List.map_flatten).symm
  have hq : (ev.flatten.map (pi_ P)).Perm (List.range n) := by
   have := hp.map (pi_ P)
   rw [pi_map h] at this
   exact this.trans h.perm
  rw [e, hq.count_eq, List.count_range]
/- Cells. -/
def sg (n : Nat) (P : List Nat) (c : Nat) : Nat := pi_ P (c / n) * n + pi_ P (c % n)
theorem sg_at (P : List Nat) {x y : Nat} (hy : y < n) : sg n P (x * n + y) = pi_ P x * n + pi_ P y := by
 unfold sg
 rw [show (x * n + y) / n = x by
  rw [Nat.mul_comm, Nat.mul_add_div (by omega), Nat.div_eq_of_lt hy, Nat.add_zero], show (x * n + y) % n = y by
  rw [Nat.mul_comm, Nat.mul_add_mod, Nat.mod_eq_of_lt hy]]
theorem sg_lt (h : Ord n P) {c : Nat} (hc : c < n * n) : sg n P c < n * n := by
 have hn : 0 < n := by
  rcases Nat.eq_zero_or_pos n with e | e
  ·subst e; simp at hc
  ·exact e
 exact cell_lt (pi_lt h (Nat.div_lt_of_lt_mul hc)) (pi_lt h (Nat.mod_lt _ hn))
theorem sg_inj (h : Ord n P) {c d : Nat} (hc : c < n * n) (hd : d < n * n) (e : sg n P c = sg n P d) : c = d := by
 have hn : 0 < n := by
  rcases Nat.eq_zero_or_pos n with e | e
  ·subst e; simp at hc
  ·exact e
 obtain ⟨e1, e2⟩ := cell_eq (pi_lt h (Nat.mod_lt _ hn)) (pi_lt h (Nat.mod_lt _ hn)) e
 have e1 := pi_inj h (Nat.div_lt_of_lt_mul hc) (Nat.div_lt_of_lt_mul hd) e1
 have e2 := pi_inj h (Nat.mod_lt _ hn) (Nat.mod_lt _ hn) e2
 rw [← Nat.div_add_mod c n, ← Nat.div_add_mod d n, e1, e2]
theorem meetT_nm (P : List Nat) : ∀ (r pre : List Nat), (∀ z ∈ pre ++ r, z < n) → meetT n (pre.map (pi_ P)) (r.map (pi_ P)) = (meetT n pre r).map (sg n P) ∧ ∀ c ∈ meetT n pre r, c < n * n
 | [], _, _ => ⟨rfl, fun _ h => by cases h⟩
 | x :: r, pre, h => by
  have hx : x < n := h x (by simp)
  obtain ⟨i1, i2⟩ := meetT_nm P r (pre ++ [x]) (fun z hz => h z (by simpa using hz))
  have hm : ∀ y ∈ pre ++ r, y < n := fun y hy => h y (by
   rcases List.mem_append.1 hy with q | q
   ·simp [q]
   ·simp [q])
  refine ⟨?_, fun c hc => ?_⟩
  ·rw [List.map_append] at i1
   simp only [List.map_cons, meetT, List.map_append, List.map_map, List.map_nil] at i1 ⊢
   rw [i1, ← List.map_append, ← List.map_append]
   congr 1
   refine List.map_congr_left fun y hy => ?_
   exact (sg_at P (hm y hy)).symm
  ·simp only [meetT, List.mem_append, List.mem_map] at hc
   rcases hc with ⟨y, hy, rfl⟩ | hc
   ·exact cell_lt hx (hm y (List.mem_append.2 hy))
   ·exact i2 c hc
theorem meetE_nm (P : List Nat) : ∀ (ev : List (List Nat)), (∀ t ∈ ev, ∀ z ∈ t, z < n) → meetE n (ev.map fun t => t.map (pi_ P)) = (meetE n ev).map (sg n P) ∧ ∀ c ∈ meetE n ev, c < n * n
 | [], _ => ⟨rfl, fun _ h => by cases h⟩
 | t :: ev, h => by
  obtain ⟨i1, i2⟩ := meetE_nm P ev fun u hu => h u (by simp [hu])
  obtain ⟨j1, j2⟩ := meetT_nm P t [] (fun z hz => h t (by simp) z (by simpa using hz))
  refine ⟨?_, fun c hc => ?_⟩
  ·simp only [List.map_cons, meetE, List.map_append]
   rw [i1, ← j1]; rfl
  ·simp only [meetE, List.mem_append] at hc
   exact hc.elim (j2 c) (i2 c)
theorem meetS_app (n : Nat) : ∀ (a b : List (List (List Nat))), meetS n (a ++ b) = meetS n a ++ meetS n b
 | [], _ => rfl
 | ev :: a, b => by simp only [List.cons_append, meetS, meetS_app n a b, List.append_assoc]
theorem count_inj (f : Nat → Nat) (c : Nat) : ∀ (L : List Nat), (∀ d ∈ L, f d = f c → d = c) → (L.map f).count (f c) = L.count c
 | [], _ => rfl
 | d :: L, h => by
  have ih := count_inj f c L fun e he => h e (by simp [he])
  rw [List.map_cons, List.count_cons, List.count_cons, ih]
  by_cases e : d = c
  ·subst e; simp
  ·have : f d ≠ f c := fun q => e (h d (by simp) q)
   simp [e, this]
theorem cel_map (n : Nat) (L : List Nat) : celM n L = (List.range (n * n)).map fun j => ((L.count j : Nat) : Int) := by
 refine List.ext_getElem (by rw [celM_len]; simp) fun i h1 h2 => ?_
 have hi : i < n * n := by rw [celM_len] at h1; exact h1
 have := cnt_get L (n * n) i hi
 rw [List.getD_eq_getElem?_getD, show incs (zeros (n * n)) L = celM n L from rfl, List.getElem?_eq_getElem h1] at this
 rw [List.getElem_map, List.getElem_range]
 exact this
theorem sqSum_perm {a b : List Int} (h : a.Perm b) : sqSum a = sqSum b := by
 induction h with
 | nil => rfl
 | cons v _ ih => simp only [sqSum, ih]
 | swap v w r => simp only [sqSum]; omega
 | trans _ _ i1 i2 => rw [i1, i2]
theorem perm_of_subN : ∀ (l p : List Nat), l.Nodup → (∀ x ∈ l, x ∈ p) → p.length ≤ l.length → p.Perm l
 | [], p, _, _, h => by
  have : p = [] := by cases p with
   | nil => rfl
   | cons => simp at h
  subst this; exact .nil
 | x :: l, p, hd, hs, h => by
  have hx := hs x (by simp)
  have h1 := List.perm_cons_erase hx
  have hd2 := List.nodup_cons.1 hd
  refine h1.trans (List.Perm.cons x (perm_of_subN l (p.erase x) hd2.2 (fun y hy => ?_) ?_))
  ·have hne : y ≠ x := fun e => hd2.1 (e ▸ hy)
   exact (List.mem_erase_of_ne hne).2 (hs y (by simp [hy]))
  ·rw [List.length_erase_of_mem hx]; simp at h; omega
theorem sq_nm (h : Ord n P) {L : List Nat} (hL : ∀ c ∈ L, c < n * n) : sqSum (celM n (L.map (sg n P))) = sqSum (celM n L) := by
 have hp : (List.range (n * n)).Perm ((List.range (n * n)).map (sg n P)) := perm_of_subN _ _ (List.pairwise_map.2 (List.Pairwise.imp_of_mem (fun {a b} ha hb hne e => hne (sg_inj h (List.mem_range.1 ha) (List.mem_range.1 hb) e)) List.nodup_range)) (fun x hx => by
  obtain ⟨c, hc, rfl⟩ := List.mem_map.1 hx
  exact List.mem_range.2 (sg_lt h (List.mem_range.1 hc))) (by simp)
 rw [cel_map, cel_map]
 refine (sqSum_perm (hp.map fun j => (((L.map (sg n P)).count j : Nat) : Int))).trans ?_
 rw [List.map_map]
 congr 1
 refine List.map_congr_left fun c hc => ?_
 show (((L.map (sg n P)).count (sg n P c) : Nat) : Int) = _
 rw [count_inj (sg n P) c L fun d hd e => sg_inj h (hL d hd) (List.mem_range.1 hc) e]
end
/-- A sum over a list. -/
def sU {α : Type} (u : α → Int) : List α → Int
 | [] => 0
 | c :: L => u c + sU u L
section
variable {α β : Type}
theorem sU_app (u : α → Int) : ∀ (a b : List α), sU u (a ++ b) = sU u a + sU u b
 | [], b => by simp [sU]
 | c :: a, b => by simp only [List.cons_append, sU, sU_app u a b]; omega
theorem sU_map (u : β → Int) (f : α → β) : ∀ (a : List α), sU u (a.map f) = sU (fun c => u (f c)) a
 | [] => rfl
 | c :: a => by simp only [List.map_cons, sU, sU_map u f a]
theorem sU_congr {u v : α → Int} : ∀ {a : List α}, (∀ c ∈ a, u c = v c) → sU u a = sU v a
 | [], _ => rfl
 | c :: a, h => by simp only [sU]; rw [h c (by simp), sU_congr fun d hd => h d (by simp [hd])]
theorem sU_add (u v : α → Int) : ∀ (a : List α), sU (fun c => u c + v c) a = sU u a + sU v a
 | [] => rfl
 | c :: a => by simp only [sU, sU_add u v a]; omega
theorem sU_sub (u v : α → Int) : ∀ (a : List α), sU (fun c => u c - v c) a = sU u a - sU v a
 | [] => rfl
 | c :: a => by simp only [sU, sU_sub u v a]; omega
theorem sU_zero : ∀ (a : List α), sU (fun _ => 0) a = 0
 | [] => rfl
 | _ :: a => by simp only [sU, sU_zero a]; rfl
theorem sU_mul (k : Int) (u : α → Int) : ∀ (a : List α), sU (fun c => k * u c) a = k * sU u a
 | [] => by simp [sU]
 | c :: a => by simp only [sU, sU_mul k u a, Int.mul_add]
theorem sU_perm {u : α → Int} {a b : List α} (h : a.Perm b) : sU u a = sU u b := by
 induction h with
 | nil => rfl
 | cons x _ ih => simp only [sU, ih]
 | swap x y l => simp only [sU]; omega
 | trans _ _ i j => exact i.trans j
/-- One element alone counts. -/
theorem sU_one {u : α → Int} : ∀ {a : List α} {i : Nat} {t : α}, a[i]? = some t → (∀ j s, a[j]? = some s → j ≠ i → u s = 0) → sU u a = u t
 | c :: a, 0, t, h, k => by
  simp at h; subst h
  simp only [sU]
  have : sU u a = 0 := by
   have e : sU u a = sU (fun _ => (0 : Int)) a := sU_congr fun s hs => by
    obtain ⟨j, hj⟩ := List.mem_iff_getElem?.1 hs
    exact k (j + 1) s (by simpa using hj) (by omega)
   rw [e, sU_zero]
  omega
 | c :: a, i + 1, t, h, k => by
  simp only [sU]
  rw [sU_one (a := a) (i := i) (by simpa using h) fun j s hs hj => k (j + 1) s (by simpa using hs) (by omega), k 0 c rfl (by omega)]
  omega
 | [], i, t, h, _ => by simp at h
end
/-- Two change places. -/
def sx (x y z : Nat) : Nat := if z = x then y else if z = y then x else z
theorem sx_comm (x y z : Nat) : sx x y z = sx y x z := by
 unfold sx
 by_cases h1 : z = x <;> by_cases h2 : z = y
 ·subst h1 h2; rfl
 ·subst h1; simp [h2]
 ·subst h2; simp [h1]
 ·simp [h1, h2]
theorem sx_self (x y z : Nat) : sx x y (sx x y z) = z := by
 unfold sx
 by_cases h1 : z = x
 ·subst h1
  by_cases h : y = z
  ·subst h; simp
  ·simp [h]
 ·by_cases h2 : z = y
  ·subst h2; simp [h1]
  ·simp [h1, h2]
theorem sx_lt {n x y z : Nat} (hx : x < n) (hy : y < n) (hz : z < n) : sx x y z < n := by
 unfold sx
 split
 ·exact hy
 ·split
  ·exact hx
  ·exact hz
/-- .. as a list of names. -/
def sxP (n x y : Nat) : List Nat := (List.range n).map (sx x y)
theorem sxP_at {n x y z : Nat} (hz : z < n) : pi_ (sxP n x y) z = sx x y z := by
 unfold pi_ sxP
 rw [List.getD_eq_getElem?_getD, List.getElem?_map, List.getElem?_range hz]; rfl
theorem sxP_ord {n x y : Nat} (hx : x < n) (hy : y < n) : Ord n (sxP n x y) := by
 have hp : (sxP n x y).Perm (List.range n) := perm_of_subN _ _ List.nodup_range (fun z hz => List.mem_map.2 ⟨sx x y z, List.mem_range.2 (sx_lt hx hy (List.mem_range.1 hz)), sx_self x y z⟩) (by simp [sxP])
 exact ⟨by simp [sxP], hp⟩
section
variable {n : Nat} (u : Nat → Int)
/-- The sum over the meetings at a table. -/
theorem sU_meetT : ∀ (r pre : List Nat), sU u (meetT n pre r) = sU (fun a => sU (fun b => u (a * n + b)) (pre ++ r)) r - sU (fun a => u (a * n + a)) r
 | [], _ => rfl
 | a :: r, pre => by
  have ih := sU_meetT r (pre ++ [a])
  rw [List.append_assoc, List.singleton_append] at ih
  simp only [meetT, sU_app, sU_map] at ih ⊢
  rw [ih]
  simp only [sU, sU_app]
  show sU (fun b => u (a * n + b)) pre + sU (fun b => u (a * n + b)) r + _ = _
  omega
/-- What a table's meetings change when x goes and y comes. -/
def dT (u : Nat → Int) (n x y : Nat) (t : List Nat) : Int := sU (fun z => if z = x then 0 else u (y * n + z) - u (x * n + z) + u (z * n + y) - u (z * n + x)) t
theorem meetT_sx {t : List Nat} {x y : Nat} (hx : x ∈ t) (hy : y ∉ t) (hd : t.Nodup) : sU u (meetT n [] (t.map (sx x y))) - sU u (meetT n [] t) = dT u n x y t := by
 have hs : ∀ z ∈ t.erase x, z ≠ x ∧ z ≠ y := fun z hz => ⟨fun e => by subst e; exact (List.Nodup.not_mem_erase hd) hz, fun e => by subst e; exact hy (List.mem_of_mem_erase hz)⟩
 have hp := List.perm_cons_erase hx
 have hne : x ≠ y := fun e => hy (e ▸ hx)
 have e1 : sU u (meetT n [] (t.map (sx x y))) = sU (fun a => sU (fun b => u (sx x y a * n + sx x y b)) (x :: t.erase x)) (x :: t.erase x) - sU (fun a => u (sx x y a * n + sx x y a)) (x :: t.erase x) := by
  rw [sU_meetT, List.nil_append, sU_map, sU_map, sU_perm hp, sU_perm hp]
  congr 1
  exact sU_congr fun a _ => by rw [sU_map, sU_perm hp]
 have e2 : sU u (meetT n [] t) = sU (fun a => sU (fun b => u (a * n + b)) (x :: t.erase x)) (x :: t.erase x) - sU (fun a => u (a * n + a)) (x :: t.erase x) := by
  rw [sU_meetT, List.nil_append, sU_perm hp, sU_perm hp]
  congr 1
  exact sU_congr fun a _ => by rw [sU_perm hp]
 have sX : sx x y x = y := by simp [sx]
 have sZ : ∀ z ∈ t.erase x, sx x y z = z := fun z hz => by unfold sx; rw [if_neg (hs z hz).1, if_neg (hs z hz).2]
 have e3 : dT u n x y t = sU (fun z => u (y * n + z) - u (x * n + z) + u (z * n + y) - u (z * n + x)) (t.erase x) := by
  unfold dT
  rw [sU_perm hp]
  simp only [sU, if_true]
  rw [sU_congr (v := fun z => u (y * n + z) - u (x * n + z) + u (z * n + y) - u (z * n + x)) fun z hz => by rw [if_neg (hs z hz).1]]
  omega
 rw [e1, e2, e3]
 simp only [sU, sX]
 rw [sU_congr (u := fun b => u (y * n + sx x y b)) (v := fun b => u (y * n + b)) fun z hz => by rw [sZ z hz],
  sU_congr (u := fun a => u (sx x y a * n + sx x y a)) (v := fun a => u (a * n + a)) fun z hz => by rw [sZ z hz],
  sU_congr (u := fun a => u (sx x y a * n + y) + sU (fun b => u (sx x y a * n + sx x y b)) (t.erase x)) (v := fun a => u (a * n + y) + sU (fun b => u (a * n + b)) (t.erase x)) fun z hz => by
   rw [sZ z hz]
   congr 1
   exact sU_congr fun w hw => by rw [sZ w hw]]
 rw [sU_add, sU_add, sU_sub, sU_add, sU_sub]
 omega
theorem map_sx_id {t : List Nat} {x y : Nat} (hx : x ∉ t) (hy : y ∉ t) : t.map (sx x y) = t := by
 conv => rhs; rw [← List.map_id t]
 exact List.map_congr_left fun z hz => by
  unfold sx
  rw [if_neg (fun e => hx (by subst e; exact hz)), if_neg (fun e => hy (by subst e; exact hz))]; rfl
/-- .. of an evening. -/
theorem meetE_sx {x y : Nat} {ev : List (List Nat)} {i j : Nat} {T U : List Nat} (hT : ev[i]? = some T) (hU : ev[j]? = some U) (hij : i ≠ j) (hx : x ∈ T) (hy : y ∈ U) (hd : ∀ t ∈ ev, t.Nodup)
  (ux : ∀ k t, ev[k]? = some t → x ∈ t → k = i) (uy : ∀ k t, ev[k]? = some t → y ∈ t → k = j) :
  sU u (meetE n (ev.map fun t => t.map (sx x y))) - sU u (meetE n ev) = dT u n x y T + dT u n y x U := by
 have flat : ∀ (ev : List (List Nat)), sU u (meetE n ev) = sU (fun t => sU u (meetT n [] t)) ev := by
  intro ev
  induction ev with
  | nil => rfl
  | cons t ev ih => simp only [meetE, sU_app, sU, ih]
 rw [flat, flat, sU_map, ← sU_sub]
 have key : ∀ t ∈ ev, sU u (meetT n [] (t.map (sx x y))) - sU u (meetT n [] t) = (if x ∈ t then dT u n x y t else 0) + (if y ∈ t then dT u n y x t else 0) := fun t ht => by
  obtain ⟨k, hk⟩ := List.mem_iff_getElem?.1 ht
  by_cases h1 : x ∈ t
  ·have h2 : y ∉ t := fun h2 => hij ((ux k t hk h1).symm.trans (uy k t hk h2))
   rw [if_pos h1, if_neg h2, meetT_sx u h1 h2 (hd t ht), Int.add_zero]
  ·by_cases h2 : y ∈ t
   ·have e : t.map (sx x y) = t.map (sx y x) := List.map_congr_left fun z _ => sx_comm x y z
    rw [if_neg h1, if_pos h2, e, meetT_sx u h2 h1 (hd t ht), Int.zero_add]
   ·rw [if_neg h1, if_neg h2, map_sx_id h1 h2]; omega
 rw [sU_congr key, sU_add]
 congr 1
 ·have := sU_one (u := fun t => if x ∈ t then dT u n x y t else 0) hT fun k s hs hk => if_neg fun h => hk (ux k s hs h)
  rw [this, if_pos hx]
 ·have := sU_one (u := fun t => if y ∈ t then dT u n y x t else 0) hU fun k s hs hk => if_neg fun h => hk (uy k s hs h)
  rw [this, if_pos hy]
/-- How often a code is there. -/
theorem sU_count (c : Nat) : ∀ (L : List Nat), sU (fun d => if d = c then 1 else 0) L = ((L.count c : Nat) : Int)
 | [] => rfl
 | d :: L => by
  simp only [sU, sU_count c L, List.count_cons, beq_iff_eq]
  split <;> simp <;> omega
/-- The squares of a sum of two lists' counts. -/
theorem sq_two (O L : List Nat) (hL : ∀ c ∈ L, c < n * n) : sqSum (celM n (O ++ L)) = sqSum (celM n O) + 2 * sU (fun c => ((O.count c : Nat) : Int)) L + sqSum (celM n L) := by
 have hs : ∀ (L : List Nat), sqSum (celM n L) = sU (fun c => ((L.count c : Nat) : Int) * ((L.count c : Nat) : Int)) (List.range (n * n)) := fun L => by
  rw [cel_map]
  generalize List.range (n * n) = R
  induction R with
  | nil => rfl
  | cons c R ih => simp only [List.map_cons, sqSum, sU, ih]
 have hx : sU (fun c => ((O.count c : Nat) : Int)) L = sU (fun c => ((O.count c : Nat) : Int) * ((L.count c : Nat) : Int)) (List.range (n * n)) := by
  induction L with
  | nil =>
   exact ((sU_congr (v := fun _ => (0 : Int)) fun c _ => by simp).trans (sU_zero _)).symm
  | cons d L ih =>
   have hd := hL d (by simp)
   have e : sU (fun c => ((O.count c : Nat) : Int) * (((d :: L).count c : Nat) : Int)) (List.range (n * n)) = sU (fun c => ((O.count c : Nat) : Int) * ((L.count c : Nat) : Int)) (List.range (n * n)) + sU (fun c => if c = d then ((O.count c : Nat) : Int) else 0) (List.range (n * n)) := by
    rw [← sU_add]
    refine sU_congr fun c _ => ?_
    rw [List.count_cons]
    by_cases hc : c = d
    ·subst hc; simp [Int.mul_add]
    ·rw [if_neg hc, if_neg (by simpa using fun e => hc e.symm)]; simp
   have e2 : sU (fun c => if c = d then ((O.count c : Nat) : Int) else 0) (List.range (n * n)) = ((O.count d : Nat) : Int) := by
    have := sU_one (u := fun c => if c = d then ((O.count c : Nat) : Int) else 0) (a := List.range (n * n)) (i := d) (t := d) (List.getElem?_range hd) fun j s hs hj => if_neg fun e => by
     have hlt : j < n * n := by simpa using (List.getElem?_eq_some_iff.1 hs).1
     rw [List.getElem?_range hlt] at hs
     injection hs with hs
     omega
    rw [this, if_pos rfl]
   simp only [sU]
   rw [ih fun c hc => hL c (by simp [hc]), e, e2]
   omega
 rw [hs, hs, hs, hx, ← sU_mul, ← sU_add, ← sU_add]
 refine sU_congr fun c _ => ?_
 rw [List.count_append]
 rw [show (((O.count c + L.count c : Nat)) : Int) = ((O.count c : Nat) : Int) + ((L.count c : Nat) : Int) by simp]
 generalize ((O.count c : Nat) : Int) = a
 generalize ((L.count c : Nat) : Int) = b
 rw [Int.add_mul, Int.mul_add, Int.mul_add, Int.mul_comm b a]
 omega
end
/-- One cell turns. -/
def ad (m : List Int) (c : Nat) (k : Int) : List Int := m.set c (m.getD c 0 + k)
theorem ad_len (m : List Int) (c : Nat) (k : Int) : (ad m c k).length = m.length := by simp [ad]
theorem ad_get (m : List Int) (c d : Nat) (k : Int) (h : d < m.length) : (ad m c k).getD d 0 = m.getD d 0 + (if c = d then k else 0) := by
 unfold ad
 rw [List.getD_eq_getElem?_getD, List.getElem?_set, List.getD_eq_getElem?_getD]
 by_cases e : c = d
 ·subst e
  rw [if_pos rfl, if_pos h, if_pos rfl, List.getD_eq_getElem?_getD]; rfl
 ·rw [if_neg e, if_neg e]; simp
theorem idx_gD {m : List Int} {c : Nat} (h : c < m.length) : idx m (c : Int) = some (m.getD c 0) := by
 rw [idx_lt h, List.getD_eq_getElem?_getD, List.getElem?_eq_getElem h]; rfl
def Bdd (m : List Int) (B : Int) : Prop := ∀ c, -B ≤ m.getD c 0 ∧ m.getD c 0 ≤ B
theorem Bdd.ad {m : List Int} {B : Int} (h : Bdd m B) (c : Nat) {k : Int} (hk : -1 ≤ k ∧ k ≤ 1) : Bdd (ad m c k) (B + 1) := fun d => by
 have hd := h d
 rcases Nat.lt_or_ge d m.length with hl | hl
 ·rw [ad_get m c d k hl]
  split <;> omega
 ·rw [List.getD_eq_getElem?_getD, List.getElem?_eq_none (by rw [ad_len]; omega)]
  rw [List.getD_eq_getElem?_getD, List.getElem?_eq_none hl] at hd
  simp at hd ⊢
  omega
/-- z's meetings with x go to y. -/
def shSt (n x y : Nat) (m : List Int) (z : Nat) : List Int := if z = x then m else ad (ad (ad (ad m (x * n + z) (-1)) (z * n + x) (-1)) (y * n + z) 1) (z * n + y) 1
def shL (n x y : Nat) (m : List Int) (t : List Nat) : List Int := t.foldl (shSt n x y) m
theorem shSt_len (n x y : Nat) (m : List Int) (z : Nat) : (shSt n x y m z).length = m.length := by
 unfold shSt
 split
 ·rfl
 ·simp only [ad_len]
theorem shL_len (n x y : Nat) : ∀ (t : List Nat) (m : List Int), (shL n x y m t).length = m.length
 | [], _ => rfl
 | z :: t, m => (shL_len n x y t (shSt n x y m z)).trans (shSt_len n x y m z)
theorem shSt_bd {n x y : Nat} {m : List Int} {B : Int} (h : Bdd m B) (hB : 0 ≤ B) (z : Nat) : Bdd (shSt n x y m z) (B + 4) := by
 unfold shSt
 split
 ·exact fun c => by have := h c; omega
 ·have := (((h.ad (x * n + z) (k := -1) (by omega)).ad (z * n + x) (k := -1) (by omega)).ad (y * n + z) (k := 1) (by omega)).ad (z * n + y) (k := 1) (by omega)
  exact fun c => by have := this c; omega
theorem shL_get {n x y : Nat} (d : Nat) : ∀ (t : List Nat) (m : List Int), d < m.length → (shL n x y m t).getD d 0 = m.getD d 0 + dT (fun c => if c = d then 1 else 0) n x y t
 | [], m, _ => by simp [shL, dT, sU]
 | z :: t, m, h => by
  have ih := shL_get (n := n) (x := x) (y := y) d t (shSt n x y m z) (by rw [shSt_len]; exact h)
  show (shL n x y (shSt n x y m z) t).getD d 0 = _
  rw [ih]
  have e : (shSt n x y m z).getD d 0 = m.getD d 0 + (if z = x then 0 else (if y * n + z = d then 1 else 0) - (if x * n + z = d then 1 else 0) + (if z * n + y = d then 1 else 0) - (if z * n + x = d then (1 : Int) else 0)) := by
   unfold shSt
   by_cases hz : z = x
   ·rw [if_pos hz, if_pos hz, Int.add_zero]
   ·rw [if_neg hz, if_neg hz, ad_get _ _ _ _ (by simp only [ad_len]; exact h), ad_get _ _ _ _ (by simp only [ad_len]; exact h), ad_get _ _ _ _ (by simp only [ad_len]; exact h), ad_get _ _ _ _ h]
    repeat' split
    all_goals omega
  rw [e]
  have e2 : dT (fun c => if c = d then 1 else 0) n x y (z :: t) = (if z = x then 0 else (if y * n + z = d then 1 else 0) - (if x * n + z = d then 1 else 0) + (if z * n + y = d then 1 else 0) - (if z * n + x = d then (1 : Int) else 0)) + dT (fun c => if c = d then 1 else 0) n x y t := rfl
  rw [e2]
  omega
section
variable {n : Nat}
theorem cw {x z : Nat} (hn : n ≤ 64) (hx : x < n) (hz : z < n) : wr .i64 (wr .i64 ((x : Int) * (n : Int)) + (z : Int)) = ((x * n + z : Nat) : Int) := celM_wr hn hx hz
theorem shift_j2 (hn : n ≤ 64) {x y z : Nat} (hx : x < n) (hy : y < n) (hz : z < n) (m : List Int) (hm : m.length = n * n) {B : Int} (hb : Bdd m B) (hB : 0 ≤ B ∧ B ≤ 100000) : evening_shift_d_j2 n x y m z = some (shSt n x y m z) := by
 unfold evening_shift_d_j2 shSt
 by_cases e : z = x
 ·rw [if_neg (by subst e; simp), if_pos e]
 ·rw [if_pos (by simp; omega), if_neg e]
  have l1 := cell_lt hx hz
  have l2 := cell_lt hz hx
  have l3 := cell_lt hy hz
  have l4 := cell_lt hz hy
  have at_ : ∀ (m : List Int) (a b : Nat), m.length = n * n → a < n → b < n → evening_square_int_at_d n m a b = some () := fun m a b hm ha hb => by
   unfold evening_square_int_at_d
   rw [cw hn ha hb, idx_gD (by rw [hm]; exact cell_lt ha hb)]; rfl
  have st : ∀ (m : List Int) (c : Nat) (k : Int), (m.set ((c : Int)).toNat (m.getD c 0 + k)) = ad m c k := fun m c k => by unfold ad; simp
  have b1 := hb.ad (x * n + z) (k := -1) (by omega)
  have b2 := b1.ad (z * n + x) (k := -1) (by omega)
  have b3 := b2.ad (y * n + z) (k := 1) (by omega)
  have w0 : ∀ {m : List Int} {B : Int} (c : Nat) (k : Int), Bdd m B → B ≤ 200000 → -1 ≤ k ∧ k ≤ 1 → wr .i64 (m.getD c 0 + k) = m.getD c 0 + k := fun c k h hB hk => by
   have := h c
   exact wr_i (by omega) (by omega)
  simp only [cw hn hx hz, cw hn hz hx, cw hn hy hz, cw hn hz hy]
  rw [at_ m x z hm hx hz, idx_gD (by rw [hm]; exact l1)]
  simp only [Option.bind_some]
  rw [show m.getD (x * n + z) 0 - 1 = m.getD (x * n + z) 0 + -1 by omega, w0 _ (-1) hb (by omega) (by omega), st]
  rw [at_ _ z x (by rw [ad_len]; exact hm) hz hx, idx_gD (by rw [ad_len, hm]; exact l2)]
  simp only [Option.bind_some]
  rw [show (ad m (x * n + z) (-1)).getD (z * n + x) 0 - 1 = (ad m (x * n + z) (-1)).getD (z * n + x) 0 + -1 by omega, w0 _ (-1) b1 (by omega) (by omega), st]
  rw [at_ _ y z (by rw [ad_len, ad_len]; exact hm) hy hz, idx_gD (by rw [ad_len, ad_len, hm]; exact l3)]
  simp only [Option.bind_some]
  rw [w0 _ 1 b2 (by omega) (by omega), st]
  rw [at_ _ z y (by rw [ad_len, ad_len, ad_len]; exact hm) hz hy, idx_gD (by rw [ad_len, ad_len, ad_len, hm]; exact l4)]
  simp only [Option.bind_some]
  rw [w0 _ 1 b3 (by omega) (by omega), st]
theorem shift_1 (hn : n ≤ 64) {x y : Nat} (hx : x < n) (hy : y < n) (t : List Nat) (htl : t.length ≤ 1000) (ht : ∀ z ∈ t, z < n) : ∀ (r pre : List Nat) (f : Nat) (m : List Int) (B : Int), t = pre ++ r → r.length < f → m.length = n * n → Bdd m B → 0 ≤ B → B + 4 * (r.length : Int) ≤ 100000 → evening_shift_d_1 (toI1 t) n x y f pre.length m = some (shL n x y m r)
 | [], pre, f + 1, m, B, h, _, _, _, _, _ => by
  unfold evening_shift_d_1
  rw [if_neg (by rw [h]; simp [toI1])]; rfl
 | z :: r, pre, f + 1, m, B, h, hf, hm, hb, h0, hB => by
  have hz : z < n := ht z (by rw [h]; simp)
  have ih := shift_1 hn hx hy t htl ht r (pre ++ [z]) f (shSt n x y m z) (B + 4) (by rw [h]; simp) (by simp at hf; omega) (by rw [shSt_len]; exact hm) (shSt_bd hb h0 z) (by omega) (by simp at hB; omega)
  have hlen : t.length = pre.length + (r.length + 1) := by rw [h]; simp
  unfold evening_shift_d_1
  rw [if_pos (by simp [toI1]; omega), show idx (toI1 t) (pre.length : Int) = some (z : Int) by
   rw [idx_lt (by simp [toI1]; omega)]
   simp [toI1, h]]
  simp only [Option.bind_some]
  rw [shift_j2 hn hx hy hz m hm hb ⟨h0, by simp at hB; omega⟩]
  simp only [Option.bind_some]
  rw [wr_i (by omega) (by omega), show ((pre.length : Int) + 1) = ((pre ++ [z]).length : Int) by simp, ih]
  rfl
theorem shift_eq (hn : n ≤ 64) {x y : Nat} (hx : x < n) (hy : y < n) (t : List Nat) (htl : t.length ≤ 1000) (ht : ∀ z ∈ t, z < n) (m : List Int) (hm : m.length = n * n) {B : Int} (hb : Bdd m B) (h0 : 0 ≤ B) (hB : B ≤ 10000) : evening_shift_d (toI1 t) n m x y = some (shL n x y m t) := by
 unfold evening_shift_d
 have := shift_1 hn hx hy t htl ht t [] 100000 m B rfl (by omega) hm hb h0 (by omega)
 rw [show ((([] : List Nat).length : Nat) : Int) = 0 from rfl] at this
 rw [this]; rfl
/- The gain. -/
def gnT (n x y : Nat) (m : List Int) (t : List Nat) : Int := sU (fun z => if z = x then 0 else 2 * m.getD (x * n + z) 0 - 1 - (2 * m.getD (y * n + z) 0 + 1)) t
theorem gnT_bd {x y : Nat} {m : List Int} {B : Int} (hb : Bdd m B) (h0 : 0 ≤ B) : ∀ (t : List Nat), -((4 * B + 2) * (t.length : Int)) ≤ gnT n x y m t ∧ gnT n x y m t ≤ (4 * B + 2) * (t.length : Int)
 | [] => by simp [gnT, sU]
 | z :: t => by
  have ih := gnT_bd (x := x) (y := y) hb h0 t
  have a1 := hb (x * n + z)
  have a2 := hb (y * n + z)
  have e : gnT n x y m (z :: t) = (if z = x then 0 else 2 * m.getD (x * n + z) 0 - 1 - (2 * m.getD (y * n + z) 0 + 1)) + gnT n x y m t := rfl
  have e2 : (4 * B + 2) * (((z :: t).length : Nat) : Int) = (4 * B + 2) * (t.length : Int) + (4 * B + 2) := by
   rw [List.length_cons, Int.natCast_add, Int.mul_add]; simp
  rw [e, e2]
  split <;> omega
theorem sq_at (hn : n ≤ 64) {m : List Int} (hm : m.length = n * n) {x y : Nat} (hx : x < n) (hy : y < n) : square_at ((n : Int), m) x y = some (m.getD (x * n + y) 0) := by
 unfold square_at
 rw [if_pos (by simp; omega)]
 have e : (x : Int) * (n : Int) + (y : Int) = ((x * n + y : Nat) : Int) := by simp
 show idx m ((x : Int) * (n : Int) + (y : Int)) = _
 rw [e, idx_gD (by rw [hm]; exact cell_lt hx hy)]
theorem gain_w {B a p q : Int} (hB : 0 ≤ B ∧ B ≤ 1000) (hp : -B ≤ p ∧ p ≤ B) (hq : -B ≤ q ∧ q ≤ B) (ha : -1000000000 ≤ a ∧ a ≤ 1000000000) : wr .i64 (a + wr .i64 (wr .i64 (wr .i64 (2 * p) - 1) - wr .i64 (wr .i64 (2 * q) + 1))) = a + (2 * p - 1 - (2 * q + 1)) := by
 rw [wr_i (n := 2 * p) (by omega) (by omega), wr_i (n := 2 * p - 1) (by omega) (by omega), wr_i (n := 2 * q) (by omega) (by omega), wr_i (n := 2 * q + 1) (by omega) (by omega), wr_i (n := 2 * p - 1 - (2 * q + 1)) (by omega) (by omega), wr_i (by omega) (by omega)]
theorem gain_1 (hn : n ≤ 64) {m : List Int} (hm : m.length = n * n) {B : Int} (hb : Bdd m B) (hB : 0 ≤ B ∧ B ≤ 1000) (x0 : List (List Int)) (x5 : Int) {x y : Nat} (hx : x < n) (hy : y < n) (t : List Nat) (htl : t.length ≤ 64) (ht : ∀ z ∈ t, z < n) : ∀ (r pre : List Nat) (f : Nat) (a : Int), t = pre ++ r → r.length < f → -1000000 * (65 - (r.length : Int)) ≤ a → a ≤ 1000000 * (65 - (r.length : Int)) →
  evening_gain_1 x0 x y x5 (toI1 t) f n m a pre.length = some ((n : Int), m, a + gnT n x y m r)
 | [], pre, f + 1, a, h, _, _, _ => by
  unfold evening_gain_1
  rw [if_neg (by rw [h]; simp [toI1])]
  simp [gnT, sU]
 | z :: r, pre, f + 1, a, h, hf, h1, h2 => by
  have hz : z < n := ht z (by rw [h]; simp)
  have hlen : t.length = pre.length + (r.length + 1) := by rw [h]; simp
  have hp := hb (x * n + z)
  have hq := hb (y * n + z)
  simp only [List.length_cons] at h1 h2 hf
  have ih := gain_1 hn hm hb hB x0 x5 hx hy t htl ht r (pre ++ [z]) f (a + (if z = x then 0 else 2 * m.getD (x * n + z) 0 - 1 - (2 * m.getD (y * n + z) 0 + 1))) (by rw [h]; simp) (by omega) (by split <;> omega) (by split <;> omega)
  unfold evening_gain_1
  rw [if_pos (by simp [toI1]; omega), show idx (toI1 t) (pre.length : Int) = some (z : Int) by
   rw [idx_lt (by simp [toI1]; omega)]
   simp [toI1, h]]
  simp only [Option.bind_some]
  have hj : evening_gain_j2 x0 x y x5 (toI1 t) n m a pre.length z = some ((n : Int), m, a + (if z = x then 0 else 2 * m.getD (x * n + z) 0 - 1 - (2 * m.getD (y * n + z) 0 + 1))) := by
   unfold evening_gain_j2
   by_cases e : z = x
   ·rw [if_neg (by subst e; simp), if_pos e, Int.add_zero]
   ·rw [if_pos (by simp; omega), if_neg e, sq_at hn hm hx hz, sq_at hn hm hy hz]
    simp only [Option.bind_some]
    rw [gain_w hB hp hq (by omega)]
  rw [hj]
  simp only [Option.bind_some]
  rw [wr_i (by omega) (by omega), show ((pre.length : Int) + 1) = ((pre ++ [z]).length : Int) by simp, ih]
  have e : gnT n x y m (z :: r) = (if z = x then 0 else 2 * m.getD (x * n + z) 0 - 1 - (2 * m.getD (y * n + z) 0 + 1)) + gnT n x y m r := rfl
  rw [e, Int.add_assoc]
theorem gain_3 (hn : n ≤ 64) {m : List Int} (hm : m.length = n * n) {B : Int} (hb : Bdd m B) (hB : 0 ≤ B ∧ B ≤ 1000) {x y : Nat} (hx : x < n) (hy : y < n) (t : List Nat) (htl : t.length ≤ 64) (ht : ∀ z ∈ t, z < n) {M : Int} (hM : M ≤ 500000000) : ∀ (r pre : List Nat) (f : Nat) (a : Int), t = pre ++ r → r.length < f → 1000000 * (r.length : Int) - M ≤ a → a ≤ M - 1000000 * (r.length : Int) →
  evening_gain_3 x y (toI1 t) f n m a pre.length = some (a + gnT n y x m r)
 | [], pre, f + 1, a, h, _, _, _ => by
  unfold evening_gain_3
  rw [if_neg (by rw [h]; simp [toI1])]
  simp [gnT, sU]
 | z :: r, pre, f + 1, a, h, hf, h1, h2 => by
  have hz : z < n := ht z (by rw [h]; simp)
  have hlen : t.length = pre.length + (r.length + 1) := by rw [h]; simp
  have hp := hb (y * n + z)
  have hq := hb (x * n + z)
  simp only [List.length_cons] at h1 h2 hf
  have ih := gain_3 hn hm hb hB hx hy t htl ht hM r (pre ++ [z]) f (a + (if z = y then 0 else 2 * m.getD (y * n + z) 0 - 1 - (2 * m.getD (x * n + z) 0 + 1))) (by rw [h]; simp) (by omega) (by split <;> omega) (by split <;> omega)
  unfold evening_gain_3
  rw [if_pos (by simp [toI1]; omega), show idx (toI1 t) (pre.length : Int) = some (z : Int) by
   rw [idx_lt (by simp [toI1]; omega)]
   simp [toI1, h]]
  simp only [Option.bind_some]
  have hj : evening_gain_j4 x y (toI1 t) n m a pre.length z = some ((n : Int), m, a + (if z = y then 0 else 2 * m.getD (y * n + z) 0 - 1 - (2 * m.getD (x * n + z) 0 + 1))) := by
   unfold evening_gain_j4
   by_cases e : z = y
   ·rw [if_neg (by subst e; simp), if_pos e, Int.add_zero]
   ·rw [if_pos (by simp; omega), if_neg e, sq_at hn hm hy hz, sq_at hn hm hx hz]
    simp only [Option.bind_some]
    rw [gain_w hB hp hq (by omega)]
  rw [hj]
  simp only [Option.bind_some]
  rw [wr_i (by omega) (by omega), show ((pre.length : Int) + 1) = ((pre ++ [z]).length : Int) by simp, ih]
  have e : gnT n y x m (z :: r) = (if z = y then 0 else 2 * m.getD (y * n + z) 0 - 1 - (2 * m.getD (x * n + z) 0 + 1)) + gnT n y x m r := rfl
  rw [e, Int.add_assoc]
theorem gain_eq (hn : n ≤ 64) {m : List Int} (hm : m.length = n * n) {B : Int} (hb : Bdd m B) (hB : 0 ≤ B ∧ B ≤ 1000) {x y : Nat} (hx : x < n) (hy : y < n) {ev : List (List Nat)} {i j : Nat} {T U : List Nat} (hT : ev[i]? = some T) (hU : ev[j]? = some U) (hTl : T.length ≤ 64) (hUl : U.length ≤ 64) (hTn : ∀ z ∈ T, z < n) (hUn : ∀ z ∈ U, z < n) :
  evening_gain (toI2 ev) ((n : Int), m) x y i j = some (gnT n x y m T + gnT n y x m U) := by
 have ix : ∀ {k : Nat} {t : List Nat}, ev[k]? = some t → idx (toI2 ev) (k : Int) = some (toI1 t) := fun {k t} h => by
  have hk := (List.getElem?_eq_some_iff.1 h).1
  rw [idx_lt (by simp [toI2]; exact hk)]
  have := (List.getElem?_eq_some_iff.1 h).2
  simp [toI2, this]
 unfold evening_gain
 rw [ix hT]
 simp only [Option.bind_some]
 have g1 := gain_1 hn hm hb hB (toI2 ev) j hx hy T hTl hTn T [] 100000 0 rfl (by omega) (by omega) (by omega)
 rw [show ((([] : List Nat).length : Nat) : Int) = 0 from rfl] at g1
 rw [g1]
 simp only [Option.bind_some]
 rw [ix hU]
 simp only [Option.bind_some]
 have bd := gnT_bd (n := n) (x := x) (y := y) hb hB.1 T
 have h5 : (4 * B + 2) * (T.length : Int) ≤ 5000 * 64 := Int.mul_le_mul (by omega) (by omega) (by omega) (by omega)
 have g3 := gain_3 hn hm hb hB hx hy U hUl hUn (M := 200000000) (by omega) U [] 100000 (0 + gnT n x y m T) rfl (by omega) (by omega) (by omega)
 rw [show ((([] : List Nat).length : Nat) : Int) = 0 from rfl] at g3
 rw [g3]
 simp
end
/- trestle/trestleref09.has -/
structure Sm2 (s : List (List (List Int))) : Prop where
 len : s.length ≤ 70
 ev : ∀ ev ∈ s, ev.length ≤ 64 ∧ ∀ t ∈ ev, t.length ≤ 1000
/- trestle/trestleref09.Together -/
/- Together. -/
/- trestle/trestleref09.Meet -/
/- trestle/trestleref09.Strain -/
def ref09_Strain_2 (x0 : (List (List Int))) (c2 : Int) : Nat → Int → Int → Option ((Int))
 | 0, _, _ => none
 | f + 1, c4, c5 =>
  if (decide (c5 < c2)) = true then
  (idx x0 c2).bind fun v7 =>
  (idx v7 c5).bind fun v8 =>
  (idx x0 c2).bind fun v9 =>
  (idx v9 c5).bind fun v10 =>
  ref09_Strain_2 x0 c2 f (wr .i64 (c4 + (wr .i64 (v8 * v10)))) (wr .i64 (c5 + 1))
  else
  some c4
def ref09_Strain_1 (x0 : (List (List Int))) : Nat → Int → Int → Option ((Int))
 | 0, _, _ => none
 | f + 1, c1, c2 =>
  if (decide (c2 < (x0.length : Int))) = true then
  (ref09_Strain_2 x0 c2 100000 c1 0).bind fun r12 =>
  ref09_Strain_1 x0 f r12 (wr .i64 (c2 + 1))
  else
  some c1
def ref09_Strain (x0 : (List (List Int))) : Option (Int) :=
 (ref09_Strain_1 x0 100000 0 0).bind fun r14 =>
 some r14
/-- A valid schedule of few numbers. -/
structure VS (n : Nat) (s : List (List (List Nat))) : Prop where
 n1 : 1 ≤ n
 n64 : n ≤ 64
 len : s.length ≤ 64
 ev : ∀ ev ∈ s, EvV n ev
 sm : Sm2 (toI3 s)
 val : evening_valid n (toI3 s) = some true
section
variable {n : Nat} {s : List (List (List Nat))}
theorem VS.cx (h : VS n s) {x y : Nat} (hy : y < n) (e : x ≠ y) : cX n (meetS n s) x y = ((pS x y s : Nat) : Int) := by
 unfold cX
 rw [meetS_count n x y hy e s fun ev he => (h.ev ev he).lt]
theorem VS.dg (h : VS n s) {x : Nat} (hx : x < n) : cX n (meetS n s) x x = 0 := by
 unfold cX
 rw [vS_diag x hx s h.ev]; rfl
theorem VS.sy (h : VS n s) {x y : Nat} (hx : x < n) (hy : y < n) : cX n (meetS n s) x y = cX n (meetS n s) y x := by
 unfold cX
 rw [vS_sym h.ev hx hy]
theorem pE_1 {x y : Nat} : ∀ (ev : List (List Nat)), (∀ t ∈ ev, t.count y ≤ 1) → pE x y ev ≤ ev.flatten.count x
 | [], _ => by simp [pE]
 | t :: ev, h => by
  have ih := pE_1 (x := x) (y := y) ev fun u hu => h u (by simp [hu])
  have a := h t (by simp)
  have : t.count x * t.count y ≤ t.count x * 1 := Nat.mul_le_mul_left _ a
  simp only [pE, List.flatten_cons, List.count_append]; omega
theorem pS_le {x y : Nat} : ∀ (s : List (List (List Nat))), (∀ ev ∈ s, EvV n ev) → pS x y s ≤ s.length
 | [], _ => by simp [pS]
 | ev :: s, h => by
  have ih := pS_le (x := x) (y := y) s fun u hu => h u (by simp [hu])
  have he := h ev (by simp)
  have a := pE_1 (x := x) (y := y) ev fun t ht => he.le1 ht y
  have b := he.cnt x
  simp only [pS, List.length_cons]
  split at b <;> omega
theorem VS.le (h : VS n s) {x y : Nat} (hx : x < n) (hy : y < n) : 0 ≤ cX n (meetS n s) x y ∧ cX n (meetS n s) x y ≤ 64 := by
 refine ⟨by unfold cX; omega, ?_⟩
 by_cases e : x = y
 ·subst e; rw [h.dg hx]; omega
 ·rw [h.cx hy e]
  have := pS_le (n := n) (x := x) (y := y) s h.ev
  have := h.len
  omega
/- Strain. -/
def sm (f : Nat → Int) : Nat → Int
 | 0 => 0
 | k + 1 => sm f k + f k
theorem sm_congr {f g : Nat → Int} : ∀ (k : Nat), (∀ i, i < k → f i = g i) → sm f k = sm g k
 | 0, _ => rfl
 | k + 1, h => by
  show sm f k + f k = sm g k + g k
  rw [sm_congr k fun i hi => h i (by omega), h k (by omega)]
theorem sm_add (f g : Nat → Int) : ∀ k, sm (fun i => f i + g i) k = sm f k + sm g k
 | 0 => rfl
 | k + 1 => by
  show sm (fun i => f i + g i) k + (f k + g k) = sm f k + f k + (sm g k + g k)
  rw [sm_add f g k]; omega
theorem half (c : Nat → Nat → Int) (n : Nat) (hs : ∀ x y, x < n → y < n → c x y = c y x) (hd : ∀ x, x < n → c x x = 0) : ∀ m, m ≤ n → sm (fun x => sm (fun y => c x y * c x y) m) m = 2 * sm (fun x => sm (fun y => c x y * c x y) x) m
 | 0, _ => rfl
 | m + 1, h => by
  have ih := half c n hs hd m (by omega)
  have e1 : sm (fun x => sm (fun y => c x y * c x y) (m + 1)) (m + 1) = sm (fun x => sm (fun y => c x y * c x y) m) m + sm (fun x => c x m * c x m) m + (sm (fun y => c m y * c m y) m + c m m * c m m) := by
   show sm (fun x => sm (fun y => c x y * c x y) m + c x m * c x m) m + (sm (fun y => c m y * c m y) m + c m m * c m m) = _
   rw [sm_add]
  have e2 : sm (fun x => c x m * c x m) m = sm (fun y => c m y * c m y) m := sm_congr m fun i hi => by rw [hs i m (by omega) (by omega)]
  have e3 : sm (fun x => sm (fun y => c x y * c x y) x) (m + 1) = sm (fun x => sm (fun y => c x y * c x y) x) m + sm (fun y => c m y * c m y) m := rfl
  rw [e1, e2, e3, ih, hd m (by omega)]
  simp only [Int.mul_zero]
  omega
theorem sq_row (n : Nat) (L : List Nat) (x : Nat) : ∀ (k y : Nat), sqSum (rowM n L x k y) = sm (fun i => cX n L x (y + i) * cX n L x (y + i)) k
 | 0, _ => rfl
 | k + 1, y => by
  have key : ∀ (f : Nat → Int) (k : Nat), sm f (k + 1) = f 0 + sm (fun i => f (i + 1)) k := fun f k => by
   induction k with
   | zero => show 0 + f 0 = f 0 + 0; omega
   | succ k ih =>
    show sm f (k + 1) + f (k + 1) = f 0 + (sm (fun i => f (i + 1)) k + f (k + 1))
    rw [ih]; omega
  rw [key]
  simp only [rowM, sqSum, sq_row n L x k (y + 1), Nat.add_zero]
  congr 1
  exact sm_congr k fun i _ => by rw [show y + 1 + i = y + (i + 1) by omega]
theorem sqSum_ap : ∀ (a b : List Int), sqSum (a ++ b) = sqSum a + sqSum b
 | [], b => by simp [sqSum]
 | v :: a, b => by
  show v * v + sqSum (a ++ b) = v * v + sqSum a + sqSum b
  rw [sqSum_ap a b, Int.add_assoc]
theorem sq_mat (n : Nat) (L : List Nat) : ∀ (k x : Nat), sqSum (matM n L k x).flatten = sm (fun i => sm (fun y => cX n L (x + i) y * cX n L (x + i) y) n) k
 | 0, _ => rfl
 | k + 1, x => by
  have key : ∀ (f : Nat → Int) (k : Nat), sm f (k + 1) = f 0 + sm (fun i => f (i + 1)) k := fun f k => by
   induction k with
   | zero => show 0 + f 0 = f 0 + 0; omega
   | succ k ih =>
    show sm f (k + 1) + f (k + 1) = f 0 + (sm (fun i => f (i + 1)) k + f (k + 1))
    rw [ih]; omega
  rw [key]
  simp only [matM, List.flatten_cons, sqSum_ap, sq_mat n L k (x + 1), sq_row, Nat.add_zero, Nat.zero_add]
  congr 1
  exact sm_congr k fun i _ => by rw [show x + 1 + i = x + (i + 1) by omega]
theorem sm_nn (f : Nat → Int) (B : Int) : ∀ k, (∀ i, i < k → 0 ≤ f i ∧ f i ≤ B) → 0 ≤ sm f k ∧ sm f k ≤ B * k
 | 0, _ => by simp [sm]
 | k + 1, h => by
  obtain ⟨a, b⟩ := sm_nn f B k fun i hi => h i (by omega)
  obtain ⟨c, d⟩ := h k (by omega)
  simp only [sm]
  push_cast
  rw [Int.mul_add, Int.mul_one]; omega
theorem rs_2 (h : VS n s) (x : Nat) (hx : x < n) : ∀ (k y f : Nat) (a : Int), y + k = x → k < f → 0 ≤ a → a + 4096 * (k : Int) ≤ 1000000000 → ref09_Strain_2 (matM n (meetS n s) n 0) x f a y = some (a + sm (fun i => cX n (meetS n s) x (y + i) * cX n (meetS n s) x (y + i)) k)
 | 0, y, f + 1, a, e, _, _, _ => by
  unfold ref09_Strain_2
  rw [if_neg (by simp; omega)]
  simp [sm]
 | k + 1, y, f + 1, a, e, hf, a0, a1 => by
  have hn := h.n64
  obtain ⟨row, r1, r2⟩ := mat_at (n := n) (L := meetS n s) (x := x) (y := y) hx (by omega)
  obtain ⟨c0, c1⟩ := h.le (x := x) (y := y) hx (by omega)
  have q0 : 0 ≤ cX n (meetS n s) x y * cX n (meetS n s) x y := Int.mul_nonneg c0 c0
  have q1 : cX n (meetS n s) x y * cX n (meetS n s) x y ≤ 4096 := by
   have := Int.mul_le_mul c1 c1 c0 (by omega)
   omega
  push_cast at a1
  have ih := rs_2 h x hx k (y + 1) f (a + cX n (meetS n s) x y * cX n (meetS n s) x y) (by omega) (by omega) (by omega) (by omega)
  have key : ∀ (f : Nat → Int) (k : Nat), sm f (k + 1) = f 0 + sm (fun i => f (i + 1)) k := fun f k => by
   induction k with
   | zero => show 0 + f 0 = f 0 + 0; omega
   | succ k ih =>
    show sm f (k + 1) + f (k + 1) = f 0 + (sm (fun i => f (i + 1)) k + f (k + 1))
    rw [ih]; omega
  unfold ref09_Strain_2
  rw [if_pos (by simp; omega), r1]
  simp only [Option.bind_some]
  rw [r2]
  simp only [Option.bind_some]
  rw [wr_nat (by omega), wr_i (n := cX n (meetS n s) x y * cX n (meetS n s) x y) (by omega) (by omega), wr_i (n := a + _) (by omega) (by omega), ih, key, Nat.add_zero, Int.add_assoc]
  congr 3
  exact sm_congr k fun i _ => by rw [show y + 1 + i = y + (i + 1) by omega]
theorem rs_1 (h : VS n s) : ∀ (k x f : Nat) (a : Int), x + k = n → k < f → 0 ≤ a → a ≤ 300000 * (x : Int) → ref09_Strain_1 (matM n (meetS n s) n 0) f a x = some (a + sm (fun i => sm (fun y => cX n (meetS n s) (x + i) y * cX n (meetS n s) (x + i) y) (x + i)) k)
 | 0, x, f + 1, a, e, _, _, _ => by
  unfold ref09_Strain_1
  rw [if_neg (by rw [matM_len]; simp; omega)]
  simp [sm]
 | k + 1, x, f + 1, a, e, hf, a0, a1 => by
  have hn := h.n64
  have h2 := rs_2 h x (by omega) x 0 100000 a (by omega) (by omega) a0 (by omega)
  rw [show ((0 : Nat) : Int) = 0 from rfl] at h2
  have hb := sm_nn (fun i => cX n (meetS n s) x (0 + i) * cX n (meetS n s) x (0 + i)) 4096 x fun i hi => by
   obtain ⟨c0, c1⟩ := h.le (x := x) (y := 0 + i) (by omega) (by omega)
   have := Int.mul_le_mul c1 c1 c0 (by omega)
   exact ⟨Int.mul_nonneg c0 c0, by omega⟩
  have ih := rs_1 h k (x + 1) f (a + sm (fun i => cX n (meetS n s) x (0 + i) * cX n (meetS n s) x (0 + i)) x) (by omega) (by omega) (by omega) (by push_cast; omega)
  have key : ∀ (f : Nat → Int) (k : Nat), sm f (k + 1) = f 0 + sm (fun i => f (i + 1)) k := fun f k => by
   induction k with
   | zero => show 0 + f 0 = f 0 + 0; omega
   | succ k ih =>
    show sm f (k + 1) + f (k + 1) = f 0 + (sm (fun i => f (i + 1)) k + f (k + 1))
    rw [ih]; omega
  unfold ref09_Strain_1
  rw [if_pos (by rw [matM_len]; simp; omega), h2]
  simp only [Option.bind_some]
  rw [wr_nat (by omega), ih, key, Int.add_assoc]
  simp only [Nat.add_zero, Nat.zero_add]
  congr 3
  exact sm_congr k fun i _ => by rw [show x + 1 + i = x + (i + 1) by omega]
theorem strain_val (h : VS n s) : ∃ v, sqSum (celM n (meetS n s)) = 2 * v ∧ evening_Strain n (toI3 s) = some v ∧ ref09_Strain (matM n (meetS n s) n 0) = some v := by
 obtain ⟨_, smm⟩ := evv_small h.n64 (by have := h.len; omega) h.ev
 have hn := h.n64
 have hL : (meetS n s).length ≤ 10000000 := by
  have h1 : ∀ s : List (List (List Nat)), (∀ ev ∈ s, EvV n ev) → (meetS n s).length ≤ s.length * 4096 := fun s => by
   induction s with
   | nil => intro _; simp [meetS]
   | cons ev s ih =>
    intro hv
    have a := ih fun u hu => hv u (by simp [hu])
    have he := hv ev (by simp)
    have b := meetE_len n ev
    have c := sqs_le ev fun t ht => by have := he.tlen ht; omega
    have d := he.flen
    simp only [meetS, List.length_append, List.length_cons, Nat.succ_mul]; omega
  have := h1 s h.ev
  have := h.len
  omega
 have hf : (rowsC n (celM n (meetS n s)) n 0).flatten = celM n (meetS n s) := by
  rw [rowsC_flat n _ (celM_len n _) n 0 (by omega)]; simp
 have e1 : sqSum (celM n (meetS n s)) = sm (fun i => sm (fun y => cX n (meetS n s) (0 + i) y * cX n (meetS n s) (0 + i) y) n) n := by
  rw [← hf, rowsC_M n (meetS n s) n 0 (by omega), sq_mat]
 have e2 := half (cX n (meetS n s)) n (fun x y hx hy => h.sy hx hy) (fun x hx => h.dg hx) n (Nat.le_refl n)
 simp only [Nat.zero_add] at e1
 have h0 := strain_eq smm h.val hL
 rw [e1, e2] at h0
 refine ⟨_, e1.trans e2, by rw [h0]; congr 1; omega, ?_⟩
 have h1 := rs_1 h n 0 100000 0 (by omega) (by omega) (by omega) (by omega)
 rw [show ((0 : Nat) : Int) = 0 from rfl, Int.zero_add] at h1
 unfold ref09_Strain
 rw [h1]
 simp only [Option.bind_some, Nat.zero_add]
end
/- trestle/evening.Relabel -/
/- trestle/evening.Join -/
/- trestle/trestlelaw09.EveningRelabels -/
section
variable {n : Nat} {P : List Nat} {L1 L2 L3 L4 L5 L6 : List Nat}
end
theorem evv_evn {n : Nat} {sz : List Nat} {ev : List (List Nat)} (h : Evn n sz ev) : EvV n ev := ⟨rfl, h.ne, h.cnt⟩
theorem small_lens {n : Nat} {s : List (List (List Nat))} (hn : n ≤ 64) (hv : ∀ ev ∈ s, EvV n ev) (hs : s.length ≤ 64) : (toI3 s).length ≤ 50000 ∧ ∀ ev ∈ toI3 s, ev.length ≤ 50000 ∧ ∀ t ∈ ev, t.length ≤ 50000 := by
 refine ⟨by rw [toI3_len]; omega, fun ev he => ?_⟩
 obtain ⟨u, hu, rfl⟩ := List.mem_map.1 he
 have h := hv u hu
 refine ⟨by rw [toI2_len]; have := h.elen; omega, fun t ht => ?_⟩
 obtain ⟨w, hw, rfl⟩ := List.mem_map.1 ht
 rw [toI1_len]; have := h.tlen hw; omega
theorem chkAll_evv {n : Nat} {s : List (List (List Nat))} (h1 : 1 ≤ n) (h2 : n ≤ 64) (hs : s.length ≤ 64) (hv : ∀ ev ∈ s, EvV n ev) : chkAll n [] (toI3 s) = (0, 0) := by
 unfold chkAll
 rw [if_neg (by simp; omega), if_neg (by rw [toI3_len]; omega)]
 refine chkS_ok n [] (toI3 s) 0 fun ev he => ?_
 obtain ⟨u, hu, rfl⟩ := List.mem_map.1 he
 exact chk_evn (hv u hu) [] (.inl rfl)
/- Who sits where. -/
def asT (i : Nat) : Nat → List Nat → List (Nat × (Int × Int))
 | _, [] => []
 | k, x :: t => (x, ((i : Int), (k : Int))) :: asT i (k + 1) t
def asE : Nat → List (List Nat) → List (Nat × (Int × Int))
 | _, [] => []
 | i, t :: ev => asT i 0 t ++ asE (i + 1) ev
def puts (r : List (Int × Int)) (l : List (Nat × (Int × Int))) : List (Int × Int) := l.foldl (fun r p => r.set p.1 p.2) r
theorem puts_app (r : List (Int × Int)) (a b : List (Nat × (Int × Int))) : puts r (a ++ b) = puts (puts r a) b := List.foldl_append
theorem puts_len : ∀ (l : List (Nat × (Int × Int))) (r : List (Int × Int)), (puts r l).length = r.length
 | [], _ => rfl
 | p :: l, r => (puts_len l (r.set p.1 p.2)).trans (by simp)
theorem puts_other (x : Nat) : ∀ (l : List (Nat × (Int × Int))) (r : List (Int × Int)), (∀ p ∈ l, p.1 ≠ x) → (puts r l)[x]? = r[x]?
 | [], _, _ => rfl
 | p :: l, r, h => by
  show (puts (r.set p.1 p.2) l)[x]? = _
  rw [puts_other x l _ fun q hq => h q (by simp [hq]), List.getElem?_set, if_neg (h p (by simp))]
theorem puts_get {x : Nat} {v : Int × Int} : ∀ (l : List (Nat × (Int × Int))) (r : List (Int × Int)), (l.map Prod.fst).Nodup → (x, v) ∈ l → x < r.length → (puts r l)[x]? = some v
 | p :: l, r, hd, hm, hx => by
  simp only [List.map_cons, List.nodup_cons] at hd
  rcases List.mem_cons.1 hm with h | h
  ·subst h
   show (puts (r.set x v) l)[x]? = _
   rw [puts_other x l _ fun q hq e => hd.1 (List.mem_map.2 ⟨q, hq, e⟩), List.getElem?_set, if_pos rfl, if_pos hx]
  ·exact puts_get l _ hd.2 h (by simpa using hx)
theorem asT_fst (i : Nat) : ∀ (t : List Nat) (k : Nat), (asT i k t).map Prod.fst = t
 | [], _ => rfl
 | x :: t, k => by simp [asT, asT_fst i t (k + 1)]
theorem asE_fst : ∀ (ev : List (List Nat)) (i : Nat), (asE i ev).map Prod.fst = ev.flatten
 | [], _ => rfl
 | t :: ev, i => by simp [asE, asT_fst, asE_fst ev (i + 1)]
theorem asT_mem (i : Nat) : ∀ (t : List Nat) (k j x : Nat), t[j]? = some x → (x, ((i : Int), ((k + j : Nat) : Int))) ∈ asT i k t
 | y :: t, k, 0, x, h => by simp at h; subst h; simp [asT]
 | y :: t, k, j + 1, x, h => by
  have := asT_mem i t (k + 1) j x (by simpa using h)
  rw [show k + 1 + j = k + (j + 1) by omega] at this
  exact List.mem_cons_of_mem _ this
 | [], _, _, _, h => by simp at h
theorem asE_mem : ∀ (ev : List (List Nat)) (i j k x : Nat) (t : List Nat), ev[j]? = some t → t[k]? = some x → (x, (((i + j : Nat) : Int), (k : Int))) ∈ asE i ev
 | u :: ev, i, 0, k, x, t, h, h2 => by
  simp at h; subst h
  have := asT_mem i u 0 k x h2
  simp at this
  simp [asE, this]
 | u :: ev, i, j + 1, k, x, t, h, h2 => by
  have := asE_mem ev (i + 1) j k x t (by simpa using h) h2
  rw [show i + 1 + j = i + (j + 1) by omega] at this
  simp only [asE]
  exact List.mem_append_right _ this
 | [], _, _, _, _, _, h, _ => by simp at h
section
variable {n : Nat}
theorem seat_3 (i : Nat) (t : List Nat) (htl : t.length ≤ 1000) (ht : ∀ z ∈ t, z < n) : ∀ (r pre : List Nat) (f : Nat) (c : List (Int × Int)), t = pre ++ r → r.length < f → c.length = n → evening_exchange_d_3 (i : Int) (toI1 t) f pre.length c = some (puts c (asT i pre.length r))
 | [], pre, f + 1, c, h, _, _ => by
  unfold evening_exchange_d_3
  rw [if_neg (by rw [h]; simp [toI1])]; rfl
 | z :: r, pre, f + 1, c, h, hf, hc => by
  have hz : z < n := ht z (by rw [h]; simp)
  have hlen : t.length = pre.length + (r.length + 1) := by rw [h]; simp
  have ih := seat_3 i t htl ht r (pre ++ [z]) f (c.set z ((i : Int), (pre.length : Int))) (by rw [h]; simp) (by simp at hf; omega) (by simp [hc])
  unfold evening_exchange_d_3
  rw [if_pos (by simp [toI1]; omega), show idx (toI1 t) (pre.length : Int) = some (z : Int) by
   rw [idx_lt (by simp [toI1]; omega)]
   simp [toI1, h]]
  simp only [Option.bind_some]
  rw [idx_lt (show z < c.length by omega)]
  simp only [Option.bind_some]
  rw [wr_i (by omega) (by omega), show ((pre.length : Int) + 1) = ((pre ++ [z]).length : Int) by simp, show ((z : Int)).toNat = z by simp, ih]
  simp [puts, asT]
theorem seat_2 (ev : List (List Nat)) (hel : ev.length ≤ 1000) (hev : ∀ t ∈ ev, t.length ≤ 1000 ∧ ∀ z ∈ t, z < n) : ∀ (r pre : List (List Nat)) (f : Nat) (c : List (Int × Int)), ev = pre ++ r → r.length < f → c.length = n → evening_exchange_d_2 (toI2 ev) f pre.length c = some (puts c (asE pre.length r))
 | [], pre, f + 1, c, h, _, _ => by
  unfold evening_exchange_d_2
  rw [if_neg (by rw [h]; simp [toI2])]; rfl
 | t :: r, pre, f + 1, c, h, hf, hc => by
  have ht := hev t (by rw [h]; simp)
  have hlen : ev.length = pre.length + (r.length + 1) := by rw [h]; simp
  have ih := seat_2 ev hel hev r (pre ++ [t]) f (puts c (asT pre.length 0 t)) (by rw [h]; simp) (by simp at hf; omega) (by rw [puts_len]; exact hc)
  have h3 := seat_3 (n := n) pre.length t ht.1 ht.2 t [] 100000 c rfl (by omega) hc
  rw [show ((([] : List Nat).length : Nat) : Int) = 0 from rfl, show ([] : List Nat).length = 0 from rfl] at h3
  unfold evening_exchange_d_2
  rw [if_pos (by simp [toI2]; omega), show idx (toI2 ev) (pre.length : Int) = some (toI1 t) by
   rw [idx_lt (by simp [toI2]; omega)]
   simp [toI2, h]]
  simp only [Option.bind_some]
  rw [h3]
  simp only [Option.bind_some]
  rw [wr_i (by omega) (by omega), show ((pre.length : Int) + 1) = ((pre ++ [t]).length : Int) by simp, ih]
  simp only [asE, puts_app, List.length_append, List.length_singleton]
/-- The seats of an evening. -/
def Seats (ev : List (List Nat)) (r : List (Int × Int)) : Prop := ∀ (i k x : Nat) (t : List Nat), ev[i]? = some t → t[k]? = some x → r[x]? = some ((i : Int), (k : Int))
theorem EvV.nd {ev : List (List Nat)} (h : EvV n ev) : ev.flatten.Nodup := List.nodup_iff_count.2 fun j => by rw [h.cnt]; split <;> omega
theorem seats_ok {ev : List (List Nat)} (h : EvV n ev) (hn : n ≤ 64) : ∃ r, evening_exchange_d_2 (toI2 ev) 100000 0 (List.replicate (n : Int).toNat ((0, 0) : Int × Int)) = some r ∧ r.length = n ∧ Seats ev r := by
 have h2 := seat_2 (n := n) ev (by have := h.elen; omega) (fun t ht => ⟨by have := h.tlen ht; omega, fun z hz => by
  have := h.cnt z
  have hc : 0 < ev.flatten.count z := List.count_pos_iff.2 (List.mem_flatten.2 ⟨t, ht, hz⟩)
  split at this
  ·assumption
  ·omega⟩) ev [] 100000 (List.replicate (n : Int).toNat ((0, 0) : Int × Int)) rfl (by have := h.elen; omega) (by simp)
 rw [show ((([] : List (List Nat)).length : Nat) : Int) = 0 from rfl, show ([] : List (List Nat)).length = 0 from rfl] at h2
 refine ⟨_, h2, by rw [puts_len]; simp, fun i k x t hi hk => ?_⟩
 have hx : x < n := by
  have := h.cnt x
  have hc : 0 < ev.flatten.count x := List.count_pos_iff.2 (List.mem_flatten.2 ⟨t, List.mem_of_getElem? hi, List.mem_of_getElem? hk⟩)
  split at this
  ·assumption
  ·omega
 have hm := asE_mem ev 0 i k x t hi hk
 rw [Nat.zero_add] at hm
 exact puts_get _ _ (by rw [asE_fst]; exact h.nd) hm (by simpa using hx)
/-- Where somebody sits. -/
theorem EvV.seat {ev : List (List Nat)} (h : EvV n ev) {x : Nat} (hx : x < n) : ∃ (i k : Nat) (T : List Nat), ev[i]? = some T ∧ T[k]? = some x := by
 have hc : 0 < ev.flatten.count x := by rw [h.cnt, if_pos hx]; omega
 obtain ⟨T, hT, hxT⟩ := List.mem_flatten.1 (List.count_pos_iff.1 hc)
 obtain ⟨i, hi⟩ := List.mem_iff_getElem?.1 hT
 obtain ⟨k, hk⟩ := List.mem_iff_getElem?.1 hxT
 exact ⟨i, k, T, hi, hk⟩
/-- .. and nowhere else. -/
theorem seat_uniq {ev : List (List Nat)} {r : List (Int × Int)} (hs : Seats ev r) {i i' k k' x : Nat} {T T' : List Nat} (h1 : ev[i]? = some T) (h2 : T[k]? = some x) (h3 : ev[i']? = some T') (h4 : T'[k']? = some x) : i = i' ∧ k = k' := by
 have a := hs i k x T h1 h2
 rw [hs i' k' x T' h3 h4] at a
 injection a with a
 injection a with a b
 omega
/-- The evening after an exchange. -/
def exE (x y : Nat) (ev : List (List Nat)) : List (List Nat) := ev.map fun t => t.map (sx x y)
theorem exE_set {ev : List (List Nat)} {r : List (Int × Int)} (hs : Seats ev r) {i j k l x y : Nat} {T U : List Nat} (hT : ev[i]? = some T) (hk : T[k]? = some x) (hU : ev[j]? = some U) (hl : U[l]? = some y) (hij : i ≠ j) :
  exE x y ev = (ev.set i (T.set k y)).set j (U.set l x) := by
 have hxy : x ≠ y := fun e => by subst e; exact hij (seat_uniq hs hT hk hU hl).1
 have set_map : ∀ (t : List Nat) (m a b : Nat), t[m]? = some a → (∀ q c, t[q]? = some c → q ≠ m → sx x y c = c) → sx x y a = b → t.map (sx x y) = t.set m b := by
  intro t m a b hm ho hab
  apply List.ext_getElem?
  intro q
  rw [List.getElem?_map, List.getElem?_set]
  by_cases e : m = q
  ·subst e
   have := (List.getElem?_eq_some_iff.1 hm).1
   rw [if_pos rfl, if_pos this, hm]; simp [hab]
  ·rw [if_neg e]
   cases hq : t[q]? with
   | none => rfl
   | some c => simp [ho q c hq (fun e' => e e'.symm)]
 apply List.ext_getElem?
 intro q
 unfold exE
 rw [List.getElem?_map, List.getElem?_set, List.getElem?_set, List.length_set]
 have hiL := (List.getElem?_eq_some_iff.1 hT).1
 have hjL := (List.getElem?_eq_some_iff.1 hU).1
 by_cases e1 : j = q
 ·subst e1
  rw [if_pos rfl, if_pos hjL, hU]
  show some (U.map (sx x y)) = _
  rw [set_map U l y x hl (fun q c hc hq => ?_) (by unfold sx; rw [if_neg (Ne.symm hxy), if_pos rfl])]
  unfold sx
  rw [if_neg (fun e => by subst e; exact hij (seat_uniq hs hT hk hU hc).1), if_neg (fun e => by subst e; exact hq (seat_uniq hs hU hc hU hl).2)]
 ·rw [if_neg e1]
  by_cases e2 : i = q
  ·subst e2
   rw [if_pos rfl, if_pos hiL, hT]
   show some (T.map (sx x y)) = _
   rw [set_map T k x y hk (fun q c hc hq => ?_) (by unfold sx; rw [if_pos rfl])]
   unfold sx
   rw [if_neg (fun e => by subst e; exact hq (seat_uniq hs hT hc hT hk).2), if_neg (fun e => by subst e; exact hij (seat_uniq hs hT hc hU hl).1)]
  ·rw [if_neg e2]
   cases hq : ev[q]? with
   | none => rfl
   | some t =>
    show some (t.map (sx x y)) = _
    rw [map_sx_id (fun h => ?_) (fun h => ?_)]
    ·obtain ⟨m, hm⟩ := List.mem_iff_getElem?.1 h
     exact e2 (seat_uniq hs hT hk hq hm).1
    ·obtain ⟨m, hm⟩ := List.mem_iff_getElem?.1 h
     exact e1 (seat_uniq hs hU hl hq hm).1
end
section
variable {n : Nat}
theorem celM_congr {L L' : List Nat} (h : ∀ c, L.count c = L'.count c) : celM n L = celM n L' := by
 rw [cel_map, cel_map]
 exact List.map_congr_left fun c _ => by rw [h]
theorem celM_getD (L : List Nat) {c : Nat} (hc : c < n * n) : (celM n L).getD c 0 = ((L.count c : Nat) : Int) := cnt_get L (n * n) c hc
theorem pE_zero {x z : Nat} : ∀ (ev : List (List Nat)), (∀ t ∈ ev, x ∈ t → z ∉ t) → pE x z ev = 0
 | [], _ => rfl
 | t :: ev, h => by
  have ih := pE_zero ev fun u hu => h u (by simp [hu])
  have : t.count x * t.count z = 0 := by
   by_cases hx : x ∈ t
   ·rw [List.count_eq_zero.2 (h t (by simp) hx), Nat.mul_zero]
   ·rw [List.count_eq_zero.2 hx, Nat.zero_mul]
  simp only [pE, ih, this]
theorem pE_one {x z : Nat} : ∀ (ev : List (List Nat)) (i : Nat) (T : List Nat), ev[i]? = some T → T.count x = 1 → T.count z = 1 → (∀ j t, ev[j]? = some t → j ≠ i → x ∉ t) → pE x z ev = 1
 | t :: ev, 0, T, h, h1, h2, k => by
  simp at h; subst h
  have : pE x z ev = 0 := pE_zero ev fun u hu hx => by
   obtain ⟨j, hj⟩ := List.mem_iff_getElem?.1 hu
   exact (k (j + 1) u (by simpa using hj) (by omega) hx).elim
  simp only [pE, h1, h2, this]
 | t :: ev, i + 1, T, h, h1, h2, k => by
  have ih := pE_one ev i T (by simpa using h) h1 h2 fun j u hu hj => k (j + 1) u (by simpa using hu) (by omega)
  have : t.count x = 0 := List.count_eq_zero.2 (k 0 t rfl (by omega))
  simp only [pE, this, ih]; omega
 | [], i, T, h, _, _, _ => by simp at h
/-- Somebody sits at one table alone. -/
theorem EvV.uq {ev : List (List Nat)} (h : EvV n ev) (hn : n ≤ 64) {x i j : Nat} {T U : List Nat} (hi : ev[i]? = some T) (hj : ev[j]? = some U) (hx : x ∈ T) (hy : x ∈ U) : j = i := by
 obtain ⟨r, _, _, hs⟩ := seats_ok h hn
 obtain ⟨k, hk⟩ := List.mem_iff_getElem?.1 hx
 obtain ⟨l, hl⟩ := List.mem_iff_getElem?.1 hy
 exact (seat_uniq hs hj hl hi hk).1
theorem EvV.tnd {ev : List (List Nat)} (h : EvV n ev) {t : List Nat} (ht : t ∈ ev) : t.Nodup := List.nodup_iff_count.2 fun j => h.le1 ht j
theorem EvV.ltn {ev : List (List Nat)} (h : EvV n ev) {t : List Nat} (ht : t ∈ ev) : ∀ z ∈ t, z < n := h.lt t ht
/-- A table's part of the gain. -/
theorem gn_dT {ev : List (List Nat)} (he : EvV n ev) (hn : n ≤ 64) {L O : List Nat} (hL : ∀ c, L.count c = O.count c + (meetE n ev).count c) (hO : ∀ a b, a < n → b < n → O.count (a * n + b) = O.count (b * n + a)) {x y i : Nat} {T : List Nat} (hT : ev[i]? = some T) (hx : x ∈ T) (hy : y ∉ T) (hyn : y < n) :
  gnT n x y (celM n L) T = - dT (fun c => ((O.count c : Nat) : Int)) n x y T := by
 have hTm := List.mem_of_getElem? hT
 have hxn := he.ltn hTm x hx
 have lt := he.lt
 unfold gnT dT
 have e : ∀ z ∈ T, (if z = x then 0 else 2 * (celM n L).getD (x * n + z) 0 - 1 - (2 * (celM n L).getD (y * n + z) 0 + 1)) = -1 * (if z = x then 0 else ((O.count (y * n + z) : Nat) : Int) - ((O.count (x * n + z) : Nat) : Int) + ((O.count (z * n + y) : Nat) : Int) - ((O.count (z * n + x) : Nat) : Int)) := fun z hz => by
  have hzn := he.ltn hTm z hz
  by_cases ez : z = x
  ·rw [if_pos ez, if_pos ez]; rfl
  ·have hzy : z ≠ y := fun e => hy (e ▸ hz)
   rw [if_neg ez, if_neg ez, celM_getD L (cell_lt hxn hzn), celM_getD L (cell_lt hyn hzn), hL, hL, meetE_count n x z hzn (Ne.symm ez) ev lt, meetE_count n y z hzn (Ne.symm hzy) ev lt]
   have p1 : pE x z ev = 1 := pE_one ev i T hT (by
    have h1 := he.le1 hTm x
    have h2 := List.count_pos_iff.2 hx
    omega) (by
    have h1 := he.le1 hTm z
    have h2 := List.count_pos_iff.2 hz
    omega) fun j t hj hne hxt => hne (he.uq hn hT hj hx hxt)
   have p2 : pE y z ev = 0 := pE_zero ev fun t ht hyt hzt => by
    obtain ⟨j, hj⟩ := List.mem_iff_getElem?.1 ht
    have := he.uq hn hT hj hz hzt
    subst this
    rw [hT] at hj
    injection hj with hj
    subst hj
    exact hy hyt
   rw [p1, p2, hO z y hzn hyn, hO z x hzn hxn]
   simp only [Int.natCast_add]
   omega
 rw [sU_congr e, sU_mul]
 show -1 * sU (fun z => if z = x then 0 else ((O.count (y * n + z) : Nat) : Int) - ((O.count (x * n + z) : Nat) : Int) + ((O.count (z * n + y) : Nat) : Int) - ((O.count (z * n + x) : Nat) : Int)) T = - sU (fun z => if z = x then 0 else ((O.count (y * n + z) : Nat) : Int) - ((O.count (x * n + z) : Nat) : Int) + ((O.count (z * n + y) : Nat) : Int) - ((O.count (z * n + x) : Nat) : Int)) T
 omega
/-- The sum of all squares. -/
def sqM (n : Nat) (s : List (List (List Nat))) : Int := sqSum (celM n (meetS n s))
/-- The schedule after an exchange. -/
def exS (s : List (List (List Nat))) (e x y : Nat) : List (List (List Nat)) := s.set e (exE x y (s.getD e []))
theorem exE_pi {ev : List (List Nat)} (h : ∀ t ∈ ev, ∀ z ∈ t, z < n) (x y : Nat) : exE x y ev = ev.map fun t => t.map (pi_ (sxP n x y)) := by
 unfold exE
 exact List.map_congr_left fun t ht => List.map_congr_left fun z hz => (sxP_at (h t ht z hz)).symm
theorem exE_evv {ev : List (List Nat)} (h : EvV n ev) {x y : Nat} (hx : x < n) (hy : y < n) : EvV n (exE x y ev) := by
 have := evn_nm (sxP_ord hx hy) h
 rw [← exE_pi h.lt] at this
 unfold EvV at h ⊢
 have e : (exE x y ev).map List.length = ev.map List.length := by
  unfold exE
  rw [List.map_map]
  exact List.map_congr_left fun t _ => by simp
 rw [e]
 exact this
/-- What an exchange changes. -/
theorem ex_all {s : List (List (List Nat))} (hv : ∀ ev ∈ s, EvV n ev) (hn : n ≤ 64) {e : Nat} {ev : List (List Nat)} (hev : s[e]? = some ev) {x y i j : Nat} {T U : List Nat} (hT : ev[i]? = some T) (hU : ev[j]? = some U) (hx : x ∈ T) (hy : y ∈ U) (hij : i ≠ j) :
  sqM n s - sqM n (exS s e x y) = 2 * (gnT n x y (celM n (meetS n s)) T + gnT n y x (celM n (meetS n s)) U) ∧
  shL n y x (shL n x y (celM n (meetS n s)) T) U = celM n (meetS n (exS s e x y)) := by
 have he : EvV n ev := hv ev (List.mem_of_getElem? hev)
 have hTm := List.mem_of_getElem? hT
 have hUm := List.mem_of_getElem? hU
 have hxn := he.ltn hTm x hx
 have hyn := he.ltn hUm y hy
 have hyT : y ∉ T := fun h => hij (he.uq hn hU hT hy h)
 have hxU : x ∉ U := fun h => hij (he.uq hn hT hU hx h).symm
 -- the schedule in parts
 obtain ⟨pre, post, hs, hp⟩ : ∃ pre post, s = pre ++ ev :: post ∧ pre.length = e := by
  have hlt := (List.getElem?_eq_some_iff.1 hev).1
  refine ⟨s.take e, s.drop (e + 1), ?_, by simp; omega⟩
  have h1 := (List.getElem?_eq_some_iff.1 hev).2
  rw [← h1, List.getElem_cons_drop]
  simp
 have hs' : exS s e x y = pre ++ exE x y ev :: post := by
  unfold exS
  rw [List.getD_eq_getElem?_getD, hev, hs, ← hp]
  simp
 have hO : ∀ a b, a < n → b < n → (meetS n (pre ++ post)).count (a * n + b) = (meetS n (pre ++ post)).count (b * n + a) := fun a b ha hb => vS_sym (fun u hu => hv u (by
  rw [hs]
  rcases List.mem_append.1 hu with h | h
  ·exact List.mem_append_left _ h
  ·exact List.mem_append_right _ (List.mem_cons_of_mem _ h))) ha hb
 have hcnt : ∀ (u : List (List Nat)) (c : Nat), (meetS n (pre ++ u :: post)).count c = (meetS n (pre ++ post) ++ meetE n u).count c := fun u c => by
  rw [meetS_app, meetS_app]
  simp only [meetS, List.count_append]
  omega
 have hL : ∀ c, (meetS n s).count c = (meetS n (pre ++ post)).count c + (meetE n ev).count c := fun c => by rw [hs, hcnt, List.count_append]
 have mE := meetE_nm (n := n) (sxP n x y) ev he.lt
 rw [← exE_pi he.lt] at mE
 have mE' : ∀ c ∈ meetE n (exE x y ev), c < n * n := fun c hc => by
  rw [mE.1] at hc
  obtain ⟨d, hd, rfl⟩ := List.mem_map.1 hc
  exact sg_lt (sxP_ord hxn hyn) (mE.2 d hd)
 have key := fun (u : Nat → Int) => meetE_sx (n := n) u hT hU hij hx hy (fun t ht => he.tnd ht) (fun k t hk hxt => he.uq hn hT hk hx hxt) (fun k t hk hyt => he.uq hn hU hk hy hyt)
 refine ⟨?_, ?_⟩
 ·have q1 : sqM n s = sqSum (celM n (meetS n (pre ++ post) ++ meetE n ev)) := by
   unfold sqM
   rw [hs, celM_congr (hcnt ev)]
  have q2 : sqM n (exS s e x y) = sqSum (celM n (meetS n (pre ++ post) ++ meetE n (exE x y ev))) := by
   unfold sqM
   rw [hs', celM_congr (hcnt (exE x y ev))]
  have q3 : sqSum (celM n (meetE n (exE x y ev))) = sqSum (celM n (meetE n ev)) := by
   rw [mE.1]
   exact sq_nm (sxP_ord hxn hyn) mE.2
  have k := key fun c => (((meetS n (pre ++ post)).count c : Nat) : Int)
  rw [show ev.map (fun t => t.map (sx x y)) = exE x y ev from rfl] at k
  rw [q1, q2, sq_two _ _ mE.2, sq_two _ _ mE', q3, gn_dT he hn hL hO hT hx hyT hyn, gn_dT he hn hL hO hU hy hxU hxn]
  omega
 ·have hlen : ∀ (m : List Int), m.length = n * n → (shL n y x (shL n x y m T) U).length = n * n := fun m hm => by rw [shL_len, shL_len, hm]
  have hl0 := celM_len n (meetS n s)
  have hl1 := hlen _ hl0
  refine List.ext_getElem (by rw [hl1, celM_len]) fun c h1 h2 => ?_
  have hc : c < n * n := by rw [hl1] at h1; exact h1
  have g1 := shL_get (n := n) (x := y) (y := x) c U (shL n x y (celM n (meetS n s)) T) (by rw [shL_len, hl0]; exact hc)
  have g2 := shL_get (n := n) (x := x) (y := y) c T (celM n (meetS n s)) (by rw [hl0]; exact hc)
  have k := key fun d => if d = c then 1 else 0
  rw [sU_count, sU_count, show ev.map (fun t => t.map (sx x y)) = exE x y ev from rfl] at k
  have e1 : (shL n y x (shL n x y (celM n (meetS n s)) T) U)[c] = (shL n y x (shL n x y (celM n (meetS n s)) T) U).getD c 0 := by
   rw [List.getD_eq_getElem?_getD, List.getElem?_eq_getElem h1]; rfl
  have e2 : (celM n (meetS n (exS s e x y)))[c] = (celM n (meetS n (exS s e x y))).getD c 0 := by
   rw [List.getD_eq_getElem?_getD, List.getElem?_eq_getElem h2]; rfl
  rw [e1, e2, g1, g2, celM_getD _ hc, celM_getD _ hc, hs', hcnt, hL, List.count_append]
  simp only [Int.natCast_add]
  omega
end
/- trestle/trestleref09.swapped -/
/- trestle/trestleref09.better -/
/-- Do two sit at one table? -/
def togB (x y : Nat) (ev : List (List Nat)) : Bool := ev.any fun t => decide (x ∈ t) && decide (y ∈ t)
def gdB (n : Nat) (s : List (List (List Nat))) (e x y : Nat) : Bool := !togB x y (s.getD e []) && decide (sqM n (exS s e x y) < sqM n s)
/-- The first exchange that makes the strain less: with y, x, e from somewhere on. -/
def fy (n : Nat) (s : List (List (List Nat))) (e x : Nat) : Nat → Nat → Option (List (List (List Nat)))
 | 0, _ => none
 | k + 1, y => if gdB n s e x y = true then some (exS s e x y) else fy n s e x k (y + 1)
def fx (n : Nat) (s : List (List (List Nat))) (e : Nat) : Nat → Nat → Option (List (List (List Nat)))
 | 0, _ => none
 | k + 1, x => match fy n s e x k (x + 1) with
  | some s' => some s'
  | none => fx n s e k (x + 1)
def fe (n : Nat) (s : List (List (List Nat))) : Nat → Nat → Option (List (List (List Nat)))
 | 0, _ => none
 | k + 1, e => match fx n s e n 0 with
  | some s' => some s'
  | none => fe n s k (e + 1)
section
variable {n : Nat} {s : List (List (List Nat))}
theorem fy_some {e x : Nat} {s' : List (List (List Nat))} : ∀ (k y : Nat), fy n s e x k y = some s' → ∃ y', y ≤ y' ∧ y' < y + k ∧ gdB n s e x y' = true ∧ s' = exS s e x y'
 | 0, _, h => by cases h
 | k + 1, y, h => by
  unfold fy at h
  split at h
  ·next hg => injection h with h; exact ⟨y, by omega, by omega, hg, h.symm⟩
  ·obtain ⟨y', h1, h2, h3⟩ := fy_some k (y + 1) h
   exact ⟨y', by omega, by omega, h3⟩
theorem fx_some {e : Nat} {s' : List (List (List Nat))} : ∀ (k x : Nat), fx n s e k x = some s' → ∃ x' y', x ≤ x' ∧ x' < y' ∧ y' < x + k ∧ gdB n s e x' y' = true ∧ s' = exS s e x' y'
 | 0, _, h => by cases h
 | k + 1, x, h => by
  unfold fx at h
  split at h
  ·next s1 hs =>
   injection h with h
   subst h
   obtain ⟨y', h1, h2, h3⟩ := fy_some k (x + 1) hs
   exact ⟨x, y', by omega, by omega, by omega, h3⟩
  ·obtain ⟨x', y', h1, h2, h3, h4⟩ := fx_some k (x + 1) h
   exact ⟨x', y', by omega, h2, by omega, h4⟩
theorem fe_some {s' : List (List (List Nat))} : ∀ (k e : Nat), fe n s k e = some s' → ∃ e' x' y', e' < e + k ∧ x' < y' ∧ y' < n ∧ gdB n s e' x' y' = true ∧ s' = exS s e' x' y'
 | 0, _, h => by cases h
 | k + 1, e, h => by
  unfold fe at h
  split at h
  ·next s1 hs =>
   injection h with h
   subst h
   obtain ⟨x', y', h1, h2, h3, h4⟩ := fx_some n 0 hs
   exact ⟨e, x', y', by omega, h2, by omega, h4⟩
  ·obtain ⟨e', x', y', h1, h2⟩ := fe_some k (e + 1) h
   exact ⟨e', x', y', by omega, h2⟩
theorem fy_none {e x : Nat} : ∀ (k y : Nat), fy n s e x k y = none → ∀ y', y ≤ y' → y' < y + k → gdB n s e x y' = false
 | 0, _, _, y', h1, h2 => by omega
 | k + 1, y, h, y', h1, h2 => by
  unfold fy at h
  split at h
  ·cases h
  ·next hg =>
   by_cases e : y' = y
   ·subst e; simpa using hg
   ·exact fy_none k (y + 1) h y' (by omega) (by omega)
theorem fx_none {e : Nat} : ∀ (k x : Nat), fx n s e k x = none → ∀ x' y', x ≤ x' → x' < y' → y' < x + k → gdB n s e x' y' = false
 | 0, _, _, x', y', h1, h2, h3 => by omega
 | k + 1, x, h, x', y', h1, h2, h3 => by
  unfold fx at h
  split at h
  ·cases h
  ·next hy =>
   by_cases e : x' = x
   ·subst e; exact fy_none k (x' + 1) hy y' (by omega) (by omega)
   ·exact fx_none k (x + 1) h x' y' (by omega) h2 (by omega)
theorem fe_none : ∀ (k e : Nat), fe n s k e = none → ∀ e' x' y', e ≤ e' → e' < e + k → x' < y' → y' < n → gdB n s e' x' y' = false
 | 0, _, _, e', x', y', h1, h2, _, _ => by omega
 | k + 1, e, h, e', x', y', h1, h2, h3, h4 => by
  unfold fe at h
  split at h
  ·cases h
  ·next hx =>
   by_cases ee : e' = e
   ·subst ee; exact fx_none n 0 hx x' y' (by omega) h3 (by omega)
   ·exact fe_none k (e + 1) h e' x' y' (by omega) (by omega) h3 h4
theorem exS_evv (hv : ∀ ev ∈ s, EvV n ev) {e x y : Nat} (he : e < s.length) (hx : x < n) (hy : y < n) : (∀ ev ∈ exS s e x y, EvV n ev) ∧ (exS s e x y).length = s.length := by
 refine ⟨fun ev h => ?_, by simp [exS]⟩
 unfold exS at h
 rcases List.mem_or_eq_of_mem_set h with h | h
 ·exact hv ev h
 ·rw [h, List.getD_eq_getElem?_getD, List.getElem?_eq_getElem he]
  exact exE_evv (hv _ (List.getElem_mem he)) hx hy
theorem vs_of (n1 : 1 ≤ n) (n64 : n ≤ 64) (hs : s.length ≤ 64) (hv : ∀ ev ∈ s, EvV n ev) : VS n s := by
 refine ⟨n1, n64, hs, hv, ⟨by rw [toI3_len]; omega, fun ev he => ?_⟩, ?_⟩
 ·obtain ⟨u, hu, rfl⟩ := List.mem_map.1 he
  have h := hv u hu
  refine ⟨by rw [toI2_len]; have := h.elen; omega, fun t ht => ?_⟩
  obtain ⟨w, hw, rfl⟩ := List.mem_map.1 ht
  rw [toI1_len]; have := h.tlen hw; omega
 ·have hl : ∀ ev ∈ toI3 s, ev.length ≤ 50000 ∧ ev.flatten.length ≤ 50000 := fun ev he => by
   obtain ⟨u, hu, rfl⟩ := List.mem_map.1 he
   have h := hv u hu
   have := h.elen
   have := h.flen
   rw [toI2_len, toI2_flat, toI1_len]
   omega
  have c2 := (check_both n ⟨by omega, by omega⟩ [] (by simp) (toI3 s) (by rw [toI3_len]; omega) hl).1
  rw [chkAll_evv n1 n64 hs hv] at c2
  unfold evening_valid
  rw [c2]
  rfl
theorem mt_bd (hv : ∀ ev ∈ s, EvV n ev) (hs : s.length ≤ 64) : Bdd (celM n (meetS n s)) 64 := fun c => by
 rcases Nat.lt_or_ge c (n * n) with hc | hc
 ·rw [celM_getD _ hc]
  have hn : 0 < n := by
   rcases Nat.eq_zero_or_pos n with e | e
   ·subst e; simp at hc
   ·exact e
  have e1 : c = c / n * n + c % n := by rw [Nat.mul_comm]; exact (Nat.div_add_mod c n).symm
  have h1 := Nat.div_lt_of_lt_mul hc
  have h2 := Nat.mod_lt c hn
  have key : (meetS n s).count c ≤ 64 := by
   rw [e1]
   by_cases e : c / n = c % n
   ·rw [← e, vS_diag _ h1 s hv]; omega
   ·rw [meetS_count n _ _ h2 e s fun ev he => (hv ev he).lt]
    have := pS_le (x := c / n) (y := c % n) s hv
    omega
  omega
 ·rw [List.getD_eq_getElem?_getD, List.getElem?_eq_none (by rw [celM_len]; exact hc)]; simp
theorem shL_bd {x y : Nat} : ∀ (t : List Nat) (m : List Int) (B : Int), Bdd m B → 0 ≤ B → Bdd (shL n x y m t) (B + 4 * (t.length : Int))
 | [], m, B, h, _ => fun c => by have := h c; simpa [shL] using this
 | z :: t, m, B, h, h0 => by
  have := shL_bd (x := x) (y := y) t (shSt n x y m z) (B + 4) (shSt_bd h h0 z) (by omega)
  have e : B + 4 + 4 * (t.length : Int) = B + 4 * (((z :: t).length : Nat) : Int) := by simp; omega
  rw [e] at this
  exact this
theorem toI2_set (ev : List (List Nat)) (i : Nat) (t : List Nat) : (toI2 ev).set i (toI1 t) = toI2 (ev.set i t) := by simp [toI2, List.map_set]
theorem toI1_set (t : List Nat) (i x : Nat) : (toI1 t).set i (x : Int) = toI1 (t.set i x) := by simp [toI1, List.map_set]
theorem toI3_set (s : List (List (List Nat))) (i : Nat) (ev : List (List Nat)) : (toI3 s).set i (toI2 ev) = toI3 (s.set i ev) := by simp [toI3, List.map_set]
theorem idx_I1 {t : List Nat} {k x : Nat} (h : t[k]? = some x) : idx (toI1 t) (k : Int) = some (x : Int) := by
 have hk := (List.getElem?_eq_some_iff.1 h).1
 rw [idx_lt (by simp [toI1]; exact hk)]
 have := (List.getElem?_eq_some_iff.1 h).2
 simp [toI1, this]
theorem idx_I2 {ev : List (List Nat)} {k : Nat} {t : List Nat} (h : ev[k]? = some t) : idx (toI2 ev) (k : Int) = some (toI1 t) := by
 have hk := (List.getElem?_eq_some_iff.1 h).1
 rw [idx_lt (by simp [toI2]; exact hk)]
 have := (List.getElem?_eq_some_iff.1 h).2
 simp [toI2, this]
theorem idx_I3 {s : List (List (List Nat))} {k : Nat} {ev : List (List Nat)} (h : s[k]? = some ev) : idx (toI3 s) (k : Int) = some (toI2 ev) := by
 have hk := (List.getElem?_eq_some_iff.1 h).1
 rw [idx_lt (by simp [toI3]; exact hk)]
 have := (List.getElem?_eq_some_iff.1 h).2
 simp [toI3, this]
theorem idx_P {r : List (Int × Int)} {k : Nat} {v : Int × Int} (h : r[k]? = some v) : idx r (k : Int) = some v := by
 have hk := (List.getElem?_eq_some_iff.1 h).1
 rw [idx_lt hk, (List.getElem?_eq_some_iff.1 h).2]
/-- What the search hands on, own. -/
def outO (n : Nat) : Option (List (List (List Nat))) → Unit ⊕ (List (List (List Int)) × List Int)
 | none => .inl ()
 | some s' => .inr (toI3 s', celM n (meetS n s'))
theorem own_5 (hv : ∀ ev ∈ s, EvV n ev) (hn : n ≤ 64) (hs : s.length ≤ 64) {e : Nat} {ev : List (List Nat)} (hev : s[e]? = some ev) {r : List (Int × Int)} (hr : Seats ev r) {x : Nat} (hx : x < n) : ∀ (k y f : Nat), y + k = n → x < y → k < f →
  evening_exchange_d_5 n (toI3 s) n (celM n (meetS n s)) e (toI2 ev) r x f y = some (outO n (fy n s e x k y))
 | 0, y, f + 1, h, _, _ => by
  unfold evening_exchange_d_5
  rw [if_neg (by simp; omega)]; rfl
 | k + 1, y, f + 1, h, hxy, hf => by
  have ih := own_5 hv hn hs hev hr hx k (y + 1) f (by omega) (by omega) (by omega)
  have he : EvV n ev := hv ev (List.mem_of_getElem? hev)
  have hy : y < n := by omega
  obtain ⟨i, a, T, hT, ha⟩ := he.seat hx
  obtain ⟨j, b, U, hU, hb⟩ := he.seat hy
  have hTm := List.mem_of_getElem? hT
  have hUm := List.mem_of_getElem? hU
  have hxT := List.mem_of_getElem? ha
  have hyU := List.mem_of_getElem? hb
  have r1 := idx_P (hr i a x T hT ha)
  have r2 := idx_P (hr j b y U hU hb)
  have bd := mt_bd hv hs
  have hml := celM_len n (meetS n s)
  have hgd : s.getD e [] = ev := by rw [List.getD_eq_getElem?_getD, hev]; rfl
  unfold evening_exchange_d_5
  rw [if_pos (by simp; omega), r1]
  simp only [Option.bind_some]
  rw [r2]
  simp only [Option.bind_some]
  by_cases hij : i = j
  ·have ht : togB x y ev = true := by
    subst hij
    rw [hT] at hU
    injection hU with hU
    subst hU
    exact List.any_eq_true.2 ⟨T, hTm, by simp [hxT, hyU]⟩
   have hg : gdB n s e x y = false := by unfold gdB; rw [hgd, ht]; rfl
   rw [if_pos (by simp [hij])]
   simp only [Option.bind_some, if_true]
   rw [wr_i (by omega) (by omega), show ((y : Int) + 1) = ((y + 1 : Nat) : Int) by simp, ih]
   conv => rhs; unfold fy
   rw [hg]; rfl
  ·have ht : togB x y ev = false := by
    cases hq : togB x y ev with
    | false => rfl
    | true =>
     obtain ⟨t, htm, hc⟩ := List.any_eq_true.1 hq
     simp only [Bool.and_eq_true, decide_eq_true_eq] at hc
     obtain ⟨q, hq⟩ := List.mem_iff_getElem?.1 htm
     exact (hij ((he.uq hn hT hq hxT hc.1).symm.trans (he.uq hn hU hq hyU hc.2))).elim
   have hgn := gain_eq hn hml bd ⟨by omega, by omega⟩ hx hy hT hU (by have := he.tlen hTm; omega) (by have := he.tlen hUm; omega) (he.ltn hTm) (he.ltn hUm)
   obtain ⟨x1, x2⟩ := ex_all hv hn hev hT hU hxT hyU hij
   rw [if_neg (by simp; omega)]
   rw [hgn]
   simp only [Option.bind_some]
   by_cases hg0 : gnT n x y (celM n (meetS n s)) T + gnT n y x (celM n (meetS n s)) U ≤ 0
   ·have hg : gdB n s e x y = false := by
     unfold gdB
     rw [decide_eq_false (by omega), Bool.and_false]
    rw [decide_eq_true hg0]
    simp only [if_true]
    rw [wr_i (by omega) (by omega), show ((y : Int) + 1) = ((y + 1 : Nat) : Int) by simp, ih]
    conv => rhs; unfold fy
    rw [hg]; rfl
   ·have hg : gdB n s e x y = true := by
     unfold gdB
     rw [hgd, ht, decide_eq_true (by omega)]; rfl
    rw [decide_eq_false hg0]
    simp only [Bool.false_eq_true, if_false]
    rw [idx_I2 hT]
    simp only [Option.bind_some]
    rw [shift_eq hn hx hy T (by have := he.tlen hTm; omega) (he.ltn hTm) _ hml bd (by omega) (by omega)]
    simp only [Option.bind_some]
    rw [idx_I2 hU]
    simp only [Option.bind_some]
    have hTl := he.tlen hTm
    rw [shift_eq hn hy hx U (by have := he.tlen hUm; omega) (he.ltn hUm) _ (by rw [shL_len]; exact hml) (shL_bd (n := n) (x := x) (y := y) T _ 64 bd (by omega)) (by omega) (by omega)]
    simp only [Option.bind_some]
    rw [idx_I1 ha]
    simp only [Option.bind_some, Int.toNat_natCast]
    rw [toI1_set, toI2_set, idx_I2 (ev := ev.set i (T.set a y)) (k := j) (t := U) (by rw [List.getElem?_set, if_neg hij]; exact hU)]
    simp only [Option.bind_some]
    rw [idx_I1 hb]
    simp only [Option.bind_some, Int.toNat_natCast]
    rw [toI1_set, toI2_set, toI3_set, ← exE_set hr hT ha hU hb hij, x2]
    conv => rhs; unfold fy
    rw [if_pos hg]
    show some (Sum.inr _) = some (Sum.inr _)
    unfold exS
    rw [hgd]
theorem own_4 (hv : ∀ ev ∈ s, EvV n ev) (hn : n ≤ 64) (hs : s.length ≤ 64) {e : Nat} {ev : List (List Nat)} (hev : s[e]? = some ev) {r : List (Int × Int)} (hr : Seats ev r) : ∀ (k x f : Nat), x + k = n → k < f →
  evening_exchange_d_4 n (toI3 s) n (celM n (meetS n s)) e (toI2 ev) r f x = some (outO n (fx n s e k x))
 | 0, x, f + 1, h, _ => by
  unfold evening_exchange_d_4
  rw [if_neg (by simp; omega)]; rfl
 | k + 1, x, f + 1, h, hf => by
  have ih := own_4 hv hn hs hev hr k (x + 1) f (by omega) (by omega)
  have h5 := own_5 hv hn hs hev hr (x := x) (by omega) k (x + 1) 100000 (by omega) (by omega) (by omega)
  unfold evening_exchange_d_4
  rw [if_pos (by simp; omega), wr_i (by omega) (by omega), show ((x : Int) + 1) = ((x + 1 : Nat) : Int) by simp, h5]
  simp only [Option.bind_some]
  conv => rhs; unfold fx
  cases fy n s e x k (x + 1) with
  | none => exact ih
  | some s' => rfl
theorem own_1 (hv : ∀ ev ∈ s, EvV n ev) (n1 : 1 ≤ n) (hn : n ≤ 64) (hs : s.length ≤ 64) : ∀ (k e f : Nat), e + k = s.length → k < f →
  evening_exchange_d_1 n (toI3 s) n (celM n (meetS n s)) f e = some (outO n (fe n s k e))
 | 0, e, f + 1, h, _ => by
  unfold evening_exchange_d_1
  rw [if_neg (by rw [toI3_len]; simp; omega)]; rfl
 | k + 1, e, f + 1, h, hf => by
  have ih := own_1 hv n1 hn hs k (e + 1) f (by omega) (by omega)
  have hev : s[e]? = some s[e] := List.getElem?_eq_getElem (by omega)
  have he : EvV n s[e] := hv _ (List.getElem_mem _)
  obtain ⟨r, h2, hrl, hr⟩ := seats_ok he hn
  have h4 := own_4 hv hn hs hev hr n 0 100000 (by omega) (by omega)
  rw [show ((0 : Nat) : Int) = 0 from rfl] at h4
  unfold evening_exchange_d_1
  rw [if_pos (by rw [toI3_len]; simp; omega), idx_I3 hev]
  simp only [Option.bind_some]
  rw [if_pos (by unfold mkOk; simp; omega), h2]
  simp only [Option.bind_some]
  rw [h4]
  simp only [Option.bind_some]
  conv => rhs; unfold fe
  cases fx n s e n 0 with
  | none =>
   simp only [outO]
   rw [wr_i (by omega) (by omega), show ((e : Int) + 1) = ((e + 1 : Nat) : Int) by simp]
   exact ih
  | some s' => rfl
theorem exchange_eq (hv : ∀ ev ∈ s, EvV n ev) (n1 : 1 ≤ n) (hn : n ≤ 64) (hs : s.length ≤ 64) : evening_exchange_d n (toI3 s) n (celM n (meetS n s)) = some (match fe n s s.length 0 with
  | none => (false, toI3 s, celM n (meetS n s))
  | some s' => (true, toI3 s', celM n (meetS n s'))) := by
 have h := own_1 hv n1 hn hs s.length 0 100000 (by omega) (by omega)
 rw [show ((0 : Nat) : Int) = 0 from rfl] at h
 unfold evening_exchange_d
 rw [h]
 simp only [Option.bind_some]
 cases fe n s s.length 0 <;> rfl
end
section
variable {n : Nat} {s : List (List (List Nat))}
theorem idx_A (A C : List (List Nat)) (t : List Nat) : idx (toI2 (A ++ t :: C)) (A.length : Int) = some (toI1 t) := idx_I2 (by simp)
end
/- trestle/evening.Polish -/
def evening_Polish_d_1 (x0 : Int) (x2 : Int) (v13 : Int × (List Int)) : Nat → Int → (List (List (List Int))) → (List Int) → Option ((Int × (List (List (List Int)))))
 | 0, _, _, _ => none
 | f + 1, c21, c22, c23 =>
  (if (decide (c21 < x2)) = true then (evening_exchange_d x0 c22 v13.1 c23).bind fun v26 =>
  some (v26.1, v26.2.1, v26.2.2) else some (false, c22, c23)).bind fun j29 =>
  if j29.1 = true then
  evening_Polish_d_1 x0 x2 v13 f (wr .i64 (c21 + 1)) j29.2.1 j29.2.2
  else
  some (c21, j29.2.1)
def evening_Polish_d (x0 : Int) (x1 : (List (List (List Int)))) (x2 : Int) : Option (Int × Int × (List (List (List Int)))) :=
 (evening_Check x0 [] x1).bind fun v1 =>
 if (v1.2 != 0) = true then
 some (0, v1.2, ([] : (List (List (List Int)))))
 else
 if (decide (x2 < 0)) = true then
 some (0, 2, ([] : (List (List (List Int)))))
 else
 (evening_clone_d x1).bind fun v6 =>
 (evening_meetings x0 x1).bind fun v13 =>
 (evening_Polish_d_1 x0 x2 v13 100000 0 v6 v13.2).bind fun r50 =>
 some (r50.1, 0, r50.2)
/- trestle/trestleref09.Polish -/
/- trestle/trestlelaw09.polishes -/
/- trestle/trestlelaw09.EveningPolishes -/
/-- Exchanges, at most k of them. -/
def pol (n : Nat) : Nat → List (List (List Nat)) → Nat → List (List (List Nat)) × Nat
 | 0, s, c => (s, c)
 | k + 1, s, c => match fe n s s.length 0 with
  | none => (s, c)
  | some s' => pol n k s' (c + 1)
section
variable {n : Nat}
theorem fe_evv {s s' : List (List (List Nat))} (hv : ∀ ev ∈ s, EvV n ev) (h : fe n s s.length 0 = some s') : (∀ ev ∈ s', EvV n ev) ∧ s'.length = s.length := by
 obtain ⟨e, x, y, h1, h2, h3, _, rfl⟩ := fe_some s.length 0 h
 exact exS_evv hv (by omega) (by omega) h3
theorem pol_evv : ∀ (k : Nat) (s : List (List (List Nat))) (c : Nat), (∀ ev ∈ s, EvV n ev) → (∀ ev ∈ (pol n k s c).1, EvV n ev) ∧ (pol n k s c).1.length = s.length
 | 0, _, _, h => ⟨h, rfl⟩
 | k + 1, s, c, h => by
  unfold pol
  cases hf : fe n s s.length 0 with
  | none => exact ⟨h, rfl⟩
  | some s' =>
   obtain ⟨h1, h2⟩ := fe_evv h hf
   obtain ⟨h3, h4⟩ := pol_evv k s' (c + 1) h1
   exact ⟨h3, h4.trans h2⟩
theorem own_pol (n1 : 1 ≤ n) (hn : n ≤ 64) (y : List Int) : ∀ (k : Nat) (s : List (List (List Nat))) (c f R : Nat), (∀ ev ∈ s, EvV n ev) → s.length ≤ 64 → c + k = R → R ≤ 1000 → k < f → evening_Polish_d_1 n R ((n : Int), y) f c (toI3 s) (celM n (meetS n s)) = some ((((pol n k s c).2 : Nat) : Int), toI3 (pol n k s c).1)
 | 0, s, c, f + 1, R, _, _, h, _, _ => by
  unfold evening_Polish_d_1
  rw [if_neg (by simp; omega)]; rfl
 | k + 1, s, c, f + 1, R, hv, hs, h, hR, hf => by
  unfold evening_Polish_d_1
  rw [if_pos (by simp; omega)]
  show ((evening_exchange_d n (toI3 s) n (celM n (meetS n s))).bind _).bind _ = _
  rw [exchange_eq hv n1 hn hs]
  unfold pol
  cases hq : fe n s s.length 0 with
  | none => rfl
  | some s' =>
   obtain ⟨h1, h2⟩ := fe_evv hv hq
   have ih := own_pol n1 hn y k s' (c + 1) f R h1 (by omega) (by omega) hR (by omega)
   simp only [Option.bind_some, if_true]
   rw [wr_i (by omega) (by omega), show ((c : Int) + 1) = ((c + 1 : Nat) : Int) by simp]
   exact ih
end
section
variable {n : Nat} {s : List (List (List Nat))}
/- An exchange at one table. -/
theorem sx_tab {t : List Nat} {x y : Nat} (hx : x ∈ t) (hy : y ∈ t) (hd : t.Nodup) : (t.map (sx x y)).Perm t := perm_of_subN _ _ hd (fun z hz => List.mem_map.2 ⟨sx x y z, by
 unfold sx
 split
 ·exact hy
 ·split
  ·exact hx
  ·exact hz, sx_self x y z⟩) (by simp)
theorem meetT_perm (u : Nat → Int) {t t' : List Nat} (h : t'.Perm t) : sU u (meetT n [] t') = sU u (meetT n [] t) := by
 rw [sU_meetT, sU_meetT, List.nil_append, List.nil_append, sU_perm h, sU_perm h]
 congr 1
 exact sU_congr fun a _ => sU_perm h
theorem sq_tog (hv : ∀ ev ∈ s, EvV n ev) (hn : n ≤ 64) {e x y : Nat} (he : e < s.length) (ht : togB x y (s.getD e []) = true) : sqM n (exS s e x y) = sqM n s := by
 obtain ⟨ev, hev⟩ : ∃ ev, s[e]? = some ev := ⟨_, List.getElem?_eq_getElem he⟩
 have hE := hv _ (List.mem_of_getElem? hev)
 have hg : s.getD e [] = ev := by rw [List.getD_eq_getElem?_getD, hev]; rfl
 rw [hg] at ht
 obtain ⟨T, hT, hxy⟩ := List.any_eq_true.1 ht
 simp only [Bool.and_eq_true, decide_eq_true_eq] at hxy
 obtain ⟨i, hi⟩ := List.mem_iff_getElem?.1 hT
 have key : ∀ (u : Nat → Int), sU u (meetE n (exE x y ev)) = sU u (meetE n ev) := fun u => by
  have flat : ∀ (w : List (List Nat)), sU u (meetE n w) = sU (fun t => sU u (meetT n [] t)) w := by
   intro w
   induction w with
   | nil => rfl
   | cons t w ih => simp only [meetE, sU_app, sU, ih]
  rw [flat, flat]
  unfold exE
  rw [sU_map]
  refine sU_congr fun t htm => ?_
  obtain ⟨j, hj⟩ := List.mem_iff_getElem?.1 htm
  by_cases h1 : x ∈ t
  ·have hji := hE.uq hn hi hj hxy.1 h1
   subst hji
   rw [hi] at hj
   injection hj with hj
   subst hj
   exact meetT_perm u (sx_tab hxy.1 hxy.2 (hE.tnd hT))
  ·by_cases h2 : y ∈ t
   ·have hji := hE.uq hn hi hj hxy.2 h2
    subst hji
    rw [hi] at hj
    injection hj with hj
    subst hj
    exact (h1 hxy.1).elim
   ·rw [map_sx_id h1 h2]
 have hc : ∀ c, (meetE n (exE x y ev)).count c = (meetE n ev).count c := fun c => by
  have := key fun d => if d = c then 1 else 0
  rw [sU_count, sU_count] at this
  omega
 obtain ⟨pre, post, hs, hp⟩ : ∃ pre post, s = pre ++ ev :: post ∧ pre.length = e := ⟨s.take e, s.drop (e + 1), by
  have h1 := (List.getElem?_eq_some_iff.1 hev).2
  rw [← h1, List.getElem_cons_drop]
  simp, by simp; omega⟩
 have hs' : exS s e x y = pre ++ exE x y ev :: post := by
  unfold exS
  rw [hg]
  conv => lhs; rw [hs]
  rw [← hp]
  simp
 unfold sqM
 rw [hs']
 conv => rhs; rw [hs]
 congr 1
 refine celM_congr fun c => ?_
 rw [meetS_app, meetS_app]
 simp only [meetS, List.count_append, hc]
theorem exE_comm (x y : Nat) (ev : List (List Nat)) : exE x y ev = exE y x ev := List.map_congr_left fun t _ => List.map_congr_left fun z _ => sx_comm x y z
theorem exE_same (x : Nat) (ev : List (List Nat)) : exE x x ev = ev := by
 unfold exE
 conv => rhs; rw [← List.map_id ev]
 refine List.map_congr_left fun t _ => ?_
 conv => rhs; rw [show id t = t from rfl, ← List.map_id t]
 exact List.map_congr_left fun z _ => by
  unfold sx
  by_cases h : z = x
  ·rw [if_pos h]; exact h.symm
  ·rw [if_neg h, if_neg h]; rfl
/-- Where the search ends, no exchange makes the strain less. -/
theorem no_less (hv : ∀ ev ∈ s, EvV n ev) (hn : n ≤ 64) (hf : fe n s s.length 0 = none) {e x y : Nat} (he : e < s.length) (hx : x < n) (hy : y < n) : sqM n s ≤ sqM n (exS s e x y) := by
 have key : ∀ a b, a < b → b < n → sqM n s ≤ sqM n (exS s e a b) := fun a b hab hb => by
  have hg := fe_none s.length 0 hf e a b (by omega) (by omega) hab hb
  unfold gdB at hg
  cases ht : togB a b (s.getD e []) with
  | true => rw [sq_tog hv hn he ht]; exact Int.le_refl _
  | false =>
   rw [ht] at hg
   simp only [Bool.not_false, Bool.true_and, decide_eq_false_iff_not] at hg
   omega
 rcases Nat.lt_trichotomy x y with h | h | h
 ·exact key x y h hy
 ·subst h
  have : exS s e x x = s := by
   unfold exS
   rw [exE_same, List.getD_eq_getElem?_getD, List.getElem?_eq_getElem he]
   simp
  rw [this]; exact Int.le_refl _
 ·have : exS s e x y = exS s e y x := by unfold exS; rw [exE_comm]
  rw [this]
  exact key y x h hx
/- Sizes stay. -/
theorem exE_evn {sz : List Nat} {ev : List (List Nat)} (h : Evn n sz ev) {x y : Nat} (hx : x < n) (hy : y < n) : Evn n sz (exE x y ev) := by
 have := evn_nm (sxP_ord hx hy) h
 rwa [← exE_pi h.lt] at this
theorem fe_evn {sz : List Nat} {s' : List (List (List Nat))} (hv : ∀ ev ∈ s, Evn n sz ev) (h : fe n s s.length 0 = some s') : ∀ ev ∈ s', Evn n sz ev := by
 obtain ⟨e, x, y, h1, h2, h3, _, rfl⟩ := fe_some s.length 0 h
 intro ev hm
 unfold exS at hm
 rcases List.mem_or_eq_of_mem_set hm with hm | hm
 ·exact hv ev hm
 ·rw [hm, List.getD_eq_getElem?_getD, List.getElem?_eq_getElem (by omega)]
  exact exE_evn (hv _ (List.getElem_mem (by omega))) (by omega) h3
theorem pol_evn {sz : List Nat} : ∀ (k : Nat) (s : List (List (List Nat))) (c : Nat), (∀ ev ∈ s, Evn n sz ev) → ∀ ev ∈ (pol n k s c).1, Evn n sz ev
 | 0, _, _, h => h
 | k + 1, s, c, h => by
  unfold pol
  cases hf : fe n s s.length 0 with
  | none => exact h
  | some s' => exact pol_evn k s' (c + 1) (fe_evn h hf)
/-- What the exchanges have done. -/
theorem pol_facts (n1 : 1 ≤ n) (hn : n ≤ 64) : ∀ (k : Nat) (s : List (List (List Nat))) (c : Nat), (∀ ev ∈ s, EvV n ev) → s.length ≤ 64 →
  c ≤ (pol n k s c).2 ∧ (pol n k s c).2 ≤ c + k ∧ sqM n (pol n k s c).1 + 2 * (((pol n k s c).2 : Int) - (c : Int)) ≤ sqM n s ∧ ((pol n k s c).2 = c → (pol n k s c).1 = s) ∧ ((pol n k s c).2 < c + k → fe n (pol n k s c).1 (pol n k s c).1.length 0 = none)
 | 0, s, c, _, _ => ⟨Nat.le_refl _, Nat.le_refl _, by simp [pol], fun _ => rfl, fun h => by simp [pol] at h⟩
 | k + 1, s, c, hv, hs => by
  unfold pol
  cases hf : fe n s s.length 0 with
  | none => exact ⟨Nat.le_refl _, by simp, by simp, fun _ => rfl, fun _ => hf⟩
  | some s' =>
   obtain ⟨h1, h2⟩ := fe_evv hv hf
   obtain ⟨i1, i2, i3, i4, i5⟩ := pol_facts n1 hn k s' (c + 1) h1 (by omega)
   obtain ⟨e, x, y, e1, e2, e3, e4, rfl⟩ := fe_some s.length 0 hf
   unfold gdB at e4
   simp only [Bool.and_eq_true, decide_eq_true_eq] at e4
   obtain ⟨v, v1, _, _⟩ := strain_val (vs_of n1 hn hs hv)
   obtain ⟨v', v1', _, _⟩ := strain_val (vs_of n1 hn (by omega) h1)
   have q1 : sqM n s = 2 * v := v1
   have q2 : sqM n (exS s e x y) = 2 * v' := v1'
   refine ⟨by simp only; omega, by simp only; omega, by simp only; omega, fun h => by simp only at h; omega, fun h => ?_⟩
   simp only at h ⊢
   exact i5 (by omega)
end
theorem pol1_same (x0 x2 : Int) (v : Int × List Int) : ∀ (f : Nat) (c : Int) (a : List (List (List Int))) (m : List Int), evening_Polish_1 x0 x2 v f c a m = evening_Polish_d_1 x0 x2 v f c a m
 | 0, _, _, _ => rfl
 | f + 1, c, a, m => by
  unfold evening_Polish_1 evening_Polish_d_1
  simp only [pol1_same x0 x2 v f]
theorem own_polish2 {n : Nat} {s : List (List (List Nat))} (n1 : 1 ≤ n) (hn : n ≤ 64) (hv : ∀ ev ∈ s, EvV n ev) (hs : s.length ≤ 64) {R : Nat} (hR : R ≤ 1000) (hc : evening_Check n [] (toI3 s) = some (0, 0)) : evening_Polish n (toI3 s) R = some (toI3 (pol n R s 0).1, (((pol n R s 0).2 : Nat) : Int), 0) := by
 have sl := small_lens hn hv hs
 have h := own_pol n1 hn (celM n (meetS n s)) R s 0 100000 R hv hs (by omega) hR (by omega)
 rw [show ((0 : Nat) : Int) = 0 from rfl] at h
 unfold evening_Polish
 rw [hc]
 simp only [Option.bind_some, bne_self_eq_false, Bool.false_eq_true, if_false]
 rw [if_neg (by simp), clone_eq _ sl.1 sl.2]
 simp only [Option.bind_some]
 rw [meetings_eq (evv_small hn (by omega) hv).2]
 simp only [Option.bind_some]
 rw [pol1_same, h]
 rfl
/- The own copy. -/
theorem copyd_2 (ev : List (List Int)) (hel : ev.length ≤ 50000) (hl : ∀ t ∈ ev, t.length ≤ 50000) : ∀ (r pre : List (List Int)) (f : Nat), ev = pre ++ r → r.length < f → law09_Copy_d_2 ev f pre.length pre = some ev
 | [], pre, f + 1, h, _ => by
  unfold law09_Copy_d_2
  rw [if_neg (by rw [h]; simp), h, List.append_nil]
 | t :: r, pre, f + 1, h, hf => by
  have htl := hl t (by rw [h]; simp)
  have hlen : ev.length = pre.length + (r.length + 1) := by rw [h]; simp
  have ih := copyd_2 ev hel hl r (pre ++ [t]) f (by rw [h]; simp) (by simp at hf; omega)
  unfold law09_Copy_d_2
  rw [if_pos (by simp; omega), show idx ev (pre.length : Int) = some t by rw [h]; exact idx_app pre t r]
  simp only [Option.bind_some]
  rw [if_pos (capOk_le (by omega) (by omega)), if_pos (capOk_le (by omega) (by simp; omega)), if_pos (by unfold cutB; simp; omega), if_pos (capOk_le (by omega) (by simp; omega)), wr_i (by omega) (by omega), show ((pre.length : Int) + 1) = ((pre ++ [t]).length : Int) by simp, show (t ++ [(-9 : Int)]).take ((t.length : Int)).toNat = t by simp]
  exact ih
theorem copyd_1 (s : List (List (List Int))) (hsl : s.length ≤ 50000) (hl : ∀ ev ∈ s, ev.length ≤ 50000 ∧ ∀ t ∈ ev, t.length ≤ 50000) : ∀ (r pre : List (List (List Int))) (f : Nat), s = pre ++ r → r.length < f → law09_Copy_d_1 s f pre.length pre = some s
 | [], pre, f + 1, h, _ => by
  unfold law09_Copy_d_1
  rw [if_neg (by rw [h]; simp), h, List.append_nil]
 | ev :: r, pre, f + 1, h, hf => by
  have he := hl ev (by rw [h]; simp)
  have hlen : s.length = pre.length + (r.length + 1) := by rw [h]; simp
  have ih := copyd_1 s hsl hl r (pre ++ [ev]) f (by rw [h]; simp) (by simp at hf; omega)
  have h2 := copyd_2 ev he.1 he.2 ev [] 100000 rfl (by omega)
  rw [show ((([] : List (List Int)).length : Nat) : Int) = 0 from rfl] at h2
  unfold law09_Copy_d_1
  rw [if_pos (by simp; omega), show idx s (pre.length : Int) = some ev by rw [h]; exact idx_app pre ev r]
  simp only [Option.bind_some]
  rw [h2]
  simp only [Option.bind_some]
  rw [if_pos (capOk_le (by omega) (by simp; omega)), wr_i (by omega) (by omega), show ((pre.length : Int) + 1) = ((pre ++ [ev]).length : Int) by simp]
  exact ih
theorem copyd_eq (s : List (List (List Int))) (hsl : s.length ≤ 50000) (hl : ∀ ev ∈ s, ev.length ≤ 50000 ∧ ∀ t ∈ ev, t.length ≤ 50000) : law09_Copy_d s = some s := by
 have h := copyd_1 s hsl hl s [] 100000 rfl (by omega)
 rw [show ((([] : List (List (List Int))).length : Nat) : Int) = 0 from rfl] at h
 unfold law09_Copy_d
 rw [h]; rfl
/- The exchange that the law makes. -/
section
variable {n : Nat}
theorem bt_3 {x4 x5 : Int} {v1 : List (List (List Int)) × List Int × Int} {x y : Nat} (hx : (wr .i64 x4).tmod v1.2.2 = (x : Int)) (hy : (wr .i64 x5).tmod v1.2.2 = (y : Int)) (A : List (List Nat)) (t0 : List Nat) (C : List (List Nat)) (v36 : List Int) (hlen : v36.length ≤ 1000) : ∀ (r p : List Nat) (f : Nat), r.length < f → v36.length = p.length + r.length →
  law09_EveningBetter_3 x4 x5 v1 A.length (toI2 (A ++ t0 :: C)) v36 f p.length (toI1 (p ++ r)) = some (toI2 (A ++ (p ++ r.map (sx x y)) :: C))
 | [], p, f + 1, _, hl => by
  unfold law09_EveningBetter_3
  rw [if_neg (by rw [hl]; simp)]
  simp only [Int.toNat_natCast, List.append_nil, List.map_nil]
  rw [toI2_set]
  simp
 | z :: r, p, f + 1, hf, hl => by
  simp only [List.length_cons] at hf hl
  have ih := bt_3 hx hy A t0 C v36 hlen r (p ++ [sx x y z]) f (by omega) (by simp; omega)
  have ip : idx (toI1 (p ++ z :: r)) (p.length : Int) = some (z : Int) := idx_I1 (by simp)
  have hj : law09_EveningBetter_j4 x4 x5 v1 p.length (toI1 (p ++ z :: r)) z = some (toI1 (p ++ sx x y z :: r)) := by
   unfold law09_EveningBetter_j4
   rw [hx, hy]
   by_cases h1 : z = x
   ·rw [if_pos (by simp [h1]), ip]
    simp only [Option.bind_some, Int.toNat_natCast]
    rw [toI1_set, h1]
    unfold sx
    rw [if_pos rfl]
    simp
   ·rw [if_neg (by simp; omega)]
    unfold law09_EveningBetter_j5
    rw [hx, hy]
    by_cases h2 : z = y
    ·rw [if_pos (by simp [h2]), ip]
     simp only [Option.bind_some, Int.toNat_natCast]
     rw [toI1_set]
     unfold sx
     rw [if_neg h1, if_pos h2]
     simp
    ·rw [if_neg (by simp; omega)]
     simp only [Option.bind_some]
     unfold sx
     rw [if_neg h1, if_neg h2]
  unfold law09_EveningBetter_3
  rw [if_pos (by rw [hl]; simp; omega), ip]
  simp only [Option.bind_some]
  rw [hj]
  simp only [Option.bind_some]
  rw [wr_i (by omega) (by omega), show ((p.length : Int) + 1) = ((p ++ [sx x y z]).length : Int) by simp, show p ++ sx x y z :: r = (p ++ [sx x y z]) ++ r by simp, ih]
  simp
theorem bt_2 {x3 x4 x5 : Int} {v1 : List (List (List Int)) × List Int × Int} {x y e : Nat} (hx : (wr .i64 x4).tmod v1.2.2 = (x : Int)) (hy : (wr .i64 x5).tmod v1.2.2 = (y : Int)) (he : (wr .i64 x3).tmod (v1.1.length : Int) = (e : Int)) (s : List (List (List Nat))) (v29 : List (List Int)) (hl29 : v29.length ≤ 1000) : ∀ (r A : List (List Nat)) (f : Nat), r.length < f → v29.length = A.length + r.length → (∀ t ∈ r, t.length ≤ 1000) →
  law09_EveningBetter_2 x3 x4 x5 v1 (toI3 s) v29 f A.length (toI2 (A ++ r)) = some (toI3 (s.set e (A ++ exE x y r)))
 | [], A, f + 1, _, hl, _ => by
  unfold law09_EveningBetter_2
  rw [if_neg (by rw [hl]; simp), he]
  simp only [Int.toNat_natCast]
  rw [toI3_set]
  simp [exE]
 | t :: r, A, f + 1, hf, hl, ht => by
  simp only [List.length_cons] at hf hl
  have ih := bt_2 hx hy he s v29 hl29 r (A ++ [t.map (sx x y)]) f (by omega) (by simp; omega) fun u hu => ht u (by simp [hu])
  have h3 := bt_3 hx hy A t r (toI1 t) (by rw [toI1_len]; exact ht t (by simp)) t [] 100000 (by have := ht t (by simp); omega) (by simp [toI1])
  rw [show ((([] : List Nat).length : Nat) : Int) = 0 from rfl, List.nil_append, List.nil_append] at h3
  unfold law09_EveningBetter_2
  rw [if_pos (by rw [hl]; simp; omega), idx_A]
  simp only [Option.bind_some]
  rw [h3]
  simp only [Option.bind_some]
  rw [wr_i (by omega) (by omega), show ((A.length : Int) + 1) = ((A ++ [t.map (sx x y)]).length : Int) by simp, show A ++ t.map (sx x y) :: r = (A ++ [t.map (sx x y)]) ++ r by simp, ih]
  simp [exE]
end
theorem tm_nat {a : Int} {m : Nat} (h0 : 0 ≤ a ∧ a ≤ 255) (_hm : 1 ≤ m) : ∃ k : Nat, (wr .i64 a).tmod (m : Int) = (k : Int) ∧ k < m := by
 rw [wr_i (by omega) (by omega)]
 obtain ⟨k, rfl⟩ := Int.eq_ofNat_of_zero_le h0.1
 refine ⟨k % m, ?_, Nat.mod_lt _ (by omega)⟩
 rw [Int.tmod_eq_emod_of_nonneg h0.1]
 rfl
theorem chk0 {n : Nat} {s : List (List (List Nat))} (n1 : 1 ≤ n) (hn : n ≤ 64) (hs : s.length ≤ 64) (hv : ∀ ev ∈ s, EvV n ev) : evening_Check n [] (toI3 s) = some (0, 0) := by
 have hl : ∀ ev ∈ toI3 s, ev.length ≤ 50000 ∧ ev.flatten.length ≤ 50000 := fun ev he => by
  obtain ⟨u, hu, rfl⟩ := List.mem_map.1 he
  have h := hv u hu
  have := h.elen
  have := h.flen
  rw [toI2_len, toI2_flat, toI1_len]
  omega
 have c2 := (check_both n ⟨by omega, by omega⟩ [] (by simp) (toI3 s) (by rw [toI3_len]; omega) hl).1
 rwa [chkAll_evv n1 hn hs hv] at c2
theorem sq_bd : ∀ (xs : List Int), (∀ v ∈ xs, 0 ≤ v ∧ v ≤ 64) → 0 ≤ sqSum xs ∧ sqSum xs ≤ 4096 * (xs.length : Int)
 | [], _ => by simp [sqSum]
 | v :: r, h => by
  have ih := sq_bd r fun u hu => h u (by simp [hu])
  have hv := h v (by simp)
  have a := Int.mul_nonneg hv.1 hv.1
  have b := Int.mul_le_mul hv.2 hv.2 hv.1 (by omega)
  simp only [sqSum, List.length_cons]
  omega
theorem sqM_bd {n : Nat} (hn : n ≤ 64) {s : List (List (List Nat))} (hv : ∀ ev ∈ s, EvV n ev) (hs : s.length ≤ 64) : 0 ≤ sqM n s ∧ sqM n s ≤ 20000000 := by
 have h := sq_bd (celM n (meetS n s)) fun v hm => by
  obtain ⟨c, hc⟩ := List.mem_iff_getElem?.1 hm
  have hlt := (List.getElem?_eq_some_iff.1 hc).1
  have e : (celM n (meetS n s)).getD c 0 = v := by rw [List.getD_eq_getElem?_getD, hc]; rfl
  have b := mt_bd hv hs c
  rw [celM_len] at hlt
  rw [e] at b
  rw [celM_getD _ hlt] at e
  omega
 rw [celM_len] at h
 have h2 : n * n ≤ 64 * 64 := Nat.mul_le_mul hn hn
 unfold sqM
 omega
theorem better_law (codes : List Int) (hl : codes.length ≤ 140737488355328) (hc : ∀ c ∈ codes, 0 ≤ c ∧ c ≤ 255) (sw : List (List (Int × Int))) (hs1 : sw.length ≤ 140737488355328) (hx1 : ∀ l ∈ sw, l.length ≤ 140737488355328 ∧ ∀ p ∈ l, (0 ≤ p.1 ∧ p.1 ≤ 255) ∧ 0 ≤ p.2 ∧ p.2 ≤ 255) (x2 x3 x4 x5 : Int) (h2 : 0 ≤ x2 ∧ x2 ≤ 255) (h3 : 0 ≤ x3 ∧ x3 ≤ 255) (h4 : 0 ≤ x4 ∧ x4 ≤ 255) (h5 : 0 ≤ x5 ∧ x5 ≤ 255) : law09_EveningBetter codes sw x2 x3 x4 x5 = some true := by
 have hw : law09_awake = some true := rfl
 obtain ⟨s, sz, n, hm, ok⟩ := made_eq codes hl hc sw hs1 hx1
 obtain ⟨zsum, zpos, zlen, n1, n48⟩ := ok.sz_
 have hn : n ≤ 64 := by omega
 have hlen := ok.len
 have hv : ∀ ev ∈ s, EvV n ev := fun ev he => evv_evn (ok.ev ev he)
 obtain ⟨R, hR, hR30⟩ : ∃ R : Nat, wr .i64 (x2.tmod 31) = (R : Int) ∧ R ≤ 30 := by
  refine ⟨x2.toNat % 31, ?_, by omega⟩
  rw [Int.tmod_eq_emod_of_nonneg h2.1, wr_i (by omega) (by omega)]
  omega
 have c0 := chk0 n1 hn (by omega) hv
 have P := own_polish2 n1 hn hv (by omega) (R := R) (by omega) c0
 obtain ⟨q1, q2⟩ := pol_evv (n := n) R s 0 hv
 have qe := pol_evn (n := n) R s 0 ok.ev
 obtain ⟨f1, f2, f3, f4, f5⟩ := pol_facts n1 hn R s 0 hv (by omega)
 generalize hO : (pol n R s 0).1 = out at *
 generalize hD : (pol n R s 0).2 = dn at *
 have hf : fitP n (toI1 sz) = true := fit_sum n1 hn zpos zsum
 obtain ⟨cO, _⟩ := evn_check n1 hn (by omega) qe (by omega) hf (by omega)
 obtain ⟨v, v1, v2, _⟩ := strain_val (vs_of n1 hn (by omega) hv)
 obtain ⟨v', v1', v2', _⟩ := strain_val (vs_of n1 hn (by omega) q1)
 have e1 : sqM n s = 2 * v := v1
 have e2 : sqM n out = 2 * v' := v1'
 have bv : 0 ≤ v ∧ v ≤ 1000000000000 := by have := sqM_bd hn hv (by omega); omega
 have sl := small_lens hn hv (by omega)
 have slO := small_lens hn q1 (by omega)
 unfold law09_EveningBetter
 rw [hm]
 simp only [Option.bind_some]
 rw [hR, P]
 simp only [Option.bind_some]
 rw [cO]
 simp only [Option.bind_some, bne_self_eq_false, Bool.false_eq_true, if_false, toI3_len, q2]
 rw [if_neg (by simp), decide_eq_false (show ¬ ((dn : Int) > (R : Int)) by omega)]
 simp only [Option.bind_some, Bool.false_eq_true, if_false]
 rw [v2, v2']
 simp only [Option.bind_some]
 rw [wr_i (by omega) (by omega), if_neg (by simp; omega)]
 have hsame : (if ((dn : Int) == 0) = true then (law09_Same (toI3 s) (toI3 out)).bind fun v11 => some (!v11) else some false) = some false := by
  by_cases h0 : dn = 0
  ·rw [if_pos (by simp [h0]), f4 h0, same_self _ sl.1 sl.2]; rfl
  ·rw [if_neg (by simp; omega)]
 rw [hsame]
 simp only [Option.bind_some, Bool.false_eq_true, if_false]
 by_cases hlt : dn < R ∧ 0 < s.length
 ·have j17 : (if decide ((dn : Int) < (R : Int)) = true then some (decide ((s.length : Int) > 0)) else some false) = some true := by
   rw [if_pos (by simp; omega), decide_eq_true (by omega)]
  rw [j17]
  simp only [Option.bind_some]
  obtain ⟨x, hx, hxn⟩ := tm_nat h4 n1
  obtain ⟨y, hy, hyn⟩ := tm_nat h5 n1
  obtain ⟨e, he, hen⟩ := tm_nat h3 (show 1 ≤ s.length by omega)
  have hev : out[e]? = some out[e] := List.getElem?_eq_getElem (by omega)
  have hE := q1 _ (List.getElem_mem (show e < out.length by omega))
  have b2 := bt_2 (x3 := x3) (x4 := x4) (x5 := x5) (v1 := (toI3 s, toI1 sz, (n : Int))) hx hy (by rw [toI3_len]; exact he) out (toI2 out[e]) (by rw [toI2_len]; have := hE.elen; omega) out[e] [] 100000 (by have := hE.elen; omega) (by simp [toI2]) (fun t ht => by have := hE.tlen ht; omega)
  rw [show ((([] : List (List Nat)).length : Nat) : Int) = 0 from rfl, List.nil_append, List.nil_append] at b2
  have hex : out.set e (exE x y out[e]) = exS out e x y := by
   unfold exS
   rw [List.getD_eq_getElem?_getD, hev]; rfl
  rw [hex] at b2
  obtain ⟨x1, x2'⟩ := exS_evv q1 (show e < out.length by omega) hxn hyn
  obtain ⟨w, w1, w2, _⟩ := strain_val (vs_of n1 hn (by omega) x1)
  have e3 : sqM n (exS out e x y) = 2 * w := w1
  have nl := no_less q1 hn (f5 (by omega)) (show e < out.length by omega) hxn hyn
  have J : law09_EveningBetter_j1 x3 x4 x5 (toI3 s, toI1 sz, (n : Int)) (toI3 out, (dn : Int), 0) v' true = some (.inl ()) := by
   unfold law09_EveningBetter_j1
   rw [if_pos rfl, copyd_eq _ slO.1 slO.2]
   simp only [Option.bind_some]
   rw [if_neg (by omega), if_neg (by omega), if_neg (by rw [toI3_len]; omega), toI3_len, he, idx_I3 hev]
   simp only [Option.bind_some]
   rw [b2]
   simp only [Option.bind_some]
   rw [w2]
   simp only [Option.bind_some]
   rw [if_neg (by simp; omega)]
  rw [J, hw]
  rfl
 ·have j17 : (if decide ((dn : Int) < (R : Int)) = true then some (decide ((s.length : Int) > 0)) else some false) = some false := by
   by_cases h : dn < R
   ·rw [if_pos (by simp; omega), decide_eq_false (by omega)]
   ·rw [if_neg (by simp; omega)]
  rw [j17]
  have J : law09_EveningBetter_j1 x3 x4 x5 (toI3 s, toI1 sz, (n : Int)) (toI3 out, (dn : Int), 0) v' false = some (.inl ()) := by
   unfold law09_EveningBetter_j1
   rfl
  simp only [Option.bind_some]
  rw [J, hw]
  rfl
end Go.Proofs.YtcmgmkepodbpkaaDoor
namespace Go.Proofs.YtcmgmkepodbpkaaDoor.eveningBetter
open Go.ChangeShapes Go.WideShapes Go.ChangeAt Go.RowKit
theorem law_ret (a0 : (List Int)) (a1 : (List (List (Int × Int)))) (a2 : Int) (a3 : Int) (a4 : Int) (a5 : Int) (h : law09_EveningBetter a0 a1 a2 a3 a4 a5 = some true) {w : World} {v0 v1 v2 v3 v4 v5 : Value} (h0 : VR w (fun c => c < w.heap.size) [] ((cdL 1 (cdK .u8)).enc a0) v0) (h1 : VR w (fun c => c < w.heap.size) [] ((cdL 1 (cdL 2 (cdG2 (cdK .u8) (cdK .u8) (fun _ => rfl) (fun _ => rfl)))).enc a1) v1) (h2 : VR w (fun c => c < w.heap.size) [] ((cdK .u8).enc a2) v2) (h3 : VR w (fun c => c < w.heap.size) [] ((cdK .u8).enc a3) v3) (h4 : VR w (fun c => c < w.heap.size) [] ((cdK .u8).enc a4) v4) (h5 : VR w (fun c => c < w.heap.size) [] ((cdK .u8).enc a5) v5) : Ret Tryd.prog 7 #[v0, v1, v2, v3, v4, v5] w fun v w' => v = .bool true ∧ w.grownBy w' none :=
 Ret.mono (x_law09_EveningBetter.2 (cs_law09_EveningBetter.enc (a0, a1, a2, a3, a4, a5, ())) (er_law09_EveningBetter true) (told_enc (s := cs_law09_EveningBetter) (a := (a0, a1, a2, a3, a4, a5, ())) h) w (fun c => c < w.heap.size) [v0, v1, v2, v3, v4, v5] (fun c hc => hc) (fun g x h => by cases h) (.cons h0 (.cons h1 (.cons h2 (.cons h3 (.cons h4 (.cons h5 .nil))))))) fun v w' h => ⟨h.2.v_inv, h.1⟩
set_option maxRecDepth 100000 in
theorem contract (H : Type) (enc : TypeId × Value → H) (W : World) (base : Nat) (args : Array Value) (ds gs : List (DataW H)) (before : List MemPlace)
  (hval : ∀ (j : Nat) t v, Tryd.f7.params[j]? = some t → args[j]? = some v → Value.okWide Tryd.prog W .any base t v)
  (hW : DataW.Whole enc Tryd.prog Tryd.f7.params.toList Rows.eveningBetterSpec.vars false W args.toList ds gs before)
  (hsz : (DataW.weightsEach Tryd.prog (Tryd.f7.params.toList ++ (OpenSpec.ofChange Rows.eveningBetterSpec).bare.plain.varTypes Tryd.prog) (ds ++ gs)).all (· ≤ reachBytes) = true) :
  Calls Tryd.prog 7 args W fun e W' => ∃ v, e = .returned v ∧ Rows.eveningBetterSpec.post enc Tryd.prog Tryd.f7 false true false false W args v W' := by
 have hW' := hW
 obtain ⟨p, q, hA0, hV, rfl, hfz, hnd⟩ := hW
 have hA : DataW.TrodAll enc Tryd.prog W 0 (fun _ => true) true Tryd.f7.params.toList args.toList ds p := hA0
 have hpar : Tryd.f7.params = #[41, 42, 5, 5, 5, 5] := by kernel_rfl
 rw [hpar] at hA hval
 obtain ⟨v0, vs0, d0, ds0, p0, q0, hargs, rfl, rfl, h0, r0⟩ := trodAll_cons hA
 obtain ⟨v1, vs1, d1, ds1, p1, q1, rfl, rfl, rfl, h1, r1⟩ := trodAll_cons r0
 obtain ⟨v2, vs2, d2, ds2, p2, q2, rfl, rfl, rfl, h2, r2⟩ := trodAll_cons r1
 obtain ⟨v3, vs3, d3, ds3, p3, q3, rfl, rfl, rfl, h3, r3⟩ := trodAll_cons r2
 obtain ⟨v4, vs4, d4, ds4, p4, q4, rfl, rfl, rfl, h4, r4⟩ := trodAll_cons r3
 obtain ⟨v5, vs5, d5, ds5, p5, q5, rfl, rfl, rfl, h5, r5⟩ := trodAll_cons r4
 obtain ⟨rfl, rfl, rfl⟩ := trodAll_nil r5
 obtain rfl : args = #[v0, v1, v2, v3, v4, v5] := by apply Array.ext'; simpa using hargs
 obtain ⟨a0, k0, g0⟩ := rd_arg (rd_slice (by kernel_rfl : Tryd.prog.underlying 41 = some (.slice 5)) (by kernel_rfl) (by kernel_rfl) (rd_int (by kernel_rfl : Tryd.prog.underlying 5 = some (.int .u8)))) (one_slice (by kernel_rfl : Tryd.prog.underlying 41 = some (.slice 5)) (hval 0 41 v0 rfl rfl)) h0 hsz (j := 0) (by kernel_rfl) rfl
 obtain ⟨a1, k1, g1⟩ := rd_arg (rd_slice (by kernel_rfl : Tryd.prog.underlying 42 = some (.slice 52)) (by kernel_rfl) (by kernel_rfl) (rd_pairs (by kernel_rfl : Tryd.prog.underlying 52 = some (.slice 53)) (by kernel_rfl : Tryd.prog.underlying 53 = some (.array 2 5)) (by kernel_rfl : Tryd.prog.underlying 5 = some (.int .u8)) (by kernel_rfl) (by kernel_rfl) (by kernel_rfl))) (one_slice (by kernel_rfl : Tryd.prog.underlying 42 = some (.slice 52)) (hval 1 42 v1 rfl rfl)) h1 hsz (j := 1) (by kernel_rfl) rfl
 obtain ⟨a2, k2, g2⟩ := rd_arg (rd_int (by kernel_rfl : Tryd.prog.underlying 5 = some (.int .u8))) (one_int (by kernel_rfl : Tryd.prog.underlying 5 = some (.int .u8)) (hval 2 5 v2 rfl rfl)) h2 hsz (j := 2) (by kernel_rfl) rfl
 obtain ⟨a3, k3, g3⟩ := rd_arg (rd_int (by kernel_rfl : Tryd.prog.underlying 5 = some (.int .u8))) (one_int (by kernel_rfl : Tryd.prog.underlying 5 = some (.int .u8)) (hval 3 5 v3 rfl rfl)) h3 hsz (j := 3) (by kernel_rfl) rfl
 obtain ⟨a4, k4, g4⟩ := rd_arg (rd_int (by kernel_rfl : Tryd.prog.underlying 5 = some (.int .u8))) (one_int (by kernel_rfl : Tryd.prog.underlying 5 = some (.int .u8)) (hval 4 5 v4 rfl rfl)) h4 hsz (j := 4) (by kernel_rfl) rfl
 obtain ⟨a5, k5, g5⟩ := rd_arg (rd_int (by kernel_rfl : Tryd.prog.underlying 5 = some (.int .u8))) (one_int (by kernel_rfl : Tryd.prog.underlying 5 = some (.int .u8)) (hval 5 5 v5 rfl rfl)) h5 hsz (j := 5) (by kernel_rfl) rfl
 have hc := law_ret a0 a1 a2 a3 a4 a5 (better_law a0 g0.1 (fun c hc => bounds_u8 (g0.2 c hc)) a1 g1.1 (fun l hl => ⟨(g1.2 l hl).1, fun p hp => ⟨bounds_u8 ((g1.2 l hl).2 p hp).1, bounds_u8 ((g1.2 l hl).2 p hp).2⟩⟩) a2 a3 a4 a5 (bounds_u8 g2) (bounds_u8 g3) (bounds_u8 g4) (bounds_u8 g5)) k0 k1 k2 k3 k4 k5
 unfold Ret at hc
 refine hc.mono fun e W' he => ?_
 cases e with
 | returned v =>
  obtain ⟨rfl, hg⟩ := he
  exact ⟨_, rfl, post_true laidOut (fun t ht => ⟨mem_of_laid (fun t => Tryd.prog.readableRec t) (by kernel_rfl) ht, of_decide_eq_true (mem_of_laid (fun t => decide (t < Tryd.prog.types.size)) (by kernel_rfl) ht)⟩) hW' rfl (by kernel_rfl) (by kernel_rfl : Tryd.prog.underlying 4 = some .bool) rfl hg⟩
 | panicked c => exact he.elim
 | outgrown => exact he.elim
theorem laid_met (os : Os) : laidMet Tryd.prog Rows.eveningBetterRow.laid ((laidWorld os).forCall (fun _ _ => 0) ⟨#[], #[Value.slice none 0 0, Value.slice none 0 0, Value.int .u8 0, Value.int .u8 0, Value.int .u8 0, Value.int .u8 0], []⟩).memory :=
 laidMet_of_run' 8 (by kernel_rfl) (by kernel_rfl)
theorem reads (os : Os) {H : Type} (enc : TypeId × Value → H) : ∃ places, DataW.whole enc Tryd.prog ((laidWorld os).forCall (fun _ _ => 0) ⟨#[], #[Value.slice none 0 0, Value.slice none 0 0, Value.int .u8 0, Value.int .u8 0, Value.int .u8 0, Value.int .u8 0], []⟩).memory Tryd.f7.params.toList Rows.eveningBetterSpec.vars false #[Value.slice none 0 0, Value.slice none 0 0, Value.int .u8 0, Value.int .u8 0, Value.int .u8 0, Value.int .u8 0].toList 8 = some ([.nil, .nil, .lit (.int .u8 0), .lit (.int .u8 0), .lit (.int .u8 0), .lit (.int .u8 0)], [], places) :=
 ⟨[], by kernel_rfl⟩
set_option maxRecDepth 100000 in
theorem lifted (os : Os) (started : os.Started) (H : Type) (enc : TypeId × Value → H) (F : Stop.Interp) :
  ReturnsInHanded {} Tryd.checked os 7 .any ((OpenSpec.ofChange Rows.eveningBetterSpec).preRow enc Tryd.prog Tryd.f7 Rows.eveningBetterRow.domain false Rows.eveningBetterRow.laid) (((OpenSpec.ofChange Rows.eveningBetterSpec).at F).post enc Tryd.prog Tryd.f7 false true false false) := by
 obtain ⟨places, hx⟩ := reads os enc
 refine returnsInHanded_of_row (C := Tryd.checked) (s := OpenSpec.ofChange Rows.eveningBetterSpec) ownKnob0 started (by kernel_rfl) Tryd.func7
  (witness_row_at (enc := enc) (C := Tryd.checked) false (laidWorld os) #[Value.slice none 0 0, Value.slice none 0 0, Value.int .u8 0, Value.int .u8 0, Value.int .u8 0, Value.int .u8 0] rfl (by kernel_rfl) (by kernel_rfl) (by kernel_rfl)
   (OpenSpec.preRow_of_cond 8 hx (by kernel_rfl) (fun k hk => by cases hk) (by kernel_rfl) (laid_met os))) ?_
 intro W base args ds gs before hval hW _ _ hsz _ _ _
 exact contract H enc W base args ds gs before hval hW hsz
theorem said : Rows.EveningBetterSaid :=
 OpenClaim.holds_of_cond 7 Tryd.f7 rfl rfl rfl rfl rfl rfl rfl ⟨rfl, rfl, rfl, rfl, rfl⟩ rfl rfl rfl rfl rfl (by kernel_rfl) Tryd.func7 (by kernel_rfl)
  (of_decide_eq_true (by kernel_rfl)) (by unfold Func.isWrapper; first | (rw [if_pos (by decide +kernel)]; kernel_rfl) | (rw [if_neg (by decide +kernel)]; exact ⟨rfl, rfl⟩))
  (fun os started H enc _ F => by rw [OpenClaim.pre_eq_preRow]; exact lifted os started H enc F)
theorem plain (f : FuncId) (fn : Func) (hf : Tryd.pinned.checked.prog.funcNamed "trestle/trestlelaw09.EveningBetter" = some f) (hfn : Tryd.pinned.checked.prog.funcs[f]? = some fn) :
  false = Tryd.pinned.checked.prog.looks [] ∧ ∀ (j : Nat) t, fn.params[j]? = some t → Tryd.pinned.checked.prog.wantsStandIn t = false := by
 obtain rfl : f = 7 := Option.some.inj ((show Tryd.prog.funcNamed "trestle/trestlelaw09.EveningBetter" = some 7 by kernel_rfl).symm.trans hf) |>.symm
 obtain rfl : fn = Tryd.f7 := (Option.some.inj (Tryd.func7.symm.trans hfn)).symm
 refine ⟨by kernel_rfl, fun j t ht => ?_⟩
 have hm : t ∈ Tryd.f7.params.toList := by simpa using Array.mem_of_getElem? ht
 exact (show Tryd.prog.wantsStandIn t = false from Bool.not_eq_true' _ |>.mp (mem_of_laid (fun t => !Tryd.prog.wantsStandIn t) (by kernel_rfl) hm))
theorem card : Rows.EveningBetterCardSaid :=
 Claim7.holds_tied_plain_at .later [] _ _ _ _ said (fun _ h => by cases h) (by kernel_rfl) (fun _ h => by cases h) eveningBetter_row_tie rfl ⟨rfl, rfl⟩ (by kernel_rfl) rfl plain (by kernel_rfl)
end Go.Proofs.YtcmgmkepodbpkaaDoor.eveningBetter
