/- Proved: the tied card of the statement EveningMeets, with no condition of its own: the meetings of every two guests, who sits beside whom, together, the most and the least and the strain are those of the document, for every number of guests and every schedule. -/
import Derived.Test.YtnmkejapogklmaaDoorEveningMeetsM1
import Derived.Test.YtnmkejapogklmaaDoorEveningMeetsM2
import Derived.Test.YtnmkejapogklmaaDoorEveningMeetsM3
import Derived.Test.YtnmkejapogklmaaDoorEveningMeetsM4
import Derived.Test.YtnmkejapogklmaaDoorEveningMeetsM5
import Derived.Test.YtnmkejapogklmaaDoorEveningMeetsM6
namespace Go.Proofs.YtnmkejapogklmaaDoor
open Go.RowKit
def toI1 (t : List Nat) : List Int := t.map Int.ofNat
def toI2 (ev : List (List Nat)) : List (List Int) := ev.map toI1
def toI3 (s : List (List (List Nat))) : List (List (List Int)) := s.map toI2
theorem toI1_len (t : List Nat) : (toI1 t).length = t.length := by simp [toI1]
theorem toI2_len (t : List (List Nat)) : (toI2 t).length = t.length := by simp [toI2]
theorem toI3_len (t : List (List (List Nat))) : (toI3 t).length = t.length := by simp [toI3]
theorem toI2_flat : ∀ (ev : List (List Nat)), (toI2 ev).flatten = toI1 ev.flatten
  | [] => rfl
  | t :: ev => by
    show toI1 t ++ (toI2 ev).flatten = toI1 (t ++ ev.flatten)
    rw [toI2_flat ev]; simp [toI1]
theorem toI1_count (L : List Nat) (x : Nat) : (toI1 L).count (x : Int) = L.count x := by
  induction L with
  | nil => rfl
  | cons v L ih =>
    show (Int.ofNat v :: toI1 L).count (x : Int) = _
    rw [List.count_cons, List.count_cons, ih]
    congr 1
    by_cases h : v = x
    · subst h; simp
    · have : ¬ (Int.ofNat v) = (x : Int) := fun e => h (Int.ofNat.inj e)
      simp [h]
      omega
theorem mem_toI1 {L : List Nat} {v : Int} (h : v ∈ toI1 L) : ∃ j ∈ L, v = Int.ofNat j := by
  obtain ⟨j, h1, h2⟩ := List.mem_map.1 h
  exact ⟨j, h1, h2.symm⟩
/-- The cells after some counts. -/
def cel (n : Nat) (L : List Nat) : List Int := incs (zeros (n * n)) L
theorem cel_len (n : Nat) (L : List Nat) : (cel n L).length = n * n := by rw [cel, incs_len]; simp [zeros]
theorem cel_wr {n x y : Nat} (hn : n ≤ 64) (hx : x < n) (hy : y < n) : wr .i64 (wr .i64 ((x : Int) * (n : Int)) + (y : Int)) = ((x * n + y : Nat) : Int) := by
  have h1 := cell_lt hx hy
  have h2 : n * n ≤ 64 * 64 := Nat.mul_le_mul hn hn
  have e : (x : Int) * (n : Int) = ((x * n : Nat) : Int) := by simp
  have q : wr .i64 ((x * n : Nat) : Int) = ((x * n : Nat) : Int) := wr_i (by omega) (by omega)
  rw [e, q, wr_i (by omega) (by omega)]
  simp
theorem cel_idx {n x y : Nat} (L : List Nat) (hx : x < n) (hy : y < n) : idx (cel n L) ((x * n + y : Nat) : Int) = some ((L.count (x * n + y) : Nat) : Int) := by
  have h1 := cell_lt hx hy
  have h2 : x * n + y < (cel n L).length := by rw [cel_len]; exact h1
  rw [idx_lt h2]
  have := cnt_get L (n * n) (x * n + y) h1
  rw [← this, List.getD_eq_getElem?_getD]
  show some _ = some ((cel n L)[x * n + y]?.getD 0)
  rw [List.getElem?_eq_getElem h2]
  rfl
theorem cel_set {n x y : Nat} (L : List Nat) (hL : L.length ≤ 10000000) (hx : x < n) (hy : y < n) : (cel n L).set (((x * n + y : Nat) : Int)).toNat (wr .i64 (((L.count (x * n + y) : Nat) : Int) + 1)) = cel n (L ++ [x * n + y]) := by
  have h1 := cell_lt hx hy
  have hc : L.count (x * n + y) ≤ L.length := List.count_le_length
  rw [wr_i (by omega) (by omega), Int.toNat_natCast]
  have h2 : cel n (L ++ [x * n + y]) = inc (cel n L) (x * n + y) := by rw [cel, incs_app]; rfl
  rw [h2, inc]
  have := cnt_get L (n * n) (x * n + y) h1
  rw [show (cel n L).getD (x * n + y) 0 = _ from this]
theorem toI1_app (a b : List Nat) : toI1 (a ++ b) = toI1 a ++ toI1 b := by simp [toI1]
theorem idx_toI1 (pre : List Nat) (x : Nat) (r : List Nat) : idx (toI1 (pre ++ x :: r)) (pre.length : Int) = some (x : Int) := by
  rw [toI1_app, ← toI1_len pre]
  exact idx_app _ _ _
theorem idx_toI2 (pre : List (List Nat)) (x : List Nat) (r : List (List Nat)) : idx (toI2 (pre ++ x :: r)) (pre.length : Int) = some (toI1 x) := by
  have : toI2 (pre ++ x :: r) = toI2 pre ++ toI1 x :: toI2 r := by simp [toI2]
  rw [this, ← toI2_len pre]
  exact idx_app _ _ _
theorem idx_toI3 (pre : List (List (List Nat))) (x : List (List Nat)) (r : List (List (List Nat))) : idx (toI3 (pre ++ x :: r)) (pre.length : Int) = some (toI2 x) := by
  have : toI3 (pre ++ x :: r) = toI3 pre ++ toI2 x :: toI3 r := by simp [toI3]
  rw [this, ← toI3_len pre]
  exact idx_app _ _ _
theorem wr_nat {k : Nat} (h : k ≤ 1000000000) : wr .i64 ((k : Int) + 1) = ((k + 1 : Nat) : Int) := by
  rw [wr_i (by omega) (by omega)]; simp
theorem beq_nat (x y : Nat) : ((x : Int) == (y : Int)) = Nat.beq x y := by
  rw [Bool.eq_iff_iff, Nat.beq_eq]
  simp
  omega
/-- Rows of a square. -/
def rowsC (n : Nat) (cs : List Int) : Nat → Nat → List (List Int)
  | 0, _ => []
  | k + 1, x => ((cs.take ((x + 1) * n)).drop (x * n)) :: rowsC n cs k (x + 1)
theorem rows_1 (n : Nat) (hn : n ≤ 64) (cs : List Int) (hcs : cs.length = n * n) : ∀ (k x f : Nat) (out : List (List Int)), x + k = n → k < f → out.length = x → evening_square_int_rows_1 ((n : Int), cs) f out x = some (out ++ rowsC n cs k x)
  | 0, x, f + 1, out, h, _, _ => by
    unfold evening_square_int_rows_1
    rw [if_neg (by simp; omega)]
    simp [rowsC]
  | k + 1, x, f + 1, out, h, hf, ho => by
    have h2 : n * n ≤ 64 * 64 := Nat.mul_le_mul hn hn
    have hle : (x + 1) * n ≤ n * n := Nat.mul_le_mul_right n (by omega)
    have hle2 : x * n ≤ (x + 1) * n := Nat.mul_le_mul_right n (by omega)
    have hcl : (x + 1) * n ≤ cs.length := by rw [hcs]; exact hle
    have hc4 : cs.length ≤ 50000 := by rw [hcs]; exact Nat.le_trans h2 (by decide)
    have hln : ((cs.take ((x + 1) * n)).drop (x * n)).length ≤ 50000 := Nat.le_trans (by rw [List.length_drop, List.length_take]; exact Nat.le_trans (Nat.sub_le _ _) (Nat.min_le_right _ _)) hc4
    have e1 : wr .i64 ((x : Int) * (n : Int)) = ((x * n : Nat) : Int) := by
      have e : (x : Int) * (n : Int) = ((x * n : Nat) : Int) := by simp
      rw [e, wr_i (by omega) (by omega)]
    have e2 : wr .i64 ((wr .i64 ((x : Int) + 1)) * (n : Int)) = (((x + 1) * n : Nat) : Int) := by
      have e : ((x + 1 : Nat) : Int) * (n : Int) = (((x + 1) * n : Nat) : Int) := by simp
      rw [wr_nat (by omega), e, wr_i (by omega) (by omega)]
    have ih := rows_1 n hn cs hcs k (x + 1) f (out ++ [(cs.take ((x + 1) * n)).drop (x * n)]) (by omega) (by omega) (by simp; omega)
    unfold evening_square_int_rows_1
    simp only
    rw [if_pos (by simp; omega), e1, e2]
    have hcut : cutOk ((x * n : Nat) : Int) (((x + 1) * n : Nat) : Int) cs.length = true := by
      simp only [cutOk, Bool.and_eq_true, decide_eq_true_eq]
      exact ⟨⟨Int.natCast_nonneg _, Int.ofNat_le.2 hle2⟩, Int.ofNat_le.2 hcl⟩
    rw [if_pos hcut, Int.toNat_natCast, Int.toNat_natCast, clone_self _ hln]
    simp only [Option.bind_some]
    rw [if_pos (capOk_le (by omega) (by omega)), wr_nat (by omega), ih]
    simp [rowsC]
theorem rows_eq (n : Nat) (hn : n ≤ 64) (cs : List Int) (hcs : cs.length = n * n) : evening_square_int_rows ((n : Int), cs) = some (rowsC n cs n 0) := by
  unfold evening_square_int_rows
  rw [show (0 : Int) = ((0 : Nat) : Int) from rfl, rows_1 n hn cs hcs n 0 100000 [] (by omega) (by omega) rfl]
  rfl
theorem row_at {n : Nat} {cs : List Int} (hcs : cs.length = n * n) {x y : Nat} (hx : x < n) (hy : y < n) : ((cs.take ((x + 1) * n)).drop (x * n)).length = n ∧ ((cs.take ((x + 1) * n)).drop (x * n))[y]? = some (cs.getD (x * n + y) 0) := by
  have hle : (x + 1) * n ≤ n * n := Nat.mul_le_mul_right n (by omega)
  have e : (x + 1) * n = x * n + n := Nat.succ_mul x n
  have hc := cell_lt hx hy
  refine ⟨by simp; omega, ?_⟩
  rw [List.getElem?_drop, List.getElem?_take, if_pos (by omega), List.getD_eq_getElem?_getD, List.getElem?_eq_getElem (by omega)]
  rfl
theorem mkOk_nn {n : Nat} (hn : n ≤ 64) : mkOk 8 (wr .i64 ((n : Int) * (n : Int))) = true ∧ List.replicate (wr .i64 ((n : Int) * (n : Int))).toNat (0 : Int) = cel n [] := by
  have h2 : n * n ≤ 64 * 64 := Nat.mul_le_mul hn hn
  have e : (n : Int) * (n : Int) = ((n * n : Nat) : Int) := by simp
  rw [e, wr_i (by omega) (by omega)]
  refine ⟨?_, by rw [Int.toNat_natCast]; rfl⟩
  simp only [mkOk, Bool.and_eq_true, decide_eq_true_eq]
  omega
/-- Small enough for all loops. -/
structure Sml (n : Nat) (s : List (List (List Nat))) : Prop where
  n64 : n ≤ 64
  mem : ∀ ev ∈ s, ∀ t ∈ ev, ∀ x ∈ t, x < n
  ev : ∀ ev ∈ s, ev.flatten.length ≤ 90000 ∧ ev.length ≤ 90000
  len : s.length ≤ 90000
  all : s.flatten.flatten.length ≤ 90000
/-- How many pairs are counted at most. -/
def sqs : List (List Nat) → Nat
  | [] => 0
  | t :: ev => t.length * t.length + sqs ev
def sqS : List (List (List Nat)) → Nat
  | [] => 0
  | ev :: s => sqs ev + sqS s
/-- Small enough for meetings. -/
structure SmM (n : Nat) (s : List (List (List Nat))) : Prop where
  n64 : n ≤ 64
  mem : ∀ ev ∈ s, ∀ t ∈ ev, ∀ x ∈ t, x < n
  ev : ∀ ev ∈ s, (∀ t ∈ ev, t.length ≤ 2000) ∧ ev.length ≤ 90000
  len : s.length ≤ 90000
  all : sqS s ≤ 9000000
theorem sqs_le : ∀ ev : List (List Nat), (∀ t ∈ ev, t.length ≤ 64) → sqs ev ≤ 64 * ev.flatten.length
  | [], _ => by simp [sqs]
  | t :: ev, h => by
    have a := sqs_le ev fun u hu => h u (by simp [hu])
    have c : t.length * t.length ≤ 64 * t.length := Nat.mul_le_mul_right _ (h t (by simp))
    simp only [sqs, List.flatten_cons, List.length_append, Nat.mul_add]; omega
theorem sqS_le : ∀ s : List (List (List Nat)), (∀ ev ∈ s, sqs ev ≤ 4096) → sqS s ≤ s.length * 4096
  | [], _ => by simp [sqS]
  | ev :: s, h => by
    have a := sqS_le s fun u hu => h u (by simp [hu])
    have b := h ev (by simp)
    simp only [sqS, List.length_cons, Nat.succ_mul]; omega
theorem flats_le : ∀ s : List (List (List Nat)), (∀ ev ∈ s, ev.flatten.length ≤ 64) → s.flatten.flatten.length ≤ s.length * 64
  | [], _ => by simp
  | ev :: s, h => by
    have a := flats_le s fun u hu => h u (by simp [hu])
    have b := h ev (by simp)
    rw [List.flatten_cons, List.flatten_append, List.length_append, List.length_cons, Nat.succ_mul]; omega
theorem len_flat {ev : List (List Nat)} (h : ∀ t ∈ ev, t.length ≠ 0) : ev.length ≤ ev.flatten.length := by
  induction ev with
  | nil => simp
  | cons t ev ih =>
    have := ih fun u hu => h u (by simp [hu])
    have := h t (by simp)
    simp only [List.flatten_cons, List.length_append, List.length_cons]; omega
/-- Where guests who meet are counted. -/
def meetT (n : Nat) : List Nat → List Nat → List Nat
  | _, [] => []
  | pre, x :: r => (pre ++ r).map (fun y => Nat.add (Nat.mul x n) y) ++ meetT n (pre ++ [x]) r
def meetE (n : Nat) : List (List Nat) → List Nat
  | [] => []
  | t :: ev => meetT n [] t ++ meetE n ev
def meetS (n : Nat) : List (List (List Nat)) → List Nat
  | [] => []
  | ev :: s => meetE n ev ++ meetS n s
/- Meetings. -/
def inner (n x i : Nat) : Nat → List Nat → List Nat
  | _, [] => []
  | k, y :: r => (if i = k then [] else [x * n + y]) ++ inner n x i (k + 1) r
def meetG (n : Nat) (t : List Nat) : Nat → List Nat → List Nat
  | _, [] => []
  | i, x :: r => inner n x i 0 t ++ meetG n t (i + 1) r
theorem inner_len (n x i : Nat) : ∀ (r : List Nat) (k : Nat), (inner n x i k r).length ≤ r.length
  | [], _ => by simp [inner]
  | y :: r, k => by
    have := inner_len n x i r (k + 1)
    simp only [inner, List.length_append, List.length_cons]
    split
    · simp only [List.length_nil]; omega
    · simp only [List.length_singleton]; omega
theorem inner_ge (n x i : Nat) : ∀ (r : List Nat) (k : Nat), i < k → inner n x i k r = r.map fun y => x * n + y
  | [], _, _ => rfl
  | y :: r, k, h => by
    simp only [inner, List.map_cons]
    rw [if_neg (by omega), inner_ge n x i r (k + 1) (by omega)]
    rfl
theorem inner_app (n x z : Nat) (r : List Nat) : ∀ (pre : List Nat) (k i : Nat), i = k + pre.length → inner n x i k (pre ++ z :: r) = (pre ++ r).map fun y => x * n + y
  | [], k, i, h => by
    simp only [List.nil_append, inner]
    rw [if_pos (by simpa using h), inner_ge n x i r (k + 1) (by simp at h; omega)]
    rfl
  | y :: pre, k, i, h => by
    simp only [List.cons_append, inner, List.map_cons]
    simp only [List.length_cons] at h
    rw [if_neg (by omega), inner_app n x z r pre (k + 1) i (by omega)]
    rfl
theorem meetG_T (n : Nat) (t : List Nat) : ∀ (r pre : List Nat), t = pre ++ r → meetG n t pre.length r = meetT n pre r
  | [], _, _ => rfl
  | x :: r, pre, h => by
    have ih := meetG_T n t r (pre ++ [x]) (by rw [h]; simp)
    simp only [meetG, meetT]
    rw [show pre.length + 1 = (pre ++ [x]).length by simp, ih]
    congr 1
    rw [h]
    exact inner_app n x x r pre 0 pre.length (by omega)
theorem meetG_len (n : Nat) (t : List Nat) : ∀ (r : List Nat) (i : Nat), (meetG n t i r).length ≤ t.length * r.length
  | [], _ => by simp [meetG]
  | x :: r, i => by
    have := meetG_len n t r (i + 1)
    have := inner_len n x i t 0
    simp only [meetG, List.length_append, List.length_cons, Nat.mul_succ]
    omega
theorem meetT_len (n : Nat) (t : List Nat) : (meetT n [] t).length ≤ t.length * t.length := by
  rw [← meetG_T n t t [] rfl]; exact meetG_len n t t 0
theorem mtg_y {n x y : Nat} {y0 y5 y6 : Int} {y3 : List (List Int)} {y4 : List (List (List Int))} (L : List Nat) (hn : n ≤ 64) (hL : L.length ≤ 10000000) (hx : x < n) (hy : y < n) : evening_meetings_k3_y y0 n (cel n L) y3 y4 y5 y6 x y = some (cel n (L ++ [x * n + y])) := by
  unfold evening_meetings_k3_y evening_meetings_k3_y_k1
  rw [cel_wr hn hx hy, cel_idx L hx hy]
  simp only [Option.bind_some]
  rw [cel_set L hL hx hy]
theorem mtg_3 (y0 : Int) (y3 : List (List Int)) (y4 : List (List (List Int))) (y5 y6 c1 : Int) (n : Nat) (hn : n ≤ 64) (t : List Nat) (ht : ∀ x ∈ t, x < n) (htl : t.length ≤ 2000) (i x : Nat) (hx : x < n) : ∀ (r pre : List Nat) (f : Nat) (L : List Nat), t = pre ++ r → r.length < f → L.length + r.length ≤ 10000000 →
    evening_meetings_k3_3 y0 n y3 y4 y5 y6 c1 (toI1 t) i x f pre.length (cel n L) = some (cel n (L ++ inner n x i pre.length r))
  | [], pre, f + 1, L, h, _, _ => by
    unfold evening_meetings_k3_3
    rw [if_neg (by rw [toI1_len, h]; simp)]
    simp [inner]
  | y :: r, pre, f + 1, L, h, hf, hL => by
    have hy : y < n := ht y (by rw [h]; simp)
    simp only [List.length_cons] at hf hL
    have hwr : wr .i64 ((pre.length : Int) + 1) = ((pre ++ [y]).length : Int) := by
      have : pre.length ≤ t.length := by rw [h]; simp
      rw [wr_nat (by omega)]; simp
    have rec_ := fun L' hL' => mtg_3 y0 y3 y4 y5 y6 c1 n hn t ht htl i x hx r (pre ++ [y]) f L' (by rw [h]; simp) (by omega) hL'
    unfold evening_meetings_k3_3
    rw [if_pos (by rw [toI1_len, h]; simp; omega), show idx (toI1 t) (pre.length : Int) = some (y : Int) by rw [h]; exact idx_toI1 pre y r]
    simp only [Option.bind_some, inner]
    by_cases e : i = pre.length
    · rw [if_neg (by simp [e]), if_pos e, hwr, rec_ L (by omega)]
      simp
    · rw [if_pos (by simp; omega), if_neg e, mtg_y L hn (by omega) hx hy]
      simp only [Option.bind_some]
      rw [hwr, rec_ _ (by simp; omega)]
      simp
theorem mtg_2 (y0 : Int) (y3 : List (List Int)) (y4 : List (List (List Int))) (y5 y6 c1 : Int) (n : Nat) (hn : n ≤ 64) (t : List Nat) (ht : ∀ x ∈ t, x < n) (htl : t.length ≤ 2000) : ∀ (r pre : List Nat) (f : Nat) (L : List Nat), t = pre ++ r → r.length < f → L.length + t.length * r.length ≤ 10000000 →
    evening_meetings_k3_2 y0 n y3 y4 y5 y6 c1 (toI1 t) f pre.length (cel n L) = some (cel n (L ++ meetG n t pre.length r))
  | [], pre, f + 1, L, h, _, _ => by
    unfold evening_meetings_k3_2
    rw [if_neg (by rw [toI1_len, h]; simp)]
    simp [meetG]
  | x :: r, pre, f + 1, L, h, hf, hL => by
    have hx : x < n := ht x (by rw [h]; simp)
    simp only [List.length_cons, Nat.mul_succ] at hf hL
    have hwr : wr .i64 ((pre.length : Int) + 1) = ((pre ++ [x]).length : Int) := by
      have : pre.length ≤ t.length := by rw [h]; simp
      rw [wr_nat (by omega)]; simp
    have h3 := mtg_3 y0 y3 y4 y5 y6 c1 n hn t ht htl pre.length x hx t [] 100000 L rfl (by omega) (by omega)
    rw [show ((([] : List Nat).length : Nat) : Int) = 0 from rfl, show ([] : List Nat).length = 0 from rfl] at h3
    have hin := inner_len n x pre.length t 0
    have ih := mtg_2 y0 y3 y4 y5 y6 c1 n hn t ht htl r (pre ++ [x]) f (L ++ inner n x pre.length 0 t) (by rw [h]; simp) (by omega) (by rw [List.length_append]; omega)
    unfold evening_meetings_k3_2
    rw [if_pos (by rw [toI1_len, h]; simp; omega), show idx (toI1 t) (pre.length : Int) = some (x : Int) by rw [h]; exact idx_toI1 pre x r]
    simp only [Option.bind_some]
    rw [h3]
    simp only [Option.bind_some]
    rw [hwr, ih]
    simp [meetG]
theorem meetE_len (n : Nat) : ∀ (ev : List (List Nat)), (meetE n ev).length ≤ sqs ev
  | [] => by simp [meetE]
  | t :: ev => by
    have := meetE_len n ev
    have := meetT_len n t
    simp only [meetE, sqs, List.length_append]; omega
theorem mtg_1 (y0 : Int) (y4 : List (List (List Int))) (y5 y6 : Int) (n : Nat) (hn : n ≤ 64) (ev : List (List Nat)) (hev : ∀ t ∈ ev, ∀ x ∈ t, x < n) (hel : ∀ t ∈ ev, t.length ≤ 2000) (hev2 : ev.length ≤ 90000) : ∀ (r pre : List (List Nat)) (f : Nat) (L : List Nat), ev = pre ++ r → r.length < f → L.length + sqs r ≤ 10000000 →
    evening_meetings_k3_1 y0 n (toI2 ev) y4 y5 y6 f pre.length (cel n L) = some (cel n (L ++ meetE n r))
  | [], pre, f + 1, L, h, _, _ => by
    unfold evening_meetings_k3_1
    rw [if_neg (by rw [toI2_len, h]; simp)]
    simp [meetE]
  | t :: r, pre, f + 1, L, h, hf, hL => by
    have htl : t.length ≤ 2000 := hel t (by rw [h]; simp)
    simp only [sqs] at hL
    have h3 := mtg_2 y0 (toI2 ev) y4 y5 y6 pre.length n hn t (hev t (by rw [h]; simp)) (by omega) t [] 100000 L rfl (by omega) (by omega)
    rw [show ((([] : List Nat).length : Nat) : Int) = 0 from rfl, meetG_T n t t [] rfl] at h3
    have hwr : wr .i64 ((pre.length : Int) + 1) = ((pre ++ [t]).length : Int) := by
      have : pre.length ≤ ev.length := by rw [h]; simp
      rw [wr_nat (by omega)]; simp
    have hb := meetT_len n t
    have ih := mtg_1 y0 y4 y5 y6 n hn ev hev hel hev2 r (pre ++ [t]) f (L ++ meetT n [] t) (by rw [h]; simp) (by simp at hf; omega) (by rw [List.length_append]; omega)
    unfold evening_meetings_k3_1
    rw [if_pos (by rw [toI2_len, h]; simp; omega), show idx (toI2 ev) (pre.length : Int) = some (toI1 t) by rw [h]; exact idx_toI2 pre t r]
    simp only [Option.bind_some]
    rw [h3]
    simp only [Option.bind_some]
    rw [hwr, ih]
    simp [meetE]
theorem mtg_0 (n : Nat) (hn : n ≤ 64) (s : List (List (List Nat))) (v1 : Int × Int × List Int) (hv1 : v1.1 = (n : Int)) (hs : ∀ ev ∈ s, ∀ t ∈ ev, ∀ x ∈ t, x < n) (hsl : ∀ ev ∈ s, (∀ t ∈ ev, t.length ≤ 2000) ∧ ev.length ≤ 90000) (hs2 : s.length ≤ 90000) : ∀ (r pre : List (List (List Nat))) (f : Nat) (L : List Nat), s = pre ++ r → r.length < f → L.length + sqS r ≤ 10000000 →
    evening_meetings_1 (toI3 s) v1 f (cel n L) pre.length = some (cel n (L ++ meetS n r))
  | [], pre, f + 1, L, h, _, _ => by
    unfold evening_meetings_1
    rw [if_neg (by rw [toI3_len, h]; simp)]
    simp [meetS]
  | ev :: r, pre, f + 1, L, h, hf, hL => by
    obtain ⟨hl1, hl2⟩ := hsl ev (by rw [h]; simp)
    simp only [sqS] at hL
    have h3 := mtg_1 0 (toI3 s) ((toI3 s).length : Int) pre.length n hn ev (hs ev (by rw [h]; simp)) hl1 hl2 ev [] 100000 L rfl (by omega) (by omega)
    rw [show ((([] : List (List Nat)).length : Nat) : Int) = 0 from rfl] at h3
    have hwr : wr .i64 ((pre.length : Int) + 1) = ((pre ++ [ev]).length : Int) := by
      have : pre.length ≤ s.length := by rw [h]; simp
      rw [wr_nat (by omega)]; simp
    have hb := meetE_len n ev
    have ih := mtg_0 n hn s v1 hv1 hs hsl hs2 r (pre ++ [ev]) f (L ++ meetE n ev) (by rw [h]; simp) (by simp at hf; omega) (by rw [List.length_append]; omega)
    unfold evening_meetings_1
    rw [if_pos (by rw [toI3_len, h]; simp; omega), show idx (toI3 s) (pre.length : Int) = some (toI2 ev) by rw [h]; exact idx_toI3 pre ev r]
    simp only [Option.bind_some, evening_meetings_k2, evening_meetings_k3, hv1]
    rw [h3]
    simp only [Option.bind_some]
    rw [hwr, ih]
    simp [meetS]
theorem meetings_eq {n : Nat} {s : List (List (List Nat))} (h : SmM n s) : evening_meetings n (toI3 s) = some ((n : Int), cel n (meetS n s)) := by
  unfold evening_meetings
  obtain ⟨m1, m2⟩ := mkOk_nn h.n64
  unfold evening_meetings_k1
  rw [if_pos m1, m2]
  simp only [Option.bind_some]
  have hl := h.len
  have h1 := mtg_0 n h.n64 s ((n : Int), (n : Int), cel n []) rfl h.mem h.ev h.len s [] 100000 [] rfl (by omega) (by have := h.all; simp at this ⊢; omega)
  rw [show ((([] : List (List (List Nat))).length : Nat) : Int) = 0 from rfl, List.nil_append] at h1
  rw [h1]
  rfl
theorem meet_eq {n : Nat} {s : List (List (List Nat))} (h : SmM n s) (hv : evening_valid n (toI3 s) = some true) : evening_Meet n (toI3 s) = some (rowsC n (cel n (meetS n s)) n 0) := by
  unfold evening_Meet
  rw [hv]
  simp only [Option.bind_some, Bool.not_true, Bool.false_eq_true, if_false]
  rw [meetings_eq h]
  simp only [Option.bind_some]
  rw [rows_eq n h.n64 _ (cel_len n _)]
  rfl
/-- How often two guests meet. -/
def cX (n : Nat) (L : List Nat) (x y : Nat) : Int := ((L.count (x * n + y) : Nat) : Int)
theorem at_eq {n x y : Nat} (L : List Nat) (hn : n ≤ 64) (hx : x < n) (hy : y < n) : square_at ((n : Int), cel n L) x y = some (cX n L x y) := by
  unfold square_at
  rw [if_pos (by simp; omega)]
  have e : (x : Int) * (n : Int) + (y : Int) = ((x * n + y : Nat) : Int) := by simp
  show idx (cel n L) ((x : Int) * (n : Int) + (y : Int)) = _
  rw [e]
  exact cel_idx L hx hy
theorem mn_cases (a b : Int) : mnI a b ≤ a ∧ mnI a b ≤ b ∧ (mnI a b = a ∨ mnI a b = b) := by unfold mnI; split <;> omega
theorem mx_cases (a b : Int) : a ≤ mxI a b ∧ b ≤ mxI a b ∧ (mxI a b = a ∨ mxI a b = b) := by unfold mxI; split <;> omega
theorem ext_2 (n : Nat) (hn : n ≤ 64) (L : List Nat) (v1 : Int × List Int) (hv : v1 = ((n : Int), cel n L)) (x0 : Int) (x : Nat) (hx : x < n) : ∀ (k y f : Nat) (lo hi : Int), y + k = x → k < f →
    ∃ lo' hi', evening_extremes_2 x0 v1 x f lo hi y = some (lo', hi') ∧ lo' ≤ lo ∧ hi ≤ hi' ∧ (∀ z, y ≤ z → z < x → lo' ≤ cX n L x z ∧ cX n L x z ≤ hi') ∧ (lo' = lo ∨ ∃ z, z < x ∧ lo' = cX n L x z) ∧ (hi' = hi ∨ ∃ z, z < x ∧ hi' = cX n L x z)
  | 0, y, f + 1, lo, hi, h, _ => by
    refine ⟨lo, hi, ?_, Int.le_refl _, Int.le_refl _, fun z h1 h2 => by omega, .inl rfl, .inl rfl⟩
    unfold evening_extremes_2
    rw [if_neg (by simp; omega)]
  | k + 1, y, f + 1, lo, hi, h, hf => by
    obtain ⟨a1, a2, a3⟩ := mn_cases lo (cX n L x y)
    obtain ⟨b1, b2, b3⟩ := mx_cases hi (cX n L x y)
    obtain ⟨lo', hi', e, c1, c2, c3, c4, c5⟩ := ext_2 n hn L v1 hv x0 x hx k (y + 1) f (mnI lo (cX n L x y)) (mxI hi (cX n L x y)) (by omega) (by omega)
    refine ⟨lo', hi', ?_, by omega, by omega, fun z h1 h2 => ?_, ?_, ?_⟩
    · unfold evening_extremes_2
      rw [if_pos (by simp; omega), hv]
      simp only
      rw [at_eq L hn hx (by omega)]
      simp only [Option.bind_some]
      rw [wr_nat (by omega), ← hv]
      exact e
    · by_cases hz : z = y
      · subst hz; omega
      · exact c3 z (by omega) h2
    · rcases c4 with c4 | c4
      · rcases a3 with a3 | a3
        · exact .inl (by omega)
        · exact .inr ⟨y, by omega, by omega⟩
      · exact .inr c4
    · rcases c5 with c5 | c5
      · rcases b3 with b3 | b3
        · exact .inl (by omega)
        · exact .inr ⟨y, by omega, by omega⟩
      · exact .inr c5
theorem ext_1 (n : Nat) (hn : n ≤ 64) (L : List Nat) (v1 : Int × List Int) (hv : v1 = ((n : Int), cel n L)) : ∀ (k x f : Nat) (lo hi : Int), x + k = n → k < f →
    ∃ lo' hi', evening_extremes_1 n v1 f lo hi x = some (lo', hi') ∧ lo' ≤ lo ∧ hi ≤ hi' ∧ (∀ u z, x ≤ u → u < n → z < u → lo' ≤ cX n L u z ∧ cX n L u z ≤ hi') ∧ (lo' = lo ∨ ∃ u z, u < n ∧ z < u ∧ lo' = cX n L u z) ∧ (hi' = hi ∨ ∃ u z, u < n ∧ z < u ∧ hi' = cX n L u z)
  | 0, x, f + 1, lo, hi, h, _ => by
    refine ⟨lo, hi, ?_, Int.le_refl _, Int.le_refl _, fun u z h1 h2 => by omega, .inl rfl, .inl rfl⟩
    unfold evening_extremes_1
    rw [if_neg (by simp; omega)]
  | k + 1, x, f + 1, lo, hi, h, hf => by
    obtain ⟨l1, h1, e1, a1, a2, a3, a4, a5⟩ := ext_2 n hn L v1 hv n x (by omega) x 0 100000 lo hi (by omega) (by omega)
    obtain ⟨lo', hi', e, c1, c2, c3, c4, c5⟩ := ext_1 n hn L v1 hv k (x + 1) f l1 h1 (by omega) (by omega)
    refine ⟨lo', hi', ?_, by omega, by omega, fun u z g1 g2 g3 => ?_, ?_, ?_⟩
    · rw [show ((0 : Nat) : Int) = 0 from rfl] at e1
      unfold evening_extremes_1
      rw [if_pos (by simp; omega), e1]
      simp only [Option.bind_some]
      rw [wr_nat (by omega)]
      exact e
    · by_cases hz : u = x
      · subst hz
        have := a3 z (by omega) g3
        omega
      · exact c3 u z (by omega) g2 g3
    · rcases c4 with c4 | c4
      · rcases a4 with a4 | ⟨z, z1, z2⟩
        · exact .inl (by omega)
        · exact .inr ⟨x, z, by omega, z1, by omega⟩
      · exact .inr c4
    · rcases c5 with c5 | c5
      · rcases a5 with a5 | ⟨z, z1, z2⟩
        · exact .inl (by omega)
        · exact .inr ⟨x, z, by omega, z1, by omega⟩
      · exact .inr c5
/-- The least and the greatest number of meetings. -/
structure Exts (n : Nat) (L : List Nat) (lo hi : Int) : Prop where
  all : ∀ u z, u < n → z < u → lo ≤ cX n L u z ∧ cX n L u z ≤ hi
  lo_ : lo = 64 ∨ ∃ u z, u < n ∧ z < u ∧ lo = cX n L u z
  hi_ : hi = 0 ∨ ∃ u z, u < n ∧ z < u ∧ hi = cX n L u z
theorem ext_eq {n : Nat} {s : List (List (List Nat))} (h : SmM n s) : ∃ lo hi, evening_extremes n (toI3 s) = some (if n = 1 then 0 else lo, hi) ∧ Exts n (meetS n s) lo hi := by
  obtain ⟨lo, hi, e, _, _, c3, c4, c5⟩ := ext_1 n h.n64 (meetS n s) _ rfl n 0 100000 64 0 (by omega) (by have := h.n64; omega)
  refine ⟨lo, hi, ?_, fun u z h1 h2 => c3 u z (by omega) h1 h2, c4, c5⟩
  unfold evening_extremes
  rw [meetings_eq h]
  simp only [Option.bind_some]
  rw [show ((0 : Nat) : Int) = 0 from rfl] at e
  rw [e]
  simp only [Option.bind_some]
  unfold evening_extremes_j3
  by_cases h1 : n = 1
  · subst h1; simp
  · have : ((n : Int) == 1) = false := by simp; omega
    rw [this, if_neg h1]; simp
theorem most_eq {n : Nat} {s : List (List (List Nat))} (h : SmM n s) (hv : evening_valid n (toI3 s) = some true) : ∃ lo hi, evening_Most n (toI3 s) = some hi ∧ evening_Least n (toI3 s) = some (if n = 1 then 0 else lo) ∧ Exts n (meetS n s) lo hi := by
  obtain ⟨lo, hi, e, ex⟩ := ext_eq h
  refine ⟨lo, hi, ?_, ?_, ex⟩
  · unfold evening_Most
    rw [hv]
    simp only [Option.bind_some, Bool.not_true, Bool.false_eq_true, if_false]
    rw [e]
    rfl
  · unfold evening_Least
    rw [hv]
    simp only [Option.bind_some, Bool.not_true, Bool.false_eq_true, if_false]
    rw [e]
    rfl
def sqSum : List Int → Int
  | [] => 0
  | v :: r => v * v + sqSum r
theorem sq_nn (v : Int) (h0 : 0 ≤ v) (h1 : v ≤ 10000000) : 0 ≤ v * v ∧ v * v ≤ 100000000000000 := by
  refine ⟨Int.mul_nonneg h0 h0, ?_⟩
  have := Int.mul_le_mul h1 h1 h0 (by omega)
  omega
theorem strain_1 (n0 : Int) (cs : List Int) (hb : ∀ v ∈ cs, 0 ≤ v ∧ v ≤ 10000000) (hl : cs.length ≤ 5000) : ∀ (r pre : List Int) (f : Nat) (c : Int), cs = pre ++ r → r.length < f → 0 ≤ c → c ≤ 100000000000000 * pre.length → evening_Strain_1 (n0, cs) f c pre.length = some (c + sqSum r)
  | [], pre, f + 1, c, h, _, _, _ => by
    unfold evening_Strain_1
    rw [if_neg (by rw [h]; simp)]
    simp [sqSum]
  | v :: r, pre, f + 1, c, h, hf, h0, h1 => by
    obtain ⟨v0, v1⟩ := hb v (by rw [h]; simp)
    obtain ⟨s0, s1⟩ := sq_nn v v0 v1
    have hp : pre.length < cs.length := by rw [h]; simp
    have ih := strain_1 n0 cs hb hl r (pre ++ [v]) f (c + v * v) (by rw [h]; simp) (by simp at hf; omega) (by omega) (by simp; omega)
    unfold evening_Strain_1
    rw [if_pos (by rw [h]; simp; omega), show idx cs (pre.length : Int) = some v by rw [h]; exact idx_app pre v r]
    simp only [Option.bind_some]
    rw [wr_nat (by omega), wr_i (n := v * v) (by omega) (by omega), wr_i (by omega) (by omega)]
    have : ((pre.length + 1 : Nat) : Int) = ((pre ++ [v]).length : Int) := by simp
    rw [this, ih]
    simp only [sqSum]
    congr 1; omega
theorem cel_mem {n : Nat} {L : List Nat} {v : Int} (h : v ∈ cel n L) : ∃ j, j < n * n ∧ v = ((L.count j : Nat) : Int) := by
  obtain ⟨j, hj, hv⟩ := List.getElem_of_mem h
  have hj' := hj
  rw [cel_len] at hj'
  refine ⟨j, hj', ?_⟩
  have := cnt_get L (n * n) j hj'
  rw [← this, ← hv, List.getD_eq_getElem?_getD]
  show _ = (cel n L)[j]?.getD 0
  rw [List.getElem?_eq_getElem hj]
  rfl
theorem sqSum_le : ∀ (r : List Int), (∀ v ∈ r, 0 ≤ v ∧ v ≤ 10000000) → 0 ≤ sqSum r ∧ sqSum r ≤ 100000000000000 * r.length
  | [], _ => by simp [sqSum]
  | v :: r, h => by
    obtain ⟨v0, v1⟩ := h v (by simp)
    obtain ⟨s0, s1⟩ := sq_nn v v0 v1
    obtain ⟨a, b⟩ := sqSum_le r fun w hw => h w (by simp [hw])
    simp only [sqSum, List.length_cons]; omega
theorem strain_eq {n : Nat} {s : List (List (List Nat))} (h : SmM n s) (hv : evening_valid n (toI3 s) = some true) (hL : (meetS n s).length ≤ 10000000) : evening_Strain n (toI3 s) = some (sqSum (cel n (meetS n s)) / 2) := by
  have hb : ∀ v ∈ cel n (meetS n s), 0 ≤ v ∧ v ≤ 10000000 := fun v hv => by
    obtain ⟨j, _, rfl⟩ := cel_mem hv
    have : (meetS n s).count j ≤ (meetS n s).length := List.count_le_length
    omega
  have h2 : n * n ≤ 64 * 64 := Nat.mul_le_mul h.n64 h.n64
  have hl : (cel n (meetS n s)).length ≤ 5000 := by rw [cel_len]; omega
  have h1 := strain_1 n _ hb hl (cel n (meetS n s)) [] 100000 0 rfl (by omega) (by omega) (by simp)
  obtain ⟨q0, q1⟩ := sqSum_le _ hb
  unfold evening_Strain
  rw [hv]
  simp only [Option.bind_some, Bool.not_true, Bool.false_eq_true, if_false]
  rw [meetings_eq h]
  simp only [Option.bind_some]
  rw [show ((([] : List Int).length : Nat) : Int) = 0 from rfl, Int.zero_add] at h1
  rw [h1]
  simp only [Option.bind_some]
  rw [tdiv2 _ q0, wr_i (by omega) (by omega)]
/-- An evening of these sizes, everybody once. -/
structure Evn (n : Nat) (sz : List Nat) (ev : List (List Nat)) : Prop where
  sz_ : ev.map List.length = sz
  ne : ∀ t ∈ ev, t.length ≠ 0
  cnt : ∀ j, ev.flatten.count j = if j < n then 1 else 0
section
variable {n : Nat} {sz : List Nat} {ev : List (List Nat)} {s : List (List (List Nat))}
theorem Evn.flt (h : Evn n sz ev) {j : Nat} (hj : j ∈ ev.flatten) : j < n := by
  have := h.cnt j
  have := List.count_pos_iff.2 hj
  split at * <;> omega
theorem Evn.lt (h : Evn n sz ev) : ∀ t ∈ ev, ∀ x ∈ t, x < n := fun t ht _ hx => h.flt (List.mem_flatten.2 ⟨t, ht, hx⟩)
end
theorem map_count (n z x y : Nat) (hy : y < n) : ∀ (l : List Nat), (∀ w ∈ l, w < n) → (l.map fun w => Nat.add (Nat.mul z n) w).count (x * n + y) = if z = x then l.count y else 0
  | [], _ => by simp
  | w :: l, h => by
    have ih := map_count n z x y hy l fun u hu => h u (by simp [hu])
    have hw := h w (by simp)
    rw [List.map_cons, List.count_cons, ih, List.count_cons]
    by_cases e : z * n + w = x * n + y
    · obtain ⟨e1, e2⟩ := cell_eq hw hy e
      subst e1 e2
      simp
    · have : ((Nat.add (Nat.mul z n) w) == (x * n + y)) = false := by simpa using e
      rw [this]
      by_cases hz : z = x
      · subst hz
        have : ¬ w = y := fun e2 => e (by rw [e2])
        simp [this]
      · simp [hz]
theorem meetT_count (n x y : Nat) (hy : y < n) : ∀ (r pre : List Nat), (∀ z ∈ pre ++ r, z < n) → (meetT n pre r).count (x * n + y) = r.count x * ((pre ++ r).count y - if x = y then 1 else 0)
  | [], _, _ => by simp [meetT]
  | z :: r, pre, h => by
    have ih := meetT_count n x y hy r (pre ++ [z]) (by simpa using h)
    have e : (pre ++ [z]) ++ r = pre ++ z :: r := by simp
    rw [e] at ih
    have hT : (pre ++ z :: r).count y = (pre ++ r).count y + if z = y then 1 else 0 := by
      rw [List.count_append, List.count_append, List.count_cons]
      by_cases hz : z = y
      · subst hz; simp; omega
      · simp [hz]
    simp only [meetT, List.count_append]
    rw [map_count n z x y hy (pre ++ r) (fun w hw => h w (by
      rcases List.mem_append.1 hw with hw | hw
      · simp [hw]
      · simp [hw])), List.count_cons]
    rw [List.count_append] at ih
    rw [ih]
    have hT' : List.count y pre + List.count y (z :: r) = (pre ++ r).count y + if z = y then 1 else 0 := by rw [← hT, List.count_append]
    rw [hT']
    by_cases hz : z = x
    · subst hz
      by_cases hxy : z = y
      · subst hxy
        simp [Nat.add_mul]; omega
      · simp [hxy, Nat.add_mul]; omega
    · have : (z == x) = false := by simpa using hz
      simp [hz]
/-- On how many tables of an evening two guests sit together. -/
def pE (x y : Nat) : List (List Nat) → Nat
  | [] => 0
  | t :: ev => t.count x * t.count y + pE x y ev
def pS (x y : Nat) : List (List (List Nat)) → Nat
  | [] => 0
  | ev :: s => pE x y ev + pS x y s
theorem pE_comm (x y : Nat) : ∀ ev, pE x y ev = pE y x ev
  | [] => rfl
  | t :: ev => by simp only [pE, pE_comm x y ev, Nat.mul_comm]
theorem pS_comm (x y : Nat) : ∀ s, pS x y s = pS y x s
  | [] => rfl
  | ev :: s => by simp only [pS, pS_comm x y s, pE_comm x y ev]
theorem meetE_count (n x y : Nat) (hy : y < n) (hxy : x ≠ y) : ∀ (ev : List (List Nat)), (∀ t ∈ ev, ∀ z ∈ t, z < n) → (meetE n ev).count (x * n + y) = pE x y ev
  | [], _ => rfl
  | t :: ev, h => by
    have ih := meetE_count n x y hy hxy ev fun u hu => h u (by simp [hu])
    simp only [meetE, pE, List.count_append, ih]
    rw [meetT_count n x y hy t [] (by simpa using h t (by simp)), if_neg hxy]
    simp
theorem meetS_count (n x y : Nat) (hy : y < n) (hxy : x ≠ y) : ∀ (s : List (List (List Nat))), (∀ ev ∈ s, ∀ t ∈ ev, ∀ z ∈ t, z < n) → (meetS n s).count (x * n + y) = pS x y s
  | [], _ => rfl
  | ev :: s, h => by
    have ih := meetS_count n x y hy hxy s fun u hu => h u (by simp [hu])
    simp only [meetS, pS, List.count_append, ih, meetE_count n x y hy hxy ev (h ev (by simp))]
theorem cnt_le {x : Nat} {t : List Nat} {ev : List (List Nat)} (ht : t ∈ ev) (h : ev.flatten.count x ≤ 1) : t.count x ≤ 1 := by
  induction ev with
  | nil => cases ht
  | cons u ev ih =>
    rw [List.flatten_cons, List.count_append] at h
    rcases List.mem_cons.1 ht with rfl | ht
    · omega
    · exact ih ht (by omega)
theorem Evn.le1 {n : Nat} {sz : List Nat} {ev : List (List Nat)} (h : Evn n sz ev) {t : List Nat} (ht : t ∈ ev) (x : Nat) : t.count x ≤ 1 := by
  refine cnt_le ht ?_
  rw [h.cnt]; split <;> omega
theorem meetE_diag (n x : Nat) (hx : x < n) : ∀ (ev : List (List Nat)), (∀ t ∈ ev, t.count x ≤ 1) → (∀ t ∈ ev, ∀ z ∈ t, z < n) → (meetE n ev).count (x * n + x) = 0
  | [], _, _ => rfl
  | t :: ev, h1, h => by
    have ih := meetE_diag n x hx ev (fun u hu => h1 u (by simp [hu])) fun u hu => h u (by simp [hu])
    have hc := h1 t (by simp)
    simp only [meetE, List.count_append, ih]
    rw [meetT_count n x x hx t [] (by simpa using h t (by simp)), if_pos rfl]
    have : t.count x - 1 = 0 := by omega
    simp [this]
theorem rowsC_flat (n : Nat) (cs : List Int) (hcs : cs.length = n * n) : ∀ (k x : Nat), x + k = n → (rowsC n cs k x).flatten = cs.drop (x * n)
  | 0, x, h => by
    simp only [rowsC, List.flatten_nil]
    rw [show x = n by omega, List.drop_eq_nil_of_le (by omega)]
  | k + 1, x, h => by
    have e : (x + 1) * n = x * n + n := Nat.succ_mul x n
    simp only [rowsC, List.flatten_cons, rowsC_flat n cs hcs k (x + 1) (by omega)]
    rw [e, List.drop_take, Nat.add_sub_cancel_left, ← List.drop_drop, List.take_append_drop]
/- Together. -/
theorem index_1 (xs : List Int) (v : Int) (hl : xs.length ≤ 90000) : ∀ (r pre : List Int) (f : Nat), xs = pre ++ r → r.length < f → (v ∈ r → ∃ p : Nat, slices_Index_L_int_1 xs v f pre.length = some (.inr (p : Int))) ∧ (¬ v ∈ r → slices_Index_L_int_1 xs v f pre.length = some (.inl ()))
  | [], pre, f + 1, h, _ => by
    refine ⟨fun h => by simp at h, fun _ => ?_⟩
    unfold slices_Index_L_int_1
    rw [if_neg (by rw [h]; simp)]
  | u :: r, pre, f + 1, h, hf => by
    obtain ⟨ih1, ih2⟩ := index_1 xs v hl r (pre ++ [u]) f (by rw [h]; simp) (by simp at hf; omega)
    have hp : pre.length < xs.length := by rw [h]; simp
    have a3 : ((pre.length + 1 : Nat) : Int) = ((pre ++ [u]).length : Int) := by simp
    have st : slices_Index_L_int_1 xs v (f + 1) pre.length = if (v == u) = true then some (.inr (pre.length : Int)) else slices_Index_L_int_1 xs v f ((pre ++ [u]).length : Int) := by
      conv => lhs; unfold slices_Index_L_int_1
      rw [if_pos (by rw [h]; simp; omega), show idx xs (pre.length : Int) = some u by rw [h]; exact idx_app pre u r]
      simp only [Option.bind_some]
      rw [wr_nat (by omega), a3]
    rw [st]
    by_cases e : v = u
    · subst e
      simp only [beq_self_eq_true, if_true]
      exact ⟨fun _ => ⟨_, rfl⟩, fun h => absurd (List.mem_cons_self) h⟩
    · have : (v == u) = false := by simpa using e
      simp only [this, Bool.false_eq_true, if_false]
      exact ⟨fun h => ih1 (by simpa [e] using h), fun h => ih2 (by simpa [e] using h)⟩
theorem contains_eq (xs : List Int) (v : Int) (hl : xs.length ≤ 90000) : slices_Contains_L_int xs v = some (decide (v ∈ xs)) := by
  obtain ⟨h1, h2⟩ := index_1 xs v hl xs [] 100000 rfl (by omega)
  rw [show ((([] : List Int).length : Nat) : Int) = 0 from rfl] at h1 h2
  unfold slices_Contains_L_int slices_Index_L_int
  by_cases h : v ∈ xs
  · obtain ⟨p, hp⟩ := h1 h
    rw [hp]
    simp [h]
  · rw [h2 h]
    simp [h]
theorem mem_toI {t : List Nat} {x : Nat} : ((x : Int) ∈ toI1 t) ↔ x ∈ t := by
  constructor
  · intro h
    obtain ⟨j, hj, e⟩ := mem_toI1 h
    have : x = j := by
      have : (x : Int) = (j : Int) := e
      omega
    rw [this]; exact hj
  · intro h
    exact List.mem_map.2 ⟨x, h, rfl⟩
/-- Where guests beside each other are counted. -/
def bp (n x y : Nat) : List Nat := bif Nat.beq x y then [] else [Nat.add (Nat.mul x n) y, Nat.add (Nat.mul y n) x]
def besL (n f : Nat) : List Nat → List Nat
  | [] => []
  | x :: r => bp n x (r.headD f) ++ besL n f r
def besT (n : Nat) : List Nat → List Nat
  | [] => []
  | [x, y] => bp n x y
  | f :: r => besL n f (f :: r)
def besE (n : Nat) : List (List Nat) → List Nat
  | [] => []
  | t :: ev => besT n t ++ besE n ev
def besS (n : Nat) : List (List (List Nat)) → List Nat
  | [] => []
  | ev :: s => besE n ev ++ besS n s
/-- The pairs beside each other, as the loop finds them. -/
def besG (n f0 : Nat) (two : Bool) : Nat → List Nat → List Nat
  | _, [] => []
  | i, x :: r => (if (two && i == 1) = true then [] else bp n x (r.headD f0)) ++ besG n f0 two (i + 1) r
theorem besG_len (n f0 : Nat) (two : Bool) : ∀ (r : List Nat) (i : Nat), (besG n f0 two i r).length ≤ 2 * r.length
  | [], _ => by simp [besG]
  | x :: r, i => by
    have := besG_len n f0 two r (i + 1)
    have h2 : (bp n x (r.headD f0)).length ≤ 2 := by unfold bp; cases Nat.beq x (r.headD f0) <;> simp
    simp only [besG, List.length_append, List.length_cons]
    split
    · simp only [List.length_nil]; omega
    · omega
theorem besG_L (n f0 : Nat) : ∀ (r : List Nat) (i : Nat), besG n f0 false i r = besL n f0 r
  | [], _ => rfl
  | x :: r, i => by
    simp only [besG, besL, Bool.false_and, Bool.false_eq_true, if_false]
    rw [besG_L n f0 r (i + 1)]
theorem besG_T (n : Nat) : ∀ (t : List Nat), besG n (t.headD 0) (t.length == 2) 0 t = besT n t
  | [] => rfl
  | [x] => by simp [besG, besT, besL]
  | [x, y] => by simp [besG, besT]
  | x :: y :: z :: r => by
    have : ((x :: y :: z :: r).length == 2) = false := by simp
    rw [this, besG_L]; rfl
theorem besT_len (n : Nat) (t : List Nat) : (besT n t).length ≤ 2 * t.length := by
  rw [← besG_T]; exact besG_len _ _ _ _ _
theorem bes_k2 {n x y : Nat} (L : List Nat) (hn : n ≤ 64) (hx : x < n) (hy : y < n) : evening_Beside_k2 n (cel n L) n x y = some (n : Int) := by
  unfold evening_Beside_k2
  rw [cel_wr hn hx hy, cel_idx L hx hy]
  rfl
theorem next_idx (pre : List Nat) (x : Nat) (r : List Nat) (hl : (pre ++ x :: r).length ≤ 1000000) : idx (toI1 (pre ++ x :: r)) ((wr .i64 ((pre.length : Int) + 1)).tmod ((toI1 (pre ++ x :: r)).length : Int)) = some ((r.headD ((pre ++ x :: r).headD 0) : Nat) : Int) := by
  rw [toI1_len]
  simp only [List.length_append, List.length_cons] at hl ⊢
  rw [wr_nat (by omega), Int.tmod_eq_emod_of_nonneg (by omega)]
  cases r with
  | nil =>
    have e : (((pre.length + 1 : Nat) : Int)) % ((pre.length + (([] : List Nat).length + 1) : Nat) : Int) = ((0 : Nat) : Int) := by simp
    rw [e]
    cases pre with
    | nil => rfl
    | cons a pre => exact idx_toI1 [] a (pre ++ [x])
  | cons y r =>
    have e : (((pre.length + 1 : Nat) : Int)) % ((pre.length + ((y :: r).length + 1) : Nat) : Int) = ((pre ++ [x]).length : Int) := by
      rw [Int.emod_eq_of_lt (by omega) (by simp; omega)]; simp
    rw [e, show pre ++ x :: y :: r = (pre ++ [x]) ++ y :: r by simp]
    exact idx_toI1 (pre ++ [x]) y r
theorem bes_3 (x1 : List (List (List Int))) (c6 : Int) (v8 : List (List Int)) (c11 : Int) (n : Nat) (hn : n ≤ 64) (t : List Nat) (ht : ∀ x ∈ t, x < n) (htl : t.length ≤ 90000) : ∀ (r pre : List Nat) (f : Nat) (L : List Nat), t = pre ++ r → r.length < f → L.length + 2 * r.length ≤ 9000000 →
    evening_Beside_3 x1 c6 v8 c11 (toI1 t) f n (cel n L) pre.length = some ((n : Int), cel n (L ++ besG n (t.headD 0) (t.length == 2) pre.length r))
  | [], pre, f + 1, L, h, _, _ => by
    unfold evening_Beside_3
    rw [if_neg (by rw [toI1_len, h]; simp)]
    simp [besG]
  | x :: r, pre, f + 1, L, h, hf, hL => by
    have hx : x < n := ht x (by rw [h]; simp)
    have hy : r.headD (t.headD 0) < n := by
      cases r with
      | nil =>
        have : t ≠ [] := by rw [h]; simp
        cases t with
        | nil => exact absurd rfl this
        | cons a t => exact ht a (by simp)
      | cons y r => exact ht y (by rw [h]; simp)
    simp only [List.length_cons] at hf hL
    have hlen : ((toI1 t).length : Int) = (t.length : Int) := by rw [toI1_len]
    have hpos : ¬ ((toI1 t).length : Int) = 0 := by rw [hlen, h]; simp; omega
    have hi : idx (toI1 t) (pre.length : Int) = some (x : Int) := by rw [h]; exact idx_toI1 pre x r
    have hnx : idx (toI1 t) ((wr .i64 ((pre.length : Int) + 1)).tmod ((toI1 t).length : Int)) = some ((r.headD (t.headD 0) : Nat) : Int) := by
      rw [h]; exact next_idx pre x r (by rw [← h]; omega)
    have hb : bp n x (r.headD (t.headD 0)) = if ((x : Int) == ((r.headD (t.headD 0) : Nat) : Int)) = true then [] else [x * n + r.headD (t.headD 0), r.headD (t.headD 0) * n + x] := by
      rw [beq_nat]
      unfold bp
      cases Nat.beq x (r.headD (t.headD 0)) <;> rfl
    have h2 : (((toI1 t).length : Int) == 2) = (t.length == 2) := by
      rw [hlen, show ((2 : Int)) = ((2 : Nat) : Int) from rfl, beq_nat]
      rw [Bool.eq_iff_iff, Nat.beq_eq]; simp
    have h1 : ((pre.length : Int) == 1) = (pre.length == 1) := by
      rw [show ((1 : Int)) = ((1 : Nat) : Int) from rfl, beq_nat]
      rw [Bool.eq_iff_iff, Nat.beq_eq]; simp
    have hwr : wr .i64 ((pre.length : Int) + 1) = ((pre ++ [x]).length : Int) := by
      have : pre.length ≤ t.length := by rw [h]; simp
      rw [wr_nat (by omega)]; simp
    have rec_ := fun L' hL' => bes_3 x1 c6 v8 c11 n hn t ht htl r (pre ++ [x]) f L' (by rw [h]; simp) (by omega) hL'
    unfold evening_Beside_3
    rw [if_pos (by rw [hlen, h]; simp; omega), hi]
    simp only [Option.bind_some]
    rw [if_neg hpos, hnx]
    simp only [Option.bind_some]
    rw [h2, h1]
    generalize hyy : r.headD (t.headD 0) = y at *
    simp only [besG, hyy, hb]
    cases hxy : ((x : Int) == (y : Int)) with
    | true =>
      simp only [if_true, Option.bind_some]
      rw [hwr, rec_ L (by omega)]
      simp
    | false =>
      cases hb2 : (t.length == 2 && pre.length == 1) with
      | true =>
        simp only [Bool.and_eq_true] at hb2
        simp only [hb2.1, hb2.2, if_true, Bool.false_eq_true, if_false, Option.bind_some]
        rw [hwr]
        have := rec_ L (by omega)
        simp only [hb2.1] at this
        rw [this]
        simp
      | false =>
        have e : (if false = true then some ((n : Int), cel n L, true) else if (t.length == 2) = true then some ((n : Int), cel n L, (pre.length == 1)) else some ((n : Int), cel n L, false)) = some ((n : Int), cel n L, false) := by
          cases h5 : (t.length == 2) with
          | false => rfl
          | true => rw [h5] at hb2; simp at hb2; simp [hb2]
        rw [e]
        simp only [Option.bind_some, Bool.false_eq_true, if_false]
        rw [bes_k2 L hn hx hy]
        simp only [Option.bind_some]
        rw [cel_wr hn hx hy, cel_idx L hx hy]
        simp only [Option.bind_some]
        rw [cel_set L (by omega) hx hy, bes_k2 _ hn hy hx]
        simp only [Option.bind_some]
        rw [cel_wr hn hy hx, cel_idx _ hy hx]
        simp only [Option.bind_some]
        rw [cel_set _ (by simp; omega) hy hx, hwr, rec_ _ (by simp; omega)]
        simp
theorem besE_len (n : Nat) : ∀ (ev : List (List Nat)), (besE n ev).length ≤ 2 * ev.flatten.length
  | [] => by simp [besE]
  | t :: ev => by
    have := besE_len n ev
    have := besT_len n t
    simp only [besE, List.flatten_cons, List.length_append]; omega
theorem bes_2 (x1 : List (List (List Int))) (c6 : Int) (n : Nat) (hn : n ≤ 64) (ev : List (List Nat)) (hev : ∀ t ∈ ev, ∀ x ∈ t, x < n) (hel : ev.flatten.length ≤ 90000) (hev2 : ev.length ≤ 90000) : ∀ (r pre : List (List Nat)) (f : Nat) (L : List Nat), ev = pre ++ r → r.length < f → L.length + 2 * r.flatten.length ≤ 9000000 →
    evening_Beside_2 x1 c6 (toI2 ev) f n (cel n L) pre.length = some ((n : Int), cel n (L ++ besE n r))
  | [], pre, f + 1, L, h, _, _ => by
    unfold evening_Beside_2
    rw [if_neg (by rw [toI2_len, h]; simp)]
    simp [besE]
  | t :: r, pre, f + 1, L, h, hf, hL => by
    have htl : t.length ≤ ev.flatten.length := len_mem (by rw [h]; simp)
    simp only [List.flatten_cons, List.length_append] at hL
    have h3 := bes_3 x1 c6 (toI2 ev) pre.length n hn t (hev t (by rw [h]; simp)) (by omega) t [] 100000 L rfl (by omega) (by omega)
    rw [show ((([] : List Nat).length : Nat) : Int) = 0 from rfl, show ([] : List Nat).length = 0 from rfl, besG_T] at h3
    have hwr : wr .i64 ((pre.length : Int) + 1) = ((pre ++ [t]).length : Int) := by
      have : pre.length ≤ ev.length := by rw [h]; simp
      rw [wr_nat (by omega)]; simp
    have hb := besT_len n t
    have ih := bes_2 x1 c6 n hn ev hev hel hev2 r (pre ++ [t]) f (L ++ besT n t) (by rw [h]; simp) (by simp at hf; omega) (by rw [List.length_append]; omega)
    unfold evening_Beside_2
    rw [if_pos (by rw [toI2_len, h]; simp; omega), show idx (toI2 ev) (pre.length : Int) = some (toI1 t) by rw [h]; exact idx_toI2 pre t r]
    simp only [Option.bind_some]
    rw [h3]
    simp only [Option.bind_some]
    rw [hwr, ih]
    simp [besE]
theorem bes_1 (n : Nat) (hn : n ≤ 64) (s : List (List (List Nat))) (hs : ∀ ev ∈ s, ∀ t ∈ ev, ∀ x ∈ t, x < n) (hsl : ∀ ev ∈ s, ev.flatten.length ≤ 90000 ∧ ev.length ≤ 90000) (hs2 : s.length ≤ 90000) : ∀ (r pre : List (List (List Nat))) (f : Nat) (L : List Nat), s = pre ++ r → r.length < f → L.length + 2 * r.flatten.flatten.length ≤ 9000000 →
    evening_Beside_1 (toI3 s) f n (cel n L) pre.length = some ((n : Int), cel n (L ++ besS n r))
  | [], pre, f + 1, L, h, _, _ => by
    unfold evening_Beside_1
    rw [if_neg (by rw [toI3_len, h]; simp)]
    simp [besS]
  | ev :: r, pre, f + 1, L, h, hf, hL => by
    obtain ⟨hl1, hl2⟩ := hsl ev (by rw [h]; simp)
    simp only [List.flatten_cons, List.flatten_append, List.length_append] at hL
    have h3 := bes_2 (toI3 s) pre.length n hn ev (hs ev (by rw [h]; simp)) hl1 hl2 ev [] 100000 L rfl (by omega) (by omega)
    rw [show ((([] : List (List Nat)).length : Nat) : Int) = 0 from rfl] at h3
    have hwr : wr .i64 ((pre.length : Int) + 1) = ((pre ++ [ev]).length : Int) := by
      have : pre.length ≤ s.length := by rw [h]; simp
      rw [wr_nat (by omega)]; simp
    have hb := besE_len n ev
    have ih := bes_1 n hn s hs hsl hs2 r (pre ++ [ev]) f (L ++ besE n ev) (by rw [h]; simp) (by simp at hf; omega) (by rw [List.length_append]; omega)
    unfold evening_Beside_1
    rw [if_pos (by rw [toI3_len, h]; simp; omega), show idx (toI3 s) (pre.length : Int) = some (toI2 ev) by rw [h]; exact idx_toI3 pre ev r]
    simp only [Option.bind_some]
    rw [h3]
    simp only [Option.bind_some]
    rw [hwr, ih]
    simp [besS]
theorem beside_eq {n : Nat} {s : List (List (List Nat))} (h : Sml n s) (hv : evening_valid n (toI3 s) = some true) : evening_Beside n (toI3 s) = some (rowsC n (cel n (besS n s)) n 0) := by
  unfold evening_Beside
  rw [hv]
  simp only [Option.bind_some, Bool.not_true, Bool.false_eq_true, if_false]
  obtain ⟨m1, m2⟩ := mkOk_nn h.n64
  unfold evening_Beside_k1
  rw [if_pos m1, m2]
  simp only [Option.bind_some]
  have hl := h.len
  have h1 := bes_1 n h.n64 s h.mem h.ev h.len s [] 100000 [] rfl (by omega) (by have := h.all; simp at this ⊢; omega)
  rw [show ((([] : List (List (List Nat))).length : Nat) : Int) = 0 from rfl, List.nil_append] at h1
  rw [h1]
  simp only [Option.bind_some]
  rw [rows_eq n h.n64 _ (cel_len n _)]
  rfl
/-- An evening with everybody once. -/
def EvV (n : Nat) (ev : List (List Nat)) : Prop := Evn n (ev.map List.length) ev
theorem cnt_len {L : List Nat} {n : Nat} (h : ∀ j, L.count j = if j < n then 1 else 0) : L.length = n := by
  have hp : L.Perm (List.range n) := List.perm_iff_count.2 fun j => by rw [h, List.count_range]
  rw [hp.length_eq]; simp
theorem EvV.flen {n : Nat} {ev : List (List Nat)} (h : EvV n ev) : ev.flatten.length = n := cnt_len h.cnt
theorem EvV.elen {n : Nat} {ev : List (List Nat)} (h : EvV n ev) : ev.length ≤ n := by
  have := len_flat h.ne
  rw [h.flen] at this
  exact this
theorem EvV.tlen {n : Nat} {ev : List (List Nat)} (h : EvV n ev) {t : List Nat} (ht : t ∈ ev) : t.length ≤ n := by
  have := len_mem ht
  rw [h.flen] at this
  exact this
section
variable {n : Nat} {s : List (List (List Nat))}
theorem evv_small (hn : n ≤ 64) (hs : s.length ≤ 70) (hv : ∀ ev ∈ s, EvV n ev) : Sml n s ∧ SmM n s := by
  have h3 : ∀ ev ∈ s, sqs ev ≤ 4096 := fun ev he => by
    have := sqs_le ev fun t ht => by have := (hv ev he).tlen ht; omega
    have := (hv ev he).flen
    omega
  have h4 := sqS_le s h3
  have h5 := flats_le s fun ev he => by have := (hv ev he).flen; omega
  exact ⟨⟨hn, fun ev he => (hv ev he).lt, fun ev he => ⟨by have := (hv ev he).flen; omega, by have := (hv ev he).elen; omega⟩, by omega, by omega⟩, ⟨hn, fun ev he => (hv ev he).lt, fun ev he => ⟨fun t ht => by have := (hv ev he).tlen ht; omega, by have := (hv ev he).elen; omega⟩, by omega, by omega⟩⟩
theorem vS_diag (x : Nat) (hx : x < n) : ∀ (s : List (List (List Nat))), (∀ ev ∈ s, EvV n ev) → (meetS n s).count (x * n + x) = 0
  | [], _ => rfl
  | ev :: s, h => by
    have ih := vS_diag x hx s fun u hu => h u (by simp [hu])
    have he := h ev (by simp)
    simp only [meetS, List.count_append, ih, meetE_diag n x hx ev (fun t ht => he.le1 ht x) he.lt]
theorem vS_sym (hv : ∀ ev ∈ s, EvV n ev) {x y : Nat} (hx : x < n) (hy : y < n) : (meetS n s).count (x * n + y) = (meetS n s).count (y * n + x) := by
  by_cases e : x = y
  · rw [e]
  · have mem : ∀ ev ∈ s, ∀ t ∈ ev, ∀ z ∈ t, z < n := fun ev he => (hv ev he).lt
    rw [meetS_count n x y hy e s mem, meetS_count n y x hx (Ne.symm e) s mem, pS_comm]
end
/- Together. -/
def tgE (a b : Int) (i : Int) : List (List Int) → List Int
  | [] => []
  | t :: ev => (if a ∈ t ∧ b ∈ t then [i] else []) ++ tgE a b i ev
def tgS (a b : Int) : Int → List (List (List Int)) → List Int
  | _, [] => []
  | i, ev :: s => tgE a b i ev ++ tgS a b (i + 1) s
theorem tgE_len (a b i : Int) : ∀ ev, (tgE a b i ev).length ≤ ev.length
  | [] => by simp [tgE]
  | t :: ev => by
    have := tgE_len a b i ev
    simp only [tgE, List.length_append, List.length_cons]
    split
    · simp only [List.length_singleton]; omega
    · simp only [List.length_nil]; omega
structure Sm2 (s : List (List (List Int))) : Prop where
  len : s.length ≤ 70
  ev : ∀ ev ∈ s, ev.length ≤ 12 ∧ ∀ t ∈ ev, t.length ≤ 1000
theorem has_1 (xs : List Int) (v : Int) (hl : xs.length ≤ 90000) : ∀ (r pre : List Int) (f : Nat), xs = pre ++ r → r.length < f → ref09_has_1 xs v f pre.length = some (if v ∈ r then .inr true else .inl ())
  | [], pre, f + 1, h, _ => by
    unfold ref09_has_1
    rw [if_neg (by rw [h]; simp)]
    rfl
  | u :: r, pre, f + 1, h, hf => by
    have ih := has_1 xs v hl r (pre ++ [u]) f (by rw [h]; simp) (by simp at hf; omega)
    have hp : pre.length < xs.length := by rw [h]; simp
    have a3 : ((pre.length + 1 : Nat) : Int) = ((pre ++ [u]).length : Int) := by simp
    unfold ref09_has_1
    rw [if_pos (by rw [h]; simp; omega), show idx xs (pre.length : Int) = some u by rw [h]; exact idx_app pre u r]
    simp only [Option.bind_some]
    by_cases e : u = v
    · subst e; simp
    · have : (u == v) = false := by simpa using e
      rw [this, wr_nat (by omega), a3, ih]
      have e2 : v ∈ u :: r ↔ v ∈ r := by
        constructor
        · intro h; rcases List.mem_cons.1 h with h | h
          · exact absurd h.symm e
          · exact h
        · intro h; exact List.mem_cons_of_mem _ h
      by_cases hm : v ∈ r
      · simp [hm]
      · have hm2 : ¬ v ∈ u :: r := fun h => hm (e2.1 h)
        simp only [hm, hm2, if_false, Bool.false_eq_true]
theorem has_eq (xs : List Int) (v : Int) (hl : xs.length ≤ 90000) : ref09_has xs v = some (decide (v ∈ xs)) := by
  have h := has_1 xs v hl xs [] 100000 rfl (by omega)
  rw [show ((([] : List Int).length : Nat) : Int) = 0 from rfl] at h
  unfold ref09_has
  rw [h]
  by_cases hm : v ∈ xs
  · simp [hm]
  · simp [hm]
theorem etog_2 (x1 : List (List (List Int))) (a b c6 : Int) (ev : List (List Int)) (hl : ∀ t ∈ ev, t.length ≤ 1000) (hel : ev.length ≤ 12) : ∀ (r pre : List (List Int)) (f : Nat) (out : List Int), ev = pre ++ r → r.length < f → out.length + r.length ≤ 100000 → evening_Together_2 x1 a b c6 ev f out pre.length = some (out ++ tgE a b c6 r)
  | [], pre, f + 1, out, h, _, _ => by
    unfold evening_Together_2
    rw [if_neg (by rw [h]; simp)]
    simp [tgE]
  | t :: r, pre, f + 1, out, h, hf, ho => by
    have ht := hl t (by rw [h]; simp)
    have hp : pre.length < ev.length := by rw [h]; simp
    simp only [List.length_cons] at ho hf
    have a3 : ((pre.length + 1 : Nat) : Int) = ((pre ++ [t]).length : Int) := by simp
    have rec_ := fun out2 ho2 => etog_2 x1 a b c6 ev hl hel r (pre ++ [t]) f out2 (by rw [h]; simp) (by omega) ho2
    unfold evening_Together_2
    rw [if_pos (by rw [h]; simp; omega), show idx ev (pre.length : Int) = some t by rw [h]; exact idx_app pre t r]
    simp only [Option.bind_some]
    rw [contains_eq t a (by omega), contains_eq t b (by omega)]
    simp only [Option.bind_some]
    have e : (if decide (a ∈ t) = true then some (out, decide (b ∈ t)) else some (out, false)) = some (out, decide (a ∈ t ∧ b ∈ t)) := by
      by_cases h1 : a ∈ t
      · simp [h1]
      · simp [h1]
    rw [e]
    simp only [Option.bind_some, tgE]
    unfold evening_Together_j3
    by_cases h1 : a ∈ t ∧ b ∈ t
    · simp only [h1, and_self, decide_true, if_true]
      rw [if_pos (capOk_le (by omega) (by omega))]
      simp only [Option.bind_some]
      rw [wr_nat (by omega), a3, rec_ _ (by simp; omega)]
      simp
    · rw [if_neg h1]
      simp only [decide_eq_false h1, Bool.false_eq_true, if_false, Option.bind_some]
      rw [wr_nat (by omega), a3, rec_ _ (by omega)]
      simp
theorem etog_1 (a b : Int) (s : List (List (List Int))) (hs : Sm2 s) : ∀ (r pre : List (List (List Int))) (f : Nat) (out : List Int), s = pre ++ r → r.length < f → out.length + 12 * r.length ≤ 10000 → evening_Together_1 s a b f out pre.length = some (out ++ tgS a b pre.length r)
  | [], pre, f + 1, out, h, _, _ => by
    unfold evening_Together_1
    rw [if_neg (by rw [h]; simp)]
    simp [tgS]
  | ev :: r, pre, f + 1, out, h, hf, ho => by
    obtain ⟨h1, h2⟩ := hs.ev ev (by rw [h]; simp)
    have hp : pre.length < s.length := by rw [h]; simp
    have hsl := hs.len
    simp only [List.length_cons] at ho hf
    have hte := tgE_len a b pre.length ev
    have a3 : ((pre.length + 1 : Nat) : Int) = ((pre ++ [ev]).length : Int) := by simp
    have e2 := etog_2 s a b pre.length ev h2 h1 ev [] 100000 out rfl (by omega) (by omega)
    rw [show ((([] : List (List Int)).length : Nat) : Int) = 0 from rfl] at e2
    have ih := etog_1 a b s hs r (pre ++ [ev]) f (out ++ tgE a b pre.length ev) (by rw [h]; simp) (by omega) (by rw [List.length_append]; omega)
    unfold evening_Together_1
    rw [if_pos (by rw [h]; simp; omega), show idx s (pre.length : Int) = some ev by rw [h]; exact idx_app pre ev r]
    simp only [Option.bind_some]
    rw [e2]
    simp only [Option.bind_some]
    rw [wr_nat (by omega), a3, ih]
    simp [tgS]
theorem rtog_2 (s : List (List (List Int))) (a b : Int) (c2 : Int) (ev : List (List Int)) (hi : idx s c2 = some ev) (hl : ∀ t ∈ ev, t.length ≤ 1000) (hel : ev.length ≤ 12) : ∀ (r pre : List (List Int)) (f : Nat) (out : List Int), ev = pre ++ r → r.length < f → out.length + r.length ≤ 100000 → ref09_Together_2 s a b c2 f out pre.length = some (out ++ tgE a b c2 r)
  | [], pre, f + 1, out, h, _, _ => by
    unfold ref09_Together_2
    rw [hi]
    simp only [Option.bind_some]
    rw [if_neg (by rw [h]; simp)]
    simp [tgE]
  | t :: r, pre, f + 1, out, h, hf, ho => by
    have ht := hl t (by rw [h]; simp)
    have hp : pre.length < ev.length := by rw [h]; simp
    simp only [List.length_cons] at ho hf
    have a3 : ((pre.length + 1 : Nat) : Int) = ((pre ++ [t]).length : Int) := by simp
    have rec_ := fun out2 ho2 => rtog_2 s a b c2 ev hi hl hel r (pre ++ [t]) f out2 (by rw [h]; simp) (by omega) ho2
    unfold ref09_Together_2
    rw [hi]
    simp only [Option.bind_some]
    rw [if_pos (by rw [h]; simp; omega), show idx ev (pre.length : Int) = some t by rw [h]; exact idx_app pre t r]
    simp only [Option.bind_some]
    rw [has_eq t a (by omega), has_eq t b (by omega)]
    simp only [Option.bind_some]
    have e : (if decide (a ∈ t) = true then some (out, decide (b ∈ t)) else some (out, false)) = some (out, decide (a ∈ t ∧ b ∈ t)) := by
      by_cases h1 : a ∈ t
      · simp [h1]
      · simp [h1]
    rw [e]
    simp only [Option.bind_some, tgE]
    unfold ref09_Together_j3
    by_cases h1 : a ∈ t ∧ b ∈ t
    · simp only [h1, and_self, decide_true, if_true]
      rw [if_pos (capOk_le (by omega) (by omega))]
      simp only [Option.bind_some]
      rw [wr_nat (by omega), a3, rec_ _ (by simp; omega)]
      simp
    · rw [if_neg h1]
      simp only [decide_eq_false h1, Bool.false_eq_true, if_false, Option.bind_some]
      rw [wr_nat (by omega), a3, rec_ _ (by omega)]
      simp
theorem rtog_1 (a b : Int) (s : List (List (List Int))) (hs : Sm2 s) : ∀ (r pre : List (List (List Int))) (f : Nat) (out : List Int), s = pre ++ r → r.length < f → out.length + 12 * r.length ≤ 10000 → ref09_Together_1 s a b f out pre.length = some (out ++ tgS a b pre.length r)
  | [], pre, f + 1, out, h, _, _ => by
    unfold ref09_Together_1
    rw [if_neg (by rw [h]; simp)]
    simp [tgS]
  | ev :: r, pre, f + 1, out, h, hf, ho => by
    obtain ⟨h1, h2⟩ := hs.ev ev (by rw [h]; simp)
    have hp : pre.length < s.length := by rw [h]; simp
    have hsl := hs.len
    simp only [List.length_cons] at ho hf
    have hte := tgE_len a b pre.length ev
    have a3 : ((pre.length + 1 : Nat) : Int) = ((pre ++ [ev]).length : Int) := by simp
    have e2 := rtog_2 s a b pre.length ev (by rw [h]; exact idx_app pre ev r) h2 h1 ev [] 100000 out rfl (by omega) (by omega)
    rw [show ((([] : List (List Int)).length : Nat) : Int) = 0 from rfl] at e2
    have ih := rtog_1 a b s hs r (pre ++ [ev]) f (out ++ tgE a b pre.length ev) (by rw [h]; simp) (by omega) (by rw [List.length_append]; omega)
    unfold ref09_Together_1
    rw [if_pos (by rw [h]; simp; omega), e2]
    simp only [Option.bind_some]
    rw [wr_nat (by omega), a3, ih]
    simp [tgS]
theorem tog_both (a b n : Int) (s : List (List (List Int))) (hs : Sm2 s) (hv : evening_valid n s = some true) : evening_Together n s a b = some (if a = b then [] else tgS a b 0 s) ∧ ref09_Together s a b = some (tgS a b 0 s) := by
  have hsl := hs.len
  have h1 := etog_1 a b s hs s [] 100000 [] rfl (by omega) (by simp; omega)
  have h2 := rtog_1 a b s hs s [] 100000 [] rfl (by omega) (by simp; omega)
  rw [show ((([] : List (List (List Int))).length : Nat) : Int) = 0 from rfl, List.nil_append] at h1 h2
  refine ⟨?_, ?_⟩
  · unfold evening_Together
    rw [hv]
    simp only [Option.bind_some, Bool.not_true, Bool.false_eq_true, if_false]
    by_cases e : a = b
    · subst e; simp
    · have : (a == b) = false := by simpa using e
      rw [this, if_neg e]
      simp only [Bool.false_eq_true, if_false]
      rw [h1]
      rfl
  · unfold ref09_Together
    rw [h2]
    rfl
theorem tgE_pE {n x y : Nat} (i : Int) : ∀ (ev : List (List Nat)), (∀ t ∈ ev, t.count x ≤ 1 ∧ t.count y ≤ 1) → (tgE x y i (toI2 ev)).length = pE x y ev
  | [], _ => rfl
  | t :: ev, h => by
    have ih := tgE_pE (n := n) i ev fun u hu => h u (by simp [hu])
    obtain ⟨h1, h2⟩ := h t (by simp)
    have cm : ∀ z, t.count z ≤ 1 → t.count z = if z ∈ t then 1 else 0 := fun z hz => by
      by_cases hm : z ∈ t
      · have := List.count_pos_iff.2 hm
        rw [if_pos hm]; omega
      · rw [if_neg hm]; exact List.count_eq_zero.2 hm
    have e : toI2 (t :: ev) = toI1 t :: toI2 ev := rfl
    rw [e]
    simp only [tgE, pE, List.length_append, ih, mem_toI]
    rw [cm x h1, cm y h2]
    by_cases hx : x ∈ t
    · by_cases hy : y ∈ t
      · simp [hx, hy]
      · simp [hx, hy]
    · simp [hx]
theorem tgS_pS {n x y : Nat} : ∀ (s : List (List (List Nat))) (i : Int), (∀ ev ∈ s, EvV n ev) → (tgS x y i (toI3 s)).length = pS x y s
  | [], _, _ => rfl
  | ev :: s, i, h => by
    have ih := tgS_pS (n := n) (x := x) (y := y) s (i + 1) fun u hu => h u (by simp [hu])
    have he := h ev (by simp)
    have e : toI3 (ev :: s) = toI2 ev :: toI3 s := rfl
    rw [e]
    simp only [tgS, pS, List.length_append, ih]
    rw [tgE_pE (n := n) i ev fun t ht => ⟨he.le1 ht x, he.le1 ht y⟩]
/- Meet. -/
def rowM (n : Nat) (L : List Nat) (x : Nat) : Nat → Nat → List Int
  | 0, _ => []
  | k + 1, y => cX n L x y :: rowM n L x k (y + 1)
def matM (n : Nat) (L : List Nat) : Nat → Nat → List (List Int)
  | 0, _ => []
  | k + 1, x => rowM n L x n 0 :: matM n L k (x + 1)
theorem rowM_len (n : Nat) (L : List Nat) (x : Nat) : ∀ k y, (rowM n L x k y).length = k
  | 0, _ => rfl
  | k + 1, y => by simp [rowM, rowM_len n L x k (y + 1)]
theorem rowM_at (n : Nat) (L : List Nat) (x : Nat) : ∀ k y i, i < k → (rowM n L x k y)[i]? = some (cX n L x (y + i))
  | 0, _, i, h => by omega
  | k + 1, y, 0, _ => by simp [rowM]
  | k + 1, y, i + 1, h => by
    simp only [rowM, List.getElem?_cons_succ]
    rw [rowM_at n L x k (y + 1) i (by omega), show y + 1 + i = y + (i + 1) by omega]
theorem matM_len (n : Nat) (L : List Nat) : ∀ k x, (matM n L k x).length = k
  | 0, _ => rfl
  | k + 1, x => by simp [matM, matM_len n L k (x + 1)]
theorem matM_at (n : Nat) (L : List Nat) : ∀ k x i, i < k → (matM n L k x)[i]? = some (rowM n L (x + i) n 0)
  | 0, _, i, h => by omega
  | k + 1, x, 0, _ => by simp [matM]
  | k + 1, x, i + 1, h => by
    simp only [matM, List.getElem?_cons_succ]
    rw [matM_at n L k (x + 1) i (by omega), show x + 1 + i = x + (i + 1) by omega]
theorem rowsC_M (n : Nat) (L : List Nat) : ∀ k x, x + k = n → rowsC n (cel n L) k x = matM n L k x
  | 0, _, _ => rfl
  | k + 1, x, h => by
    simp only [rowsC, matM]
    rw [rowsC_M n L k (x + 1) (by omega)]
    congr 1
    apply List.ext_getElem?
    intro i
    have hx : x < n := by omega
    have hr := row_at (cel_len n L) hx hx
    by_cases hi : i < n
    · rw [(row_at (cel_len n L) hx hi).2, rowM_at n L x n 0 i hi, Nat.zero_add]
      congr 1
      exact cnt_get L (n * n) (x * n + i) (cell_lt hx hi)
    · rw [List.getElem?_eq_none (by rw [hr.1]; omega), List.getElem?_eq_none (by rw [rowM_len]; omega)]
/-- A valid schedule of few numbers. -/
structure VS (n : Nat) (s : List (List (List Nat))) : Prop where
  n1 : 1 ≤ n
  n64 : n ≤ 64
  len : s.length ≤ 64
  ev : ∀ ev ∈ s, EvV n ev
  sm : Sm2 (toI3 s)
  val : evening_valid n (toI3 s) = some true
section
variable {n : Nat} {s : List (List (List Nat))}
theorem VS.cx (h : VS n s) {x y : Nat} (hy : y < n) (e : x ≠ y) : cX n (meetS n s) x y = ((pS x y s : Nat) : Int) := by
  unfold cX
  rw [meetS_count n x y hy e s fun ev he => (h.ev ev he).lt]
theorem VS.dg (h : VS n s) {x : Nat} (hx : x < n) : cX n (meetS n s) x x = 0 := by
  unfold cX
  rw [vS_diag x hx s h.ev]; rfl
theorem VS.sy (h : VS n s) {x y : Nat} (hx : x < n) (hy : y < n) : cX n (meetS n s) x y = cX n (meetS n s) y x := by
  unfold cX
  rw [vS_sym h.ev hx hy]
theorem pE_1 {x y : Nat} : ∀ (ev : List (List Nat)), (∀ t ∈ ev, t.count y ≤ 1) → pE x y ev ≤ ev.flatten.count x
  | [], _ => by simp [pE]
  | t :: ev, h => by
    have ih := pE_1 (x := x) (y := y) ev fun u hu => h u (by simp [hu])
    have a := h t (by simp)
    have : t.count x * t.count y ≤ t.count x * 1 := Nat.mul_le_mul_left _ a
    simp only [pE, List.flatten_cons, List.count_append]; omega
theorem pS_le {x y : Nat} : ∀ (s : List (List (List Nat))), (∀ ev ∈ s, EvV n ev) → pS x y s ≤ s.length
  | [], _ => by simp [pS]
  | ev :: s, h => by
    have ih := pS_le (x := x) (y := y) s fun u hu => h u (by simp [hu])
    have he := h ev (by simp)
    have a := pE_1 (x := x) (y := y) ev fun t ht => he.le1 ht y
    have b := he.cnt x
    simp only [pS, List.length_cons]
    split at b <;> omega
theorem VS.le (h : VS n s) {x y : Nat} (hx : x < n) (hy : y < n) : 0 ≤ cX n (meetS n s) x y ∧ cX n (meetS n s) x y ≤ 64 := by
  refine ⟨by unfold cX; omega, ?_⟩
  by_cases e : x = y
  · subst e; rw [h.dg hx]; omega
  · rw [h.cx hy e]
    have := pS_le (n := n) (x := x) (y := y) s h.ev
    have := h.len
    omega
theorem rmeet_2 (h : VS n s) (c1 : List (List Int)) (x : Nat) (hx : x < n) : ∀ (k y f : Nat) (out : List Int), y + k = n → k < f → out.length = y → ref09_Meet_2 n (toI3 s) c1 x f out y = some (out ++ rowM n (meetS n s) x k y)
  | 0, y, f + 1, out, e, _, _ => by
    unfold ref09_Meet_2
    rw [if_neg (by simp; omega)]
    simp [rowM]
  | k + 1, y, f + 1, out, e, hf, ho => by
    have hn := h.n64
    have ih := rmeet_2 h c1 x hx k (y + 1) f (out ++ [cX n (meetS n s) x y]) (by omega) (by omega) (by simp; omega)
    have hj : ref09_Meet_j3 n (toI3 s) c1 x out y = some (cX n (meetS n s) x y) := by
      unfold ref09_Meet_j3
      by_cases e2 : x = y
      · subst e2
        rw [h.dg hx]; simp
      · have hb : ((x : Int) != (y : Int)) = true := bne_iff_ne.2 fun h => e2 (by omega)
        rw [hb, (tog_both x y n (toI3 s) h.sm h.val).2]
        simp only [if_true, Option.bind_some]
        rw [tgS_pS (n := n) s 0 h.ev, h.cx (by omega) e2]
    unfold ref09_Meet_2
    rw [if_pos (by simp; omega), hj]
    simp only [Option.bind_some]
    rw [if_pos (capOk_le (by omega) (by omega)), wr_nat (by omega), ih]
    simp [rowM]
theorem rmeet_1 (h : VS n s) : ∀ (k x f : Nat) (out : List (List Int)), x + k = n → k < f → out.length = x → ref09_Meet_1 n (toI3 s) f out x = some (out ++ matM n (meetS n s) k x)
  | 0, x, f + 1, out, e, _, _ => by
    unfold ref09_Meet_1
    rw [if_neg (by simp; omega)]
    simp [matM]
  | k + 1, x, f + 1, out, e, hf, ho => by
    have hn := h.n64
    have h2 := rmeet_2 h out x (by omega) n 0 100000 [] (by omega) (by omega) rfl
    rw [show ((0 : Nat) : Int) = 0 from rfl, List.nil_append] at h2
    have ih := rmeet_1 h k (x + 1) f (out ++ [rowM n (meetS n s) x n 0]) (by omega) (by omega) (by simp; omega)
    unfold ref09_Meet_1
    rw [if_pos (by simp; omega), h2]
    simp only [Option.bind_some]
    rw [if_pos (capOk_le (by omega) (by omega)), wr_nat (by omega), ih]
    simp [matM]
theorem rmeet_eq (h : VS n s) : ref09_Meet n (toI3 s) = some (matM n (meetS n s) n 0) := by
  have hn := h.n64
  have h1 := rmeet_1 h n 0 100000 [] (by omega) (by omega) rfl
  rw [show ((0 : Nat) : Int) = 0 from rfl, List.nil_append] at h1
  unfold ref09_Meet
  rw [h1]
  rfl
theorem mat_at {L : List Nat} {x y : Nat} (hx : x < n) (hy : y < n) : ∃ row, idx (matM n L n 0) (x : Int) = some row ∧ idx row (y : Int) = some (cX n L x y) := by
  refine ⟨rowM n L x n 0, ?_, ?_⟩
  · unfold idx
    rw [if_pos (by omega), Int.toNat_natCast, matM_at n L n 0 x hx, Nat.zero_add]
  · unfold idx
    rw [if_pos (by omega), Int.toNat_natCast, rowM_at n L x n 0 y hy, Nat.zero_add]
theorem rm_2 (hn : n ≤ 64) (L : List Nat) (x : Nat) (hx : x < n) : ∀ (k y f : Nat) (hi : Int), y + k = x → k < f →
    ∃ hi', ref09_Most_2 (matM n L n 0) x f hi y = some hi' ∧ hi ≤ hi' ∧ (∀ z, y ≤ z → z < x → cX n L x z ≤ hi') ∧ (hi' = hi ∨ ∃ z, z < x ∧ hi' = cX n L x z)
  | 0, y, f + 1, hi, h, _ => by
    refine ⟨hi, ?_, Int.le_refl _, fun z h1 h2 => by omega, .inl rfl⟩
    unfold ref09_Most_2
    rw [if_neg (by simp; omega)]
  | k + 1, y, f + 1, hi, h, hf => by
    obtain ⟨b1, b2, b3⟩ := mx_cases hi (cX n L x y)
    obtain ⟨hi', e, c2, c3, c5⟩ := rm_2 hn L x hx k (y + 1) f (mxI hi (cX n L x y)) (by omega) (by omega)
    obtain ⟨row, r1, r2⟩ := mat_at (n := n) (L := L) (x := x) (y := y) hx (by omega)
    refine ⟨hi', ?_, by omega, fun z h1 h2 => ?_, ?_⟩
    · unfold ref09_Most_2
      rw [if_pos (by simp; omega), r1]
      simp only [Option.bind_some]
      rw [r2]
      simp only [Option.bind_some]
      rw [wr_nat (by omega)]
      exact e
    · by_cases hz : z = y
      · subst hz; omega
      · exact c3 z (by omega) h2
    · rcases c5 with c5 | c5
      · rcases b3 with b3 | b3
        · exact .inl (by omega)
        · exact .inr ⟨y, by omega, by omega⟩
      · exact .inr c5
theorem rm_1 (hn : n ≤ 64) (L : List Nat) : ∀ (k x f : Nat) (hi : Int), x + k = n → k < f →
    ∃ hi', ref09_Most_1 (matM n L n 0) f hi x = some hi' ∧ hi ≤ hi' ∧ (∀ u z, x ≤ u → u < n → z < u → cX n L u z ≤ hi') ∧ (hi' = hi ∨ ∃ u z, u < n ∧ z < u ∧ hi' = cX n L u z)
  | 0, x, f + 1, hi, h, _ => by
    refine ⟨hi, ?_, Int.le_refl _, fun u z h1 h2 => by omega, .inl rfl⟩
    unfold ref09_Most_1
    rw [if_neg (by rw [matM_len]; simp; omega)]
  | k + 1, x, f + 1, hi, h, hf => by
    obtain ⟨h1, e1, a2, a3, a5⟩ := rm_2 hn L x (by omega) x 0 100000 hi (by omega) (by omega)
    obtain ⟨hi', e, c2, c3, c5⟩ := rm_1 hn L k (x + 1) f h1 (by omega) (by omega)
    refine ⟨hi', ?_, by omega, fun u z g1 g2 g3 => ?_, ?_⟩
    · rw [show ((0 : Nat) : Int) = 0 from rfl] at e1
      unfold ref09_Most_1
      rw [if_pos (by rw [matM_len]; simp; omega), e1]
      simp only [Option.bind_some]
      rw [wr_nat (by omega)]
      exact e
    · by_cases hz : u = x
      · subst hz
        have := a3 z (by omega) g3
        omega
      · exact c3 u z (by omega) g2 g3
    · rcases c5 with c5 | c5
      · rcases a5 with a5 | ⟨z, z1, z2⟩
        · exact .inl (by omega)
        · exact .inr ⟨x, z, by omega, z1, by omega⟩
      · exact .inr c5
theorem rl_2 (hn : n ≤ 64) (L : List Nat) (x : Nat) (hx : x < n) : ∀ (k y f : Nat) (lo : Int), y + k = x → k < f →
    ∃ lo', ref09_Least_2 (matM n L n 0) x f lo y = some lo' ∧ lo' ≤ lo ∧ (∀ z, y ≤ z → z < x → lo' ≤ cX n L x z) ∧ (lo' = lo ∨ ∃ z, z < x ∧ lo' = cX n L x z)
  | 0, y, f + 1, lo, h, _ => by
    refine ⟨lo, ?_, Int.le_refl _, fun z h1 h2 => by omega, .inl rfl⟩
    unfold ref09_Least_2
    rw [if_neg (by simp; omega)]
  | k + 1, y, f + 1, lo, h, hf => by
    obtain ⟨b1, b2, b3⟩ := mn_cases lo (cX n L x y)
    obtain ⟨lo', e, c2, c3, c5⟩ := rl_2 hn L x hx k (y + 1) f (mnI lo (cX n L x y)) (by omega) (by omega)
    obtain ⟨row, r1, r2⟩ := mat_at (n := n) (L := L) (x := x) (y := y) hx (by omega)
    refine ⟨lo', ?_, by omega, fun z h1 h2 => ?_, ?_⟩
    · unfold ref09_Least_2
      rw [if_pos (by simp; omega), r1]
      simp only [Option.bind_some]
      rw [r2]
      simp only [Option.bind_some]
      rw [wr_nat (by omega)]
      exact e
    · by_cases hz : z = y
      · subst hz; omega
      · exact c3 z (by omega) h2
    · rcases c5 with c5 | c5
      · rcases b3 with b3 | b3
        · exact .inl (by omega)
        · exact .inr ⟨y, by omega, by omega⟩
      · exact .inr c5
theorem rl_1 (hn : n ≤ 64) (L : List Nat) : ∀ (k x f : Nat) (lo : Int), x + k = n → k < f →
    ∃ lo', ref09_Least_1 (matM n L n 0) f lo x = some lo' ∧ lo' ≤ lo ∧ (∀ u z, x ≤ u → u < n → z < u → lo' ≤ cX n L u z) ∧ (lo' = lo ∨ ∃ u z, u < n ∧ z < u ∧ lo' = cX n L u z)
  | 0, x, f + 1, lo, h, _ => by
    refine ⟨lo, ?_, Int.le_refl _, fun u z h1 h2 => by omega, .inl rfl⟩
    unfold ref09_Least_1
    rw [if_neg (by rw [matM_len]; simp; omega)]
  | k + 1, x, f + 1, lo, h, hf => by
    obtain ⟨h1, e1, a2, a3, a5⟩ := rl_2 hn L x (by omega) x 0 100000 lo (by omega) (by omega)
    obtain ⟨lo', e, c2, c3, c5⟩ := rl_1 hn L k (x + 1) f h1 (by omega) (by omega)
    refine ⟨lo', ?_, by omega, fun u z g1 g2 g3 => ?_, ?_⟩
    · rw [show ((0 : Nat) : Int) = 0 from rfl] at e1
      unfold ref09_Least_1
      rw [if_pos (by rw [matM_len]; simp; omega), e1]
      simp only [Option.bind_some]
      rw [wr_nat (by omega)]
      exact e
    · by_cases hz : u = x
      · subst hz
        have := a3 z (by omega) g3
        omega
      · exact c3 u z (by omega) g2 g3
    · rcases c5 with c5 | c5
      · rcases a5 with a5 | ⟨z, z1, z2⟩
        · exact .inl (by omega)
        · exact .inr ⟨x, z, by omega, z1, by omega⟩
      · exact .inr c5
theorem extremes_same (h : VS n s) : ∃ hi lo, evening_Most n (toI3 s) = some hi ∧ ref09_Most (matM n (meetS n s) n 0) = some hi ∧ evening_Least n (toI3 s) = some lo ∧ ref09_Least (matM n (meetS n s) n 0) = some lo := by
  obtain ⟨_, sm⟩ := evv_small h.n64 (by have := h.len; omega) h.ev
  obtain ⟨lo, hi, m1, m2, ex⟩ := most_eq sm h.val
  have hn := h.n64
  have hn1 := h.n1
  obtain ⟨hi', e1, p0, p1, p2⟩ := rm_1 hn (meetS n s) n 0 100000 0 (by omega) (by omega)
  rw [show ((0 : Nat) : Int) = 0 from rfl] at e1
  have hM : ref09_Most (matM n (meetS n s) n 0) = some hi' := by
    unfold ref09_Most
    rw [e1]
    rfl
  obtain ⟨lo', e2, q0, q1, q2⟩ := rl_1 hn (meetS n s) n 0 100000 hi' (by omega) (by omega)
  rw [show ((0 : Nat) : Int) = 0 from rfl] at e2
  have hLs : ref09_Least (matM n (meetS n s) n 0) = some lo' := by
    unfold ref09_Least
    rw [hM]
    simp only [Option.bind_some]
    rw [e2]
    rfl
  have hh : hi = hi' := by
    have a : hi ≤ hi' := by
      rcases ex.hi_ with e | ⟨u, z, hu, hz, e⟩
      · omega
      · rw [e]; exact p1 u z (by omega) hu hz
    have b : hi' ≤ hi := by
      rcases p2 with e | ⟨u, z, hu, hz, e⟩
      · rcases ex.hi_ with e3 | ⟨u, z, hu, hz, e3⟩
        · omega
        · rw [e, e3]; exact (h.le hu (by omega)).1
      · rw [e]; exact (ex.all u z hu hz).2
    omega
  refine ⟨hi, if n = 1 then 0 else lo, m1, by rw [hh]; exact hM, m2, ?_⟩
  rw [hLs]
  congr 1
  by_cases e : n = 1
  · subst e
    rw [if_pos rfl]
    rcases p2 with e3 | ⟨u, z, hu, hz, _⟩
    · rcases q2 with e4 | ⟨u, z, hu, hz, _⟩
      · omega
      · omega
    · omega
  · rw [if_neg e]
    have c10 := h.le (x := 1) (y := 0) (by omega) (by omega)
    have lo10 := (ex.all 1 0 (by omega) (by omega)).1
    have l10 := q1 1 0 (by omega) (by omega) (by omega)
    have a : lo' ≤ lo := by
      rcases ex.lo_ with e3 | ⟨u, z, hu, hz, e3⟩
      · omega
      · rw [e3]; exact q1 u z (by omega) hu hz
    have b : lo ≤ lo' := by
      rcases q2 with e3 | ⟨u, z, hu, hz, e3⟩
      · rw [e3, ← hh]
        rcases ex.hi_ with e4 | ⟨u, z, hu, hz, e4⟩
        · have := (ex.all 1 0 (by omega) (by omega)).2
          omega
        · rw [e4]; exact (ex.all u z hu hz).1
      · rw [e3]; exact (ex.all u z hu hz).1
    omega
/- Strain. -/
def sm (f : Nat → Int) : Nat → Int
  | 0 => 0
  | k + 1 => sm f k + f k
theorem sm_congr {f g : Nat → Int} : ∀ (k : Nat), (∀ i, i < k → f i = g i) → sm f k = sm g k
  | 0, _ => rfl
  | k + 1, h => by
    show sm f k + f k = sm g k + g k
    rw [sm_congr k fun i hi => h i (by omega), h k (by omega)]
theorem sm_add (f g : Nat → Int) : ∀ k, sm (fun i => f i + g i) k = sm f k + sm g k
  | 0 => rfl
  | k + 1 => by
    show sm (fun i => f i + g i) k + (f k + g k) = sm f k + f k + (sm g k + g k)
    rw [sm_add f g k]; omega
theorem half (c : Nat → Nat → Int) (n : Nat) (hs : ∀ x y, x < n → y < n → c x y = c y x) (hd : ∀ x, x < n → c x x = 0) : ∀ m, m ≤ n → sm (fun x => sm (fun y => c x y * c x y) m) m = 2 * sm (fun x => sm (fun y => c x y * c x y) x) m
  | 0, _ => rfl
  | m + 1, h => by
    have ih := half c n hs hd m (by omega)
    have e1 : sm (fun x => sm (fun y => c x y * c x y) (m + 1)) (m + 1) = sm (fun x => sm (fun y => c x y * c x y) m) m + sm (fun x => c x m * c x m) m + (sm (fun y => c m y * c m y) m + c m m * c m m) := by
      show sm (fun x => sm (fun y => c x y * c x y) m + c x m * c x m) m + (sm (fun y => c m y * c m y) m + c m m * c m m) = _
      rw [sm_add]
    have e2 : sm (fun x => c x m * c x m) m = sm (fun y => c m y * c m y) m := sm_congr m fun i hi => by rw [hs i m (by omega) (by omega)]
    have e3 : sm (fun x => sm (fun y => c x y * c x y) x) (m + 1) = sm (fun x => sm (fun y => c x y * c x y) x) m + sm (fun y => c m y * c m y) m := rfl
    rw [e1, e2, e3, ih, hd m (by omega)]
    simp only [Int.mul_zero]
    omega
theorem sq_row (n : Nat) (L : List Nat) (x : Nat) : ∀ (k y : Nat), sqSum (rowM n L x k y) = sm (fun i => cX n L x (y + i) * cX n L x (y + i)) k
  | 0, _ => rfl
  | k + 1, y => by
    have key : ∀ (f : Nat → Int) (k : Nat), sm f (k + 1) = f 0 + sm (fun i => f (i + 1)) k := fun f k => by
      induction k with
      | zero => show 0 + f 0 = f 0 + 0; omega
      | succ k ih =>
        show sm f (k + 1) + f (k + 1) = f 0 + (sm (fun i => f (i + 1)) k + f (k + 1))
        rw [ih]; omega
    rw [key]
    simp only [rowM, sqSum, sq_row n L x k (y + 1), Nat.add_zero]
    congr 1
    exact sm_congr k fun i _ => by rw [show y + 1 + i = y + (i + 1) by omega]
theorem sqSum_ap : ∀ (a b : List Int), sqSum (a ++ b) = sqSum a + sqSum b
  | [], b => by simp [sqSum]
  | v :: a, b => by
    show v * v + sqSum (a ++ b) = v * v + sqSum a + sqSum b
    rw [sqSum_ap a b, Int.add_assoc]
theorem sq_mat (n : Nat) (L : List Nat) : ∀ (k x : Nat), sqSum (matM n L k x).flatten = sm (fun i => sm (fun y => cX n L (x + i) y * cX n L (x + i) y) n) k
  | 0, _ => rfl
  | k + 1, x => by
    have key : ∀ (f : Nat → Int) (k : Nat), sm f (k + 1) = f 0 + sm (fun i => f (i + 1)) k := fun f k => by
      induction k with
      | zero => show 0 + f 0 = f 0 + 0; omega
      | succ k ih =>
        show sm f (k + 1) + f (k + 1) = f 0 + (sm (fun i => f (i + 1)) k + f (k + 1))
        rw [ih]; omega
    rw [key]
    simp only [matM, List.flatten_cons, sqSum_ap, sq_mat n L k (x + 1), sq_row, Nat.add_zero, Nat.zero_add]
    congr 1
    exact sm_congr k fun i _ => by rw [show x + 1 + i = x + (i + 1) by omega]
theorem sm_nn (f : Nat → Int) (B : Int) : ∀ k, (∀ i, i < k → 0 ≤ f i ∧ f i ≤ B) → 0 ≤ sm f k ∧ sm f k ≤ B * k
  | 0, _ => by simp [sm]
  | k + 1, h => by
    obtain ⟨a, b⟩ := sm_nn f B k fun i hi => h i (by omega)
    obtain ⟨c, d⟩ := h k (by omega)
    simp only [sm]
    push_cast
    rw [Int.mul_add, Int.mul_one]; omega
theorem rs_2 (h : VS n s) (x : Nat) (hx : x < n) : ∀ (k y f : Nat) (a : Int), y + k = x → k < f → 0 ≤ a → a + 4096 * (k : Int) ≤ 1000000000 → ref09_Strain_2 (matM n (meetS n s) n 0) x f a y = some (a + sm (fun i => cX n (meetS n s) x (y + i) * cX n (meetS n s) x (y + i)) k)
  | 0, y, f + 1, a, e, _, _, _ => by
    unfold ref09_Strain_2
    rw [if_neg (by simp; omega)]
    simp [sm]
  | k + 1, y, f + 1, a, e, hf, a0, a1 => by
    have hn := h.n64
    obtain ⟨row, r1, r2⟩ := mat_at (n := n) (L := meetS n s) (x := x) (y := y) hx (by omega)
    obtain ⟨c0, c1⟩ := h.le (x := x) (y := y) hx (by omega)
    have q0 : 0 ≤ cX n (meetS n s) x y * cX n (meetS n s) x y := Int.mul_nonneg c0 c0
    have q1 : cX n (meetS n s) x y * cX n (meetS n s) x y ≤ 4096 := by
      have := Int.mul_le_mul c1 c1 c0 (by omega)
      omega
    push_cast at a1
    have ih := rs_2 h x hx k (y + 1) f (a + cX n (meetS n s) x y * cX n (meetS n s) x y) (by omega) (by omega) (by omega) (by omega)
    have key : ∀ (f : Nat → Int) (k : Nat), sm f (k + 1) = f 0 + sm (fun i => f (i + 1)) k := fun f k => by
      induction k with
      | zero => show 0 + f 0 = f 0 + 0; omega
      | succ k ih =>
        show sm f (k + 1) + f (k + 1) = f 0 + (sm (fun i => f (i + 1)) k + f (k + 1))
        rw [ih]; omega
    unfold ref09_Strain_2
    rw [if_pos (by simp; omega), r1]
    simp only [Option.bind_some]
    rw [r2]
    simp only [Option.bind_some]
    rw [wr_nat (by omega), wr_i (n := cX n (meetS n s) x y * cX n (meetS n s) x y) (by omega) (by omega), wr_i (n := a + _) (by omega) (by omega), ih, key, Nat.add_zero, Int.add_assoc]
    congr 3
    exact sm_congr k fun i _ => by rw [show y + 1 + i = y + (i + 1) by omega]
theorem rs_1 (h : VS n s) : ∀ (k x f : Nat) (a : Int), x + k = n → k < f → 0 ≤ a → a ≤ 300000 * (x : Int) → ref09_Strain_1 (matM n (meetS n s) n 0) f a x = some (a + sm (fun i => sm (fun y => cX n (meetS n s) (x + i) y * cX n (meetS n s) (x + i) y) (x + i)) k)
  | 0, x, f + 1, a, e, _, _, _ => by
    unfold ref09_Strain_1
    rw [if_neg (by rw [matM_len]; simp; omega)]
    simp [sm]
  | k + 1, x, f + 1, a, e, hf, a0, a1 => by
    have hn := h.n64
    have h2 := rs_2 h x (by omega) x 0 100000 a (by omega) (by omega) a0 (by omega)
    rw [show ((0 : Nat) : Int) = 0 from rfl] at h2
    have hb := sm_nn (fun i => cX n (meetS n s) x (0 + i) * cX n (meetS n s) x (0 + i)) 4096 x fun i hi => by
      obtain ⟨c0, c1⟩ := h.le (x := x) (y := 0 + i) (by omega) (by omega)
      have := Int.mul_le_mul c1 c1 c0 (by omega)
      exact ⟨Int.mul_nonneg c0 c0, by omega⟩
    have ih := rs_1 h k (x + 1) f (a + sm (fun i => cX n (meetS n s) x (0 + i) * cX n (meetS n s) x (0 + i)) x) (by omega) (by omega) (by omega) (by push_cast; omega)
    have key : ∀ (f : Nat → Int) (k : Nat), sm f (k + 1) = f 0 + sm (fun i => f (i + 1)) k := fun f k => by
      induction k with
      | zero => show 0 + f 0 = f 0 + 0; omega
      | succ k ih =>
        show sm f (k + 1) + f (k + 1) = f 0 + (sm (fun i => f (i + 1)) k + f (k + 1))
        rw [ih]; omega
    unfold ref09_Strain_1
    rw [if_pos (by rw [matM_len]; simp; omega), h2]
    simp only [Option.bind_some]
    rw [wr_nat (by omega), ih, key, Int.add_assoc]
    simp only [Nat.add_zero, Nat.zero_add]
    congr 3
    exact sm_congr k fun i _ => by rw [show x + 1 + i = x + (i + 1) by omega]
theorem strain_same (h : VS n s) : ∃ v, evening_Strain n (toI3 s) = some v ∧ ref09_Strain (matM n (meetS n s) n 0) = some v := by
  obtain ⟨_, smm⟩ := evv_small h.n64 (by have := h.len; omega) h.ev
  have hn := h.n64
  have hL : (meetS n s).length ≤ 10000000 := by
    have h1 : ∀ s : List (List (List Nat)), (∀ ev ∈ s, EvV n ev) → (meetS n s).length ≤ s.length * 4096 := fun s => by
      induction s with
      | nil => intro _; simp [meetS]
      | cons ev s ih =>
        intro hv
        have a := ih fun u hu => hv u (by simp [hu])
        have he := hv ev (by simp)
        have b := meetE_len n ev
        have c := sqs_le ev fun t ht => by have := he.tlen ht; omega
        have d := he.flen
        simp only [meetS, List.length_append, List.length_cons, Nat.succ_mul]; omega
    have := h1 s h.ev
    have := h.len
    omega
  refine ⟨_, strain_eq smm h.val hL, ?_⟩
  have h1 := rs_1 h n 0 100000 0 (by omega) (by omega) (by omega) (by omega)
  rw [show ((0 : Nat) : Int) = 0 from rfl, Int.zero_add] at h1
  unfold ref09_Strain
  rw [h1]
  simp only [Option.bind_some]
  congr 1
  have hf : (rowsC n (cel n (meetS n s)) n 0).flatten = cel n (meetS n s) := by
    rw [rowsC_flat n _ (cel_len n _) n 0 (by omega)]; simp
  have e1 : sqSum (cel n (meetS n s)) = sm (fun i => sm (fun y => cX n (meetS n s) (0 + i) y * cX n (meetS n s) (0 + i) y) n) n := by
    rw [← hf, rowsC_M n (meetS n s) n 0 (by omega), sq_mat]
  have e2 := half (cX n (meetS n s)) n (fun x y hx hy => h.sy hx hy) (fun x hx => h.dg hx) n (Nat.le_refl n)
  simp only [Nat.zero_add] at e1 ⊢
  rw [e1, e2]
  omega
end
/-- How often y follows x in a list whose last one is followed by f. -/
def nxC (f x y : Nat) : List Nat → Nat
  | [] => 0
  | a :: r => (if a = x ∧ r.headD f = y then 1 else 0) + nxC f x y r
theorem bp_count (n a b x y : Nat) (ha : a < n) (hb : b < n) (hy : y < n) (e : x ≠ y) : (bp n a b).count (x * n + y) = (if a = x ∧ b = y then 1 else 0) + (if a = y ∧ b = x then 1 else 0) := by
  unfold bp
  cases h : Nat.beq a b with
  | true =>
    have h := Nat.eq_of_beq_eq_true h
    subst h
    have h1 : ¬ (a = x ∧ a = y) := fun h => e (h.1.symm.trans h.2)
    have h2 : ¬ (a = y ∧ a = x) := fun h => e (h.2.symm.trans h.1)
    rw [if_neg h1, if_neg h2]
    simp
  | false =>
    have k1 : (a * n + b == x * n + y) = decide (a = x ∧ b = y) := by
      rw [Bool.eq_iff_iff, beq_iff_eq, decide_eq_true_eq]
      exact ⟨fun h => cell_eq hb hy h, fun h => by rw [h.1, h.2]⟩
    have k2 : (b * n + a == x * n + y) = decide (a = y ∧ b = x) := by
      rw [Bool.eq_iff_iff, beq_iff_eq, decide_eq_true_eq]
      exact ⟨fun h => ⟨(cell_eq ha hy h).2, (cell_eq ha hy h).1⟩, fun h => by rw [h.1, h.2]⟩
    show ([a * n + b, b * n + a] : List Nat).count (x * n + y) = _
    rw [List.count_cons, List.count_cons, List.count_nil, k1, k2]
    simp only [decide_eq_true_eq]
    omega
theorem bp_diag (n a b x : Nat) (ha : a < n) (hb : b < n) (hx : x < n) : (bp n a b).count (x * n + x) = 0 := by
  unfold bp
  cases h : Nat.beq a b with
  | true => rfl
  | false =>
    have hab : a ≠ b := fun e => by subst e; simp at h
    refine List.count_eq_zero.2 fun hm => ?_
    have hm : x * n + x = a * n + b ∨ x * n + x = b * n + a := by simpa using hm
    rcases hm with h | h
    · obtain ⟨e1, e2⟩ := cell_eq hx hb h
      omega
    · obtain ⟨e1, e2⟩ := cell_eq hx ha h
      omega
theorem headD_lt {n f : Nat} {r : List Nat} (hf : f < n) (h : ∀ z ∈ r, z < n) : r.headD f < n := by
  cases r with
  | nil => exact hf
  | cons a r => exact h a (by simp)
theorem besL_count (n f x y : Nat) (hf : f < n) (hy : y < n) (e : x ≠ y) : ∀ (r : List Nat), (∀ z ∈ r, z < n) → (besL n f r).count (x * n + y) = nxC f x y r + nxC f y x r
  | [], _ => rfl
  | a :: r, h => by
    have hr : ∀ z ∈ r, z < n := fun z hz => h z (by simp [hz])
    have ih := besL_count n f x y hf hy e r hr
    simp only [besL, nxC, List.count_append, ih]
    rw [bp_count n a _ x y (h a (by simp)) (headD_lt hf hr) hy e]
    omega
theorem besL_diag (n f x : Nat) (hf : f < n) (hx : x < n) : ∀ (r : List Nat), (∀ z ∈ r, z < n) → (besL n f r).count (x * n + x) = 0
  | [], _ => rfl
  | a :: r, h => by
    have hr : ∀ z ∈ r, z < n := fun z hz => h z (by simp [hz])
    simp only [besL, List.count_append, besL_diag n f x hf hx r hr, bp_diag n a _ x (h a (by simp)) (headD_lt hf hr) hx]
theorem nxC_le (f x y : Nat) : ∀ (r : List Nat), nxC f x y r ≤ r.count x
  | [] => by simp [nxC]
  | a :: r => by
    have ih := nxC_le f x y r
    simp only [nxC, List.count_cons]
    by_cases h : a = x
    · subst h
      simp only [beq_self_eq_true, if_true]
      split <;> omega
    · rw [if_neg (fun e => h e.1)]
      omega
theorem nxC_pos (f x y : Nat) : ∀ (r : List Nat), 0 < nxC f x y r → ∃ p q, r = p ++ x :: q ∧ q.headD f = y
  | [], h => by simp [nxC] at h
  | a :: r, h => by
    simp only [nxC] at h
    by_cases e : a = x ∧ r.headD f = y
    · exact ⟨[], r, by rw [e.1]; rfl, e.2⟩
    · rw [if_neg e, Nat.zero_add] at h
      obtain ⟨p, q, h1, h2⟩ := nxC_pos f x y r h
      exact ⟨a :: p, q, by rw [h1]; rfl, h2⟩
theorem one_place {y : Nat} : ∀ {A C B D : List Nat}, A ++ y :: B = C ++ y :: D → (A ++ y :: B).count y ≤ 1 → A = C ∧ B = D
  | [], [], B, D, h, _ => by simpa using h
  | [], c :: C, B, D, h, hc => by
    exfalso
    simp only [List.nil_append, List.cons_append, List.cons.injEq] at h
    have : 0 < B.count y := by rw [h.2]; simp [List.count_append]; omega
    simp only [List.nil_append, List.count_cons_self] at hc
    omega
  | a :: A, [], B, D, h, hc => by
    exfalso
    simp only [List.nil_append, List.cons_append, List.cons.injEq] at h
    rw [List.cons_append, h.1, List.count_cons_self, List.count_append, List.count_cons_self] at hc
    omega
  | a :: A, c :: C, B, D, h, hc => by
    simp only [List.cons_append, List.cons.injEq] at h
    have hc2 : (A ++ y :: B).count y ≤ 1 := by
      have : (A ++ y :: B).count y ≤ (a :: A ++ y :: B).count y := by rw [List.cons_append, List.count_cons]; omega
      omega
    obtain ⟨e1, e2⟩ := one_place h.2 hc2
    exact ⟨by rw [h.1, e1], e2⟩
theorem not_both {x y a b c : Nat} {r : List Nat} (e : x ≠ y) (hx : (a :: b :: c :: r).count x ≤ 1) (hy : (a :: b :: c :: r).count y ≤ 1) (h1 : 0 < nxC a x y (a :: b :: c :: r)) (h2 : 0 < nxC a y x (a :: b :: c :: r)) : False := by
  obtain ⟨p, r1, e1, d1⟩ := nxC_pos _ _ _ _ h1
  obtain ⟨q, r2, e2, d2⟩ := nxC_pos _ _ _ _ h2
  have hlen : 3 ≤ (a :: b :: c :: r).length := by simp
  have cx : (p ++ x :: r1).count x ≤ 1 := by rw [← e1]; exact hx
  have cy : (q ++ y :: r2).count y ≤ 1 := by rw [← e2]; exact hy
  rw [List.count_append, List.count_cons_self] at cx
  rw [List.count_append, List.count_cons_self] at cy
  cases r1 with
  | cons z r1 =>
    have hz : z = y := d1
    subst hz
    have e3 : (p ++ [x]) ++ z :: r1 = q ++ z :: r2 := by rw [← e2, e1]; simp
    obtain ⟨f1, f2⟩ := one_place e3 (by
      have : (p ++ [x]) ++ z :: r1 = a :: b :: c :: r := by rw [e1]; simp
      rw [this]; exact hy)
    subst f2
    cases r1 with
    | cons w r1 =>
      have hw : w = x := d2
      subst hw
      rw [List.count_cons, List.count_cons_self] at cx
      omega
    | nil =>
      have ha : a = x := d2
      cases p with
      | nil =>
        have := congrArg List.length e1
        simp at this
      | cons p0 p =>
        have : p0 = x := by
          have := congrArg List.head? e1
          simp at this
          omega
        subst this
        simp at cx
        omega
  | nil =>
    have ha : a = y := d1
    cases p with
    | nil =>
      have := congrArg List.length e1
      simp at this
    | cons p0 p =>
      have hp0 : p0 = y := by
        have := congrArg List.head? e1
        simp at this
        omega
      subst hp0
      have e3 : [] ++ p0 :: (p ++ [x]) = q ++ p0 :: r2 := by rw [← e2, e1]; simp
      obtain ⟨_, f2⟩ := one_place e3 (by
        have : [] ++ p0 :: (p ++ [x]) = a :: b :: c :: r := by rw [e1]; simp
        rw [this]; exact hy)
      rw [← f2] at d2
      cases p with
      | nil =>
        have := congrArg List.length e1
        simp at this
      | cons w p =>
        have hw : w = x := d2
        subst hw
        rw [List.count_cons, List.count_cons_self] at cx
        omega
/-- Are two guests beside each other at a table? -/
def bI (x y : Nat) (t : List Nat) : Nat := if x ≠ y ∧ (0 < nxC (t.headD 0) x y t ∨ 0 < nxC (t.headD 0) y x t) then 1 else 0
def bE (x y : Nat) : List (List Nat) → Nat
  | [] => 0
  | t :: ev => bI x y t + bE x y ev
def bS (x y : Nat) : List (List (List Nat)) → Nat
  | [] => 0
  | ev :: s => bE x y ev + bS x y s
theorem besT_count (n x y : Nat) (hx : x < n) (hy : y < n) : ∀ (t : List Nat), (∀ z ∈ t, z < n) → (∀ z, t.count z ≤ 1) → (besT n t).count (x * n + y) = bI x y t
  | [], _, _ => by simp [besT, bI, nxC]
  | [a], h, hc => by
    have ha := h a (by simp)
    by_cases e : x = y
    · subst e
      rw [show besT n [a] = besL n a [a] from rfl, besL_diag n a x ha hx [a] h]
      simp [bI]
    · rw [show besT n [a] = besL n a [a] from rfl, besL_count n a x y ha hy e [a] h]
      have h1 : ¬ (a = x ∧ a = y) := fun h => e (h.1.symm.trans h.2)
      have h2 : ¬ (a = y ∧ a = x) := fun h => e (h.2.symm.trans h.1)
      simp [bI, nxC, h1, h2]
  | [a, b], h, hc => by
    have ha := h a (by simp)
    have hb := h b (by simp)
    rw [show besT n [a, b] = bp n a b from rfl]
    by_cases e : x = y
    · subst e
      rw [bp_diag n a b x ha hb hx]
      simp [bI]
    · rw [bp_count n a b x y ha hb hy e]
      have hab : a ≠ b := fun e => by
        have := hc a
        subst e
        simp at this
      simp only [bI, nxC, List.headD_cons, List.headD_nil]
      by_cases h1 : a = x ∧ b = y
      · obtain ⟨rfl, rfl⟩ := h1
        simp [e, Ne.symm e]
      · by_cases h2 : a = y ∧ b = x
        · obtain ⟨rfl, rfl⟩ := h2
          simp [e, Ne.symm e]
        · have h3 : ¬ (b = x ∧ a = y) := fun h => h2 ⟨h.2, h.1⟩
          have h4 : ¬ (b = y ∧ a = x) := fun h => h1 ⟨h.2, h.1⟩
          simp only [h1, h2, h3, h4, if_false, Nat.add_zero, Nat.lt_irrefl, or_self, and_false]
  | a :: b :: c :: r, h, hc => by
    have ha := h a (by simp)
    have hT : besT n (a :: b :: c :: r) = besL n a (a :: b :: c :: r) := rfl
    rw [hT]
    by_cases e : x = y
    · subst e
      rw [besL_diag n a x ha hx _ h]
      simp [bI]
    · rw [besL_count n a x y ha hy e _ h]
      have k1 := nxC_le a x y (a :: b :: c :: r)
      have k2 := nxC_le a y x (a :: b :: c :: r)
      have c1 := hc x
      have c2 := hc y
      have nb := @not_both x y a b c r e c1 c2
      have hh : (a :: b :: c :: r).headD 0 = a := rfl
      unfold bI
      rw [hh]
      by_cases h1 : 0 < nxC a x y (a :: b :: c :: r)
      · by_cases h2 : 0 < nxC a y x (a :: b :: c :: r)
        · exact (nb h1 h2).elim
        · rw [if_pos ⟨e, .inl h1⟩]; omega
      · by_cases h2 : 0 < nxC a y x (a :: b :: c :: r)
        · rw [if_pos ⟨e, .inr h2⟩]; omega
        · rw [if_neg (fun h => h.2.elim h1 h2)]; omega
theorem besE_count (n x y : Nat) (hx : x < n) (hy : y < n) : ∀ (ev : List (List Nat)), (∀ t ∈ ev, (∀ z ∈ t, z < n) ∧ ∀ z, t.count z ≤ 1) → (besE n ev).count (x * n + y) = bE x y ev
  | [], _ => rfl
  | t :: ev, h => by
    obtain ⟨h1, h2⟩ := h t (by simp)
    simp only [besE, bE, List.count_append, besT_count n x y hx hy t h1 h2, besE_count n x y hx hy ev fun u hu => h u (by simp [hu])]
theorem besS_count (n x y : Nat) (hx : x < n) (hy : y < n) : ∀ (s : List (List (List Nat))), (∀ ev ∈ s, EvV n ev) → (besS n s).count (x * n + y) = bS x y s
  | [], _ => rfl
  | ev :: s, h => by
    have he := h ev (by simp)
    simp only [besS, bS, List.count_append, besS_count n x y hx hy s fun u hu => h u (by simp [hu]), besE_count n x y hx hy ev fun t ht => ⟨he.lt t ht, he.le1 ht⟩]
/- The reference. -/
theorem next_1 (x y : Nat) (t : List Nat) (hl : t.length ≤ 1000) : ∀ (r pre : List Nat) (f : Nat), t = pre ++ r → r.length < f → ref09_next_1 (toI1 t) x y f pre.length = some (if 0 < nxC (t.headD 0) x y r then .inr true else .inl ())
  | [], pre, f + 1, h, _ => by
    unfold ref09_next_1
    rw [if_neg (by rw [toI1_len, h]; simp)]
    rfl
  | a :: r, pre, f + 1, h, hf => by
    have ih := next_1 x y t hl r (pre ++ [a]) f (by rw [h]; simp) (by simp at hf; omega)
    have hp : pre.length < t.length := by rw [h]; simp
    have a3 : ((pre.length + 1 : Nat) : Int) = ((pre ++ [a]).length : Int) := by simp
    have hnx : ∃ k : Nat, ref09_next_j2 (toI1 t) x y pre.length = some (k : Int) ∧ idx (toI1 t) (k : Int) = some ((r.headD (t.headD 0) : Nat) : Int) := by
      unfold ref09_next_j2
      rw [wr_nat (by omega), toI1_len]
      cases r with
      | nil =>
        have : (((pre.length + 1 : Nat) : Int) == (t.length : Int)) = true := by rw [h]; simp
        rw [this]
        refine ⟨0, if_pos rfl, ?_⟩
        rw [h]
        cases pre with
        | nil => rfl
        | cons p pre => exact idx_toI1 [] p (pre ++ [a])
      | cons b r =>
        have : (((pre.length + 1 : Nat) : Int) == (t.length : Int)) = false := by rw [h]; simp; omega
        rw [this]
        refine ⟨pre.length + 1, if_neg Bool.false_ne_true, ?_⟩
        rw [h, show pre ++ a :: b :: r = (pre ++ [a]) ++ b :: r by simp, a3]
        exact idx_toI1 (pre ++ [a]) b r
    obtain ⟨k, k1, k2⟩ := hnx
    unfold ref09_next_1
    rw [if_pos (by rw [toI1_len, h]; simp; omega), k1]
    simp only [Option.bind_some]
    rw [show idx (toI1 t) (pre.length : Int) = some (a : Int) by rw [h]; exact idx_toI1 pre a r]
    simp only [Option.bind_some]
    rw [k2]
    simp only [Option.bind_some]
    have hj : (if ((a : Int) == (x : Int)) = true then some (((r.headD (t.headD 0) : Nat) : Int) == (y : Int)) else some false) = some (decide (a = x ∧ r.headD (t.headD 0) = y)) := by
      by_cases h1 : a = x
      · subst h1
        have hb : (((r.headD (t.headD 0) : Nat) : Int) == (y : Int)) = decide (a = a ∧ r.headD (t.headD 0) = y) := by
          rw [Bool.eq_iff_iff, beq_iff_eq, decide_eq_true_eq]
          omega
        rw [hb, if_pos (beq_self_eq_true _)]
      · have : ((a : Int) == (x : Int)) = false := by
          rw [beq_nat]
          cases h : Nat.beq a x with
          | false => rfl
          | true => exact absurd (Nat.eq_of_beq_eq_true h) h1
        rw [this]
        simp [h1]
    rw [hj]
    simp only [Option.bind_some]
    by_cases h1 : a = x ∧ r.headD (t.headD 0) = y
    · have hq : 0 < nxC (t.headD 0) x y (a :: r) := by
        unfold nxC
        rw [if_pos h1]; omega
      rw [if_pos (decide_eq_true h1), if_pos hq]
    · have hq : nxC (t.headD 0) x y (a :: r) = nxC (t.headD 0) x y r := by
        conv => lhs; unfold nxC
        rw [if_neg h1, Nat.zero_add]
      rw [hq, if_neg (show ¬ decide (a = x ∧ r.headD (t.headD 0) = y) = true by rw [decide_eq_true_eq]; exact h1), wr_nat (by omega), a3, ih]
theorem next_eq (x y : Nat) (t : List Nat) (hl : t.length ≤ 1000) : ref09_next (toI1 t) x y = some (decide (0 < nxC (t.headD 0) x y t)) := by
  have h := next_1 x y t hl t [] 100000 rfl (by omega)
  rw [show ((([] : List Nat).length : Nat) : Int) = 0 from rfl] at h
  unfold ref09_next
  rw [h]
  by_cases hp : 0 < nxC (t.headD 0) x y t
  · rw [if_pos hp, decide_eq_true hp]; rfl
  · rw [if_neg hp, decide_eq_false hp]; rfl
section
variable {n : Nat} {s : List (List (List Nat))}
theorem rb_4 (c1 : List (List Int)) (x y : Nat) (c4 : List Int) (c8 : Int) (ev : List (List Nat)) (hi : idx (toI3 s) c8 = some (toI2 ev)) (hl : ∀ t ∈ ev, t.length ≤ 1000) (hel : ev.length ≤ 100) : ∀ (r pre : List (List Nat)) (f k : Nat), ev = pre ++ r → r.length < f → k + r.length ≤ 1000000 → ref09_Beside_4 n (toI3 s) c1 x c4 y c8 f k pre.length = some ((k + bE x y r : Nat) : Int) ∧ bE x y r ≤ r.length
  | [], pre, f + 1, k, h, _, _ => by
    refine ⟨?_, by simp [bE]⟩
    unfold ref09_Beside_4
    rw [hi]
    simp only [Option.bind_some]
    rw [if_neg (by rw [toI2_len, h]; simp)]
    simp [bE]
  | t :: r, pre, f + 1, k, h, hf, hk => by
    have ht := hl t (by rw [h]; simp)
    have hp : pre.length < ev.length := by rw [h]; simp
    simp only [List.length_cons] at hf hk
    have a3 : ((pre.length + 1 : Nat) : Int) = ((pre ++ [t]).length : Int) := by simp
    have hb1 : bI x y t ≤ 1 := by unfold bI; split <;> omega
    obtain ⟨ih, ib⟩ := rb_4 c1 x y c4 c8 ev hi hl hel r (pre ++ [t]) f (k + bI x y t) (by rw [h]; simp) (by omega) (by omega)
    refine ⟨?_, by simp only [bE, List.length_cons]; omega⟩
    have hit : idx (toI2 ev) (pre.length : Int) = some (toI1 t) := by rw [h]; exact idx_toI2 pre t r
    unfold ref09_Beside_4
    rw [hi]
    simp only [Option.bind_some]
    rw [if_pos (by rw [toI2_len, h]; simp; omega), hit]
    simp only [Option.bind_some]
    rw [next_eq x y t ht, next_eq y x t ht]
    simp only [Option.bind_some]
    have hj : (if ((x : Int) != (y : Int)) = true then if decide (0 < nxC (t.headD 0) x y t) = true then some true else some (decide (0 < nxC (t.headD 0) y x t)) else some false) = some (decide (x ≠ y ∧ (0 < nxC (t.headD 0) x y t ∨ 0 < nxC (t.headD 0) y x t))) := by
      by_cases e : x = y
      · subst e; simp
      · have : ((x : Int) != (y : Int)) = true := bne_iff_ne.2 fun h => e (by omega)
        rw [this]
        generalize nxC (t.headD 0) x y t = A
        generalize nxC (t.headD 0) y x t = B
        by_cases h1 : 0 < A
        · simp [h1, e]
        · simp [h1, e]
    rw [hj]
    simp only [Option.bind_some]
    have hj5 : ref09_Beside_j5 n (toI3 s) c1 x c4 y c8 k pre.length (decide (x ≠ y ∧ (0 < nxC (t.headD 0) x y t ∨ 0 < nxC (t.headD 0) y x t))) = some ((k + bI x y t : Nat) : Int) := by
      unfold ref09_Beside_j5 bI
      by_cases h1 : x ≠ y ∧ (0 < nxC (t.headD 0) x y t ∨ 0 < nxC (t.headD 0) y x t)
      · rw [if_pos (decide_eq_true h1), if_pos h1, wr_nat (by omega)]
      · rw [if_neg (by rw [decide_eq_true_eq]; exact h1), if_neg h1]; rfl
    rw [hj5]
    simp only [Option.bind_some]
    rw [wr_nat (by omega), a3, ih]
    simp only [bE, Nat.add_assoc]
theorem rb_3 (h : VS n s) (c1 : List (List Int)) (x y : Nat) (c4 : List Int) : ∀ (r pre : List (List (List Nat))) (f k : Nat), s = pre ++ r → r.length < f → k + 100 * r.length ≤ 100000 → ref09_Beside_3 n (toI3 s) c1 x c4 y f k pre.length = some ((k + bS x y r : Nat) : Int)
  | [], pre, f + 1, k, e, _, _ => by
    unfold ref09_Beside_3
    rw [if_neg (by rw [toI3_len, e]; simp)]
    simp [bS]
  | ev :: r, pre, f + 1, k, e, hf, hk => by
    have he := h.ev ev (by rw [e]; simp)
    have hn := h.n64
    have hp : pre.length < s.length := by rw [e]; simp
    have hs := h.len
    simp only [List.length_cons] at hf hk
    have hel := he.elen
    obtain ⟨h4, hb⟩ := rb_4 (n := n) (s := s) c1 x y c4 pre.length ev (by rw [e]; exact idx_toI3 pre ev r) (fun t ht => by have := he.tlen ht; omega) (by omega) ev [] 100000 k rfl (by omega) (by omega)
    rw [show ((([] : List (List Nat)).length : Nat) : Int) = 0 from rfl] at h4
    have ih := rb_3 h c1 x y c4 r (pre ++ [ev]) f (k + bE x y ev) (by rw [e]; simp) (by omega) (by omega)
    have a3 : ((pre.length + 1 : Nat) : Int) = ((pre ++ [ev]).length : Int) := by simp
    unfold ref09_Beside_3
    rw [if_pos (by rw [toI3_len, e]; simp; omega), h4]
    simp only [Option.bind_some]
    rw [wr_nat (by omega), a3, ih]
    simp only [bS, Nat.add_assoc]
theorem rb_2 (h : VS n s) (c1 : List (List Int)) (x : Nat) (hx : x < n) : ∀ (k y f : Nat) (out : List Int), y + k = n → k < f → out.length = y → ref09_Beside_2 n (toI3 s) c1 x f out y = some (out ++ rowM n (besS n s) x k y)
  | 0, y, f + 1, out, e, _, _ => by
    unfold ref09_Beside_2
    rw [if_neg (by simp; omega)]
    simp [rowM]
  | k + 1, y, f + 1, out, e, hf, ho => by
    have hn := h.n64
    have hs := h.len
    have ih := rb_2 h c1 x hx k (y + 1) f (out ++ [cX n (besS n s) x y]) (by omega) (by omega) (by simp; omega)
    have h3 := rb_3 h c1 x y out s [] 100000 0 rfl (by omega) (by omega)
    rw [show ((0 : Nat) : Int) = 0 from rfl, show ((([] : List (List (List Nat))).length : Nat) : Int) = 0 from rfl, Nat.zero_add] at h3
    have hc : ((bS x y s : Nat) : Int) = cX n (besS n s) x y := by
      unfold cX
      rw [besS_count n x y hx (by omega) s h.ev]
    rw [hc] at h3
    unfold ref09_Beside_2
    rw [if_pos (by simp; omega), h3]
    simp only [Option.bind_some]
    rw [if_pos (capOk_le (by omega) (by omega)), wr_nat (by omega), ih]
    simp [rowM]
theorem rb_1 (h : VS n s) : ∀ (k x f : Nat) (out : List (List Int)), x + k = n → k < f → out.length = x → ref09_Beside_1 n (toI3 s) f out x = some (out ++ matM n (besS n s) k x)
  | 0, x, f + 1, out, e, _, _ => by
    unfold ref09_Beside_1
    rw [if_neg (by simp; omega)]
    simp [matM]
  | k + 1, x, f + 1, out, e, hf, ho => by
    have hn := h.n64
    have h2 := rb_2 h out x (by omega) n 0 100000 [] (by omega) (by omega) rfl
    rw [show ((0 : Nat) : Int) = 0 from rfl, List.nil_append] at h2
    have ih := rb_1 h k (x + 1) f (out ++ [rowM n (besS n s) x n 0]) (by omega) (by omega) (by simp; omega)
    unfold ref09_Beside_1
    rw [if_pos (by simp; omega), h2]
    simp only [Option.bind_some]
    rw [if_pos (capOk_le (by omega) (by omega)), wr_nat (by omega), ih]
    simp [matM]
theorem beside_same (h : VS n s) : evening_Beside n (toI3 s) = some (matM n (besS n s) n 0) ∧ ref09_Beside n (toI3 s) = some (matM n (besS n s) n 0) := by
  obtain ⟨sm, _⟩ := evv_small h.n64 (by have := h.len; omega) h.ev
  have hn := h.n64
  refine ⟨?_, ?_⟩
  · rw [beside_eq sm h.val, rowsC_M n (besS n s) n 0 (by omega)]
  · have h1 := rb_1 h n 0 100000 [] (by omega) (by omega) rfl
    rw [show ((0 : Nat) : Int) = 0 from rfl, List.nil_append] at h1
    unfold ref09_Beside
    rw [h1]
    rfl
end
/-- Few numbers. -/
structure FewS (s : List (List (List Int))) (most : Nat) : Prop where
  evs : s.length ≤ 70
  tabs : ∀ ev ∈ s, ev.length ≤ 12
  nums : s.flatten.flatten.length ≤ most
structure ShortS (s : List (List (List Int))) : Prop where
  evs : s.length ≤ 140737488355328
  tabs : ∀ ev ∈ s, ev.length ≤ 140737488355328 ∧ ∀ t ∈ ev, t.length ≤ 140737488355328
theorem few_2 (s : List (List (List Int))) (most : Nat) (hm : most ≤ 1000) (c3 : Int) (ev : List (List Int)) (he : ev.length ≤ 12) (hs : ∀ t ∈ ev, t.length ≤ 140737488355328) : ∀ (r pre : List (List Int)) (f : Nat) (c : Nat), ev = pre ++ r → r.length < f → c ≤ most → (∃ q, law09_Few_2 s most c3 ev f c pre.length = some q ∧ ((q = .inr false) ∨ (q = .inl ((c + r.flatten.length : Nat) : Int) ∧ c + r.flatten.length ≤ most)))
  | [], pre, f + 1, c, h, _, hc => by
    subst h
    unfold law09_Few_2
    rw [nlt_len]
    exact ⟨_, rfl, .inr ⟨by simp, by simpa using hc⟩⟩
  | t :: r, pre, f + 1, c, h, hf, hc => by
    have ht := hs t (by rw [h]; simp)
    by_cases hgt : c + t.length ≤ most
    · obtain ⟨q, h1, h2⟩ := few_2 s most hm c3 ev he hs r (pre ++ [t]) f (c + t.length) (by rw [h]; simp) (by simp at hf; omega) hgt
      refine ⟨q, ?_, ?_⟩
      · subst h
        unfold law09_Few_2
        rw [if_pos (lt_len pre t r), idx_app]
        simp only [Option.bind_some]
        rw [wr_snoc pre t r (by omega), wr_i (by omega) (by omega), if_neg (by simp; omega)]
        rw [← h1]
        congr 1
      · rcases h2 with h2 | ⟨h2, h3⟩
        · exact .inl h2
        · refine .inr ⟨?_, ?_⟩
          · rw [h2]; simp; omega
          · simp; simp at h3; omega
    · refine ⟨.inr false, ?_, .inl rfl⟩
      subst h
      unfold law09_Few_2
      rw [if_pos (lt_len pre t r), idx_app]
      simp only [Option.bind_some]
      rw [wr_i (by omega) (by omega), if_pos (by simp; omega)]
theorem few_1 (s : List (List (List Int))) (most : Nat) (hm : most ≤ 1000) (h70 : s.length ≤ 70) (hs : ShortS s) : ∀ (r pre : List (List (List Int))) (f : Nat) (c : Nat), s = pre ++ r → r.length < f → c ≤ most → (∃ q, law09_Few_1 s most f c pre.length = some q ∧ ((q = .inr false) ∨ (q = .inl () ∧ c + r.flatten.flatten.length ≤ most ∧ ∀ ev ∈ r, ev.length ≤ 12)))
  | [], pre, f + 1, c, h, _, hc => by
    subst h
    unfold law09_Few_1
    rw [nlt_len]
    exact ⟨_, rfl, .inr ⟨rfl, by simpa using hc, fun ev he => by cases he⟩⟩
  | ev :: r, pre, f + 1, c, h, hf, hc => by
    by_cases h12 : ev.length ≤ 12
    · obtain ⟨q, a1, a2⟩ := few_2 s most hm pre.length ev h12 (hs.tabs ev (by rw [h]; simp)).2 ev [] 100000 c rfl (by omega) hc
      rw [show ((([] : List (List Int)).length : Nat) : Int) = 0 from rfl] at a1
      rcases a2 with rfl | ⟨rfl, a3⟩
      · refine ⟨.inr false, ?_, .inl rfl⟩
        subst h
        unfold law09_Few_1
        rw [if_pos (lt_len pre ev r), idx_app]
        simp only [Option.bind_some]
        rw [if_neg (by simp; omega), a1]
        rfl
      · obtain ⟨q, h1, h2⟩ := few_1 s most hm h70 hs r (pre ++ [ev]) f (c + ev.flatten.length) (by rw [h]; simp) (by simp at hf; omega) a3
        refine ⟨q, ?_, ?_⟩
        · subst h
          unfold law09_Few_1
          rw [if_pos (lt_len pre ev r), idx_app]
          simp only [Option.bind_some]
          rw [if_neg (by simp; omega), a1]
          simp only [Option.bind_some]
          rw [wr_snoc pre ev r (by omega)]
          exact h1
        · rcases h2 with h2 | ⟨h2, h3, h4⟩
          · exact .inl h2
          · refine .inr ⟨h2, ?_, fun e he => ?_⟩
            · rw [List.flatten_cons, List.flatten_append, List.length_append]; omega
            · rcases List.mem_cons.1 he with rfl | he
              · exact h12
              · exact h4 e he
    · refine ⟨.inr false, ?_, .inl rfl⟩
      subst h
      unfold law09_Few_1
      rw [if_pos (lt_len pre ev r), idx_app]
      simp only [Option.bind_some]
      rw [if_pos (by simp; omega)]
theorem few_eq (s : List (List (List Int))) (most : Nat) (hm : most ≤ 1000) (hs : ShortS s) : ∃ b, law09_Few s most = some b ∧ (b = true → FewS s most) := by
  unfold law09_Few
  by_cases h70 : s.length ≤ 70
  · rw [if_neg (by simp; omega)]
    obtain ⟨q, h1, h2⟩ := few_1 s most hm h70 hs s [] 100000 0 rfl (by omega) (by omega)
    rw [show ((([] : List (List (List Int))).length : Nat) : Int) = 0 from rfl] at h1
    rw [show ((0 : Nat) : Int) = 0 from rfl] at h1
    rw [h1]
    rcases h2 with rfl | ⟨rfl, h3, h4⟩
    · exact ⟨false, rfl, fun h => by cases h⟩
    · exact ⟨true, rfl, fun _ => ⟨h70, h4, by omega⟩⟩
  · rw [if_pos (by simp; omega)]
    exact ⟨false, rfl, fun h => by cases h⟩
theorem copy_2 (s c1 : List (List (List Int))) (c2 : Int) (ev : List (List Int)) (he : ev.length ≤ 50000) (hs : ∀ t ∈ ev, t.length ≤ 50000) : ∀ (r pre : List (List Int)) (f : Nat), ev = pre ++ r → r.length < f → law09_Copy_2 s c1 c2 ev f pre pre.length = some ev
  | [], pre, f + 1, h, _ => by
    subst h
    unfold law09_Copy_2
    rw [nlt_len]
    simp
  | t :: r, pre, f + 1, h, hf => by
    have ht := hs t (by rw [h]; simp)
    have ih := copy_2 s c1 c2 ev he hs r (pre ++ [t]) f (by rw [h]; simp) (by simp at hf; omega)
    subst h
    have hcut : cutOk 0 (t.length : Int) (t ++ [(-9 : Int)]).length = true := by
      simp only [cutOk, Bool.and_eq_true, decide_eq_true_eq, List.length_append, List.length_singleton]; omega
    simp only [List.length_append, List.length_cons] at he
    unfold law09_Copy_2
    rw [if_pos (lt_len pre t r), idx_app]
    simp only [Option.bind_some]
    rw [if_pos (capOk_le (by omega) (by omega)), if_pos (capOk_le (by omega) (by omega)), if_pos hcut, if_pos (capOk_le (by omega) (by omega)), wr_snoc pre t r (by simp; omega)]
    rw [show (t ++ [(-9 : Int)]).take ((t.length : Int)).toNat = t by simp]
    exact ih
theorem copy_1 (s : List (List (List Int))) (he : s.length ≤ 50000) (hs : ∀ ev ∈ s, ev.length ≤ 50000 ∧ ∀ t ∈ ev, t.length ≤ 50000) : ∀ (r pre : List (List (List Int))) (f : Nat), s = pre ++ r → r.length < f → law09_Copy_1 s f pre pre.length = some s
  | [], pre, f + 1, h, _ => by
    subst h
    unfold law09_Copy_1
    rw [nlt_len]
    simp
  | ev :: r, pre, f + 1, h, hf => by
    obtain ⟨h1, h2⟩ := hs ev (by rw [h]; simp)
    have ih := copy_1 s he hs r (pre ++ [ev]) f (by rw [h]; simp) (by simp at hf; omega)
    have h3 := copy_2 s pre pre.length ev h1 h2 ev [] 100000 rfl (by omega)
    rw [show ((([] : List (List Int)).length : Nat) : Int) = 0 from rfl] at h3
    subst h
    simp only [List.length_append, List.length_cons] at he
    unfold law09_Copy_1
    rw [if_pos (lt_len pre ev r), idx_app]
    simp only [Option.bind_some]
    rw [h3]
    simp only [Option.bind_some]
    rw [if_pos (capOk_le (by omega) (by omega)), wr_snoc pre ev r (by simp; omega)]
    exact ih
theorem copy_eq (s : List (List (List Int))) (he : s.length ≤ 50000) (hs : ∀ ev ∈ s, ev.length ≤ 50000 ∧ ∀ t ∈ ev, t.length ≤ 50000) : law09_Copy s = some s := by
  unfold law09_Copy
  have := copy_1 s he hs s [] 100000 rfl (by omega)
  rw [show ((([] : List (List (List Int))).length : Nat) : Int) = 0 from rfl] at this
  rw [this]; rfl
theorem sameInts_1 (xs : List Int) (hxs : xs.length ≤ 50000) : ∀ (r pre : List Int) (f : Nat), xs = pre ++ r → r.length < f → kit_SameInts_1 xs xs f pre.length = some (.inl ())
  | [], pre, f + 1, h, _ => by
    subst h
    unfold kit_SameInts_1
    rw [nlt_len]
    rfl
  | v :: r, pre, f + 1, h, hf => by
    have ih := sameInts_1 xs hxs r (pre ++ [v]) f (by rw [h]; simp) (by simp at hf; omega)
    subst h
    unfold kit_SameInts_1
    rw [if_pos (lt_len pre v r), idx_app]
    simp only [Option.bind_some]
    rw [wr_snoc pre v r (by omega)]
    simp only [bne_self_eq_false, Bool.false_eq_true, if_false]
    exact ih
theorem sameInts_self (xs : List Int) (hxs : xs.length ≤ 50000) : kit_SameInts xs xs = some true := by
  unfold kit_SameInts
  have := sameInts_1 xs hxs xs [] 100000 rfl (by omega)
  rw [show ((([] : List Int).length : Nat) : Int) = 0 from rfl] at this
  simp only [bne_self_eq_false, Bool.false_eq_true, if_false]
  rw [this]; rfl
theorem sameLists_1 (xs : List (List Int)) (hxs : xs.length ≤ 50000) (hs : ∀ t ∈ xs, t.length ≤ 50000) : ∀ (r pre : List (List Int)) (f : Nat), xs = pre ++ r → r.length < f → kit_SameLists_1 xs xs f pre.length = some (.inl ())
  | [], pre, f + 1, h, _ => by
    subst h
    unfold kit_SameLists_1
    rw [nlt_len]
    rfl
  | v :: r, pre, f + 1, h, hf => by
    have hv := hs v (by rw [h]; simp)
    have ih := sameLists_1 xs hxs hs r (pre ++ [v]) f (by rw [h]; simp) (by simp at hf; omega)
    subst h
    unfold kit_SameLists_1
    rw [if_pos (lt_len pre v r), idx_app]
    simp only [Option.bind_some]
    rw [sameInts_self v hv]
    simp only [Option.bind_some]
    rw [wr_snoc pre v r (by omega)]
    simp only [Bool.not_true, Bool.false_eq_true, if_false]
    exact ih
theorem sameLists_self (xs : List (List Int)) (hxs : xs.length ≤ 50000) (hs : ∀ t ∈ xs, t.length ≤ 50000) : kit_SameLists xs xs = some true := by
  unfold kit_SameLists
  have := sameLists_1 xs hxs hs xs [] 100000 rfl (by omega)
  rw [show ((([] : List (List Int)).length : Nat) : Int) = 0 from rfl] at this
  simp only [bne_self_eq_false, Bool.false_eq_true, if_false]
  rw [this]; rfl
theorem equalFunc_1 (xs : List (List (List Int))) (hxs : xs.length ≤ 50000) (hs : ∀ ev ∈ xs, ev.length ≤ 50000 ∧ ∀ t ∈ ev, t.length ≤ 50000) : ∀ (r pre : List (List (List Int))) (f : Nat), xs = pre ++ r → r.length < f → slices_EqualFunc_LLL_LLL_LL_LL__law09_Same_1_1 xs xs f pre.length = some (.inl ())
  | [], pre, f + 1, h, _ => by
    subst h
    unfold slices_EqualFunc_LLL_LLL_LL_LL__law09_Same_1_1
    rw [nlt_len]
    rfl
  | v :: r, pre, f + 1, h, hf => by
    obtain ⟨h1, h2⟩ := hs v (by rw [h]; simp)
    have ih := equalFunc_1 xs hxs hs r (pre ++ [v]) f (by rw [h]; simp) (by simp at hf; omega)
    subst h
    unfold slices_EqualFunc_LLL_LLL_LL_LL__law09_Same_1_1
    rw [if_pos (lt_len pre v r), idx_app]
    simp only [Option.bind_some, law09_Same_1]
    rw [sameLists_self v h1 h2]
    simp only [Option.bind_some]
    rw [wr_snoc pre v r (by omega)]
    simp only [Bool.not_true, Bool.false_eq_true, if_false]
    exact ih
theorem same_self (xs : List (List (List Int))) (hxs : xs.length ≤ 50000) (hs : ∀ ev ∈ xs, ev.length ≤ 50000 ∧ ∀ t ∈ ev, t.length ≤ 50000) : law09_Same xs xs = some true := by
  unfold law09_Same slices_EqualFunc_LLL_LLL_LL_LL__law09_Same_1
  have := equalFunc_1 xs hxs hs xs [] 100000 rfl (by omega)
  rw [show ((([] : List (List (List Int))).length : Nat) : Int) = 0 from rfl] at this
  simp only [bne_self_eq_false, Bool.false_eq_true, if_false]
  rw [this]; rfl
theorem flat_mem {α : Type} : ∀ {s : List (List (List α))} {ev : List (List α)}, ev ∈ s → ev.flatten.length ≤ s.flatten.flatten.length
  | a :: s, ev, h => by
    simp only [List.flatten_cons, List.flatten_append, List.length_append]
    rcases List.mem_cons.1 h with rfl | h
    · omega
    · have := flat_mem h; omega
theorem FewS.lens {s : List (List (List Int))} {most : Nat} (h : FewS s most) (hm : most ≤ 1000) : s.length ≤ 50000 ∧ ∀ ev ∈ s, (ev.length ≤ 50000 ∧ ev.flatten.length ≤ 50000 ∧ ∀ t ∈ ev, t.length ≤ 50000) := by
  refine ⟨by have := h.evs; omega, fun ev he => ?_⟩
  have h1 := h.tabs ev he
  have h2 := flat_mem he
  have h3 := h.nums
  refine ⟨by omega, by omega, fun t ht => ?_⟩
  have := len_mem ht
  omega
theorem chkS_inv (n : Int) (sz : List Int) : ∀ (s : List (List (List Int))) (i : Int), (chkS n sz s i).2 = 0 → ∀ ev ∈ s, chk n sz ev = 0
  | [], _, _, ev, h => by cases h
  | e :: s, i, h, ev, hm => by
    unfold chkS at h
    by_cases hc : chk n sz e = 0
    · rw [hc] at h
      rcases List.mem_cons.1 hm with rfl | hm
      · exact hc
      · exact chkS_inv n sz s (i + 1) h ev hm
    · have : (chk n sz e != 0) = true := by simpa using hc
      rw [this] at h
      exact absurd h hc
theorem anyN_no {p : Int → Bool} {k : Nat} (h : anyN p k 0 = false) (x : Nat) (hx : x < k) : p x = false := by
  cases e : p x with
  | false => rfl
  | true =>
    have := (anyN_iff p k 0).2 ⟨(x : Int), by omega, by omega, e⟩
    rw [h] at this
    cases this
theorem sbad_inv : ∀ (r : List (List Int)) (i : Int), sbad [] r i = false → ∀ t ∈ r, t.length ≠ 0
  | [], _, _, t, h => by cases h
  | u :: r, i, h, t, hm => by
    unfold sbad at h
    simp only [Bool.or_eq_false_iff] at h
    rcases List.mem_cons.1 hm with rfl | hm
    · have := h.1.1
      intro e
      rw [e] at this
      cases this
    · exact sbad_inv r (i + 1) h.2 t hm
theorem chk_inv {n : Nat} {ev : List (List Int)} (h : chk n [] ev = 0) : (∀ t ∈ ev, t.length ≠ 0) ∧ (∀ v ∈ ev.flatten, 0 ≤ v ∧ v < n) ∧ ∀ x : Nat, x < n → ev.flatten.count (x : Int) = 1 := by
  unfold chk at h
  rw [if_neg (by simp)] at h
  cases hb : sbad [] ev 0 with
  | true => rw [hb, if_pos rfl] at h; cases h
  | false =>
    rw [hb, if_neg Bool.false_ne_true] at h
    cases hu : ev.flatten.any (badV n) with
    | true => rw [hu, if_pos rfl] at h; cases h
    | false =>
      rw [hu, if_neg Bool.false_ne_true] at h
      cases h5 : anyN (fun x => decide ((ev.flatten.count x : Int) > 1)) (n : Int).toNat 0 with
      | true => rw [h5, if_pos rfl] at h; cases h
      | false =>
        rw [h5, if_neg Bool.false_ne_true] at h
        cases h2 : anyN (fun x => ((ev.flatten.count x : Int) == 0)) (n : Int).toNat 0 with
        | true => rw [h2, if_pos rfl] at h; cases h
        | false =>
          refine ⟨sbad_inv ev 0 hb, fun v hv => ?_, fun x hx => ?_⟩
          · have := List.any_eq_false.1 hu v hv
            simp only [badV, decide_eq_true_eq] at this
            omega
          · have a := anyN_no h5 x (by simpa using hx)
            have b := anyN_no h2 x (by simpa using hx)
            have a : ¬ ((ev.flatten.count (x : Int) : Nat) : Int) > 1 := of_decide_eq_false a
            have b : ¬ ((ev.flatten.count (x : Int) : Nat) : Int) = 0 := by simpa using b
            omega
def toN1 (t : List Int) : List Nat := t.map Int.toNat
def toN2 (ev : List (List Int)) : List (List Nat) := ev.map toN1
def toN3 (s : List (List (List Int))) : List (List (List Nat)) := s.map toN2
theorem toN1_I {t : List Int} (h : ∀ v ∈ t, 0 ≤ v) : toI1 (toN1 t) = t := by
  induction t with
  | nil => rfl
  | cons v t ih =>
    show Int.ofNat v.toNat :: toI1 (toN1 t) = v :: t
    rw [ih fun w hw => h w (by simp [hw])]
    have := h v (by simp)
    congr 1
    show ((v.toNat : Nat) : Int) = v
    omega
theorem toN2_I {ev : List (List Int)} (h : ∀ v ∈ ev.flatten, 0 ≤ v) : toI2 (toN2 ev) = ev := by
  induction ev with
  | nil => rfl
  | cons t ev ih =>
    show toI1 (toN1 t) :: toI2 (toN2 ev) = t :: ev
    rw [ih fun w hw => h w (by simp only [List.flatten_cons, List.mem_append]; exact .inr hw), toN1_I fun w hw => h w (by simp only [List.flatten_cons, List.mem_append]; exact .inl hw)]
theorem toN3_I {s : List (List (List Int))} (h : ∀ ev ∈ s, ∀ v ∈ ev.flatten, 0 ≤ v) : toI3 (toN3 s) = s := by
  induction s with
  | nil => rfl
  | cons ev s ih =>
    show toI2 (toN2 ev) :: toI3 (toN3 s) = ev :: s
    rw [ih fun e he => h e (by simp [he]), toN2_I (h ev (by simp))]
theorem evv_of {n : Nat} {ev : List (List Int)} (h : chk n [] ev = 0) : toI2 (toN2 ev) = ev ∧ EvV n (toN2 ev) := by
  obtain ⟨h1, h2, h3⟩ := chk_inv h
  have e := toN2_I fun v hv => (h2 v hv).1
  refine ⟨e, ⟨rfl, fun t ht => ?_, fun j => ?_⟩⟩
  · obtain ⟨u, hu, rfl⟩ := List.mem_map.1 ht
    unfold toN1
    rw [List.length_map]
    exact h1 u hu
  · have hc : (toN2 ev).flatten.count j = ev.flatten.count (j : Int) := by
      rw [← toI1_count, ← toI2_flat, e]
    rw [hc]
    by_cases hj : j < n
    · rw [if_pos hj, h3 j hj]
    · rw [if_neg hj]
      refine List.count_eq_zero.2 fun hm => ?_
      have := (h2 _ hm).2
      omega
theorem tgS_len (a b : Int) : ∀ (s : List (List (List Int))) (i : Int), (∀ ev ∈ s, ev.length ≤ 12) → (tgS a b i s).length ≤ 12 * s.length
  | [], _, _ => by simp [tgS]
  | ev :: s, i, h => by
    have ih := tgS_len a b s (i + 1) fun u hu => h u (by simp [hu])
    have h1 := tgE_len a b i ev
    have h2 := h ev (by simp)
    simp only [tgS, List.length_append, List.length_cons]; omega
theorem meets_law (n : Int) (hn : in64 n) (s : List (List (List Int))) (hs : ShortS s) (a b : Int) : law09_EveningMeets n s a b = some true := by
  unfold law09_EveningMeets
  obtain ⟨bb, hb, hb2⟩ := few_eq s 100 (by omega) hs
  rw [show ((100 : Nat) : Int) = 100 from rfl] at hb
  rw [hb]
  simp only [Option.bind_some]
  cases bb with
  | false => rfl
  | true =>
    have hf := hb2 rfl
    obtain ⟨l1, l2⟩ := hf.lens (by omega)
    have hl : ∀ ev ∈ s, ev.length ≤ 50000 ∧ ∀ t ∈ ev, t.length ≤ 50000 := fun ev he => ⟨(l2 ev he).1, (l2 ev he).2.2⟩
    obtain ⟨c1, c2⟩ := check_both n hn [] (by simp) s l1 (fun ev he => ⟨(l2 ev he).1, (l2 ev he).2.1⟩)
    have hv1 : evening_valid n s = some ((chkAll n [] s).2 == 0) := by
      unfold evening_valid; rw [c1]; rfl
    have hv2 : ref09_Valid n s = some ((chkAll n [] s).2 == 0) := by
      unfold ref09_Valid; rw [c2]; rfl
    have hsame := same_self s l1 hl
    have hm : law09_meets n s a b = some true := by
      unfold law09_meets
      rw [copy_eq s l1 hl]
      simp only [Option.bind_some]
      cases hok : ((chkAll n [] s).2 == 0) with
      | false =>
        rw [hok] at hv1 hv2
        have m1 : evening_Meet n s = some [] := by unfold evening_Meet; rw [hv1]; rfl
        have m2 : evening_Beside n s = some [] := by unfold evening_Beside; rw [hv1]; rfl
        have m3 : evening_Together n s a b = some [] := by unfold evening_Together; rw [hv1]; rfl
        have m4 : evening_Most n s = some 0 := by unfold evening_Most; rw [hv1]; rfl
        have m5 : evening_Least n s = some 0 := by unfold evening_Least; rw [hv1]; rfl
        have m6 : evening_Strain n s = some 0 := by unfold evening_Strain; rw [hv1]; rfl
        rw [m1, m2, m3, m4, m5, m6, hv2]
        simp only [Option.bind_some, Bool.not_false, if_true]
        rw [hsame]
        rfl
      | true =>
        rw [hok] at hv1 hv2
        have hok : (chkAll n [] s).2 = 0 := by simpa using hok
        unfold chkAll at hok
        by_cases g1 : (decide (n < 1) || decide (n > 64) || (decide ((([] : List Int).length : Int) > 0) && !fitP n [])) = true
        · rw [if_pos g1] at hok; cases hok
        · rw [if_neg g1] at hok
          by_cases g2 : s.length > 64
          · rw [if_pos g2] at hok; cases hok
          · rw [if_neg g2] at hok
            have hn1 : 1 ≤ n ∧ n ≤ 64 := by
              simp only [Bool.or_eq_true, decide_eq_true_eq, not_or] at g1
              omega
            obtain ⟨N, rfl⟩ := Int.eq_ofNat_of_zero_le (show 0 ≤ n by omega)
            have hch := chkS_inv _ _ s 0 hok
            have hevv : ∀ ev ∈ s, toI2 (toN2 ev) = ev ∧ EvV N (toN2 ev) := fun ev he => evv_of (hch ev he)
            have hI : toI3 (toN3 s) = s := toN3_I fun ev he v hv => by
              have := (hevv ev he).1
              rw [← this, toI2_flat] at hv
              obtain ⟨j, _, rfl⟩ := mem_toI1 hv
              exact Int.natCast_nonneg j
            have hsm2 : Sm2 s := ⟨hf.evs, fun ev he => ⟨hf.tabs ev he, fun t ht => by
              have h1 := len_mem ht
              have h2 := flat_mem he
              have h3 := hf.nums
              omega⟩⟩
            have vs : VS N (toN3 s) := by
              refine ⟨by omega, by omega, ?_, fun ev he => ?_, ?_, ?_⟩
              · unfold toN3; rw [List.length_map]; omega
              · obtain ⟨u, hu, rfl⟩ := List.mem_map.1 he
                exact (hevv u hu).2
              · rw [hI]; exact hsm2
              · rw [hI]; exact hv1
            obtain ⟨hi, lo, x1, x2, x3, x4⟩ := extremes_same vs
            obtain ⟨st, y1, y2⟩ := strain_same vs
            obtain ⟨z1, z2⟩ := beside_same vs
            have w1 := rmeet_eq vs
            obtain ⟨_, smm⟩ := evv_small (n := N) (s := toN3 s) (by omega) (by have := vs.len; omega) vs.ev
            have w2 := meet_eq smm vs.val
            rw [rowsC_M N (meetS N (toN3 s)) N 0 (by omega)] at w2
            obtain ⟨t1, t2⟩ := tog_both a b (N : Int) s hsm2 hv1
            rw [hI] at x1 x3 y1 z1 z2 w1 w2
            have hml : ∀ (L : List Nat), ∀ row ∈ matM N L N 0, row.length ≤ 50000 := fun L row hr => by
              obtain ⟨i, hi, e⟩ := List.getElem_of_mem hr
              have hi' := hi
              rw [matM_len] at hi'
              have := matM_at N L N 0 i hi'
              rw [List.getElem?_eq_getElem hi, e] at this
              injection this with this
              rw [this, rowM_len]
              omega
            rw [w2, z1, t1, x1, x3, y1, hv2]
            simp only [Option.bind_some, Bool.not_true, Bool.false_eq_true, if_false]
            rw [w1]
            simp only [Option.bind_some]
            have hj1 : ∀ v1 v2 v3 v4 v5 v6 v7 v14, law09_meets_j1 N s a b v1 v2 v3 v4 v5 v6 v7 v14 = some (if a = b then [] else tgS a b 0 s) := fun v1 v2 v3 v4 v5 v6 v7 v14 => by
              unfold law09_meets_j1
              by_cases e : a = b
              · subst e
                simp
              · have : (a != b) = true := bne_iff_ne.2 e
                rw [this, t2, if_neg e]
                rfl
            have htl : (if a = b then [] else tgS a b 0 s : List Int).length ≤ 50000 := by
              split
              · simp
              · have := tgS_len a b s 0 fun ev he => hf.tabs ev he
                have := hf.evs
                omega
            rw [hj1]
            simp only [Option.bind_some]
            rw [sameLists_self _ (by rw [matM_len]; omega) (hml _)]
            simp only [Option.bind_some, if_true]
            rw [z2]
            simp only [Option.bind_some]
            rw [sameLists_self _ (by rw [matM_len]; omega) (hml _)]
            simp only [Option.bind_some, if_true]
            rw [equal_self _ htl]
            simp only [Option.bind_some, if_true]
            rw [x2, x4, y2]
            simp only [Option.bind_some, beq_self_eq_true, if_true]
            rw [hsame]
            rfl
    rw [hm]
    rfl
end Go.Proofs.YtnmkejapogklmaaDoor
namespace Go.Proofs.YtnmkejapogklmaaDoor.eveningMeets
open Go.ChangeShapes Go.WideShapes Go.ChangeAt Go.RowKit
theorem law_ret (a0 : Int) (a1 : (List (List (List Int)))) (a2 : Int) (a3 : Int) (h : law09_EveningMeets a0 a1 a2 a3 = some true) {w : World} {v0 v1 v2 v3 : Value} (h0 : VR w (fun c => c < w.heap.size) [] (cdI.enc a0) v0) (h1 : VR w (fun c => c < w.heap.size) [] ((cdL 1 (cdL 1 (cdL 1 cdI))).enc a1) v1) (h2 : VR w (fun c => c < w.heap.size) [] (cdI.enc a2) v2) (h3 : VR w (fun c => c < w.heap.size) [] (cdI.enc a3) v3) : Ret Tryd.prog 3 #[v0, v1, v2, v3] w fun v w' => v = .bool true ∧ w.grownBy w' none :=
  Ret.mono (x_law09_EveningMeets.2 (cs_law09_EveningMeets.enc (a0, a1, a2, a3, ())) (er_law09_EveningMeets true) (told_enc (s := cs_law09_EveningMeets) (a := (a0, a1, a2, a3, ())) h) w (fun c => c < w.heap.size) [v0, v1, v2, v3] (fun c hc => hc) (fun g x h => by cases h) (.cons h0 (.cons h1 (.cons h2 (.cons h3 .nil))))) fun v w' h => ⟨h.2.v_inv, h.1⟩
set_option maxRecDepth 100000 in
theorem contract (H : Type) (enc : TypeId × Value → H) (W : World) (base : Nat) (args : Array Value) (ds gs : List (DataW H)) (before : List MemPlace)
    (hval : ∀ (j : Nat) t v, Tryd.f3.params[j]? = some t → args[j]? = some v → Value.okWide Tryd.prog W .any base t v)
    (hW : DataW.Whole enc Tryd.prog Tryd.f3.params.toList Rows.eveningMeetsSpec.vars false W args.toList ds gs before)
    (hsz : (DataW.weightsEach Tryd.prog (Tryd.f3.params.toList ++ (OpenSpec.ofChange Rows.eveningMeetsSpec).bare.plain.varTypes Tryd.prog) (ds ++ gs)).all (· ≤ reachBytes) = true) :
    Calls Tryd.prog 3 args W fun e W' => ∃ v, e = .returned v ∧ Rows.eveningMeetsSpec.post enc Tryd.prog Tryd.f3 false true false false W args v W' := by
  have hW' := hW
  obtain ⟨p, q, hA0, hV, rfl, hfz, hnd⟩ := hW
  have hA : DataW.TrodAll enc Tryd.prog W 0 (fun _ => true) true Tryd.f3.params.toList args.toList ds p := hA0
  have hpar : Tryd.f3.params = #[3, 22, 3, 3] := by kernel_rfl
  rw [hpar] at hA hval
  obtain ⟨v0, vs0, d0, ds0, p0, q0, hargs, rfl, rfl, h0, r0⟩ := trodAll_cons hA
  obtain ⟨v1, vs1, d1, ds1, p1, q1, rfl, rfl, rfl, h1, r1⟩ := trodAll_cons r0
  obtain ⟨v2, vs2, d2, ds2, p2, q2, rfl, rfl, rfl, h2, r2⟩ := trodAll_cons r1
  obtain ⟨v3, vs3, d3, ds3, p3, q3, rfl, rfl, rfl, h3, r3⟩ := trodAll_cons r2
  obtain ⟨rfl, rfl, rfl⟩ := trodAll_nil r3
  obtain rfl : args = #[v0, v1, v2, v3] := by apply Array.ext'; simpa using hargs
  obtain ⟨a0, k0, g0⟩ := rd_arg (rd_int64 (by kernel_rfl : Tryd.prog.underlying 3 = some (.int .i64))) (one_int (by kernel_rfl : Tryd.prog.underlying 3 = some (.int .i64)) (hval 0 3 v0 rfl rfl)) h0 hsz (j := 0) (by kernel_rfl) rfl
  obtain ⟨a1, k1, g1⟩ := rd_arg (rd_slice (by kernel_rfl : Tryd.prog.underlying 22 = some (.slice 36)) (by kernel_rfl) (by kernel_rfl) (rd_slice (by kernel_rfl : Tryd.prog.underlying 36 = some (.slice 29)) (by kernel_rfl) (by kernel_rfl) (rd_slice (by kernel_rfl : Tryd.prog.underlying 29 = some (.slice 3)) (by kernel_rfl) (by kernel_rfl) (rd_int64 (by kernel_rfl : Tryd.prog.underlying 3 = some (.int .i64)))))) (one_slice (by kernel_rfl : Tryd.prog.underlying 22 = some (.slice 36)) (hval 1 22 v1 rfl rfl)) h1 hsz (j := 1) (by kernel_rfl) rfl
  obtain ⟨a2, k2, g2⟩ := rd_arg (rd_int64 (by kernel_rfl : Tryd.prog.underlying 3 = some (.int .i64))) (one_int (by kernel_rfl : Tryd.prog.underlying 3 = some (.int .i64)) (hval 2 3 v2 rfl rfl)) h2 hsz (j := 2) (by kernel_rfl) rfl
  obtain ⟨a3, k3, g3⟩ := rd_arg (rd_int64 (by kernel_rfl : Tryd.prog.underlying 3 = some (.int .i64))) (one_int (by kernel_rfl : Tryd.prog.underlying 3 = some (.int .i64)) (hval 3 3 v3 rfl rfl)) h3 hsz (j := 3) (by kernel_rfl) rfl
  have hc := law_ret a0 a1 a2 a3 (meets_law a0 g0 a1 ⟨g1.1, fun ev he => ⟨(g1.2 ev he).1, fun t ht => ((g1.2 ev he).2 t ht).1⟩⟩ a2 a3) k0 k1 k2 k3
  unfold Ret at hc
  refine hc.mono fun e W' he => ?_
  cases e with
  | returned v =>
    obtain ⟨rfl, hg⟩ := he
    exact ⟨_, rfl, post_true laidOut (fun t ht => ⟨mem_of_laid (fun t => Tryd.prog.readableRec t) (by kernel_rfl) ht, of_decide_eq_true (mem_of_laid (fun t => decide (t < Tryd.prog.types.size)) (by kernel_rfl) ht)⟩) hW' rfl (by kernel_rfl) (by kernel_rfl : Tryd.prog.underlying 4 = some .bool) rfl hg⟩
  | panicked c => exact he.elim
  | outgrown => exact he.elim
theorem laid_met (os : Os) : laidMet Tryd.prog Rows.eveningMeetsRow.laid ((laidWorld os).forCall (fun _ _ => 0) ⟨#[], #[Value.int .i64 0, Value.slice none 0 0, Value.int .i64 0, Value.int .i64 0], []⟩).memory :=
  laidMet_of_run' 8 (by kernel_rfl) (by kernel_rfl)
theorem reads (os : Os) {H : Type} (enc : TypeId × Value → H) : ∃ places, DataW.whole enc Tryd.prog ((laidWorld os).forCall (fun _ _ => 0) ⟨#[], #[Value.int .i64 0, Value.slice none 0 0, Value.int .i64 0, Value.int .i64 0], []⟩).memory Tryd.f3.params.toList Rows.eveningMeetsSpec.vars false #[Value.int .i64 0, Value.slice none 0 0, Value.int .i64 0, Value.int .i64 0].toList 8 = some ([.lit (.int .i64 0), .nil, .lit (.int .i64 0), .lit (.int .i64 0)], [], places) :=
  ⟨[], by kernel_rfl⟩
set_option maxRecDepth 100000 in
theorem lifted (os : Os) (started : os.Started) (H : Type) (enc : TypeId × Value → H) (F : Stop.Interp) :
    ReturnsInHanded {} Tryd.checked os 3 .any ((OpenSpec.ofChange Rows.eveningMeetsSpec).preRow enc Tryd.prog Tryd.f3 Rows.eveningMeetsRow.domain false Rows.eveningMeetsRow.laid) (((OpenSpec.ofChange Rows.eveningMeetsSpec).at F).post enc Tryd.prog Tryd.f3 false true false false) := by
  obtain ⟨places, hx⟩ := reads os enc
  refine returnsInHanded_of_row (C := Tryd.checked) (s := OpenSpec.ofChange Rows.eveningMeetsSpec) ownKnob0 started (by kernel_rfl) Tryd.func3
    (witness_row_at (enc := enc) (C := Tryd.checked) false (laidWorld os) #[Value.int .i64 0, Value.slice none 0 0, Value.int .i64 0, Value.int .i64 0] rfl (by kernel_rfl) (by kernel_rfl) (by kernel_rfl)
      (OpenSpec.preRow_of_cond 8 hx (by kernel_rfl) (fun k hk => by cases hk) (by kernel_rfl) (laid_met os))) ?_
  intro W base args ds gs before hval hW _ _ hsz _ _ _
  exact contract H enc W base args ds gs before hval hW hsz
theorem said : Rows.EveningMeetsSaid :=
  OpenClaim.holds_of_cond 3 Tryd.f3 rfl rfl rfl rfl rfl rfl rfl ⟨rfl, rfl, rfl, rfl, rfl⟩ rfl rfl rfl rfl rfl (by kernel_rfl) Tryd.func3 (by kernel_rfl)
    (of_decide_eq_true (by kernel_rfl)) (by unfold Func.isWrapper; first | (rw [if_pos (by decide +kernel)]; kernel_rfl) | (rw [if_neg (by decide +kernel)]; exact ⟨rfl, rfl⟩))
    (fun os started H enc _ F => by rw [OpenClaim.pre_eq_preRow]; exact lifted os started H enc F)
theorem plain (f : FuncId) (fn : Func) (hf : Tryd.pinned.checked.prog.funcNamed "trestle/trestlelaw09.EveningMeets" = some f) (hfn : Tryd.pinned.checked.prog.funcs[f]? = some fn) :
    false = Tryd.pinned.checked.prog.looks [] ∧ ∀ (j : Nat) t, fn.params[j]? = some t → Tryd.pinned.checked.prog.wantsStandIn t = false := by
  obtain rfl : f = 3 := Option.some.inj ((show Tryd.prog.funcNamed "trestle/trestlelaw09.EveningMeets" = some 3 by kernel_rfl).symm.trans hf) |>.symm
  obtain rfl : fn = Tryd.f3 := (Option.some.inj (Tryd.func3.symm.trans hfn)).symm
  refine ⟨by kernel_rfl, fun j t ht => ?_⟩
  have hm : t ∈ Tryd.f3.params.toList := by simpa using Array.mem_of_getElem? ht
  exact (show Tryd.prog.wantsStandIn t = false from Bool.not_eq_true' _ |>.mp (mem_of_laid (fun t => !Tryd.prog.wantsStandIn t) (by kernel_rfl) hm))
theorem card : Rows.EveningMeetsCardSaid :=
  Claim7.holds_tied_plain_at .later [] _ _ _ _ said (fun _ h => by cases h) (by kernel_rfl) (fun _ h => by cases h) eveningMeets_row_tie rfl ⟨rfl, rfl⟩ (by kernel_rfl) rfl plain (by kernel_rfl)
end Go.Proofs.YtnmkejapogklmaaDoor.eveningMeets
