/- The law of plans that are asked twice, for all inputs. -/
import Derived.Test.YtcmgmkepodbpkaaDoorEveningPlannedM1
import Derived.Test.YtcmgmkepodbpkaaDoorEveningPlannedM2
import Derived.Test.YtcmgmkepodbpkaaDoorEveningPlannedM3
import Derived.Test.YtcmgmkepodbpkaaDoorEveningPlannedM4
import Derived.Test.YtcmgmkepodbpkaaDoorEveningPlannedM5
namespace Go.Proofs.YtcmgmkepodbpkaaDoor
open Go.RowKit
/- trestle/trestleref09.CheckEvening -/
def ref09_CheckEvening_1 (x0 : Int) (x1 : (List Int)) (x2 : (List (List Int))) : Nat → Int → Option ((Unit) ⊕ (Int))
  | 0, _ => none
  | f + 1, c4 =>
    if (decide (c4 < (x2.length : Int))) = true then
    (idx x2 c4).bind fun v6 =>
    (if ((v6.length : Int) == 0) = true then some true else if (decide ((x1.length : Int) > 0)) = true then (idx x1 c4).bind fun v7 =>
    (idx x2 c4).bind fun v8 =>
    some (v7 != (v8.length : Int)) else some false).bind fun j10 =>
    if j10 = true then
    some (.inr 2)
    else
    ref09_CheckEvening_1 x0 x1 x2 f (wr .i64 (c4 + 1))
    else
    some (.inl ())
def ref09_CheckEvening_3 (x0 : Int) (x2 : (List (List Int))) (c17 : Int) : Nat → Int → Option ((Unit) ⊕ (Int))
  | 0, _ => none
  | f + 1, c19 =>
    (idx x2 c17).bind fun v20 =>
    if (decide (c19 < (v20.length : Int))) = true then
    (idx x2 c17).bind fun v22 =>
    (idx v22 c19).bind fun v23 =>
    (if (decide (v23 < 0)) = true then some true else (idx x2 c17).bind fun v24 =>
    (idx v24 c19).bind fun v25 =>
    some (decide (v25 ≥ x0))).bind fun j27 =>
    if j27 = true then
    some (.inr 6)
    else
    ref09_CheckEvening_3 x0 x2 c17 f (wr .i64 (c19 + 1))
    else
    some (.inl ())
def ref09_CheckEvening_2 (x0 : Int) (x2 : (List (List Int))) : Nat → Int → Option ((Unit) ⊕ (Int))
  | 0, _ => none
  | f + 1, c17 =>
    if (decide (c17 < (x2.length : Int))) = true then
    (ref09_CheckEvening_3 x0 x2 c17 100000 0).bind fun r31 =>
    match r31 with
    | (.inl w32) =>
      ref09_CheckEvening_2 x0 x2 f (wr .i64 (c17 + 1))
    | (.inr w33) =>
      some (.inr w33)
    else
    some (.inl ())
def ref09_CheckEvening_4 (x0 : Int) (x2 : (List (List Int))) : Nat → Int → Option ((Unit) ⊕ (Int))
  | 0, _ => none
  | f + 1, c37 =>
    if (decide (c37 < x0)) = true then
    (ref09_times x2 c37).bind fun v39 =>
    if (decide (v39 > 1)) = true then
    some (.inr 5)
    else
    ref09_CheckEvening_4 x0 x2 f (wr .i64 (c37 + 1))
    else
    some (.inl ())
def ref09_CheckEvening_5 (x0 : Int) (x2 : (List (List Int))) : Nat → Int → Option ((Unit) ⊕ (Int))
  | 0, _ => none
  | f + 1, c44 =>
    if (decide (c44 < x0)) = true then
    (ref09_times x2 c44).bind fun v46 =>
    if (v46 == 0) = true then
    some (.inr 2)
    else
    ref09_CheckEvening_5 x0 x2 f (wr .i64 (c44 + 1))
    else
    some (.inl ())
def ref09_CheckEvening (x0 : Int) (x1 : (List Int)) (x2 : (List (List Int))) : Option (Int) :=
  (if (decide ((x1.length : Int) > 0)) = true then some ((x1.length : Int) != (x2.length : Int)) else some false).bind fun j2 =>
  if j2 = true then
  some 2
  else
  (ref09_CheckEvening_1 x0 x1 x2 100000 0).bind fun r15 =>
  match r15 with
  | (.inl w16) =>
    (ref09_CheckEvening_2 x0 x2 100000 0).bind fun r35 =>
    match r35 with
    | (.inl w36) =>
      (ref09_CheckEvening_4 x0 x2 100000 0).bind fun r42 =>
      match r42 with
      | (.inl w43) =>
        (ref09_CheckEvening_5 x0 x2 100000 0).bind fun r49 =>
        match r49 with
        | (.inl w50) =>
          some 0
        | (.inr w51) =>
          some w51
      | (.inr w52) =>
        some w52
    | (.inr w53) =>
      some w53
  | (.inr w54) =>
    some w54
/- trestle/trestleref09.Fit -/
def ref09_Fit_1 (x0 : Int) (x1 : (List Int)) : Nat → Int → Int → Option ((Int) ⊕ (Bool))
  | 0, _, _ => none
  | f + 1, c1, c2 =>
    if (decide (c2 < (x1.length : Int))) = true then
    (idx x1 c2).bind fun v4 =>
    (if (decide (v4 < 1)) = true then some true else (idx x1 c2).bind fun v5 =>
    if (decide (v5 > 64)) = true then some true else some (decide (c1 > 64))).bind fun j7 =>
    if j7 = true then
    some (.inr false)
    else
    (idx x1 c2).bind fun v10 =>
    ref09_Fit_1 x0 x1 f (wr .i64 (c1 + v10)) (wr .i64 (c2 + 1))
    else
    some (.inl c1)
def ref09_Fit (x0 : Int) (x1 : (List Int)) : Option (Bool) :=
  (ref09_Fit_1 x0 x1 100000 0 0).bind fun r14 =>
  match r14 with
  | (.inl w15) =>
    (if (decide (x0 ≥ 1)) = true then if (decide (x0 ≤ 64)) = true then some (w15 == x0) else some false else some false).bind fun j17 =>
    some j17
  | (.inr w20) =>
    some w20
/- trestle/trestleref09.Check -/
def ref09_Check_1 (x0 : Int) (x1 : (List Int)) (x2 : (List (List (List Int)))) : Nat → Int → Option ((Unit) ⊕ (Int × Int))
  | 0, _ => none
  | f + 1, c6 =>
    if (decide (c6 < (x2.length : Int))) = true then
    (idx x2 c6).bind fun v8 =>
    (ref09_CheckEvening x0 x1 v8).bind fun v9 =>
    if (v9 != 0) = true then
    some (.inr (c6, v9))
    else
    ref09_Check_1 x0 x1 x2 f (wr .i64 (c6 + 1))
    else
    some (.inl ())
def ref09_Check (x0 : Int) (x1 : (List Int)) (x2 : (List (List (List Int)))) : Option (Int × Int) :=
  (if (decide (x0 < 1)) = true then some true else if (decide (x0 > 64)) = true then some true else if (decide ((x1.length : Int) > 0)) = true then (ref09_Fit x0 x1).bind fun v1 =>
  some (!v1) else some false).bind fun j3 =>
  if j3 = true then
  some (0, 90)
  else
  if (decide ((x2.length : Int) > 64)) = true then
  some (0, 7)
  else
  (ref09_Check_1 x0 x1 x2 100000 0).bind fun r13 =>
  match r13 with
  | (.inl w14) =>
    some (0, 0)
  | (.inr w15) =>
    some (w15.1, w15.2)
/- slices.Equal[[]int,int] -/
def sumL : List Int → Int
  | [] => 0
  | v :: r => v + sumL r
/-- Do sizes fit? -/
def fitP (n : Int) (xs : List Int) : Bool := xs.all (fun v => decide (1 ≤ v)) && decide (sumL xs = n) && decide (1 ≤ n) && decide (n ≤ 64)
def fitL : Int → List Int → Int ⊕ Bool
  | c, [] => .inl c
  | c, v :: r => if v < 1 ∨ v > c then .inr false else fitL (c - v) r
theorem fit_1 (n : Int) (xs : List Int) (hxs : xs.length ≤ 1000) : ∀ (r pre : List Int) (c : Int) (f : Nat), xs = pre ++ r → r.length < f → -9223372036854775808 ≤ c → c ≤ 9223372036854775807 → evening_fit_1 n xs f c pre.length = some (fitL c r)
  | [], pre, c, f + 1, h, _, _, _ => by
    subst h
    unfold evening_fit_1
    rw [nlt_len]
    rfl
  | v :: r, pre, c, f + 1, h, hf, h1, h2 => by
    subst h
    unfold evening_fit_1
    rw [if_pos (lt_len pre v r), idx_app]
    simp only [Option.bind_some]
    rw [wr_snoc pre v r (by omega)]
    unfold fitL
    by_cases ha : v < 1
    · simp [ha]
    · by_cases hb : v > c
      · simp [ha, hb]
      · simp only [ha, hb, decide_false, Bool.false_eq_true, if_false, Option.bind_some, false_or]
        rw [wr_i (by omega) (by omega)]
        rw [snoc_app]
        exact fit_1 n _ (by rw [← snoc_app]; exact hxs) r (pre ++ [v]) (c - v) f rfl (by simp at hf; omega) (by omega) (by omega)
theorem fitL_eq : ∀ (xs : List Int) (c : Int), (∃ d, fitL c xs = .inl d ∧ d = c - sumL xs ∧ (xs.all fun v => decide (1 ≤ v)) = true ∧ (0 ≤ c → 0 ≤ d)) ∨ (fitL c xs = .inr false ∧ ((xs.all fun v => decide (1 ≤ v)) = true → c < sumL xs))
  | [], c => .inl ⟨c, rfl, by simp [sumL], rfl, fun h => h⟩
  | v :: r, c => by
    unfold fitL
    by_cases hv : v < 1 ∨ v > c
    · rw [if_pos hv]
      refine .inr ⟨rfl, fun h => ?_⟩
      simp only [List.all_cons, Bool.and_eq_true, decide_eq_true_eq] at h
      have : ∀ (l : List Int), (l.all fun v => decide (1 ≤ v)) = true → 0 ≤ sumL l := by
        intro l
        induction l with
        | nil => intro _; simp [sumL]
        | cons a l ih => intro h; simp only [List.all_cons, Bool.and_eq_true, decide_eq_true_eq] at h; have := ih h.2; simp only [sumL]; omega
      have := this r h.2
      simp only [sumL]
      omega
    · rw [if_neg hv]
      rcases fitL_eq r (c - v) with ⟨d, h1, h2, h3, h4⟩ | ⟨h1, h2⟩
      · refine .inl ⟨d, h1, by simp only [sumL]; omega, ?_, fun h => h4 (by omega)⟩
        simp only [List.all_cons, Bool.and_eq_true, decide_eq_true_eq]
        exact ⟨by omega, h3⟩
      · refine .inr ⟨h1, fun h => ?_⟩
        simp only [List.all_cons, Bool.and_eq_true, decide_eq_true_eq] at h
        have := h2 h.2
        simp only [sumL]
        omega
theorem evening_fit_eq (n : Int) (hn : in64 n) (xs : List Int) (hxs : xs.length ≤ 1000) : evening_fit n xs = some (fitP n xs) := by
  unfold evening_fit
  rw [show (0 : Int) = (([] : List Int).length : Int) from rfl, fit_1 n xs hxs xs [] n 100000 rfl (by omega) hn.1 hn.2]
  simp only [Option.bind_some]
  rcases fitL_eq xs n with ⟨d, h1, h2, h3, h4⟩ | ⟨h1, h2⟩
  · rw [h1]
    simp only [evening_guests, Option.bind_some]
    unfold fitP
    rw [h3]
    by_cases ha : 1 ≤ n
    · by_cases hb : n ≤ 64
      · have : (d == 0) = decide (sumL xs = n) := by
          by_cases hd : d = 0
          · rw [hd]; simp; omega
          · have : ¬ sumL xs = n := by omega
            simp [this, hd]
        simp [ha, hb, this]
      · simp [ha, hb]
    · simp [ha]
  · rw [h1]
    simp only [Option.bind_some]
    unfold fitP
    cases hall : xs.all (fun v => decide (1 ≤ v)) with
    | false => simp
    | true => have := h2 hall; have : ¬ sumL xs = n := by omega
              simp [this]
def fitR : Int → List Int → Int ⊕ Bool
  | c, [] => .inl c
  | c, v :: r => if v < 1 ∨ v > 64 ∨ c > 64 then .inr false else fitR (c + v) r
theorem Fit_1 (n : Int) (xs : List Int) (hxs : xs.length ≤ 1000) : ∀ (r pre : List Int) (c : Int) (f : Nat), xs = pre ++ r → r.length < f → 0 ≤ c → ref09_Fit_1 n xs f c pre.length = some (fitR c r)
  | [], pre, c, f + 1, h, _, _ => by
    subst h
    unfold ref09_Fit_1
    rw [nlt_len]
    rfl
  | v :: r, pre, c, f + 1, h, hf, h1 => by
    subst h
    unfold ref09_Fit_1
    rw [if_pos (lt_len pre v r), idx_app]
    simp only [Option.bind_some]
    rw [wr_snoc pre v r (by omega)]
    unfold fitR
    by_cases ha : v < 1
    · simp [ha]
    · by_cases hb : v > 64
      · simp [ha, hb]
      · by_cases hc : c > 64
        · simp [ha, hb, hc]
        · simp only [ha, hb, hc, decide_false, Bool.false_eq_true, if_false, Option.bind_some, false_or]
          rw [wr_i (by omega) (by omega)]
          rw [snoc_app]
          exact Fit_1 n _ (by rw [← snoc_app]; exact hxs) r (pre ++ [v]) (c + v) f rfl (by simp at hf; omega) (by omega)
theorem sum_nn : ∀ (l : List Int), (l.all fun v => decide (1 ≤ v)) = true → 0 ≤ sumL l
  | [], _ => by simp [sumL]
  | a :: l, h => by
    simp only [List.all_cons, Bool.and_eq_true, decide_eq_true_eq] at h
    have := sum_nn l h.2
    simp only [sumL]; omega
theorem fitR_eq : ∀ (xs : List Int) (c : Int), 0 ≤ c → (∃ d, fitR c xs = .inl d ∧ d = c + sumL xs ∧ (xs.all fun v => decide (1 ≤ v)) = true) ∨ (fitR c xs = .inr false ∧ ((xs.all fun v => decide (1 ≤ v)) = true → 64 < c + sumL xs))
  | [], c, _ => .inl ⟨c, rfl, by simp [sumL], rfl⟩
  | v :: r, c, h0 => by
    unfold fitR
    by_cases hv : v < 1 ∨ v > 64 ∨ c > 64
    · rw [if_pos hv]
      refine .inr ⟨rfl, fun h => ?_⟩
      simp only [List.all_cons, Bool.and_eq_true, decide_eq_true_eq] at h
      have := sum_nn r h.2
      simp only [sumL]
      omega
    · rw [if_neg hv]
      rcases fitR_eq r (c + v) (by omega) with ⟨d, h1, h2, h3⟩ | ⟨h1, h2⟩
      · refine .inl ⟨d, h1, by simp only [sumL]; omega, ?_⟩
        simp only [List.all_cons, Bool.and_eq_true, decide_eq_true_eq]
        exact ⟨by omega, h3⟩
      · refine .inr ⟨h1, fun h => ?_⟩
        simp only [List.all_cons, Bool.and_eq_true, decide_eq_true_eq] at h
        have := h2 h.2
        simp only [sumL]
        omega
theorem ref09_Fit_eq (n : Int) (xs : List Int) (hxs : xs.length ≤ 1000) : ref09_Fit n xs = some (fitP n xs) := by
  unfold ref09_Fit
  have e0 := Fit_1 n xs hxs xs [] 0 100000 rfl (by omega) (by omega)
  rw [show ((([] : List Int).length : Nat) : Int) = 0 from rfl] at e0
  rw [e0]
  simp only [Option.bind_some]
  rcases fitR_eq xs 0 (by omega) with ⟨d, h1, h2, h3⟩ | ⟨h1, h2⟩
  · rw [h1]
    unfold fitP
    rw [h3]
    by_cases ha : 1 ≤ n
    · by_cases hb : n ≤ 64
      · have : (d == n) = decide (sumL xs = n) := by
          by_cases hd : d = n
          · rw [hd]; simp; omega
          · have : ¬ sumL xs = n := by omega
            simp [this, hd]
        simp [ha, hb, this]
      · simp [ha, hb]
    · simp [ha]
  · rw [h1]
    unfold fitP
    cases hall : xs.all (fun v => decide (1 ≤ v)) with
    | false => simp
    | true =>
      have := h2 hall
      by_cases hs : sumL xs = n
      · have : ¬ n ≤ 64 := by omega
        simp [hs, this]
      · simp [hs]
/-- How many pairs sit at a table. -/
def tri (v : Int) : Int := v * (v - 1) / 2
theorem tri2 (v : Int) : 2 * tri v = v * (v - 1) := by
  have : v * (v - 1) % 2 = 0 := by
    rcases (by omega : v % 2 = 0 ∨ v % 2 = 1) with h | h
    · rw [Int.mul_emod, h]; simp
    · have : (v - 1) % 2 = 0 := by omega
      rw [Int.mul_emod, this]; simp
  unfold tri
  omega
theorem tri_nn {v : Int} (h : 1 ≤ v) : 0 ≤ tri v := by
  have h1 := tri2 v
  have : 0 ≤ v * (v - 1) := Int.mul_nonneg (by omega) (by omega)
  omega
theorem tri_le {v : Int} (h : 1 ≤ v) (h2 : v ≤ 64) : tri v ≤ 2016 := by
  have h1 := tri2 v
  have h3 : v * (v - 1) ≤ 64 * 63 := Int.mul_le_mul h2 (by omega) (by omega) (by omega)
  omega
def metP : List Int → Int
  | [] => 0
  | v :: r => tri v + metP r
def okS (xs : List Int) : Prop := ∀ v ∈ xs, 1 ≤ v ∧ v ≤ 64
theorem met_1 (xs : List Int) (hxs : xs.length ≤ 1000) (hok : okS xs) : ∀ (r pre : List Int) (c : Int) (f : Nat), xs = pre ++ r → r.length < f → 0 ≤ c → c ≤ 2016 * (pre.length : Int) → evening_met_1 xs f c pre.length = some (c + metP r)
  | [], pre, c, f + 1, h, _, _, _ => by
    subst h
    unfold evening_met_1
    rw [nlt_len]
    simp [metP]
  | v :: r, pre, c, f + 1, h, hf, h1, h2 => by
    subst h
    unfold evening_met_1
    rw [if_pos (lt_len pre v r), idx_app]
    simp only [Option.bind_some]
    rw [wr_snoc pre v r (by omega)]
    obtain ⟨hv1, hv2⟩ := hok v (by simp)
    have ht := tri2 v
    have ht1 := tri_nn hv1
    have ht2 := tri_le hv1 hv2
    rw [wr_i (n := v - 1) (by omega) (by omega), wr_i (n := v * (v - 1)) (by omega) (by omega), tdiv2 _ (by omega), show v * (v - 1) / 2 = tri v from rfl, wr_i (n := tri v) (by omega) (by omega)]
    simp at hxs
    rw [wr_i (n := c + tri v) (by omega) (by omega), snoc_app, met_1 _ (by simp; omega) (by rw [← snoc_app]; exact hok) r (pre ++ [v]) (c + tri v) f rfl (by simp at hf; omega) (by omega) (by simp; omega)]
    simp only [metP]
    rw [Int.add_assoc]
theorem evening_met_eq (xs : List Int) (hxs : xs.length ≤ 1000) (hok : okS xs) : evening_met xs = some (metP xs) := by
  unfold evening_met
  have := met_1 xs hxs hok xs [] 0 100000 rfl (by omega) (by omega) (by simp)
  rw [show ((([] : List Int).length : Nat) : Int) = 0 from rfl, Int.zero_add] at this
  rw [this]
  rfl
theorem fitP_inv {n : Int} {xs : List Int} (h : fitP n xs = true) : okS xs ∧ sumL xs = n ∧ 1 ≤ n ∧ n ≤ 64 := by
  simp only [fitP, Bool.and_eq_true, decide_eq_true_eq] at h
  obtain ⟨⟨⟨h1, h2⟩, h3⟩, h4⟩ := h
  refine ⟨?_, h2, h3, h4⟩
  have : ∀ (l : List Int), (l.all fun v => decide (1 ≤ v)) = true → ∀ v ∈ l, 1 ≤ v ∧ v ≤ sumL l := by
    intro l
    induction l with
    | nil => intro _ v hv; cases hv
    | cons a l ih =>
      intro h v hv
      have hn := sum_nn l (by simp only [List.all_cons, Bool.and_eq_true] at h; exact h.2)
      simp only [List.all_cons, Bool.and_eq_true, decide_eq_true_eq] at h
      rcases List.mem_cons.1 hv with rfl | hv
      · simp only [sumL]; omega
      · have := ih h.2 v hv; simp only [sumL]; omega
  intro v hv
  have := this xs h1 v hv
  omega
theorem metP_nn : ∀ {xs : List Int}, okS xs → 0 ≤ metP xs
  | [], _ => by simp [metP]
  | v :: r, h => by
    have h1 := tri_nn (h v (by simp)).1
    have h2 := metP_nn (xs := r) fun v hv => h v (by simp [hv])
    simp only [metP]; omega
theorem metP_le : ∀ {xs : List Int}, okS xs → metP xs ≤ tri (sumL xs) ∧ 0 ≤ sumL xs
  | [], _ => by simp [metP, sumL, tri]
  | v :: r, h => by
    obtain ⟨h1, h2⟩ := metP_le (xs := r) fun v hv => h v (by simp [hv])
    have hv := (h v (by simp)).1
    simp only [metP, sumL]
    have a1 := tri2 v
    have a2 := tri2 (sumL r)
    have a3 := tri2 (v + sumL r)
    have a4 : 0 ≤ v * sumL r := Int.mul_nonneg (by omega) h2
    have e : (v + sumL r) * (v + sumL r - 1) = v * (v - 1) + sumL r * (sumL r - 1) + 2 * (v * sumL r) := by
      rw [Int.mul_sub, Int.mul_sub, Int.mul_sub, Int.mul_add, Int.add_mul, Int.add_mul, Int.mul_comm (sumL r) v]
      omega
    omega
/-- How often a number sits on an evening. -/
theorem times_2 (ev : List (List Int)) (x c2 : Int) (t : List Int) (ht : idx ev c2 = some t) (hl : t.length ≤ 50000) : ∀ (r pre : List Int) (f : Nat) (c : Int), t = pre ++ r → r.length < f → 0 ≤ c → c + r.length ≤ 1000000 → ref09_times_2 ev x c2 f c pre.length = some (c + (r.count x : Int))
  | [], pre, f + 1, c, h, _, _, _ => by
    unfold ref09_times_2
    rw [ht]
    subst h
    simp only [Option.bind_some]
    rw [nlt_len]
    simp
  | v :: r, pre, f + 1, c, h, hf, h0, h1 => by
    unfold ref09_times_2
    rw [ht]
    simp only [List.length_cons] at h1
    by_cases hv : v = x
    · have ih := times_2 ev x c2 t ht hl r (pre ++ [v]) f (c + 1) (by rw [h]; simp) (by simp at hf; omega) (by omega) (by omega)
      subst h hv
      simp only [Option.bind_some]
      rw [if_pos (lt_len pre v r), idx_app]
      simp only [Option.bind_some, ref09_times_j3, beq_self_eq_true, if_true]
      rw [wr_snoc pre v r (by omega), wr_i (by omega) (by omega), ih, List.count_cons_self]
      congr 1; omega
    · have ih := times_2 ev x c2 t ht hl r (pre ++ [v]) f c (by rw [h]; simp) (by simp at hf; omega) (by omega) (by omega)
      have hb : (v == x) = false := by simpa using hv
      subst h
      simp only [Option.bind_some]
      rw [if_pos (lt_len pre v r), idx_app]
      simp only [Option.bind_some, ref09_times_j3, hb, Bool.false_eq_true, if_false]
      rw [wr_snoc pre v r (by omega), ih, List.count_cons_of_ne hv]
theorem len_mem {α : Type} : ∀ {ev : List (List α)} {t : List α}, t ∈ ev → t.length ≤ ev.flatten.length
  | a :: ev, t, h => by
    simp only [List.flatten_cons, List.length_append]
    rcases List.mem_cons.1 h with rfl | h
    · omega
    · have := len_mem h; omega
theorem times_eq (ev : List (List Int)) (x : Int) (hl : ev.length ≤ 50000) (hfl : ev.flatten.length ≤ 50000) : ref09_times ev x = some (ev.flatten.count x : Int) := by
  unfold ref09_times
  have hm : ∀ t ∈ ev, t.length ≤ 50000 := fun t ht => by
    have := len_mem ht; omega
  have key : ∀ (r pre : List (List Int)) (f : Nat) (c : Int), ev = pre ++ r → r.length < f → 0 ≤ c → c + r.flatten.length ≤ 50000 → ref09_times_1 ev x f c pre.length = some (c + (r.flatten.count x : Int)) := by
    intro r
    induction r with
    | nil =>
      intro pre f c h hf h0 h1
      obtain ⟨f, rfl⟩ : ∃ g, f = g + 1 := ⟨f - 1, by simp at hf; omega⟩
      subst h
      unfold ref09_times_1
      rw [nlt_len]
      simp
    | cons t r ih =>
      intro pre f c h hf h0 h1
      obtain ⟨f, rfl⟩ : ∃ g, f = g + 1 := ⟨f - 1, by simp at hf; omega⟩
      have ht := hm t (by rw [h]; simp)
      subst h
      unfold ref09_times_1
      rw [if_pos (lt_len pre t r)]
      simp only [List.flatten_cons, List.length_append] at h1
      have hc : (t.count x) ≤ t.length := List.count_le_length
      have h2 := times_2 (pre ++ t :: r) x pre.length t (idx_app pre t r) (by omega) t [] 100000 c rfl (by omega) h0 (by omega)
      rw [show ((([] : List Int).length : Nat) : Int) = 0 from rfl] at h2
      rw [h2]
      simp only [Option.bind_some]
      simp at hl
      rw [wr_snoc pre t r (by simp; omega), ih (pre ++ [t]) f _ (by simp) (by simp at hf; omega) (by omega) (by omega)]
      simp only [List.flatten_cons, List.count_append]
      congr 1; omega
  have := key ev [] 100000 0 rfl (by omega) (by omega) (by omega)
  rw [show ((([] : List (List Int)).length : Nat) : Int) = 0 from rfl, Int.zero_add] at this
  rw [this]
  rfl
/-- Is the shape of an evening wrong? -/
def sbad (sizes : List Int) : List (List Int) → Int → Bool
  | [], _ => false
  | t :: r, i => ((t.length : Int) == 0) || (decide ((sizes.length : Int) > 0) && (match idx sizes i with | some v => ((t.length : Int) != v) | none => false)) || sbad sizes r (i + 1)
abbrev CSt := Int × Bool × Bool × List Bool
def stepC (n : Int) (s : CSt) (v : Int) : CSt := if v < 0 ∨ v ≥ n then (s.1, s.2.1, true, s.2.2.2) else ((if (s.2.2.2)[v.toNat]?.getD false then s.1 else s.1 + 1), s.2.1 || (s.2.2.2)[v.toNat]?.getD false, s.2.2.1, s.2.2.2.set v.toNat true)
theorem stepC_len (n : Int) (s : CSt) (v : Int) : (stepC n s v).2.2.2.length = s.2.2.2.length := by
  unfold stepC; split <;> simp
theorem stepC_le (n : Int) (s : CSt) (v : Int) : (stepC n s v).1 ≤ s.1 + 1 ∧ s.1 ≤ (stepC n s v).1 := by
  unfold stepC; split
  · show s.1 ≤ s.1 + 1 ∧ s.1 ≤ s.1; omega
  · simp only; split <;> omega
theorem check_2 (n : Int) (sizes : List Int) (ev : List (List Int)) (c9 : Int) (hn0 : 0 ≤ n) : ∀ (r pre : List Int) (s : CSt) (f : Nat) (t : List Int), t = pre ++ r → t.length ≤ 50000 → r.length < f → s.2.2.2.length = n.toNat → 0 ≤ s.1 → s.1 ≤ 1000000 + (pre.length : Int) → evening_check_2 n sizes ev c9 t f s.1 s.2.1 s.2.2.1 s.2.2.2 pre.length = some (r.foldl (stepC n) s)
  | [], pre, s, f + 1, t, ht, _, _, _, _, _ => by
    subst ht
    unfold evening_check_2
    rw [nlt_len]
    rfl
  | v :: r, pre, s, f + 1, t, ht, hl, hf, hs, h0, h1 => by
    obtain ⟨m, tw, un, seen⟩ := s
    simp only at hs h0 h1 ⊢
    have ih := check_2 n sizes ev c9 hn0 r (pre ++ [v]) (stepC n (m, tw, un, seen) v) f t (by rw [ht]; simp) hl (by simp at hf; omega) (by rw [stepC_len]; exact hs) (by have := (stepC_le n (m, tw, un, seen) v).2; simp only at this; omega) (by have := (stepC_le n (m, tw, un, seen) v).1; simp only at this; simp; omega)
    subst ht
    unfold evening_check_2
    rw [if_pos (lt_len pre v r), idx_app]
    simp only [Option.bind_some]
    rw [wr_snoc pre v r (by omega)]
    rw [List.foldl_cons]
    by_cases hv : v < 0 ∨ v ≥ n
    · have hst : stepC n (m, tw, un, seen) v = (m, tw, true, seen) := by unfold stepC; rw [if_pos hv]
      rw [hst] at ih ⊢
      by_cases hv0 : v < 0
      · simp only [hv0, decide_true, if_true, Option.bind_some]
        exact ih
      · have : v ≥ n := by omega
        simp only [hv0, this, decide_false, decide_true, Bool.false_eq_true, if_false, if_true, Option.bind_some]
        exact ih
    · have hv0 : ¬ v < 0 := by omega
      have hv1 : ¬ v ≥ n := by omega
      have hlt : v.toNat < seen.length := by omega
      have hidx : idx seen v = some (seen[v.toNat]'hlt) := by
        unfold idx; rw [if_pos (by omega)]; exact List.getElem?_eq_getElem hlt
      have hg : seen[v.toNat]?.getD false = seen[v.toNat]'hlt := by rw [List.getElem?_eq_getElem hlt]; rfl
      have hst : stepC n (m, tw, un, seen) v = ((if (seen[v.toNat]'hlt) then m else m + 1), tw || (seen[v.toNat]'hlt), un, seen.set v.toNat true) := by
        unfold stepC; rw [if_neg hv]; simp only [hg]
      rw [hst] at ih ⊢
      have hm1 : wr .i64 (m + 1) = m + 1 := wr_i (by omega) (by simp at hl; omega)
      simp only [hv0, hv1, decide_false, Bool.false_eq_true, if_false, Option.bind_some, hidx, evening_check_j3]
      cases htw : tw <;> cases hse : seen[v.toNat]'hlt <;> simp only [htw, hse, Bool.false_eq_true, if_false, if_true, Option.bind_some, Bool.not_true, Bool.not_false, hidx, hm1, Bool.or_true, Bool.or_false] at ih ⊢ <;> exact ih
theorem shape_j (sizes : List Int) (ev : List (List Int)) (t : List Int) (i : Nat) (hs : (sizes.length : Int) > 0 → i < sizes.length) {β : Type} (b : β) : (if ((t.length : Int) == 0) = true then some (b, true) else if (decide ((sizes.length : Int) > 0)) = true then (idx sizes i).bind fun v12 => some (b, ((t.length : Int) != v12)) else some (b, false)) = some (b, ((t.length : Int) == 0) || (decide ((sizes.length : Int) > 0) && (match idx sizes i with | some v => ((t.length : Int) != v) | none => false))) := by
  cases h1 : ((t.length : Int) == 0) with
  | true => simp
  | false =>
    by_cases h2 : (sizes.length : Int) > 0
    · have := hs h2
      rw [idx_lt this]
      have h3 : 0 < sizes.length := by omega
      simp [h3]
    · have h3 : ¬ 0 < sizes.length := by omega
      simp [h3]
theorem check_1 (n : Int) (sizes : List Int) (ev : List (List Int)) (hn0 : 0 ≤ n) (hl : ev.length ≤ 50000) (hsz : (sizes.length : Int) > 0 → sizes.length = ev.length) : ∀ (r pre : List (List Int)) (s : CSt) (f : Nat), ev = pre ++ r → r.length < f → s.2.2.2.length = n.toNat → 0 ≤ s.1 → s.1 + r.flatten.length ≤ 50000 → evening_check_1 n sizes ev f s.1 s.2.1 s.2.2.1 s.2.2.2 pre.length = some (if sbad sizes r pre.length then .inr 2 else let q := r.flatten.foldl (stepC n) s; .inl (q.1, q.2.1, q.2.2.1))
  | [], pre, s, f + 1, h, _, _, _, _ => by
    subst h
    unfold evening_check_1
    rw [nlt_len]
    rfl
  | t :: r, pre, s, f + 1, h, hf, hs, h0, h1 => by
    obtain ⟨m, tw, un, seen⟩ := s
    simp only at hs h0 h1 ⊢
    subst h
    unfold evening_check_1
    rw [if_pos (lt_len pre t r), idx_app]
    simp only [Option.bind_some]
    rw [shape_j sizes (pre ++ t :: r) t pre.length (fun h => by rw [hsz h]; simp)]
    simp only [Option.bind_some]
    simp only [List.flatten_cons, List.length_append] at h1
    cases hb : (((t.length : Int) == 0) || (decide ((sizes.length : Int) > 0) && (match idx sizes (pre.length : Int) with | some v => ((t.length : Int) != v) | none => false))) with
    | true =>
      simp only [sbad, hb, Bool.true_or, if_true]
    | false =>
      simp only [sbad, hb, Bool.false_or, Bool.false_eq_true, if_false]
      have h2 := check_2 n sizes (pre ++ t :: r) pre.length hn0 t [] (m, tw, un, seen) 100000 t rfl (by omega) (by omega) hs h0 (by simp; omega)
      rw [show ((([] : List Int).length : Nat) : Int) = 0 from rfl] at h2
      simp only at h2
      rw [h2]
      simp only [Option.bind_some]
      have hfold : ∀ (l : List Int) (s : CSt), (l.foldl (stepC n) s).2.2.2.length = s.2.2.2.length ∧ (l.foldl (stepC n) s).1 ≤ s.1 + l.length ∧ s.1 ≤ (l.foldl (stepC n) s).1 := by
        intro l
        induction l with
        | nil => intro s; simp
        | cons a l ih =>
          intro s
          obtain ⟨a1, a2, a3⟩ := ih (stepC n s a)
          have := stepC_le n s a
          rw [List.foldl_cons]
          refine ⟨a1.trans (stepC_len n s a), ?_, ?_⟩
          · simp; omega
          · omega
      obtain ⟨a1, a2, a3⟩ := hfold t (m, tw, un, seen)
      simp only at a1 a2 a3
      rw [wr_snoc pre t r (by omega), check_1 n sizes (pre ++ t :: r) hn0 hl hsz r (pre ++ [t]) (t.foldl (stepC n) (m, tw, un, seen)) f (by simp) (by simp at hf; omega) (by omega) (by omega) (by omega)]
      rw [← snoc_len]
      simp only [List.flatten_cons, List.foldl_append]
def badV (n v : Int) : Bool := decide (v < 0 ∨ v ≥ n)
theorem un_eq (n : Int) : ∀ (L : List Int) (s : CSt), (L.foldl (stepC n) s).2.2.1 = (s.2.2.1 || L.any (badV n))
  | [], s => by simp
  | v :: L, s => by
    rw [List.foldl_cons, un_eq n L, List.any_cons]
    by_cases hv : v < 0 ∨ v ≥ n
    · have hb : badV n v = true := by simp only [badV, decide_eq_true_eq]; exact hv
      have hs : (stepC n s v).2.2.1 = true := by unfold stepC; rw [if_pos hv]
      rw [hb, hs]; simp
    · have hb : badV n v = false := by simp only [badV, decide_eq_false_iff_not]; exact hv
      have hs : (stepC n s v).2.2.1 = s.2.2.1 := by unfold stepC; rw [if_neg hv]
      rw [hb, hs]; simp
structure InvC (N : Nat) (P : List Int) (s : CSt) : Prop where
  len : s.2.2.2.length = N
  seen : ∀ k, k < N → s.2.2.2[k]?.getD false = decide ((k : Int) ∈ P)
  tw : s.2.1 = true ↔ ∃ x, 2 ≤ P.count x
  many : s.1 = (s.2.2.2.count true : Int)
theorem count_set : ∀ (l : List Bool) (k : Nat), k < l.length → ((l.set k true).count true : Int) = l.count true + (if l[k]?.getD false then 0 else 1)
  | [], k, h => by simp at h
  | b :: l, 0, _ => by cases b <;> simp
  | b :: l, k + 1, h => by
    have := count_set l k (by simpa using h)
    simp only [List.set_cons_succ, List.getElem?_cons_succ]
    cases b
    · simpa using this
    · simp only [List.count_cons_self]; push_cast; omega
theorem InvC.step {n : Int} {P : List Int} {s : CSt} (i : InvC n.toNat P s) {v : Int} (h0 : 0 ≤ v) (h1 : v < n) : InvC n.toNat (P ++ [v]) (stepC n s v) := by
  obtain ⟨m, tw, un, seen⟩ := s
  obtain ⟨i1, i2, i3, i4⟩ := i
  simp only at i1 i2 i3 i4
  have hst : stepC n (m, tw, un, seen) v = ((if seen[v.toNat]?.getD false then m else m + 1), tw || seen[v.toNat]?.getD false, un, seen.set v.toNat true) := by
    unfold stepC; rw [if_neg (by omega)]
  have hlt : v.toNat < seen.length := by clear i3; omega
  have hv := i2 v.toNat (by clear i3; omega)
  have hvv : ((v.toNat : Nat) : Int) = v := by clear i3; omega
  rw [hvv] at hv
  rw [hst]
  refine ⟨by simpa using i1, fun k hk => ?_, ?_, ?_⟩
  · simp only [List.getElem?_set]
    by_cases hkv : v.toNat = k
    · subst hkv
      simp [hlt, hvv]
    · rw [if_neg hkv, i2 k hk]
      have : ¬ (k : Int) = v := by clear i3; omega
      simp [this]
  · simp only [Bool.or_eq_true, i3, hv, decide_eq_true_eq]
    clear i3 i4
    constructor
    · rintro (⟨x, hx⟩ | hm)
      · exact ⟨x, by rw [List.count_append]; omega⟩
      · exact ⟨v, by rw [List.count_append]; have := List.count_pos_iff.2 hm; have e : [v].count v = 1 := (by simp); omega⟩
    · rintro ⟨x, hx⟩
      rw [List.count_append] at hx
      by_cases hxv : v = x
      · subst hxv
        have e : [v].count v = 1 := by simp
        rw [e] at hx
        exact .inr (List.count_pos_iff.1 (by omega))
      · rw [List.count_cons_of_ne hxv] at hx
        exact .inl ⟨x, by simpa using hx⟩
  · simp only
    rw [count_set seen v.toNat hlt, i4]
    split <;> simp
theorem inv_all {n : Int} : ∀ (L P : List Int) (s : CSt), InvC n.toNat P s → (∀ v ∈ L, 0 ≤ v ∧ v < n) → InvC n.toNat (P ++ L) (L.foldl (stepC n) s)
  | [], P, s, h, _ => by simpa using h
  | v :: L, P, s, h, hv => by
    obtain ⟨h0, h1⟩ := hv v (by simp)
    have := inv_all L (P ++ [v]) (stepC n s v) (h.step h0 h1) fun w hw => hv w (by simp [hw])
    simpa using this
theorem inv_0 (N : Nat) : InvC N [] (0, false, false, List.replicate N false) := by
  refine ⟨by simp, fun k hk => by simp [hk], by simp, ?_⟩
  simp [List.count_replicate]
theorem count_true_lt : ∀ (l : List Bool), l.count true ≤ l.length ∧ (l.count true < l.length ↔ ∃ k, k < l.length ∧ l[k]?.getD false = false)
  | [] => by simp
  | b :: l => by
    obtain ⟨h1, h2⟩ := count_true_lt l
    cases b with
    | false =>
      refine ⟨by simp; omega, ?_⟩
      simp only [List.count_cons_of_ne (show (false : Bool) ≠ true by decide), List.length_cons]
      exact ⟨fun _ => ⟨0, by omega, rfl⟩, fun _ => by omega⟩
    | true =>
      refine ⟨by simp; omega, ?_⟩
      simp only [List.count_cons_self, List.length_cons, Nat.add_lt_add_iff_right, h2]
      constructor
      · rintro ⟨k, a, b⟩; exact ⟨k + 1, by omega, by simpa using b⟩
      · rintro ⟨k, a, b⟩
        cases k with
        | zero => simp at b
        | succ k => exact ⟨k, by omega, by simpa using b⟩
/-- Some number of a stretch. -/
def anyN (p : Int → Bool) : Nat → Int → Bool
  | 0, _ => false
  | k + 1, i => p i || anyN p k (i + 1)
theorem anyN_iff (p : Int → Bool) : ∀ (k : Nat) (i : Int), anyN p k i = true ↔ ∃ x, i ≤ x ∧ x < i + k ∧ p x = true
  | 0, i => by simp [anyN]; intro x h1 h2; omega
  | k + 1, i => by
    simp only [anyN, Bool.or_eq_true, anyN_iff p k]
    constructor
    · rintro (h | ⟨x, h1, h2, h3⟩)
      · exact ⟨i, by omega, by omega, h⟩
      · exact ⟨x, by omega, by omega, h3⟩
    · rintro ⟨x, h1, h2, h3⟩
      by_cases hx : x = i
      · subst hx; exact .inl h3
      · exact .inr ⟨x, by omega, by omega, h3⟩
/-- What an evening's check answers. -/
def chk (n : Int) (sizes : List Int) (ev : List (List Int)) : Int :=
  if (decide ((sizes.length : Int) > 0) && ((sizes.length : Int) != (ev.length : Int))) = true then 2 else
  if sbad sizes ev 0 then 2 else
  if ev.flatten.any (badV n) then 6 else
  if anyN (fun x => decide ((ev.flatten.count x : Int) > 1)) n.toNat 0 then 5 else
  if anyN (fun x => ((ev.flatten.count x : Int) == 0)) n.toNat 0 then 2 else 0
theorem evening_check_eq (n : Int) (hn0 : 0 ≤ n) (hn : n ≤ 64) (sizes : List Int) (ev : List (List Int)) (hl : ev.length ≤ 50000) (hf : ev.flatten.length ≤ 50000) : evening_check n sizes ev = some (chk n sizes ev) := by
  unfold evening_check chk
  by_cases hs : (decide ((sizes.length : Int) > 0) && ((sizes.length : Int) != (ev.length : Int))) = true
  · rw [if_pos hs]
    simp only [Bool.and_eq_true, decide_eq_true_eq] at hs
    rw [if_pos (by simpa using hs.1)]
    simp only [Option.bind_some, hs.2, if_true]
  · rw [if_neg hs]
    have hsz : (sizes.length : Int) > 0 → sizes.length = ev.length := fun h => by
      simp only [Bool.and_eq_true, decide_eq_true_eq, not_and, Bool.not_eq_true, bne_eq_false_iff_eq] at hs
      have := hs h; omega
    have e1 : (if (decide ((sizes.length : Int) > 0)) = true then some ((sizes.length : Int) != (ev.length : Int)) else some false) = some false := by
      by_cases h : (sizes.length : Int) > 0
      · have := hsz h; simp [this]
      · have h' : ¬ 0 < sizes.length := by omega
        simp [h']
    rw [e1]
    simp only [Option.bind_some, Bool.false_eq_true, if_false]
    have hmk : mkOk 1 n = true := by
      simp only [mkOk, Bool.and_eq_true, decide_eq_true_eq]; omega
    rw [if_pos hmk]
    have h1 := check_1 n sizes ev hn0 hl hsz ev [] (0, false, false, List.replicate n.toNat false) 100000 rfl (by omega) (by simp) (by simp) (by simp only; omega)
    rw [show ((([] : List (List Int)).length : Nat) : Int) = 0 from rfl] at h1
    simp only at h1
    rw [h1]
    simp only [Option.bind_some]
    cases hb : sbad sizes ev 0 with
    | true => simp
    | false =>
      simp only [Bool.false_eq_true, if_false]
      rw [un_eq]
      simp only [Bool.false_or]
      cases hu : ev.flatten.any (badV n) with
      | true => simp
      | false =>
        simp only [Bool.false_eq_true, if_false]
        have hval : ∀ v ∈ ev.flatten, 0 ≤ v ∧ v < n := fun v hv => by
          have := List.any_eq_false.1 hu v hv
          simp only [badV, decide_eq_true_eq] at this
          omega
        obtain ⟨j1, j2, j3, j4⟩ := inv_all ev.flatten [] _ (inv_0 n.toNat) hval
        rw [List.nil_append] at j2 j3
        generalize ev.flatten.foldl (stepC n) (0, false, false, List.replicate n.toNat false) = q at *
        have t1 : q.2.1 = anyN (fun x => decide ((ev.flatten.count x : Int) > 1)) n.toNat 0 := by
          rw [Bool.eq_iff_iff, j3, anyN_iff]
          constructor
          · rintro ⟨x, hx⟩
            have := hval x (List.count_pos_iff.1 (by omega))
            exact ⟨x, by omega, by omega, by simp; omega⟩
          · rintro ⟨x, _, _, hx⟩
            simp at hx
            exact ⟨x, by omega⟩
        have t2 : decide (q.1 < n) = anyN (fun x => ((ev.flatten.count x : Int) == 0)) n.toNat 0 := by
          rw [Bool.eq_iff_iff, anyN_iff, decide_eq_true_eq, j4]
          have hc := count_true_lt q.2.2.2
          rw [j1] at hc
          constructor
          · intro h
            obtain ⟨k, k1, k2⟩ := hc.2.1 (by omega)
            rw [j2 k k1] at k2
            have hm : ¬ (k : Int) ∈ ev.flatten := by simpa using k2
            exact ⟨k, by omega, by omega, by rw [List.count_eq_zero.2 hm]; rfl⟩
          · rintro ⟨x, h1, h2, h3⟩
            have h3 : ev.flatten.count x = 0 := by simpa using h3
            have hm := List.count_eq_zero.1 h3
            have := hc.2.2 ⟨x.toNat, by omega, by rw [j2 _ (by omega), show ((x.toNat : Nat) : Int) = x by omega]; simpa using hm⟩
            omega
        rw [t1, t2]
        cases anyN (fun x => decide ((ev.flatten.count x : Int) > 1)) n.toNat 0 <;> cases anyN (fun x => ((ev.flatten.count x : Int) == 0)) n.toNat 0 <;> simp
theorem shape_r (sizes : List Int) (t : List Int) (i : Nat) (hs : (sizes.length : Int) > 0 → i < sizes.length) : (if ((t.length : Int) == 0) = true then some true else if (decide ((sizes.length : Int) > 0)) = true then (idx sizes i).bind fun v7 => some (v7 != (t.length : Int)) else some false) = some (((t.length : Int) == 0) || (decide ((sizes.length : Int) > 0) && (match idx sizes i with | some v => ((t.length : Int) != v) | none => false))) := by
  cases h1 : ((t.length : Int) == 0) with
  | true => simp
  | false =>
    by_cases h2 : (sizes.length : Int) > 0
    · have := hs h2
      rw [idx_lt this]
      have h3 : 0 < sizes.length := by omega
      simp [h3, bne_comm]
    · have h3 : ¬ 0 < sizes.length := by omega
      simp [h3]
theorem or_if {c : Int} (X Y : Bool) : (if X = true then some (Sum.inr c) else some (if Y = true then Sum.inr c else Sum.inl ())) = some (if (X || Y) = true then Sum.inr c else Sum.inl ()) := by
  cases X <;> simp
theorem rCheck_1 (n : Int) (sizes : List Int) (ev : List (List Int)) (hl : ev.length ≤ 50000) (hsz : (sizes.length : Int) > 0 → sizes.length = ev.length) : ∀ (r pre : List (List Int)) (f : Nat), ev = pre ++ r → r.length < f → ref09_CheckEvening_1 n sizes ev f pre.length = some (if sbad sizes r pre.length then .inr 2 else .inl ())
  | [], pre, f + 1, h, _ => by
    subst h
    unfold ref09_CheckEvening_1
    rw [nlt_len]
    rfl
  | t :: r, pre, f + 1, h, hf => by
    have ih := rCheck_1 n sizes ev hl hsz r (pre ++ [t]) f (by rw [h]; simp) (by simp at hf; omega)
    subst h
    unfold ref09_CheckEvening_1
    rw [if_pos (lt_len pre t r), idx_app]
    simp only [Option.bind_some]
    rw [wr_snoc pre t r (by omega), ih, ← snoc_len, shape_r sizes t pre.length (fun h => by rw [hsz h]; simp)]
    simp only [Option.bind_some, sbad]
    exact or_if _ _
theorem rCheck_3 (n : Int) (ev : List (List Int)) (c : Int) (t : List Int) (ht : idx ev c = some t) (hl : t.length ≤ 50000) : ∀ (r pre : List Int) (f : Nat), t = pre ++ r → r.length < f → ref09_CheckEvening_3 n ev c f pre.length = some (if r.any (badV n) then .inr 6 else .inl ())
  | [], pre, f + 1, h, _ => by
    unfold ref09_CheckEvening_3
    rw [ht]
    subst h
    simp only [Option.bind_some]
    rw [nlt_len]
    rfl
  | v :: r, pre, f + 1, h, hf => by
    have ih := rCheck_3 n ev c t ht hl r (pre ++ [v]) f (by rw [h]; simp) (by simp at hf; omega)
    unfold ref09_CheckEvening_3
    rw [ht]
    subst h
    simp only [Option.bind_some]
    rw [if_pos (lt_len pre v r), idx_app]
    simp only [Option.bind_some]
    rw [wr_snoc pre v r (by omega), ih]
    simp only [List.any_cons, badV]
    by_cases h1 : v < 0
    · simp [h1]
    · by_cases h2 : v ≥ n
      · simp [h1, h2]
      · simp [h1, h2]
theorem rCheck_2 (n : Int) (ev : List (List Int)) (hl : ev.length ≤ 50000) (hm : ∀ t ∈ ev, t.length ≤ 50000) : ∀ (r pre : List (List Int)) (f : Nat), ev = pre ++ r → r.length < f → ref09_CheckEvening_2 n ev f pre.length = some (if r.flatten.any (badV n) then .inr 6 else .inl ())
  | [], pre, f + 1, h, _ => by
    subst h
    unfold ref09_CheckEvening_2
    rw [nlt_len]
    rfl
  | t :: r, pre, f + 1, h, hf => by
    have ih := rCheck_2 n ev hl hm r (pre ++ [t]) f (by rw [h]; simp) (by simp at hf; omega)
    have ht := hm t (by rw [h]; simp)
    subst h
    unfold ref09_CheckEvening_2
    rw [if_pos (lt_len pre t r)]
    have h3 := rCheck_3 n (pre ++ t :: r) pre.length t (idx_app pre t r) ht t [] 100000 rfl (by omega)
    rw [show ((([] : List Int).length : Nat) : Int) = 0 from rfl] at h3
    rw [h3]
    simp only [Option.bind_some, List.flatten_cons, List.any_append]
    cases t.any (badV n) with
    | true => simp
    | false =>
      simp only [Bool.false_eq_true, if_false, Bool.false_or]
      rw [wr_snoc pre t r (by omega), ih]
theorem rCheck_45 (n : Int) (hn : n ≤ 64) (ev : List (List Int)) (hl : ev.length ≤ 50000) (hf : ev.flatten.length ≤ 50000) :
    (∀ (k : Nat) (i : Int) (f : Nat), (k : Int) = n - i → 0 ≤ i → k < f → ref09_CheckEvening_4 n ev f i = some (if anyN (fun x => decide ((ev.flatten.count x : Int) > 1)) k i then .inr 5 else .inl ())) ∧
    (∀ (k : Nat) (i : Int) (f : Nat), (k : Int) = n - i → 0 ≤ i → k < f → ref09_CheckEvening_5 n ev f i = some (if anyN (fun x => ((ev.flatten.count x : Int) == 0)) k i then .inr 2 else .inl ())) := by
  constructor
  · intro k
    induction k with
    | zero =>
      intro i f hk hi hf'
      obtain ⟨f, rfl⟩ : ∃ g, f = g + 1 := ⟨f - 1, by omega⟩
      unfold ref09_CheckEvening_4
      rw [if_neg (by simp; omega)]
      rfl
    | succ k ih =>
      intro i f hk hi hf'
      obtain ⟨f, rfl⟩ : ∃ g, f = g + 1 := ⟨f - 1, by omega⟩
      unfold ref09_CheckEvening_4
      rw [if_pos (by simp; omega), times_eq ev i hl hf]
      simp only [Option.bind_some, anyN]
      rw [wr_i (by omega) (by omega), ih (i + 1) f (by omega) (by omega) (by omega)]
      exact or_if _ _
  · intro k
    induction k with
    | zero =>
      intro i f hk hi hf'
      obtain ⟨f, rfl⟩ : ∃ g, f = g + 1 := ⟨f - 1, by omega⟩
      unfold ref09_CheckEvening_5
      rw [if_neg (by simp; omega)]
      rfl
    | succ k ih =>
      intro i f hk hi hf'
      obtain ⟨f, rfl⟩ : ∃ g, f = g + 1 := ⟨f - 1, by omega⟩
      unfold ref09_CheckEvening_5
      rw [if_pos (by simp; omega), times_eq ev i hl hf]
      simp only [Option.bind_some, anyN]
      rw [wr_i (by omega) (by omega), ih (i + 1) f (by omega) (by omega) (by omega)]
      exact or_if _ _
theorem ref09_CheckEvening_eq (n : Int) (hn0 : 0 ≤ n) (hn : n ≤ 64) (sizes : List Int) (ev : List (List Int)) (hl : ev.length ≤ 50000) (hf : ev.flatten.length ≤ 50000) : ref09_CheckEvening n sizes ev = some (chk n sizes ev) := by
  unfold ref09_CheckEvening chk
  by_cases hs : (decide ((sizes.length : Int) > 0) && ((sizes.length : Int) != (ev.length : Int))) = true
  · rw [if_pos hs]
    simp only [Bool.and_eq_true, decide_eq_true_eq] at hs
    rw [if_pos (by simpa using hs.1)]
    simp only [Option.bind_some, hs.2, if_true]
  · rw [if_neg hs]
    have hsz : (sizes.length : Int) > 0 → sizes.length = ev.length := fun h => by
      simp only [Bool.and_eq_true, decide_eq_true_eq, not_and, Bool.not_eq_true, bne_eq_false_iff_eq] at hs
      have := hs h; omega
    have e1 : (if (decide ((sizes.length : Int) > 0)) = true then some ((sizes.length : Int) != (ev.length : Int)) else some false) = some false := by
      by_cases h : (sizes.length : Int) > 0
      · have := hsz h; simp [this]
      · have h' : ¬ 0 < sizes.length := by omega
        simp [h']
    rw [e1]
    simp only [Option.bind_some, Bool.false_eq_true, if_false]
    have hm : ∀ t ∈ ev, t.length ≤ 50000 := fun t ht => by
      have := len_mem ht; omega
    have h1 := rCheck_1 n sizes ev hl hsz ev [] 100000 rfl (by omega)
    have h2 := rCheck_2 n ev hl hm ev [] 100000 rfl (by omega)
    rw [show ((([] : List (List Int)).length : Nat) : Int) = 0 from rfl] at h1 h2
    obtain ⟨h4, h5⟩ := rCheck_45 n hn ev hl hf
    have h4 := h4 n.toNat 0 100000 (by omega) (by omega) (by omega)
    have h5 := h5 n.toNat 0 100000 (by omega) (by omega) (by omega)
    rw [h1]
    simp only [Option.bind_some]
    cases sbad sizes ev 0 with
    | true => simp
    | false =>
      simp only [Bool.false_eq_true, if_false]
      rw [h2]
      simp only [Option.bind_some]
      cases ev.flatten.any (badV n) with
      | true => simp
      | false =>
        simp only [Bool.false_eq_true, if_false]
        rw [h4]
        simp only [Option.bind_some]
        cases anyN (fun x => decide ((ev.flatten.count x : Int) > 1)) n.toNat 0 with
        | true => simp
        | false =>
          simp only [Bool.false_eq_true, if_false]
          rw [h5]
          simp only [Option.bind_some]
          cases anyN (fun x => ((ev.flatten.count x : Int) == 0)) n.toNat 0 <;> simp
/-- The schedule's check, told by that of its evenings. -/
def chkS (n : Int) (sizes : List Int) : List (List (List Int)) → Int → Int × Int
  | [], _ => (0, 0)
  | ev :: r, i => if chk n sizes ev != 0 then (i, chk n sizes ev) else chkS n sizes r (i + 1)
def chkAll (n : Int) (sizes : List Int) (s : List (List (List Int))) : Int × Int :=
  if (decide (n < 1) || decide (n > 64) || (decide ((sizes.length : Int) > 0) && !fitP n sizes)) = true then (0, 90) else if s.length > 64 then (0, 7) else chkS n sizes s 0
theorem check_loop (n : Int) (hn0 : 0 ≤ n) (hn : n ≤ 64) (sizes : List Int) (s : List (List (List Int))) (hs : s.length ≤ 50000) (hl : ∀ ev ∈ s, ev.length ≤ 50000 ∧ ev.flatten.length ≤ 50000) : ∀ (r pre : List (List (List Int))) (f : Nat), s = pre ++ r → r.length < f →
    (∃ q, evening_Check_1 n sizes s f pre.length = some q ∧ ref09_Check_1 n sizes s f pre.length = some q ∧ (match q with | .inl _ => chkS n sizes r pre.length = (0, 0) | .inr w => chkS n sizes r pre.length = w))
  | [], pre, f + 1, h, _ => by
    subst h
    refine ⟨.inl (), ?_, ?_, rfl⟩
    · unfold evening_Check_1; rw [nlt_len]; rfl
    · unfold ref09_Check_1; rw [nlt_len]; rfl
  | ev :: r, pre, f + 1, h, hf => by
    obtain ⟨h1, h2⟩ := hl ev (by rw [h]; simp)
    obtain ⟨q, a1, a2, a3⟩ := check_loop n hn0 hn sizes s hs hl r (pre ++ [ev]) f (by rw [h]; simp) (by simp at hf; omega)
    have e1 := evening_check_eq n hn0 hn sizes ev h1 h2
    have e2 := ref09_CheckEvening_eq n hn0 hn sizes ev h1 h2
    rw [← snoc_len] at a3
    cases hc : (chk n sizes ev != 0) with
    | true =>
      refine ⟨.inr ((pre.length : Int), chk n sizes ev), ?_, ?_, by simp [chkS, hc]⟩
      · subst h
        unfold evening_Check_1
        rw [if_pos (lt_len pre ev r), idx_app]
        simp only [Option.bind_some]
        rw [e1]
        simp only [Option.bind_some, hc, if_true]
      · subst h
        unfold ref09_Check_1
        rw [if_pos (lt_len pre ev r), idx_app]
        simp only [Option.bind_some]
        rw [e2]
        simp only [Option.bind_some, hc, if_true]
    | false =>
      refine ⟨q, ?_, ?_, ?_⟩
      · subst h
        unfold evening_Check_1
        rw [if_pos (lt_len pre ev r), idx_app]
        simp only [Option.bind_some]
        rw [e1]
        simp only [Option.bind_some, hc, Bool.false_eq_true, if_false]
        rw [wr_snoc pre ev r (by omega)]
        exact a1
      · subst h
        unfold ref09_Check_1
        rw [if_pos (lt_len pre ev r), idx_app]
        simp only [Option.bind_some]
        rw [e2]
        simp only [Option.bind_some, hc, Bool.false_eq_true, if_false]
        rw [wr_snoc pre ev r (by omega)]
        exact a2
      · simp only [chkS, hc, Bool.false_eq_true, if_false]
        exact a3
theorem check_both (n : Int) (hn : in64 n) (sizes : List Int) (hsz : sizes.length ≤ 1000) (s : List (List (List Int))) (hs : s.length ≤ 50000) (hl : ∀ ev ∈ s, ev.length ≤ 50000 ∧ ev.flatten.length ≤ 50000) : evening_Check n sizes s = some (chkAll n sizes s) ∧ ref09_Check n sizes s = some (chkAll n sizes s) := by
  have hg : evening_guests n = some (decide (1 ≤ n) && decide (n ≤ 64)) := by
    unfold evening_guests
    by_cases h : 1 ≤ n
    · simp [h]
    · simp [h]
  unfold evening_Check ref09_Check chkAll
  rw [hg, evening_fit_eq n hn sizes hsz, ref09_Fit_eq n sizes hsz]
  simp only [Option.bind_some]
  by_cases h1 : n < 1
  · have h1' : ¬ 1 ≤ n := by omega
    simp [h1, h1']
  · by_cases h2 : n > 64
    · have h2' : ¬ n ≤ 64 := by omega
      simp [h1, h2, h2']
    · have h1' : 1 ≤ n := by omega
      have h2' : n ≤ 64 := by omega
      simp only [h1, h2, h1', h2', decide_true, decide_false, Bool.and_self, Bool.not_true, Bool.false_eq_true, if_false, Bool.false_or]
      by_cases h3 : (sizes.length : Int) > 0
      · cases hf : fitP n sizes with
        | false =>
          have h3' : 0 < sizes.length := by omega
          simp [h3']
        | true =>
          simp only [h3, decide_true, if_true, Bool.not_true, Option.bind_some, Bool.and_false, Bool.false_eq_true, if_false]
          by_cases h4 : s.length > 64
          · have h4' : decide ((s.length : Int) > 64) = true := by simp; omega
            simp only [h4', h4, if_true, and_self]
          · have h4' : decide ((s.length : Int) > 64) = false := by simp; omega
            simp only [h4', h4, if_false, Bool.false_eq_true]
            obtain ⟨q, a1, a2, a3⟩ := check_loop n (by omega) h2' sizes s hs hl s [] 100000 rfl (by omega)
            rw [show ((([] : List (List (List Int))).length : Nat) : Int) = 0 from rfl] at a1 a2 a3
            rw [a1, a2]
            cases q with
            | inl w => simp only at a3; simp [a3]
            | inr w => simp only at a3; simp [a3]
      · simp only [h3, decide_false, Bool.false_eq_true, if_false, Option.bind_some, Bool.false_and]
        by_cases h4 : s.length > 64
        · have h4' : decide ((s.length : Int) > 64) = true := by simp; omega
          simp only [h4', h4, if_true, and_self]
        · have h4' : decide ((s.length : Int) > 64) = false := by simp; omega
          simp only [h4', h4, if_false, Bool.false_eq_true]
          obtain ⟨q, a1, a2, a3⟩ := check_loop n (by omega) h2' sizes s hs hl s [] 100000 rfl (by omega)
          rw [show ((([] : List (List (List Int))).length : Nat) : Int) = 0 from rfl] at a1 a2 a3
          rw [a1, a2]
          cases q with
          | inl w => simp only at a3; simp [a3]
          | inr w => simp only at a3; simp [a3]
def toI1 (t : List Nat) : List Int := t.map Int.ofNat
def toI2 (ev : List (List Nat)) : List (List Int) := ev.map toI1
def toI3 (s : List (List (List Nat))) : List (List (List Int)) := s.map toI2
theorem toI1_len (t : List Nat) : (toI1 t).length = t.length := by simp [toI1]
theorem toI2_len (t : List (List Nat)) : (toI2 t).length = t.length := by simp [toI2]
theorem toI3_len (t : List (List (List Nat))) : (toI3 t).length = t.length := by simp [toI3]
theorem toI2_flat : ∀ (ev : List (List Nat)), (toI2 ev).flatten = toI1 ev.flatten
  | [] => rfl
  | t :: ev => by
    show toI1 t ++ (toI2 ev).flatten = toI1 (t ++ ev.flatten)
    rw [toI2_flat ev]; simp [toI1]
theorem toI1_count (L : List Nat) (x : Nat) : (toI1 L).count (x : Int) = L.count x := by
  induction L with
  | nil => rfl
  | cons v L ih =>
    show (Int.ofNat v :: toI1 L).count (x : Int) = _
    rw [List.count_cons, List.count_cons, ih]
    congr 1
    by_cases h : v = x
    · subst h; simp
    · have : ¬ (Int.ofNat v) = (x : Int) := fun e => h (Int.ofNat.inj e)
      simp [h]
      omega
theorem sbad_ok : ∀ (r : List (List Int)) (pre : List Int) (sz : List Int), (sz = [] ∨ sz = pre ++ r.map (fun t => (t.length : Int))) → (∀ t ∈ r, t.length ≠ 0) → sbad sz r pre.length = false
  | [], _, _, _, _ => rfl
  | t :: r, pre, sz, h, hne => by
    have h0 : ((t.length : Int) == 0) = false := by have := hne t (by simp); simp; intro h; subst h; simp at this
    have ih := sbad_ok r (pre ++ [(t.length : Int)]) sz (h.imp id fun h => by rw [h]; simp) (fun t ht => hne t (by simp [ht]))
    unfold sbad
    rw [h0, Bool.false_or]
    rw [← snoc_len] at ih
    rw [ih, Bool.or_false]
    rcases h with h | h
    · subst h; simp
    · rw [h, List.map_cons, idx_app]; simp
theorem mem_toI1 {L : List Nat} {v : Int} (h : v ∈ toI1 L) : ∃ j ∈ L, v = Int.ofNat j := by
  obtain ⟨j, h1, h2⟩ := List.mem_map.1 h
  exact ⟨j, h1, h2.symm⟩
theorem anyN_false (p : Int → Bool) (k : Nat) (h : ∀ x : Nat, x < k → p x = false) : anyN p k 0 = false := by
  cases e : anyN p k 0 with
  | false => rfl
  | true =>
    obtain ⟨x, h1, h2, h3⟩ := (anyN_iff p k 0).1 e
    have := h x.toNat (by omega)
    rw [show ((x.toNat : Nat) : Int) = x by omega, h3] at this
    cases this
theorem chkS_ok (n : Int) (sz : List Int) : ∀ (s : List (List (List Int))) (i : Int), (∀ ev ∈ s, chk n sz ev = 0) → chkS n sz s i = (0, 0)
  | [], _, _ => rfl
  | ev :: s, i, h => by
    unfold chkS
    rw [h ev (by simp)]
    exact chkS_ok n sz s (i + 1) fun e he => h e (by simp [he])
/- (trestle/evening.square[int]).rows -/
/-- The cells after some counts. -/
def cel (n : Nat) (L : List Nat) : List Int := incs (zeros (n * n)) L
theorem cel_len (n : Nat) (L : List Nat) : (cel n L).length = n * n := by rw [cel, incs_len]; simp [zeros]
theorem cel_wr {n x y : Nat} (hn : n ≤ 64) (hx : x < n) (hy : y < n) : wr .i64 (wr .i64 ((x : Int) * (n : Int)) + (y : Int)) = ((x * n + y : Nat) : Int) := by
  have h1 := cell_lt hx hy
  have h2 : n * n ≤ 64 * 64 := Nat.mul_le_mul hn hn
  have e : (x : Int) * (n : Int) = ((x * n : Nat) : Int) := by simp
  have q : wr .i64 ((x * n : Nat) : Int) = ((x * n : Nat) : Int) := wr_i (by omega) (by omega)
  rw [e, q, wr_i (by omega) (by omega)]
  simp
theorem cel_idx {n x y : Nat} (L : List Nat) (hx : x < n) (hy : y < n) : idx (cel n L) ((x * n + y : Nat) : Int) = some ((L.count (x * n + y) : Nat) : Int) := by
  have h1 := cell_lt hx hy
  have h2 : x * n + y < (cel n L).length := by rw [cel_len]; exact h1
  rw [idx_lt h2]
  have := cnt_get L (n * n) (x * n + y) h1
  rw [← this, List.getD_eq_getElem?_getD]
  show some _ = some ((cel n L)[x * n + y]?.getD 0)
  rw [List.getElem?_eq_getElem h2]
  rfl
theorem cel_set {n x y : Nat} (L : List Nat) (hL : L.length ≤ 10000000) (hx : x < n) (hy : y < n) : (cel n L).set (((x * n + y : Nat) : Int)).toNat (wr .i64 (((L.count (x * n + y) : Nat) : Int) + 1)) = cel n (L ++ [x * n + y]) := by
  have h1 := cell_lt hx hy
  have hc : L.count (x * n + y) ≤ L.length := List.count_le_length
  rw [wr_i (by omega) (by omega), Int.toNat_natCast]
  have h2 : cel n (L ++ [x * n + y]) = inc (cel n L) (x * n + y) := by rw [cel, incs_app]; rfl
  rw [h2, inc]
  have := cnt_get L (n * n) (x * n + y) h1
  rw [show (cel n L).getD (x * n + y) 0 = _ from this]
theorem toI1_app (a b : List Nat) : toI1 (a ++ b) = toI1 a ++ toI1 b := by simp [toI1]
theorem idx_toI1 (pre : List Nat) (x : Nat) (r : List Nat) : idx (toI1 (pre ++ x :: r)) (pre.length : Int) = some (x : Int) := by
  rw [toI1_app, ← toI1_len pre]
  exact idx_app _ _ _
theorem idx_toI2 (pre : List (List Nat)) (x : List Nat) (r : List (List Nat)) : idx (toI2 (pre ++ x :: r)) (pre.length : Int) = some (toI1 x) := by
  have : toI2 (pre ++ x :: r) = toI2 pre ++ toI1 x :: toI2 r := by simp [toI2]
  rw [this, ← toI2_len pre]
  exact idx_app _ _ _
theorem idx_toI3 (pre : List (List (List Nat))) (x : List (List Nat)) (r : List (List (List Nat))) : idx (toI3 (pre ++ x :: r)) (pre.length : Int) = some (toI2 x) := by
  have : toI3 (pre ++ x :: r) = toI3 pre ++ toI2 x :: toI3 r := by simp [toI3]
  rw [this, ← toI3_len pre]
  exact idx_app _ _ _
theorem wr_nat {k : Nat} (h : k ≤ 1000000000) : wr .i64 ((k : Int) + 1) = ((k + 1 : Nat) : Int) := by
  rw [wr_i (by omega) (by omega)]; simp
/-- Rows of a square. -/
def rowsC (n : Nat) (cs : List Int) : Nat → Nat → List (List Int)
  | 0, _ => []
  | k + 1, x => ((cs.take ((x + 1) * n)).drop (x * n)) :: rowsC n cs k (x + 1)
theorem rowsC_len (n : Nat) (cs : List Int) : ∀ (k x : Nat), (rowsC n cs k x).length = k
  | 0, _ => rfl
  | k + 1, x => by simp [rowsC, rowsC_len n cs k (x + 1)]
theorem rowsC_at (n : Nat) (cs : List Int) : ∀ (k x i : Nat), i < k → (rowsC n cs k x)[i]? = some ((cs.take ((x + i + 1) * n)).drop ((x + i) * n))
  | 0, _, i, h => by omega
  | k + 1, x, 0, _ => by simp [rowsC]
  | k + 1, x, i + 1, h => by
    have := rowsC_at n cs k (x + 1) i (by omega)
    simp only [rowsC, List.getElem?_cons_succ]
    rw [this, show x + 1 + i = x + (i + 1) by omega]
theorem row_at {n : Nat} {cs : List Int} (hcs : cs.length = n * n) {x y : Nat} (hx : x < n) (hy : y < n) : ((cs.take ((x + 1) * n)).drop (x * n)).length = n ∧ ((cs.take ((x + 1) * n)).drop (x * n))[y]? = some (cs.getD (x * n + y) 0) := by
  have hle : (x + 1) * n ≤ n * n := Nat.mul_le_mul_right n (by omega)
  have e : (x + 1) * n = x * n + n := Nat.succ_mul x n
  have hc := cell_lt hx hy
  refine ⟨by simp; omega, ?_⟩
  rw [List.getElem?_drop, List.getElem?_take, if_pos (by omega), List.getD_eq_getElem?_getD, List.getElem?_eq_getElem (by omega)]
  rfl
theorem mkOk_nn {n : Nat} (hn : n ≤ 64) : mkOk 8 (wr .i64 ((n : Int) * (n : Int))) = true ∧ List.replicate (wr .i64 ((n : Int) * (n : Int))).toNat (0 : Int) = cel n [] := by
  have h2 : n * n ≤ 64 * 64 := Nat.mul_le_mul hn hn
  have e : (n : Int) * (n : Int) = ((n * n : Nat) : Int) := by simp
  rw [e, wr_i (by omega) (by omega)]
  refine ⟨?_, by rw [Int.toNat_natCast]; rfl⟩
  simp only [mkOk, Bool.and_eq_true, decide_eq_true_eq]
  omega
/-- Small enough for all loops. -/
structure Sml (n : Nat) (s : List (List (List Nat))) : Prop where
  n64 : n ≤ 64
  mem : ∀ ev ∈ s, ∀ t ∈ ev, ∀ x ∈ t, x < n
  ev : ∀ ev ∈ s, ev.flatten.length ≤ 90000 ∧ ev.length ≤ 90000
  len : s.length ≤ 90000
  all : s.flatten.flatten.length ≤ 90000
/-- How many pairs are counted at most. -/
def sqs : List (List Nat) → Nat
  | [] => 0
  | t :: ev => t.length * t.length + sqs ev
def sqS : List (List (List Nat)) → Nat
  | [] => 0
  | ev :: s => sqs ev + sqS s
/-- Small enough for meetings. -/
structure SmM (n : Nat) (s : List (List (List Nat))) : Prop where
  n64 : n ≤ 64
  mem : ∀ ev ∈ s, ∀ t ∈ ev, ∀ x ∈ t, x < n
  ev : ∀ ev ∈ s, (∀ t ∈ ev, t.length ≤ 2000) ∧ ev.length ≤ 90000
  len : s.length ≤ 90000
  all : sqS s ≤ 9000000
theorem sqs_le : ∀ ev : List (List Nat), (∀ t ∈ ev, t.length ≤ 64) → sqs ev ≤ 64 * ev.flatten.length
  | [], _ => by simp [sqs]
  | t :: ev, h => by
    have a := sqs_le ev fun u hu => h u (by simp [hu])
    have c : t.length * t.length ≤ 64 * t.length := Nat.mul_le_mul_right _ (h t (by simp))
    simp only [sqs, List.flatten_cons, List.length_append, Nat.mul_add]; omega
theorem sqS_le : ∀ s : List (List (List Nat)), (∀ ev ∈ s, sqs ev ≤ 4096) → sqS s ≤ s.length * 4096
  | [], _ => by simp [sqS]
  | ev :: s, h => by
    have a := sqS_le s fun u hu => h u (by simp [hu])
    have b := h ev (by simp)
    simp only [sqS, List.length_cons, Nat.succ_mul]; omega
theorem flats_le : ∀ s : List (List (List Nat)), (∀ ev ∈ s, ev.flatten.length ≤ 64) → s.flatten.flatten.length ≤ s.length * 64
  | [], _ => by simp
  | ev :: s, h => by
    have a := flats_le s fun u hu => h u (by simp [hu])
    have b := h ev (by simp)
    rw [List.flatten_cons, List.flatten_append, List.length_append, List.length_cons, Nat.succ_mul]; omega
theorem len_flat {ev : List (List Nat)} (h : ∀ t ∈ ev, t.length ≠ 0) : ev.length ≤ ev.flatten.length := by
  induction ev with
  | nil => simp
  | cons t ev ih =>
    have := ih fun u hu => h u (by simp [hu])
    have := h t (by simp)
    simp only [List.flatten_cons, List.length_append, List.length_cons]; omega
/- trestle/evening.Meet -/
/-- Where guests who meet are counted. -/
def meetT (n : Nat) : List Nat → List Nat → List Nat
  | _, [] => []
  | pre, x :: r => (pre ++ r).map (fun y => Nat.add (Nat.mul x n) y) ++ meetT n (pre ++ [x]) r
def meetE (n : Nat) : List (List Nat) → List Nat
  | [] => []
  | t :: ev => meetT n [] t ++ meetE n ev
def meetS (n : Nat) : List (List (List Nat)) → List Nat
  | [] => []
  | ev :: s => meetE n ev ++ meetS n s
/- Meetings. -/
def inner (n x i : Nat) : Nat → List Nat → List Nat
  | _, [] => []
  | k, y :: r => (if i = k then [] else [x * n + y]) ++ inner n x i (k + 1) r
def meetG (n : Nat) (t : List Nat) : Nat → List Nat → List Nat
  | _, [] => []
  | i, x :: r => inner n x i 0 t ++ meetG n t (i + 1) r
theorem inner_len (n x i : Nat) : ∀ (r : List Nat) (k : Nat), (inner n x i k r).length ≤ r.length
  | [], _ => by simp [inner]
  | y :: r, k => by
    have := inner_len n x i r (k + 1)
    simp only [inner, List.length_append, List.length_cons]
    split
    · simp only [List.length_nil]; omega
    · simp only [List.length_singleton]; omega
theorem inner_ge (n x i : Nat) : ∀ (r : List Nat) (k : Nat), i < k → inner n x i k r = r.map fun y => x * n + y
  | [], _, _ => rfl
  | y :: r, k, h => by
    simp only [inner, List.map_cons]
    rw [if_neg (by omega), inner_ge n x i r (k + 1) (by omega)]
    rfl
theorem inner_app (n x z : Nat) (r : List Nat) : ∀ (pre : List Nat) (k i : Nat), i = k + pre.length → inner n x i k (pre ++ z :: r) = (pre ++ r).map fun y => x * n + y
  | [], k, i, h => by
    simp only [List.nil_append, inner]
    rw [if_pos (by simpa using h), inner_ge n x i r (k + 1) (by simp at h; omega)]
    rfl
  | y :: pre, k, i, h => by
    simp only [List.cons_append, inner, List.map_cons]
    simp only [List.length_cons] at h
    rw [if_neg (by omega), inner_app n x z r pre (k + 1) i (by omega)]
    rfl
theorem meetG_T (n : Nat) (t : List Nat) : ∀ (r pre : List Nat), t = pre ++ r → meetG n t pre.length r = meetT n pre r
  | [], _, _ => rfl
  | x :: r, pre, h => by
    have ih := meetG_T n t r (pre ++ [x]) (by rw [h]; simp)
    simp only [meetG, meetT]
    rw [show pre.length + 1 = (pre ++ [x]).length by simp, ih]
    congr 1
    rw [h]
    exact inner_app n x x r pre 0 pre.length (by omega)
theorem meetG_len (n : Nat) (t : List Nat) : ∀ (r : List Nat) (i : Nat), (meetG n t i r).length ≤ t.length * r.length
  | [], _ => by simp [meetG]
  | x :: r, i => by
    have := meetG_len n t r (i + 1)
    have := inner_len n x i t 0
    simp only [meetG, List.length_append, List.length_cons, Nat.mul_succ]
    omega
theorem meetT_len (n : Nat) (t : List Nat) : (meetT n [] t).length ≤ t.length * t.length := by
  rw [← meetG_T n t t [] rfl]; exact meetG_len n t t 0
theorem mtg_y {n x y : Nat} {y0 y5 y6 : Int} {y3 : List (List Int)} {y4 : List (List (List Int))} (L : List Nat) (hn : n ≤ 64) (hL : L.length ≤ 10000000) (hx : x < n) (hy : y < n) : evening_meetings_k3_y y0 n (cel n L) y3 y4 y5 y6 x y = some (cel n (L ++ [x * n + y])) := by
  unfold evening_meetings_k3_y evening_meetings_k3_y_k1
  rw [cel_wr hn hx hy, cel_idx L hx hy]
  simp only [Option.bind_some]
  rw [cel_set L hL hx hy]
theorem mtg_3 (y0 : Int) (y3 : List (List Int)) (y4 : List (List (List Int))) (y5 y6 c1 : Int) (n : Nat) (hn : n ≤ 64) (t : List Nat) (ht : ∀ x ∈ t, x < n) (htl : t.length ≤ 2000) (i x : Nat) (hx : x < n) : ∀ (r pre : List Nat) (f : Nat) (L : List Nat), t = pre ++ r → r.length < f → L.length + r.length ≤ 10000000 →
    evening_meetings_k3_3 y0 n y3 y4 y5 y6 c1 (toI1 t) i x f pre.length (cel n L) = some (cel n (L ++ inner n x i pre.length r))
  | [], pre, f + 1, L, h, _, _ => by
    unfold evening_meetings_k3_3
    rw [if_neg (by rw [toI1_len, h]; simp)]
    simp [inner]
  | y :: r, pre, f + 1, L, h, hf, hL => by
    have hy : y < n := ht y (by rw [h]; simp)
    simp only [List.length_cons] at hf hL
    have hwr : wr .i64 ((pre.length : Int) + 1) = ((pre ++ [y]).length : Int) := by
      have : pre.length ≤ t.length := by rw [h]; simp
      rw [wr_nat (by omega)]; simp
    have rec_ := fun L' hL' => mtg_3 y0 y3 y4 y5 y6 c1 n hn t ht htl i x hx r (pre ++ [y]) f L' (by rw [h]; simp) (by omega) hL'
    unfold evening_meetings_k3_3
    rw [if_pos (by rw [toI1_len, h]; simp; omega), show idx (toI1 t) (pre.length : Int) = some (y : Int) by rw [h]; exact idx_toI1 pre y r]
    simp only [Option.bind_some, inner]
    by_cases e : i = pre.length
    · rw [if_neg (by simp [e]), if_pos e, hwr, rec_ L (by omega)]
      simp
    · rw [if_pos (by simp; omega), if_neg e, mtg_y L hn (by omega) hx hy]
      simp only [Option.bind_some]
      rw [hwr, rec_ _ (by simp; omega)]
      simp
theorem mtg_2 (y0 : Int) (y3 : List (List Int)) (y4 : List (List (List Int))) (y5 y6 c1 : Int) (n : Nat) (hn : n ≤ 64) (t : List Nat) (ht : ∀ x ∈ t, x < n) (htl : t.length ≤ 2000) : ∀ (r pre : List Nat) (f : Nat) (L : List Nat), t = pre ++ r → r.length < f → L.length + t.length * r.length ≤ 10000000 →
    evening_meetings_k3_2 y0 n y3 y4 y5 y6 c1 (toI1 t) f pre.length (cel n L) = some (cel n (L ++ meetG n t pre.length r))
  | [], pre, f + 1, L, h, _, _ => by
    unfold evening_meetings_k3_2
    rw [if_neg (by rw [toI1_len, h]; simp)]
    simp [meetG]
  | x :: r, pre, f + 1, L, h, hf, hL => by
    have hx : x < n := ht x (by rw [h]; simp)
    simp only [List.length_cons, Nat.mul_succ] at hf hL
    have hwr : wr .i64 ((pre.length : Int) + 1) = ((pre ++ [x]).length : Int) := by
      have : pre.length ≤ t.length := by rw [h]; simp
      rw [wr_nat (by omega)]; simp
    have h3 := mtg_3 y0 y3 y4 y5 y6 c1 n hn t ht htl pre.length x hx t [] 100000 L rfl (by omega) (by omega)
    rw [show ((([] : List Nat).length : Nat) : Int) = 0 from rfl, show ([] : List Nat).length = 0 from rfl] at h3
    have hin := inner_len n x pre.length t 0
    have ih := mtg_2 y0 y3 y4 y5 y6 c1 n hn t ht htl r (pre ++ [x]) f (L ++ inner n x pre.length 0 t) (by rw [h]; simp) (by omega) (by rw [List.length_append]; omega)
    unfold evening_meetings_k3_2
    rw [if_pos (by rw [toI1_len, h]; simp; omega), show idx (toI1 t) (pre.length : Int) = some (x : Int) by rw [h]; exact idx_toI1 pre x r]
    simp only [Option.bind_some]
    rw [h3]
    simp only [Option.bind_some]
    rw [hwr, ih]
    simp [meetG]
theorem meetE_len (n : Nat) : ∀ (ev : List (List Nat)), (meetE n ev).length ≤ sqs ev
  | [] => by simp [meetE]
  | t :: ev => by
    have := meetE_len n ev
    have := meetT_len n t
    simp only [meetE, sqs, List.length_append]; omega
theorem mtg_1 (y0 : Int) (y4 : List (List (List Int))) (y5 y6 : Int) (n : Nat) (hn : n ≤ 64) (ev : List (List Nat)) (hev : ∀ t ∈ ev, ∀ x ∈ t, x < n) (hel : ∀ t ∈ ev, t.length ≤ 2000) (hev2 : ev.length ≤ 90000) : ∀ (r pre : List (List Nat)) (f : Nat) (L : List Nat), ev = pre ++ r → r.length < f → L.length + sqs r ≤ 10000000 →
    evening_meetings_k3_1 y0 n (toI2 ev) y4 y5 y6 f pre.length (cel n L) = some (cel n (L ++ meetE n r))
  | [], pre, f + 1, L, h, _, _ => by
    unfold evening_meetings_k3_1
    rw [if_neg (by rw [toI2_len, h]; simp)]
    simp [meetE]
  | t :: r, pre, f + 1, L, h, hf, hL => by
    have htl : t.length ≤ 2000 := hel t (by rw [h]; simp)
    simp only [sqs] at hL
    have h3 := mtg_2 y0 (toI2 ev) y4 y5 y6 pre.length n hn t (hev t (by rw [h]; simp)) (by omega) t [] 100000 L rfl (by omega) (by omega)
    rw [show ((([] : List Nat).length : Nat) : Int) = 0 from rfl, meetG_T n t t [] rfl] at h3
    have hwr : wr .i64 ((pre.length : Int) + 1) = ((pre ++ [t]).length : Int) := by
      have : pre.length ≤ ev.length := by rw [h]; simp
      rw [wr_nat (by omega)]; simp
    have hb := meetT_len n t
    have ih := mtg_1 y0 y4 y5 y6 n hn ev hev hel hev2 r (pre ++ [t]) f (L ++ meetT n [] t) (by rw [h]; simp) (by simp at hf; omega) (by rw [List.length_append]; omega)
    unfold evening_meetings_k3_1
    rw [if_pos (by rw [toI2_len, h]; simp; omega), show idx (toI2 ev) (pre.length : Int) = some (toI1 t) by rw [h]; exact idx_toI2 pre t r]
    simp only [Option.bind_some]
    rw [h3]
    simp only [Option.bind_some]
    rw [hwr, ih]
    simp [meetE]
theorem mtg_0 (n : Nat) (hn : n ≤ 64) (s : List (List (List Nat))) (v1 : Int × Int × List Int) (hv1 : v1.1 = (n : Int)) (hs : ∀ ev ∈ s, ∀ t ∈ ev, ∀ x ∈ t, x < n) (hsl : ∀ ev ∈ s, (∀ t ∈ ev, t.length ≤ 2000) ∧ ev.length ≤ 90000) (hs2 : s.length ≤ 90000) : ∀ (r pre : List (List (List Nat))) (f : Nat) (L : List Nat), s = pre ++ r → r.length < f → L.length + sqS r ≤ 10000000 →
    evening_meetings_1 (toI3 s) v1 f (cel n L) pre.length = some (cel n (L ++ meetS n r))
  | [], pre, f + 1, L, h, _, _ => by
    unfold evening_meetings_1
    rw [if_neg (by rw [toI3_len, h]; simp)]
    simp [meetS]
  | ev :: r, pre, f + 1, L, h, hf, hL => by
    obtain ⟨hl1, hl2⟩ := hsl ev (by rw [h]; simp)
    simp only [sqS] at hL
    have h3 := mtg_1 0 (toI3 s) ((toI3 s).length : Int) pre.length n hn ev (hs ev (by rw [h]; simp)) hl1 hl2 ev [] 100000 L rfl (by omega) (by omega)
    rw [show ((([] : List (List Nat)).length : Nat) : Int) = 0 from rfl] at h3
    have hwr : wr .i64 ((pre.length : Int) + 1) = ((pre ++ [ev]).length : Int) := by
      have : pre.length ≤ s.length := by rw [h]; simp
      rw [wr_nat (by omega)]; simp
    have hb := meetE_len n ev
    have ih := mtg_0 n hn s v1 hv1 hs hsl hs2 r (pre ++ [ev]) f (L ++ meetE n ev) (by rw [h]; simp) (by simp at hf; omega) (by rw [List.length_append]; omega)
    unfold evening_meetings_1
    rw [if_pos (by rw [toI3_len, h]; simp; omega), show idx (toI3 s) (pre.length : Int) = some (toI2 ev) by rw [h]; exact idx_toI3 pre ev r]
    simp only [Option.bind_some, evening_meetings_k2, evening_meetings_k3, hv1]
    rw [h3]
    simp only [Option.bind_some]
    rw [hwr, ih]
    simp [meetS]
theorem meetings_eq {n : Nat} {s : List (List (List Nat))} (h : SmM n s) : evening_meetings n (toI3 s) = some ((n : Int), cel n (meetS n s)) := by
  unfold evening_meetings
  obtain ⟨m1, m2⟩ := mkOk_nn h.n64
  unfold evening_meetings_k1
  rw [if_pos m1, m2]
  simp only [Option.bind_some]
  have hl := h.len
  have h1 := mtg_0 n h.n64 s ((n : Int), (n : Int), cel n []) rfl h.mem h.ev h.len s [] 100000 [] rfl (by omega) (by have := h.all; simp at this ⊢; omega)
  rw [show ((([] : List (List (List Nat))).length : Nat) : Int) = 0 from rfl, List.nil_append] at h1
  rw [h1]
  rfl
/- trestle/evening.Least -/
def evening_Least (x0 : Int) (x1 : (List (List (List Int)))) : Option (Int) :=
  (evening_valid x0 x1).bind fun v1 =>
  if (!v1) = true then
  some 0
  else
  (evening_extremes x0 x1).bind fun v3 =>
  some v3.1
/- trestle/evening.Strain -/
/-- How often two guests meet. -/
def cX (n : Nat) (L : List Nat) (x y : Nat) : Int := ((L.count (x * n + y) : Nat) : Int)
theorem at_eq {n x y : Nat} (L : List Nat) (hn : n ≤ 64) (hx : x < n) (hy : y < n) : square_at ((n : Int), cel n L) x y = some (cX n L x y) := by
  unfold square_at
  rw [if_pos (by simp; omega)]
  have e : (x : Int) * (n : Int) + (y : Int) = ((x * n + y : Nat) : Int) := by simp
  show idx (cel n L) ((x : Int) * (n : Int) + (y : Int)) = _
  rw [e]
  exact cel_idx L hx hy
theorem mn_cases (a b : Int) : mnI a b ≤ a ∧ mnI a b ≤ b ∧ (mnI a b = a ∨ mnI a b = b) := by unfold mnI; split <;> omega
theorem mx_cases (a b : Int) : a ≤ mxI a b ∧ b ≤ mxI a b ∧ (mxI a b = a ∨ mxI a b = b) := by unfold mxI; split <;> omega
theorem ext_2 (n : Nat) (hn : n ≤ 64) (L : List Nat) (v1 : Int × List Int) (hv : v1 = ((n : Int), cel n L)) (x0 : Int) (x : Nat) (hx : x < n) : ∀ (k y f : Nat) (lo hi : Int), y + k = x → k < f →
    ∃ lo' hi', evening_extremes_2 x0 v1 x f lo hi y = some (lo', hi') ∧ lo' ≤ lo ∧ hi ≤ hi' ∧ (∀ z, y ≤ z → z < x → lo' ≤ cX n L x z ∧ cX n L x z ≤ hi') ∧ (lo' = lo ∨ ∃ z, z < x ∧ lo' = cX n L x z) ∧ (hi' = hi ∨ ∃ z, z < x ∧ hi' = cX n L x z)
  | 0, y, f + 1, lo, hi, h, _ => by
    refine ⟨lo, hi, ?_, Int.le_refl _, Int.le_refl _, fun z h1 h2 => by omega, .inl rfl, .inl rfl⟩
    unfold evening_extremes_2
    rw [if_neg (by simp; omega)]
  | k + 1, y, f + 1, lo, hi, h, hf => by
    obtain ⟨a1, a2, a3⟩ := mn_cases lo (cX n L x y)
    obtain ⟨b1, b2, b3⟩ := mx_cases hi (cX n L x y)
    obtain ⟨lo', hi', e, c1, c2, c3, c4, c5⟩ := ext_2 n hn L v1 hv x0 x hx k (y + 1) f (mnI lo (cX n L x y)) (mxI hi (cX n L x y)) (by omega) (by omega)
    refine ⟨lo', hi', ?_, by omega, by omega, fun z h1 h2 => ?_, ?_, ?_⟩
    · unfold evening_extremes_2
      rw [if_pos (by simp; omega), hv]
      simp only
      rw [at_eq L hn hx (by omega)]
      simp only [Option.bind_some]
      rw [wr_nat (by omega), ← hv]
      exact e
    · by_cases hz : z = y
      · subst hz; omega
      · exact c3 z (by omega) h2
    · rcases c4 with c4 | c4
      · rcases a3 with a3 | a3
        · exact .inl (by omega)
        · exact .inr ⟨y, by omega, by omega⟩
      · exact .inr c4
    · rcases c5 with c5 | c5
      · rcases b3 with b3 | b3
        · exact .inl (by omega)
        · exact .inr ⟨y, by omega, by omega⟩
      · exact .inr c5
theorem ext_1 (n : Nat) (hn : n ≤ 64) (L : List Nat) (v1 : Int × List Int) (hv : v1 = ((n : Int), cel n L)) : ∀ (k x f : Nat) (lo hi : Int), x + k = n → k < f →
    ∃ lo' hi', evening_extremes_1 n v1 f lo hi x = some (lo', hi') ∧ lo' ≤ lo ∧ hi ≤ hi' ∧ (∀ u z, x ≤ u → u < n → z < u → lo' ≤ cX n L u z ∧ cX n L u z ≤ hi') ∧ (lo' = lo ∨ ∃ u z, u < n ∧ z < u ∧ lo' = cX n L u z) ∧ (hi' = hi ∨ ∃ u z, u < n ∧ z < u ∧ hi' = cX n L u z)
  | 0, x, f + 1, lo, hi, h, _ => by
    refine ⟨lo, hi, ?_, Int.le_refl _, Int.le_refl _, fun u z h1 h2 => by omega, .inl rfl, .inl rfl⟩
    unfold evening_extremes_1
    rw [if_neg (by simp; omega)]
  | k + 1, x, f + 1, lo, hi, h, hf => by
    obtain ⟨l1, h1, e1, a1, a2, a3, a4, a5⟩ := ext_2 n hn L v1 hv n x (by omega) x 0 100000 lo hi (by omega) (by omega)
    obtain ⟨lo', hi', e, c1, c2, c3, c4, c5⟩ := ext_1 n hn L v1 hv k (x + 1) f l1 h1 (by omega) (by omega)
    refine ⟨lo', hi', ?_, by omega, by omega, fun u z g1 g2 g3 => ?_, ?_, ?_⟩
    · rw [show ((0 : Nat) : Int) = 0 from rfl] at e1
      unfold evening_extremes_1
      rw [if_pos (by simp; omega), e1]
      simp only [Option.bind_some]
      rw [wr_nat (by omega)]
      exact e
    · by_cases hz : u = x
      · subst hz
        have := a3 z (by omega) g3
        omega
      · exact c3 u z (by omega) g2 g3
    · rcases c4 with c4 | c4
      · rcases a4 with a4 | ⟨z, z1, z2⟩
        · exact .inl (by omega)
        · exact .inr ⟨x, z, by omega, z1, by omega⟩
      · exact .inr c4
    · rcases c5 with c5 | c5
      · rcases a5 with a5 | ⟨z, z1, z2⟩
        · exact .inl (by omega)
        · exact .inr ⟨x, z, by omega, z1, by omega⟩
      · exact .inr c5
/-- The least and the greatest number of meetings. -/
structure Exts (n : Nat) (L : List Nat) (lo hi : Int) : Prop where
  all : ∀ u z, u < n → z < u → lo ≤ cX n L u z ∧ cX n L u z ≤ hi
  lo_ : lo = 64 ∨ ∃ u z, u < n ∧ z < u ∧ lo = cX n L u z
  hi_ : hi = 0 ∨ ∃ u z, u < n ∧ z < u ∧ hi = cX n L u z
theorem ext_eq {n : Nat} {s : List (List (List Nat))} (h : SmM n s) : ∃ lo hi, evening_extremes n (toI3 s) = some (if n = 1 then 0 else lo, hi) ∧ Exts n (meetS n s) lo hi := by
  obtain ⟨lo, hi, e, _, _, c3, c4, c5⟩ := ext_1 n h.n64 (meetS n s) _ rfl n 0 100000 64 0 (by omega) (by have := h.n64; omega)
  refine ⟨lo, hi, ?_, fun u z h1 h2 => c3 u z (by omega) h1 h2, c4, c5⟩
  unfold evening_extremes
  rw [meetings_eq h]
  simp only [Option.bind_some]
  rw [show ((0 : Nat) : Int) = 0 from rfl] at e
  rw [e]
  simp only [Option.bind_some]
  unfold evening_extremes_j3
  by_cases h1 : n = 1
  · subst h1; simp
  · have : ((n : Int) == 1) = false := by simp; omega
    rw [this, if_neg h1]; simp
theorem most_eq {n : Nat} {s : List (List (List Nat))} (h : SmM n s) (hv : evening_valid n (toI3 s) = some true) : ∃ lo hi, evening_Most n (toI3 s) = some hi ∧ evening_Least n (toI3 s) = some (if n = 1 then 0 else lo) ∧ Exts n (meetS n s) lo hi := by
  obtain ⟨lo, hi, e, ex⟩ := ext_eq h
  refine ⟨lo, hi, ?_, ?_, ex⟩
  · unfold evening_Most
    rw [hv]
    simp only [Option.bind_some, Bool.not_true, Bool.false_eq_true, if_false]
    rw [e]
    rfl
  · unfold evening_Least
    rw [hv]
    simp only [Option.bind_some, Bool.not_true, Bool.false_eq_true, if_false]
    rw [e]
    rfl
/-- An evening of these sizes, everybody once. -/
structure Evn (n : Nat) (sz : List Nat) (ev : List (List Nat)) : Prop where
  sz_ : ev.map List.length = sz
  ne : ∀ t ∈ ev, t.length ≠ 0
  cnt : ∀ j, ev.flatten.count j = if j < n then 1 else 0
section
variable {n : Nat} {sz : List Nat} {ev : List (List Nat)} {s : List (List (List Nat))}
theorem Evn.flt (h : Evn n sz ev) {j : Nat} (hj : j ∈ ev.flatten) : j < n := by
  have := h.cnt j
  have := List.count_pos_iff.2 hj
  split at * <;> omega
theorem Evn.lt (h : Evn n sz ev) : ∀ t ∈ ev, ∀ x ∈ t, x < n := fun t ht _ hx => h.flt (List.mem_flatten.2 ⟨t, ht, hx⟩)
theorem Evn.len (h : Evn n sz ev) : ev.flatten.length = sz.sum := by rw [List.length_flatten, h.sz_]
theorem chk_evn (h : Evn n sz ev) (zs : List Int) (hs : zs = [] ∨ zs = toI1 sz) : chk n zs (toI2 ev) = 0 := by
  have hz : zs = [] ∨ zs = (toI2 ev).map (fun t => (t.length : Int)) := hs.imp id fun e => by rw [e, ← h.sz_]; simp [toI1, toI2]
  unfold chk
  have h1 : (decide ((zs.length : Int) > 0) && ((zs.length : Int) != ((toI2 ev).length : Int))) = false := by
    rcases hz with h | h
    · subst h; rfl
    · rw [h]; simp
  have h2 : sbad zs (toI2 ev) 0 = false := sbad_ok (toI2 ev) [] zs (by simpa using hz) (fun t ht => by
    obtain ⟨u, hu, rfl⟩ := List.mem_map.1 ht
    rw [toI1_len]; exact h.ne u hu)
  have h3 : (toI2 ev).flatten.any (badV n) = false := by
    rw [toI2_flat]
    refine List.any_eq_false.2 fun v hv => ?_
    obtain ⟨j, hj, rfl⟩ := mem_toI1 hv
    have := h.flt hj
    simp only [badV, decide_eq_true_eq]
    simp
    omega
  have h4 : anyN (fun x => decide (((toI2 ev).flatten.count x : Int) > 1)) (n : Int).toNat 0 = false := anyN_false _ _ fun x hx => by
    rw [toI2_flat, toI1_count, h.cnt]
    simp only [decide_eq_false_iff_not]
    split <;> simp
  have h5 : anyN (fun x => (((toI2 ev).flatten.count x : Int) == 0)) (n : Int).toNat 0 = false := anyN_false _ _ fun x hx => by
    rw [toI2_flat, toI1_count, h.cnt, if_pos (by simpa using hx)]
    rfl
  rw [h1, h2, h3, h4, h5]
  rfl
theorem chkAll_evn (h1 : 1 ≤ n) (h2 : n ≤ 64) (zs : List Int) (hz : zs = [] ∨ (zs = toI1 sz ∧ fitP n zs = true)) (hs : s.length ≤ 64) (hv : ∀ ev ∈ s, Evn n sz ev) : chkAll n zs (toI3 s) = (0, 0) := by
  unfold chkAll
  have e1 : decide ((n : Int) < 1) = false := by simp; omega
  have e2 : decide ((n : Int) > 64) = false := by simp; omega
  have e3 : (decide ((zs.length : Int) > 0) && !fitP n zs) = false := by
    rcases hz with h | h
    · subst h; rfl
    · rw [h.2]; simp
  rw [e1, e2, e3]
  simp only [Bool.or_self, Bool.false_eq_true, if_false]
  rw [if_neg (by rw [toI3_len]; omega)]
  refine chkS_ok n zs (toI3 s) 0 fun ev he => ?_
  obtain ⟨u, hu, rfl⟩ := List.mem_map.1 he
  exact chk_evn (hv u hu) zs (hz.imp id fun h => h.1)
theorem evn_small (hn : n ≤ 64) (hs : s.length ≤ 64) (hv : ∀ ev ∈ s, Evn n sz ev) (hsum : sz.sum ≤ 64) : Sml n s ∧ SmM n s := by
  have h1 : ∀ ev ∈ s, (∀ t ∈ ev, ∀ x ∈ t, x < n) ∧ ev.flatten.length ≤ 64 ∧ ev.length ≤ 64 := fun ev he => by
    have h := hv ev he
    have e : ev.flatten.length ≤ 64 := by rw [h.len]; exact hsum
    have := len_flat h.ne
    exact ⟨h.lt, e, by omega⟩
  have h2 : ∀ ev ∈ s, ∀ t ∈ ev, t.length ≤ 64 := fun ev he t ht => by
    have := len_mem ht
    have := (h1 ev he).2.1
    omega
  have h3 : ∀ ev ∈ s, sqs ev ≤ 4096 := fun ev he => by
    have := sqs_le ev (h2 ev he)
    have := (h1 ev he).2.1
    omega
  have h4 := sqS_le s h3
  have h5 := flats_le s fun ev he => (h1 ev he).2.1
  exact ⟨⟨hn, fun ev he => (h1 ev he).1, fun ev he => ⟨by have := (h1 ev he).2.1; omega, by have := (h1 ev he).2.2; omega⟩, by omega, by omega⟩, ⟨hn, fun ev he => (h1 ev he).1, fun ev he => ⟨fun t ht => by have := h2 ev he t ht; omega, by have := (h1 ev he).2.2; omega⟩, by omega, by omega⟩⟩
theorem evn_check (h1 : 1 ≤ n) (hn : n ≤ 64) (hs : s.length ≤ 64) (hv : ∀ ev ∈ s, Evn n sz ev) (hsum : sz.sum ≤ 64) (hf : fitP n (toI1 sz) = true) (hzl : sz.length ≤ 64) : evening_Check n (toI1 sz) (toI3 s) = some (0, 0) ∧ evening_valid n (toI3 s) = some true := by
  have hl : ∀ ev ∈ toI3 s, ev.length ≤ 50000 ∧ ev.flatten.length ≤ 50000 := fun ev he => by
    obtain ⟨u, hu, rfl⟩ := List.mem_map.1 he
    have h := hv u hu
    have e : u.flatten.length ≤ 64 := by rw [h.len]; exact hsum
    have := len_flat h.ne
    rw [toI2_len, toI2_flat, toI1_len]
    omega
  have c1 := (check_both n ⟨by omega, by omega⟩ (toI1 sz) (by rw [toI1_len]; omega) (toI3 s) (by rw [toI3_len]; omega) hl).1
  have c2 := (check_both n ⟨by omega, by omega⟩ [] (by simp) (toI3 s) (by rw [toI3_len]; omega) hl).1
  rw [chkAll_evn h1 hn (toI1 sz) (.inr ⟨rfl, hf⟩) hs hv] at c1
  rw [chkAll_evn h1 hn [] (.inl rfl) hs hv] at c2
  refine ⟨c1, ?_⟩
  unfold evening_valid
  rw [c2]
  rfl
end
theorem fit_sum {n : Nat} {sz : List Nat} (h1 : 1 ≤ n) (hn : n ≤ 64) (hp : ∀ k ∈ sz, 1 ≤ k) (hs : sz.sum = n) : fitP n (toI1 sz) = true := by
  have key : ∀ sz : List Nat, sumL (toI1 sz) = ((sz.sum : Nat) : Int) := fun sz => by
    induction sz with
    | nil => rfl
    | cons k sz ih =>
      show (k : Int) + sumL (toI1 sz) = _
      rw [ih, List.sum_cons]; push_cast; rfl
  simp only [fitP, Bool.and_eq_true, decide_eq_true_eq]
  refine ⟨⟨⟨List.all_eq_true.2 fun v hv => ?_, ?_⟩, by omega⟩, by omega⟩
  · obtain ⟨j, hj, rfl⟩ := mem_toI1 hv
    have := hp j hj
    simp; omega
  · rw [key, hs]
/- slices.Index[[]int,int] -/
/- slices.Contains[[]int,int] -/
/- trestle/evening.Together -/
theorem map_count (n z x y : Nat) (hy : y < n) : ∀ (l : List Nat), (∀ w ∈ l, w < n) → (l.map fun w => Nat.add (Nat.mul z n) w).count (x * n + y) = if z = x then l.count y else 0
  | [], _ => by simp
  | w :: l, h => by
    have ih := map_count n z x y hy l fun u hu => h u (by simp [hu])
    have hw := h w (by simp)
    rw [List.map_cons, List.count_cons, ih, List.count_cons]
    by_cases e : z * n + w = x * n + y
    · obtain ⟨e1, e2⟩ := cell_eq hw hy e
      subst e1 e2
      simp
    · have : ((Nat.add (Nat.mul z n) w) == (x * n + y)) = false := by simpa using e
      rw [this]
      by_cases hz : z = x
      · subst hz
        have : ¬ w = y := fun e2 => e (by rw [e2])
        simp [this]
      · simp [hz]
theorem meetT_count (n x y : Nat) (hy : y < n) : ∀ (r pre : List Nat), (∀ z ∈ pre ++ r, z < n) → (meetT n pre r).count (x * n + y) = r.count x * ((pre ++ r).count y - if x = y then 1 else 0)
  | [], _, _ => by simp [meetT]
  | z :: r, pre, h => by
    have ih := meetT_count n x y hy r (pre ++ [z]) (by simpa using h)
    have e : (pre ++ [z]) ++ r = pre ++ z :: r := by simp
    rw [e] at ih
    have hT : (pre ++ z :: r).count y = (pre ++ r).count y + if z = y then 1 else 0 := by
      rw [List.count_append, List.count_append, List.count_cons]
      by_cases hz : z = y
      · subst hz; simp; omega
      · simp [hz]
    simp only [meetT, List.count_append]
    rw [map_count n z x y hy (pre ++ r) (fun w hw => h w (by
      rcases List.mem_append.1 hw with hw | hw
      · simp [hw]
      · simp [hw])), List.count_cons]
    rw [List.count_append] at ih
    rw [ih]
    have hT' : List.count y pre + List.count y (z :: r) = (pre ++ r).count y + if z = y then 1 else 0 := by rw [← hT, List.count_append]
    rw [hT']
    by_cases hz : z = x
    · subst hz
      by_cases hxy : z = y
      · subst hxy
        simp [Nat.add_mul]; omega
      · simp [hxy, Nat.add_mul]; omega
    · have : (z == x) = false := by simpa using hz
      simp [hz]
/-- On how many tables of an evening two guests sit together. -/
def pE (x y : Nat) : List (List Nat) → Nat
  | [] => 0
  | t :: ev => t.count x * t.count y + pE x y ev
def pS (x y : Nat) : List (List (List Nat)) → Nat
  | [] => 0
  | ev :: s => pE x y ev + pS x y s
theorem pE_comm (x y : Nat) : ∀ ev, pE x y ev = pE y x ev
  | [] => rfl
  | t :: ev => by simp only [pE, pE_comm x y ev, Nat.mul_comm]
theorem pS_comm (x y : Nat) : ∀ s, pS x y s = pS y x s
  | [] => rfl
  | ev :: s => by simp only [pS, pS_comm x y s, pE_comm x y ev]
theorem meetE_count (n x y : Nat) (hy : y < n) (hxy : x ≠ y) : ∀ (ev : List (List Nat)), (∀ t ∈ ev, ∀ z ∈ t, z < n) → (meetE n ev).count (x * n + y) = pE x y ev
  | [], _ => rfl
  | t :: ev, h => by
    have ih := meetE_count n x y hy hxy ev fun u hu => h u (by simp [hu])
    simp only [meetE, pE, List.count_append, ih]
    rw [meetT_count n x y hy t [] (by simpa using h t (by simp)), if_neg hxy]
    simp
theorem meetS_count (n x y : Nat) (hy : y < n) (hxy : x ≠ y) : ∀ (s : List (List (List Nat))), (∀ ev ∈ s, ∀ t ∈ ev, ∀ z ∈ t, z < n) → (meetS n s).count (x * n + y) = pS x y s
  | [], _ => rfl
  | ev :: s, h => by
    have ih := meetS_count n x y hy hxy s fun u hu => h u (by simp [hu])
    simp only [meetS, pS, List.count_append, ih, meetE_count n x y hy hxy ev (h ev (by simp))]
theorem cnt_le {x : Nat} {t : List Nat} {ev : List (List Nat)} (ht : t ∈ ev) (h : ev.flatten.count x ≤ 1) : t.count x ≤ 1 := by
  induction ev with
  | nil => cases ht
  | cons u ev ih =>
    rw [List.flatten_cons, List.count_append] at h
    rcases List.mem_cons.1 ht with rfl | ht
    · omega
    · exact ih ht (by omega)
theorem Evn.le1 {n : Nat} {sz : List Nat} {ev : List (List Nat)} (h : Evn n sz ev) {t : List Nat} (ht : t ∈ ev) (x : Nat) : t.count x ≤ 1 := by
  refine cnt_le ht ?_
  rw [h.cnt]; split <;> omega
theorem meetE_diag (n x : Nat) (hx : x < n) : ∀ (ev : List (List Nat)), (∀ t ∈ ev, t.count x ≤ 1) → (∀ t ∈ ev, ∀ z ∈ t, z < n) → (meetE n ev).count (x * n + x) = 0
  | [], _, _ => rfl
  | t :: ev, h1, h => by
    have ih := meetE_diag n x hx ev (fun u hu => h1 u (by simp [hu])) fun u hu => h u (by simp [hu])
    have hc := h1 t (by simp)
    simp only [meetE, List.count_append, ih]
    rw [meetT_count n x x hx t [] (by simpa using h t (by simp)), if_pos rfl]
    have : t.count x - 1 = 0 := by omega
    simp [this]
theorem meetS_diag (n x : Nat) (hx : x < n) {sz : List Nat} : ∀ (s : List (List (List Nat))), (∀ ev ∈ s, Evn n sz ev) → (meetS n s).count (x * n + x) = 0
  | [], _ => rfl
  | ev :: s, h => by
    have ih := meetS_diag n x hx s fun u hu => h u (by simp [hu])
    have he := h ev (by simp)
    simp only [meetS, List.count_append, ih, meetE_diag n x hx ev (fun t ht => he.le1 ht x) he.lt]
/-- All meetings of an evening, in both orders. -/
def prs : List Nat → Nat
  | [] => 0
  | k :: sz => k * (k - 1) + prs sz
theorem meetT_length (n : Nat) : ∀ (r pre : List Nat), (meetT n pre r).length = r.length * ((pre ++ r).length - 1)
  | [], _ => by simp [meetT]
  | z :: r, pre => by
    have ih := meetT_length n r (pre ++ [z])
    simp only [meetT, List.length_append, List.length_map, ih, List.length_cons, List.length_nil]
    rw [Nat.succ_mul]
    have : pre.length + (0 + 1) + r.length - 1 = pre.length + r.length := by omega
    have h2 : pre.length + (r.length + 1) - 1 = pre.length + r.length := by omega
    rw [this, h2]; omega
theorem meetE_length (n : Nat) : ∀ (ev : List (List Nat)), (meetE n ev).length = prs (ev.map List.length)
  | [] => rfl
  | t :: ev => by simp only [meetE, List.length_append, meetE_length n ev, meetT_length, List.map_cons, prs, List.nil_append]
theorem meetS_length (n : Nat) {sz : List Nat} : ∀ (s : List (List (List Nat))), (∀ ev ∈ s, Evn n sz ev) → (meetS n s).length = s.length * prs sz
  | [], _ => by simp [meetS]
  | ev :: s, h => by
    have ih := meetS_length n s fun u hu => h u (by simp [hu])
    simp only [meetS, List.length_append, ih, meetE_length, (h ev (by simp)).sz_, List.length_cons]
    rw [Nat.succ_mul]; omega
theorem meetS_lt {n : Nat} {s : List (List (List Nat))} (h : ∀ ev ∈ s, ∀ t ∈ ev, ∀ z ∈ t, z < n) : ∀ j ∈ meetS n s, j < n * n := by
  have hT : ∀ (r pre : List Nat), (∀ z ∈ pre ++ r, z < n) → ∀ j ∈ meetT n pre r, j < n * n := fun r => by
    induction r with
    | nil => intro pre _ j hj; cases hj
    | cons z r ih =>
      intro pre h j hj
      simp only [meetT] at hj
      rcases List.mem_append.1 hj with hj | hj
      · obtain ⟨w, hw, rfl⟩ := List.mem_map.1 hj
        refine cell_lt (h z (by simp)) (h w ?_)
        rcases List.mem_append.1 hw with hw | hw
        · simp [hw]
        · simp [hw]
      · exact ih (pre ++ [z]) (by simpa using h) j hj
  have hE : ∀ (ev : List (List Nat)), (∀ t ∈ ev, ∀ z ∈ t, z < n) → ∀ j ∈ meetE n ev, j < n * n := fun ev => by
    induction ev with
    | nil => intro _ j hj; cases hj
    | cons t ev ih =>
      intro h j hj
      simp only [meetE] at hj
      rcases List.mem_append.1 hj with hj | hj
      · exact hT t [] (by simpa using h t (by simp)) j hj
      · exact ih (fun u hu => h u (by simp [hu])) j hj
  induction s with
  | nil => intro j hj; cases hj
  | cons ev s ih =>
    intro j hj
    simp only [meetS] at hj
    rcases List.mem_append.1 hj with hj | hj
    · exact hE ev (h ev (by simp)) j hj
    · exact ih (fun u hu => h u (by simp [hu])) j hj
theorem sum_incs : ∀ (L : List Nat) (cs : List Int), (∀ j ∈ L, j < cs.length) → (incs cs L).sum = cs.sum + L.length
  | [], cs, _ => by simp [incs]
  | i :: L, cs, h => by
    have ih := sum_incs L (inc cs i) fun j hj => by rw [inc_len]; exact h j (by simp [hj])
    have key : ∀ (cs : List Int) (i : Nat), i < cs.length → (inc cs i).sum = cs.sum + 1 := fun cs => by
      induction cs with
      | nil => intro i hi; simp at hi
      | cons c cs ih =>
        intro i hi
        cases i with
        | zero => simp [inc]; omega
        | succ i =>
          have := ih i (by simpa using hi)
          have e : inc (c :: cs) (i + 1) = c :: inc cs i := by simp [inc]
          rw [e, List.sum_cons, List.sum_cons, this]; omega
    rw [incs_cons, ih, key cs i (h i (by simp)), List.length_cons]; push_cast; omega
theorem sum_zero (n : Nat) : (zeros n).sum = 0 := by
  induction n with
  | zero => rfl
  | succ n ih => simp only [zeros, List.replicate_succ, List.sum_cons] at ih ⊢; rw [ih]; rfl
theorem cel_sum {n : Nat} {L : List Nat} (h : ∀ j ∈ L, j < n * n) : (cel n L).sum = (L.length : Int) := by
  rw [cel, sum_incs L _ (fun j hj => by simpa [zeros] using h j hj), sum_zero]; omega
theorem rowsC_flat (n : Nat) (cs : List Int) (hcs : cs.length = n * n) : ∀ (k x : Nat), x + k = n → (rowsC n cs k x).flatten = cs.drop (x * n)
  | 0, x, h => by
    simp only [rowsC, List.flatten_nil]
    rw [show x = n by omega, List.drop_eq_nil_of_le (by omega)]
  | k + 1, x, h => by
    have e : (x + 1) * n = x * n + n := Nat.succ_mul x n
    simp only [rowsC, List.flatten_cons, rowsC_flat n cs hcs k (x + 1) (by omega)]
    rw [e, List.drop_take, Nat.add_sub_cancel_left, ← List.drop_drop, List.take_append_drop]
/- Together. -/
theorem pE_le (x y : Nat) : ∀ (ev : List (List Nat)), (∀ t ∈ ev, t.count x ≤ 1 ∧ t.count y ≤ 1) → pE x y ev ≤ ev.length
  | [], _ => by simp [pE]
  | t :: ev, h => by
    have ih := pE_le x y ev fun u hu => h u (by simp [hu])
    obtain ⟨a, b⟩ := h t (by simp)
    have : t.count x * t.count y ≤ 1 * 1 := Nat.mul_le_mul a b
    simp only [pE, List.length_cons]; omega
/- trestle/evening.Beside -/
/-- An evening with everybody once. -/
def EvV (n : Nat) (ev : List (List Nat)) : Prop := Evn n (ev.map List.length) ev
theorem cnt_len {L : List Nat} {n : Nat} (h : ∀ j, L.count j = if j < n then 1 else 0) : L.length = n := by
  have hp : L.Perm (List.range n) := List.perm_iff_count.2 fun j => by rw [h, List.count_range]
  rw [hp.length_eq]; simp
theorem EvV.flen {n : Nat} {ev : List (List Nat)} (h : EvV n ev) : ev.flatten.length = n := cnt_len h.cnt
theorem EvV.elen {n : Nat} {ev : List (List Nat)} (h : EvV n ev) : ev.length ≤ n := by
  have := len_flat h.ne
  rw [h.flen] at this
  exact this
theorem EvV.tlen {n : Nat} {ev : List (List Nat)} (h : EvV n ev) {t : List Nat} (ht : t ∈ ev) : t.length ≤ n := by
  have := len_mem ht
  rw [h.flen] at this
  exact this
section
variable {n : Nat} {s : List (List (List Nat))}
theorem evv_small (hn : n ≤ 64) (hs : s.length ≤ 70) (hv : ∀ ev ∈ s, EvV n ev) : Sml n s ∧ SmM n s := by
  have h3 : ∀ ev ∈ s, sqs ev ≤ 4096 := fun ev he => by
    have := sqs_le ev fun t ht => by have := (hv ev he).tlen ht; omega
    have := (hv ev he).flen
    omega
  have h4 := sqS_le s h3
  have h5 := flats_le s fun ev he => by have := (hv ev he).flen; omega
  exact ⟨⟨hn, fun ev he => (hv ev he).lt, fun ev he => ⟨by have := (hv ev he).flen; omega, by have := (hv ev he).elen; omega⟩, by omega, by omega⟩, ⟨hn, fun ev he => (hv ev he).lt, fun ev he => ⟨fun t ht => by have := (hv ev he).tlen ht; omega, by have := (hv ev he).elen; omega⟩, by omega, by omega⟩⟩
end
/-- Most and sum of numbers over a table. -/
def scr (c : Nat → Int) : List Nat → Int → Int → Int × Int
  | [], a, s => (a, s)
  | y :: r, a, s => scr c r (mxI a (c y)) (s + c y)
/-- Is a guest better than the best so far? -/
def bet (b a m s t : Int) : Bool := decide (b < 0) || (decide (a < m) || (a == m && decide (s < t)))
/-- The best of some guests. -/
def pk (g : Nat → Int × Int) : List Nat → Int → Int → Int → Int × Int × Int
  | [], b, m, t => (b, m, t)
  | x :: r, b, m, t => if bet b (g x).1 m (g x).2 t = true then pk g r (x : Int) (g x).1 (g x).2 else pk g r b m t
/-- Who does not sit yet. -/
def frOf (n : Nat) (us : List Nat) : List Nat := (List.range n).filter fun x => decide (¬ x ∈ us)
def pick (g : Nat → Int × Int) (n : Nat) (us : List Nat) : Nat := (pk g (frOf n us) (-1) 0 0).1.toNat
def plT (c : Nat → Nat → Int) (n : Nat) (us : List Nat) : Nat → List Nat → List Nat
  | 0, tb => tb
  | k + 1, tb => plT c n us k (tb ++ [pick (fun x => scr (c x) tb 0 0) n (us ++ tb)])
def plE (c : Nat → Nat → Int) (n : Nat) : List Nat → List (List Nat) → List (List Nat)
  | [], ev => ev
  | k :: r, ev => plE c n r (ev ++ [plT c n ev.flatten k []])
def metI (s : List (List (List Nat))) (x y : Nat) : Int := ((pS x y s : Nat) : Int)
def plS (n : Nat) (sz : List Nat) : Nat → List (List (List Nat)) → List (List (List Nat))
  | 0, s => s
  | e + 1, s => plS n sz e (s ++ [plE (metI s) n sz []])
/-- Nobody twice, nobody unknown. -/
def Cn (n : Nat) (us : List Nat) : Prop := ∀ j, us.count j ≤ if j < n then 1 else 0
theorem pk_mem (g : Nat → Int × Int) : ∀ (r : List Nat) (b m t : Int), 0 ≤ b → (pk g r b m t).1 = b ∨ ∃ x ∈ r, (pk g r b m t).1 = (x : Int)
  | [], b, m, t, _ => .inl rfl
  | x :: r, b, m, t, h => by
    unfold pk
    by_cases hb : bet b (g x).1 m (g x).2 t = true
    · rw [if_pos hb]
      rcases pk_mem g r (x : Int) (g x).1 (g x).2 (by omega) with e | ⟨y, hy, e⟩
      · exact .inr ⟨x, by simp, e⟩
      · exact .inr ⟨y, by simp [hy], e⟩
    · rw [if_neg hb]
      rcases pk_mem g r b m t h with e | ⟨y, hy, e⟩
      · exact .inl e
      · exact .inr ⟨y, by simp [hy], e⟩
theorem pk_some (g : Nat → Int × Int) {r : List Nat} (hr : r ≠ []) : ∃ x ∈ r, (pk g r (-1) 0 0).1 = (x : Int) := by
  cases r with
  | nil => exact absurd rfl hr
  | cons x r =>
    unfold pk
    rw [if_pos (by simp [bet])]
    rcases pk_mem g r (x : Int) (g x).1 (g x).2 (by omega) with e | ⟨y, hy, e⟩
    · exact ⟨x, by simp, e⟩
    · exact ⟨y, by simp [hy], e⟩
theorem mem_fr {n : Nat} {us : List Nat} {x : Nat} : x ∈ frOf n us ↔ x < n ∧ ¬ x ∈ us := by simp [frOf]
theorem fr_count (n : Nat) (us : List Nat) (j : Nat) : (frOf n us).count j = if j < n ∧ ¬ j ∈ us then 1 else 0 := by
  by_cases h : ¬ j ∈ us
  · rw [frOf, List.count_filter (by simpa using h), List.count_range]
    simp [h]
  · rw [if_neg (fun e => h e.2)]
    exact List.count_eq_zero.2 fun hm => h (mem_fr.1 hm).2
theorem fr_len {n : Nat} {us : List Nat} (h : Cn n us) : us.length + (frOf n us).length = n := by
  rw [← List.length_append]
  refine cnt_len fun j => ?_
  rw [List.count_append, fr_count]
  have q := h j
  by_cases hj : j ∈ us
  · have := List.count_pos_iff.2 hj
    rw [if_neg (fun e => e.2 hj)]
    by_cases h2 : j < n
    · rw [if_pos h2] at q ⊢; omega
    · rw [if_neg h2] at q ⊢; omega
  · rw [List.count_eq_zero.2 hj]
    by_cases h2 : j < n
    · rw [if_pos ⟨h2, hj⟩, if_pos h2]
    · rw [if_neg (fun e => h2 e.1), if_neg h2]
theorem fr_nodup (n : Nat) (us : List Nat) : (frOf n us).Nodup := List.Pairwise.filter _ List.nodup_range
theorem fr_ne {n : Nat} {us : List Nat} (h : Cn n us) (hl : us.length < n) : frOf n us ≠ [] := fun e => by
  have := fr_len h
  rw [e] at this
  simp at this
  omega
theorem pick_mem (g : Nat → Int × Int) {n : Nat} {us : List Nat} (h : Cn n us) (hl : us.length < n) : pick g n us ∈ frOf n us ∧ (pk g (frOf n us) (-1) 0 0).1 = (pick g n us : Int) := by
  obtain ⟨x, hx, e⟩ := pk_some g (fr_ne h hl)
  unfold pick
  rw [e, Int.toNat_natCast]
  exact ⟨hx, rfl⟩
theorem Cn.snoc {n : Nat} {us : List Nat} (h : Cn n us) {x : Nat} (hx : x ∈ frOf n us) : Cn n (us ++ [x]) := fun j => by
  have := h j
  obtain ⟨h1, h2⟩ := mem_fr.1 hx
  rw [List.count_append]
  by_cases e : x = j
  · subst e
    rw [List.count_eq_zero.2 h2, if_pos h1]; simp
  · have : List.count j [x] = 0 := List.count_eq_zero.2 (by simpa using fun e2 => e e2.symm)
    omega
theorem Cn.full {n : Nat} {us : List Nat} (h : Cn n us) (hl : us.length = n) (j : Nat) : us.count j = if j < n then 1 else 0 := by
  have h0 := fr_len h
  have e : frOf n us = [] := List.eq_nil_of_length_eq_zero (by omega)
  have h1 := fr_count n us j
  rw [e, List.count_nil] at h1
  have := h j
  by_cases hj : j < n
  · rw [if_pos hj] at this ⊢
    by_cases hm : j ∈ us
    · have := List.count_pos_iff.2 hm; omega
    · rw [if_pos ⟨hj, hm⟩] at h1; omega
  · rw [if_neg hj] at this ⊢; omega
theorem fr_snoc (n : Nat) (us : List Nat) (x : Nat) : frOf n (us ++ [x]) = (frOf n us).filter fun y => y != x := by
  unfold frOf
  rw [List.filter_filter]
  refine List.filter_congr fun y _ => ?_
  by_cases e : y = x
  · subst e; simp
  · by_cases h : y ∈ us
    · simp [h]
    · simp [h, e]
theorem erase_ne {l : List Nat} (h : l.Nodup) : ∀ (k : Nat) (x : Nat), l[k]? = some x → l.eraseIdx k = l.filter fun y => y != x := by
  induction l with
  | nil => intro k x hx; simp at hx
  | cons y l ih =>
    intro k x hx
    obtain ⟨h1, h2⟩ := List.nodup_cons.1 h
    cases k with
    | zero =>
      have e : y = x := by simpa using hx
      subst e
      simp only [List.eraseIdx_zero, List.tail_cons]
      rw [List.filter_cons_of_neg (by simp), List.filter_eq_self.2 fun z hz => by
        have : z ≠ y := fun e => h1 (e ▸ hz)
        simpa using this]
    | succ k =>
      have hx' : l[k]? = some x := by simpa using hx
      have : y ≠ x := fun e => h1 (e ▸ List.mem_of_getElem? hx')
      rw [List.eraseIdx_cons_succ, ih h2 k x hx', List.filter_cons_of_pos (by simpa using this)]
theorem plT_inv (c : Nat → Nat → Int) (n : Nat) (us : List Nat) : ∀ (k : Nat) (tb : List Nat), Cn n (us ++ tb) → (us ++ tb).length + k ≤ n → Cn n (us ++ plT c n us k tb) ∧ (plT c n us k tb).length = tb.length + k
  | 0, tb, h, _ => ⟨h, rfl⟩
  | k + 1, tb, h, hl => by
    have hp := (pick_mem (fun x => scr (c x) tb 0 0) h (by omega)).1
    have h2 := h.snoc hp
    rw [List.append_assoc] at h2
    have ih := plT_inv c n us k (tb ++ [pick (fun x => scr (c x) tb 0 0) n (us ++ tb)]) h2 (by simp at hl ⊢; omega)
    unfold plT
    refine ⟨ih.1, ?_⟩
    rw [ih.2]; simp; omega
theorem plE_inv (c : Nat → Nat → Int) (n : Nat) : ∀ (sz : List Nat) (ev : List (List Nat)), Cn n ev.flatten → ev.flatten.length + sz.sum ≤ n → Cn n (plE c n sz ev).flatten ∧ (plE c n sz ev).map List.length = ev.map List.length ++ sz
  | [], ev, h, _ => ⟨h, by simp [plE]⟩
  | k :: r, ev, h, hl => by
    rw [List.sum_cons] at hl
    obtain ⟨a, b⟩ := plT_inv c n ev.flatten k [] (by simpa using h) (by simp at hl ⊢; omega)
    have e : (ev ++ [plT c n ev.flatten k []]).flatten = ev.flatten ++ plT c n ev.flatten k [] := by simp
    have ih := plE_inv c n r (ev ++ [plT c n ev.flatten k []]) (by rw [e]; exact a) (by rw [e, List.length_append, b]; simp at hl ⊢; omega)
    unfold plE
    refine ⟨ih.1, ?_⟩
    rw [ih.2]
    simp [b]
theorem plE_evn (c : Nat → Nat → Int) {n : Nat} {sz : List Nat} (hs : sz.sum = n) (hp : ∀ k ∈ sz, 1 ≤ k) : Evn n sz (plE c n sz []) := by
  obtain ⟨a, b⟩ := plE_inv c n sz [] (fun j => by simp) (by simp; omega)
  have b : (plE c n sz []).map List.length = sz := by simpa using b
  refine ⟨b, fun t ht => ?_, fun j => a.full (by rw [List.length_flatten, b, hs]) j⟩
  have := hp t.length (by rw [← b]; exact List.mem_map.2 ⟨t, ht, rfl⟩)
  omega
theorem plS_inv {n : Nat} {sz : List Nat} (hs : sz.sum = n) (hp : ∀ k ∈ sz, 1 ≤ k) : ∀ (e : Nat) (s : List (List (List Nat))), (∀ ev ∈ s, Evn n sz ev) → (∀ ev ∈ plS n sz e s, Evn n sz ev) ∧ (plS n sz e s).length = s.length + e
  | 0, s, h => ⟨h, rfl⟩
  | e + 1, s, h => by
    have ih := plS_inv hs hp e (s ++ [plE (metI s) n sz []]) fun ev he => by
      rcases List.mem_append.1 he with he | he
      · exact h ev he
      · rw [List.mem_singleton.1 he]; exact plE_evn _ hs hp
    unfold plS
    refine ⟨ih.1, ?_⟩
    rw [ih.2]; simp; omega
theorem Evn.v {n : Nat} {sz : List Nat} {ev : List (List Nat)} (h : Evn n sz ev) : EvV n ev := by
  have := h.sz_
  subst this
  exact h
theorem spanP_1 (n : Nat) (hn : n ≤ 64) : ∀ (k i f : Nat) (c : List Nat), i + k = n → k < f → c = List.range i → evening_span_1 0 n f (toI1 c) i = some (toI1 (List.range n))
  | 0, i, f + 1, c, h, _, hc => by
    unfold evening_span_1
    have e : i = n := by omega
    subst e
    rw [if_neg (by simp), hc]
  | k + 1, i, f + 1, c, h, hf, hc => by
    have ih := spanP_1 n hn k (i + 1) f (c ++ [i]) (by omega) (by omega) (by rw [hc, List.range_succ])
    unfold evening_span_1
    have hl : c.length = i := by rw [hc]; simp
    have e0 : wr .i64 (0 + (i : Int)) = (i : Int) := by rw [wr_i (by omega) (by omega)]; omega
    rw [if_pos (by simp; omega), if_pos (capOk_le (by omega) (by rw [toI1_len]; omega)), wr_nat (by omega), e0]
    have e1 : toI1 c ++ [(i : Int)] = toI1 (c ++ [i]) := by simp [toI1]
    rw [e1]
    exact ih
theorem spanP {n : Nat} (hn : n ≤ 64) : evening_span 0 n = some (toI1 (List.range n)) := by
  unfold evening_span
  have := spanP_1 n hn n 0 100000 [] (by omega) (by omega) rfl
  rw [show toI1 ([] : List Nat) = [] from rfl, show ((0 : Nat) : Int) = 0 from rfl] at this
  rw [this]
  rfl
theorem ch_k1 {n x y : Nat} (hn : n ≤ 64) (L : List Nat) (hx : x < n) (hy : y < n) (a : Int) (b : List Int) : evening_choose_k1 a b n (cel n L) x y = some (((L.count (x * n + y) : Nat) : Int), (n : Int), cel n L) := by
  unfold evening_choose_k1
  rw [cel_wr hn hx hy, cel_idx L hx hy]
  rfl
theorem ch_2 {n : Nat} (hn : n ≤ 64) (L : List Nat) (tb : List Nat) (x2 : List Int) (c3 c4 c5 c6 : Int) (x : Nat) (hx : x < n) (c : Nat → Int) (hc : ∀ y ∈ tb, y < n ∧ ((L.count (x * n + y) : Nat) : Int) = c y ∧ 0 ≤ c y ∧ c y ≤ 5000) (hl : tb.length ≤ 64) : ∀ (r pre : List Nat) (f : Nat) (a s : Int), tb = pre ++ r → r.length < f → 0 ≤ s → s ≤ 5000 * pre.length →
    evening_choose_2 (toI1 tb) x2 n (cel n L) c3 c4 c5 c6 x f a s pre.length = some (scr c r a s)
  | [], pre, f + 1, a, s, h, _, _, _ => by
    unfold evening_choose_2
    rw [if_neg (by rw [toI1_len, h]; simp)]
    rfl
  | y :: r, pre, f + 1, a, s, h, hf, h0, h1 => by
    obtain ⟨k1, k2, k3, k4⟩ := hc y (by rw [h]; simp)
    have hp : pre.length < tb.length := by rw [h]; simp
    have ih := ch_2 hn L tb x2 c3 c4 c5 c6 x hx c hc hl r (pre ++ [y]) f (mxI a (c y)) (s + c y) (by rw [h]; simp) (by simp at hf; omega) (by omega) (by simp; omega)
    unfold evening_choose_2
    rw [if_pos (by rw [toI1_len, h]; simp; omega), show idx (toI1 tb) (pre.length : Int) = some (y : Int) by rw [h]; exact idx_toI1 pre y r]
    simp only [Option.bind_some]
    rw [ch_k1 hn L hx k1]
    simp only [Option.bind_some]
    have a3 : ((pre.length + 1 : Nat) : Int) = ((pre ++ [y]).length : Int) := by simp
    rw [k2, wr_i (n := s + c y) (by omega) (by omega), wr_nat (by omega), a3, ih]
    rfl
/-- An index and the guest there. -/
def RelB (fr : List Nat) (b gb : Int) : Prop := (b = -1 ∧ gb = -1) ∨ ∃ j x : Nat, b = (j : Int) ∧ gb = (x : Int) ∧ fr[j]? = some x
theorem RelB.neg {fr : List Nat} {b gb : Int} (h : RelB fr b gb) : decide (b < 0) = decide (gb < 0) := by
  rcases h with ⟨rfl, rfl⟩ | ⟨j, x, rfl, rfl, _⟩
  · rfl
  · rw [decide_eq_decide]; omega
theorem bet_same {α β : Type} (u : α) (v : β) (b a m s t : Int) : (if (decide (b < 0)) = true then some (u, v, true) else if (decide (a < m)) = true then some (u, v, true) else if (a == m) = true then some (u, v, decide (s < t)) else some (u, v, false)) = some (u, v, bet b a m s t) := by
  unfold bet
  cases decide (b < 0) <;> cases decide (a < m) <;> cases (a == m) <;> rfl
theorem ch_1 {n : Nat} (hn : n ≤ 64) (L : List Nat) (tb fr : List Nat) (c : Nat → Nat → Int) (hc : ∀ x ∈ fr, x < n ∧ ∀ y ∈ tb, y < n ∧ ((L.count (x * n + y) : Nat) : Int) = c x y ∧ 0 ≤ c x y ∧ c x y ≤ 5000) (hl : tb.length ≤ 64) (hfl : fr.length ≤ 64) : ∀ (r pre : List Nat) (f : Nat) (b gb m t : Int), fr = pre ++ r → r.length < f → RelB fr b gb →
    ∃ k, evening_choose_1 (toI1 tb) (toI1 fr) f n (cel n L) b m t pre.length = some k ∧ RelB fr k (pk (fun x => scr (c x) tb 0 0) r gb m t).1
  | [], pre, f + 1, b, gb, m, t, h, _, hb => by
    refine ⟨b, ?_, hb⟩
    unfold evening_choose_1
    rw [if_neg (by rw [toI1_len, h]; simp)]
  | x :: r, pre, f + 1, b, gb, m, t, h, hf, hb => by
    obtain ⟨k1, k2⟩ := hc x (by rw [h]; simp)
    have hp : pre.length < fr.length := by rw [h]; simp
    have h2 := ch_2 hn L tb (toI1 fr) b m t pre.length x k1 (c x) k2 hl tb [] 100000 0 0 rfl (by omega) (by omega) (by simp)
    rw [show ((([] : List Nat).length : Nat) : Int) = 0 from rfl] at h2
    have a3 : ((pre.length + 1 : Nat) : Int) = ((pre ++ [x]).length : Int) := by simp
    have hbe : bet b (scr (c x) tb 0 0).1 m (scr (c x) tb 0 0).2 t = bet gb (scr (c x) tb 0 0).1 m (scr (c x) tb 0 0).2 t := by
      unfold bet; rw [hb.neg]
    have st : ∀ k b' m' t', evening_choose_1 (toI1 tb) (toI1 fr) f n (cel n L) b' m' t' ((pre ++ [x]).length : Int) = some k → (if bet b (scr (c x) tb 0 0).1 m (scr (c x) tb 0 0).2 t = true then some ((pre.length : Int), (scr (c x) tb 0 0).1, (scr (c x) tb 0 0).2) else some (b, m, t)) = some (b', m', t') → evening_choose_1 (toI1 tb) (toI1 fr) (f + 1) n (cel n L) b m t pre.length = some k := fun k b' m' t' hk hj => by
      unfold evening_choose_1
      rw [if_pos (by rw [toI1_len, h]; simp; omega), show idx (toI1 fr) (pre.length : Int) = some (x : Int) by rw [h]; exact idx_toI1 pre x r]
      simp only [Option.bind_some]
      rw [h2]
      simp only [Option.bind_some]
      rw [bet_same]
      simp only [Option.bind_some]
      unfold evening_choose_j3
      rw [hj]
      simp only [Option.bind_some]
      rw [wr_nat (by omega), a3]
      exact hk
    by_cases e : bet gb (scr (c x) tb 0 0).1 m (scr (c x) tb 0 0).2 t = true
    · obtain ⟨k, e1, e2⟩ := ch_1 hn L tb fr c hc hl hfl r (pre ++ [x]) f pre.length x (scr (c x) tb 0 0).1 (scr (c x) tb 0 0).2 (by rw [h]; simp) (by simp at hf; omega) (.inr ⟨pre.length, x, rfl, rfl, by rw [h]; simp⟩)
      refine ⟨k, st k _ _ _ e1 (by rw [hbe, if_pos e]), ?_⟩
      unfold pk
      rw [if_pos e]
      exact e2
    · obtain ⟨k, e1, e2⟩ := ch_1 hn L tb fr c hc hl hfl r (pre ++ [x]) f b gb m t (by rw [h]; simp) (by simp at hf; omega) hb
      refine ⟨k, st k _ _ _ e1 (by rw [hbe, if_neg e]), ?_⟩
      unfold pk
      rw [if_neg e]
      exact e2
/-- What is known of the square when a table is laid. -/
structure CelOk (n : Nat) (L : List Nat) (c : Nat → Nat → Int) : Prop where
  n64 : n ≤ 64
  cnt : ∀ x y, x < n → y < n → x ≠ y → ((L.count (x * n + y) : Nat) : Int) = c x y ∧ 0 ≤ c x y ∧ c x y ≤ 5000
theorem choose_eq {n : Nat} {L : List Nat} {c : Nat → Nat → Int} (h : CelOk n L c) {us tb : List Nat} (hcn : Cn n (us ++ tb)) (hlt : (us ++ tb).length < n) : ∃ k : Nat, evening_choose ((n : Int), cel n L) (toI1 tb) (toI1 (frOf n (us ++ tb))) = some (k : Int) ∧ (frOf n (us ++ tb))[k]? = some (pick (fun x => scr (c x) tb 0 0) n (us ++ tb)) := by
  have hn := h.n64
  have hfl := fr_len hcn
  have htl : tb.length ≤ 64 := by rw [List.length_append] at hlt; omega
  have hc : ∀ x ∈ frOf n (us ++ tb), x < n ∧ ∀ y ∈ tb, y < n ∧ ((L.count (x * n + y) : Nat) : Int) = c x y ∧ 0 ≤ c x y ∧ c x y ≤ 5000 := fun x hx => by
    obtain ⟨h1, h2⟩ := mem_fr.1 hx
    refine ⟨h1, fun y hy => ?_⟩
    have hy2 : y ∈ us ++ tb := by simp [hy]
    have hyn : y < n := by
      have := hcn y
      have := List.count_pos_iff.2 hy2
      split at * <;> omega
    exact ⟨hyn, h.cnt x y h1 hyn fun e => h2 (e ▸ hy2)⟩
  obtain ⟨k, e1, e2⟩ := ch_1 hn L tb (frOf n (us ++ tb)) c hc htl (by omega) (frOf n (us ++ tb)) [] 100000 (-1) (-1) 0 0 rfl (by omega) (.inl ⟨rfl, rfl⟩)
  rw [show ((([] : List Nat).length : Nat) : Int) = 0 from rfl] at e1
  obtain ⟨_, q2⟩ := pick_mem (fun x => scr (c x) tb 0 0) hcn hlt
  rw [q2] at e2
  rcases e2 with ⟨_, e⟩ | ⟨j, x, rfl, e, hj⟩
  · omega
  · refine ⟨j, ?_, ?_⟩
    · unfold evening_choose
      simp only
      rw [e1]
      rfl
    · have : pick (fun x => scr (c x) tb 0 0) n (us ++ tb) = x := by omega
      rw [this]; exact hj
theorem eraseIdx_toI : ∀ (l : List Nat) (k : Nat), (toI1 l).eraseIdx k = toI1 (l.eraseIdx k)
  | [], _ => rfl
  | x :: l, 0 => rfl
  | x :: l, k + 1 => by
    have := eraseIdx_toI l k
    show Int.ofNat x :: (toI1 l).eraseIdx k = Int.ofNat x :: toI1 (l.eraseIdx k)
    rw [this]
theorem pl_3 {n : Nat} {L : List Nat} {c : Nat → Nat → Int} (h : CelOk n L c) (x0 : Int) (x1 : List Int) (x2 : Int) (v6 : Int × Int × List Int) (hv : v6.1 = (n : Int)) (s3 : List (List (List Int))) (c99 : Int) (ev : List (List Int)) (c147 : Int) (K : Nat) (hK : K ≤ 64) (us : List Nat) : ∀ (k i f : Nat) (tb : List Nat), i + k = K → k < f → Cn n (us ++ tb) → (us ++ tb).length + k ≤ n →
    evening_Plan_3 x0 x1 x2 v6 (cel n L) s3 c99 ev c147 K f (toI1 (frOf n (us ++ tb))) (toI1 tb) i = some (toI1 (frOf n (us ++ plT c n us k tb)), toI1 (plT c n us k tb))
  | 0, i, f + 1, tb, hi, _, _, _ => by
    unfold evening_Plan_3
    rw [if_neg (by simp; omega)]
    rfl
  | k + 1, i, f + 1, tb, hi, hf, hcn, hl => by
    have hn := h.n64
    obtain ⟨j, e1, e2⟩ := choose_eq h hcn (by omega)
    have hm := (pick_mem (fun x => scr (c x) tb 0 0) hcn (by omega)).1
    have hcn2 := hcn.snoc hm
    have hjl := (List.getElem?_eq_some_iff.1 e2).1
    have hfl := fr_len hcn
    rw [List.append_assoc] at hcn2
    have ih := pl_3 h x0 x1 x2 v6 hv s3 c99 ev c147 K hK us k (i + 1) f (tb ++ [pick (fun x => scr (c x) tb 0 0) n (us ++ tb)]) (by omega) (by omega) hcn2 (by simp at hl ⊢; omega)
    have hdel : del1 (toI1 (frOf n (us ++ tb))) (j : Int) ((j + 1 : Nat) : Int) = some (toI1 (frOf n (us ++ (tb ++ [pick (fun x => scr (c x) tb 0 0) n (us ++ tb)])))) := by
      unfold del1
      rw [if_pos ⟨by omega, by omega, by rw [toI1_len]; omega⟩, Int.toNat_natCast, eraseIdx_toI, ← List.append_assoc us, fr_snoc, erase_ne (fr_nodup n _) j _ e2]
    have hidx : idx (toI1 (frOf n (us ++ tb))) (j : Int) = some ((pick (fun x => scr (c x) tb 0 0) n (us ++ tb) : Nat) : Int) := by
      rw [idx_lt (by rw [toI1_len]; exact hjl)]
      have : (frOf n (us ++ tb))[j] = pick (fun x => scr (c x) tb 0 0) n (us ++ tb) := by
        rw [List.getElem?_eq_getElem hjl] at e2
        exact Option.some.inj e2
      simp only [toI1, List.getElem_map, this]
      rfl
    unfold evening_Plan_3
    rw [if_pos (by simp; omega), hv, e1]
    simp only [Option.bind_some]
    rw [hidx]
    simp only [Option.bind_some]
    rw [if_pos (capOk_le (by omega) (by rw [toI1_len]; simp at hl; omega)), wr_nat (k := j) (by omega), hdel]
    simp only [Option.bind_some]
    have e3 : toI1 tb ++ [((pick (fun x => scr (c x) tb 0 0) n (us ++ tb) : Nat) : Int)] = toI1 (tb ++ [pick (fun x => scr (c x) tb 0 0) n (us ++ tb)]) := by simp [toI1]
    rw [e3, wr_nat (k := i) (by omega), ih]
    rfl
theorem pl_2 {n : Nat} {L : List Nat} {c : Nat → Nat → Int} (h : CelOk n L c) (x0 : Int) (sz : List Nat) (hsz : sz.length ≤ 64) (x2 : Int) (v6 : Int × Int × List Int) (hv : v6.1 = (n : Int)) (s3 : List (List (List Int))) (c99 : Int) : ∀ (r pre : List Nat) (f : Nat) (ev : List (List Nat)), sz = pre ++ r → r.length < f → ev.length = pre.length → Cn n ev.flatten → ev.flatten.length + r.sum ≤ n →
    evening_Plan_2 x0 (toI1 sz) x2 v6 (cel n L) s3 c99 f (toI1 (frOf n ev.flatten)) (toI2 ev) pre.length = some (toI2 (plE c n r ev))
  | [], pre, f + 1, ev, hs, _, _, _, _ => by
    unfold evening_Plan_2
    rw [if_neg (by rw [toI1_len, hs]; simp)]
    rfl
  | k :: r, pre, f + 1, ev, hs, hf, he, hcn, hl => by
    have hn := h.n64
    rw [List.sum_cons] at hl
    have hp : pre.length < sz.length := by rw [hs]; simp
    have h3 := pl_3 h x0 (toI1 sz) x2 v6 hv s3 c99 (toI2 ev) pre.length k (by omega) ev.flatten k 0 100000 [] (by omega) (by omega) (by rw [List.append_nil]; exact hcn) (by rw [List.append_nil]; omega)
    rw [List.append_nil, show toI1 ([] : List Nat) = [] from rfl, show ((0 : Nat) : Int) = 0 from rfl] at h3
    obtain ⟨a, b⟩ := plT_inv c n ev.flatten k [] (by rw [List.append_nil]; exact hcn) (by rw [List.append_nil]; omega)
    have e : (ev ++ [plT c n ev.flatten k []]).flatten = ev.flatten ++ plT c n ev.flatten k [] := by simp
    have ih := pl_2 h x0 sz hsz x2 v6 hv s3 c99 r (pre ++ [k]) f (ev ++ [plT c n ev.flatten k []]) (by rw [hs]; simp) (by simp at hf; omega) (by simp [he]) (by rw [e]; exact a) (by rw [e, List.length_append, b, List.length_nil]; omega)
    have a3 : ((pre.length + 1 : Nat) : Int) = ((pre ++ [k]).length : Int) := by simp
    have e2 : toI2 ev ++ [toI1 (plT c n ev.flatten k [])] = toI2 (ev ++ [plT c n ev.flatten k []]) := by simp [toI2]
    unfold evening_Plan_2
    rw [if_pos (by rw [toI1_len, hs]; simp; omega), show idx (toI1 sz) (pre.length : Int) = some (k : Int) by rw [hs]; exact idx_toI1 pre k r]
    simp only [Option.bind_some]
    rw [h3]
    simp only [Option.bind_some]
    rw [if_pos (capOk_le (by omega) (by rw [toI2_len]; omega)), e2, wr_nat (by omega), a3, ← e, ih]
    rfl
/- Meetings of an evening are counted. -/
theorem pk_y {n x y : Nat} {y2 : List (List (List Int))} {y3 : List (List Int)} {y4 : Int} {y5 : List Int} {y6 : List (List Int)} {y7 y8 : Int} (L : List Nat) (hn : n ≤ 64) (hL : L.length ≤ 10000000) (hx : x < n) (hy : y < n) : evening_Plan_k3_y n (cel n L) y2 y3 y4 y5 y6 y7 y8 x y = some (cel n (L ++ [x * n + y])) := by
  unfold evening_Plan_k3_y evening_Plan_k3_y_k1
  rw [cel_wr hn hx hy, cel_idx L hx hy]
  simp only [Option.bind_some]
  rw [cel_set L hL hx hy]
section
variable (y2 : List (List (List Int))) (y3 : List (List Int)) (y4 : Int) (y5 : List Int) (y6 : List (List Int)) (y7 y8 c1 : Int)
theorem pk_3 (n : Nat) (hn : n ≤ 64) (t : List Nat) (ht : ∀ x ∈ t, x < n) (htl : t.length ≤ 2000) (i x : Nat) (hx : x < n) : ∀ (r pre : List Nat) (f : Nat) (L : List Nat), t = pre ++ r → r.length < f → L.length + r.length ≤ 10000000 →
    evening_Plan_k3_3 n y2 y3 y4 y5 y6 y7 y8 c1 (toI1 t) i x f pre.length (cel n L) = some (cel n (L ++ inner n x i pre.length r))
  | [], pre, f + 1, L, h, _, _ => by
    unfold evening_Plan_k3_3
    rw [if_neg (by rw [toI1_len, h]; simp)]
    simp [inner]
  | y :: r, pre, f + 1, L, h, hf, hL => by
    have hy : y < n := ht y (by rw [h]; simp)
    simp only [List.length_cons] at hf hL
    have hwr : wr .i64 ((pre.length : Int) + 1) = ((pre ++ [y]).length : Int) := by
      have : pre.length ≤ t.length := by rw [h]; simp
      rw [wr_nat (by omega)]; simp
    have rec_ := fun L' hL' => pk_3 n hn t ht htl i x hx r (pre ++ [y]) f L' (by rw [h]; simp) (by omega) hL'
    unfold evening_Plan_k3_3
    rw [if_pos (by rw [toI1_len, h]; simp; omega), show idx (toI1 t) (pre.length : Int) = some (y : Int) by rw [h]; exact idx_toI1 pre y r]
    simp only [Option.bind_some, inner]
    by_cases e : i = pre.length
    · rw [if_neg (by simp [e]), if_pos e, hwr, rec_ L (by omega)]
      simp
    · rw [if_pos (by simp; omega), if_neg e, pk_y L hn (by omega) hx hy]
      simp only [Option.bind_some]
      rw [hwr, rec_ _ (by simp; omega)]
      simp
theorem pk_2 (n : Nat) (hn : n ≤ 64) (t : List Nat) (ht : ∀ x ∈ t, x < n) (htl : t.length ≤ 2000) : ∀ (r pre : List Nat) (f : Nat) (L : List Nat), t = pre ++ r → r.length < f → L.length + t.length * r.length ≤ 10000000 →
    evening_Plan_k3_2 n y2 y3 y4 y5 y6 y7 y8 c1 (toI1 t) f pre.length (cel n L) = some (cel n (L ++ meetG n t pre.length r))
  | [], pre, f + 1, L, h, _, _ => by
    unfold evening_Plan_k3_2
    rw [if_neg (by rw [toI1_len, h]; simp)]
    simp [meetG]
  | x :: r, pre, f + 1, L, h, hf, hL => by
    have hx : x < n := ht x (by rw [h]; simp)
    simp only [List.length_cons, Nat.mul_succ] at hf hL
    have hwr : wr .i64 ((pre.length : Int) + 1) = ((pre ++ [x]).length : Int) := by
      have : pre.length ≤ t.length := by rw [h]; simp
      rw [wr_nat (by omega)]; simp
    have h3 := pk_3 y2 y3 y4 y5 y6 y7 y8 c1 n hn t ht htl pre.length x hx t [] 100000 L rfl (by omega) (by omega)
    rw [show ((([] : List Nat).length : Nat) : Int) = 0 from rfl, show ([] : List Nat).length = 0 from rfl] at h3
    have hin := inner_len n x pre.length t 0
    have ih := pk_2 n hn t ht htl r (pre ++ [x]) f (L ++ inner n x pre.length 0 t) (by rw [h]; simp) (by omega) (by rw [List.length_append]; omega)
    unfold evening_Plan_k3_2
    rw [if_pos (by rw [toI1_len, h]; simp; omega), show idx (toI1 t) (pre.length : Int) = some (x : Int) by rw [h]; exact idx_toI1 pre x r]
    simp only [Option.bind_some]
    rw [h3]
    simp only [Option.bind_some]
    rw [hwr, ih]
    simp [meetG]
end
theorem pk_1 (y2 : List (List (List Int))) (y4 : Int) (y5 : List Int) (y6 : List (List Int)) (y7 y8 : Int) (n : Nat) (hn : n ≤ 64) (ev : List (List Nat)) (hev : ∀ t ∈ ev, ∀ x ∈ t, x < n) (hel : ∀ t ∈ ev, t.length ≤ 2000) (hev2 : ev.length ≤ 90000) : ∀ (r pre : List (List Nat)) (f : Nat) (L : List Nat), ev = pre ++ r → r.length < f → L.length + sqs r ≤ 10000000 →
    evening_Plan_k3_1 n y2 (toI2 ev) y4 y5 y6 y7 y8 f pre.length (cel n L) = some (cel n (L ++ meetE n r))
  | [], pre, f + 1, L, h, _, _ => by
    unfold evening_Plan_k3_1
    rw [if_neg (by rw [toI2_len, h]; simp)]
    simp [meetE]
  | t :: r, pre, f + 1, L, h, hf, hL => by
    have htl : t.length ≤ 2000 := hel t (by rw [h]; simp)
    simp only [sqs] at hL
    have h3 := pk_2 y2 (toI2 ev) y4 y5 y6 y7 y8 pre.length n hn t (hev t (by rw [h]; simp)) (by omega) t [] 100000 L rfl (by omega) (by omega)
    rw [show ((([] : List Nat).length : Nat) : Int) = 0 from rfl, meetG_T n t t [] rfl] at h3
    have hwr : wr .i64 ((pre.length : Int) + 1) = ((pre ++ [t]).length : Int) := by
      have : pre.length ≤ ev.length := by rw [h]; simp
      rw [wr_nat (by omega)]; simp
    have hb := meetT_len n t
    have ih := pk_1 y2 y4 y5 y6 y7 y8 n hn ev hev hel hev2 r (pre ++ [t]) f (L ++ meetT n [] t) (by rw [h]; simp) (by simp at hf; omega) (by rw [List.length_append]; omega)
    unfold evening_Plan_k3_1
    rw [if_pos (by rw [toI2_len, h]; simp; omega), show idx (toI2 ev) (pre.length : Int) = some (toI1 t) by rw [h]; exact idx_toI2 pre t r]
    simp only [Option.bind_some]
    rw [h3]
    simp only [Option.bind_some]
    rw [hwr, ih]
    simp [meetE]
theorem pS_le {n x y : Nat} (hn : n ≤ 64) : ∀ (s : List (List (List Nat))), (∀ ev ∈ s, EvV n ev) → pS x y s ≤ 64 * s.length
  | [], _ => by simp [pS]
  | ev :: s, h => by
    have ih := pS_le (x := x) (y := y) hn s fun u hu => h u (by simp [hu])
    have he := h ev (by simp)
    have := pE_le x y ev fun t ht => ⟨he.le1 ht x, he.le1 ht y⟩
    have := he.elen
    simp only [pS, List.length_cons]; omega
theorem celOk_of {n : Nat} (hn : n ≤ 64) {s : List (List (List Nat))} (hs : s.length ≤ 64) (hv : ∀ ev ∈ s, EvV n ev) : CelOk n (meetS n s) (metI s) := by
  refine ⟨hn, fun x y hx hy hxy => ?_⟩
  have h1 := meetS_count n x y hy hxy s fun ev he => (hv ev he).lt
  have h2 := pS_le (x := x) (y := y) hn s hv
  unfold metI
  exact ⟨by rw [h1], by omega, by omega⟩
theorem meetS_snoc (n : Nat) : ∀ (s : List (List (List Nat))) (ev : List (List Nat)), meetS n (s ++ [ev]) = meetS n s ++ meetE n ev
  | [], ev => by simp [meetS]
  | e :: s, ev => by
    have := meetS_snoc n s ev
    simp only [List.cons_append, meetS, this, List.append_assoc]
theorem meetS_len (n : Nat) : ∀ (s : List (List (List Nat))), (meetS n s).length ≤ sqS s
  | [] => by simp [meetS]
  | ev :: s => by
    have := meetS_len n s
    have := meetE_len n ev
    simp only [meetS, sqS, List.length_append]; omega
theorem fr_nil (n : Nat) : frOf n [] = List.range n := by
  unfold frOf
  rw [List.filter_eq_self.2 (by simp)]
theorem pl_1 {n : Nat} (hn : n ≤ 64) (hn1 : 1 ≤ n) {sz : List Nat} (hsz : sz.length ≤ 64) (hsum : sz.sum = n) (hpos : ∀ k ∈ sz, 1 ≤ k) (E : Nat) (hE : E ≤ 64) (v6 : Int × Int × List Int) (hv : v6.1 = (n : Int)) : ∀ (e f : Nat) (s : List (List (List Nat))), s.length + e = E → e < f → (∀ ev ∈ s, Evn n sz ev) →
    evening_Plan_1 n (toI1 sz) E v6 f (cel n (meetS n s)) (toI3 s) s.length = some (toI3 (plS n sz e s))
  | 0, f + 1, s, h, _, _ => by
    unfold evening_Plan_1
    rw [if_neg (by simp; omega)]
    rfl
  | e + 1, f + 1, s, h, hf, hs => by
    have hvv : ∀ ev ∈ s, EvV n ev := fun ev he => (hs ev he).v
    have hck := celOk_of hn (by omega) hvv
    have hev := plE_evn (metI s) hsum hpos
    have h2 := pl_2 hck n sz hsz E v6 hv (toI3 s) s.length sz [] 100000 [] rfl (by omega) rfl (fun j => by simp) (by simp; omega)
    rw [show ((([] : List Nat).length : Nat) : Int) = 0 from rfl, show toI2 ([] : List (List Nat)) = [] from rfl, List.flatten_nil, fr_nil] at h2
    obtain ⟨_, smm⟩ := evv_small hn (by omega) hvv
    have hml := meetS_len n s
    have hall := smm.all
    have hvn := hev.v
    have hsq : sqs (plE (metI s) n sz []) ≤ 4096 := by
      have := sqs_le (plE (metI s) n sz []) fun t ht => by have := hvn.tlen ht; omega
      have := hvn.flen
      omega
    have h3 := pk_1 (toI3 s) n (toI1 sz) (toI2 (plE (metI s) n sz [])) E s.length n hn (plE (metI s) n sz []) hvn.lt (fun t ht => by have := hvn.tlen ht; omega) (by have := hvn.elen; omega) (plE (metI s) n sz []) [] 100000 (meetS n s) rfl (by have := hvn.elen; omega) (by omega)
    rw [show ((([] : List (List Nat)).length : Nat) : Int) = 0 from rfl] at h3
    have ih := pl_1 hn hn1 hsz hsum hpos E hE v6 hv e f (s ++ [plE (metI s) n sz []]) (by simp; omega) (by omega) fun ev he => by
      rcases List.mem_append.1 he with he | he
      · exact hs ev he
      · rw [List.mem_singleton.1 he]; exact hev
    have e1 : toI3 s ++ [toI2 (plE (metI s) n sz [])] = toI3 (s ++ [plE (metI s) n sz []]) := by simp [toI3]
    have a3 : ((s.length + 1 : Nat) : Int) = ((s ++ [plE (metI s) n sz []]).length : Int) := by simp
    unfold evening_Plan_1
    rw [if_pos (by simp; omega), spanP hn]
    simp only [Option.bind_some]
    rw [if_pos (by rw [toI1_len]; simp; omega), h2]
    simp only [Option.bind_some]
    unfold evening_Plan_k2 evening_Plan_k3
    rw [hv]
    simp only [Option.bind_some]
    rw [h3]
    simp only [Option.bind_some]
    rw [if_pos (capOk_le (by omega) (by rw [toI3_len]; omega)), e1, wr_nat (by omega), a3, ← meetS_snoc, ih]
    rfl
/-- Plan of sizes that fit. -/
theorem plan_eq {n : Nat} {sz : List Nat} (hf : fitP n (toI1 sz) = true) (hsz : sz.length ≤ 64) (hsum : sz.sum = n) (hpos : ∀ k ∈ sz, 1 ≤ k) (hn1 : 1 ≤ n) (hn : n ≤ 64) {E : Nat} (hE : E ≤ 64) : evening_Plan n (toI1 sz) E = some (toI3 (plS n sz E []), 0) := by
  unfold evening_Plan
  rw [evening_fit_eq n ⟨by omega, by omega⟩ (toI1 sz) (by rw [toI1_len]; omega), hf]
  simp only [Option.bind_some, Bool.not_true, Bool.false_eq_true, if_false]
  have e1 : decide ((E : Int) < 0) = false := by simp
  have e2 : decide ((E : Int) > 64) = false := by simp; omega
  rw [e1, e2]
  simp only [Bool.false_eq_true, if_false, Option.bind_some]
  obtain ⟨m1, m2⟩ := mkOk_nn hn
  unfold evening_Plan_k1
  rw [if_pos m1, m2]
  simp only [Option.bind_some]
  have := pl_1 hn hn1 hsz hsum hpos E hE ((n : Int), (n : Int), cel n []) rfl E 100000 [] (by simp) (by omega) (fun ev h => by cases h)
  rw [show toI3 ([] : List (List (List Nat))) = [] from rfl, show ((([] : List (List (List Nat))).length : Nat) : Int) = 0 from rfl, show meetS n [] = [] from rfl] at this
  rw [this]
  rfl
/- trestle/trestleref09.has -/
/- trestle/trestleref09.Together -/
/- Together. -/
/- trestle/trestleref09.before -/
/- trestle/trestleref09.Plan -/
section
variable {n : Nat} (hn : n ≤ 64) {s : List (List (List Nat))} (hs : s.length ≤ 64) (hv : ∀ ev ∈ s, EvV n ev)
include hn hs hv
end
/- trestle/trestlelaw09.Few -/
/- trestle/trestlelaw09.Copy -/
def law09_Copy_2 (x0 : (List (List (List Int)))) (c1 : (List (List (List Int)))) (c2 : Int) (v4 : (List (List Int))) : Nat → (List (List Int)) → Int → Option (((List (List Int))))
  | 0, _, _ => none
  | f + 1, c5, c6 =>
    if (decide (c6 < (v4.length : Int))) = true then
    (idx v4 c6).bind fun v8 =>
    if (capOk 8 v8.length) = true then
    if (capOk 8 (v8.length + 1)) = true then
    if (cutOk 0 (v8.length : Int) (v8 ++ [(-9)]).length) = true then
    if (capOk 24 (c5.length + 1)) = true then
    law09_Copy_2 x0 c1 c2 v4 f (c5 ++ [((v8 ++ [(-9)]).take ((v8.length : Int).toNat))]) (wr .i64 (c6 + 1))
    else none
    else none
    else none
    else none
    else
    some c5
def law09_Copy_1 (x0 : (List (List (List Int)))) : Nat → (List (List (List Int))) → Int → Option (((List (List (List Int)))))
  | 0, _, _ => none
  | f + 1, c1, c2 =>
    if (decide (c2 < (x0.length : Int))) = true then
    (idx x0 c2).bind fun v4 =>
    (law09_Copy_2 x0 c1 c2 v4 100000 [] 0).bind fun r17 =>
    if (capOk 24 (c1.length + 1)) = true then
    law09_Copy_1 x0 f (c1 ++ [r17]) (wr .i64 (c2 + 1))
    else none
    else
    some c1
def law09_Copy (x0 : (List (List (List Int)))) : Option ((List (List (List Int)))) :=
  (law09_Copy_1 x0 100000 [] 0).bind fun r20 =>
  some r20
theorem copy_2 (s c1 : List (List (List Int))) (c2 : Int) (ev : List (List Int)) (he : ev.length ≤ 50000) (hs : ∀ t ∈ ev, t.length ≤ 50000) : ∀ (r pre : List (List Int)) (f : Nat), ev = pre ++ r → r.length < f → law09_Copy_2 s c1 c2 ev f pre pre.length = some ev
  | [], pre, f + 1, h, _ => by
    subst h
    unfold law09_Copy_2
    rw [nlt_len]
    simp
  | t :: r, pre, f + 1, h, hf => by
    have ht := hs t (by rw [h]; simp)
    have ih := copy_2 s c1 c2 ev he hs r (pre ++ [t]) f (by rw [h]; simp) (by simp at hf; omega)
    subst h
    have hcut : cutOk 0 (t.length : Int) (t ++ [(-9 : Int)]).length = true := by
      simp only [cutOk, Bool.and_eq_true, decide_eq_true_eq, List.length_append, List.length_singleton]; omega
    simp only [List.length_append, List.length_cons] at he
    unfold law09_Copy_2
    rw [if_pos (lt_len pre t r), idx_app]
    simp only [Option.bind_some]
    rw [if_pos (capOk_le (by omega) (by omega)), if_pos (capOk_le (by omega) (by omega)), if_pos hcut, if_pos (capOk_le (by omega) (by omega)), wr_snoc pre t r (by simp; omega)]
    rw [show (t ++ [(-9 : Int)]).take ((t.length : Int)).toNat = t by simp]
    exact ih
theorem copy_1 (s : List (List (List Int))) (he : s.length ≤ 50000) (hs : ∀ ev ∈ s, ev.length ≤ 50000 ∧ ∀ t ∈ ev, t.length ≤ 50000) : ∀ (r pre : List (List (List Int))) (f : Nat), s = pre ++ r → r.length < f → law09_Copy_1 s f pre pre.length = some s
  | [], pre, f + 1, h, _ => by
    subst h
    unfold law09_Copy_1
    rw [nlt_len]
    simp
  | ev :: r, pre, f + 1, h, hf => by
    obtain ⟨h1, h2⟩ := hs ev (by rw [h]; simp)
    have ih := copy_1 s he hs r (pre ++ [ev]) f (by rw [h]; simp) (by simp at hf; omega)
    have h3 := copy_2 s pre pre.length ev h1 h2 ev [] 100000 rfl (by omega)
    rw [show ((([] : List (List Int)).length : Nat) : Int) = 0 from rfl] at h3
    subst h
    simp only [List.length_append, List.length_cons] at he
    unfold law09_Copy_1
    rw [if_pos (lt_len pre ev r), idx_app]
    simp only [Option.bind_some]
    rw [h3]
    simp only [Option.bind_some]
    rw [if_pos (capOk_le (by omega) (by omega)), wr_snoc pre ev r (by simp; omega)]
    exact ih
theorem copy_eq (s : List (List (List Int))) (he : s.length ≤ 50000) (hs : ∀ ev ∈ s, ev.length ≤ 50000 ∧ ∀ t ∈ ev, t.length ≤ 50000) : law09_Copy s = some s := by
  unfold law09_Copy
  have := copy_1 s he hs s [] 100000 rfl (by omega)
  rw [show ((([] : List (List (List Int))).length : Nat) : Int) = 0 from rfl] at this
  rw [this]; rfl
theorem sameInts_1 (xs : List Int) (hxs : xs.length ≤ 50000) : ∀ (r pre : List Int) (f : Nat), xs = pre ++ r → r.length < f → kit_SameInts_1 xs xs f pre.length = some (.inl ())
  | [], pre, f + 1, h, _ => by
    subst h
    unfold kit_SameInts_1
    rw [nlt_len]
    rfl
  | v :: r, pre, f + 1, h, hf => by
    have ih := sameInts_1 xs hxs r (pre ++ [v]) f (by rw [h]; simp) (by simp at hf; omega)
    subst h
    unfold kit_SameInts_1
    rw [if_pos (lt_len pre v r), idx_app]
    simp only [Option.bind_some]
    rw [wr_snoc pre v r (by omega)]
    simp only [bne_self_eq_false, Bool.false_eq_true, if_false]
    exact ih
theorem sameInts_self (xs : List Int) (hxs : xs.length ≤ 50000) : kit_SameInts xs xs = some true := by
  unfold kit_SameInts
  have := sameInts_1 xs hxs xs [] 100000 rfl (by omega)
  rw [show ((([] : List Int).length : Nat) : Int) = 0 from rfl] at this
  simp only [bne_self_eq_false, Bool.false_eq_true, if_false]
  rw [this]; rfl
theorem sameLists_1 (xs : List (List Int)) (hxs : xs.length ≤ 50000) (hs : ∀ t ∈ xs, t.length ≤ 50000) : ∀ (r pre : List (List Int)) (f : Nat), xs = pre ++ r → r.length < f → kit_SameLists_1 xs xs f pre.length = some (.inl ())
  | [], pre, f + 1, h, _ => by
    subst h
    unfold kit_SameLists_1
    rw [nlt_len]
    rfl
  | v :: r, pre, f + 1, h, hf => by
    have hv := hs v (by rw [h]; simp)
    have ih := sameLists_1 xs hxs hs r (pre ++ [v]) f (by rw [h]; simp) (by simp at hf; omega)
    subst h
    unfold kit_SameLists_1
    rw [if_pos (lt_len pre v r), idx_app]
    simp only [Option.bind_some]
    rw [sameInts_self v hv]
    simp only [Option.bind_some]
    rw [wr_snoc pre v r (by omega)]
    simp only [Bool.not_true, Bool.false_eq_true, if_false]
    exact ih
theorem sameLists_self (xs : List (List Int)) (hxs : xs.length ≤ 50000) (hs : ∀ t ∈ xs, t.length ≤ 50000) : kit_SameLists xs xs = some true := by
  unfold kit_SameLists
  have := sameLists_1 xs hxs hs xs [] 100000 rfl (by omega)
  rw [show ((([] : List (List Int)).length : Nat) : Int) = 0 from rfl] at this
  simp only [bne_self_eq_false, Bool.false_eq_true, if_false]
  rw [this]; rfl
theorem equalFunc_1 (xs : List (List (List Int))) (hxs : xs.length ≤ 50000) (hs : ∀ ev ∈ xs, ev.length ≤ 50000 ∧ ∀ t ∈ ev, t.length ≤ 50000) : ∀ (r pre : List (List (List Int))) (f : Nat), xs = pre ++ r → r.length < f → slices_EqualFunc_LLL_LLL_LL_LL__law09_Same_1_1 xs xs f pre.length = some (.inl ())
  | [], pre, f + 1, h, _ => by
    subst h
    unfold slices_EqualFunc_LLL_LLL_LL_LL__law09_Same_1_1
    rw [nlt_len]
    rfl
  | v :: r, pre, f + 1, h, hf => by
    obtain ⟨h1, h2⟩ := hs v (by rw [h]; simp)
    have ih := equalFunc_1 xs hxs hs r (pre ++ [v]) f (by rw [h]; simp) (by simp at hf; omega)
    subst h
    unfold slices_EqualFunc_LLL_LLL_LL_LL__law09_Same_1_1
    rw [if_pos (lt_len pre v r), idx_app]
    simp only [Option.bind_some, law09_Same_1]
    rw [sameLists_self v h1 h2]
    simp only [Option.bind_some]
    rw [wr_snoc pre v r (by omega)]
    simp only [Bool.not_true, Bool.false_eq_true, if_false]
    exact ih
theorem same_self (xs : List (List (List Int))) (hxs : xs.length ≤ 50000) (hs : ∀ ev ∈ xs, ev.length ≤ 50000 ∧ ∀ t ∈ ev, t.length ≤ 50000) : law09_Same xs xs = some true := by
  unfold law09_Same slices_EqualFunc_LLL_LLL_LL_LL__law09_Same_1
  have := equalFunc_1 xs hxs hs xs [] 100000 rfl (by omega)
  rw [show ((([] : List (List (List Int))).length : Nat) : Int) = 0 from rfl] at this
  simp only [bne_self_eq_false, Bool.false_eq_true, if_false]
  rw [this]; rfl
/- trestle/trestlelaw09.EveningPlans -/
theorem evn_len {n : Nat} {sz : List Nat} (hn : n ≤ 64) {s : List (List (List Nat))} (hv : ∀ ev ∈ s, Evn n sz ev) : ∀ ev ∈ toI3 s, ev.length ≤ 50000 ∧ ∀ t ∈ ev, t.length ≤ 50000 := fun ev he => by
  obtain ⟨u, hu, rfl⟩ := List.mem_map.1 he
  have h := (hv u hu).v
  have := h.elen
  refine ⟨by rw [toI2_len]; omega, fun t ht => ?_⟩
  obtain ⟨v, hv', rfl⟩ := List.mem_map.1 ht
  have := h.tlen hv'
  rw [toI1_len]; omega
section
variable {P : Program} {h : Hp}
end
/- trestle/trestlelaw09.Made -/
def szOf (codes : List Int) : List Nat := (codes.take 8).map fun c => 1 + (c % 6).toNat
theorem cut_0 {α : Type} (xs : List α) (k : Nat) (K : Int) (hK : K = (k : Int)) (h : xs.length ≤ 140737488355328) : cutOk 0 (mnI (xs.length : Int) K) xs.length = true ∧ (xs.take (mnI (xs.length : Int) K).toNat).drop (0 : Int).toNat = xs.take k := by
  subst hK
  have h1 : mnI (xs.length : Int) k = ((min xs.length k : Nat) : Int) := by unfold mnI; split <;> omega
  rw [h1]
  refine ⟨?_, ?_⟩
  · simp only [cutOk, Bool.and_eq_true, decide_eq_true_eq]; omega
  · rw [Int.toNat_natCast]
    show ((xs.take (min xs.length k)).drop 0) = _
    rw [List.drop_zero]
    by_cases hk : k ≤ xs.length
    · rw [Nat.min_eq_right hk]
    · rw [Nat.min_eq_left (by omega), List.take_of_length_le (Nat.le_refl _), List.take_of_length_le (by omega)]
theorem sizes_1 (x0 ys : List Int) (hy : (x0.take (mnI (x0.length : Int) 8).toNat).drop (0 : Int).toNat = ys) (hl : ys.length ≤ 8) (hc : ∀ c ∈ ys, 0 ≤ c ∧ c ≤ 255) : ∀ (r pre : List Int) (f : Nat) (out : List Nat) (m : Nat), ys = pre ++ r → r.length < f → out.length ≤ pre.length → m ≤ 6 * pre.length → law09_Sizes_1 x0 f (toI1 out) m pre.length = some (toI1 (out ++ r.map fun c => 1 + (c % 6).toNat), ((m + (r.map fun c => 1 + (c % 6).toNat).sum : Nat) : Int))
  | [], pre, f + 1, out, m, h, _, _, _ => by
    unfold law09_Sizes_1
    rw [hy, if_neg (by rw [h]; simp)]
    simp
  | c :: r, pre, f + 1, out, m, h, hf, ho, hm => by
    obtain ⟨c0, c1⟩ := hc c (by rw [h]; simp)
    have hp : pre.length < ys.length := by rw [h]; simp
    have e6 : c.tmod 6 = c % 6 := Int.tmod_eq_emod_of_nonneg c0
    have b1 := Int.emod_nonneg c (show (6 : Int) ≠ 0 by decide)
    have b2 := Int.emod_lt_of_pos c (show (0 : Int) < 6 by decide)
    have e : wr .i64 (1 + wr .i64 (c.tmod 6)) = ((1 + (c % 6).toNat : Nat) : Int) := by
      have q : wr .i64 (c % 6) = c % 6 := wr_i (by omega) (by omega)
      rw [e6, q, wr_i (by omega) (by omega)]; omega
    have ih := sizes_1 x0 ys hy hl hc r (pre ++ [c]) f (out ++ [1 + (c % 6).toNat]) (m + (1 + (c % 6).toNat)) (by rw [h]; simp) (by simp at hf; omega) (by simp; omega) (by simp; omega)
    unfold law09_Sizes_1
    rw [hy, if_pos (by rw [h]; simp; omega), show idx ys (pre.length : Int) = some c by rw [h]; exact idx_app pre c r]
    simp only [Option.bind_some]
    rw [if_pos (capOk_le (by omega) (by rw [toI1_len]; omega)), e, wr_nat (by omega), wr_i (n := (m : Int) + _) (by omega) (by omega)]
    have a1 : toI1 out ++ [((1 + (c % 6).toNat : Nat) : Int)] = toI1 (out ++ [1 + (c % 6).toNat]) := by simp [toI1]
    have a2 : (m : Int) + ((1 + (c % 6).toNat : Nat) : Int) = ((m + (1 + (c % 6).toNat) : Nat) : Int) := by push_cast; rfl
    have a3 : ((pre.length + 1 : Nat) : Int) = ((pre ++ [c]).length : Int) := by simp
    rw [a1, a2, a3, ih]
    simp only [List.map_cons, List.sum_cons, List.append_assoc, List.cons_append, List.nil_append]
    rw [Nat.add_assoc]
structure SzOk (sz : List Nat) (n : Nat) : Prop where
  sum : sz.sum = n
  pos : ∀ k ∈ sz, 1 ≤ k
  len : sz.length ≤ 8
  n1 : 1 ≤ n
  n48 : n ≤ 48
theorem sizes_eq (codes : List Int) (hl : codes.length ≤ 140737488355328) (hc : ∀ c ∈ codes, 0 ≤ c ∧ c ≤ 255) : ∃ sz n, law09_Sizes codes = some (toI1 sz, ((n : Nat) : Int)) ∧ SzOk sz n := by
  obtain ⟨k1, k2⟩ := cut_0 codes 8 8 rfl hl
  have hc' : ∀ c ∈ codes.take 8, 0 ≤ c ∧ c ≤ 255 := fun c h => hc c (List.mem_of_mem_take h)
  have hl8 : (codes.take 8).length ≤ 8 := by simp; omega
  have h1 := sizes_1 codes (codes.take 8) k2 hl8 hc' (codes.take 8) [] 100000 [] 0 rfl (by omega) (by simp) (by simp)
  have hpos : ∀ k ∈ szOf codes, 1 ≤ k ∧ k ≤ 6 := fun k hk => by
    obtain ⟨c, hc1, rfl⟩ := List.mem_map.1 hk
    obtain ⟨c0, _⟩ := hc' c hc1
    have b1 := Int.emod_nonneg c (show (6 : Int) ≠ 0 by decide)
    have b2 := Int.emod_lt_of_pos c (show (0 : Int) < 6 by decide)
    omega
  have hsum : ∀ l : List Nat, (∀ k ∈ l, 1 ≤ k ∧ k ≤ 6) → l.sum ≤ 6 * l.length ∧ l.length ≤ l.sum := fun l => by
    induction l with
    | nil => intro _; simp
    | cons k l ih =>
      intro h
      have := ih fun j hj => h j (by simp [hj])
      have := h k (by simp)
      simp only [List.sum_cons, List.length_cons]; omega
  obtain ⟨s1, s2⟩ := hsum _ hpos
  have hlen : (szOf codes).length ≤ 8 := by unfold szOf; rw [List.length_map]; exact hl8
  rw [show toI1 [] = [] from rfl, show ((0 : Nat) : Int) = 0 from rfl, show ((([] : List Int).length : Nat) : Int) = 0 from rfl, List.nil_append, Nat.zero_add] at h1
  unfold law09_Sizes
  rw [if_pos k1, h1]
  simp only [Option.bind_some]
  by_cases h0 : (szOf codes).sum = 0
  · refine ⟨[1], 1, ?_, ⟨rfl, by simp, by simp, by omega, by omega⟩⟩
    have : ((((codes.take 8).map fun c => 1 + (c % 6).toNat).sum : Nat) : Int) = 0 := by
      show (((szOf codes).sum : Nat) : Int) = 0
      rw [h0]; rfl
    rw [this]
    rfl
  · refine ⟨szOf codes, (szOf codes).sum, ?_, ⟨rfl, fun k hk => (hpos k hk).1, hlen, by omega, by omega⟩⟩
    have : ((((codes.take 8).map fun c => 1 + (c % 6).toNat).sum : Nat) : Int) = (((szOf codes).sum : Nat) : Int) := rfl
    rw [this, if_neg (by simpa using h0)]
    rfl
/- trestle/evening.MostEvenings -/
/- The bounds, told by numbers. -/
def bndV (M A l : Int) : Int := if l = 0 ∨ M = 0 then 0 else (l * M + A - 1) / A
theorem tri_wr {n : Int} (h1 : 1 ≤ n) (h2 : n ≤ 64) : wr .i64 ((wr .i64 (n * wr .i64 (n - 1))).tdiv 2) = tri n := by
  have h3 := tri2 n
  have h4 := tri_nn h1
  have h5 := tri_le h1 h2
  rw [wr_i (n := n - 1) (by omega) (by omega), wr_i (n := n * (n - 1)) (by omega) (by omega), tdiv2 _ (by omega), show n * (n - 1) / 2 = tri n from rfl, wr_i (by omega) (by omega)]
theorem mul_small {a b : Int} (h0 : 0 ≤ a) (h1 : a ≤ 100) (h2 : 0 ≤ b) (h3 : b ≤ 2016) : 0 ≤ a * b ∧ a * b ≤ 201600 := by
  refine ⟨Int.mul_nonneg h0 h2, ?_⟩
  have := Int.mul_le_mul h1 h3 h2 (by omega)
  omega
structure Nums (n : Int) (zs : List Int) (M A : Int) : Prop where
  n1 : 1 ≤ n
  n64 : n ≤ 64
  zl : zs.length ≤ 1000
  fit : fitP n zs = true
  hM : metP zs = M
  hA : tri n = A
  M0 : 0 ≤ M
  MA : M ≤ A
  A1 : A ≤ 2016
theorem nums_of {n : Int} {zs : List Int} (hl : zs.length ≤ 1000) (hf : fitP n zs = true) : Nums n zs (metP zs) (tri n) := by
  obtain ⟨ok, hs, h1, h2⟩ := fitP_inv hf
  exact ⟨h1, h2, hl, hf, rfl, rfl, metP_nn ok, by rw [← hs]; exact (metP_le ok).1, tri_le h1 h2⟩
theorem metP_prs : ∀ (sz : List Nat), (∀ k ∈ sz, 1 ≤ k) → 2 * metP (toI1 sz) = ((prs sz : Nat) : Int)
  | [], _ => rfl
  | k :: sz, h => by
    have ih := metP_prs sz fun j hj => h j (by simp [hj])
    have hk := h k (by simp)
    have e : toI1 (k :: sz) = (k : Int) :: toI1 sz := rfl
    rw [e]
    simp only [metP, prs]
    have t := tri2 (k : Int)
    have e2 : (k : Int) * ((k : Int) - 1) = ((k * (k - 1) : Nat) : Int) := by
      have : (k : Int) - 1 = ((k - 1 : Nat) : Int) := by omega
      rw [this]; simp
    rw [Int.mul_add, t, e2, ih]; push_cast; rfl
theorem row_le (hi : Int) (h0 : 0 ≤ hi) : ∀ (row : List Int) (x : Nat), row[x]? = some 0 → (∀ v ∈ row, v ≤ hi) → row.sum ≤ hi * ((row.length : Int) - 1)
  | [], x, h, _ => by simp at h
  | v :: row, 0, h, hl => by
    simp at h
    have key : ∀ (l : List Int), (∀ v ∈ l, v ≤ hi) → l.sum ≤ hi * (l.length : Int) := fun l => by
      induction l with
      | nil => intro _; simp
      | cons u l ih =>
        intro hu
        have a := ih fun w hw => hu w (by simp [hw])
        have b := hu u (by simp)
        rw [List.sum_cons, List.length_cons]
        push_cast
        rw [Int.mul_add, Int.mul_one]; omega
    have := key row fun w hw => hl w (by simp [hw])
    rw [List.sum_cons, List.length_cons, h]
    push_cast
    have e : (row.length : Int) + 1 - 1 = (row.length : Int) := by omega
    rw [e]; omega
  | v :: row, x + 1, h, hl => by
    have ih := row_le hi h0 row x (by simpa using h) fun w hw => hl w (by simp [hw])
    have b := hl v (by simp)
    rw [List.sum_cons, List.length_cons]
    push_cast
    have e : (row.length : Int) + 1 - 1 = ((row.length : Int) - 1) + 1 := by omega
    rw [e, Int.mul_add, Int.mul_one]; omega
theorem rows_le (hi : Int) (n : Nat) (h0 : 0 ≤ hi) : ∀ (rows : List (List Int)) (x0 : Nat), (∀ (x : Nat) (row : List Int), rows[x]? = some row → row.length = n ∧ row[x0 + x]? = some 0 ∧ ∀ v ∈ row, v ≤ hi) → rows.flatten.sum ≤ (rows.length : Int) * (hi * ((n : Int) - 1))
  | [], _, _ => by simp
  | row :: rows, x0, h => by
    obtain ⟨g1, g2, g3⟩ := h 0 row rfl
    have a := row_le hi h0 row x0 (by simpa using g2) g3
    have ih := rows_le hi n h0 rows (x0 + 1) fun x r hr => by
      obtain ⟨k1, k2, k3⟩ := h (x + 1) r (by simpa using hr)
      exact ⟨k1, by rw [← k2]; congr 1; omega, k3⟩
    rw [g1] at a
    rw [List.flatten_cons, List.sum_append, List.length_cons]
    push_cast
    rw [Int.add_mul, Int.one_mul]; omega
/-- Pigeons: all meetings together are at most as many as the pairs of guests, times the most. -/
theorem pig_le {n : Nat} {sz : List Nat} {s : List (List (List Nat))} (zpos : ∀ k ∈ sz, 1 ≤ k) (hev : ∀ ev ∈ s, Evn n sz ev) (hi : Int) (hi0 : 0 ≤ hi) (hc : ∀ j, (((meetS n s).count j : Nat) : Int) ≤ hi) : (s.length : Int) * metP (toI1 sz) ≤ hi * tri (n : Int) := by
  have mem : ∀ ev ∈ s, ∀ t ∈ ev, ∀ z ∈ t, z < n := fun ev he => (hev ev he).lt
  have hlt := meetS_lt (n := n) mem
  have hcl := cel_len n (meetS n s)
  have hP := metP_prs sz zpos
  have hLl := meetS_length n s hev
  have hsum : (cel n (meetS n s)).sum = (((meetS n s).length : Nat) : Int) := cel_sum hlt
  have hflat : (rowsC n (cel n (meetS n s)) n 0).flatten = cel n (meetS n s) := by
    rw [rowsC_flat n _ hcl n 0 (by omega)]; simp
  have h := rows_le hi n hi0 (rowsC n (cel n (meetS n s)) n 0) 0 (fun x row h => by
    have hx : x < n := by
      have := (List.getElem?_eq_some_iff.1 h).1
      rw [rowsC_len] at this; exact this
    rw [rowsC_at n _ n 0 x hx] at h
    injection h with h
    rw [Nat.zero_add] at h
    subst h
    have hat : ∀ y, y < n → (((cel n (meetS n s)).take ((x + 1) * n)).drop (x * n)).getD y 0 = (((meetS n s).count (x * n + y) : Nat) : Int) := fun y hy => by
      rw [List.getD_eq_getElem?_getD, (row_at hcl hx hy).2]
      exact cnt_get (meetS n s) (n * n) (x * n + y) (cell_lt hx hy)
    have hl := (row_at hcl hx hx).1
    refine ⟨hl, ?_, fun v hv => ?_⟩
    · rw [Nat.zero_add, (row_at hcl hx hx).2]
      congr 1
      rw [show (cel n (meetS n s)).getD (x * n + x) 0 = _ from cnt_get (meetS n s) (n * n) (x * n + x) (cell_lt hx hx), meetS_diag n x hx s hev]
      rfl
    · obtain ⟨y, hy, e⟩ := List.getElem_of_mem hv
      have hy' : y < n := by omega
      have := hat y hy'
      rw [List.getD_eq_getElem?_getD, List.getElem?_eq_getElem hy, e] at this
      have : v = (((meetS n s).count (x * n + y) : Nat) : Int) := this
      rw [this]; exact hc _)
  rw [hflat, hsum, rowsC_len] at h
  have hA2 := tri2 (n : Int)
  have e1 : (((meetS n s).length : Nat) : Int) = (s.length : Int) * (2 * metP (toI1 sz)) := by rw [hLl, hP]; push_cast; rfl
  have e2 : (n : Int) * (hi * ((n : Int) - 1)) = hi * (2 * tri (n : Int)) := by
    rw [hA2, Int.mul_left_comm]
  rw [e1, e2] at h
  have e3 : (s.length : Int) * (2 * metP (toI1 sz)) = 2 * ((s.length : Int) * metP (toI1 sz)) := by rw [Int.mul_left_comm]
  have e4 : hi * (2 * tri (n : Int)) = 2 * (hi * tri (n : Int)) := by rw [Int.mul_left_comm]
  rw [e3, e4] at h
  omega
theorem lm_val {n : Int} {zs : List Int} {M A : Int} (h : Nums n zs M A) (l : Int) (l0 : 0 ≤ l) (l1 : l ≤ 64) : evening_LeastMost n zs l = some (bndV M A l) := by
  obtain ⟨n1, n64, zl, fit, hM, hA, M0, MA, A1⟩ := h
  obtain ⟨ok, _, _, _⟩ := fitP_inv fit
  unfold evening_LeastMost
  rw [evening_fit_eq n ⟨by omega, by omega⟩ zs zl, fit, evening_met_eq zs zl ok, hM]
  simp only [Option.bind_some, Bool.not_true, Bool.false_eq_true, if_false]
  unfold bndV
  by_cases h0 : l = 0
  · subst h0
    simp
  · have hd : decide (l < 1) = false := by simp; omega
    rw [hd]
    simp only [Bool.false_eq_true, if_false, Option.bind_some]
    by_cases hm : M = 0
    · subst hm
      simp
    · have hb : (M == 0) = false := by simpa using hm
      rw [hb]
      simp only [Bool.false_eq_true, if_false]
      rw [tri_wr n1 n64, hA, if_neg (by omega), if_neg (by omega)]
      have e64 : mnI l 64 = l := by unfold mnI; rw [if_neg (by omega)]
      obtain ⟨q0, q1⟩ := mul_small l0 (by omega) M0 (show M ≤ 2016 by omega)
      have r0 : 0 ≤ (l * M + A - 1) / A := Int.ediv_nonneg (by omega) (by omega)
      have r1 : (l * M + A - 1) / A ≤ l * M + A - 1 := Int.ediv_le_self _ (by omega)
      rw [e64, wr_i (n := l * M) (by omega) (by omega), wr_i (n := l * M + A) (by omega) (by omega), wr_i (n := l * M + A - 1) (by omega) (by omega), Int.tdiv_eq_ediv_of_nonneg (by omega), wr_i (by omega) (by omega)]
/- Concat, IsSorted. -/
theorem cc_1 (ev : List (List Nat)) (hl : ev.length ≤ 1000) (hf : ev.flatten.length ≤ 1000) : ∀ (r pre : List (List Nat)) (f : Nat) (c : Nat), ev = pre ++ r → r.length < f → c + r.flatten.length ≤ 1000 → slices_Concat_L_int_1 (toI2 ev) f c pre.length = some ((c + r.flatten.length : Nat) : Int)
  | [], pre, f + 1, c, h, _, _ => by
    unfold slices_Concat_L_int_1
    rw [if_neg (by rw [toI2_len, h]; simp)]
    simp
  | t :: r, pre, f + 1, c, h, hf2, hc => by
    have hp : pre.length < ev.length := by rw [h]; simp
    rw [List.flatten_cons, List.length_append] at hc
    have ih := cc_1 ev hl hf r (pre ++ [t]) f (c + t.length) (by rw [h]; simp) (by simp at hf2; omega) (by omega)
    have a3 : ((pre.length + 1 : Nat) : Int) = ((pre ++ [t]).length : Int) := by simp
    have e : wr .i64 ((c : Int) + ((toI1 t).length : Int)) = ((c + t.length : Nat) : Int) := by
      rw [toI1_len, wr_i (by omega) (by omega)]; push_cast; rfl
    unfold slices_Concat_L_int_1
    rw [if_pos (by rw [toI2_len, h]; simp; omega), show idx (toI2 ev) (pre.length : Int) = some (toI1 t) by rw [h]; exact idx_toI2 pre t r]
    simp only [Option.bind_some]
    rw [e, if_neg (by simp; omega), wr_nat (by omega), a3, ih, List.flatten_cons, List.length_append, Nat.add_assoc]
theorem cc_2 (ev : List (List Nat)) (hl : ev.length ≤ 1000) (hne : ∀ t ∈ ev, t.length ≠ 0) : ∀ (r pre : List (List Nat)) (f : Nat) (c : List Nat), ev = pre ++ r → r.length < f → c.length + r.flatten.length ≤ 1000 → slices_Concat_L_int_2 (toI2 ev) f (toI1 c) pre.length = some (toI1 (c ++ r.flatten))
  | [], pre, f + 1, c, h, _, _ => by
    unfold slices_Concat_L_int_2
    rw [if_neg (by rw [toI2_len, h]; simp)]
    simp
  | t :: r, pre, f + 1, c, h, hf2, hc => by
    have hp : pre.length < ev.length := by rw [h]; simp
    rw [List.flatten_cons, List.length_append] at hc
    have ht := hne t (by rw [h]; simp)
    have ih := cc_2 ev hl hne r (pre ++ [t]) f (c ++ t) (by rw [h]; simp) (by simp at hf2; omega) (by rw [List.length_append]; omega)
    have a3 : ((pre.length + 1 : Nat) : Int) = ((pre ++ [t]).length : Int) := by simp
    unfold slices_Concat_L_int_2
    rw [if_pos (by rw [toI2_len, h]; simp; omega), show idx (toI2 ev) (pre.length : Int) = some (toI1 t) by rw [h]; exact idx_toI2 pre t r]
    simp only [Option.bind_some]
    rw [if_pos (by rw [toI1_len]; simp; omega), if_pos (capOk_le (by omega) (by rw [toI1_len, toI1_len]; omega)), wr_nat (by omega), a3, ← toI1_app, ih]
    simp
theorem concat_eq {ev : List (List Nat)} (hl : ev.length ≤ 1000) (hf : ev.flatten.length ≤ 1000) (h0 : 0 < ev.flatten.length) (hne : ∀ t ∈ ev, t.length ≠ 0) : slices_Concat_L_int (toI2 ev) = some (toI1 ev.flatten) := by
  have h1 := cc_1 ev hl hf ev [] 100000 0 rfl (by omega) (by omega)
  have h2 := cc_2 ev hl hne ev [] 100000 [] rfl (by omega) (by simpa using hf)
  rw [show ((([] : List (List Nat)).length : Nat) : Int) = 0 from rfl, show ((0 : Nat) : Int) = 0 from rfl, Nat.zero_add] at h1
  rw [show ((([] : List (List Nat)).length : Nat) : Int) = 0 from rfl, List.nil_append, show toI1 [] = ([] : List Int) from rfl] at h2
  unfold slices_Concat_L_int
  rw [h1]
  simp only [Option.bind_some]
  rw [if_pos (by simp only [growOk, Bool.and_eq_true, decide_eq_true_eq]; omega), h2]
  rfl
theorem rng_at {n i : Nat} (h : i < n) : idx (toI1 (List.range n)) (i : Int) = some (i : Int) := by
  rw [idx_lt (by rw [toI1_len]; simpa using h)]
  simp [toI1]
theorem iss_1 (n : Nat) (hn : n ≤ 1000) : ∀ (i f : Nat), i < n → i < f → slices_IsSorted_L_int_1 (toI1 (List.range n)) f i = some (.inl ())
  | 0, f + 1, _, _ => by
    unfold slices_IsSorted_L_int_1
    rw [if_neg (by simp)]
  | i + 1, f + 1, h, hf => by
    have ih := iss_1 n hn i f (by omega) (by omega)
    have e : wr .i64 (((i + 1 : Nat) : Int) - 1) = (i : Int) := by rw [wr_i (by omega) (by omega)]; omega
    have hl : cmp_Less_int ((i + 1 : Nat) : Int) (i : Int) = some false := by
      unfold cmp_Less_int cmp_isNaN_int
      simp; omega
    unfold slices_IsSorted_L_int_1
    rw [if_pos (decide_eq_true (by omega)), rng_at h, e, rng_at (by omega)]
    simp only [Option.bind_some]
    rw [hl]
    simp only [Option.bind_some, Bool.false_eq_true, if_false]
    rw [ih]
theorem sorted_range {n : Nat} (h1 : 1 ≤ n) (hn : n ≤ 1000) : slices_IsSorted_L_int (toI1 (List.range n)) = some true := by
  have h := iss_1 n hn (n - 1) 100000 (by omega) (by omega)
  have e : wr .i64 (((toI1 (List.range n)).length : Int) - 1) = ((n - 1 : Nat) : Int) := by
    rw [toI1_len, List.length_range, wr_i (by omega) (by omega)]; omega
  unfold slices_IsSorted_L_int
  rw [e, h]
  rfl
/- A plan with fewer evenings. -/
theorem plS_add (n : Nat) (sz : List Nat) : ∀ (a b : Nat) (s : List (List (List Nat))), plS n sz (a + b) s = plS n sz b (plS n sz a s)
  | 0, b, s => by simp [plS]
  | a + 1, b, s => by
    have ih := plS_add n sz a b (s ++ [plE (metI s) n sz []])
    rw [show a + 1 + b = (a + b) + 1 by omega]
    simp only [plS]
    exact ih
theorem plS_pre (n : Nat) (sz : List Nat) : ∀ (e : Nat) (s : List (List (List Nat))), ∃ t, plS n sz e s = s ++ t
  | 0, s => ⟨[], by simp [plS]⟩
  | e + 1, s => by
    obtain ⟨t, h⟩ := plS_pre n sz e (s ++ [plE (metI s) n sz []])
    exact ⟨plE (metI s) n sz [] :: t, by simp only [plS, h]; simp⟩
/- The first evening. -/
theorem scr_0 (x : Nat) : ∀ (tb : List Nat), scr (metI [] x) tb 0 0 = (0, 0)
  | [] => rfl
  | y :: tb => by
    unfold scr
    have e : metI [] x y = 0 := rfl
    rw [e, show mxI (0 : Int) 0 = 0 from rfl, show (0 : Int) + 0 = 0 from rfl]
    exact scr_0 x tb
theorem pk_0 (g : Nat → Int × Int) (hg : ∀ x, g x = (0, 0)) : ∀ (r : List Nat) (b : Nat), (pk g r (b : Int) 0 0).1 = (b : Int)
  | [], _ => rfl
  | x :: r, b => by
    unfold pk
    rw [hg x]
    have : bet (b : Int) 0 0 0 0 = false := by
      unfold bet
      simp
    rw [this]
    simp only [Bool.false_eq_true, if_false]
    exact pk_0 g hg r b
theorem fr_range {n j : Nat} (h : j ≤ n) : frOf n (List.range j) = List.range' j (n - j) := by
  unfold frOf
  have e : List.range n = List.range j ++ List.range' j (n - j) := by
    rw [List.range_eq_range', List.range_eq_range']
    have := List.range'_append (s := 0) (m := j) (n := n - j) (step := 1)
    simp only [Nat.one_mul, Nat.zero_add] at this
    rw [this]
    congr 1; omega
  rw [e, List.filter_append, List.filter_eq_nil_iff.2 (fun x hx => by simpa using hx), List.nil_append, List.filter_eq_self.2 (fun x hx => by
    have := (List.mem_range'_1.1 hx).1
    simp; omega)]
theorem pick_0 {n j : Nat} (h : j < n) (tb : List Nat) : pick (fun x => scr (metI [] x) tb 0 0) n (List.range j) = j := by
  unfold pick
  rw [fr_range (by omega)]
  obtain ⟨k, hk⟩ : ∃ k, n - j = k + 1 := ⟨n - j - 1, by omega⟩
  rw [hk, List.range'_succ]
  unfold pk
  rw [if_pos (by simp [bet]), scr_0]
  simp only
  rw [pk_0 _ (fun x => scr_0 x tb)]
  simp
theorem plT_0 (n : Nat) : ∀ (k : Nat) (us tb : List Nat) (j : Nat), us ++ tb = List.range j → j + k ≤ n → us ++ plT (metI []) n us k tb = List.range (j + k)
  | 0, us, tb, j, h, _ => h
  | k + 1, us, tb, j, h, hl => by
    unfold plT
    rw [h, pick_0 (by omega)]
    have := plT_0 n k us (tb ++ [j]) (j + 1) (by rw [← List.append_assoc, h, List.range_succ]) (by omega)
    rw [this]
    congr 1; omega
theorem plE_0 (n : Nat) : ∀ (sz : List Nat) (ev : List (List Nat)) (j : Nat), ev.flatten = List.range j → j + sz.sum ≤ n → (plE (metI []) n sz ev).flatten = List.range (j + sz.sum)
  | [], ev, j, h, _ => by simpa [plE] using h
  | k :: r, ev, j, h, hl => by
    rw [List.sum_cons] at hl
    unfold plE
    have e : (ev ++ [plT (metI []) n ev.flatten k []]).flatten = List.range (j + k) := by
      have := plT_0 n k ev.flatten [] j (by rw [List.append_nil]; exact h) (by omega)
      rw [List.flatten_append, List.flatten_singleton, this]
    rw [plE_0 n r _ (j + k) e (by omega), List.sum_cons]
    congr 1; omega
/- The bound. -/
theorem bnd_le {M A l hi : Int} (A1 : 1 ≤ A) (hi0 : 0 ≤ hi) (h : l * M ≤ hi * A) : bndV M A l ≤ hi := by
  unfold bndV
  split
  · exact hi0
  · have : (l * M + A - 1) / A < hi + 1 := Int.ediv_lt_of_lt_mul (by omega) (by rw [Int.add_mul]; omega)
    omega
theorem most_ge {n : Nat} {sz : List Nat} {s : List (List (List Nat))} (n1 : 1 ≤ n) (hn : n ≤ 64) (zpos : ∀ k ∈ sz, 1 ≤ k) (zsum : sz.sum = n) (zlen : sz.length ≤ 64) (hev : ∀ ev ∈ s, Evn n sz ev) (hs : s.length ≤ 64) (hv : evening_valid n (toI3 s) = some true) (hf : fitP n (toI1 sz) = true) : ∃ hi b, evening_Most n (toI3 s) = some hi ∧ evening_LeastMost n (toI1 sz) (s.length : Int) = some b ∧ b ≤ hi := by
  obtain ⟨_, sm⟩ := evn_small hn hs hev (by omega)
  obtain ⟨lo, hi, m1, _, ex⟩ := most_eq sm hv
  have nums := nums_of (n := (n : Int)) (zs := toI1 sz) (by rw [toI1_len]; omega) hf
  have hlt := meetS_lt (n := n) sm.mem
  have hi0 : 0 ≤ hi := by
    rcases ex.hi_ with h | ⟨u, z, _, _, h⟩
    · omega
    · rw [h]; unfold cX; omega
  have cdg : ∀ x, x < n → (meetS n s).count (x * n + x) = 0 := fun x hx => meetS_diag n x hx s hev
  have cne : ∀ x y, y < n → x ≠ y → (meetS n s).count (x * n + y) = pS x y s := fun x y hy hxy => meetS_count n x y hy hxy s sm.mem
  have csy : ∀ x y, x < n → y < n → (meetS n s).count (x * n + y) = (meetS n s).count (y * n + x) := fun x y hx hy => by
    by_cases e : x = y
    · rw [e]
    · rw [cne x y hy e, cne y x hx (Ne.symm e), pS_comm]
  have hc : ∀ j, (((meetS n s).count j : Nat) : Int) ≤ hi := fun j => by
    by_cases hm : j ∈ meetS n s
    · have hj := hlt j hm
      have hy : j % n < n := Nat.mod_lt _ (by omega)
      have hx : j / n < n := Nat.div_lt_of_lt_mul hj
      have e : j = j / n * n + j % n := by rw [Nat.mul_comm]; exact (Nat.div_add_mod j n).symm
      generalize j / n = x at *
      generalize j % n = y at *
      subst e
      by_cases exy : x = y
      · subst exy; rw [cdg x hx]; exact hi0
      · by_cases hlt : y < x
        · exact (ex.all x y hx hlt).2
        · rw [csy x y hx hy]; exact (ex.all y x hy (by omega)).2
    · rw [List.count_eq_zero.2 hm]; exact hi0
  have hT := pig_le zpos hev hi hi0 hc
  refine ⟨hi, _, m1, lm_val nums (s.length : Int) (by omega) (by omega), ?_⟩
  obtain ⟨_, _, _, _, _, _, M0, MA, A1⟩ := nums
  by_cases hA : 1 ≤ tri (n : Int)
  · exact bnd_le hA hi0 hT
  · have hM : metP (toI1 sz) = 0 := by omega
    rw [hM]
    unfold bndV
    rw [if_pos (.inr rfl)]
    exact hi0
theorem planned_law (codes : List Int) (hl : codes.length ≤ 140737488355328) (hc : ∀ c ∈ codes, 0 ≤ c ∧ c ≤ 255) (many few : Int) (hm : 0 ≤ many) (hw : 0 ≤ few) : law09_EveningPlanned codes many few = some true := by
  obtain ⟨sz, n, hsz, ⟨zsum, zpos, zlen, n1, n48⟩⟩ := sizes_eq codes hl hc
  have hf : fitP n (toI1 sz) = true := fit_sum n1 (by omega) zpos zsum
  have em : ∀ v : Int, 0 ≤ v → ∃ k : Nat, wr .i64 (v.tmod 21) = (k : Int) ∧ k ≤ 20 := fun v h0 => by
    have e : v.tmod 21 = v % 21 := Int.tmod_eq_emod_of_nonneg h0
    have g1 := Int.emod_nonneg v (show (21 : Int) ≠ 0 by decide)
    have g2 := Int.emod_lt_of_pos v (show (0 : Int) < 21 by decide)
    refine ⟨(v % 21).toNat, ?_, by omega⟩
    rw [e, wr_i (by omega) (by omega)]; omega
  obtain ⟨E, hE, hE20⟩ := em many hm
  obtain ⟨W, hW, hW20⟩ := em few hw
  obtain ⟨k, hk, hkE⟩ : ∃ k : Nat, mnI (W : Int) (E : Int) = (k : Int) ∧ k ≤ E := by
    unfold mnI
    split
    · first | exact ⟨W, rfl, by omega⟩ | exact ⟨E, rfl, by omega⟩
    · first | exact ⟨W, rfl, by omega⟩ | exact ⟨E, rfl, by omega⟩
  obtain ⟨q1, q2⟩ := plS_inv zsum zpos E [] (fun ev h => by cases h)
  obtain ⟨r1, r2⟩ := plS_inv zsum zpos k [] (fun ev h => by cases h)
  have q2 : (plS n sz E []).length = E := by rw [q2]; simp
  have r2 : (plS n sz k []).length = k := by rw [r2]; simp
  obtain ⟨c1, c2⟩ := evn_check n1 (by omega) (by omega) q1 (by omega) hf (by omega)
  obtain ⟨t, ht⟩ : ∃ t, plS n sz E [] = plS n sz k [] ++ t := by
    have := plS_add n sz k (E - k) []
    rw [show k + (E - k) = E by omega] at this
    rw [this]
    exact plS_pre n sz (E - k) (plS n sz k [])
  obtain ⟨hi, b, b1, b2, b3⟩ := most_ge n1 (by omega) zpos zsum (by omega) q1 (by omega) c2 hf
  rw [q2] at b2
  unfold law09_EveningPlanned
  rw [hsz]
  simp only [Option.bind_some]
  rw [hE, hW, hk, plan_eq hf (by omega) zsum zpos n1 (by omega) (show E ≤ 64 by omega), plan_eq hf (by omega) zsum zpos n1 (by omega) (show k ≤ 64 by omega)]
  simp only [Option.bind_some]
  rw [c1]
  simp only [Option.bind_some]
  have e1 : ((((toI3 (plS n sz E [])).length : Nat) : Int) != (E : Int)) = false := by rw [toI3_len, q2]; simp
  rw [e1]
  have e2 : ((0 : Int) != 0) = false := rfl
  simp only [e2, Bool.false_eq_true, if_false, Option.bind_some]
  have e3 : decide ((((toI3 (plS n sz k [])).length : Nat) : Int) > (((toI3 (plS n sz E [])).length : Nat) : Int)) = false := by
    rw [toI3_len, toI3_len, q2, r2]; simp; omega
  rw [e3]
  simp only [Bool.false_eq_true, if_false]
  have hcut : cutOk 0 (((toI3 (plS n sz k [])).length : Nat) : Int) (toI3 (plS n sz E [])).length = true := by
    rw [toI3_len, toI3_len, q2, r2]
    simp only [cutOk, Bool.and_eq_true, decide_eq_true_eq]; omega
  have htk : ((toI3 (plS n sz E [])).take ((((toI3 (plS n sz k [])).length : Nat) : Int)).toNat).drop (0 : Int).toNat = toI3 (plS n sz k []) := by
    rw [ht, Int.toNat_natCast, toI3_len]
    simp [toI3]
  rw [if_pos hcut, htk, same_self _ (by rw [toI3_len]; omega) (evn_len (by omega) r1)]
  simp only [Option.bind_some, Bool.not_true, Bool.false_eq_true, if_false]
  have e4 : (if decide ((E : Int) > 0) = true then (idx (toI3 (plS n sz E [])) 0).bind fun v13 => (slices_Concat_L_int v13).bind fun v14 => (slices_IsSorted_L_int v14).bind fun v15 => some (!v15) else some false) = some false := by
    by_cases h0 : E = 0
    · subst h0; rfl
    · rw [if_pos (by simp; omega)]
      obtain ⟨E', rfl⟩ : ∃ E', E = E' + 1 := ⟨E - 1, by omega⟩
      obtain ⟨t2, ht2⟩ := plS_pre n sz E' ([] ++ [plE (metI []) n sz []])
      have hs : plS n sz (E' + 1) [] = plE (metI []) n sz [] :: t2 := by
        unfold plS
        rw [ht2]; rfl
      have hev0 := plE_evn (metI []) zsum zpos
      have hfl := plE_0 n sz [] 0 rfl (by omega)
      rw [Nat.zero_add, zsum] at hfl
      have hi0 : idx (toI3 (plS n sz (E' + 1) [])) 0 = some (toI2 (plE (metI []) n sz [])) := by
        rw [hs]; exact idx_toI3 [] _ t2
      rw [hi0]
      simp only [Option.bind_some]
      rw [concat_eq (by have := hev0.v.elen; omega) (by rw [hfl]; simp; omega) (by rw [hfl]; simp; omega) hev0.ne, hfl]
      simp only [Option.bind_some]
      rw [sorted_range n1 (by omega)]
      rfl
  rw [e4]
  simp only [Option.bind_some, Bool.false_eq_true, if_false]
  rw [b1, b2]
  simp only [Option.bind_some]
  rw [if_pos (by simpa using b3)]
  rfl
end Go.Proofs.YtcmgmkepodbpkaaDoor
namespace Go.Proofs.YtcmgmkepodbpkaaDoor.eveningPlanned
open Go.ChangeShapes Go.WideShapes Go.ChangeAt Go.RowKit
theorem law_ret (a0 : (List Int)) (a1 : Int) (a2 : Int) (h : law09_EveningPlanned a0 a1 a2 = some true) {w : World} {v0 v1 v2 : Value} (h0 : VR w (fun c => c < w.heap.size) [] ((cdL 1 (cdK .u8)).enc a0) v0) (h1 : VR w (fun c => c < w.heap.size) [] ((cdK .u8).enc a1) v1) (h2 : VR w (fun c => c < w.heap.size) [] ((cdK .u8).enc a2) v2) : Ret Tryd.prog 10 #[v0, v1, v2] w fun v w' => v = .bool true ∧ w.grownBy w' none :=
  Ret.mono (x_law09_EveningPlanned.2 (cs_law09_EveningPlanned.enc (a0, a1, a2, ())) (er_law09_EveningPlanned true) (told_enc (s := cs_law09_EveningPlanned) (a := (a0, a1, a2, ())) h) w (fun c => c < w.heap.size) [v0, v1, v2] (fun c hc => hc) (fun g x h => by cases h) (.cons h0 (.cons h1 (.cons h2 .nil)))) fun v w' h => ⟨h.2.v_inv, h.1⟩
set_option maxRecDepth 100000 in
theorem contract (H : Type) (enc : TypeId × Value → H) (W : World) (base : Nat) (args : Array Value) (ds gs : List (DataW H)) (before : List MemPlace)
    (hval : ∀ (j : Nat) t v, Tryd.f10.params[j]? = some t → args[j]? = some v → Value.okWide Tryd.prog W .any base t v)
    (hW : DataW.Whole enc Tryd.prog Tryd.f10.params.toList Rows.eveningPlannedSpec.vars false W args.toList ds gs before)
    (hsz : (DataW.weightsEach Tryd.prog (Tryd.f10.params.toList ++ (OpenSpec.ofChange Rows.eveningPlannedSpec).bare.plain.varTypes Tryd.prog) (ds ++ gs)).all (· ≤ reachBytes) = true) :
    Calls Tryd.prog 10 args W fun e W' => ∃ v, e = .returned v ∧ Rows.eveningPlannedSpec.post enc Tryd.prog Tryd.f10 false true false false W args v W' := by
  have hW' := hW
  obtain ⟨p, q, hA0, hV, rfl, hfz, hnd⟩ := hW
  have hA : DataW.TrodAll enc Tryd.prog W 0 (fun _ => true) true Tryd.f10.params.toList args.toList ds p := hA0
  have hpar : Tryd.f10.params = #[41, 5, 5] := by kernel_rfl
  rw [hpar] at hA hval
  obtain ⟨v0, vs0, d0, ds0, p0, q0, hargs, rfl, rfl, h0, r0⟩ := trodAll_cons hA
  obtain ⟨v1, vs1, d1, ds1, p1, q1, rfl, rfl, rfl, h1, r1⟩ := trodAll_cons r0
  obtain ⟨v2, vs2, d2, ds2, p2, q2, rfl, rfl, rfl, h2, r2⟩ := trodAll_cons r1
  obtain ⟨rfl, rfl, rfl⟩ := trodAll_nil r2
  obtain rfl : args = #[v0, v1, v2] := by apply Array.ext'; simpa using hargs
  obtain ⟨a0, k0, g0⟩ := rd_arg (rd_slice (by kernel_rfl : Tryd.prog.underlying 41 = some (.slice 5)) (by kernel_rfl) (by kernel_rfl) (rd_int (by kernel_rfl : Tryd.prog.underlying 5 = some (.int .u8)))) (one_slice (by kernel_rfl : Tryd.prog.underlying 41 = some (.slice 5)) (hval 0 41 v0 rfl rfl)) h0 hsz (j := 0) (by kernel_rfl) rfl
  obtain ⟨a1, k1, g1⟩ := rd_arg (rd_int (by kernel_rfl : Tryd.prog.underlying 5 = some (.int .u8))) (one_int (by kernel_rfl : Tryd.prog.underlying 5 = some (.int .u8)) (hval 1 5 v1 rfl rfl)) h1 hsz (j := 1) (by kernel_rfl) rfl
  obtain ⟨a2, k2, g2⟩ := rd_arg (rd_int (by kernel_rfl : Tryd.prog.underlying 5 = some (.int .u8))) (one_int (by kernel_rfl : Tryd.prog.underlying 5 = some (.int .u8)) (hval 2 5 v2 rfl rfl)) h2 hsz (j := 2) (by kernel_rfl) rfl
  have hc := law_ret a0 a1 a2 (planned_law a0 g0.1 (fun c hc => bounds_u8 (g0.2 c hc)) a1 a2 (bounds_u8 g1).1 (bounds_u8 g2).1) k0 k1 k2
  unfold Ret at hc
  refine hc.mono fun e W' he => ?_
  cases e with
  | returned v =>
    obtain ⟨rfl, hg⟩ := he
    exact ⟨_, rfl, post_true laidOut (fun t ht => ⟨mem_of_laid (fun t => Tryd.prog.readableRec t) (by kernel_rfl) ht, of_decide_eq_true (mem_of_laid (fun t => decide (t < Tryd.prog.types.size)) (by kernel_rfl) ht)⟩) hW' rfl (by kernel_rfl) (by kernel_rfl : Tryd.prog.underlying 4 = some .bool) rfl hg⟩
  | panicked c => exact he.elim
  | outgrown => exact he.elim
theorem laid_met (os : Os) : laidMet Tryd.prog Rows.eveningPlannedRow.laid ((laidWorld os).forCall (fun _ _ => 0) ⟨#[], #[Value.slice none 0 0, Value.int .u8 0, Value.int .u8 0], []⟩).memory :=
  laidMet_of_run' 8 (by kernel_rfl) (by kernel_rfl)
theorem reads (os : Os) {H : Type} (enc : TypeId × Value → H) : ∃ places, DataW.whole enc Tryd.prog ((laidWorld os).forCall (fun _ _ => 0) ⟨#[], #[Value.slice none 0 0, Value.int .u8 0, Value.int .u8 0], []⟩).memory Tryd.f10.params.toList Rows.eveningPlannedSpec.vars false #[Value.slice none 0 0, Value.int .u8 0, Value.int .u8 0].toList 8 = some ([.nil, .lit (.int .u8 0), .lit (.int .u8 0)], [], places) :=
  ⟨[], by kernel_rfl⟩
set_option maxRecDepth 100000 in
theorem lifted (os : Os) (started : os.Started) (H : Type) (enc : TypeId × Value → H) (F : Stop.Interp) :
    ReturnsInHanded {} Tryd.checked os 10 .any ((OpenSpec.ofChange Rows.eveningPlannedSpec).preRow enc Tryd.prog Tryd.f10 Rows.eveningPlannedRow.domain false Rows.eveningPlannedRow.laid) (((OpenSpec.ofChange Rows.eveningPlannedSpec).at F).post enc Tryd.prog Tryd.f10 false true false false) := by
  obtain ⟨places, hx⟩ := reads os enc
  refine returnsInHanded_of_row (C := Tryd.checked) (s := OpenSpec.ofChange Rows.eveningPlannedSpec) ownKnob0 started (by kernel_rfl) Tryd.func10
    (witness_row_at (enc := enc) (C := Tryd.checked) false (laidWorld os) #[Value.slice none 0 0, Value.int .u8 0, Value.int .u8 0] rfl (by kernel_rfl) (by kernel_rfl) (by kernel_rfl)
      (OpenSpec.preRow_of_cond 8 hx (by kernel_rfl) (fun k hk => by cases hk) (by kernel_rfl) (laid_met os))) ?_
  intro W base args ds gs before hval hW _ _ hsz _ _ _
  exact contract H enc W base args ds gs before hval hW hsz
theorem said : Rows.EveningPlannedSaid :=
  OpenClaim.holds_of_cond 10 Tryd.f10 rfl rfl rfl rfl rfl rfl rfl ⟨rfl, rfl, rfl, rfl, rfl⟩ rfl rfl rfl rfl rfl (by kernel_rfl) Tryd.func10 (by kernel_rfl)
    (of_decide_eq_true (by kernel_rfl)) (by unfold Func.isWrapper; first | (rw [if_pos (by decide +kernel)]; kernel_rfl) | (rw [if_neg (by decide +kernel)]; exact ⟨rfl, rfl⟩))
    (fun os started H enc _ F => by rw [OpenClaim.pre_eq_preRow]; exact lifted os started H enc F)
theorem plain (f : FuncId) (fn : Func) (hf : Tryd.pinned.checked.prog.funcNamed "trestle/trestlelaw09.EveningPlanned" = some f) (hfn : Tryd.pinned.checked.prog.funcs[f]? = some fn) :
    false = Tryd.pinned.checked.prog.looks [] ∧ ∀ (j : Nat) t, fn.params[j]? = some t → Tryd.pinned.checked.prog.wantsStandIn t = false := by
  obtain rfl : f = 10 := Option.some.inj ((show Tryd.prog.funcNamed "trestle/trestlelaw09.EveningPlanned" = some 10 by kernel_rfl).symm.trans hf) |>.symm
  obtain rfl : fn = Tryd.f10 := (Option.some.inj (Tryd.func10.symm.trans hfn)).symm
  refine ⟨by kernel_rfl, fun j t ht => ?_⟩
  have hm : t ∈ Tryd.f10.params.toList := by simpa using Array.mem_of_getElem? ht
  exact (show Tryd.prog.wantsStandIn t = false from Bool.not_eq_true' _ |>.mp (mem_of_laid (fun t => !Tryd.prog.wantsStandIn t) (by kernel_rfl) hm))
theorem card : Rows.EveningPlannedCardSaid :=
  Claim7.holds_tied_plain_at .later [] _ _ _ _ said (fun _ h => by cases h) (by kernel_rfl) (fun _ h => by cases h) eveningPlanned_row_tie rfl ⟨rfl, rfl⟩ (by kernel_rfl) rfl plain (by kernel_rfl)
end Go.Proofs.YtcmgmkepodbpkaaDoor.eveningPlanned
