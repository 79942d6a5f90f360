/- The plain law of bounds: LeastMost and MostEvenings of the program and of the reference agree. -/
import Derived.Test.YthofgamegondnaaDoorPlain
import Derived.Test.YthofgamegondnaaDoorF7
import Derived.Test.YthofgamegondnaaDoorF31
import Derived.Test.YthofgamegondnaaDoorF32
import Derived.Test.YthofgamegondnaaDoorF33
import Derived.Test.YthofgamegondnaaDoorF34
import Derived.Test.YthofgamegondnaaDoorF30
import Derived.Test.YthofgamegondnaaDoorF68
import Derived.Test.YthofgamegondnaaDoorF70
import Derived.Test.YthofgamegondnaaDoorF72
import Derived.Test.YthofgamegondnaaDoorF73
import Derived.Test.YthofgamegondnaaDoorF67
import Derived.Test.YthofgamegondnaaDoorKit
namespace Go.Proofs.YthofgamegondnaaDoor
open Go.RowKit
def sumL : List Int → Int
  | [] => 0
  | v :: r => v + sumL r
/-- Do sizes fit? -/
def fitP (n : Int) (xs : List Int) : Bool := xs.all (fun v => decide (1 ≤ v)) && decide (sumL xs = n) && decide (1 ≤ n) && decide (n ≤ 64)
def fitL : Int → List Int → Int ⊕ Bool
  | c, [] => .inl c
  | c, v :: r => if v < 1 ∨ v > c then .inr false else fitL (c - v) r
theorem fit_1 (n : Int) (xs : List Int) (hxs : xs.length ≤ 1000) : ∀ (r pre : List Int) (c : Int) (f : Nat), xs = pre ++ r → r.length < f → -9223372036854775808 ≤ c → c ≤ 9223372036854775807 → evening_fit_1 n xs f c pre.length = some (fitL c r)
  | [], pre, c, f + 1, h, _, _, _ => by
    subst h
    unfold evening_fit_1
    rw [nlt_len]
    rfl
  | v :: r, pre, c, f + 1, h, hf, h1, h2 => by
    subst h
    unfold evening_fit_1
    rw [if_pos (lt_len pre v r), idx_app]
    simp only [Option.bind_some]
    rw [wr_snoc pre v r (by omega)]
    unfold fitL
    by_cases ha : v < 1
    · simp [ha]
    · by_cases hb : v > c
      · simp [ha, hb]
      · simp only [ha, hb, decide_false, Bool.false_eq_true, if_false, Option.bind_some, false_or]
        rw [wr_i (by omega) (by omega)]
        rw [snoc_app]
        exact fit_1 n _ (by rw [← snoc_app]; exact hxs) r (pre ++ [v]) (c - v) f rfl (by simp at hf; omega) (by omega) (by omega)
theorem fitL_eq : ∀ (xs : List Int) (c : Int), (∃ d, fitL c xs = .inl d ∧ d = c - sumL xs ∧ (xs.all fun v => decide (1 ≤ v)) = true ∧ (0 ≤ c → 0 ≤ d)) ∨ (fitL c xs = .inr false ∧ ((xs.all fun v => decide (1 ≤ v)) = true → c < sumL xs))
  | [], c => .inl ⟨c, rfl, by simp [sumL], rfl, fun h => h⟩
  | v :: r, c => by
    unfold fitL
    by_cases hv : v < 1 ∨ v > c
    · rw [if_pos hv]
      refine .inr ⟨rfl, fun h => ?_⟩
      simp only [List.all_cons, Bool.and_eq_true, decide_eq_true_eq] at h
      have : ∀ (l : List Int), (l.all fun v => decide (1 ≤ v)) = true → 0 ≤ sumL l := by
        intro l
        induction l with
        | nil => intro _; simp [sumL]
        | cons a l ih => intro h; simp only [List.all_cons, Bool.and_eq_true, decide_eq_true_eq] at h; have := ih h.2; simp only [sumL]; omega
      have := this r h.2
      simp only [sumL]
      omega
    · rw [if_neg hv]
      rcases fitL_eq r (c - v) with ⟨d, h1, h2, h3, h4⟩ | ⟨h1, h2⟩
      · refine .inl ⟨d, h1, by simp only [sumL]; omega, ?_, fun h => h4 (by omega)⟩
        simp only [List.all_cons, Bool.and_eq_true, decide_eq_true_eq]
        exact ⟨by omega, h3⟩
      · refine .inr ⟨h1, fun h => ?_⟩
        simp only [List.all_cons, Bool.and_eq_true, decide_eq_true_eq] at h
        have := h2 h.2
        simp only [sumL]
        omega
theorem evening_fit_eq (n : Int) (hn : in64 n) (xs : List Int) (hxs : xs.length ≤ 1000) : evening_fit n xs = some (fitP n xs) := by
  unfold evening_fit
  rw [show (0 : Int) = (([] : List Int).length : Int) from rfl, fit_1 n xs hxs xs [] n 100000 rfl (by omega) hn.1 hn.2]
  simp only [Option.bind_some]
  rcases fitL_eq xs n with ⟨d, h1, h2, h3, h4⟩ | ⟨h1, h2⟩
  · rw [h1]
    simp only [evening_guests, Option.bind_some]
    unfold fitP
    rw [h3]
    by_cases ha : 1 ≤ n
    · by_cases hb : n ≤ 64
      · have : (d == 0) = decide (sumL xs = n) := by
          by_cases hd : d = 0
          · rw [hd]; simp; omega
          · have : ¬ sumL xs = n := by omega
            simp [this, hd]
        simp [ha, hb, this]
      · simp [ha, hb]
    · simp [ha]
  · rw [h1]
    simp only [Option.bind_some]
    unfold fitP
    cases hall : xs.all (fun v => decide (1 ≤ v)) with
    | false => simp
    | true => have := h2 hall; have : ¬ sumL xs = n := by omega
              simp [this]

def fitR : Int → List Int → Int ⊕ Bool
  | c, [] => .inl c
  | c, v :: r => if v < 1 ∨ v > 64 ∨ c > 64 then .inr false else fitR (c + v) r
theorem Fit_1 (n : Int) (xs : List Int) (hxs : xs.length ≤ 1000) : ∀ (r pre : List Int) (c : Int) (f : Nat), xs = pre ++ r → r.length < f → 0 ≤ c → ref09_Fit_1 n xs f c pre.length = some (fitR c r)
  | [], pre, c, f + 1, h, _, _ => by
    subst h
    unfold ref09_Fit_1
    rw [nlt_len]
    rfl
  | v :: r, pre, c, f + 1, h, hf, h1 => by
    subst h
    unfold ref09_Fit_1
    rw [if_pos (lt_len pre v r), idx_app]
    simp only [Option.bind_some]
    rw [wr_snoc pre v r (by omega)]
    unfold fitR
    by_cases ha : v < 1
    · simp [ha]
    · by_cases hb : v > 64
      · simp [ha, hb]
      · by_cases hc : c > 64
        · simp [ha, hb, hc]
        · simp only [ha, hb, hc, decide_false, Bool.false_eq_true, if_false, Option.bind_some, false_or]
          rw [wr_i (by omega) (by omega)]
          rw [snoc_app]
          exact Fit_1 n _ (by rw [← snoc_app]; exact hxs) r (pre ++ [v]) (c + v) f rfl (by simp at hf; omega) (by omega)
theorem sum_nn : ∀ (l : List Int), (l.all fun v => decide (1 ≤ v)) = true → 0 ≤ sumL l
  | [], _ => by simp [sumL]
  | a :: l, h => by
    simp only [List.all_cons, Bool.and_eq_true, decide_eq_true_eq] at h
    have := sum_nn l h.2
    simp only [sumL]; omega
theorem fitR_eq : ∀ (xs : List Int) (c : Int), 0 ≤ c → (∃ d, fitR c xs = .inl d ∧ d = c + sumL xs ∧ (xs.all fun v => decide (1 ≤ v)) = true) ∨ (fitR c xs = .inr false ∧ ((xs.all fun v => decide (1 ≤ v)) = true → 64 < c + sumL xs))
  | [], c, _ => .inl ⟨c, rfl, by simp [sumL], rfl⟩
  | v :: r, c, h0 => by
    unfold fitR
    by_cases hv : v < 1 ∨ v > 64 ∨ c > 64
    · rw [if_pos hv]
      refine .inr ⟨rfl, fun h => ?_⟩
      simp only [List.all_cons, Bool.and_eq_true, decide_eq_true_eq] at h
      have := sum_nn r h.2
      simp only [sumL]
      omega
    · rw [if_neg hv]
      rcases fitR_eq r (c + v) (by omega) with ⟨d, h1, h2, h3⟩ | ⟨h1, h2⟩
      · refine .inl ⟨d, h1, by simp only [sumL]; omega, ?_⟩
        simp only [List.all_cons, Bool.and_eq_true, decide_eq_true_eq]
        exact ⟨by omega, h3⟩
      · refine .inr ⟨h1, fun h => ?_⟩
        simp only [List.all_cons, Bool.and_eq_true, decide_eq_true_eq] at h
        have := h2 h.2
        simp only [sumL]
        omega
theorem ref09_Fit_eq (n : Int) (xs : List Int) (hxs : xs.length ≤ 1000) : ref09_Fit n xs = some (fitP n xs) := by
  unfold ref09_Fit
  have e0 := Fit_1 n xs hxs xs [] 0 100000 rfl (by omega) (by omega)
  rw [show ((([] : List Int).length : Nat) : Int) = 0 from rfl] at e0
  rw [e0]
  simp only [Option.bind_some]
  rcases fitR_eq xs 0 (by omega) with ⟨d, h1, h2, h3⟩ | ⟨h1, h2⟩
  · rw [h1]
    unfold fitP
    rw [h3]
    by_cases ha : 1 ≤ n
    · by_cases hb : n ≤ 64
      · have : (d == n) = decide (sumL xs = n) := by
          by_cases hd : d = n
          · rw [hd]; simp; omega
          · have : ¬ sumL xs = n := by omega
            simp [this, hd]
        simp [ha, hb, this]
      · simp [ha, hb]
    · simp [ha]
  · rw [h1]
    unfold fitP
    cases hall : xs.all (fun v => decide (1 ≤ v)) with
    | false => simp
    | true =>
      have := h2 hall
      by_cases hs : sumL xs = n
      · have : ¬ n ≤ 64 := by omega
        simp [hs, this]
      · simp [hs]

/-- How many pairs sit at a table. -/
def tri (v : Int) : Int := v * (v - 1) / 2
theorem tri2 (v : Int) : 2 * tri v = v * (v - 1) := by
  have : v * (v - 1) % 2 = 0 := by
    rcases (by omega : v % 2 = 0 ∨ v % 2 = 1) with h | h
    · rw [Int.mul_emod, h]; simp
    · have : (v - 1) % 2 = 0 := by omega
      rw [Int.mul_emod, this]; simp
  unfold tri
  omega
theorem tri_nn {v : Int} (h : 1 ≤ v) : 0 ≤ tri v := by
  have h1 := tri2 v
  have : 0 ≤ v * (v - 1) := Int.mul_nonneg (by omega) (by omega)
  omega
theorem tri_le {v : Int} (h : 1 ≤ v) (h2 : v ≤ 64) : tri v ≤ 2016 := by
  have h1 := tri2 v
  have h3 : v * (v - 1) ≤ 64 * 63 := Int.mul_le_mul h2 (by omega) (by omega) (by omega)
  omega
def metP : List Int → Int
  | [] => 0
  | v :: r => tri v + metP r
def okS (xs : List Int) : Prop := ∀ v ∈ xs, 1 ≤ v ∧ v ≤ 64
theorem met_1 (xs : List Int) (hxs : xs.length ≤ 1000) (hok : okS xs) : ∀ (r pre : List Int) (c : Int) (f : Nat), xs = pre ++ r → r.length < f → 0 ≤ c → c ≤ 2016 * (pre.length : Int) → evening_met_1 xs f c pre.length = some (c + metP r)
  | [], pre, c, f + 1, h, _, _, _ => by
    subst h
    unfold evening_met_1
    rw [nlt_len]
    simp [metP]
  | v :: r, pre, c, f + 1, h, hf, h1, h2 => by
    subst h
    unfold evening_met_1
    rw [if_pos (lt_len pre v r), idx_app]
    simp only [Option.bind_some]
    rw [wr_snoc pre v r (by omega)]
    obtain ⟨hv1, hv2⟩ := hok v (by simp)
    have ht := tri2 v
    have ht1 := tri_nn hv1
    have ht2 := tri_le hv1 hv2
    rw [wr_i (n := v - 1) (by omega) (by omega), wr_i (n := v * (v - 1)) (by omega) (by omega), tdiv2 _ (by omega), show v * (v - 1) / 2 = tri v from rfl, wr_i (n := tri v) (by omega) (by omega)]
    simp at hxs
    rw [wr_i (n := c + tri v) (by omega) (by omega), snoc_app, met_1 _ (by simp; omega) (by rw [← snoc_app]; exact hok) r (pre ++ [v]) (c + tri v) f rfl (by simp at hf; omega) (by omega) (by simp; omega)]
    simp only [metP]
    rw [Int.add_assoc]
theorem evening_met_eq (xs : List Int) (hxs : xs.length ≤ 1000) (hok : okS xs) : evening_met xs = some (metP xs) := by
  unfold evening_met
  have := met_1 xs hxs hok xs [] 0 100000 rfl (by omega) (by omega) (by simp)
  rw [show ((([] : List Int).length : Nat) : Int) = 0 from rfl, Int.zero_add] at this
  rw [this]
  rfl
theorem rmet_2 (xs : List Int) (i v : Int) (hv : idx xs i = some v) (hv2 : v ≤ 64) (M : Int) (hM : M ≤ 10000000) : ∀ (k : Nat) (c j : Int) (f : Nat), (k : Int) = v - j → k < f → 1 ≤ j → 0 ≤ c → c ≤ M - 64 * (k : Int) → ∃ q, ref09_met_2 xs i f c j = some q ∧ 2 * q = 2 * c + v * (v - 1) - j * (j - 1)
  | 0, c, j, f + 1, hk, _, _, _, _ => by
    have : j = v := by omega
    subst this
    refine ⟨c, ?_, by omega⟩
    unfold ref09_met_2
    rw [hv]
    simp
  | k + 1, c, j, f + 1, hk, hf, hj, hc, hc2 => by
    have hlt : j < v := by omega
    obtain ⟨q, h1, h2⟩ := rmet_2 xs i v hv hv2 M hM k (c + j) (j + 1) f (by omega) (by omega) (by omega) (by omega) (by omega)
    refine ⟨q, ?_, ?_⟩
    · unfold ref09_met_2
      rw [hv]
      simp only [Option.bind_some]
      rw [if_pos (by simpa using hlt), wr_i (by omega) (by omega), wr_i (by omega) (by omega)]
      exact h1
    · have e1 : (j + 1) * (j + 1 - 1) = j * (j - 1) + 2 * j := by
        rw [show j + 1 - 1 = j by omega, Int.mul_sub, Int.add_mul]; omega
      rw [h2, e1]; omega
theorem rmet_1 (xs : List Int) (hxs : xs.length ≤ 1000) (hok : okS xs) : ∀ (r pre : List Int) (c : Int) (f : Nat), xs = pre ++ r → r.length < f → 0 ≤ c → c ≤ 2016 * (pre.length : Int) → ref09_met_1 xs f c pre.length = some (c + metP r)
  | [], pre, c, f + 1, h, _, _, _ => by
    subst h
    unfold ref09_met_1
    rw [nlt_len]
    simp [metP]
  | v :: r, pre, c, f + 1, h, hf, h1, h2 => by
    subst h
    unfold ref09_met_1
    rw [if_pos (lt_len pre v r)]
    obtain ⟨hv1, hv2⟩ := hok v (by simp)
    have ht := tri2 v
    have ht1 := tri_nn hv1
    have ht2 := tri_le hv1 hv2
    have hl : (pre ++ v :: r).length = pre.length + (r.length + 1) := by simp
    rw [hl] at hxs
    obtain ⟨q, q1, q2⟩ := rmet_2 (pre ++ v :: r) pre.length v (idx_app pre v r) hv2 10000000 (by omega) (v - 1).toNat c 1 100000 (by omega) (by omega) (by omega) h1 (by omega)
    have hq : q = c + tri v := by omega
    rw [q1, hq]
    simp only [Option.bind_some]
    rw [wr_snoc pre v r (by omega), snoc_app, rmet_1 _ (by simp; omega) (by rw [← snoc_app]; exact hok) r (pre ++ [v]) (c + tri v) f rfl (by simp at hf; omega) (by omega) (by simp; omega)]
    simp only [metP]
    rw [Int.add_assoc]
theorem ref09_met_eq (xs : List Int) (hxs : xs.length ≤ 1000) (hok : okS xs) : ref09_met xs = some (metP xs) := by
  unfold ref09_met
  have := rmet_1 xs hxs hok xs [] 0 100000 rfl (by omega) (by omega) (by simp)
  rw [show ((([] : List Int).length : Nat) : Int) = 0 from rfl, Int.zero_add] at this
  rw [this]
  rfl
theorem fitP_inv {n : Int} {xs : List Int} (h : fitP n xs = true) : okS xs ∧ sumL xs = n ∧ 1 ≤ n ∧ n ≤ 64 := by
  simp only [fitP, Bool.and_eq_true, decide_eq_true_eq] at h
  obtain ⟨⟨⟨h1, h2⟩, h3⟩, h4⟩ := h
  refine ⟨?_, h2, h3, h4⟩
  have : ∀ (l : List Int), (l.all fun v => decide (1 ≤ v)) = true → ∀ v ∈ l, 1 ≤ v ∧ v ≤ sumL l := by
    intro l
    induction l with
    | nil => intro _ v hv; cases hv
    | cons a l ih =>
      intro h v hv
      have hn := sum_nn l (by simp only [List.all_cons, Bool.and_eq_true] at h; exact h.2)
      simp only [List.all_cons, Bool.and_eq_true, decide_eq_true_eq] at h
      rcases List.mem_cons.1 hv with rfl | hv
      · simp only [sumL]; omega
      · have := ih h.2 v hv; simp only [sumL]; omega
  intro v hv
  have := this xs h1 v hv
  omega
theorem metP_nn : ∀ {xs : List Int}, okS xs → 0 ≤ metP xs
  | [], _ => by simp [metP]
  | v :: r, h => by
    have h1 := tri_nn (h v (by simp)).1
    have h2 := metP_nn (xs := r) fun v hv => h v (by simp [hv])
    simp only [metP]; omega
theorem metP_le : ∀ {xs : List Int}, okS xs → metP xs ≤ tri (sumL xs) ∧ 0 ≤ sumL xs
  | [], _ => by simp [metP, sumL, tri]
  | v :: r, h => by
    obtain ⟨h1, h2⟩ := metP_le (xs := r) fun v hv => h v (by simp [hv])
    have hv := (h v (by simp)).1
    simp only [metP, sumL]
    have a1 := tri2 v
    have a2 := tri2 (sumL r)
    have a3 := tri2 (v + sumL r)
    have a4 : 0 ≤ v * sumL r := Int.mul_nonneg (by omega) h2
    have e : (v + sumL r) * (v + sumL r - 1) = v * (v - 1) + sumL r * (sumL r - 1) + 2 * (v * sumL r) := by
      rw [Int.mul_sub, Int.mul_sub, Int.mul_sub, Int.mul_add, Int.add_mul, Int.add_mul, Int.mul_comm (sumL r) v]
      omega
    omega
/-- The reference's search of the least number. -/
theorem lm_1 (n e A T p : Int) (hT : ref09_met [n] = some T) (h0 : 0 ≤ p) (hp64 : p ≤ 64) (hT0 : 0 ≤ T) (hT1 : T ≤ 2016) (v : Int) (hA : wr .i64 ((mnI e 64) * v) = A) (hlo : ∀ c, 0 ≤ c → c < p → c * T < A) (hhi : A ≤ p * T) : ∀ (k : Nat) (c : Int) (f : Nat), (k : Int) = p - c → k < f → 0 ≤ c → ref09_LeastMost_1 n e v f c = some p
  | 0, c, f + 1, hk, _, hc => by
    have : c = p := by omega
    subst this
    unfold ref09_LeastMost_1
    rw [hT]
    simp only [Option.bind_some]
    have h1 : c * T ≤ 64 * 2016 := Int.mul_le_mul hp64 hT1 hT0 (by omega)
    have h2 : 0 ≤ c * T := Int.mul_nonneg hc hT0
    rw [hA, wr_i (by omega) (by omega), if_neg (by simp; omega)]
  | k + 1, c, f + 1, hk, hf, hc => by
    unfold ref09_LeastMost_1
    rw [hT]
    simp only [Option.bind_some]
    have h1 : c * T ≤ 64 * 2016 := Int.mul_le_mul (by omega) hT1 hT0 (by omega)
    have h2 : 0 ≤ c * T := Int.mul_nonneg hc hT0
    have h3 := hlo c hc (by omega)
    rw [hA, wr_i (by omega) (by omega), if_pos (by simpa using h3), wr_i (by omega) (by omega)]
    exact lm_1 n e A T p hT h0 hp64 hT0 hT1 v hA hlo hhi k (c + 1) f (by omega) (by omega) (by omega)
theorem mn_le (a b : Int) : mnI a b ≤ a ∧ mnI a b ≤ b ∧ (mnI a b = a ∨ mnI a b = b) := by
  unfold mnI; split <;> omega
theorem leastMost_agree (n : Int) (hn : in64 n) (xs : List Int) (hxs : xs.length ≤ 1000) (e : Int) : ∃ r, evening_LeastMost n xs e = some r ∧ ref09_LeastMost n xs e = some r := by
  unfold evening_LeastMost ref09_LeastMost
  rw [evening_fit_eq n hn xs hxs, ref09_Fit_eq n xs hxs]
  simp only [Option.bind_some]
  cases hf : fitP n xs with
  | false => exact ⟨0, by simp, by simp⟩
  | true =>
    obtain ⟨hok, hs, hn1, hn2⟩ := fitP_inv hf
    by_cases he : e < 1
    · exact ⟨0, by simp [he], by simp [he]⟩
    · rw [evening_met_eq xs hxs hok, ref09_met_eq xs hxs hok]
      simp only [Bool.not_true, Bool.false_eq_true, if_false, he, decide_false, Option.bind_some]
      have hm0 := metP_nn hok
      have hmt := (metP_le hok).1
      rw [hs] at hmt
      have ht := tri2 n
      have ht0 := tri_nn hn1
      have ht1 := tri_le hn1 hn2
      have hT : ref09_met [n] = some (tri n) := by
        rw [ref09_met_eq [n] (by simp) (by intro v hv; simp at hv; omega)]
        simp [metP]
      have hmn := mn_le e 64
      have hmn0 : 1 ≤ mnI e 64 := by omega
      have hA0 : 0 ≤ mnI e 64 * metP xs := Int.mul_nonneg (by omega) hm0
      have hA1 : mnI e 64 * metP xs ≤ 64 * tri n := Int.mul_le_mul hmn.2.1 hmt hm0 (by omega)
      have hA : wr .i64 (mnI e 64 * metP xs) = mnI e 64 * metP xs := wr_i (by omega) (by omega)
      by_cases hz : metP xs = 0
      · refine ⟨0, by simp [hz], ?_⟩
        rw [lm_1 n e _ (tri n) 0 hT (by omega) (by omega) ht0 ht1 (metP xs) hA (fun c h1 h2 => by omega) (by rw [hz]; simp) 0 0 100000 (by simp) (by omega) (by omega)]
        rfl
      · have hz' : (metP xs == 0) = false := by simpa using hz
        have hTp : 1 ≤ tri n := by omega
        generalize hAd : mnI e 64 * metP xs = A at *
        generalize hTd : tri n = T at *
        have hAp : 1 ≤ A := by
          have : 1 * 1 ≤ mnI e 64 * metP xs := Int.mul_le_mul hmn0 (by omega) (by omega) (by omega)
          omega
        have d1 := Int.mul_ediv_add_emod (A + T - 1) T
        have d2 := Int.emod_nonneg (A + T - 1) (show T ≠ 0 by omega)
        have d3 := Int.emod_lt_of_pos (A + T - 1) (show 0 < T by omega)
        generalize hpd : (A + T - 1) / T = p at d1
        generalize hrd : (A + T - 1) % T = q at d1 d2 d3
        have hTp1 : T * p = p * T := Int.mul_comm T p
        have hp0 : 0 ≤ p := by rw [← hpd]; exact Int.ediv_nonneg (by omega) (by omega)
        have hp64 : p ≤ 64 := by
          rw [← hpd]
          have : (A + T - 1) / T < 65 := Int.ediv_lt_of_lt_mul (by omega) (by omega)
          omega
        refine ⟨p, ?_, ?_⟩
        · simp only [hz', Bool.false_eq_true, if_false]
          have w1 : wr .i64 (n * wr .i64 (n - 1)) = n * (n - 1) := by
            rw [wr_i (n := n - 1) (by omega) (by omega), wr_i (by omega) (by omega)]
          have w2 : wr .i64 ((n * (n - 1)).tdiv 2) = T := by
            rw [tdiv2 _ (by omega), show n * (n - 1) / 2 = tri n from rfl, hTd, wr_i (by omega) (by omega)]
          rw [w1, w2, hA, if_neg (by omega), wr_i (n := A + T) (by omega) (by omega), wr_i (n := A + T - 1) (by omega) (by omega), Int.tdiv_eq_ediv_of_nonneg (by omega), hpd, wr_i (by omega) (by omega)]
        · rw [lm_1 n e A T p hT hp0 hp64 (by omega) (by omega) (metP xs) (by rw [hAd]; exact hA) (fun c h1 h2 => ?_) (by omega) p.toNat 0 100000 (by omega) (by omega) (by omega)]
          · rfl
          · have : c * T ≤ (p - 1) * T := Int.mul_le_mul_of_nonneg_right (by omega) (by omega)
            rw [Int.sub_mul] at this
            omega
theorem me_1 (n o B T : Int) (xs : List Int) (m : Int) (p : Int) (hm : ref09_met xs = some m) (hT : ref09_met [n] = some T) (hB : wr .i64 ((mnI o 64) * T) = B) (hm0 : 0 ≤ m) (hm1 : m ≤ 2016) (hp0 : 0 ≤ p) (hp : p ≤ 64) (hlo : ∀ c, 0 ≤ c → c < p → (c + 1) * m ≤ B) (hhi : p = 64 ∨ B < (p + 1) * m) : ∀ (k : Nat) (c : Int) (f : Nat), (k : Int) = p - c → k < f → 0 ≤ c → ref09_MostEvenings_1 n xs o f c = some p
  | 0, c, f + 1, hk, _, hc => by
    have : c = p := by omega
    subst this
    unfold ref09_MostEvenings_1
    rw [hm, hT]
    simp only [Option.bind_some]
    by_cases h64 : c < 64
    · have h1 : (c + 1) * m ≤ 64 * 2016 := Int.mul_le_mul (by omega) hm1 hm0 (by omega)
      have h2 : 0 ≤ (c + 1) * m := Int.mul_nonneg (by omega) hm0
      rw [if_pos (by simpa using h64), hB, wr_i (n := c + 1) (by omega) (by omega), wr_i (by omega) (by omega)]
      simp only [Option.bind_some]
      rw [if_neg (by simp; omega)]
    · rw [if_neg (by simpa using h64)]
      simp
  | k + 1, c, f + 1, hk, hf, hc => by
    unfold ref09_MostEvenings_1
    rw [hm, hT]
    simp only [Option.bind_some]
    have h1 : (c + 1) * m ≤ 64 * 2016 := Int.mul_le_mul (by omega) hm1 hm0 (by omega)
    have h2 : 0 ≤ (c + 1) * m := Int.mul_nonneg (by omega) hm0
    have h3 := hlo c hc (by omega)
    rw [if_pos (by simp; omega), hB, wr_i (n := c + 1) (by omega) (by omega), wr_i (n := (c + 1) * m) (by omega) (by omega)]
    simp only [Option.bind_some]
    rw [if_pos (by simpa using h3)]
    exact me_1 n o B T xs m p hm hT hB hm0 hm1 hp0 hp hlo hhi k (c + 1) f (by omega) (by omega) (by omega)
theorem mostEvenings_agree (n : Int) (hn : in64 n) (xs : List Int) (hxs : xs.length ≤ 1000) (o : Int) : ∃ r, evening_MostEvenings n xs o = some r ∧ ref09_MostEvenings n xs o = some r := by
  unfold evening_MostEvenings ref09_MostEvenings
  rw [evening_fit_eq n hn xs hxs, ref09_Fit_eq n xs hxs]
  simp only [Option.bind_some]
  cases hf : fitP n xs with
  | false => exact ⟨0, by simp, by simp⟩
  | true =>
    obtain ⟨hok, hs, hn1, hn2⟩ := fitP_inv hf
    by_cases he : o < 0
    · exact ⟨0, by simp [he], by simp [he]⟩
    · rw [evening_met_eq xs hxs hok]
      simp only [Bool.not_true, Bool.false_eq_true, if_false, he, decide_false, Option.bind_some]
      have hm0 := metP_nn hok
      have hmt := (metP_le hok).1
      rw [hs] at hmt
      have ht := tri2 n
      have ht0 := tri_nn hn1
      have ht1 := tri_le hn1 hn2
      have hm := ref09_met_eq xs hxs hok
      have hT : ref09_met [n] = some (tri n) := by
        rw [ref09_met_eq [n] (by simp) (by intro v hv; simp at hv; omega)]
        simp [metP]
      have hmn := mn_le o 64
      have hmn0 : 0 ≤ mnI o 64 := by omega
      have hB0 : 0 ≤ mnI o 64 * tri n := Int.mul_nonneg hmn0 ht0
      have hB1 : mnI o 64 * tri n ≤ 64 * tri n := Int.mul_le_mul hmn.2.1 (by omega) ht0 (by omega)
      have hB : wr .i64 (mnI o 64 * tri n) = mnI o 64 * tri n := wr_i (by omega) (by omega)
      by_cases hz : metP xs = 0
      · refine ⟨64, by simp [hz], ?_⟩
        rw [me_1 n o _ (tri n) xs 0 64 (by rw [hm, hz]) hT hB (by omega) (by omega) (by omega) (by omega) (fun c _ _ => by simpa using hB0) (.inl rfl) 64 0 100000 (by simp) (by omega) (by omega)]
        rfl
      · have hz' : (metP xs == 0) = false := by simpa using hz
        have w1 : wr .i64 (n * wr .i64 (n - 1)) = n * (n - 1) := by
          rw [wr_i (n := n - 1) (by omega) (by omega), wr_i (by omega) (by omega)]
        have w2 : wr .i64 ((n * (n - 1)).tdiv 2) = tri n := by
          rw [tdiv2 _ (by omega), show n * (n - 1) / 2 = tri n from rfl, wr_i (by omega) (by omega)]
        generalize hBd : mnI o 64 * tri n = B at *
        generalize hmd : metP xs = m at *
        have d1 := Int.mul_ediv_add_emod B m
        have d2 := Int.emod_nonneg B (show m ≠ 0 by omega)
        have d3 := Int.emod_lt_of_pos B (show 0 < m by omega)
        have hq0 : 0 ≤ B / m := Int.ediv_nonneg hB0 (by omega)
        have hqB : B / m ≤ B := Int.ediv_le_self m hB0
        generalize hqd : B / m = q at *
        have hmq : m * q = q * m := Int.mul_comm m q
        have hp := mn_le 64 q
        refine ⟨mnI 64 q, ?_, ?_⟩
        · simp only [hz', Bool.false_eq_true, if_false]
          rw [w1, w2, hBd, hB, if_neg (by omega), Int.tdiv_eq_ediv_of_nonneg hB0, hqd, wr_i (by omega) (by omega)]
        · generalize hpd : mnI 64 q = p at hp ⊢
          have hlo : ∀ c, 0 ≤ c → c < p → (c + 1) * m ≤ B := fun c h1 h2 => by
            have : (c + 1) * m ≤ q * m := Int.mul_le_mul_of_nonneg_right (by omega) hm0
            omega
          have hhi : p = 64 ∨ B < (p + 1) * m := by
            rcases hp.2.2 with h | h
            · exact .inl h
            · refine .inr ?_
              subst h
              rw [Int.add_mul]; omega
          rw [me_1 n o B (tri n) xs m p hm hT (by rw [hBd]; exact hB) hm0 (by omega) (by omega) (by omega) hlo hhi p.toNat 0 100000 (by omega) (by omega) (by omega)]
          rfl
theorem equal_1 (xs : List Int) (hxs : xs.length ≤ 1000000) : ∀ (r pre : List Int) (f : Nat), xs = pre ++ r → r.length < f → slices_Equal_L_int_1 xs xs f pre.length = some (.inl ())
  | [], pre, f + 1, h, _ => by
    subst h
    unfold slices_Equal_L_int_1
    rw [nlt_len]
    rfl
  | v :: r, pre, f + 1, h, hf => by
    subst h
    unfold slices_Equal_L_int_1
    rw [if_pos (lt_len pre v r), idx_app]
    simp only [Option.bind_some]
    rw [wr_snoc pre v r (by omega)]
    simp only [bne_self_eq_false, Bool.false_eq_true, if_false]
    rw [snoc_app]
    exact equal_1 _ (by rw [← snoc_app]; exact hxs) r (pre ++ [v]) f rfl (by simp at hf; omega)
theorem equal_self (xs : List Int) (hxs : xs.length ≤ 50000) : slices_Equal_L_int xs xs = some true := by
  unfold slices_Equal_L_int
  have := equal_1 xs (by omega) xs [] 100000 rfl (by omega)
  simp only [bne_self_eq_false, Bool.false_eq_true, if_false]
  rw [show ((0 : Int)) = (([] : List Int).length : Int) from rfl, this]
  rfl
theorem clone_self (xs : List Int) (hxs : xs.length ≤ 50000) : slices_Clone_L_int xs = some xs := by
  unfold slices_Clone_L_int
  rw [if_pos (capOk_le (by omega) (by omega))]
theorem bounds_law (n : Int) (hn : in64 n) (xs : List Int) (e o : Int) : law09_EveningBounds n xs e o = some true := by
  unfold law09_EveningBounds
  by_cases h : (xs.length : Int) > 70
  · rw [if_pos (by simpa using h)]; rfl
  · rw [if_neg (by simpa using h)]
    obtain ⟨r1, a1, a2⟩ := leastMost_agree n hn xs (by omega) e
    obtain ⟨r2, b1, b2⟩ := mostEvenings_agree n hn xs (by omega) o
    rw [clone_self xs (by omega)]
    simp only [Option.bind_some, a1, a2, b1, b2, equal_self xs (by omega), beq_self_eq_true, if_true]
    rfl
end Go.Proofs.YthofgamegondnaaDoor
