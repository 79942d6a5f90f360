/- Other names, two schedules in one, hosts: the program answers as the reference does. -/
import Derived.Test.YtcmgmkepodbpkaaDoorEveningMovesM1
import Derived.Test.YtcmgmkepodbpkaaDoorEveningMovesM2
import Derived.Test.YtcmgmkepodbpkaaDoorEveningMovesM3
import Derived.Test.YtcmgmkepodbpkaaDoorEveningMovesM4
import Derived.Test.YtcmgmkepodbpkaaDoorEveningMovesM5
import Derived.Test.YtcmgmkepodbpkaaDoorEveningMovesM6
import Derived.Test.YtcmgmkepodbpkaaDoorProg
import Derived.Laws.CopyOwn
import Derived.Laws.Slices
import Derived.Laws.StructEq
namespace Go.Proofs.YtcmgmkepodbpkaaDoor
open Go.RowKit
def sumL : List Int → Int
  | [] => 0
  | v :: r => v + sumL r
/-- Do sizes fit? -/
def fitP (n : Int) (xs : List Int) : Bool := xs.all (fun v => decide (1 ≤ v)) && decide (sumL xs = n) && decide (1 ≤ n) && decide (n ≤ 64)
def fitL : Int → List Int → Int ⊕ Bool
  | c, [] => .inl c
  | c, v :: r => if v < 1 ∨ v > c then .inr false else fitL (c - v) r
theorem fit_1 (n : Int) (xs : List Int) (hxs : xs.length ≤ 1000) : ∀ (r pre : List Int) (c : Int) (f : Nat), xs = pre ++ r → r.length < f → -9223372036854775808 ≤ c → c ≤ 9223372036854775807 → evening_fit_1 n xs f c pre.length = some (fitL c r)
  | [], pre, c, f + 1, h, _, _, _ => by
    subst h
    unfold evening_fit_1
    rw [nlt_len]
    rfl
  | v :: r, pre, c, f + 1, h, hf, h1, h2 => by
    subst h
    unfold evening_fit_1
    rw [if_pos (lt_len pre v r), idx_app]
    simp only [Option.bind_some]
    rw [wr_snoc pre v r (by omega)]
    unfold fitL
    by_cases ha : v < 1
    · simp [ha]
    · by_cases hb : v > c
      · simp [ha, hb]
      · simp only [ha, hb, decide_false, Bool.false_eq_true, if_false, Option.bind_some, false_or]
        rw [wr_i (by omega) (by omega)]
        rw [snoc_app]
        exact fit_1 n _ (by rw [← snoc_app]; exact hxs) r (pre ++ [v]) (c - v) f rfl (by simp at hf; omega) (by omega) (by omega)
theorem fitL_eq : ∀ (xs : List Int) (c : Int), (∃ d, fitL c xs = .inl d ∧ d = c - sumL xs ∧ (xs.all fun v => decide (1 ≤ v)) = true ∧ (0 ≤ c → 0 ≤ d)) ∨ (fitL c xs = .inr false ∧ ((xs.all fun v => decide (1 ≤ v)) = true → c < sumL xs))
  | [], c => .inl ⟨c, rfl, by simp [sumL], rfl, fun h => h⟩
  | v :: r, c => by
    unfold fitL
    by_cases hv : v < 1 ∨ v > c
    · rw [if_pos hv]
      refine .inr ⟨rfl, fun h => ?_⟩
      simp only [List.all_cons, Bool.and_eq_true, decide_eq_true_eq] at h
      have : ∀ (l : List Int), (l.all fun v => decide (1 ≤ v)) = true → 0 ≤ sumL l := by
        intro l
        induction l with
        | nil => intro _; simp [sumL]
        | cons a l ih => intro h; simp only [List.all_cons, Bool.and_eq_true, decide_eq_true_eq] at h; have := ih h.2; simp only [sumL]; omega
      have := this r h.2
      simp only [sumL]
      omega
    · rw [if_neg hv]
      rcases fitL_eq r (c - v) with ⟨d, h1, h2, h3, h4⟩ | ⟨h1, h2⟩
      · refine .inl ⟨d, h1, by simp only [sumL]; omega, ?_, fun h => h4 (by omega)⟩
        simp only [List.all_cons, Bool.and_eq_true, decide_eq_true_eq]
        exact ⟨by omega, h3⟩
      · refine .inr ⟨h1, fun h => ?_⟩
        simp only [List.all_cons, Bool.and_eq_true, decide_eq_true_eq] at h
        have := h2 h.2
        simp only [sumL]
        omega
theorem evening_fit_eq (n : Int) (hn : in64 n) (xs : List Int) (hxs : xs.length ≤ 1000) : evening_fit n xs = some (fitP n xs) := by
  unfold evening_fit
  rw [show (0 : Int) = (([] : List Int).length : Int) from rfl, fit_1 n xs hxs xs [] n 100000 rfl (by omega) hn.1 hn.2]
  simp only [Option.bind_some]
  rcases fitL_eq xs n with ⟨d, h1, h2, h3, h4⟩ | ⟨h1, h2⟩
  · rw [h1]
    simp only [evening_guests]
    unfold fitP
    rw [h3]
    by_cases ha : 1 ≤ n
    · by_cases hb : n ≤ 64
      · have : (d == 0) = decide (sumL xs = n) := by
          by_cases hd : d = 0
          · rw [hd]; simp; omega
          · have : ¬ sumL xs = n := by omega
            simp [this, hd]
        simp [ha, hb, this]
      · simp [ha, hb]
    · simp [ha]
  · rw [h1]
    simp only
    unfold fitP
    cases hall : xs.all (fun v => decide (1 ≤ v)) with
    | false => simp
    | true => have := h2 hall; have : ¬ sumL xs = n := by omega
              simp [this]
def fitR : Int → List Int → Int ⊕ Bool
  | c, [] => .inl c
  | c, v :: r => if v < 1 ∨ v > 64 ∨ c > 64 then .inr false else fitR (c + v) r
theorem Fit_1 (n : Int) (xs : List Int) (hxs : xs.length ≤ 1000) : ∀ (r pre : List Int) (c : Int) (f : Nat), xs = pre ++ r → r.length < f → 0 ≤ c → ref09_Fit_1 n xs f c pre.length = some (fitR c r)
  | [], pre, c, f + 1, h, _, _ => by
    subst h
    unfold ref09_Fit_1
    rw [nlt_len]
    rfl
  | v :: r, pre, c, f + 1, h, hf, h1 => by
    subst h
    unfold ref09_Fit_1
    rw [if_pos (lt_len pre v r), idx_app]
    simp only [Option.bind_some]
    rw [wr_snoc pre v r (by omega)]
    unfold fitR
    by_cases ha : v < 1
    · simp [ha]
    · by_cases hb : v > 64
      · simp [ha, hb]
      · by_cases hc : c > 64
        · simp [ha, hb, hc]
        · simp only [ha, hb, hc, decide_false, Bool.false_eq_true, if_false, Option.bind_some, false_or]
          rw [wr_i (by omega) (by omega)]
          rw [snoc_app]
          exact Fit_1 n _ (by rw [← snoc_app]; exact hxs) r (pre ++ [v]) (c + v) f rfl (by simp at hf; omega) (by omega)
theorem sum_nn : ∀ (l : List Int), (l.all fun v => decide (1 ≤ v)) = true → 0 ≤ sumL l
  | [], _ => by simp [sumL]
  | a :: l, h => by
    simp only [List.all_cons, Bool.and_eq_true, decide_eq_true_eq] at h
    have := sum_nn l h.2
    simp only [sumL]; omega
theorem fitR_eq : ∀ (xs : List Int) (c : Int), 0 ≤ c → (∃ d, fitR c xs = .inl d ∧ d = c + sumL xs ∧ (xs.all fun v => decide (1 ≤ v)) = true) ∨ (fitR c xs = .inr false ∧ ((xs.all fun v => decide (1 ≤ v)) = true → 64 < c + sumL xs))
  | [], c, _ => .inl ⟨c, rfl, by simp [sumL], rfl⟩
  | v :: r, c, h0 => by
    unfold fitR
    by_cases hv : v < 1 ∨ v > 64 ∨ c > 64
    · rw [if_pos hv]
      refine .inr ⟨rfl, fun h => ?_⟩
      simp only [List.all_cons, Bool.and_eq_true, decide_eq_true_eq] at h
      have := sum_nn r h.2
      simp only [sumL]
      omega
    · rw [if_neg hv]
      rcases fitR_eq r (c + v) (by omega) with ⟨d, h1, h2, h3⟩ | ⟨h1, h2⟩
      · refine .inl ⟨d, h1, by simp only [sumL]; omega, ?_⟩
        simp only [List.all_cons, Bool.and_eq_true, decide_eq_true_eq]
        exact ⟨by omega, h3⟩
      · refine .inr ⟨h1, fun h => ?_⟩
        simp only [List.all_cons, Bool.and_eq_true, decide_eq_true_eq] at h
        have := h2 h.2
        simp only [sumL]
        omega
theorem ref09_Fit_eq (n : Int) (xs : List Int) (hxs : xs.length ≤ 1000) : ref09_Fit n xs = some (fitP n xs) := by
  unfold ref09_Fit
  have e0 := Fit_1 n xs hxs xs [] 0 100000 rfl (by omega) (by omega)
  rw [show ((([] : List Int).length : Nat) : Int) = 0 from rfl] at e0
  rw [e0]
  simp only [Option.bind_some]
  rcases fitR_eq xs 0 (by omega) with ⟨d, h1, h2, h3⟩ | ⟨h1, h2⟩
  · rw [h1]
    unfold fitP
    rw [h3]
    by_cases ha : 1 ≤ n
    · by_cases hb : n ≤ 64
      · have : (d == n) = decide (sumL xs = n) := by
          by_cases hd : d = n
          · rw [hd]; simp; omega
          · have : ¬ sumL xs = n := by omega
            simp [this, hd]
        simp [ha, hb, this]
      · simp [ha, hb]
    · simp [ha]
  · rw [h1]
    unfold fitP
    cases hall : xs.all (fun v => decide (1 ≤ v)) with
    | false => simp
    | true =>
      have := h2 hall
      by_cases hs : sumL xs = n
      · have : ¬ n ≤ 64 := by omega
        simp [hs, this]
      · simp [hs]
theorem equal_1 (xs : List Int) (hxs : xs.length ≤ 1000000) : ∀ (r pre : List Int) (f : Nat), xs = pre ++ r → r.length < f → slices_Equal_L_int_1 xs xs f pre.length = some (.inl ())
  | [], pre, f + 1, h, _ => by
    subst h
    unfold slices_Equal_L_int_1
    rw [nlt_len]
    rfl
  | v :: r, pre, f + 1, h, hf => by
    subst h
    unfold slices_Equal_L_int_1
    rw [if_pos (lt_len pre v r), idx_app]
    simp only [Option.bind_some]
    rw [wr_snoc pre v r (by omega)]
    simp only [bne_self_eq_false, Bool.false_eq_true, if_false]
    rw [snoc_app]
    exact equal_1 _ (by rw [← snoc_app]; exact hxs) r (pre ++ [v]) f rfl (by simp at hf; omega)
theorem equal_self (xs : List Int) (hxs : xs.length ≤ 50000) : slices_Equal_L_int xs xs = some true := by
  unfold slices_Equal_L_int
  have := equal_1 xs (by omega) xs [] 100000 rfl (by omega)
  simp only [bne_self_eq_false, Bool.false_eq_true, if_false]
  rw [show ((0 : Int)) = (([] : List Int).length : Int) from rfl, this]
  rfl
/-- How often a number sits on an evening. -/
theorem times_2 (ev : List (List Int)) (x c2 : Int) (t : List Int) (ht : idx ev c2 = some t) (hl : t.length ≤ 50000) : ∀ (r pre : List Int) (f : Nat) (c : Int), t = pre ++ r → r.length < f → 0 ≤ c → c + r.length ≤ 1000000 → ref09_times_2 ev x c2 f c pre.length = some (c + (r.count x : Int))
  | [], pre, f + 1, c, h, _, _, _ => by
    unfold ref09_times_2
    rw [ht]
    subst h
    simp only [Option.bind_some]
    rw [nlt_len]
    simp
  | v :: r, pre, f + 1, c, h, hf, h0, h1 => by
    unfold ref09_times_2
    rw [ht]
    simp only [List.length_cons] at h1
    by_cases hv : v = x
    · have ih := times_2 ev x c2 t ht hl r (pre ++ [v]) f (c + 1) (by rw [h]; simp) (by simp at hf; omega) (by omega) (by omega)
      subst h hv
      simp only [Option.bind_some]
      rw [if_pos (lt_len pre v r), idx_app]
      simp only [Option.bind_some, ref09_times_j3, beq_self_eq_true, if_true]
      rw [wr_snoc pre v r (by omega), wr_i (by omega) (by omega), ih, List.count_cons_self]
      congr 1; omega
    · have ih := times_2 ev x c2 t ht hl r (pre ++ [v]) f c (by rw [h]; simp) (by simp at hf; omega) (by omega) (by omega)
      have hb : (v == x) = false := by simpa using hv
      subst h
      simp only [Option.bind_some]
      rw [if_pos (lt_len pre v r), idx_app]
      simp only [Option.bind_some, ref09_times_j3, hb, Bool.false_eq_true, if_false]
      rw [wr_snoc pre v r (by omega), ih, List.count_cons_of_ne hv]
theorem len_mem {α : Type} : ∀ {ev : List (List α)} {t : List α}, t ∈ ev → t.length ≤ ev.flatten.length
  | a :: ev, t, h => by
    simp only [List.flatten_cons, List.length_append]
    rcases List.mem_cons.1 h with rfl | h
    · omega
    · have := len_mem h; omega
theorem times_eq (ev : List (List Int)) (x : Int) (hl : ev.length ≤ 50000) (hfl : ev.flatten.length ≤ 50000) : ref09_times ev x = some (ev.flatten.count x : Int) := by
  unfold ref09_times
  have hm : ∀ t ∈ ev, t.length ≤ 50000 := fun t ht => by
    have := len_mem ht; omega
  have key : ∀ (r pre : List (List Int)) (f : Nat) (c : Int), ev = pre ++ r → r.length < f → 0 ≤ c → c + r.flatten.length ≤ 50000 → ref09_times_1 ev x f c pre.length = some (c + (r.flatten.count x : Int)) := by
    intro r
    induction r with
    | nil =>
      intro pre f c h hf h0 h1
      obtain ⟨f, rfl⟩ : ∃ g, f = g + 1 := ⟨f - 1, by simp at hf; omega⟩
      subst h
      unfold ref09_times_1
      rw [nlt_len]
      simp
    | cons t r ih =>
      intro pre f c h hf h0 h1
      obtain ⟨f, rfl⟩ : ∃ g, f = g + 1 := ⟨f - 1, by simp at hf; omega⟩
      have ht := hm t (by rw [h]; simp)
      subst h
      unfold ref09_times_1
      rw [if_pos (lt_len pre t r)]
      simp only [List.flatten_cons, List.length_append] at h1
      have hc : (t.count x) ≤ t.length := List.count_le_length
      have h2 := times_2 (pre ++ t :: r) x pre.length t (idx_app pre t r) (by omega) t [] 100000 c rfl (by omega) h0 (by omega)
      rw [show ((([] : List Int).length : Nat) : Int) = 0 from rfl] at h2
      rw [h2]
      simp only [Option.bind_some]
      simp at hl
      rw [wr_snoc pre t r (by simp; omega), ih (pre ++ [t]) f _ (by simp) (by simp at hf; omega) (by omega) (by omega)]
      simp only [List.flatten_cons, List.count_append]
      congr 1; omega
  have := key ev [] 100000 0 rfl (by omega) (by omega) (by omega)
  rw [show ((([] : List (List Int)).length : Nat) : Int) = 0 from rfl, Int.zero_add] at this
  rw [this]
  rfl
/-- Is the shape of an evening wrong? -/
def sbad (sizes : List Int) : List (List Int) → Int → Bool
  | [], _ => false
  | t :: r, i => ((t.length : Int) == 0) || (decide ((sizes.length : Int) > 0) && (match idx sizes i with | some v => ((t.length : Int) != v) | none => false)) || sbad sizes r (i + 1)
abbrev CSt := Int × Bool × Bool × List Bool
def stepC (n : Int) (s : CSt) (v : Int) : CSt := if v < 0 ∨ v ≥ n then (s.1, s.2.1, true, s.2.2.2) else ((if (s.2.2.2)[v.toNat]?.getD false then s.1 else s.1 + 1), s.2.1 || (s.2.2.2)[v.toNat]?.getD false, s.2.2.1, s.2.2.2.set v.toNat true)
theorem stepC_len (n : Int) (s : CSt) (v : Int) : (stepC n s v).2.2.2.length = s.2.2.2.length := by
  unfold stepC; split <;> simp
theorem stepC_le (n : Int) (s : CSt) (v : Int) : (stepC n s v).1 ≤ s.1 + 1 ∧ s.1 ≤ (stepC n s v).1 := by
  unfold stepC; split
  · show s.1 ≤ s.1 + 1 ∧ s.1 ≤ s.1; omega
  · simp only; split <;> omega
theorem check_2 (n : Int) (sizes : List Int) (ev : List (List Int)) (c9 : Int) (hn0 : 0 ≤ n) : ∀ (r pre : List Int) (s : CSt) (f : Nat) (t : List Int), t = pre ++ r → t.length ≤ 50000 → r.length < f → s.2.2.2.length = n.toNat → 0 ≤ s.1 → s.1 ≤ 1000000 + (pre.length : Int) → evening_check_2 n sizes ev c9 t f s.1 s.2.1 s.2.2.1 s.2.2.2 pre.length = some (r.foldl (stepC n) s)
  | [], pre, s, f + 1, t, ht, _, _, _, _, _ => by
    subst ht
    unfold evening_check_2
    rw [nlt_len]
    rfl
  | v :: r, pre, s, f + 1, t, ht, hl, hf, hs, h0, h1 => by
    obtain ⟨m, tw, un, seen⟩ := s
    simp only at hs h0 h1 ⊢
    have ih := check_2 n sizes ev c9 hn0 r (pre ++ [v]) (stepC n (m, tw, un, seen) v) f t (by rw [ht]; simp) hl (by simp at hf; omega) (by rw [stepC_len]; exact hs) (by have := (stepC_le n (m, tw, un, seen) v).2; simp only at this; omega) (by have := (stepC_le n (m, tw, un, seen) v).1; simp only at this; simp; omega)
    subst ht
    unfold evening_check_2
    rw [if_pos (lt_len pre v r), idx_app]
    simp only [Option.bind_some]
    rw [wr_snoc pre v r (by omega)]
    rw [List.foldl_cons]
    by_cases hv : v < 0 ∨ v ≥ n
    · have hst : stepC n (m, tw, un, seen) v = (m, tw, true, seen) := by unfold stepC; rw [if_pos hv]
      rw [hst] at ih ⊢
      by_cases hv0 : v < 0
      · simp only [hv0, decide_true, if_true, Option.bind_some]
        exact ih
      · have : v ≥ n := by omega
        simp only [hv0, this, decide_false, decide_true, Bool.false_eq_true, if_false, if_true, Option.bind_some]
        exact ih
    · have hv0 : ¬ v < 0 := by omega
      have hv1 : ¬ v ≥ n := by omega
      have hlt : v.toNat < seen.length := by omega
      have hidx : idx seen v = some (seen[v.toNat]'hlt) := by
        unfold idx; rw [if_pos (by omega)]; exact List.getElem?_eq_getElem hlt
      have hg : seen[v.toNat]?.getD false = seen[v.toNat]'hlt := by rw [List.getElem?_eq_getElem hlt]; rfl
      have hst : stepC n (m, tw, un, seen) v = ((if (seen[v.toNat]'hlt) then m else m + 1), tw || (seen[v.toNat]'hlt), un, seen.set v.toNat true) := by
        unfold stepC; rw [if_neg hv]; simp only [hg]
      rw [hst] at ih ⊢
      have hm1 : wr .i64 (m + 1) = m + 1 := wr_i (by omega) (by simp at hl; omega)
      simp only [hv0, hv1, decide_false, Bool.false_eq_true, if_false, Option.bind_some, hidx, evening_check_j3]
      cases htw : tw <;> cases hse : seen[v.toNat]'hlt <;> simp only [htw, hse, Bool.false_eq_true, if_false, if_true, Option.bind_some, Bool.not_true, Bool.not_false, hidx, hm1, Bool.or_true, Bool.or_false] at ih ⊢ <;> exact ih
theorem shape_j (sizes : List Int) (_ev : List (List Int)) (t : List Int) (i : Nat) (hs : (sizes.length : Int) > 0 → i < sizes.length) {β : Type} (b : β) : (if ((t.length : Int) == 0) = true then some (b, true) else if (decide ((sizes.length : Int) > 0)) = true then (idx sizes i).bind fun v12 => some (b, ((t.length : Int) != v12)) else some (b, false)) = some (b, ((t.length : Int) == 0) || (decide ((sizes.length : Int) > 0) && (match idx sizes i with | some v => ((t.length : Int) != v) | none => false))) := by
  cases h1 : ((t.length : Int) == 0) with
  | true => simp
  | false =>
    by_cases h2 : (sizes.length : Int) > 0
    · have := hs h2
      rw [idx_lt this]
      have h3 : 0 < sizes.length := by omega
      simp [h3]
    · have h3 : ¬ 0 < sizes.length := by omega
      simp [h3]
theorem check_1 (n : Int) (sizes : List Int) (ev : List (List Int)) (hn0 : 0 ≤ n) (hl : ev.length ≤ 50000) (hsz : (sizes.length : Int) > 0 → sizes.length = ev.length) : ∀ (r pre : List (List Int)) (s : CSt) (f : Nat), ev = pre ++ r → r.length < f → s.2.2.2.length = n.toNat → 0 ≤ s.1 → s.1 + r.flatten.length ≤ 50000 → evening_check_1 n sizes ev f s.1 s.2.1 s.2.2.1 s.2.2.2 pre.length = some (if sbad sizes r pre.length then .inr 2 else let q := r.flatten.foldl (stepC n) s; .inl (q.1, q.2.1, q.2.2.1))
  | [], pre, s, f + 1, h, _, _, _, _ => by
    subst h
    unfold evening_check_1
    rw [nlt_len]
    rfl
  | t :: r, pre, s, f + 1, h, hf, hs, h0, h1 => by
    obtain ⟨m, tw, un, seen⟩ := s
    simp only at hs h0 h1 ⊢
    subst h
    unfold evening_check_1
    rw [if_pos (lt_len pre t r), idx_app]
    simp only [Option.bind_some]
    rw [shape_j sizes (pre ++ t :: r) t pre.length (fun h => by rw [hsz h]; simp)]
    simp only [Option.bind_some]
    simp only [List.flatten_cons, List.length_append] at h1
    cases hb : (((t.length : Int) == 0) || (decide ((sizes.length : Int) > 0) && (match idx sizes (pre.length : Int) with | some v => ((t.length : Int) != v) | none => false))) with
    | true =>
      simp only [sbad, hb, Bool.true_or, if_true]
    | false =>
      simp only [sbad, hb, Bool.false_or, Bool.false_eq_true, if_false]
      have h2 := check_2 n sizes (pre ++ t :: r) pre.length hn0 t [] (m, tw, un, seen) 100000 t rfl (by omega) (by omega) hs h0 (by simp; omega)
      rw [show ((([] : List Int).length : Nat) : Int) = 0 from rfl] at h2
      simp only at h2
      rw [h2]
      simp only [Option.bind_some]
      have hfold : ∀ (l : List Int) (s : CSt), (l.foldl (stepC n) s).2.2.2.length = s.2.2.2.length ∧ (l.foldl (stepC n) s).1 ≤ s.1 + l.length ∧ s.1 ≤ (l.foldl (stepC n) s).1 := by
        intro l
        induction l with
        | nil => intro s; simp
        | cons a l ih =>
          intro s
          obtain ⟨a1, a2, a3⟩ := ih (stepC n s a)
          have := stepC_le n s a
          rw [List.foldl_cons]
          refine ⟨a1.trans (stepC_len n s a), ?_, ?_⟩
          · simp; omega
          · omega
      obtain ⟨a1, a2, a3⟩ := hfold t (m, tw, un, seen)
      simp only at a1 a2 a3
      rw [wr_snoc pre t r (by omega), check_1 n sizes (pre ++ t :: r) hn0 hl hsz r (pre ++ [t]) (t.foldl (stepC n) (m, tw, un, seen)) f (by simp) (by simp at hf; omega) (by omega) (by omega) (by omega)]
      rw [← snoc_len]
      simp only [List.flatten_cons, List.foldl_append]
def badV (n v : Int) : Bool := decide (v < 0 ∨ v ≥ n)
theorem un_eq (n : Int) : ∀ (L : List Int) (s : CSt), (L.foldl (stepC n) s).2.2.1 = (s.2.2.1 || L.any (badV n))
  | [], s => by simp
  | v :: L, s => by
    rw [List.foldl_cons, un_eq n L, List.any_cons]
    by_cases hv : v < 0 ∨ v ≥ n
    · have hb : badV n v = true := by simp only [badV, decide_eq_true_eq]; exact hv
      have hs : (stepC n s v).2.2.1 = true := by unfold stepC; rw [if_pos hv]
      rw [hb, hs]; simp
    · have hb : badV n v = false := by simp only [badV, decide_eq_false_iff_not]; exact hv
      have hs : (stepC n s v).2.2.1 = s.2.2.1 := by unfold stepC; rw [if_neg hv]
      rw [hb, hs]; simp
structure InvC (N : Nat) (P : List Int) (s : CSt) : Prop where
  len : s.2.2.2.length = N
  seen : ∀ k, k < N → s.2.2.2[k]?.getD false = decide ((k : Int) ∈ P)
  tw : s.2.1 = true ↔ ∃ x, 2 ≤ P.count x
  many : s.1 = (s.2.2.2.count true : Int)
theorem count_set : ∀ (l : List Bool) (k : Nat), k < l.length → ((l.set k true).count true : Int) = l.count true + (if l[k]?.getD false then 0 else 1)
  | [], k, h => by simp at h
  | b :: l, 0, _ => by cases b <;> simp
  | b :: l, k + 1, h => by
    have := count_set l k (by simpa using h)
    simp only [List.set_cons_succ, List.getElem?_cons_succ]
    cases b
    · simpa using this
    · simp only [List.count_cons_self]; push_cast; omega
theorem InvC.step {n : Int} {P : List Int} {s : CSt} (i : InvC n.toNat P s) {v : Int} (h0 : 0 ≤ v) (h1 : v < n) : InvC n.toNat (P ++ [v]) (stepC n s v) := by
  obtain ⟨m, tw, un, seen⟩ := s
  obtain ⟨i1, i2, i3, i4⟩ := i
  simp only at i1 i2 i3 i4
  have hst : stepC n (m, tw, un, seen) v = ((if seen[v.toNat]?.getD false then m else m + 1), tw || seen[v.toNat]?.getD false, un, seen.set v.toNat true) := by
    unfold stepC; rw [if_neg (by omega)]
  have hlt : v.toNat < seen.length := by clear i3; omega
  have hv := i2 v.toNat (by clear i3; omega)
  have hvv : ((v.toNat : Nat) : Int) = v := by clear i3; omega
  rw [hvv] at hv
  rw [hst]
  refine ⟨by simpa using i1, fun k hk => ?_, ?_, ?_⟩
  · simp only [List.getElem?_set]
    by_cases hkv : v.toNat = k
    · subst hkv
      simp [hlt, hvv]
    · rw [if_neg hkv, i2 k hk]
      have : ¬ (k : Int) = v := by clear i3; omega
      simp [this]
  · simp only [Bool.or_eq_true, i3, hv, decide_eq_true_eq]
    clear i3 i4
    constructor
    · rintro (⟨x, hx⟩ | hm)
      · exact ⟨x, by rw [List.count_append]; omega⟩
      · exact ⟨v, by rw [List.count_append]; have := List.count_pos_iff.2 hm; have e : [v].count v = 1 := (by simp); omega⟩
    · rintro ⟨x, hx⟩
      rw [List.count_append] at hx
      by_cases hxv : v = x
      · subst hxv
        have e : [v].count v = 1 := by simp
        rw [e] at hx
        exact .inr (List.count_pos_iff.1 (by omega))
      · rw [List.count_cons_of_ne hxv] at hx
        exact .inl ⟨x, by simpa using hx⟩
  · simp only
    rw [count_set seen v.toNat hlt, i4]
    split <;> simp
theorem inv_all {n : Int} : ∀ (L P : List Int) (s : CSt), InvC n.toNat P s → (∀ v ∈ L, 0 ≤ v ∧ v < n) → InvC n.toNat (P ++ L) (L.foldl (stepC n) s)
  | [], P, s, h, _ => by simpa using h
  | v :: L, P, s, h, hv => by
    obtain ⟨h0, h1⟩ := hv v (by simp)
    have := inv_all L (P ++ [v]) (stepC n s v) (h.step h0 h1) fun w hw => hv w (by simp [hw])
    simpa using this
theorem inv_0 (N : Nat) : InvC N [] (0, false, false, List.replicate N false) := by
  refine ⟨by simp, fun k hk => by simp [hk], by simp, ?_⟩
  simp [List.count_replicate]
theorem count_true_lt : ∀ (l : List Bool), l.count true ≤ l.length ∧ (l.count true < l.length ↔ ∃ k, k < l.length ∧ l[k]?.getD false = false)
  | [] => by simp
  | b :: l => by
    obtain ⟨h1, h2⟩ := count_true_lt l
    cases b with
    | false =>
      refine ⟨by simp; omega, ?_⟩
      simp only [List.count_cons_of_ne (show (false : Bool) ≠ true by decide), List.length_cons]
      exact ⟨fun _ => ⟨0, by omega, rfl⟩, fun _ => by omega⟩
    | true =>
      refine ⟨by simp; omega, ?_⟩
      simp only [List.count_cons_self, List.length_cons, Nat.add_lt_add_iff_right, h2]
      constructor
      · rintro ⟨k, a, b⟩; exact ⟨k + 1, by omega, by simpa using b⟩
      · rintro ⟨k, a, b⟩
        cases k with
        | zero => simp at b
        | succ k => exact ⟨k, by omega, by simpa using b⟩
/-- Some number of a stretch. -/
def anyN (p : Int → Bool) : Nat → Int → Bool
  | 0, _ => false
  | k + 1, i => p i || anyN p k (i + 1)
theorem anyN_iff (p : Int → Bool) : ∀ (k : Nat) (i : Int), anyN p k i = true ↔ ∃ x, i ≤ x ∧ x < i + k ∧ p x = true
  | 0, i => by simp [anyN]; intro x h1 h2; omega
  | k + 1, i => by
    simp only [anyN, Bool.or_eq_true, anyN_iff p k]
    constructor
    · rintro (h | ⟨x, h1, h2, h3⟩)
      · exact ⟨i, by omega, by omega, h⟩
      · exact ⟨x, by omega, by omega, h3⟩
    · rintro ⟨x, h1, h2, h3⟩
      by_cases hx : x = i
      · subst hx; exact .inl h3
      · exact .inr ⟨x, by omega, by omega, h3⟩
/-- What an evening's check answers. -/
def chk (n : Int) (sizes : List Int) (ev : List (List Int)) : Int :=
  if (decide ((sizes.length : Int) > 0) && ((sizes.length : Int) != (ev.length : Int))) = true then 2 else
  if sbad sizes ev 0 then 2 else
  if ev.flatten.any (badV n) then 6 else
  if anyN (fun x => decide ((ev.flatten.count x : Int) > 1)) n.toNat 0 then 5 else
  if anyN (fun x => ((ev.flatten.count x : Int) == 0)) n.toNat 0 then 2 else 0
theorem evening_check_eq (n : Int) (hn0 : 0 ≤ n) (hn : n ≤ 64) (sizes : List Int) (ev : List (List Int)) (hl : ev.length ≤ 50000) (hf : ev.flatten.length ≤ 50000) : evening_check n sizes ev = some (chk n sizes ev) := by
  unfold evening_check chk
  by_cases hs : (decide ((sizes.length : Int) > 0) && ((sizes.length : Int) != (ev.length : Int))) = true
  · rw [if_pos hs]
    simp only [Bool.and_eq_true, decide_eq_true_eq] at hs
    rw [if_pos (by simpa using hs.1)]
    simp only [Option.bind_some, hs.2, if_true]
  · rw [if_neg hs]
    have hsz : (sizes.length : Int) > 0 → sizes.length = ev.length := fun h => by
      simp only [Bool.and_eq_true, decide_eq_true_eq, not_and, Bool.not_eq_true, bne_eq_false_iff_eq] at hs
      have := hs h; omega
    have e1 : (if (decide ((sizes.length : Int) > 0)) = true then some ((sizes.length : Int) != (ev.length : Int)) else some false) = some false := by
      by_cases h : (sizes.length : Int) > 0
      · have := hsz h; simp [this]
      · have h' : ¬ 0 < sizes.length := by omega
        simp [h']
    rw [e1]
    simp only [Option.bind_some, Bool.false_eq_true, if_false]
    have hmk : mkOk 1 n = true := by
      simp only [mkOk, Bool.and_eq_true, decide_eq_true_eq]; omega
    rw [if_pos hmk]
    have h1 := check_1 n sizes ev hn0 hl hsz ev [] (0, false, false, List.replicate n.toNat false) 100000 rfl (by omega) (by simp) (by simp) (by simp only; omega)
    rw [show ((([] : List (List Int)).length : Nat) : Int) = 0 from rfl] at h1
    simp only at h1
    rw [h1]
    simp only [Option.bind_some]
    cases hb : sbad sizes ev 0 with
    | true => simp
    | false =>
      simp only [Bool.false_eq_true, if_false]
      rw [un_eq]
      simp only [Bool.false_or]
      cases hu : ev.flatten.any (badV n) with
      | true => simp
      | false =>
        simp only [Bool.false_eq_true, if_false]
        have hval : ∀ v ∈ ev.flatten, 0 ≤ v ∧ v < n := fun v hv => by
          have := List.any_eq_false.1 hu v hv
          simp only [badV, decide_eq_true_eq] at this
          omega
        obtain ⟨j1, j2, j3, j4⟩ := inv_all ev.flatten [] _ (inv_0 n.toNat) hval
        rw [List.nil_append] at j2 j3
        generalize ev.flatten.foldl (stepC n) (0, false, false, List.replicate n.toNat false) = q at *
        have t1 : q.2.1 = anyN (fun x => decide ((ev.flatten.count x : Int) > 1)) n.toNat 0 := by
          rw [Bool.eq_iff_iff, j3, anyN_iff]
          constructor
          · rintro ⟨x, hx⟩
            have := hval x (List.count_pos_iff.1 (by omega))
            exact ⟨x, by omega, by omega, by simp; omega⟩
          · rintro ⟨x, _, _, hx⟩
            simp at hx
            exact ⟨x, by omega⟩
        have t2 : decide (q.1 < n) = anyN (fun x => ((ev.flatten.count x : Int) == 0)) n.toNat 0 := by
          rw [Bool.eq_iff_iff, anyN_iff, decide_eq_true_eq, j4]
          have hc := count_true_lt q.2.2.2
          rw [j1] at hc
          constructor
          · intro h
            obtain ⟨k, k1, k2⟩ := hc.2.1 (by omega)
            rw [j2 k k1] at k2
            have hm : ¬ (k : Int) ∈ ev.flatten := by simpa using k2
            exact ⟨k, by omega, by omega, by rw [List.count_eq_zero.2 hm]; rfl⟩
          · rintro ⟨x, h1, h2, h3⟩
            have h3 : ev.flatten.count x = 0 := by simpa using h3
            have hm := List.count_eq_zero.1 h3
            have := hc.2.2 ⟨x.toNat, by omega, by rw [j2 _ (by omega), show ((x.toNat : Nat) : Int) = x by omega]; simpa using hm⟩
            omega
        rw [t1, t2]
        cases anyN (fun x => decide ((ev.flatten.count x : Int) > 1)) n.toNat 0 <;> cases anyN (fun x => ((ev.flatten.count x : Int) == 0)) n.toNat 0 <;> simp
theorem shape_r (sizes : List Int) (t : List Int) (i : Nat) (hs : (sizes.length : Int) > 0 → i < sizes.length) : (if ((t.length : Int) == 0) = true then some true else if (decide ((sizes.length : Int) > 0)) = true then (idx sizes i).bind fun v7 => some (v7 != (t.length : Int)) else some false) = some (((t.length : Int) == 0) || (decide ((sizes.length : Int) > 0) && (match idx sizes i with | some v => ((t.length : Int) != v) | none => false))) := by
  cases h1 : ((t.length : Int) == 0) with
  | true => simp
  | false =>
    by_cases h2 : (sizes.length : Int) > 0
    · have := hs h2
      rw [idx_lt this]
      have h3 : 0 < sizes.length := by omega
      simp [h3, bne_comm]
    · have h3 : ¬ 0 < sizes.length := by omega
      simp [h3]
theorem or_if {c : Int} (X Y : Bool) : (if X = true then some (Sum.inr c) else some (if Y = true then Sum.inr c else Sum.inl ())) = some (if (X || Y) = true then Sum.inr c else Sum.inl ()) := by
  cases X <;> simp
theorem rCheck_1 (n : Int) (sizes : List Int) (ev : List (List Int)) (hl : ev.length ≤ 50000) (hsz : (sizes.length : Int) > 0 → sizes.length = ev.length) : ∀ (r pre : List (List Int)) (f : Nat), ev = pre ++ r → r.length < f → ref09_CheckEvening_1 n sizes ev f pre.length = some (if sbad sizes r pre.length then .inr 2 else .inl ())
  | [], pre, f + 1, h, _ => by
    subst h
    unfold ref09_CheckEvening_1
    rw [nlt_len]
    rfl
  | t :: r, pre, f + 1, h, hf => by
    have ih := rCheck_1 n sizes ev hl hsz r (pre ++ [t]) f (by rw [h]; simp) (by simp at hf; omega)
    subst h
    unfold ref09_CheckEvening_1
    rw [if_pos (lt_len pre t r), idx_app]
    simp only [Option.bind_some]
    rw [wr_snoc pre t r (by omega), ih, ← snoc_len, shape_r sizes t pre.length (fun h => by rw [hsz h]; simp)]
    simp only [Option.bind_some, sbad]
    exact or_if _ _
theorem rCheck_3 (n : Int) (ev : List (List Int)) (c : Int) (t : List Int) (ht : idx ev c = some t) (hl : t.length ≤ 50000) : ∀ (r pre : List Int) (f : Nat), t = pre ++ r → r.length < f → ref09_CheckEvening_3 n ev c f pre.length = some (if r.any (badV n) then .inr 6 else .inl ())
  | [], pre, f + 1, h, _ => by
    unfold ref09_CheckEvening_3
    rw [ht]
    subst h
    simp only [Option.bind_some]
    rw [nlt_len]
    rfl
  | v :: r, pre, f + 1, h, hf => by
    have ih := rCheck_3 n ev c t ht hl r (pre ++ [v]) f (by rw [h]; simp) (by simp at hf; omega)
    unfold ref09_CheckEvening_3
    rw [ht]
    subst h
    simp only [Option.bind_some]
    rw [if_pos (lt_len pre v r), idx_app]
    simp only [Option.bind_some]
    rw [wr_snoc pre v r (by omega), ih]
    simp only [List.any_cons, badV]
    by_cases h1 : v < 0
    · simp [h1]
    · by_cases h2 : v ≥ n
      · simp [h1, h2]
      · simp [h1, h2]
theorem rCheck_2 (n : Int) (ev : List (List Int)) (hl : ev.length ≤ 50000) (hm : ∀ t ∈ ev, t.length ≤ 50000) : ∀ (r pre : List (List Int)) (f : Nat), ev = pre ++ r → r.length < f → ref09_CheckEvening_2 n ev f pre.length = some (if r.flatten.any (badV n) then .inr 6 else .inl ())
  | [], pre, f + 1, h, _ => by
    subst h
    unfold ref09_CheckEvening_2
    rw [nlt_len]
    rfl
  | t :: r, pre, f + 1, h, hf => by
    have ih := rCheck_2 n ev hl hm r (pre ++ [t]) f (by rw [h]; simp) (by simp at hf; omega)
    have ht := hm t (by rw [h]; simp)
    subst h
    unfold ref09_CheckEvening_2
    rw [if_pos (lt_len pre t r)]
    have h3 := rCheck_3 n (pre ++ t :: r) pre.length t (idx_app pre t r) ht t [] 100000 rfl (by omega)
    rw [show ((([] : List Int).length : Nat) : Int) = 0 from rfl] at h3
    rw [h3]
    simp only [Option.bind_some, List.flatten_cons, List.any_append]
    cases t.any (badV n) with
    | true => simp
    | false =>
      simp only [Bool.false_eq_true, if_false, Bool.false_or]
      rw [wr_snoc pre t r (by omega), ih]
theorem rCheck_45 (n : Int) (hn : n ≤ 64) (ev : List (List Int)) (hl : ev.length ≤ 50000) (hf : ev.flatten.length ≤ 50000) :
    (∀ (k : Nat) (i : Int) (f : Nat), (k : Int) = n - i → 0 ≤ i → k < f → ref09_CheckEvening_4 n ev f i = some (if anyN (fun x => decide ((ev.flatten.count x : Int) > 1)) k i then .inr 5 else .inl ())) ∧
    (∀ (k : Nat) (i : Int) (f : Nat), (k : Int) = n - i → 0 ≤ i → k < f → ref09_CheckEvening_5 n ev f i = some (if anyN (fun x => ((ev.flatten.count x : Int) == 0)) k i then .inr 2 else .inl ())) := by
  constructor
  · intro k
    induction k with
    | zero =>
      intro i f hk hi hf'
      obtain ⟨f, rfl⟩ : ∃ g, f = g + 1 := ⟨f - 1, by omega⟩
      unfold ref09_CheckEvening_4
      rw [if_neg (by simp; omega)]
      rfl
    | succ k ih =>
      intro i f hk hi hf'
      obtain ⟨f, rfl⟩ : ∃ g, f = g + 1 := ⟨f - 1, by omega⟩
      unfold ref09_CheckEvening_4
      rw [if_pos (by simp; omega), times_eq ev i hl hf]
      simp only [Option.bind_some, anyN]
      rw [wr_i (by omega) (by omega), ih (i + 1) f (by omega) (by omega) (by omega)]
      exact or_if _ _
  · intro k
    induction k with
    | zero =>
      intro i f hk hi hf'
      obtain ⟨f, rfl⟩ : ∃ g, f = g + 1 := ⟨f - 1, by omega⟩
      unfold ref09_CheckEvening_5
      rw [if_neg (by simp; omega)]
      rfl
    | succ k ih =>
      intro i f hk hi hf'
      obtain ⟨f, rfl⟩ : ∃ g, f = g + 1 := ⟨f - 1, by omega⟩
      unfold ref09_CheckEvening_5
      rw [if_pos (by simp; omega), times_eq ev i hl hf]
      simp only [Option.bind_some, anyN]
      rw [wr_i (by omega) (by omega), ih (i + 1) f (by omega) (by omega) (by omega)]
      exact or_if _ _
theorem ref09_CheckEvening_eq (n : Int) (hn0 : 0 ≤ n) (hn : n ≤ 64) (sizes : List Int) (ev : List (List Int)) (hl : ev.length ≤ 50000) (hf : ev.flatten.length ≤ 50000) : ref09_CheckEvening n sizes ev = some (chk n sizes ev) := by
  unfold ref09_CheckEvening chk
  by_cases hs : (decide ((sizes.length : Int) > 0) && ((sizes.length : Int) != (ev.length : Int))) = true
  · rw [if_pos hs]
    simp only [Bool.and_eq_true, decide_eq_true_eq] at hs
    rw [if_pos (by simpa using hs.1)]
    simp only [Option.bind_some, hs.2, if_true]
  · rw [if_neg hs]
    have hsz : (sizes.length : Int) > 0 → sizes.length = ev.length := fun h => by
      simp only [Bool.and_eq_true, decide_eq_true_eq, not_and, Bool.not_eq_true, bne_eq_false_iff_eq] at hs
      have := hs h; omega
    have e1 : (if (decide ((sizes.length : Int) > 0)) = true then some ((sizes.length : Int) != (ev.length : Int)) else some false) = some false := by
      by_cases h : (sizes.length : Int) > 0
      · have := hsz h; simp [this]
      · have h' : ¬ 0 < sizes.length := by omega
        simp [h']
    rw [e1]
    simp only [Option.bind_some, Bool.false_eq_true, if_false]
    have hm : ∀ t ∈ ev, t.length ≤ 50000 := fun t ht => by
      have := len_mem ht; omega
    have h1 := rCheck_1 n sizes ev hl hsz ev [] 100000 rfl (by omega)
    have h2 := rCheck_2 n ev hl hm ev [] 100000 rfl (by omega)
    rw [show ((([] : List (List Int)).length : Nat) : Int) = 0 from rfl] at h1 h2
    obtain ⟨h4, h5⟩ := rCheck_45 n hn ev hl hf
    have h4 := h4 n.toNat 0 100000 (by omega) (by omega) (by omega)
    have h5 := h5 n.toNat 0 100000 (by omega) (by omega) (by omega)
    rw [h1]
    simp only [Option.bind_some]
    cases sbad sizes ev 0 with
    | true => simp
    | false =>
      simp only [Bool.false_eq_true, if_false]
      rw [h2]
      simp only [Option.bind_some]
      cases ev.flatten.any (badV n) with
      | true => simp
      | false =>
        simp only [Bool.false_eq_true, if_false]
        rw [h4]
        simp only [Option.bind_some]
        cases anyN (fun x => decide ((ev.flatten.count x : Int) > 1)) n.toNat 0 with
        | true => simp
        | false =>
          simp only [Bool.false_eq_true, if_false]
          rw [h5]
          simp only [Option.bind_some]
          cases anyN (fun x => ((ev.flatten.count x : Int) == 0)) n.toNat 0 <;> simp
/-- The schedule's check, told by that of its evenings. -/
def chkS (n : Int) (sizes : List Int) : List (List (List Int)) → Int → Int × Int
  | [], _ => (0, 0)
  | ev :: r, i => if chk n sizes ev != 0 then (i, chk n sizes ev) else chkS n sizes r (i + 1)
def chkAll (n : Int) (sizes : List Int) (s : List (List (List Int))) : Int × Int :=
  if (decide (n < 1) || decide (n > 64) || (decide ((sizes.length : Int) > 0) && !fitP n sizes)) = true then (0, 90) else if s.length > 64 then (0, 7) else chkS n sizes s 0
theorem check_loop (n : Int) (hn0 : 0 ≤ n) (hn : n ≤ 64) (sizes : List Int) (s : List (List (List Int))) (hs : s.length ≤ 50000) (hl : ∀ ev ∈ s, ev.length ≤ 50000 ∧ ev.flatten.length ≤ 50000) : ∀ (r pre : List (List (List Int))) (f : Nat), s = pre ++ r → r.length < f →
    (∃ q, evening_Check_1 n sizes s f pre.length = some q ∧ ref09_Check_1 n sizes s f pre.length = some q ∧ (match q with | .inl _ => chkS n sizes r pre.length = (0, 0) | .inr w => chkS n sizes r pre.length = w))
  | [], pre, f + 1, h, _ => by
    subst h
    refine ⟨.inl (), ?_, ?_, rfl⟩
    · unfold evening_Check_1; rw [nlt_len]; rfl
    · unfold ref09_Check_1; rw [nlt_len]; rfl
  | ev :: r, pre, f + 1, h, hf => by
    obtain ⟨h1, h2⟩ := hl ev (by rw [h]; simp)
    obtain ⟨q, a1, a2, a3⟩ := check_loop n hn0 hn sizes s hs hl r (pre ++ [ev]) f (by rw [h]; simp) (by simp at hf; omega)
    have e1 := evening_check_eq n hn0 hn sizes ev h1 h2
    have e2 := ref09_CheckEvening_eq n hn0 hn sizes ev h1 h2
    rw [← snoc_len] at a3
    cases hc : (chk n sizes ev != 0) with
    | true =>
      refine ⟨.inr ((pre.length : Int), chk n sizes ev), ?_, ?_, by simp [chkS, hc]⟩
      · subst h
        unfold evening_Check_1
        rw [if_pos (lt_len pre ev r), idx_app]
        simp only [Option.bind_some]
        rw [e1]
        simp only [Option.bind_some, hc, if_true]
      · subst h
        unfold ref09_Check_1
        rw [if_pos (lt_len pre ev r), idx_app]
        simp only [Option.bind_some]
        rw [e2]
        simp only [Option.bind_some, hc, if_true]
    | false =>
      refine ⟨q, ?_, ?_, ?_⟩
      · subst h
        unfold evening_Check_1
        rw [if_pos (lt_len pre ev r), idx_app]
        simp only [Option.bind_some]
        rw [e1]
        simp only [Option.bind_some, hc, Bool.false_eq_true, if_false]
        rw [wr_snoc pre ev r (by omega)]
        exact a1
      · subst h
        unfold ref09_Check_1
        rw [if_pos (lt_len pre ev r), idx_app]
        simp only [Option.bind_some]
        rw [e2]
        simp only [Option.bind_some, hc, Bool.false_eq_true, if_false]
        rw [wr_snoc pre ev r (by omega)]
        exact a2
      · simp only [chkS, hc, Bool.false_eq_true, if_false]
        exact a3
theorem check_both (n : Int) (hn : in64 n) (sizes : List Int) (hsz : sizes.length ≤ 1000) (s : List (List (List Int))) (hs : s.length ≤ 50000) (hl : ∀ ev ∈ s, ev.length ≤ 50000 ∧ ev.flatten.length ≤ 50000) : evening_Check n sizes s = some (chkAll n sizes s) ∧ ref09_Check n sizes s = some (chkAll n sizes s) := by
  have hg : evening_guests n = some (decide (1 ≤ n) && decide (n ≤ 64)) := by
    unfold evening_guests
    by_cases h : 1 ≤ n
    · simp [h]
    · simp [h]
  unfold evening_Check ref09_Check chkAll
  rw [hg, evening_fit_eq n hn sizes hsz, ref09_Fit_eq n sizes hsz]
  simp only [Option.bind_some]
  by_cases h1 : n < 1
  · have h1' : ¬ 1 ≤ n := by omega
    simp [h1, h1']
  · by_cases h2 : n > 64
    · have h2' : ¬ n ≤ 64 := by omega
      simp [h1, h2, h2']
    · have h1' : 1 ≤ n := by omega
      have h2' : n ≤ 64 := by omega
      simp only [h1, h2, h1', h2', decide_true, decide_false, Bool.and_self, Bool.not_true, Bool.false_eq_true, if_false, Bool.false_or]
      by_cases h3 : (sizes.length : Int) > 0
      · cases hf : fitP n sizes with
        | false =>
          have h3' : 0 < sizes.length := by omega
          simp [h3']
        | true =>
          simp only [h3, decide_true, if_true, Bool.not_true, Option.bind_some, Bool.and_false, Bool.false_eq_true, if_false]
          by_cases h4 : s.length > 64
          · have h4' : decide ((s.length : Int) > 64) = true := by simp; omega
            simp only [h4', h4, if_true, and_self]
          · have h4' : decide ((s.length : Int) > 64) = false := by simp; omega
            simp only [h4', h4, if_false, Bool.false_eq_true]
            obtain ⟨q, a1, a2, a3⟩ := check_loop n (by omega) h2' sizes s hs hl s [] 100000 rfl (by omega)
            rw [show ((([] : List (List (List Int))).length : Nat) : Int) = 0 from rfl] at a1 a2 a3
            rw [a1, a2]
            cases q with
            | inl w => simp only at a3; simp [a3]
            | inr w => simp only at a3; simp [a3]
      · simp only [h3, decide_false, Bool.false_eq_true, if_false, Option.bind_some, Bool.false_and]
        by_cases h4 : s.length > 64
        · have h4' : decide ((s.length : Int) > 64) = true := by simp; omega
          simp only [h4', h4, if_true, and_self]
        · have h4' : decide ((s.length : Int) > 64) = false := by simp; omega
          simp only [h4', h4, if_false, Bool.false_eq_true]
          obtain ⟨q, a1, a2, a3⟩ := check_loop n (by omega) h2' sizes s hs hl s [] 100000 rfl (by omega)
          rw [show ((([] : List (List (List Int))).length : Nat) : Int) = 0 from rfl] at a1 a2 a3
          rw [a1, a2]
          cases q with
          | inl w => simp only at a3; simp [a3]
          | inr w => simp only at a3; simp [a3]
/-- Few numbers. -/
structure FewS (s : List (List (List Int))) (most : Nat) : Prop where
  evs : s.length ≤ 70
  tabs : ∀ ev ∈ s, ev.length ≤ 12
  nums : s.flatten.flatten.length ≤ most
structure ShortS (s : List (List (List Int))) : Prop where
  evs : s.length ≤ 140737488355328
  tabs : ∀ ev ∈ s, ev.length ≤ 140737488355328 ∧ ∀ t ∈ ev, t.length ≤ 140737488355328
theorem few_2 (s : List (List (List Int))) (most : Nat) (hm : most ≤ 1000) (c3 : Int) (ev : List (List Int)) (he : ev.length ≤ 12) (hs : ∀ t ∈ ev, t.length ≤ 140737488355328) : ∀ (r pre : List (List Int)) (f : Nat) (c : Nat), ev = pre ++ r → r.length < f → c ≤ most → (∃ q, law09_Few_2 s most c3 ev f c pre.length = some q ∧ ((q = .inr false) ∨ (q = .inl ((c + r.flatten.length : Nat) : Int) ∧ c + r.flatten.length ≤ most)))
  | [], pre, f + 1, c, h, _, hc => by
    subst h
    unfold law09_Few_2
    rw [nlt_len]
    exact ⟨_, rfl, .inr ⟨by simp, by simpa using hc⟩⟩
  | t :: r, pre, f + 1, c, h, hf, hc => by
    have ht := hs t (by rw [h]; simp)
    by_cases hgt : c + t.length ≤ most
    · obtain ⟨q, h1, h2⟩ := few_2 s most hm c3 ev he hs r (pre ++ [t]) f (c + t.length) (by rw [h]; simp) (by simp at hf; omega) hgt
      refine ⟨q, ?_, ?_⟩
      · subst h
        unfold law09_Few_2
        rw [if_pos (lt_len pre t r), idx_app]
        simp only [Option.bind_some]
        rw [wr_snoc pre t r (by omega), wr_i (by omega) (by omega), if_neg (by simp; omega)]
        rw [← h1]
        congr 1
      · rcases h2 with h2 | ⟨h2, h3⟩
        · exact .inl h2
        · refine .inr ⟨?_, ?_⟩
          · rw [h2]; simp; omega
          · simp; simp at h3; omega
    · refine ⟨.inr false, ?_, .inl rfl⟩
      subst h
      unfold law09_Few_2
      rw [if_pos (lt_len pre t r), idx_app]
      simp only [Option.bind_some]
      rw [wr_i (by omega) (by omega), if_pos (by simp; omega)]
theorem few_1 (s : List (List (List Int))) (most : Nat) (hm : most ≤ 1000) (h70 : s.length ≤ 70) (hs : ShortS s) : ∀ (r pre : List (List (List Int))) (f : Nat) (c : Nat), s = pre ++ r → r.length < f → c ≤ most → (∃ q, law09_Few_1 s most f c pre.length = some q ∧ ((q = .inr false) ∨ (q = .inl () ∧ c + r.flatten.flatten.length ≤ most ∧ ∀ ev ∈ r, ev.length ≤ 12)))
  | [], pre, f + 1, c, h, _, hc => by
    subst h
    unfold law09_Few_1
    rw [nlt_len]
    exact ⟨_, rfl, .inr ⟨rfl, by simpa using hc, fun ev he => by cases he⟩⟩
  | ev :: r, pre, f + 1, c, h, hf, hc => by
    by_cases h12 : ev.length ≤ 12
    · obtain ⟨q, a1, a2⟩ := few_2 s most hm pre.length ev h12 (hs.tabs ev (by rw [h]; simp)).2 ev [] 100000 c rfl (by omega) hc
      rw [show ((([] : List (List Int)).length : Nat) : Int) = 0 from rfl] at a1
      rcases a2 with rfl | ⟨rfl, a3⟩
      · refine ⟨.inr false, ?_, .inl rfl⟩
        subst h
        unfold law09_Few_1
        rw [if_pos (lt_len pre ev r), idx_app]
        simp only [Option.bind_some]
        rw [if_neg (by simp; omega), a1]
        rfl
      · obtain ⟨q, h1, h2⟩ := few_1 s most hm h70 hs r (pre ++ [ev]) f (c + ev.flatten.length) (by rw [h]; simp) (by simp at hf; omega) a3
        refine ⟨q, ?_, ?_⟩
        · subst h
          unfold law09_Few_1
          rw [if_pos (lt_len pre ev r), idx_app]
          simp only [Option.bind_some]
          rw [if_neg (by simp; omega), a1]
          simp only [Option.bind_some]
          rw [wr_snoc pre ev r (by omega)]
          exact h1
        · rcases h2 with h2 | ⟨h2, h3, h4⟩
          · exact .inl h2
          · refine .inr ⟨h2, ?_, fun e he => ?_⟩
            · rw [List.flatten_cons, List.flatten_append, List.length_append]; omega
            · rcases List.mem_cons.1 he with rfl | he
              · exact h12
              · exact h4 e he
    · refine ⟨.inr false, ?_, .inl rfl⟩
      subst h
      unfold law09_Few_1
      rw [if_pos (lt_len pre ev r), idx_app]
      simp only [Option.bind_some]
      rw [if_pos (by simp; omega)]
theorem few_eq (s : List (List (List Int))) (most : Nat) (hm : most ≤ 1000) (hs : ShortS s) : ∃ b, law09_Few s most = some b ∧ (b = true → FewS s most) := by
  unfold law09_Few
  by_cases h70 : s.length ≤ 70
  · rw [if_neg (by simp; omega)]
    obtain ⟨q, h1, h2⟩ := few_1 s most hm h70 hs s [] 100000 0 rfl (by omega) (by omega)
    rw [show ((([] : List (List (List Int))).length : Nat) : Int) = 0 from rfl] at h1
    rw [show ((0 : Nat) : Int) = 0 from rfl] at h1
    rw [h1]
    rcases h2 with rfl | ⟨rfl, h3, h4⟩
    · exact ⟨false, rfl, fun h => by cases h⟩
    · exact ⟨true, rfl, fun _ => ⟨h70, h4, by omega⟩⟩
  · rw [if_pos (by simp; omega)]
    exact ⟨false, rfl, fun h => by cases h⟩
theorem copy_2 (s c1 : List (List (List Int))) (c2 : Int) (ev : List (List Int)) (he : ev.length ≤ 50000) (hs : ∀ t ∈ ev, t.length ≤ 50000) : ∀ (r pre : List (List Int)) (f : Nat), ev = pre ++ r → r.length < f → law09_Copy_2 s c1 c2 ev f pre pre.length = some ev
  | [], pre, f + 1, h, _ => by
    subst h
    unfold law09_Copy_2
    rw [nlt_len]
    simp
  | t :: r, pre, f + 1, h, hf => by
    have ht := hs t (by rw [h]; simp)
    have ih := copy_2 s c1 c2 ev he hs r (pre ++ [t]) f (by rw [h]; simp) (by simp at hf; omega)
    subst h
    have hcut : cutOk 0 (t.length : Int) (t ++ [(-9 : Int)]).length = true := by
      simp only [cutOk, Bool.and_eq_true, decide_eq_true_eq, List.length_append, List.length_singleton]; omega
    simp only [List.length_append, List.length_cons] at he
    unfold law09_Copy_2
    rw [if_pos (lt_len pre t r), idx_app]
    simp only [Option.bind_some]
    rw [if_pos (capOk_le (by omega) (by omega)), if_pos (capOk_le (by omega) (by omega)), if_pos hcut, if_pos (capOk_le (by omega) (by omega)), wr_snoc pre t r (by simp; omega)]
    rw [show (t ++ [(-9 : Int)]).take ((t.length : Int)).toNat = t by simp]
    exact ih
theorem copy_1 (s : List (List (List Int))) (he : s.length ≤ 50000) (hs : ∀ ev ∈ s, ev.length ≤ 50000 ∧ ∀ t ∈ ev, t.length ≤ 50000) : ∀ (r pre : List (List (List Int))) (f : Nat), s = pre ++ r → r.length < f → law09_Copy_1 s f pre pre.length = some s
  | [], pre, f + 1, h, _ => by
    subst h
    unfold law09_Copy_1
    rw [nlt_len]
    simp
  | ev :: r, pre, f + 1, h, hf => by
    obtain ⟨h1, h2⟩ := hs ev (by rw [h]; simp)
    have ih := copy_1 s he hs r (pre ++ [ev]) f (by rw [h]; simp) (by simp at hf; omega)
    have h3 := copy_2 s pre pre.length ev h1 h2 ev [] 100000 rfl (by omega)
    rw [show ((([] : List (List Int)).length : Nat) : Int) = 0 from rfl] at h3
    subst h
    simp only [List.length_append, List.length_cons] at he
    unfold law09_Copy_1
    rw [if_pos (lt_len pre ev r), idx_app]
    simp only [Option.bind_some]
    rw [h3]
    simp only [Option.bind_some]
    rw [if_pos (capOk_le (by omega) (by omega)), wr_snoc pre ev r (by simp; omega)]
    exact ih
theorem copy_eq (s : List (List (List Int))) (he : s.length ≤ 50000) (hs : ∀ ev ∈ s, ev.length ≤ 50000 ∧ ∀ t ∈ ev, t.length ≤ 50000) : law09_Copy s = some s := by
  unfold law09_Copy
  have := copy_1 s he hs s [] 100000 rfl (by omega)
  rw [show ((([] : List (List (List Int))).length : Nat) : Int) = 0 from rfl] at this
  rw [this]; rfl
theorem sameInts_1 (xs : List Int) (hxs : xs.length ≤ 50000) : ∀ (r pre : List Int) (f : Nat), xs = pre ++ r → r.length < f → kit_SameInts_1 xs xs f pre.length = some (.inl ())
  | [], pre, f + 1, h, _ => by
    subst h
    unfold kit_SameInts_1
    rw [nlt_len]
    rfl
  | v :: r, pre, f + 1, h, hf => by
    have ih := sameInts_1 xs hxs r (pre ++ [v]) f (by rw [h]; simp) (by simp at hf; omega)
    subst h
    unfold kit_SameInts_1
    rw [if_pos (lt_len pre v r), idx_app]
    simp only [Option.bind_some]
    rw [wr_snoc pre v r (by omega)]
    simp only [bne_self_eq_false, Bool.false_eq_true, if_false]
    exact ih
theorem sameInts_self (xs : List Int) (hxs : xs.length ≤ 50000) : kit_SameInts xs xs = some true := by
  unfold kit_SameInts
  have := sameInts_1 xs hxs xs [] 100000 rfl (by omega)
  rw [show ((([] : List Int).length : Nat) : Int) = 0 from rfl] at this
  simp only [bne_self_eq_false, Bool.false_eq_true, if_false]
  rw [this]; rfl
theorem sameLists_1 (xs : List (List Int)) (hxs : xs.length ≤ 50000) (hs : ∀ t ∈ xs, t.length ≤ 50000) : ∀ (r pre : List (List Int)) (f : Nat), xs = pre ++ r → r.length < f → kit_SameLists_1 xs xs f pre.length = some (.inl ())
  | [], pre, f + 1, h, _ => by
    subst h
    unfold kit_SameLists_1
    rw [nlt_len]
    rfl
  | v :: r, pre, f + 1, h, hf => by
    have hv := hs v (by rw [h]; simp)
    have ih := sameLists_1 xs hxs hs r (pre ++ [v]) f (by rw [h]; simp) (by simp at hf; omega)
    subst h
    unfold kit_SameLists_1
    rw [if_pos (lt_len pre v r), idx_app]
    simp only [Option.bind_some]
    rw [sameInts_self v hv]
    simp only [Option.bind_some]
    rw [wr_snoc pre v r (by omega)]
    simp only [Bool.not_true, Bool.false_eq_true, if_false]
    exact ih
theorem sameLists_self (xs : List (List Int)) (hxs : xs.length ≤ 50000) (hs : ∀ t ∈ xs, t.length ≤ 50000) : kit_SameLists xs xs = some true := by
  unfold kit_SameLists
  have := sameLists_1 xs hxs hs xs [] 100000 rfl (by omega)
  rw [show ((([] : List (List Int)).length : Nat) : Int) = 0 from rfl] at this
  simp only [bne_self_eq_false, Bool.false_eq_true, if_false]
  rw [this]; rfl
theorem equalFunc_1 (xs : List (List (List Int))) (hxs : xs.length ≤ 50000) (hs : ∀ ev ∈ xs, ev.length ≤ 50000 ∧ ∀ t ∈ ev, t.length ≤ 50000) : ∀ (r pre : List (List (List Int))) (f : Nat), xs = pre ++ r → r.length < f → slices_EqualFunc_LLL_LLL_LL_LL__law09_Same_1_1 xs xs f pre.length = some (.inl ())
  | [], pre, f + 1, h, _ => by
    subst h
    unfold slices_EqualFunc_LLL_LLL_LL_LL__law09_Same_1_1
    rw [nlt_len]
    rfl
  | v :: r, pre, f + 1, h, hf => by
    obtain ⟨h1, h2⟩ := hs v (by rw [h]; simp)
    have ih := equalFunc_1 xs hxs hs r (pre ++ [v]) f (by rw [h]; simp) (by simp at hf; omega)
    subst h
    unfold slices_EqualFunc_LLL_LLL_LL_LL__law09_Same_1_1
    rw [if_pos (lt_len pre v r), idx_app]
    simp only [Option.bind_some, law09_Same_1]
    rw [sameLists_self v h1 h2]
    simp only [Option.bind_some]
    rw [wr_snoc pre v r (by omega)]
    simp only [Bool.not_true, Bool.false_eq_true, if_false]
    exact ih
theorem same_self (xs : List (List (List Int))) (hxs : xs.length ≤ 50000) (hs : ∀ ev ∈ xs, ev.length ≤ 50000 ∧ ∀ t ∈ ev, t.length ≤ 50000) : law09_Same xs xs = some true := by
  unfold law09_Same slices_EqualFunc_LLL_LLL_LL_LL__law09_Same_1
  have := equalFunc_1 xs hxs hs xs [] 100000 rfl (by omega)
  rw [show ((([] : List (List (List Int))).length : Nat) : Int) = 0 from rfl] at this
  simp only [bne_self_eq_false, Bool.false_eq_true, if_false]
  rw [this]; rfl
theorem flat_mem {α : Type} : ∀ {s : List (List (List α))} {ev : List (List α)}, ev ∈ s → ev.flatten.length ≤ s.flatten.flatten.length
  | a :: s, ev, h => by
    simp only [List.flatten_cons, List.flatten_append, List.length_append]
    rcases List.mem_cons.1 h with rfl | h
    · omega
    · have := flat_mem h; omega
theorem FewS.lens {s : List (List (List Int))} {most : Nat} (h : FewS s most) (hm : most ≤ 1000) : s.length ≤ 50000 ∧ ∀ ev ∈ s, (ev.length ≤ 50000 ∧ ev.flatten.length ≤ 50000 ∧ ∀ t ∈ ev, t.length ≤ 50000) := by
  refine ⟨by have := h.evs; omega, fun ev he => ?_⟩
  have h1 := h.tabs ev he
  have h2 := flat_mem he
  have h3 := h.nums
  refine ⟨by omega, by omega, fun t ht => ?_⟩
  have := len_mem ht
  omega
def inc (cs : List Int) (i : Nat) : List Int := cs.set i (cs.getD i 0 + 1)
theorem inc_len (cs : List Int) (i : Nat) : (inc cs i).length = cs.length := by simp [inc]
theorem inc_get (cs : List Int) (i j : Nat) (h : j < cs.length) : (inc cs i).getD j 0 = cs.getD j 0 + (if i = j then 1 else 0) := by
  unfold inc
  by_cases e : i = j
  · subst e
    simp [List.getD_eq_getElem?_getD, h]
  · simp [List.getD_eq_getElem?_getD, e]
def zeros (n : Nat) : List Int := List.replicate n 0
theorem zeros_get (n j : Nat) : (zeros n).getD j 0 = 0 := by
  simp only [zeros, List.getD_eq_getElem?_getD, List.getElem?_replicate]
  split <;> rfl
/-- A bit of a number. -/
def tb (m i : Nat) : Bool := Nat.beq (Nat.mod (Nat.shiftRight m i) 2) 1
/-- The numbers of a list as bits; none if one stands there twice. -/
def bits : List Nat → Nat → Option Nat
  | [], m => some m
  | i :: L, m => bif tb m i then none else bits L (Nat.lor m (Nat.shiftLeft 1 i))
def toI1 (t : List Nat) : List Int := t.map Int.ofNat
def toI2 (ev : List (List Nat)) : List (List Int) := ev.map toI1
def toI3 (s : List (List (List Nat))) : List (List (List Int)) := s.map toI2
theorem toI1_len (t : List Nat) : (toI1 t).length = t.length := by simp [toI1]
theorem toI2_len (t : List (List Nat)) : (toI2 t).length = t.length := by simp [toI2]
theorem toI3_len (t : List (List (List Nat))) : (toI3 t).length = t.length := by simp [toI3]
theorem toI2_flat : ∀ (ev : List (List Nat)), (toI2 ev).flatten = toI1 ev.flatten
  | [] => rfl
  | t :: ev => by
    show toI1 t ++ (toI2 ev).flatten = toI1 (t ++ ev.flatten)
    rw [toI2_flat ev]; simp [toI1]
theorem toI1_count (L : List Nat) (x : Nat) : (toI1 L).count (x : Int) = L.count x := by
  induction L with
  | nil => rfl
  | cons v L ih =>
    show (Int.ofNat v :: toI1 L).count (x : Int) = _
    rw [List.count_cons, List.count_cons, ih]
    congr 1
    by_cases h : v = x
    · subst h; simp
    · have : ¬ (Int.ofNat v) = (x : Int) := fun e => h (Int.ofNat.inj e)
      simp [h]
      omega
theorem mem_toI1 {L : List Nat} {v : Int} (h : v ∈ toI1 L) : ∃ j ∈ L, v = Int.ofNat j := by
  obtain ⟨j, h1, h2⟩ := List.mem_map.1 h
  exact ⟨j, h1, h2.symm⟩
/- (trestle/evening.square[int]).rows -/
theorem toI1_app (a b : List Nat) : toI1 (a ++ b) = toI1 a ++ toI1 b := by simp [toI1]
theorem idx_toI1 (pre : List Nat) (x : Nat) (r : List Nat) : idx (toI1 (pre ++ x :: r)) (pre.length : Int) = some (x : Int) := by
  rw [toI1_app, ← toI1_len pre]
  exact idx_app _ _ _
theorem idx_toI2 (pre : List (List Nat)) (x : List Nat) (r : List (List Nat)) : idx (toI2 (pre ++ x :: r)) (pre.length : Int) = some (toI1 x) := by
  have : toI2 (pre ++ x :: r) = toI2 pre ++ toI1 x :: toI2 r := by simp [toI2]
  rw [this, ← toI2_len pre]
  exact idx_app _ _ _
theorem idx_toI3 (pre : List (List (List Nat))) (x : List (List Nat)) (r : List (List (List Nat))) : idx (toI3 (pre ++ x :: r)) (pre.length : Int) = some (toI2 x) := by
  have : toI3 (pre ++ x :: r) = toI3 pre ++ toI2 x :: toI3 r := by simp [toI3]
  rw [this, ← toI3_len pre]
  exact idx_app _ _ _
theorem wr_nat {k : Nat} (h : k ≤ 1000000000) : wr .i64 ((k : Int) + 1) = ((k + 1 : Nat) : Int) := by
  rw [wr_i (by omega) (by omega)]; simp
theorem len_flat {ev : List (List Nat)} (h : ∀ t ∈ ev, t.length ≠ 0) : ev.length ≤ ev.flatten.length := by
  induction ev with
  | nil => simp
  | cons t ev ih =>
    have := ih fun u hu => h u (by simp [hu])
    have := h t (by simp)
    simp only [List.flatten_cons, List.length_append, List.length_cons]; omega
/- trestle/evening.meetings -/
/- trestle/evening.Meet -/
/- Meetings. -/
theorem ty2 : Ty Tryd.prog 2 (.int .i64) 1 8 (.int .i64 0) := ⟨by kernel_rfl, by kernel_rfl⟩
end Go.Proofs.YtcmgmkepodbpkaaDoor
namespace Go.Proofs.YtcmgmkepodbpkaaDoor
/-! ## Fields -/
/-! ## Products -/
/-! ## The reference's fields -/
section guards
variable {P : Program} {Q : Exit → Act → World → Prop} {F : Frm} {l : List (Nat × Value)} {w : World} {ops : Array Oper} {rest : List Oper}
end guards
section rules
variable {P : Program} {Q : Exit → Act → World → Prop} {F : Frm} {l : List (Nat × Value)} {w : World} {ops : Array Oper} {rest : List Oper}
variable {X : List Oper → Frm → List (Nat × Value) → World → Prop} [inst : Runs P X]
variable {d : Nat} {ty t T e : TypeId} {pos : String} {af : Array Edge} {x y : Operand} {ds dT : TypeDesc} {sz by_ sT bT : Nat} {z zT : Value}
end rules
set_option linter.unusedSimpArgs false
set_option linter.unusedVariables false
set_option linter.unusedSimpArgs false
set_option linter.unusedVariables false
set_option linter.unusedSimpArgs false
set_option linter.unusedVariables false
section
variable {E : Env} {ops : Array Oper} {rest rest' : List Oper} {K : St → Prop} {n n0 k : Nat} {l : List (Nat × AV)} {hp : Hp}
end
/- trestle/evening.extremes -/
/- trestle/evening.Most -/
/- trestle/evening.Least -/
/- trestle/evening.Strain -/
/-- An evening of these sizes, everybody once. -/
structure Evn (n : Nat) (sz : List Nat) (ev : List (List Nat)) : Prop where
  sz_ : ev.map List.length = sz
  ne : ∀ t ∈ ev, t.length ≠ 0
  cnt : ∀ j, ev.flatten.count j = if j < n then 1 else 0
section
variable {n : Nat} {sz : List Nat} {ev : List (List Nat)} {s : List (List (List Nat))}
theorem Evn.flt (h : Evn n sz ev) {j : Nat} (hj : j ∈ ev.flatten) : j < n := by
  have := h.cnt j
  have := List.count_pos_iff.2 hj
  split at * <;> omega
theorem Evn.lt (h : Evn n sz ev) : ∀ t ∈ ev, ∀ x ∈ t, x < n := fun t ht _ hx => h.flt (List.mem_flatten.2 ⟨t, ht, hx⟩)
theorem Evn.len (h : Evn n sz ev) : ev.flatten.length = sz.sum := by rw [List.length_flatten, h.sz_]
end
/- trestle/evening.Together -/
/- Together. -/
theorem index_1 (xs : List Int) (v : Int) (hl : xs.length ≤ 90000) : ∀ (r pre : List Int) (f : Nat), xs = pre ++ r → r.length < f → (v ∈ r → ∃ p : Nat, slices_Index_L_int_1 xs v f pre.length = some (.inr (p : Int))) ∧ (¬ v ∈ r → slices_Index_L_int_1 xs v f pre.length = some (.inl ()))
  | [], pre, f + 1, h, _ => by
    refine ⟨fun h => by simp at h, fun _ => ?_⟩
    unfold slices_Index_L_int_1
    rw [if_neg (by rw [h]; simp)]
  | u :: r, pre, f + 1, h, hf => by
    obtain ⟨ih1, ih2⟩ := index_1 xs v hl r (pre ++ [u]) f (by rw [h]; simp) (by simp at hf; omega)
    have hp : pre.length < xs.length := by rw [h]; simp
    have a3 : ((pre.length + 1 : Nat) : Int) = ((pre ++ [u]).length : Int) := by simp
    have st : slices_Index_L_int_1 xs v (f + 1) pre.length = if (v == u) = true then some (.inr (pre.length : Int)) else slices_Index_L_int_1 xs v f ((pre ++ [u]).length : Int) := by
      conv => lhs; unfold slices_Index_L_int_1
      rw [if_pos (by rw [h]; simp; omega), show idx xs (pre.length : Int) = some u by rw [h]; exact idx_app pre u r]
      simp only [Option.bind_some]
      rw [wr_nat (by omega), a3]
    rw [st]
    by_cases e : v = u
    · subst e
      simp only [beq_self_eq_true, if_true]
      exact ⟨fun _ => ⟨_, rfl⟩, fun h => absurd (List.mem_cons_self) h⟩
    · have : (v == u) = false := by simpa using e
      simp only [this, Bool.false_eq_true, if_false]
      exact ⟨fun h => ih1 (by simpa [e] using h), fun h => ih2 (by simpa [e] using h)⟩
theorem contains_eq (xs : List Int) (v : Int) (hl : xs.length ≤ 90000) : slices_Contains_L_int xs v = some (decide (v ∈ xs)) := by
  obtain ⟨h1, h2⟩ := index_1 xs v hl xs [] 100000 rfl (by omega)
  rw [show ((([] : List Int).length : Nat) : Int) = 0 from rfl] at h1 h2
  unfold slices_Contains_L_int slices_Index_L_int
  by_cases h : v ∈ xs
  · obtain ⟨p, hp⟩ := h1 h
    rw [hp]
    simp [h]
  · rw [h2 h]
    simp [h]
theorem mem_toI {t : List Nat} {x : Nat} : ((x : Int) ∈ toI1 t) ↔ x ∈ t := by
  constructor
  · intro h
    obtain ⟨j, hj, e⟩ := mem_toI1 h
    have : x = j := by
      have : (x : Int) = (j : Int) := e
      omega
    rw [this]; exact hj
  · intro h
    exact List.mem_map.2 ⟨x, h, rfl⟩
/- trestle/evening.Beside -/
/-- An evening with everybody once. -/
def EvV (n : Nat) (ev : List (List Nat)) : Prop := Evn n (ev.map List.length) ev
theorem cnt_len {L : List Nat} {n : Nat} (h : ∀ j, L.count j = if j < n then 1 else 0) : L.length = n := by
  have hp : L.Perm (List.range n) := List.perm_iff_count.2 fun j => by rw [h, List.count_range]
  rw [hp.length_eq]; simp
theorem EvV.flen {n : Nat} {ev : List (List Nat)} (h : EvV n ev) : ev.flatten.length = n := cnt_len h.cnt
theorem EvV.elen {n : Nat} {ev : List (List Nat)} (h : EvV n ev) : ev.length ≤ n := by
  have := len_flat h.ne
  rw [h.flen] at this
  exact this
theorem EvV.tlen {n : Nat} {ev : List (List Nat)} (h : EvV n ev) {t : List Nat} (ht : t ∈ ev) : t.length ≤ n := by
  have := len_mem ht
  rw [h.flen] at this
  exact this
section
variable {n : Nat} {s : List (List (List Nat))}
end
theorem chkS_inv (n : Int) (sz : List Int) : ∀ (s : List (List (List Int))) (i : Int), (chkS n sz s i).2 = 0 → ∀ ev ∈ s, chk n sz ev = 0
  | [], _, _, ev, h => by cases h
  | e :: s, i, h, ev, hm => by
    unfold chkS at h
    by_cases hc : chk n sz e = 0
    · rw [hc] at h
      rcases List.mem_cons.1 hm with rfl | hm
      · exact hc
      · exact chkS_inv n sz s (i + 1) h ev hm
    · have : (chk n sz e != 0) = true := by simpa using hc
      rw [this] at h
      exact absurd h hc
theorem anyN_no {p : Int → Bool} {k : Nat} (h : anyN p k 0 = false) (x : Nat) (hx : x < k) : p x = false := by
  cases e : p x with
  | false => rfl
  | true =>
    have := (anyN_iff p k 0).2 ⟨(x : Int), by omega, by omega, e⟩
    rw [h] at this
    cases this
theorem sbad_inv : ∀ (r : List (List Int)) (i : Int), sbad [] r i = false → ∀ t ∈ r, t.length ≠ 0
  | [], _, _, t, h => by cases h
  | u :: r, i, h, t, hm => by
    unfold sbad at h
    simp only [Bool.or_eq_false_iff] at h
    rcases List.mem_cons.1 hm with rfl | hm
    · have := h.1.1
      intro e
      rw [e] at this
      cases this
    · exact sbad_inv r (i + 1) h.2 t hm
theorem chk_inv {n : Nat} {ev : List (List Int)} (h : chk n [] ev = 0) : (∀ t ∈ ev, t.length ≠ 0) ∧ (∀ v ∈ ev.flatten, 0 ≤ v ∧ v < n) ∧ ∀ x : Nat, x < n → ev.flatten.count (x : Int) = 1 := by
  unfold chk at h
  rw [if_neg (by simp)] at h
  cases hb : sbad [] ev 0 with
  | true => rw [hb, if_pos rfl] at h; cases h
  | false =>
    rw [hb, if_neg Bool.false_ne_true] at h
    cases hu : ev.flatten.any (badV n) with
    | true => rw [hu, if_pos rfl] at h; cases h
    | false =>
      rw [hu, if_neg Bool.false_ne_true] at h
      cases h5 : anyN (fun x => decide ((ev.flatten.count x : Int) > 1)) (n : Int).toNat 0 with
      | true => rw [h5, if_pos rfl] at h; cases h
      | false =>
        rw [h5, if_neg Bool.false_ne_true] at h
        cases h2 : anyN (fun x => ((ev.flatten.count x : Int) == 0)) (n : Int).toNat 0 with
        | true => rw [h2, if_pos rfl] at h; cases h
        | false =>
          refine ⟨sbad_inv ev 0 hb, fun v hv => ?_, fun x hx => ?_⟩
          · have := List.any_eq_false.1 hu v hv
            simp only [badV, decide_eq_true_eq] at this
            omega
          · have a := anyN_no h5 x (by simpa using hx)
            have b := anyN_no h2 x (by simpa using hx)
            have a : ¬ ((ev.flatten.count (x : Int) : Nat) : Int) > 1 := of_decide_eq_false a
            have b : ¬ ((ev.flatten.count (x : Int) : Nat) : Int) = 0 := by simpa using b
            omega
def toN1 (t : List Int) : List Nat := t.map Int.toNat
def toN2 (ev : List (List Int)) : List (List Nat) := ev.map toN1
def toN3 (s : List (List (List Int))) : List (List (List Nat)) := s.map toN2
theorem toN1_I {t : List Int} (h : ∀ v ∈ t, 0 ≤ v) : toI1 (toN1 t) = t := by
  induction t with
  | nil => rfl
  | cons v t ih =>
    show Int.ofNat v.toNat :: toI1 (toN1 t) = v :: t
    rw [ih fun w hw => h w (by simp [hw])]
    have := h v (by simp)
    congr 1
    show ((v.toNat : Nat) : Int) = v
    omega
theorem toN2_I {ev : List (List Int)} (h : ∀ v ∈ ev.flatten, 0 ≤ v) : toI2 (toN2 ev) = ev := by
  induction ev with
  | nil => rfl
  | cons t ev ih =>
    show toI1 (toN1 t) :: toI2 (toN2 ev) = t :: ev
    rw [ih fun w hw => h w (by simp only [List.flatten_cons, List.mem_append]; exact .inr hw), toN1_I fun w hw => h w (by simp only [List.flatten_cons, List.mem_append]; exact .inl hw)]
theorem toN3_I {s : List (List (List Int))} (h : ∀ ev ∈ s, ∀ v ∈ ev.flatten, 0 ≤ v) : toI3 (toN3 s) = s := by
  induction s with
  | nil => rfl
  | cons ev s ih =>
    show toI2 (toN2 ev) :: toI3 (toN3 s) = ev :: s
    rw [ih fun e he => h e (by simp [he]), toN2_I (h ev (by simp))]
theorem evv_of {n : Nat} {ev : List (List Int)} (h : chk n [] ev = 0) : toI2 (toN2 ev) = ev ∧ EvV n (toN2 ev) := by
  obtain ⟨h1, h2, h3⟩ := chk_inv h
  have e := toN2_I fun v hv => (h2 v hv).1
  refine ⟨e, ⟨rfl, fun t ht => ?_, fun j => ?_⟩⟩
  · obtain ⟨u, hu, rfl⟩ := List.mem_map.1 ht
    unfold toN1
    rw [List.length_map]
    exact h1 u hu
  · have hc : (toN2 ev).flatten.count j = ev.flatten.count (j : Int) := by
      rw [← toI1_count, ← toI2_flat, e]
    rw [hc]
    by_cases hj : j < n
    · rw [if_pos hj, h3 j hj]
    · rw [if_neg hj]
      refine List.count_eq_zero.2 fun hm => ?_
      have := (h2 _ hm).2
      omega
theorem clone_2 (ev : List (List Int)) (he : ev.length ≤ 50000) (hs : ∀ t ∈ ev, t.length ≤ 50000) : ∀ (r pre : List (List Int)) (f : Nat), ev = pre ++ r → r.length < f → evening_clone_d_2 ev f pre.length pre = some ev
  | [], pre, f + 1, h, _ => by
    subst h
    unfold evening_clone_d_2
    rw [nlt_len]
    simp
  | t :: r, pre, f + 1, h, hf => by
    have ht := hs t (by rw [h]; simp)
    have ih := clone_2 ev he hs r (pre ++ [t]) f (by rw [h]; simp) (by simp at hf; omega)
    subst h
    simp only [List.length_append, List.length_cons] at he
    unfold evening_clone_d_2
    rw [if_pos (lt_len pre t r), idx_app]
    simp only [Option.bind_some]
    rw [if_pos (capOk_le (by omega) (by omega)), if_pos (capOk_le (by omega) (by simp; omega)), wr_snoc pre t r (by simp; omega)]
    exact ih
theorem clone_1 (s : List (List (List Int))) (he : s.length ≤ 50000) (hs : ∀ ev ∈ s, ev.length ≤ 50000 ∧ ∀ t ∈ ev, t.length ≤ 50000) : ∀ (r pre : List (List (List Int))) (f : Nat), s = pre ++ r → r.length < f → evening_clone_d_1 s f pre.length pre = some s
  | [], pre, f + 1, h, _ => by
    subst h
    unfold evening_clone_d_1
    rw [nlt_len]
    simp
  | ev :: r, pre, f + 1, h, hf => by
    obtain ⟨h1, h2⟩ := hs ev (by rw [h]; simp)
    have ih := clone_1 s he hs r (pre ++ [ev]) f (by rw [h]; simp) (by simp at hf; omega)
    have h3 := clone_2 ev h1 h2 ev [] 100000 rfl (by omega)
    rw [show ((([] : List (List Int)).length : Nat) : Int) = 0 from rfl] at h3
    subst h
    simp only [List.length_append, List.length_cons] at he
    unfold evening_clone_d_1
    rw [if_pos (lt_len pre ev r), idx_app]
    simp only [Option.bind_some]
    rw [h3]
    simp only [Option.bind_some]
    rw [if_pos (capOk_le (by omega) (by simp; omega)), wr_snoc pre ev r (by simp; omega)]
    exact ih
theorem clone_eq (s : List (List (List Int))) (he : s.length ≤ 50000) (hs : ∀ ev ∈ s, ev.length ≤ 50000 ∧ ∀ t ∈ ev, t.length ≤ 50000) : evening_clone_d s = some s := by
  unfold evening_clone_d
  have := clone_1 s he hs s [] 100000 rfl (by omega)
  rw [show ((([] : List (List (List Int))).length : Nat) : Int) = 0 from rfl] at this
  rw [this]; rfl
theorem rcopyI_1 (t : List Int) (he : t.length ≤ 50000) : ∀ (r pre : List Int) (f : Nat), t = pre ++ r → r.length < f → kit_CopyInts_d_1 t f pre.length pre = some t
  | [], pre, f + 1, h, _ => by
    subst h
    unfold kit_CopyInts_d_1
    rw [nlt_len]
    simp
  | x :: r, pre, f + 1, h, hf => by
    have ih := rcopyI_1 t he r (pre ++ [x]) f (by rw [h]; simp) (by simp at hf; omega)
    subst h
    simp only [List.length_append, List.length_cons] at he
    unfold kit_CopyInts_d_1
    rw [if_pos (lt_len pre x r), idx_app]
    simp only [Option.bind_some]
    rw [if_pos (capOk_le (by omega) (by simp; omega)), wr_snoc pre x r (by simp; omega)]
    exact ih
theorem rcopyL_1 (ev : List (List Int)) (he : ev.length ≤ 50000) (hs : ∀ t ∈ ev, t.length ≤ 50000) : ∀ (r pre : List (List Int)) (f : Nat), ev = pre ++ r → r.length < f → kit_CopyLists_d_1 ev f pre.length pre = some ev
  | [], pre, f + 1, h, _ => by
    subst h
    unfold kit_CopyLists_d_1
    rw [nlt_len]
    simp
  | t :: r, pre, f + 1, h, hf => by
    have ht := hs t (by rw [h]; simp)
    have ih := rcopyL_1 ev he hs r (pre ++ [t]) f (by rw [h]; simp) (by simp at hf; omega)
    have h3 := rcopyI_1 t ht t [] 100000 rfl (by omega)
    rw [show ((([] : List Int).length : Nat) : Int) = 0 from rfl] at h3
    subst h
    simp only [List.length_append, List.length_cons] at he
    unfold kit_CopyLists_d_1 kit_CopyInts_d
    rw [if_pos (lt_len pre t r), idx_app]
    simp only [Option.bind_some]
    rw [h3]
    simp only [Option.bind_some]
    rw [if_pos (capOk_le (by omega) (by simp; omega)), wr_snoc pre t r (by simp; omega)]
    exact ih
theorem rcopy_1 (s : List (List (List Int))) (he : s.length ≤ 50000) (hs : ∀ ev ∈ s, ev.length ≤ 50000 ∧ ∀ t ∈ ev, t.length ≤ 50000) : ∀ (r pre : List (List (List Int))) (f : Nat), s = pre ++ r → r.length < f → ref09_Copy_d_1 s f pre.length pre = some s
  | [], pre, f + 1, h, _ => by
    subst h
    unfold ref09_Copy_d_1
    rw [nlt_len]
    simp
  | ev :: r, pre, f + 1, h, hf => by
    obtain ⟨h1, h2⟩ := hs ev (by rw [h]; simp)
    have ih := rcopy_1 s he hs r (pre ++ [ev]) f (by rw [h]; simp) (by simp at hf; omega)
    have h3 := rcopyL_1 ev h1 h2 ev [] 100000 rfl (by omega)
    rw [show ((([] : List (List Int)).length : Nat) : Int) = 0 from rfl] at h3
    subst h
    simp only [List.length_append, List.length_cons] at he
    unfold ref09_Copy_d_1 kit_CopyLists_d
    rw [if_pos (lt_len pre ev r), idx_app]
    simp only [Option.bind_some]
    rw [h3]
    simp only [Option.bind_some]
    rw [if_pos (capOk_le (by omega) (by simp; omega)), wr_snoc pre ev r (by simp; omega)]
    exact ih
theorem rcopy_eq (s : List (List (List Int))) (he : s.length ≤ 50000) (hs : ∀ ev ∈ s, ev.length ≤ 50000 ∧ ∀ t ∈ ev, t.length ≤ 50000) : ref09_Copy_d s = some s := by
  unfold ref09_Copy_d
  have := rcopy_1 s he hs s [] 100000 rfl (by omega)
  rw [show ((([] : List (List (List Int))).length : Nat) : Int) = 0 from rfl] at this
  rw [this]; rfl
/- Other names. -/
def nm1 (p : List Int) (t : List Int) : List Int := t.map fun k => p.getD k.toNat 0
def nm2 (p : List Int) (ev : List (List Int)) : List (List Int) := ev.map (nm1 p)
def nm3 (p : List Int) (s : List (List (List Int))) : List (List (List Int)) := s.map (nm2 p)
theorem idx_getD {p : List Int} {k : Int} (h0 : 0 ≤ k) (h1 : k < p.length) : idx p k = some (p.getD k.toNat 0) := by
  obtain ⟨j, rfl⟩ : ∃ j : Nat, k = j := ⟨k.toNat, by omega⟩
  have hj : j < p.length := by omega
  rw [idx_lt hj, Int.toNat_natCast, List.getD_eq_getElem?_getD, List.getElem?_eq_getElem hj]
  rfl
theorem set_app {α : Type} (pre : List α) (x y : α) (r : List α) : (pre ++ x :: r).set ((pre.length : Int)).toNat y = pre ++ y :: r := by
  rw [Int.toNat_natCast]
  simp
theorem rel_3 (p : List Int) (ev0 : List (List Int)) (i : Int) (t : List Int) (hl : t.length ≤ 50000) (ht : ∀ k ∈ t, 0 ≤ k ∧ k < p.length) : ∀ (r pre : List Int) (f : Nat), t = pre ++ r → r.length < f → evening_Relabel_d_3 p i ev0 t f pre.length (nm1 p pre ++ r) = some (ev0.set i.toNat (nm1 p t))
  | [], pre, f + 1, h, _ => by
    subst h
    unfold evening_Relabel_d_3
    rw [nlt_len]
    simp
  | k :: r, pre, f + 1, h, hf => by
    have hk := ht k (by rw [h]; simp)
    have ih := rel_3 p ev0 i t hl ht r (pre ++ [k]) f (by rw [h]; simp) (by simp at hf; omega)
    have e1 : ((pre.length : Nat) : Int) = ((nm1 p pre).length : Int) := by simp [nm1]
    have e2 : nm1 p (pre ++ [k]) ++ r = nm1 p pre ++ p.getD k.toNat 0 :: r := by simp [nm1]
    rw [e2] at ih
    unfold evening_Relabel_d_3
    rw [if_pos (by rw [h]; simp; omega)]
    have hi : idx (nm1 p pre ++ k :: r) ((pre.length : Nat) : Int) = some k := by rw [e1]; exact idx_app _ _ _
    rw [hi]
    simp only [Option.bind_some]
    rw [idx_getD hk.1 hk.2]
    simp only [Option.bind_some]
    have hw : wr .i64 ((pre.length : Int) + 1) = ((pre ++ [k]).length : Int) := wr_snoc pre k r (by rw [← h]; omega)
    rw [hw, show (nm1 p pre ++ k :: r).set ((pre.length : Nat) : Int).toNat (p.getD k.toNat 0) = nm1 p pre ++ p.getD k.toNat 0 :: r by rw [e1]; exact set_app _ _ _ _]
    exact ih
theorem rel_2 (p : List Int) (s0 : List (List (List Int))) (i : Int) (ev : List (List Int)) (hl : ev.length ≤ 50000) (ht : ∀ t ∈ ev, t.length ≤ 50000 ∧ ∀ k ∈ t, 0 ≤ k ∧ k < p.length) : ∀ (r pre : List (List Int)) (f : Nat), ev = pre ++ r → r.length < f → evening_Relabel_d_2 p i s0 ev f pre.length (nm2 p pre ++ r) = some (s0.set i.toNat (nm2 p ev))
  | [], pre, f + 1, h, _ => by
    subst h
    unfold evening_Relabel_d_2
    rw [nlt_len]
    simp
  | t :: r, pre, f + 1, h, hf => by
    obtain ⟨h1, h2⟩ := ht t (by rw [h]; simp)
    have ih := rel_2 p s0 i ev hl ht r (pre ++ [t]) f (by rw [h]; simp) (by simp at hf; omega)
    have e1 : ((pre.length : Nat) : Int) = ((nm2 p pre).length : Int) := by simp [nm2]
    have e2 : nm2 p (pre ++ [t]) ++ r = nm2 p pre ++ nm1 p t :: r := by simp [nm2]
    rw [e2] at ih
    have h3 := rel_3 p (nm2 p pre ++ t :: r) pre.length t h1 h2 t [] 100000 rfl (by omega)
    rw [show ((([] : List Int).length : Nat) : Int) = 0 from rfl, show nm1 p [] ++ t = t from rfl] at h3
    unfold evening_Relabel_d_2
    rw [if_pos (by rw [h]; simp; omega)]
    have hi : idx (nm2 p pre ++ t :: r) ((pre.length : Nat) : Int) = some t := by rw [e1]; exact idx_app _ _ _
    rw [hi]
    simp only [Option.bind_some]
    rw [h3]
    simp only [Option.bind_some]
    have hw : wr .i64 ((pre.length : Int) + 1) = ((pre ++ [t]).length : Int) := wr_snoc pre t r (by rw [← h]; omega)
    rw [hw, show (nm2 p pre ++ t :: r).set ((pre.length : Nat) : Int).toNat (nm1 p t) = nm2 p pre ++ nm1 p t :: r by rw [e1]; exact set_app _ _ _ _]
    exact ih
theorem rel_1 (p : List Int) (s : List (List (List Int))) (hl : s.length ≤ 50000) (ht : ∀ ev ∈ s, ev.length ≤ 50000 ∧ ∀ t ∈ ev, t.length ≤ 50000 ∧ ∀ k ∈ t, 0 ≤ k ∧ k < p.length) : ∀ (r pre : List (List (List Int))) (f : Nat), s = pre ++ r → r.length < f → evening_Relabel_d_1 p s f pre.length (nm3 p pre ++ r) = some (nm3 p s)
  | [], pre, f + 1, h, _ => by
    subst h
    unfold evening_Relabel_d_1
    rw [nlt_len]
    simp
  | t :: r, pre, f + 1, h, hf => by
    obtain ⟨h1, h2⟩ := ht t (by rw [h]; simp)
    have ih := rel_1 p s hl ht r (pre ++ [t]) f (by rw [h]; simp) (by simp at hf; omega)
    have e1 : ((pre.length : Nat) : Int) = ((nm3 p pre).length : Int) := by simp [nm3]
    have e2 : nm3 p (pre ++ [t]) ++ r = nm3 p pre ++ nm2 p t :: r := by simp [nm3]
    rw [e2] at ih
    have h3 := rel_2 p (nm3 p pre ++ t :: r) pre.length t h1 h2 t [] 100000 rfl (by omega)
    rw [show ((([] : List (List Int)).length : Nat) : Int) = 0 from rfl, show nm2 p [] ++ t = t from rfl] at h3
    unfold evening_Relabel_d_1
    rw [if_pos (by rw [h]; simp; omega)]
    have hi : idx (nm3 p pre ++ t :: r) ((pre.length : Nat) : Int) = some t := by rw [e1]; exact idx_app _ _ _
    rw [hi]
    simp only [Option.bind_some]
    rw [h3]
    simp only [Option.bind_some]
    have hw : wr .i64 ((pre.length : Int) + 1) = ((pre ++ [t]).length : Int) := wr_snoc pre t r (by rw [← h]; omega)
    rw [hw, show (nm3 p pre ++ t :: r).set ((pre.length : Nat) : Int).toNat (nm2 p t) = nm3 p pre ++ nm2 p t :: r by rw [e1]; exact set_app _ _ _ _]
    exact ih
theorem rel_all (p : List Int) (s : List (List (List Int))) (hl : s.length ≤ 50000) (ht : ∀ ev ∈ s, ev.length ≤ 50000 ∧ ∀ t ∈ ev, t.length ≤ 50000 ∧ ∀ k ∈ t, 0 ≤ k ∧ k < p.length) : evening_Relabel_d_1 p s 100000 0 s = some (nm3 p s) := by
  have := rel_1 p s hl ht s [] 100000 rfl (by omega)
  rw [show ((([] : List (List (List Int))).length : Nat) : Int) = 0 from rfl, show nm3 p [] ++ s = s from rfl] at this
  exact this
/- What is written over. -/
theorem spoil_3 (i : Int) (ev0 : List (List Int)) (t : List Int) (hl : t.length ≤ 50000) : ∀ (r : List Int) (pre a : List Int) (f : Nat), t = pre ++ r → a.length = pre.length → r.length < f → ∃ m, law09_spoil_d_3 i ev0 t f pre.length (a ++ r) = some (ev0.set i.toNat m)
  | [], pre, a, f + 1, h, _, _ => by
    subst h
    unfold law09_spoil_d_3
    rw [nlt_len]
    exact ⟨_, rfl⟩
  | k :: r, pre, a, f + 1, h, ha, hf => by
    obtain ⟨m, ih⟩ := spoil_3 i ev0 t hl r (pre ++ [k]) (a ++ [xorI .i64 k 1]) f (by rw [h]; simp) (by simp [ha]) (by simp at hf; omega)
    refine ⟨m, ?_⟩
    have hi : idx (a ++ k :: r) ((pre.length : Nat) : Int) = some k := by rw [← ha]; exact idx_app _ _ _
    have hw : wr .i64 ((pre.length : Int) + 1) = ((pre ++ [k]).length : Int) := wr_snoc pre k r (by rw [← h]; omega)
    unfold law09_spoil_d_3
    rw [if_pos (by rw [h]; simp; omega), hi]
    simp only [Option.bind_some]
    rw [hw, show (a ++ k :: r).set ((pre.length : Nat) : Int).toNat (xorI .i64 k 1) = a ++ xorI .i64 k 1 :: r by rw [← ha]; exact set_app _ _ _ _]
    rw [List.append_assoc] at ih
    exact ih
theorem spoil_2 (i : Int) (s0 : List (List (List Int))) (ev : List (List Int)) (hl : ev.length ≤ 50000) (ht : ∀ t ∈ ev, t.length ≤ 50000) : ∀ (r : List (List Int)) (pre a : List (List Int)) (f : Nat), ev = pre ++ r → a.length = pre.length → r.length < f → ∃ m, law09_spoil_d_2 i s0 ev f pre.length (a ++ r) = some (s0.set i.toNat m)
  | [], pre, a, f + 1, h, _, _ => by
    subst h
    unfold law09_spoil_d_2
    rw [nlt_len]
    exact ⟨_, rfl⟩
  | k :: r, pre, a, f + 1, h, ha, hf => by
    have h1 := ht k (by rw [h]; simp)
    obtain ⟨m3, h3⟩ := spoil_3 pre.length (a ++ k :: r) k h1 k [] [] 100000 rfl rfl (by omega)
    rw [show ((([] : List Int).length : Nat) : Int) = 0 from rfl, List.nil_append] at h3
    obtain ⟨m, ih⟩ := spoil_2 i s0 ev hl ht r (pre ++ [k]) (a ++ [m3]) f (by rw [h]; simp) (by simp [ha]) (by simp at hf; omega)
    refine ⟨m, ?_⟩
    have hi : idx (a ++ k :: r) ((pre.length : Nat) : Int) = some k := by rw [← ha]; exact idx_app _ _ _
    have hw : wr .i64 ((pre.length : Int) + 1) = ((pre ++ [k]).length : Int) := wr_snoc pre k r (by rw [← h]; omega)
    unfold law09_spoil_d_2
    rw [if_pos (by rw [h]; simp; omega), hi]
    simp only [Option.bind_some]
    rw [h3]
    simp only [Option.bind_some]
    rw [hw, show (a ++ k :: r).set ((pre.length : Nat) : Int).toNat m3 = a ++ m3 :: r by rw [← ha]; exact set_app _ _ _ _]
    rw [List.append_assoc] at ih
    exact ih
theorem spoil_1 (s : List (List (List Int))) (hl : s.length ≤ 50000) (ht : ∀ ev ∈ s, ev.length ≤ 50000 ∧ ∀ t ∈ ev, t.length ≤ 50000) : ∀ (r : List (List (List Int))) (pre a : List (List (List Int))) (f : Nat), s = pre ++ r → a.length = pre.length → r.length < f → ∃ m, law09_spoil_d_1 s f pre.length (a ++ r) = some m
  | [], pre, a, f + 1, h, _, _ => by
    subst h
    unfold law09_spoil_d_1
    rw [nlt_len]
    exact ⟨_, rfl⟩
  | k :: r, pre, a, f + 1, h, ha, hf => by
    obtain ⟨h1, h2⟩ := ht k (by rw [h]; simp)
    obtain ⟨m3, h3⟩ := spoil_2 pre.length (a ++ k :: r) k h1 h2 k [] [] 100000 rfl rfl (by omega)
    rw [show ((([] : List (List Int)).length : Nat) : Int) = 0 from rfl, List.nil_append] at h3
    obtain ⟨m, ih⟩ := spoil_1 s hl ht r (pre ++ [k]) (a ++ [m3]) f (by rw [h]; simp) (by simp [ha]) (by simp at hf; omega)
    refine ⟨m, ?_⟩
    have hi : idx (a ++ k :: r) ((pre.length : Nat) : Int) = some k := by rw [← ha]; exact idx_app _ _ _
    have hw : wr .i64 ((pre.length : Int) + 1) = ((pre ++ [k]).length : Int) := wr_snoc pre k r (by rw [← h]; omega)
    unfold law09_spoil_d_1
    rw [if_pos (by rw [h]; simp; omega), hi]
    simp only [Option.bind_some]
    rw [h3]
    simp only [Option.bind_some]
    rw [hw, show (a ++ k :: r).set ((pre.length : Nat) : Int).toNat m3 = a ++ m3 :: r by rw [← ha]; exact set_app _ _ _ _]
    rw [List.append_assoc] at ih
    exact ih
theorem spoil_some (s : List (List (List Int))) (hl : s.length ≤ 50000) (ht : ∀ ev ∈ s, ev.length ≤ 50000 ∧ ∀ t ∈ ev, t.length ≤ 50000) : ∃ m, law09_spoil_d s = some m := by
  obtain ⟨m, h⟩ := spoil_1 s hl ht s [] [] 100000 rfl rfl (by omega)
  rw [show ((([] : List (List (List Int))).length : Nat) : Int) = 0 from rfl, List.nil_append] at h
  refine ⟨m, ?_⟩
  unfold law09_spoil_d
  rw [h]; rfl
/- Permutations. -/
theorem perm_of_sub : ∀ (l p : List Int), l.Nodup → (∀ x ∈ l, x ∈ p) → p.length ≤ l.length → p.Perm l
  | [], p, _, _, h => by
    have : p = [] := by cases p with
      | nil => rfl
      | cons => simp at h
    subst this; exact .nil
  | x :: l, p, hd, hs, h => by
    have hx := hs x (by simp)
    have h1 := List.perm_cons_erase hx
    have hd2 := List.nodup_cons.1 hd
    refine h1.trans (List.Perm.cons x (perm_of_sub l (p.erase x) hd2.2 (fun y hy => ?_) ?_))
    · have hne : y ≠ x := fun e => hd2.1 (e ▸ hy)
      exact (List.mem_erase_of_ne hne).2 (hs y (by simp [hy]))
    · rw [List.length_erase_of_mem hx]; simp at h; omega
def allIn (p : List Int) : Nat → Nat → Bool
  | 0, _ => true
  | k + 1, i => decide ((i : Int) ∈ p) && allIn p k (i + 1)
theorem allIn_iff (p : List Int) : ∀ (k i : Nat), allIn p k i = true ↔ ∀ x : Nat, i ≤ x → x < i + k → (x : Int) ∈ p
  | 0, i => by simp [allIn]; intro x h1 h2; omega
  | k + 1, i => by
    rw [allIn, Bool.and_eq_true, decide_eq_true_eq, allIn_iff p k (i + 1)]
    constructor
    · rintro ⟨h1, h2⟩ x hx hy
      by_cases e : x = i
      · rw [e]; exact h1
      · exact h2 x (by omega) (by omega)
    · intro h
      exact ⟨h i (Nat.le_refl _) (by omega), fun x hx hy => h x (by omega) (by omega)⟩
theorem perm_1 (p : List Int) (hl : p.length ≤ 90000) (n : Nat) (hn : n ≤ 64) : ∀ (k i f : Nat), i + k = n → k < f → law09_permutation_1 p n f i = some (if allIn p k i = true then .inl () else .inr false)
  | 0, i, f + 1, h, _ => by
    unfold law09_permutation_1
    rw [if_neg (by simp; omega)]
    rfl
  | k + 1, i, f + 1, h, hf => by
    have ih := perm_1 p hl n hn k (i + 1) f (by omega) (by omega)
    unfold law09_permutation_1
    rw [if_pos (by simp; omega), contains_eq p i hl]
    rw [show allIn p (k + 1) i = (decide ((i : Int) ∈ p) && allIn p k (i + 1)) from rfl]
    simp only [Option.bind_some]
    by_cases hi : (i : Int) ∈ p
    · simp only [decide_eq_true hi, Bool.not_true, Bool.false_eq_true, if_false, Bool.true_and]
      rw [wr_nat (by omega), ih]
    · simp [decide_eq_false hi]
theorem perm_eq (p : List Int) (hl : p.length ≤ 90000) (n : Nat) (hn : n ≤ 64) : law09_permutation p n = some (decide (p.length = n) && allIn p n 0) := by
  unfold law09_permutation
  by_cases h : p.length = n
  · rw [h]
    simp only [bne_self_eq_false, Bool.false_eq_true, if_false]
    have := perm_1 p hl n hn n 0 100000 (by omega) (by omega)
    rw [show ((0 : Nat) : Int) = 0 from rfl] at this
    rw [this]
    simp only [Option.bind_some, decide_true, Bool.true_and]
    cases allIn p n 0 <;> rfl
  · have : ((p.length : Int) != (n : Int)) = true := by simp; omega
    rw [this, if_pos rfl, decide_eq_false h]
    rfl
theorem perm_chk (p : List Int) (n : Nat) (h1 : 1 ≤ n) (hn : n ≤ 64) (hl : p.length = n) : chk n [(n : Int)] [p] = 0 ↔ ∀ x : Nat, x < n → (x : Int) ∈ p := by
  have hsb : sbad [(n : Int)] [p] 0 = false := by
    unfold sbad sbad
    simp [hl, idx]
    omega
  have hfl : [p].flatten = p := by simp
  constructor
  · intro h x hx
    unfold chk at h
    rw [hsb, hfl] at h
    rw [if_neg (by simp), if_neg Bool.false_ne_true] at h
    cases hu : p.any (badV n) with
    | true => rw [hu, if_pos rfl] at h; cases h
    | false =>
      rw [hu, if_neg Bool.false_ne_true] at h
      cases h5 : anyN (fun x => decide ((p.count x : Int) > 1)) (n : Int).toNat 0 with
      | true => rw [h5, if_pos rfl] at h; cases h
      | false =>
        rw [h5, if_neg Bool.false_ne_true] at h
        cases h2 : anyN (fun x => ((p.count x : Int) == 0)) (n : Int).toNat 0 with
        | true => rw [h2, if_pos rfl] at h; cases h
        | false =>
          have b := anyN_no h2 x (by simpa using hx)
          have b : ¬ ((p.count (x : Int) : Nat) : Int) = 0 := by simpa using b
          exact List.count_pos_iff.1 (by omega)
  · intro h
    have hp : p.Perm (toI1 (List.range n)) := perm_of_sub _ _ (by
      unfold toI1
      exact (List.pairwise_map).2 (List.nodup_range.imp fun hne e => hne (Int.ofNat.inj e))) (fun x hx => by
      obtain ⟨j, hj, rfl⟩ := mem_toI1 hx
      exact h j (List.mem_range.1 hj)) (by rw [toI1_len]; simp [hl])
    have hc : ∀ x : Nat, x < n → p.count (x : Int) = 1 := fun x hx => by
      rw [hp.count_eq, toI1_count, List.count_range, if_pos hx]
    unfold chk
    rw [hsb, hfl]
    have hu : p.any (badV n) = false := by
      rw [List.any_eq_false]
      intro v hv
      obtain ⟨j, hj, rfl⟩ := mem_toI1 (hp.mem_iff.1 hv)
      have := List.mem_range.1 hj
      simp [badV]; omega
    have h5 : anyN (fun x => decide ((p.count x : Int) > 1)) (n : Int).toNat 0 = false := by
      rw [Bool.eq_false_iff]
      intro g
      obtain ⟨x, x0, x1, g⟩ := (anyN_iff _ _ _).1 g
      obtain ⟨j, rfl⟩ : ∃ j : Nat, x = j := ⟨x.toNat, by omega⟩
      have := hc j (by omega)
      simp [this] at g
    have h2 : anyN (fun x => ((p.count x : Int) == 0)) (n : Int).toNat 0 = false := by
      rw [Bool.eq_false_iff]
      intro g
      obtain ⟨x, x0, x1, g⟩ := (anyN_iff _ _ _).1 g
      obtain ⟨j, rfl⟩ : ∃ j : Nat, x = j := ⟨x.toNat, by omega⟩
      have := hc j (by omega)
      simp [this] at g
    rw [hu, h5, h2]
    simp
/-- Who is host: one at the table whom nobody there is ahead of. -/
structure Best (O : List Int) (t : List Nat) (h : Nat) : Prop where
  mem : h ∈ t
  le : ∀ x ∈ t, O.getD h 0 < O.getD x 0 ∨ (O.getD h 0 = O.getD x 0 ∧ h ≤ x)
def ChE : List Int → List (List Nat) → List Nat → List Int → Prop
  | O, [], [], O' => O' = O
  | O, t :: ev, h :: hs, O' => Best O t h ∧ ChE (inc O h) ev hs O'
  | _, _, _, _ => False
def ChS : List Int → List (List (List Nat)) → List (List Nat) → Prop
  | _, [], [] => True
  | O, ev :: s, hs :: rows => ∃ O', ChE O ev hs O' ∧ ChS O' s rows
  | _, _, _ => False
structure Bd (n : Nat) (O : List Int) (b : Nat) : Prop where
  len : O.length = n
  bd : ∀ x, 0 ≤ O.getD x 0 ∧ O.getD x 0 ≤ b
theorem Bd.inc {n : Nat} {O : List Int} {b h : Nat} (d : Bd n O b) (hh : h < n) : Bd n (inc O h) (b + 1) := by
  refine ⟨by rw [inc_len]; exact d.len, fun x => ?_⟩
  by_cases hx : x < O.length
  · have := d.bd x
    rw [inc_get O h x hx]
    split <;> omega
  · rw [List.getD_eq_getElem?_getD, List.getElem?_eq_none (by rw [inc_len]; omega)]
    simp
    omega
theorem o_idx {n : Nat} {O : List Int} {b x : Nat} (d : Bd n O b) (hx : x < n) : idx O (x : Int) = some (O.getD x 0) := by
  have h : x < O.length := by rw [d.len]; exact hx
  rw [idx_lt h, List.getD_eq_getElem?_getD, List.getElem?_eq_getElem h]
  rfl
theorem o_set {n : Nat} {O : List Int} {b x : Nat} (d : Bd n O b) (hb : b ≤ 1000000) : O.set ((x : Int)).toNat (wr .i64 (O.getD x 0 + 1)) = inc O x := by
  have := d.bd x
  rw [wr_i (by omega) (by omega), Int.toNat_natCast]
  rfl
theorem cmp_eq {n : Nat} {O : List Int} {b x y : Nat} (d : Bd n O b) (hb : b ≤ 1000000) (hn : n ≤ 64) (hx : x < n) (hy : y < n) (c5 : List (List Int)) (c23 : List Int) : ∃ v, evening_Hosts_k1_k1 O c5 c23 x y = some v ∧ (v < 0 ↔ (O.getD x 0 < O.getD y 0 ∨ (O.getD x 0 = O.getD y 0 ∧ x < y))) := by
  have h1 := d.bd x
  have h2 := d.bd y
  unfold evening_Hosts_k1_k1
  rw [o_idx d hx, o_idx d hy]
  simp only [Option.bind_some]
  by_cases e : O.getD x 0 = O.getD y 0
  · have : (O.getD x 0 != O.getD y 0) = false := by rw [e, bne_self_eq_false]
    rw [this]
    refine ⟨_, rfl, ?_⟩
    rw [wr_i (by omega) (by omega)]
    omega
  · have : (O.getD x 0 != O.getD y 0) = true := by simpa using e
    rw [this]
    refine ⟨_, rfl, ?_⟩
    rw [wr_i (by omega) (by omega)]
    omega
theorem min_1 {n : Nat} {O : List Int} {b : Nat} (d : Bd n O b) (hb : b ≤ 1000000) (hn : n ≤ 64) (c5 : List (List Int)) (c23 : List Int) (t : List Nat) (ht : ∀ x ∈ t, x < n) (htl : t.length ≤ 90000) : ∀ (r pre : List Nat) (f h : Nat), t = pre ++ r → r.length < f → Best O pre h → ∃ h', evening_Hosts_k1_1 O c5 c23 (toI1 t) f h pre.length = some ((h' : Nat) : Int) ∧ Best O t h'
  | [], pre, f + 1, h, e, _, hB => by
    refine ⟨h, ?_, by rw [e, List.append_nil]; exact hB⟩
    unfold evening_Hosts_k1_1
    rw [if_neg (by rw [toI1_len, e]; simp)]
  | x :: r, pre, f + 1, h, e, hf, hB => by
    have hx : x < n := ht x (by rw [e]; simp)
    have hh : h < n := ht h (by rw [e]; simp [hB.mem])
    have hp : pre.length < t.length := by rw [e]; simp
    obtain ⟨v, c1, c2⟩ := cmp_eq d hb hn hx hh c5 c23
    have hi : idx (toI1 t) (pre.length : Int) = some (x : Int) := by rw [e]; exact idx_toI1 pre x r
    have a3 : ((pre.length + 1 : Nat) : Int) = ((pre ++ [x]).length : Int) := by simp
    have key : ∀ h2 : Nat, evening_Hosts_k1_j2 O c5 c23 (toI1 t) h pre.length v = some (h2 : Int) → Best O (pre ++ [x]) h2 → ∃ h', evening_Hosts_k1_1 O c5 c23 (toI1 t) (f + 1) h pre.length = some ((h' : Nat) : Int) ∧ Best O t h' := fun h2 hj hB2 => by
      obtain ⟨h', e1, e2⟩ := min_1 d hb hn c5 c23 t ht htl r (pre ++ [x]) f h2 (by rw [e]; simp) (by simp at hf; omega) hB2
      refine ⟨h', ?_, e2⟩
      unfold evening_Hosts_k1_1
      rw [if_pos (by rw [toI1_len, e]; simp; omega), hi]
      simp only [Option.bind_some]
      rw [c1]
      simp only [Option.bind_some]
      rw [hj]
      simp only [Option.bind_some]
      rw [wr_nat (by omega), a3]
      exact e1
    by_cases hv : v < 0
    · refine key x ?_ ⟨by simp, fun y hy => ?_⟩
      · unfold evening_Hosts_k1_j2
        rw [if_pos (by simpa using hv), hi]
        rfl
      · have := c2.1 hv
        rcases List.mem_append.1 hy with hy | hy
        · have := hB.le y hy
          omega
        · rw [List.mem_singleton.1 hy]
          exact .inr ⟨rfl, Nat.le_refl _⟩
    · refine key h ?_ ⟨by simp [hB.mem], fun y hy => ?_⟩
      · unfold evening_Hosts_k1_j2
        rw [if_neg (by simpa using hv)]
      · have : ¬ (O.getD x 0 < O.getD h 0 ∨ (O.getD x 0 = O.getD h 0 ∧ x < h)) := fun h => hv (c2.2 h)
        rcases List.mem_append.1 hy with hy | hy
        · exact hB.le y hy
        · rw [List.mem_singleton.1 hy]
          omega
theorem min_eq {n : Nat} {O : List Int} {b : Nat} (d : Bd n O b) (hb : b ≤ 1000000) (hn : n ≤ 64) (c5 : List (List Int)) (c23 : List Int) (t : List Nat) (ht : ∀ x ∈ t, x < n) (htl : t.length ≤ 90000) (h0 : t.length ≠ 0) : ∃ h', evening_Hosts_k1 O c5 c23 (toI1 t) = some ((h' : Nat) : Int) ∧ Best O t h' := by
  obtain ⟨x, r, rfl⟩ : ∃ x r, t = x :: r := by
    cases t with
    | nil => exact absurd rfl h0
    | cons x r => exact ⟨x, r, rfl⟩
  obtain ⟨h', e1, e2⟩ := min_1 d hb hn c5 c23 (x :: r) ht htl r [x] 100000 x rfl (by simp at htl; omega) ⟨by simp, fun y hy => by rw [List.mem_singleton.1 hy]; exact .inr ⟨rfl, Nat.le_refl _⟩⟩
  refine ⟨h', ?_, e2⟩
  unfold evening_Hosts_k1
  rw [if_neg (by rw [toI1_len]; simp; omega), show idx (toI1 (x :: r)) 0 = some (x : Int) from idx_toI1 [] x r]
  simp only [Option.bind_some]
  rw [show (([x] : List Nat).length : Int) = 1 from rfl] at e1
  rw [e1]
  rfl
theorem hosts_2 {n : Nat} (hn : n ≤ 64) (x1 : List (List (List Int))) (c5 : List (List Int)) (c6 : Int) (ev : List (List Nat)) (hev : ∀ t ∈ ev, (∀ x ∈ t, x < n) ∧ t.length ≤ 90000 ∧ t.length ≠ 0) (hel : ev.length ≤ 64) : ∀ (r pre : List (List Nat)) (f : Nat) (O : List Int) (out : List Nat) (b : Nat), ev = pre ++ r → r.length < f → Bd n O b → b + r.length ≤ 1000000 → out.length = pre.length → ∃ hs O', evening_Hosts_2 x1 c5 c6 (toI2 ev) f O (toI1 out) pre.length = some (O', toI1 (out ++ hs)) ∧ ChE O r hs O' ∧ Bd n O' (b + r.length) ∧ hs.length = r.length
  | [], pre, f + 1, O, out, b, h, _, d, _, _ => by
    refine ⟨[], O, ?_, rfl, d, rfl⟩
    unfold evening_Hosts_2
    rw [if_neg (by rw [toI2_len, h]; simp)]
    simp
  | t :: r, pre, f + 1, O, out, b, h, hf, d, hb, ho => by
    obtain ⟨t1, t2, t3⟩ := hev t (by rw [h]; simp)
    have hp : pre.length < ev.length := by rw [h]; simp
    simp only [List.length_cons] at hb hf
    obtain ⟨h', e1, e2⟩ := min_eq d (by omega) hn c5 (toI1 out) t t1 t2 t3
    have hh := t1 h' e2.mem
    obtain ⟨hs, O', g1, g2, g3, g4⟩ := hosts_2 hn x1 c5 c6 ev hev hel r (pre ++ [t]) f (inc O h') (out ++ [h']) (b + 1) (by rw [h]; simp) (by omega) (d.inc hh) (by omega) (by simp [ho])
    refine ⟨h' :: hs, O', ?_, ⟨e2, g2⟩, ?_, by simp [g4]⟩
    · unfold evening_Hosts_2
      rw [if_pos (by rw [toI2_len, h]; simp; omega), show idx (toI2 ev) (pre.length : Int) = some (toI1 t) by rw [h]; exact idx_toI2 pre t r]
      simp only [Option.bind_some]
      rw [e1]
      simp only [Option.bind_some]
      rw [o_idx d hh]
      simp only [Option.bind_some]
      rw [if_pos (capOk_le (by omega) (by rw [toI1_len]; omega)), o_set d (by omega), wr_nat (by omega)]
      have a1 : toI1 out ++ [(h' : Int)] = toI1 (out ++ [h']) := by simp [toI1]
      have a3 : ((pre.length + 1 : Nat) : Int) = ((pre ++ [t]).length : Int) := by simp
      rw [a1, a3, g1]
      simp
    · have : b + 1 + r.length = b + (r.length + 1) := by omega
      rw [List.length_cons, ← this]; exact g3
theorem ChE.len : ∀ {O : List Int} {ev : List (List Nat)} {hs : List Nat} {O' : List Int}, ChE O ev hs O' → hs.length = ev.length
  | _, [], [], _, _ => rfl
  | _, _ :: _, _ :: _, _, h => by simp [ChE.len h.2]
  | _, [], _ :: _, _, h => h.elim
  | _, _ :: _, [], _, h => h.elim
/- trestle/trestleref09.Together -/
/- Together. -/
theorem has_1 (xs : List Int) (v : Int) (hl : xs.length ≤ 90000) : ∀ (r pre : List Int) (f : Nat), xs = pre ++ r → r.length < f → ref09_has_1 xs v f pre.length = some (if v ∈ r then .inr true else .inl ())
  | [], pre, f + 1, h, _ => by
    unfold ref09_has_1
    rw [if_neg (by rw [h]; simp)]
    rfl
  | u :: r, pre, f + 1, h, hf => by
    have ih := has_1 xs v hl r (pre ++ [u]) f (by rw [h]; simp) (by simp at hf; omega)
    have hp : pre.length < xs.length := by rw [h]; simp
    have a3 : ((pre.length + 1 : Nat) : Int) = ((pre ++ [u]).length : Int) := by simp
    unfold ref09_has_1
    rw [if_pos (by rw [h]; simp; omega), show idx xs (pre.length : Int) = some u by rw [h]; exact idx_app pre u r]
    simp only [Option.bind_some]
    by_cases e : u = v
    · subst e; simp
    · have : (u == v) = false := by simpa using e
      rw [this, wr_nat (by omega), a3, ih]
      have e2 : v ∈ u :: r ↔ v ∈ r := by
        constructor
        · intro h; rcases List.mem_cons.1 h with h | h
          · exact absurd h.symm e
          · exact h
        · intro h; exact List.mem_cons_of_mem _ h
      by_cases hm : v ∈ r
      · simp [hm]
      · have hm2 : ¬ v ∈ u :: r := fun h => hm (e2.1 h)
        simp only [hm, hm2, if_false, Bool.false_eq_true]
theorem has_eq (xs : List Int) (v : Int) (hl : xs.length ≤ 90000) : ref09_has xs v = some (decide (v ∈ xs)) := by
  have h := has_1 xs v hl xs [] 100000 rfl (by omega)
  rw [show ((([] : List Int).length : Nat) : Int) = 0 from rfl] at h
  unfold ref09_has
  rw [h]
  by_cases hm : v ∈ xs
  · simp [hm]
  · simp [hm]
theorem Best.uniq {O : List Int} {t : List Nat} {h g : Nat} (a : Best O t h) (b : Best O t g) : h = g := by
  have h1 := a.le g b.mem
  have h2 := b.le h a.mem
  omega
/-- Rows in which somebody is. -/
def rowsH (g : Nat) : List (List Nat) → Nat
  | [] => 0
  | r :: rs => (if g ∈ r then 1 else 0) + rowsH g rs
theorem rowsH_app (g : Nat) : ∀ (a b : List (List Nat)), rowsH g (a ++ b) = rowsH g a + rowsH g b
  | [], b => by simp [rowsH]
  | r :: a, b => by simp only [List.cons_append, rowsH, rowsH_app g a b]; omega
theorem rowsH_le (g : Nat) : ∀ a : List (List Nat), rowsH g a ≤ a.length
  | [] => Nat.le_refl _
  | r :: a => by have := rowsH_le g a; simp only [rowsH, List.length_cons]; split <;> omega
/-- The hosts of an evening, by what was before it. -/
inductive HostsE (O : List Int) : List (List Nat) → List Nat → Prop
  | nil : HostsE O [] []
  | cons {t : List Nat} {ev : List (List Nat)} {h : Nat} {hs : List Nat} (a : Best O t h) (b : HostsE O ev hs) : HostsE O (t :: ev) (h :: hs)
theorem che_hosts {O0 : List Int} : ∀ (ev : List (List Nat)) (hs : List Nat) (O O' : List Int), (∀ x ∈ ev.flatten, x < O.length ∧ O.getD x 0 = O0.getD x 0) → ev.flatten.Nodup → ChE O ev hs O' → HostsE O0 ev hs ∧ (∀ x, x < O.length → O'.getD x 0 = O.getD x 0 + (if x ∈ hs then 1 else 0)) ∧ (∀ h ∈ hs, h ∈ ev.flatten)
  | [], [], O, O', _, _, h => by
    have h : O' = O := h
    subst h
    exact ⟨.nil, fun x _ => by simp, fun _ h => by cases h⟩
  | t :: ev, h :: hs, O, O', ha, hd, hc => by
    obtain ⟨hB, hc⟩ := hc
    rw [List.flatten_cons] at ha hd
    have hd1 := (List.nodup_append.1 hd)
    obtain ⟨d1, d2, d3⟩ := hd1
    have hm : ∀ x ∈ t, x < O.length ∧ O.getD x 0 = O0.getD x 0 := fun x hx => ha x (by simp [hx])
    have hB0 : Best O0 t h := ⟨hB.mem, fun x hx => by
      have := hB.le x hx
      rw [(hm x hx).2, (hm h hB.mem).2] at this
      exact this⟩
    obtain ⟨k1, k2, k3⟩ := che_hosts (O0 := O0) ev hs (inc O h) O' (fun x hx => by
      have h1 := ha x (by rw [List.mem_append]; exact .inr hx)
      refine ⟨by rw [inc_len]; exact h1.1, ?_⟩
      rw [inc_get _ _ _ h1.1, if_neg (fun e => d3 h hB.mem x hx e), h1.2]
      simp) d2 hc
    refine ⟨.cons hB0 k1, fun x hx => ?_, fun g hg => ?_⟩
    · rw [k2 x (by rw [inc_len]; exact hx), inc_get _ _ _ hx]
      by_cases e : h = x
      · subst e
        have hno : h ∉ hs := fun g => d3 h hB.mem h (k3 h g) rfl
        rw [if_pos rfl, if_neg hno, if_pos (by simp)]
        omega
      · rw [if_neg e]
        by_cases g : x ∈ hs
        · rw [if_pos g, if_pos (by simp [g])]; omega
        · rw [if_neg g, if_neg (by simp; exact ⟨fun e2 => e e2.symm, g⟩)]; omega
    · rw [List.flatten_cons, List.mem_append]
      rcases List.mem_cons.1 hg with rfl | hg
      · exact .inl hB.mem
      · exact .inr (k3 g hg)
  | [], _ :: _, _, _, _, _, h => h.elim
  | _ :: _, [], _, _, _, _, h => h.elim
theorem rh_has (r : List Nat) (g : Nat) (h : r.length ≤ 90000) : ref09_has (toI1 r) g = some (decide (g ∈ r)) :=
  (has_eq (toI1 r) g (by rw [toI1_len]; omega)).trans (congrArg some (decide_eq_decide.2 mem_toI))
theorem rh_4 (rows : List (List Nat)) (hr : ∀ r ∈ rows, r.length ≤ 64) (hl : rows.length ≤ 64) (g : Nat) : ∀ (r pre : List (List Nat)) (f : Nat), rows = pre ++ r → r.length < f → ref09_Hosts_4 (toI2 rows) g f (rowsH g pre : Nat) pre.length = some ((rowsH g rows : Nat) : Int)
  | [], pre, f + 1, h, _ => by
    unfold ref09_Hosts_4
    rw [if_neg (by rw [toI2_len, h]; simp), h, List.append_nil]
  | t :: r, pre, f + 1, h, hf => by
    have ht := hr t (by rw [h]; simp)
    have hp : pre.length < rows.length := by rw [h]; simp
    have hq := rowsH_le g pre
    have ih := rh_4 rows hr hl g r (pre ++ [t]) f (by rw [h]; simp) (by simp at hf; omega)
    rw [rowsH_app] at ih
    unfold ref09_Hosts_4
    rw [if_pos (by rw [toI2_len]; simp; omega), show idx (toI2 rows) (pre.length : Int) = some (toI1 t) by rw [h]; exact idx_toI2 pre t r]
    simp only [Option.bind_some]
    rw [rh_has t g (by omega)]
    simp only [Option.bind_some]
    have hj : ref09_Hosts_j5 ((rowsH g pre : Nat) : Int) (decide (g ∈ t)) = some ((rowsH g pre + rowsH g [t] : Nat) : Int) := by
      unfold ref09_Hosts_j5
      simp only [rowsH]
      by_cases e : g ∈ t
      · rw [if_pos (by simpa using e), if_pos e, wr_nat (by omega)]
        try simp
      · rw [if_neg (by simpa using e), if_neg e]
        try simp
    rw [hj]
    simp only [Option.bind_some]
    rw [wr_nat (by omega), show ((pre.length + 1 : Nat) : Int) = ((pre ++ [t]).length : Int) by simp]
    exact ih
/-- Who is best so far. -/
def Bst (O : List Int) (t : List Nat) (g : Nat) (c d : Int) : Prop := (c = -1 ∧ ∀ x ∈ t, ¬ x < g) ∨ ∃ h : Nat, c = (h : Int) ∧ d = O.getD h 0 ∧ h ∈ t ∧ h < g ∧ ∀ x ∈ t, x < g → O.getD h 0 < O.getD x 0 ∨ (O.getD h 0 = O.getD x 0 ∧ h ≤ x)
theorem rh_3 {n : Nat} (hn : n ≤ 64) (s : List (List (List Nat))) (i : Nat) (ev : List (List Nat)) (hi : idx (toI3 s) i = some (toI2 ev)) (j : Nat) (t : List Nat) (hj : idx (toI2 ev) j = some (toI1 t)) (htl : t.length ≤ 64) (ht : ∀ x ∈ t, x < n) (rows : List (List Nat)) (hr : ∀ r ∈ rows, r.length ≤ 64) (hl : rows.length ≤ 64) (O : List Int) (hO : ∀ g, g < n → O.getD g 0 = (rowsH g rows : Nat)) (b : Nat) (hB : Best O t b) : ∀ (k g f : Nat) (c d : Int), g + k = n → k < f → Bst O t g c d → ref09_Hosts_3 n (toI3 s) i (toI2 rows) j f c d g = some (b : Int)
  | 0, g, f + 1, c, d, e, _, hb => by
    unfold ref09_Hosts_3
    rw [if_neg (by simp; omega)]
    rcases hb with ⟨_, h⟩ | ⟨h, rfl, _, hm, _, hle⟩
    · exact absurd (ht b hB.mem) (by have := h b hB.mem; omega)
    · have : Best O t h := ⟨hm, fun x hx => hle x hx (by have := ht x hx; omega)⟩
      rw [this.uniq hB]
  | k + 1, g, f + 1, c, d, e, hf, hb => by
    unfold ref09_Hosts_3
    rw [if_pos (by simp; omega), hi]
    simp only [Option.bind_some]
    rw [hj]
    simp only [Option.bind_some]
    rw [rh_has t g (by omega)]
    simp only [Option.bind_some]
    by_cases hg : g ∈ t
    · rw [decide_eq_true hg]
      simp only [Bool.not_true, Bool.false_eq_true, if_false]
      have h4 := rh_4 rows hr hl g rows [] 100000 rfl (by omega)
      rw [show ((rowsH g [] : Nat) : Int) = 0 from rfl, show ((([] : List (List Nat)).length : Nat) : Int) = 0 from rfl] at h4
      rw [h4]
      simp only [Option.bind_some]
      rw [← hO g (by omega), wr_nat (by omega)]
      have hnew : ∀ c' d', (c' = (g : Int) ∧ d' = O.getD g 0 ∧ (∀ x ∈ t, x < g → O.getD g 0 < O.getD x 0)) → Bst O t (g + 1) c' d' := by
        rintro c' d' ⟨rfl, rfl, h⟩
        refine .inr ⟨g, rfl, rfl, hg, by omega, fun x hx hlt => ?_⟩
        by_cases q : x = g
        · subst q; exact .inr ⟨rfl, Nat.le_refl _⟩
        · exact .inl (h x hx (by omega))
      rcases hb with ⟨rfl, h⟩ | ⟨h, rfl, rfl, hm, hlt, hle⟩
      · rw [if_pos (by decide)]
        simp only [Option.bind_some]
        unfold ref09_Hosts_j6
        rw [if_pos rfl]
        simp only [Option.bind_some]
        exact rh_3 hn s i ev hi j t hj htl ht rows hr hl O hO b hB k (g + 1) f _ _ (by omega) (by omega) (hnew _ _ ⟨rfl, rfl, fun x hx hx2 => absurd hx2 (h x hx)⟩)
      · rw [if_neg (by simp)]
        simp only [Option.bind_some]
        unfold ref09_Hosts_j6
        by_cases q : O.getD g 0 < O.getD h 0
        · rw [if_pos (by simpa using q)]
          simp only [Option.bind_some]
          exact rh_3 hn s i ev hi j t hj htl ht rows hr hl O hO b hB k (g + 1) f _ _ (by omega) (by omega) (hnew _ _ ⟨rfl, rfl, fun x hx hx2 => by have := hle x hx hx2; omega⟩)
        · rw [if_neg (by simpa using q)]
          simp only [Option.bind_some]
          refine rh_3 hn s i ev hi j t hj htl ht rows hr hl O hO b hB k (g + 1) f _ _ (by omega) (by omega) (.inr ⟨h, rfl, rfl, hm, by omega, fun x hx hx2 => ?_⟩)
          by_cases w : x = g
          · subst w; omega
          · exact hle x hx (by omega)
    · rw [decide_eq_false hg]
      simp only [Bool.not_false, if_true]
      rw [wr_nat (by omega)]
      refine rh_3 hn s i ev hi j t hj htl ht rows hr hl O hO b hB k (g + 1) f _ _ (by omega) (by omega) ?_
      rcases hb with ⟨rfl, h⟩ | ⟨h, rfl, rfl, hm, hlt, hle⟩
      · refine .inl ⟨rfl, fun x hx hx2 => ?_⟩
        have := h x hx
        have : x = g := by omega
        exact hg (this ▸ hx)
      · refine .inr ⟨h, rfl, rfl, hm, by omega, fun x hx hx2 => hle x hx ?_⟩
        have : x ≠ g := fun q => hg (q ▸ hx)
        omega
theorem HostsE.len {O : List Int} {ev : List (List Nat)} {hs : List Nat} (h : HostsE O ev hs) : hs.length = ev.length := by
  induction h with
  | nil => rfl
  | cons _ _ ih => simp [ih]
theorem rh_2 {n : Nat} (hn : n ≤ 64) (s : List (List (List Nat))) (i : Nat) (ev : List (List Nat)) (hi : idx (toI3 s) i = some (toI2 ev)) (hev : ∀ t ∈ ev, t.length ≤ 64 ∧ ∀ x ∈ t, x < n) (hel : ev.length ≤ 64) (rows : List (List Nat)) (hr : ∀ r ∈ rows, r.length ≤ 64) (hl : rows.length ≤ 64) (O : List Int) (hO : ∀ g, g < n → O.getD g 0 = (rowsH g rows : Nat)) : ∀ (r pre : List (List Nat)) (hs out : List Nat) (f : Nat), ev = pre ++ r → r.length < f → out.length = pre.length → HostsE O r hs → ref09_Hosts_2 n (toI3 s) i (toI2 rows) f pre.length (toI1 out) = some (toI1 (out ++ hs))
  | [], pre, _, out, f + 1, h, _, _, .nil => by
    unfold ref09_Hosts_2
    rw [hi]
    simp only [Option.bind_some]
    rw [if_neg (by rw [toI2_len, h]; simp), List.append_nil]
  | t :: r, pre, _, out, f + 1, h, hf, ho, .cons (h := b) (hs := hs) hB hE => by
    obtain ⟨t1, t2⟩ := hev t (by rw [h]; simp)
    have hp : pre.length < ev.length := by rw [h]; simp
    simp only [List.length_cons] at hf
    have hj : idx (toI2 ev) (pre.length : Int) = some (toI1 t) := by rw [h]; exact idx_toI2 pre t r
    have h3 := rh_3 hn s i ev hi pre.length t hj t1 t2 rows hr hl O hO b hB n 0 100000 (-1) 0 (by omega) (by omega) (.inl ⟨rfl, fun x _ => by omega⟩)
    rw [show ((0 : Nat) : Int) = 0 from rfl] at h3
    have ih := rh_2 hn s i ev hi hev hel rows hr hl O hO r (pre ++ [t]) hs (out ++ [b]) f (by rw [h]; simp) (by omega) (by simp [ho]) hE
    unfold ref09_Hosts_2
    rw [hi]
    simp only [Option.bind_some]
    rw [if_pos (by rw [toI2_len]; simp; omega), h3]
    simp only [Option.bind_some]
    rw [if_pos (capOk_le (by omega) (by rw [toI1_len]; simp; omega)), wr_nat (by omega), show ((pre.length + 1 : Nat) : Int) = ((pre ++ [t]).length : Int) by simp, show toI1 out ++ [(b : Int)] = toI1 (out ++ [b]) by simp [toI1], ih]
    simp
theorem rh_1 {n : Nat} (hn : n ≤ 64) (s : List (List (List Nat))) (hev : ∀ ev ∈ s, EvV n ev) (hs : s.length ≤ 64) : ∀ (r pre : List (List (List Nat))) (rr rows : List (List Nat)) (f : Nat) (O : List Int), s = pre ++ r → r.length < f → O.length = n → (∀ g, g < n → O.getD g 0 = (rowsH g rows : Nat)) → (∀ r ∈ rows, r.length ≤ 64) → rows.length = pre.length → ChS O r rr → ref09_Hosts_1 n (toI3 s) f pre.length (toI2 rows) = some (toI2 (rows ++ rr))
  | [], pre, [], rows, f + 1, O, h, _, _, _, _, _, _ => by
    unfold ref09_Hosts_1
    rw [if_neg (by rw [toI3_len, h]; simp), List.append_nil]
  | ev :: r, pre, row :: rr, rows, f + 1, O, h, hf, hOl, hO, hr, hl, hc => by
    obtain ⟨O', hc1, hc2⟩ := hc
    have hE := hev ev (by rw [h]; simp)
    have hp : pre.length < s.length := by rw [h]; simp
    simp only [List.length_cons] at hf
    have hlt : ∀ x ∈ ev.flatten, x < n := fun x hx => by
      have := hE.cnt x
      by_cases q : x < n
      · exact q
      · rw [if_neg q] at this
        exact absurd hx (List.count_eq_zero.1 this)
    have hnd : ev.flatten.Nodup := List.nodup_iff_count.2 fun x => by rw [hE.cnt x]; split <;> omega
    obtain ⟨k1, k2, k3⟩ := che_hosts (O0 := O) ev row O O' (fun x hx => ⟨by rw [hOl]; exact hlt x hx, rfl⟩) hnd hc1
    have hel := hE.elen
    have hi : idx (toI3 s) (pre.length : Int) = some (toI2 ev) := by rw [h]; exact idx_toI3 pre ev r
    have h2 := rh_2 hn s pre.length ev hi (fun t ht => ⟨by have := hE.tlen ht; omega, fun x hx => hlt x (List.mem_flatten.2 ⟨t, ht, hx⟩)⟩) (by omega) rows hr (by omega) O hO ev [] row [] 100000 rfl (by omega) rfl k1
    rw [show ((([] : List (List Nat)).length : Nat) : Int) = 0 from rfl, show toI1 [] = [] from rfl, List.nil_append] at h2
    have hO'l : O'.length = n := by
      have : ∀ (ev : List (List Nat)) (hs : List Nat) (O O' : List Int), ChE O ev hs O' → O'.length = O.length := by
        intro ev
        induction ev with
        | nil => intro hs O O' h; cases hs with
          | nil => rw [show O' = O from h]
          | cons => exact h.elim
        | cons t ev ih => intro hs O O' h; cases hs with
          | nil => exact h.elim
          | cons g hs => rw [ih hs _ _ h.2, inc_len]
      rw [this ev row O O' hc1, hOl]
    have ih := rh_1 hn s hev hs r (pre ++ [ev]) rr (rows ++ [row]) f O' (by rw [h]; simp) (by omega) hO'l (fun g hg => by
      rw [k2 g (by omega), hO g hg, rowsH_app]
      simp only [rowsH]
      split <;> simp) (fun q hq => by
      rcases List.mem_append.1 hq with hq | hq
      · exact hr q hq
      · rw [List.mem_singleton.1 hq, k1.len]; omega) (by simp [hl]) hc2
    unfold ref09_Hosts_1
    rw [if_pos (by rw [toI3_len]; simp; omega), h2]
    simp only [Option.bind_some]
    rw [if_pos (capOk_le (by omega) (by rw [toI2_len]; simp; omega)), wr_nat (by omega), show ((pre.length + 1 : Nat) : Int) = ((pre ++ [ev]).length : Int) by simp, show toI2 rows ++ [toI1 row] = toI2 (rows ++ [row]) by simp [toI2], ih]
    simp
  | [], _, _ :: _, _, _, _, _, _, _, _, _, _, hc => hc.elim
  | _ :: _, _, [], _, _, _, _, _, _, _, _, _, hc => hc.elim
/- The program's hosts, of evenings whose sizes may part. -/
theorem hosts_1V {n : Nat} (hn : n ≤ 64) (s : List (List (List Nat))) (hev : ∀ ev ∈ s, EvV n ev) (hs : s.length ≤ 64) : ∀ (r pre : List (List (List Nat))) (f : Nat) (O : List Int) (out : List (List Nat)) (b : Nat), s = pre ++ r → r.length < f → Bd n O b → b + 64 * r.length ≤ 10000 → out.length = pre.length → ∃ rows, evening_Hosts_1 (toI3 s) f O (toI2 out) pre.length = some (toI2 (out ++ rows)) ∧ ChS O r rows ∧ rows.length = r.length
  | [], pre, f + 1, O, out, b, h, _, d, _, _ => by
    refine ⟨[], ?_, trivial, rfl⟩
    unfold evening_Hosts_1
    rw [if_neg (by rw [toI3_len, h]; simp)]
    simp
  | ev :: r, pre, f + 1, O, out, b, h, hf, d, hb, ho => by
    have hE := hev ev (by rw [h]; simp)
    have hp : pre.length < s.length := by rw [h]; simp
    simp only [List.length_cons] at hb hf
    have hel : ev.length ≤ 64 := by have := hE.elen; omega
    obtain ⟨hsx, O', g1, g2, g3, g4⟩ := hosts_2 hn (toI3 s) (toI2 out) pre.length ev (fun t ht => ⟨hE.lt t ht, by have := hE.tlen ht; omega, hE.ne t ht⟩) hel ev [] 100000 O [] b rfl (by omega) d (by omega) rfl
    rw [show toI1 [] = [] from rfl, show ((([] : List (List Nat)).length : Nat) : Int) = 0 from rfl, List.nil_append] at g1
    obtain ⟨rows, k1, k2, k3⟩ := hosts_1V hn s hev hs r (pre ++ [ev]) f O' (out ++ [hsx]) (b + ev.length) (by rw [h]; simp) (by omega) g3 (by omega) (by simp [ho])
    refine ⟨hsx :: rows, ?_, ⟨O', g2, k2⟩, by simp [k3]⟩
    unfold evening_Hosts_1
    rw [if_pos (by rw [toI3_len, h]; simp; omega), show idx (toI3 s) (pre.length : Int) = some (toI2 ev) by rw [h]; exact idx_toI3 pre ev r]
    simp only [Option.bind_some]
    rw [g1]
    simp only [Option.bind_some]
    rw [if_pos (capOk_le (by omega) (by rw [toI2_len]; omega)), wr_nat (by omega)]
    have a1 : toI2 out ++ [toI1 hsx] = toI2 (out ++ [hsx]) := by simp [toI2]
    have a3 : ((pre.length + 1 : Nat) : Int) = ((pre ++ [ev]).length : Int) := by simp
    rw [a1, a3, k1]
    simp
theorem ChS.row_len {n : Nat} : ∀ (s : List (List (List Nat))) (rows : List (List Nat)) (O : List Int), (∀ ev ∈ s, EvV n ev) → ChS O s rows → ∀ r ∈ rows, r.length ≤ n
  | [], [], _, _, _, r, hr => by cases hr
  | ev :: s, row :: rows, O, h, ⟨O', a, b⟩, r, hr => by
    rcases List.mem_cons.1 hr with rfl | hr
    · rw [a.len]; exact (h ev (by simp)).elen
    · exact ChS.row_len s rows O' (fun e he => h e (by simp [he])) b r hr
  | [], _ :: _, _, _, hc, _, _ => hc.elim
  | _ :: _, [], _, _, hc, _, _ => hc.elim
theorem hosts_both {n : Nat} (n1 : 1 ≤ n) (hn : n ≤ 64) (s : List (List (List Nat))) (hev : ∀ ev ∈ s, EvV n ev) (hs : s.length ≤ 64) (hv : evening_valid n (toI3 s) = some true) : ∃ rows, evening_Hosts n (toI3 s) = some (toI2 rows) ∧ ref09_Hosts n (toI3 s) = some (toI2 rows) ∧ rows.length = s.length ∧ ∀ r ∈ rows, r.length ≤ 64 := by
  have hz : ∀ x, (List.replicate n (0 : Int)).getD x 0 = 0 := fun x => zeros_get n x
  have d0 : Bd n (List.replicate n 0) 0 := ⟨by simp, fun x => by rw [hz x]; simp⟩
  obtain ⟨rows, h1, h2, h3⟩ := hosts_1V hn s hev hs s [] 100000 (List.replicate n 0) [] 0 rfl (by omega) d0 (by omega) rfl
  rw [show toI2 [] = [] from rfl, show ((([] : List (List (List Nat))).length : Nat) : Int) = 0 from rfl, List.nil_append] at h1
  have hmk : mkOk 8 (n : Int) = true := by
    simp only [mkOk, Bool.and_eq_true, decide_eq_true_eq]; omega
  have h5 := rh_1 hn s hev hs s [] rows [] 100000 (List.replicate n 0) rfl (by omega) (by simp) (fun g _ => by rw [hz g]; rfl) (fun _ h => by cases h) rfl h2
  rw [show ((([] : List (List (List Nat))).length : Nat) : Int) = 0 from rfl, show toI2 [] = [] from rfl, List.nil_append] at h5
  refine ⟨rows, ?_, ?_, h3, fun r hr => by have := ChS.row_len s rows _ hev h2 r hr; omega⟩
  · unfold evening_Hosts
    rw [hv]
    simp only [Option.bind_some, Bool.not_true, Bool.false_eq_true, if_false]
    rw [if_pos hmk, Int.toNat_natCast, h1]
    rfl
  · unfold ref09_Hosts
    rw [h5]
    rfl
theorem mv_5 (p : List Int) (c : Int) (a : List (List Int)) (v : List Int) : ∀ (f : Nat) (i : Int) (m : List Int), law09_moves_5 p c a v f i m = evening_Relabel_d_3 p c a v f i m
  | 0, _, _ => rfl
  | f + 1, i, m => by
    unfold law09_moves_5 evening_Relabel_d_3
    simp only [mv_5 p c a v f]
theorem mv_4 (p : List Int) (c : Int) (a : List (List (List Int))) (v : List (List Int)) : ∀ (f : Nat) (i : Int) (m : List (List Int)), law09_moves_4 p c a v f i m = evening_Relabel_d_2 p c a v f i m
  | 0, _, _ => rfl
  | f + 1, i, m => by
    unfold law09_moves_4 evening_Relabel_d_2
    simp only [mv_4 p c a v f, mv_5]
theorem mv_3 (p : List Int) (v : List (List (List Int))) : ∀ (f : Nat) (i : Int) (m : List (List (List Int))), law09_moves_3 p v f i m = evening_Relabel_d_1 p v f i m
  | 0, _, _ => rfl
  | f + 1, i, m => by
    unfold law09_moves_3 evening_Relabel_d_1
    simp only [mv_3 p v f, mv_4]
theorem join_1 {n : Int} {a b : List (List (List Int))} {F G : Int × Int} (c1 : evening_Check n [] a = some F) (c2 : evening_Check n [] b = some G) (f : Nat) : evening_Join_d_1 n a b (f + 3) 0 = some (if (F.2 != 0) = true then .inr F.2 else if (G.2 != 0) = true then .inr G.2 else .inl ()) := by
  unfold evening_Join_d_1
  rw [if_pos (by simp), show idx [a, b] 0 = some a from rfl]
  simp only [Option.bind_some]
  rw [c1]
  simp only [Option.bind_some]
  by_cases hF : (F.2 != 0) = true
  · rw [if_pos hF, if_pos hF]
  · rw [if_neg hF, if_neg hF, show wr .i64 ((0 : Int) + 1) = 1 from rfl]
    unfold evening_Join_d_1
    rw [if_pos (by simp), show idx [a, b] 1 = some b from rfl]
    simp only [Option.bind_some]
    rw [c2]
    simp only [Option.bind_some]
    by_cases hG : (G.2 != 0) = true
    · rw [if_pos hG, if_pos hG]
    · rw [if_neg hG, if_neg hG, show wr .i64 ((1 : Int) + 1) = 2 from rfl]
      unfold evening_Join_d_1
      rw [if_neg (by simp)]
theorem nm3_lens {p : List Int} {s : List (List (List Int))} {k : Nat} (h : ∀ ev ∈ s, ev.length ≤ k ∧ ∀ t ∈ ev, t.length ≤ k) : ∀ ev ∈ nm3 p s, ev.length ≤ k ∧ ∀ t ∈ ev, t.length ≤ k := fun ev he => by
  obtain ⟨u, hu, rfl⟩ := List.mem_map.1 he
  obtain ⟨h1, h2⟩ := h u hu
  refine ⟨by unfold nm2; rw [List.length_map]; exact h1, fun t ht => ?_⟩
  obtain ⟨w, hw, rfl⟩ := List.mem_map.1 ht
  unfold nm1
  rw [List.length_map]; exact h2 w hw
/-- What both sides of the law come to. -/
theorem moves_close {m1 m2 : List (List (List Int))} {hs : List (List Int)} {a b : List (List (List Int))} {p : List Int} (hm1 : m1.length ≤ 50000 ∧ ∀ ev ∈ m1, ev.length ≤ 50000 ∧ ∀ t ∈ ev, t.length ≤ 50000) (hm2 : m2.length ≤ 50000 ∧ ∀ ev ∈ m2, ev.length ≤ 50000 ∧ ∀ t ∈ ev, t.length ≤ 50000) (hh : hs.length ≤ 50000 ∧ ∀ t ∈ hs, t.length ≤ 50000) (ha : a.length ≤ 50000 ∧ ∀ ev ∈ a, ev.length ≤ 50000 ∧ ∀ t ∈ ev, t.length ≤ 50000) (hb : b.length ≤ 50000 ∧ ∀ ev ∈ b, ev.length ≤ 50000 ∧ ∀ t ∈ ev, t.length ≤ 50000) (hp : p.length ≤ 50000) {x y : Int} :
    ((law09_Same m1 m1).bind fun v144 => (if (!v144) = true then some true else (law09_Same m2 m2).bind fun v145 =>
  if (!v145) = true then some true else (kit_SameLists hs hs).bind fun v146 =>
  if (!v146) = true then some true else if (x != x) = true then some true else some (y != y)).bind fun j147 =>
  if j147 = true then
  some false
  else
  (law09_spoil_d m1).bind fun _ =>
  (law09_spoil_d m2).bind fun _ =>
  (law09_Same a a).bind fun v174 =>
  (if v174 = true then (law09_Same b b).bind fun v175 =>
  if v175 = true then (slices_Equal_L_int p p).bind fun v176 =>
  some v176 else some false else some false).bind fun j177 =>
  some j177) = some true := by
  obtain ⟨s1, e1⟩ := spoil_some m1 hm1.1 hm1.2
  obtain ⟨s2, e2⟩ := spoil_some m2 hm2.1 hm2.2
  rw [same_self m1 hm1.1 hm1.2, same_self m2 hm2.1 hm2.2, same_self a ha.1 ha.2, same_self b hb.1 hb.2, equal_self p hp, sameLists_self hs hh.1 hh.2, e1, e2]
  simp
theorem moves_eq (n : Int) (hn : in64 n) (a b : List (List (List Int))) (hfa : FewS a 100) (hfb : FewS b 100) (p : List Int) (hp : p.length ≤ 70) : law09_moves n a b p = some true := by
  obtain ⟨a1, a2⟩ := hfa.lens (by omega)
  obtain ⟨b1, b2⟩ := hfb.lens (by omega)
  have la : a.length ≤ 50000 ∧ ∀ ev ∈ a, ev.length ≤ 50000 ∧ ∀ t ∈ ev, t.length ≤ 50000 := ⟨a1, fun ev he => ⟨(a2 ev he).1, (a2 ev he).2.2⟩⟩
  have lb : b.length ≤ 50000 ∧ ∀ ev ∈ b, ev.length ≤ 50000 ∧ ∀ t ∈ ev, t.length ≤ 50000 := ⟨b1, fun ev he => ⟨(b2 ev he).1, (b2 ev he).2.2⟩⟩
  have l0 : ([] : List (List (List Int))).length ≤ 50000 ∧ ∀ ev ∈ ([] : List (List (List Int))), ev.length ≤ 50000 ∧ ∀ t ∈ ev, t.length ≤ 50000 := ⟨by simp, fun _ h => by cases h⟩
  obtain ⟨c1, c2⟩ := check_both n hn [] (by simp) a a1 (fun ev he => ⟨(a2 ev he).1, (a2 ev he).2.1⟩)
  obtain ⟨d1, d2⟩ := check_both n hn [] (by simp) b b1 (fun ev he => ⟨(b2 ev he).1, (b2 ev he).2.1⟩)
  have hj := join_1 c1 d1 99997
  rw [show 99997 + 3 = 100000 from rfl] at hj
  have hv : evening_valid n a = some ((chkAll n [] a).2 == 0) := by
    unfold evening_valid; rw [c1]; rfl
  have hlen : wr .i64 ((a.length : Int) + (b.length : Int)) = ((a.length + b.length : Nat) : Int) := by
    have := hfa.evs
    have := hfb.evs
    rw [wr_i (by omega) (by omega)]; omega
  unfold law09_moves
  rw [copy_eq a la.1 la.2, copy_eq b lb.1 lb.2]
  simp only [Option.bind_some]
  rw [if_pos (capOk_le (by omega) (by omega)), c2, d2]
  simp only [Option.bind_some]
  by_cases hF : (chkAll n [] a).2 = 0
  · obtain ⟨N, hN1, hN2, rfl⟩ : ∃ N : Nat, 1 ≤ N ∧ N ≤ 64 ∧ n = (N : Int) := by
      unfold chkAll at hF
      by_cases hq : 1 ≤ n ∧ n ≤ 64
      · exact ⟨n.toNat, by omega, by omega, by omega⟩
      · rw [if_pos (by simp; omega)] at hF
        cases hF
    have hlen64 : a.length ≤ 64 := by
      unfold chkAll at hF
      rw [if_neg (by simp; omega)] at hF
      by_cases h : a.length > 64
      · rw [if_pos h] at hF; cases hF
      · omega
    have hchk : ∀ ev ∈ a, chk N [] ev = 0 := by
      unfold chkAll at hF
      rw [if_neg (by simp; omega), if_neg (by omega)] at hF
      exact chkS_inv N [] a 0 hF
    have hevv : ∀ ev ∈ a, toI2 (toN2 ev) = ev ∧ EvV N (toN2 ev) := fun ev he => evv_of (hchk ev he)
    have hI : toI3 (toN3 a) = a := toN3_I fun ev he v hv => ((chk_inv (hchk ev he)).2.1 v hv).1
    obtain ⟨rows, r1, r2, r3, r4⟩ := hosts_both hN1 hN2 (toN3 a) (fun ev he => by
      obtain ⟨u, hu, rfl⟩ := List.mem_map.1 he
      exact (hevv u hu).2) (by unfold toN3; rw [List.length_map]; exact hlen64) (by rw [hI, hv, hF]; rfl)
    rw [hI] at r1 r2
    have lh : (toI2 rows).length ≤ 50000 ∧ ∀ t ∈ toI2 rows, t.length ≤ 50000 := by
      refine ⟨by rw [toI2_len, r3]; unfold toN3; rw [List.length_map]; omega, fun t ht => ?_⟩
      obtain ⟨u, hu, rfl⟩ := List.mem_map.1 ht
      have := r4 u hu
      rw [toI1_len]; omega
    -- other names
    have hR : ∃ m e, (m.length ≤ 50000 ∧ ∀ ev ∈ m, ev.length ≤ 50000 ∧ ∀ t ∈ ev, t.length ≤ 50000) ∧ evening_Relabel_d N a p = some (e, m) ∧ ((law09_permutation p N).bind fun v23 => law09_moves_j2 a p v23) = some (e, m) := by
      have hk : evening_check N [(N : Int)] [p] = some (chk N [(N : Int)] [p]) := evening_check_eq N (by omega) (by omega) _ _ (by simp) (by simp; omega)
      unfold evening_Relabel_d
      rw [c1, perm_eq p (by omega) N hN2]
      simp only [Option.bind_some]
      rw [hF, if_neg (by decide)]
      by_cases hl : p.length = N
      · have h1 : ((p.length : Int) != (N : Int)) = false := by simp [hl]
        rw [h1, hk]
        simp only [Bool.false_eq_true, if_false, Option.bind_some]
        by_cases hc : chk N [(N : Int)] [p] = 0
        · have hin := (perm_chk p N hN1 hN2 hl).1 hc
          have hall : allIn p N 0 = true := (allIn_iff p N 0).2 fun x _ hx => hin x (by omega)
          have hr := rel_all p a la.1 (fun ev he => ⟨(la.2 ev he).1, fun t ht => ⟨(la.2 ev he).2 t ht, fun k hk => by
            have := (chk_inv (hchk ev he)).2.1 k (List.mem_flatten.2 ⟨t, ht, hk⟩)
            rw [hl]; exact this⟩⟩)
          refine ⟨nm3 p a, 0, ⟨by unfold nm3; rw [List.length_map]; exact la.1, nm3_lens la.2⟩, ?_, ?_⟩
          · rw [hc, if_neg (by decide), clone_eq a la.1 la.2]
            simp only [Option.bind_some]
            rw [hr]
            rfl
          · rw [decide_eq_true hl, hall]
            unfold law09_moves_j2
            simp only [Bool.and_self, if_true]
            rw [rcopy_eq a la.1 la.2]
            simp only [Option.bind_some]
            rw [mv_3, hr]
            rfl
        · have hno : allIn p N 0 = false := by
            rw [Bool.eq_false_iff]
            intro h
            exact hc ((perm_chk p N hN1 hN2 hl).2 fun x hx => (allIn_iff p N 0).1 h x (Nat.zero_le _) (by omega))
          refine ⟨[], 2, l0, ?_, ?_⟩
          · rw [if_pos (by simpa using hc)]
          · rw [hno]
            unfold law09_moves_j2
            simp
      · have h1 : ((p.length : Int) != (N : Int)) = true := by simp; omega
        rw [h1]
        refine ⟨[], 2, l0, ?_, ?_⟩
        · simp
        · rw [decide_eq_false hl]
          unfold law09_moves_j2
          simp
    obtain ⟨m1, e1, lm1, R1, R2⟩ := hR
    have hJ : ∃ m e, (m.length ≤ 50000 ∧ ∀ ev ∈ m, ev.length ≤ 50000 ∧ ∀ t ∈ ev, t.length ≤ 50000) ∧ evening_Join_d N a b = some (e, m) ∧ law09_moves_j6 a b (chkAll N [] b) = some (e, m) := by
      unfold evening_Join_d
      rw [hj, hF]
      simp only [bne_self_eq_false, Bool.false_eq_true, if_false]
      by_cases hG : (chkAll N [] b).2 = 0
      · unfold law09_moves_j6 law09_moves_j7
        rw [hG]
        simp only [bne_self_eq_false, Bool.false_eq_true, if_false, Option.bind_some, beq_self_eq_true, if_true]
        rw [hlen]
        by_cases hm : a.length + b.length ≤ 64
        · rw [if_neg (by simp; omega), if_pos (by simp; omega), clone_eq a la.1 la.2, clone_eq b lb.1 lb.2, rcopy_eq a la.1 la.2, rcopy_eq b lb.1 lb.2]
          simp only [Option.bind_some]
          rw [if_pos (capOk_le (by omega) (by omega))]
          refine ⟨a ++ b, 0, ⟨by rw [List.length_append]; omega, fun ev he => ?_⟩, rfl, rfl⟩
          rcases List.mem_append.1 he with he | he
          · exact la.2 ev he
          · exact lb.2 ev he
        · rw [if_pos (by simp; omega), if_neg (by simp; omega)]
          exact ⟨[], 7, l0, rfl, rfl⟩
      · have hG2 : ((chkAll N [] b).2 != 0) = true := by simpa using hG
        have hG3 : ((chkAll N [] b).2 == 0) = false := by simpa using hG
        rw [if_pos hG2]
        unfold law09_moves_j6
        rw [hG3]
        exact ⟨[], _, l0, rfl, rfl⟩
    obtain ⟨m2, e2, lm2, J1, J2⟩ := hJ
    have hj1 : law09_moves_j1 N a b p (chkAll N [] a) (chkAll N [] b) = some (toI2 rows, e1, e2, m1, m2) := by
      unfold law09_moves_j1
      rw [hF]
      simp only [beq_self_eq_true, if_true]
      rw [r2]
      simp only [Option.bind_some]
      have : ∀ (k : Int × List (List (List Int)) → Option (List (List Int) × Int × Int × List (List (List Int)) × List (List (List Int)))), ((law09_permutation p N).bind fun v23 => (law09_moves_j2 a p v23).bind k) = k (e1, m1) := fun k => by
        rw [← Option.bind_assoc, R2]; rfl
      rw [this, J2]
      rfl
    rw [R1, J1, r1, hj1]
    simp only [Option.bind_some]
    exact moves_close lm1 lm2 lh la lb (by omega)
  · have hF2 : ((chkAll n [] a).2 != 0) = true := by simpa using hF
    have hF3 : ((chkAll n [] a).2 == 0) = false := by simpa using hF
    have R1 : evening_Relabel_d n a p = some ((chkAll n [] a).2, []) := by
      unfold evening_Relabel_d
      rw [c1]
      simp only [Option.bind_some]
      rw [if_pos hF2]
    have J1 : evening_Join_d n a b = some ((chkAll n [] a).2, []) := by
      unfold evening_Join_d
      rw [hj, if_pos hF2]
      rfl
    have H1 : evening_Hosts n a = some [] := by
      unfold evening_Hosts
      rw [hv, hF3]
      rfl
    have K1 : law09_moves_j1 n a b p (chkAll n [] a) (chkAll n [] b) = some ([], (chkAll n [] a).2, (chkAll n [] a).2, [], []) := by
      unfold law09_moves_j1
      rw [hF3]
      rfl
    rw [R1, J1, H1, K1]
    simp only [Option.bind_some]
    exact moves_close l0 l0 ⟨by simp, fun _ h => by cases h⟩ la lb (by omega)
theorem moves_law (n : Int) (hn : in64 n) (a b : List (List (List Int))) (ha : ShortS a) (hb : ShortS b) (p : List Int) : law09_EveningMoves n a b p = some true := by
  have hw : law09_awake = some true := rfl
  unfold law09_EveningMoves
  obtain ⟨x, hx, hx2⟩ := few_eq a 100 (by omega) ha
  obtain ⟨y, hy, hy2⟩ := few_eq b 100 (by omega) hb
  rw [show ((100 : Nat) : Int) = 100 from rfl] at hx hy
  rw [hx, hw]
  simp only [Option.bind_some]
  cases x with
  | false => rfl
  | true =>
    rw [hy]
    simp only [Option.bind_some, Bool.not_true, Bool.false_eq_true, if_false]
    cases y with
    | false => rfl
    | true =>
      simp only [Bool.not_true, Bool.false_eq_true, if_false]
      by_cases h70 : p.length ≤ 70
      · rw [if_neg (by simp; omega), moves_eq n hn a b (hx2 rfl) (hy2 rfl) p h70]
        rfl
      · rw [if_pos (by simp; omega)]
        rfl
end Go.Proofs.YtcmgmkepodbpkaaDoor
namespace Go.Proofs.YtcmgmkepodbpkaaDoor.eveningMoves
open Go.ChangeShapes Go.WideShapes Go.ChangeAt Go.RowKit
theorem law_ret (a0 : Int) (a1 : (List (List (List Int)))) (a2 : (List (List (List Int)))) (a3 : (List Int)) (h : law09_EveningMoves a0 a1 a2 a3 = some true) {w : World} {v0 v1 v2 v3 : Value} (h0 : VR w (fun c => c < w.heap.size) [] (cdI.enc a0) v0) (h1 : VR w (fun c => c < w.heap.size) [] ((cdL 1 (cdL 1 (cdL 1 cdI))).enc a1) v1) (h2 : VR w (fun c => c < w.heap.size) [] ((cdL 1 (cdL 1 (cdL 1 cdI))).enc a2) v2) (h3 : VR w (fun c => c < w.heap.size) [] ((cdL 1 cdI).enc a3) v3) : Ret Tryd.prog 9 #[v0, v1, v2, v3] w fun v w' => v = .bool true ∧ w.grownBy w' none :=
  Ret.mono (x_law09_EveningMoves.2 (cs_law09_EveningMoves.enc (a0, a1, a2, a3, ())) (er_law09_EveningMoves true) (told_enc (s := cs_law09_EveningMoves) (a := (a0, a1, a2, a3, ())) h) w (fun c => c < w.heap.size) [v0, v1, v2, v3] (fun c hc => hc) (fun g x h => by cases h) (.cons h0 (.cons h1 (.cons h2 (.cons h3 .nil))))) fun v w' h => ⟨h.2.v_inv, h.1⟩
set_option maxRecDepth 100000 in
theorem contract (H : Type) (enc : TypeId × Value → H) (W : World) (base : Nat) (args : Array Value) (ds gs : List (DataW H)) (before : List MemPlace)
    (hval : ∀ (j : Nat) t v, Tryd.f9.params[j]? = some t → args[j]? = some v → Value.okWide Tryd.prog W .any base t v)
    (hW : DataW.Whole enc Tryd.prog Tryd.f9.params.toList Rows.eveningMovesSpec.vars false W args.toList ds gs before)
    (hsz : (DataW.weightsEach Tryd.prog (Tryd.f9.params.toList ++ (OpenSpec.ofChange Rows.eveningMovesSpec).bare.plain.varTypes Tryd.prog) (ds ++ gs)).all (· ≤ reachBytes) = true) :
    Calls Tryd.prog 9 args W fun e W' => ∃ v, e = .returned v ∧ Rows.eveningMovesSpec.post enc Tryd.prog Tryd.f9 false true false false W args v W' := by
  have hW' := hW
  obtain ⟨p, q, hA0, hV, rfl, hfz, hnd⟩ := hW
  have hA : DataW.TrodAll enc Tryd.prog W 0 (fun _ => true) true Tryd.f9.params.toList args.toList ds p := hA0
  have hpar : Tryd.f9.params = #[3, 22, 22, 31] := by kernel_rfl
  rw [hpar] at hA hval
  obtain ⟨v0, vs0, d0, ds0, p0, q0, hargs, rfl, rfl, h0, r0⟩ := trodAll_cons hA
  obtain ⟨v1, vs1, d1, ds1, p1, q1, rfl, rfl, rfl, h1, r1⟩ := trodAll_cons r0
  obtain ⟨v2, vs2, d2, ds2, p2, q2, rfl, rfl, rfl, h2, r2⟩ := trodAll_cons r1
  obtain ⟨v3, vs3, d3, ds3, p3, q3, rfl, rfl, rfl, h3, r3⟩ := trodAll_cons r2
  obtain ⟨rfl, rfl, rfl⟩ := trodAll_nil r3
  obtain rfl : args = #[v0, v1, v2, v3] := by apply Array.ext'; simpa using hargs
  obtain ⟨a0, k0, g0⟩ := rd_arg (rd_int64 (by kernel_rfl : Tryd.prog.underlying 3 = some (.int .i64))) (one_int (by kernel_rfl : Tryd.prog.underlying 3 = some (.int .i64)) (hval 0 3 v0 rfl rfl)) h0 hsz (j := 0) (by kernel_rfl) rfl
  obtain ⟨a1, k1, g1⟩ := rd_arg (rd_slice (by kernel_rfl : Tryd.prog.underlying 22 = some (.slice 50)) (by kernel_rfl) (by kernel_rfl) (rd_slice (by kernel_rfl : Tryd.prog.underlying 50 = some (.slice 31)) (by kernel_rfl) (by kernel_rfl) (rd_slice (by kernel_rfl : Tryd.prog.underlying 31 = some (.slice 3)) (by kernel_rfl) (by kernel_rfl) (rd_int64 (by kernel_rfl : Tryd.prog.underlying 3 = some (.int .i64)))))) (one_slice (by kernel_rfl : Tryd.prog.underlying 22 = some (.slice 50)) (hval 1 22 v1 rfl rfl)) h1 hsz (j := 1) (by kernel_rfl) rfl
  obtain ⟨a2, k2, g2⟩ := rd_arg (rd_slice (by kernel_rfl : Tryd.prog.underlying 22 = some (.slice 50)) (by kernel_rfl) (by kernel_rfl) (rd_slice (by kernel_rfl : Tryd.prog.underlying 50 = some (.slice 31)) (by kernel_rfl) (by kernel_rfl) (rd_slice (by kernel_rfl : Tryd.prog.underlying 31 = some (.slice 3)) (by kernel_rfl) (by kernel_rfl) (rd_int64 (by kernel_rfl : Tryd.prog.underlying 3 = some (.int .i64)))))) (one_slice (by kernel_rfl : Tryd.prog.underlying 22 = some (.slice 50)) (hval 2 22 v2 rfl rfl)) h2 hsz (j := 2) (by kernel_rfl) rfl
  obtain ⟨a3, k3, g3⟩ := rd_arg (rd_slice (by kernel_rfl : Tryd.prog.underlying 31 = some (.slice 3)) (by kernel_rfl) (by kernel_rfl) (rd_int64 (by kernel_rfl : Tryd.prog.underlying 3 = some (.int .i64)))) (one_slice (by kernel_rfl : Tryd.prog.underlying 31 = some (.slice 3)) (hval 3 31 v3 rfl rfl)) h3 hsz (j := 3) (by kernel_rfl) rfl
  have hc := law_ret a0 a1 a2 a3 (moves_law a0 g0 a1 a2 ⟨g1.1, fun ev he => ⟨(g1.2 ev he).1, fun t ht => ((g1.2 ev he).2 t ht).1⟩⟩ ⟨g2.1, fun ev he => ⟨(g2.2 ev he).1, fun t ht => ((g2.2 ev he).2 t ht).1⟩⟩ a3) k0 k1 k2 k3
  unfold Ret at hc
  refine hc.mono fun e W' he => ?_
  cases e with
  | returned v =>
    obtain ⟨rfl, hg⟩ := he
    exact ⟨_, rfl, post_true laidOut (fun t ht => ⟨mem_of_laid (fun t => Tryd.prog.readableRec t) (by kernel_rfl) ht, of_decide_eq_true (mem_of_laid (fun t => decide (t < Tryd.prog.types.size)) (by kernel_rfl) ht)⟩) hW' rfl (by kernel_rfl) (by kernel_rfl : Tryd.prog.underlying 4 = some .bool) rfl hg⟩
  | panicked c => exact he.elim
  | outgrown => exact he.elim
theorem laid_met (os : Os) : laidMet Tryd.prog Rows.eveningMovesRow.laid ((laidWorld os).forCall (fun _ _ => 0) ⟨#[], #[Value.int .i64 0, Value.slice none 0 0, Value.slice none 0 0, Value.slice none 0 0], []⟩).memory :=
  laidMet_of_run' 8 (by kernel_rfl) (by kernel_rfl)
theorem reads (os : Os) {H : Type} (enc : TypeId × Value → H) : ∃ places, DataW.whole enc Tryd.prog ((laidWorld os).forCall (fun _ _ => 0) ⟨#[], #[Value.int .i64 0, Value.slice none 0 0, Value.slice none 0 0, Value.slice none 0 0], []⟩).memory Tryd.f9.params.toList Rows.eveningMovesSpec.vars false #[Value.int .i64 0, Value.slice none 0 0, Value.slice none 0 0, Value.slice none 0 0].toList 8 = some ([.lit (.int .i64 0), .nil, .nil, .nil], [], places) :=
  ⟨[], by kernel_rfl⟩
set_option maxRecDepth 100000 in
theorem lifted (os : Os) (started : os.Started) (H : Type) (enc : TypeId × Value → H) (F : Stop.Interp) :
    ReturnsInHanded {} Tryd.checked os 9 .any ((OpenSpec.ofChange Rows.eveningMovesSpec).preRow enc Tryd.prog Tryd.f9 Rows.eveningMovesRow.domain false Rows.eveningMovesRow.laid) (((OpenSpec.ofChange Rows.eveningMovesSpec).at F).post enc Tryd.prog Tryd.f9 false true false false) := by
  obtain ⟨places, hx⟩ := reads os enc
  refine returnsInHanded_of_row (C := Tryd.checked) (s := OpenSpec.ofChange Rows.eveningMovesSpec) ownKnob0 started (by kernel_rfl) Tryd.func9
    (witness_row_at (enc := enc) (C := Tryd.checked) false (laidWorld os) #[Value.int .i64 0, Value.slice none 0 0, Value.slice none 0 0, Value.slice none 0 0] rfl (by kernel_rfl) (by kernel_rfl) (by kernel_rfl)
      (OpenSpec.preRow_of_cond 8 hx (by kernel_rfl) (fun k hk => by cases hk) (by kernel_rfl) (laid_met os))) ?_
  intro W base args ds gs before hval hW _ _ hsz _ _ _
  exact contract H enc W base args ds gs before hval hW hsz
theorem said : Rows.EveningMovesSaid :=
  OpenClaim.holds_of_cond 9 Tryd.f9 rfl rfl rfl rfl rfl rfl rfl ⟨rfl, rfl, rfl, rfl, rfl⟩ rfl rfl rfl rfl rfl (by kernel_rfl) Tryd.func9 (by kernel_rfl)
    (of_decide_eq_true (by kernel_rfl)) (by unfold Func.isWrapper; first | (rw [if_pos (by decide +kernel)]; kernel_rfl) | (rw [if_neg (by decide +kernel)]; exact ⟨rfl, rfl⟩))
    (fun os started H enc _ F => by rw [OpenClaim.pre_eq_preRow]; exact lifted os started H enc F)
theorem plain (f : FuncId) (fn : Func) (hf : Tryd.pinned.checked.prog.funcNamed "trestle/trestlelaw09.EveningMoves" = some f) (hfn : Tryd.pinned.checked.prog.funcs[f]? = some fn) :
    false = Tryd.pinned.checked.prog.looks [] ∧ ∀ (j : Nat) t, fn.params[j]? = some t → Tryd.pinned.checked.prog.wantsStandIn t = false := by
  obtain rfl : f = 9 := Option.some.inj ((show Tryd.prog.funcNamed "trestle/trestlelaw09.EveningMoves" = some 9 by kernel_rfl).symm.trans hf) |>.symm
  obtain rfl : fn = Tryd.f9 := (Option.some.inj (Tryd.func9.symm.trans hfn)).symm
  refine ⟨by kernel_rfl, fun j t ht => ?_⟩
  have hm : t ∈ Tryd.f9.params.toList := by simpa using Array.mem_of_getElem? ht
  exact (show Tryd.prog.wantsStandIn t = false from Bool.not_eq_true' _ |>.mp (mem_of_laid (fun t => !Tryd.prog.wantsStandIn t) (by kernel_rfl) hm))
theorem card : Rows.EveningMovesCardSaid :=
  Claim7.holds_tied_plain_at .later [] _ _ _ _ said (fun _ h => by cases h) (by kernel_rfl) (fun _ h => by cases h) eveningMoves_row_tie rfl ⟨rfl, rfl⟩ (by kernel_rfl) rfl plain (by kernel_rfl)
end Go.Proofs.YtcmgmkepodbpkaaDoor.eveningMoves
