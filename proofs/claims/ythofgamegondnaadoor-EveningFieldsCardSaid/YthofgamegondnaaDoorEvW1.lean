/- Walks: small functions of the package evening. -/
import Derived.Test.YthofgamegondnaaDoorFacts
import Derived.Test.YthofgamegondnaaDoorEvPlain
import Derived.Test.YthofgamegondnaaDoorSlice
namespace Go.Proofs.YthofgamegondnaaDoor
open Go.RowKit
set_option linter.unusedSimpArgs false
set_option linter.unusedVariables false

set_option maxRecDepth 100000 in
theorem guests_ok (n : Int) (w : World) : Ret Tryd.prog 67 #[.int .i64 n] w fun v w' => v = .bool (decide (1 ≤ n ∧ n ≤ 64)) ∧ w.grownBy w' none := by
  refine ret_in Tryd.func67 rfl rfl rfl ?_
  have pw := pu_refl w
  refine wc_seq ?_
  refine wc_region ?_
  refine wl_v (st_assign (v := .bool (false)) rfl) rfl rfl rfl ?_
  refine wl_nil ?_
  refine wq_then ?_
  refine wc_seq ?_
  refine wc_region ?_
  refine wl_v (st_move (v := .int .i64 (n)) rfl) rfl rfl rfl ?_
  refine wl_v (st_geq rfl rfl) rfl rfl rfl ?_
  refine wl_v (st_move (v := .bool (decide (1 ≤ n))) rfl) rfl rfl rfl ?_
  refine wl_bool (decide (1 ≤ n)) (fun hb => ?_) (fun hb => ?_)
  · have h1 := hb
    clear hb
    have h1p : 1 ≤ n := by first | simpa using h1 | (simp at h1; omega)
    refine wl_guard_yes rfl rfl rfl rfl (by rw [h1]; rfl) ?_
    refine wl_v (st_move (v := .int .i64 (n)) rfl) rfl rfl rfl ?_
    refine wl_guard_yes rfl rfl rfl rfl (by rw [h1]; rfl) ?_
    refine wl_v (st_leq rfl rfl) rfl rfl rfl ?_
    refine wl_v (st_pick_t (v := .bool (decide (n ≤ 64))) rfl h1 rfl) rfl rfl rfl ?_
    refine wl_v (st_assign (v := .bool (decide (n ≤ 64))) rfl) rfl rfl rfl ?_
    refine wl_nil ?_
    refine wq_then ?_
    refine wc_ret ?_
    refine wq_ret1 (v := .bool (decide (n ≤ 64))) rfl rfl rfl ?_
    exact ⟨by simp [*], pw⟩
  · have h1 := hb
    clear hb
    have h1p : ¬ (1 ≤ n) := by first | simpa using h1 | (simp at h1; omega)
    refine wl_guard_no rfl rfl rfl rfl (by rw [h1]; rfl) rfl rfl ?_
    refine wl_guard_no rfl rfl rfl rfl (by rw [h1]; rfl) rfl rfl ?_
    refine wl_v (st_pick_f (v := .bool (false)) rfl h1 rfl) rfl rfl rfl ?_
    refine wl_v (st_assign (v := .bool (false)) rfl) rfl rfl rfl ?_
    refine wl_nil ?_
    refine wq_then ?_
    refine wc_ret ?_
    refine wq_ret1 (v := .bool (false)) rfl rfl rfl ?_
    exact ⟨by simp [*], pw⟩

set_option maxRecDepth 100000 in
theorem fit_ok (n : Int) (S : Nat → Prop) (sv : Value) (xs : List Int) (w : World) (hx : rI.R w S sv xs) (h1 : n ≤ 9223372036854775807) : Ret Tryd.prog 68 #[.int .i64 n, sv] w fun v w' => v = .bool (fitB n xs) ∧ w.grownBy w' none := by
  refine ret_in Tryd.func68 rfl rfl rfl ?_
  have pw := pu_refl w
  have hlen := SlR.le hx
  refine wc_seq ?_
  refine wc_region ?_
  refine wl_v (st_assign (v := .bool (false)) rfl) rfl rfl rfl ?_
  refine wl_nil ?_
  refine wq_then ?_
  refine wc_seq ?_
  refine wc_region ?_
  refine wl_v (st_move (v := .int .i64 (n)) rfl) rfl rfl rfl ?_
  refine wl_v (st_assign (v := .int .i64 (n)) rfl) rfl rfl rfl ?_
  refine wl_nil ?_
  refine wq_then ?_
  refine wc_seq ?_
  refine wc_seq ?_
  refine wc_region ?_
  refine wl_v (st_move (v := sv) rfl) rfl rfl rfl ?_
  refine wl_v (st_lenS hx ty24 rfl) rfl rfl rfl ?_
  refine wl_v (st_move (v := .int .i64 (0)) rfl) rfl rfl rfl ?_
  refine wl_nil ?_
  refine wq_then ?_
  refine wc_block ?_
  refine wc_loop (fun fl mm w' => ∃ k : Nat, ∃ left : Int, fl = [(0, .int .i64 (n)), (4, .bool (false)), (5, .int .i64 (left)), (9, sv), (10, .int .i64 (((xs).length : Int))), (11, .int .i64 ((k : Int)))] ∧ mm = xs.length - k ∧ (k ≤ xs.length) ∧ (left ≤ n) ∧ (fitGo left (xs.drop k) = fitGo n xs) ∧ w.grownBy w' none ∧ rI.R w' (S) (sv) (xs)) (h0 := ⟨0, n, rfl, rfl, ?_, ?_, ?_, pw, hx⟩) (hf := ⟨(by first | rfl | exact congrArg (Value.int _) (by omega) | go_num), (by first | rfl | exact congrArg (Value.int _) (by omega) | go_num), (by first | rfl | exact congrArg (Value.int _) (by omega) | go_num), (by first | rfl | exact congrArg (Value.int _) (by omega) | go_num), (by first | rfl | exact congrArg (Value.int _) (by omega) | go_num), (by first | rfl | exact congrArg (Value.int _) (by omega) | go_num), trivial⟩) ?_
  · omega
  · omega
  · rfl
  · skip
    rintro _ _ w1 s2 ⟨k, left, rfl, rfl, p1_1, p1_2, p1_3, pw, hx⟩
    refine wc_seq ?_
    refine wc_region ?_
    refine wl_v (st_lss rfl rfl) rfl rfl rfl ?_
    refine wl_nil ?_
    refine wq_then ?_
    refine wc_seq ?_
    refine wc_cond rfl ?_ ?_
    · intro h3
      have h3p : (k : Int) < ((xs).length : Int) := by first | simpa using h3 | (simp at h3; omega)
      refine wc_skip ?_
      refine wq_then ?_
      refine wc_seq ?_
      refine wc_block ?_
      refine wc_seq ?_
      refine wc_region ?_
      refine wl_e (st_idxI hx ty24 ty3 rfl rfl (by omega) (by omega)) rfl rfl rfl ?_
      rintro _ ⟨a5, rfl, hc4⟩
      simp only [Int.toNat_natCast] at hc4
      refine wl_v (st_load ty3 rfl rfl hc4) rfl rfl rfl ?_
      refine wl_v (st_assign (v := .int .i64 ((xs).getD k 0)) rfl) rfl rfl rfl ?_
      refine wl_nil ?_
      refine wq_then ?_
      refine wc_seq ?_
      refine wc_seq ?_
      refine wc_region ?_
      refine wl_v (st_move (v := .int .i64 ((xs).getD k 0)) rfl) rfl rfl rfl ?_
      refine wl_v (st_lss rfl rfl) rfl rfl rfl ?_
      refine wl_v (st_move (v := .bool (decide (((xs).getD k 0) < 1))) rfl) rfl rfl rfl ?_
      refine wl_bool (decide (((xs).getD k 0) < 1)) (fun hb => ?_) (fun hb => ?_)
      · have h6 := hb
        clear hb
        have h6p : ((xs).getD k 0) < 1 := by first | simpa using h6 | (simp at h6; omega)
        refine wl_guard_no rfl rfl rfl rfl (by rw [h6]; rfl) rfl rfl ?_
        refine wl_guard_no rfl rfl rfl rfl (by rw [h6]; rfl) rfl rfl ?_
        refine wl_guard_no rfl rfl rfl rfl (by rw [h6]; rfl) rfl rfl ?_
        refine wl_v (st_pick_t (v := .bool (true)) rfl h6 rfl) rfl rfl rfl ?_
        refine wl_nil ?_
        refine wq_then ?_
        refine wc_true rfl ?_
        refine wc_seq ?_
        refine wc_region ?_
        refine wl_v (st_assign (v := .bool (false)) rfl) rfl rfl rfl ?_
        refine wl_nil ?_
        refine wq_then ?_
        refine wc_ret ?_
        refine wq_then_ret ?_
        refine wq_block_ret ?_
        refine wq_then_ret ?_
        refine wq_then_ret ?_
        refine wq_block_ret ?_
        refine wq_then_ret ?_
        refine wq_ret1 (v := .bool (false)) rfl rfl rfl ?_
        exact ⟨congrArg Value.bool (by rw [fitB, ← p1_3, drop_getD xs k (by omega), fitGo, if_pos (by omega)]; rfl), pw⟩
      · have h6 := hb
        clear hb
        have h6p : ¬ (((xs).getD k 0) < 1) := by first | simpa using h6 | (simp at h6; omega)
        refine wl_guard_yes rfl rfl rfl rfl (by rw [h6]; rfl) ?_
        refine wl_v (st_move (v := .int .i64 ((xs).getD k 0)) rfl) rfl rfl rfl ?_
        refine wl_guard_yes rfl rfl rfl rfl (by rw [h6]; rfl) ?_
        refine wl_v (st_move (v := .int .i64 (left)) rfl) rfl rfl rfl ?_
        refine wl_guard_yes rfl rfl rfl rfl (by rw [h6]; rfl) ?_
        refine wl_v (st_gtr rfl rfl) rfl rfl rfl ?_
        refine wl_v (st_pick_f (v := .bool (decide (left < ((xs).getD k 0)))) rfl h6 rfl) rfl rfl rfl ?_
        refine wl_nil ?_
        refine wq_then ?_
        refine wc_cond rfl ?_ ?_
        · intro h7
          have h7p : left < ((xs).getD k 0) := by first | simpa using h7 | (simp at h7; omega)
          refine wc_seq ?_
          refine wc_region ?_
          refine wl_v (st_assign (v := .bool (false)) rfl) rfl rfl rfl ?_
          refine wl_nil ?_
          refine wq_then ?_
          refine wc_ret ?_
          refine wq_then_ret ?_
          refine wq_block_ret ?_
          refine wq_then_ret ?_
          refine wq_then_ret ?_
          refine wq_block_ret ?_
          refine wq_then_ret ?_
          refine wq_ret1 (v := .bool (false)) rfl rfl rfl ?_
          exact ⟨congrArg Value.bool (by rw [fitB, ← p1_3, drop_getD xs k (by omega), fitGo, if_pos (by omega)]; rfl), pw⟩
        · intro h7
          have h7p : ¬ (left < ((xs).getD k 0)) := by first | simpa using h7 | (simp at h7; omega)
          refine wc_skip ?_
          refine wq_then ?_
          refine wc_region ?_
          refine wl_v (st_move (v := .int .i64 (left)) rfl) rfl rfl rfl ?_
          refine wl_v (st_move (v := .int .i64 ((xs).getD k 0)) rfl) rfl rfl rfl ?_
          refine wl_v (st_sub rfl rfl (by omega) (by omega)) rfl rfl rfl ?_
          refine wl_v (st_assign (v := .int .i64 (left - ((xs).getD k 0))) rfl) rfl rfl rfl ?_
          refine wl_nil ?_
          refine wq_block_normal ?_
          refine wq_then ?_
          refine wc_region ?_
          refine wl_v (st_add rfl rfl (by omega) (by omega)) rfl rfl rfl ?_
          refine wl_v (st_move (v := .int .i64 ((k : Int) + 1)) rfl) rfl rfl rfl ?_
          refine wl_nil ?_
          refine wq_round (hI := ⟨k + 1, (left - xs.getD k 0), rfl, rfl, ?_, ?_, ?_, pw, hx⟩) (hm := ?_) (hf := ?_) rfl rfl
          · omega
          · omega
          · (rw [drop_getD xs k (by omega), fitGo, if_neg (by omega)] at *; assumption)
          · omega
          · exact ⟨(by first | rfl | exact congrArg (Value.int _) (by omega) | go_num), (by first | rfl | exact congrArg (Value.int _) (by omega) | go_num), (by first | rfl | exact congrArg (Value.int _) (by omega) | go_num), (by first | rfl | exact congrArg (Value.int _) (by omega) | go_num), (by first | rfl | exact congrArg (Value.int _) (by omega) | go_num), (by first | rfl | exact congrArg (Value.int _) (by omega) | go_num), trivial⟩
    · intro h3
      have h3p : ¬ ((k : Int) < ((xs).length : Int)) := by first | simpa using h3 | (simp at h3; omega)
      refine wc_exit ?_
      refine wq_then_exit ?_
      refine wq_then_exit ?_
      refine wq_block_exit ?_
      refine wq_then ?_
      refine wc_seq ?_
      refine wc_region ?_
      refine wl_v (st_move (v := .int .i64 (n)) rfl) rfl rfl rfl ?_
      refine wl_call (vs := [.int .i64 (n)]) C67 rfl rfl (guests_ok (n) _) ?_
      rintro _ w8 ⟨rfl, hn9⟩
      have pw := pu_trans pw hn9
      have hx := Rep.pu hx hn9
      have hzw8 := World.grownBy.size hn9
      refine wl_v (st_move (v := .bool (decide (1 ≤ n ∧ n ≤ 64))) rfl) rfl rfl rfl ?_
      refine wl_bool (decide (1 ≤ n ∧ n ≤ 64)) (fun hb => ?_) (fun hb => ?_)
      · have h10 := hb
        clear hb
        have h10p : 1 ≤ n ∧ n ≤ 64 := by first | simpa using h10 | (simp at h10; omega)
        refine wl_guard_yes rfl rfl rfl rfl (by rw [h10]; rfl) ?_
        refine wl_v (st_move (v := .int .i64 (left)) rfl) rfl rfl rfl ?_
        refine wl_guard_yes rfl rfl rfl rfl (by rw [h10]; rfl) ?_
        refine wl_v (st_eql rfl rfl) rfl rfl rfl ?_
        refine wl_v (st_pick_t (v := .bool (decide (left = 0))) rfl h10 rfl) rfl rfl rfl ?_
        refine wl_v (st_assign (v := .bool (decide (left = 0))) rfl) rfl rfl rfl ?_
        refine wl_nil ?_
        refine wq_then ?_
        refine wc_ret ?_
        refine wq_ret1 (v := .bool (decide (left = 0))) rfl rfl rfl ?_
        exact ⟨congrArg Value.bool (by rw [fitB, ← p1_3, List.drop_of_length_le (by omega), fitGo]; simp [*]), pw⟩
      · have h10 := hb
        clear hb
        have h10p : ¬ (1 ≤ n ∧ n ≤ 64) := by first | simpa using h10 | (simp at h10; omega)
        refine wl_guard_no rfl rfl rfl rfl (by rw [h10]; rfl) rfl rfl ?_
        refine wl_guard_no rfl rfl rfl rfl (by rw [h10]; rfl) rfl rfl ?_
        refine wl_v (st_pick_f (v := .bool (false)) rfl h10 rfl) rfl rfl rfl ?_
        refine wl_v (st_assign (v := .bool (false)) rfl) rfl rfl rfl ?_
        refine wl_nil ?_
        refine wq_then ?_
        refine wc_ret ?_
        refine wq_ret1 (v := .bool (false)) rfl rfl rfl ?_
        exact ⟨congrArg Value.bool (by rw [fitB, ← p1_3, List.drop_of_length_le (by omega), fitGo]; simp [*]), pw⟩

end Go.Proofs.YthofgamegondnaaDoor
