/- Walks: the law of fields. -/
import Derived.Test.YthofgamegondnaaDoorEvW5
namespace Go.Proofs.YthofgamegondnaaDoor
open Go.RowKit
set_option linter.unusedSimpArgs false
set_option linter.unusedVariables false

set_option maxRecDepth 100000 in
theorem fields_ok (q a b : Int) (w : World) : Ret Tryd.prog 15 #[.int .i64 q, .int .i64 a, .int .i64 b] w fun v w' => v = .bool true ∧ w.grownBy w' none := by
  refine ret_in Tryd.func15 rfl rfl rfl ?_
  have pw := pu_refl w
  refine wc_seq ?_
  refine wc_region ?_
  refine wl_v (st_assign (v := .bool (false)) rfl) rfl rfl rfl ?_
  refine wl_nil ?_
  refine wq_then ?_
  refine wc_seq ?_
  refine wc_region ?_
  refine wl_v (st_assign (v := .int .i64 (0)) rfl) rfl rfl rfl ?_
  refine wl_v (st_assign (v := .int .i64 (0)) rfl) rfl rfl rfl ?_
  refine wl_v (st_assign (v := .bool (false)) rfl) rfl rfl rfl ?_
  refine wl_nil ?_
  refine wq_then ?_
  refine wc_seq ?_
  refine wc_seq ?_
  refine wc_region ?_
  refine wl_v (st_move (v := .int .i64 (q)) rfl) rfl rfl rfl ?_
  obtain ⟨p3, poly4, hq5⟩ : ∃ p poly, refField (q) = (p, poly) := ⟨_, _, rfl⟩
  refine wl_call (vs := [.int .i64 (q)]) C53 rfl rfl ((by have h := rfield_ok (q) w; rw [hq5] at h; exact h)) ?_
  rintro _ w6 ⟨hn7, sv1, rfl, hs2⟩
  have pw := pu_trans pw hn7
  have hzw6 := World.grownBy.size hn7
  have hs2 : rI.R w6 (Lo w6.heap.size) sv1 poly4 := hs2
  refine wl_v (st_move (v := .tuple #[.int .i64 (p3), sv1]) rfl) rfl rfl rfl ?_
  refine wl_v (st_extract (v := .int .i64 (p3)) rfl rfl) rfl rfl rfl ?_
  refine wl_v (st_extract (v := sv1) rfl rfl) rfl rfl rfl ?_
  refine wl_v (st_assign (v := .int .i64 (p3)) rfl) rfl rfl rfl ?_
  refine wl_v (st_assign (v := sv1) rfl) rfl rfl rfl ?_
  refine wl_nil ?_
  refine wq_then ?_
  refine wc_seq ?_
  refine wc_region ?_
  refine wl_v (st_move (v := .int .i64 (p3)) rfl) rfl rfl rfl ?_
  refine wl_v (st_gtr rfl rfl) rfl rfl rfl ?_
  refine wl_v (st_move (v := .bool (decide (0 < p3))) rfl) rfl rfl rfl ?_
  refine wl_bool (decide (0 < p3)) (fun hb => ?_) (fun hb => ?_)
  · have h8 := hb
    clear hb
    have h8p : 0 < p3 := by first | simpa using h8 | (simp at h8; omega)
    refine wl_guard_yes rfl rfl rfl rfl (by rw [h8]; rfl) ?_
    refine wl_v (st_move (v := .int .i64 (a)) rfl) rfl rfl rfl ?_
    refine wl_guard_yes rfl rfl rfl rfl (by rw [h8]; rfl) ?_
    refine wl_v (st_geq rfl rfl) rfl rfl rfl ?_
    refine wl_v (st_pick_t (v := .bool (decide (0 ≤ a))) rfl h8 rfl) rfl rfl rfl ?_
    refine wl_v (st_move (v := .bool (decide (0 ≤ a))) rfl) rfl rfl rfl ?_
    refine wl_bool (decide (0 ≤ a)) (fun hb => ?_) (fun hb => ?_)
    · have h9 := hb
      clear hb
      have h9p : 0 ≤ a := by first | simpa using h9 | (simp at h9; omega)
      refine wl_guard_yes rfl rfl rfl rfl (by rw [h9]; rfl) ?_
      refine wl_v (st_move (v := .int .i64 (a)) rfl) rfl rfl rfl ?_
      refine wl_guard_yes rfl rfl rfl rfl (by rw [h9]; rfl) ?_
      refine wl_v (st_move (v := .int .i64 (q)) rfl) rfl rfl rfl ?_
      refine wl_guard_yes rfl rfl rfl rfl (by rw [h9]; rfl) ?_
      refine wl_v (st_lss rfl rfl) rfl rfl rfl ?_
      refine wl_v (st_pick_t (v := .bool (decide (a < q))) rfl h9 rfl) rfl rfl rfl ?_
      refine wl_v (st_move (v := .bool (decide (a < q))) rfl) rfl rfl rfl ?_
      refine wl_bool (decide (a < q)) (fun hb => ?_) (fun hb => ?_)
      · have h10 := hb
        clear hb
        have h10p : a < q := by first | simpa using h10 | (simp at h10; omega)
        refine wl_guard_yes rfl rfl rfl rfl (by rw [h10]; rfl) ?_
        refine wl_v (st_move (v := .int .i64 (b)) rfl) rfl rfl rfl ?_
        refine wl_guard_yes rfl rfl rfl rfl (by rw [h10]; rfl) ?_
        refine wl_v (st_geq rfl rfl) rfl rfl rfl ?_
        refine wl_v (st_pick_t (v := .bool (decide (0 ≤ b))) rfl h10 rfl) rfl rfl rfl ?_
        refine wl_v (st_move (v := .bool (decide (0 ≤ b))) rfl) rfl rfl rfl ?_
        refine wl_bool (decide (0 ≤ b)) (fun hb => ?_) (fun hb => ?_)
        · have h11 := hb
          clear hb
          have h11p : 0 ≤ b := by first | simpa using h11 | (simp at h11; omega)
          refine wl_guard_yes rfl rfl rfl rfl (by rw [h11]; rfl) ?_
          refine wl_v (st_move (v := .int .i64 (b)) rfl) rfl rfl rfl ?_
          refine wl_guard_yes rfl rfl rfl rfl (by rw [h11]; rfl) ?_
          refine wl_v (st_move (v := .int .i64 (q)) rfl) rfl rfl rfl ?_
          refine wl_guard_yes rfl rfl rfl rfl (by rw [h11]; rfl) ?_
          refine wl_v (st_lss rfl rfl) rfl rfl rfl ?_
          refine wl_v (st_pick_t (v := .bool (decide (b < q))) rfl h11 rfl) rfl rfl rfl ?_
          refine wl_nil ?_
          refine wq_then ?_
          refine wc_cond rfl ?_ ?_
          · intro h12
            have h12p : b < q := by first | simpa using h12 | (simp at h12; omega)
            refine wc_region ?_
            refine wl_v (st_move (v := .int .i64 (q)) rfl) rfl rfl rfl ?_
            refine wl_v (st_move (v := .int .i64 (a)) rfl) rfl rfl rfl ?_
            refine wl_v (st_move (v := .int .i64 (b)) rfl) rfl rfl rfl ?_
            refine wl_call (vs := [.int .i64 (q), .int .i64 (a), .int .i64 (b)]) C54 rfl rfl (refAdd_ok (q) (a) (b) _ (by rw [hq5]; show 0 < p3; omega) (by omega) (by omega)) ?_
            rintro _ w13 ⟨rfl, hn14⟩
            have pw := pu_trans pw hn14
            have hs2 := Rep.pu hs2 hn14
            have hzw13 := World.grownBy.size hn14
            refine wl_v (st_move (v := .int .i64 (q)) rfl) rfl rfl rfl ?_
            refine wl_v (st_move (v := .int .i64 (a)) rfl) rfl rfl rfl ?_
            refine wl_v (st_move (v := .int .i64 (b)) rfl) rfl rfl rfl ?_
            refine wl_call (vs := [.int .i64 (q), .int .i64 (a), .int .i64 (b)]) C55 rfl rfl (refMul_ok (q) (a) (b) _ (by rw [hq5]; show 0 < p3; omega) (by omega) (by omega)) ?_
            rintro _ w15 ⟨rfl, hn16⟩
            have pw := pu_trans pw hn16
            have hs2 := Rep.pu hs2 hn16
            have hzw15 := World.grownBy.size hn16
            refine wl_v (st_assign (v := .int .i64 (refAdd (q) (a) (b))) rfl) rfl rfl rfl ?_
            refine wl_v (st_assign (v := .int .i64 (refMul (q) (a) (b))) rfl) rfl rfl rfl ?_
            refine wl_v (st_assign (v := .bool (true)) rfl) rfl rfl rfl ?_
            refine wl_nil ?_
            refine wq_then ?_
            refine wc_seq ?_
            have hE := fields_in (q := q) (a := a) (b := b) (by rw [hq5]; show 0 < p3; omega) (by omega) (by omega)
            refine wc_region ?_
            refine wl_v (st_move (v := .int .i64 (q)) rfl) rfl rfl rfl ?_
            refine wl_v (st_move (v := .int .i64 (a)) rfl) rfl rfl rfl ?_
            refine wl_v (st_move (v := .int .i64 (b)) rfl) rfl rfl rfl ?_
            refine wl_call (vs := [.int .i64 (q), .int .i64 (a), .int .i64 (b)]) C18 rfl rfl (Add_ok (q) (a) (b) _) ?_
            rintro _ w17 ⟨rfl, hn18⟩
            have pw := pu_trans pw hn18
            have hs2 := Rep.pu hs2 hn18
            have hzw17 := World.grownBy.size hn18
            refine wl_v (st_move (v := .tuple #[.int .i64 (evAdd (q) (a) (b)).1, .bool (evAdd (q) (a) (b)).2]) rfl) rfl rfl rfl ?_
            refine wl_v (st_extract (v := .int .i64 ((evAdd (q) (a) (b)).1)) rfl rfl) rfl rfl rfl ?_
            refine wl_v (st_extract (v := .bool ((evAdd (q) (a) (b)).2)) rfl rfl) rfl rfl rfl ?_
            refine wl_v (st_assign (v := .int .i64 ((evAdd (q) (a) (b)).1)) rfl) rfl rfl rfl ?_
            refine wl_v (st_assign (v := .bool ((evAdd (q) (a) (b)).2)) rfl) rfl rfl rfl ?_
            refine wl_nil ?_
            refine wq_then ?_
            refine wc_seq ?_
            refine wc_region ?_
            refine wl_v (st_move (v := .int .i64 (q)) rfl) rfl rfl rfl ?_
            refine wl_v (st_move (v := .int .i64 (a)) rfl) rfl rfl rfl ?_
            refine wl_v (st_move (v := .int .i64 (b)) rfl) rfl rfl rfl ?_
            refine wl_call (vs := [.int .i64 (q), .int .i64 (a), .int .i64 (b)]) C20 rfl rfl (Mul_ok (q) (a) (b) _) ?_
            rintro _ w19 ⟨rfl, hn20⟩
            have pw := pu_trans pw hn20
            have hs2 := Rep.pu hs2 hn20
            have hzw19 := World.grownBy.size hn20
            refine wl_v (st_move (v := .tuple #[.int .i64 (evMul (q) (a) (b)).1, .bool (evMul (q) (a) (b)).2]) rfl) rfl rfl rfl ?_
            refine wl_v (st_extract (v := .int .i64 ((evMul (q) (a) (b)).1)) rfl rfl) rfl rfl rfl ?_
            refine wl_v (st_extract (v := .bool ((evMul (q) (a) (b)).2)) rfl rfl) rfl rfl rfl ?_
            refine wl_v (st_assign (v := .int .i64 ((evMul (q) (a) (b)).1)) rfl) rfl rfl rfl ?_
            refine wl_v (st_assign (v := .bool ((evMul (q) (a) (b)).2)) rfl) rfl rfl rfl ?_
            refine wl_nil ?_
            refine wq_then ?_
            refine wc_seq ?_
            refine wc_region ?_
            refine wl_v (st_move (v := .int .i64 ((evAdd (q) (a) (b)).1)) rfl) rfl rfl rfl ?_
            refine wl_v (st_move (v := .int .i64 (refAdd (q) (a) (b))) rfl) rfl rfl rfl ?_
            refine wl_v (st_eql rfl rfl) rfl rfl rfl ?_
            rw [show decide (((evAdd (q) (a) (b)).1) = (refAdd (q) (a) (b))) = true from decide_eq_true (by rw [hE.1])]
            refine wl_v (st_move (v := .bool (true)) rfl) rfl rfl rfl ?_
            refine wl_guard_yes rfl rfl rfl rfl rfl ?_
            refine wl_v (st_move (v := .int .i64 ((evMul (q) (a) (b)).1)) rfl) rfl rfl rfl ?_
            refine wl_guard_yes rfl rfl rfl rfl rfl ?_
            refine wl_v (st_move (v := .int .i64 (refMul (q) (a) (b))) rfl) rfl rfl rfl ?_
            refine wl_guard_yes rfl rfl rfl rfl rfl ?_
            refine wl_v (st_eql rfl rfl) rfl rfl rfl ?_
            rw [show decide (((evMul (q) (a) (b)).1) = (refMul (q) (a) (b))) = true from decide_eq_true (by rw [hE.2])]
            refine wl_v (st_pick_t (v := .bool (true)) rfl rfl rfl) rfl rfl rfl ?_
            refine wl_v (st_move (v := .bool (true)) rfl) rfl rfl rfl ?_
            refine wl_guard_yes rfl rfl rfl rfl rfl ?_
            refine wl_v (st_move (v := .bool ((evAdd (q) (a) (b)).2)) rfl) rfl rfl rfl ?_
            refine wl_guard_yes rfl rfl rfl rfl rfl ?_
            refine wl_v (st_move (v := .bool (true)) rfl) rfl rfl rfl ?_
            refine wl_guard_yes rfl rfl rfl rfl rfl ?_
            refine wl_v (st_eqlB ty4 rfl rfl) rfl rfl rfl ?_
            rw [show (((evAdd (q) (a) (b)).2) == true) = true from by simp [hE.1]]
            refine wl_v (st_pick_t (v := .bool (true)) rfl rfl rfl) rfl rfl rfl ?_
            refine wl_v (st_move (v := .bool (true)) rfl) rfl rfl rfl ?_
            refine wl_guard_yes rfl rfl rfl rfl rfl ?_
            refine wl_v (st_move (v := .bool ((evMul (q) (a) (b)).2)) rfl) rfl rfl rfl ?_
            refine wl_guard_yes rfl rfl rfl rfl rfl ?_
            refine wl_v (st_move (v := .bool (true)) rfl) rfl rfl rfl ?_
            refine wl_guard_yes rfl rfl rfl rfl rfl ?_
            refine wl_v (st_eqlB ty4 rfl rfl) rfl rfl rfl ?_
            rw [show (((evMul (q) (a) (b)).2) == true) = true from by simp [hE.2]]
            refine wl_v (st_pick_t (v := .bool (true)) rfl rfl rfl) rfl rfl rfl ?_
            refine wl_v (st_assign (v := .bool (true)) rfl) rfl rfl rfl ?_
            refine wl_nil ?_
            refine wq_then ?_
            refine wc_ret ?_
            refine wq_ret1 (v := .bool (true)) rfl rfl rfl ?_
            exact ⟨rfl, pw⟩
          · intro h12
            have h12p : ¬ (b < q) := by first | simpa using h12 | (simp at h12; omega)
            refine wc_skip ?_
            refine wq_then ?_
            refine wc_seq ?_
            have hE := fields_out (q := q) (a := a) (b := b) (by rw [hq5]; show ¬ (0 < p3 ∧ (0 ≤ a ∧ a < q) ∧ (0 ≤ b ∧ b < q)); omega)
            refine wc_region ?_
            refine wl_v (st_move (v := .int .i64 (q)) rfl) rfl rfl rfl ?_
            refine wl_v (st_move (v := .int .i64 (a)) rfl) rfl rfl rfl ?_
            refine wl_v (st_move (v := .int .i64 (b)) rfl) rfl rfl rfl ?_
            refine wl_call (vs := [.int .i64 (q), .int .i64 (a), .int .i64 (b)]) C18 rfl rfl (Add_ok (q) (a) (b) _) ?_
            rintro _ w21 ⟨rfl, hn22⟩
            have pw := pu_trans pw hn22
            have hs2 := Rep.pu hs2 hn22
            have hzw21 := World.grownBy.size hn22
            refine wl_v (st_move (v := .tuple #[.int .i64 (evAdd (q) (a) (b)).1, .bool (evAdd (q) (a) (b)).2]) rfl) rfl rfl rfl ?_
            refine wl_v (st_extract (v := .int .i64 ((evAdd (q) (a) (b)).1)) rfl rfl) rfl rfl rfl ?_
            refine wl_v (st_extract (v := .bool ((evAdd (q) (a) (b)).2)) rfl rfl) rfl rfl rfl ?_
            refine wl_v (st_assign (v := .int .i64 ((evAdd (q) (a) (b)).1)) rfl) rfl rfl rfl ?_
            refine wl_v (st_assign (v := .bool ((evAdd (q) (a) (b)).2)) rfl) rfl rfl rfl ?_
            refine wl_nil ?_
            refine wq_then ?_
            refine wc_seq ?_
            refine wc_region ?_
            refine wl_v (st_move (v := .int .i64 (q)) rfl) rfl rfl rfl ?_
            refine wl_v (st_move (v := .int .i64 (a)) rfl) rfl rfl rfl ?_
            refine wl_v (st_move (v := .int .i64 (b)) rfl) rfl rfl rfl ?_
            refine wl_call (vs := [.int .i64 (q), .int .i64 (a), .int .i64 (b)]) C20 rfl rfl (Mul_ok (q) (a) (b) _) ?_
            rintro _ w23 ⟨rfl, hn24⟩
            have pw := pu_trans pw hn24
            have hs2 := Rep.pu hs2 hn24
            have hzw23 := World.grownBy.size hn24
            refine wl_v (st_move (v := .tuple #[.int .i64 (evMul (q) (a) (b)).1, .bool (evMul (q) (a) (b)).2]) rfl) rfl rfl rfl ?_
            refine wl_v (st_extract (v := .int .i64 ((evMul (q) (a) (b)).1)) rfl rfl) rfl rfl rfl ?_
            refine wl_v (st_extract (v := .bool ((evMul (q) (a) (b)).2)) rfl rfl) rfl rfl rfl ?_
            refine wl_v (st_assign (v := .int .i64 ((evMul (q) (a) (b)).1)) rfl) rfl rfl rfl ?_
            refine wl_v (st_assign (v := .bool ((evMul (q) (a) (b)).2)) rfl) rfl rfl rfl ?_
            refine wl_nil ?_
            refine wq_then ?_
            refine wc_seq ?_
            refine wc_region ?_
            refine wl_v (st_move (v := .int .i64 ((evAdd (q) (a) (b)).1)) rfl) rfl rfl rfl ?_
            refine wl_v (st_move (v := .int .i64 (0)) rfl) rfl rfl rfl ?_
            refine wl_v (st_eql rfl rfl) rfl rfl rfl ?_
            rw [show decide (((evAdd (q) (a) (b)).1) = 0) = true from decide_eq_true (by rw [hE.1])]
            refine wl_v (st_move (v := .bool (true)) rfl) rfl rfl rfl ?_
            refine wl_guard_yes rfl rfl rfl rfl rfl ?_
            refine wl_v (st_move (v := .int .i64 ((evMul (q) (a) (b)).1)) rfl) rfl rfl rfl ?_
            refine wl_guard_yes rfl rfl rfl rfl rfl ?_
            refine wl_v (st_move (v := .int .i64 (0)) rfl) rfl rfl rfl ?_
            refine wl_guard_yes rfl rfl rfl rfl rfl ?_
            refine wl_v (st_eql rfl rfl) rfl rfl rfl ?_
            rw [show decide (((evMul (q) (a) (b)).1) = 0) = true from decide_eq_true (by rw [hE.2])]
            refine wl_v (st_pick_t (v := .bool (true)) rfl rfl rfl) rfl rfl rfl ?_
            refine wl_v (st_move (v := .bool (true)) rfl) rfl rfl rfl ?_
            refine wl_guard_yes rfl rfl rfl rfl rfl ?_
            refine wl_v (st_move (v := .bool ((evAdd (q) (a) (b)).2)) rfl) rfl rfl rfl ?_
            refine wl_guard_yes rfl rfl rfl rfl rfl ?_
            refine wl_v (st_move (v := .bool (false)) rfl) rfl rfl rfl ?_
            refine wl_guard_yes rfl rfl rfl rfl rfl ?_
            refine wl_v (st_eqlB ty4 rfl rfl) rfl rfl rfl ?_
            rw [show (((evAdd (q) (a) (b)).2) == false) = true from by simp [hE.1]]
            refine wl_v (st_pick_t (v := .bool (true)) rfl rfl rfl) rfl rfl rfl ?_
            refine wl_v (st_move (v := .bool (true)) rfl) rfl rfl rfl ?_
            refine wl_guard_yes rfl rfl rfl rfl rfl ?_
            refine wl_v (st_move (v := .bool ((evMul (q) (a) (b)).2)) rfl) rfl rfl rfl ?_
            refine wl_guard_yes rfl rfl rfl rfl rfl ?_
            refine wl_v (st_move (v := .bool (false)) rfl) rfl rfl rfl ?_
            refine wl_guard_yes rfl rfl rfl rfl rfl ?_
            refine wl_v (st_eqlB ty4 rfl rfl) rfl rfl rfl ?_
            rw [show (((evMul (q) (a) (b)).2) == false) = true from by simp [hE.2]]
            refine wl_v (st_pick_t (v := .bool (true)) rfl rfl rfl) rfl rfl rfl ?_
            refine wl_v (st_assign (v := .bool (true)) rfl) rfl rfl rfl ?_
            refine wl_nil ?_
            refine wq_then ?_
            refine wc_ret ?_
            refine wq_ret1 (v := .bool (true)) rfl rfl rfl ?_
            exact ⟨rfl, pw⟩
        · have h11 := hb
          clear hb
          have h11p : ¬ (0 ≤ b) := by first | simpa using h11 | (simp at h11; omega)
          refine wl_guard_no rfl rfl rfl rfl (by rw [h11]; rfl) rfl rfl ?_
          refine wl_guard_no rfl rfl rfl rfl (by rw [h11]; rfl) rfl rfl ?_
          refine wl_guard_no rfl rfl rfl rfl (by rw [h11]; rfl) rfl rfl ?_
          refine wl_v (st_pick_f (v := .bool (false)) rfl h11 rfl) rfl rfl rfl ?_
          refine wl_nil ?_
          refine wq_then ?_
          refine wc_false rfl ?_
          refine wc_skip ?_
          refine wq_then ?_
          refine wc_seq ?_
          have hE := fields_out (q := q) (a := a) (b := b) (by rw [hq5]; show ¬ (0 < p3 ∧ (0 ≤ a ∧ a < q) ∧ (0 ≤ b ∧ b < q)); omega)
          refine wc_region ?_
          refine wl_v (st_move (v := .int .i64 (q)) rfl) rfl rfl rfl ?_
          refine wl_v (st_move (v := .int .i64 (a)) rfl) rfl rfl rfl ?_
          refine wl_v (st_move (v := .int .i64 (b)) rfl) rfl rfl rfl ?_
          refine wl_call (vs := [.int .i64 (q), .int .i64 (a), .int .i64 (b)]) C18 rfl rfl (Add_ok (q) (a) (b) _) ?_
          rintro _ w25 ⟨rfl, hn26⟩
          have pw := pu_trans pw hn26
          have hs2 := Rep.pu hs2 hn26
          have hzw25 := World.grownBy.size hn26
          refine wl_v (st_move (v := .tuple #[.int .i64 (evAdd (q) (a) (b)).1, .bool (evAdd (q) (a) (b)).2]) rfl) rfl rfl rfl ?_
          refine wl_v (st_extract (v := .int .i64 ((evAdd (q) (a) (b)).1)) rfl rfl) rfl rfl rfl ?_
          refine wl_v (st_extract (v := .bool ((evAdd (q) (a) (b)).2)) rfl rfl) rfl rfl rfl ?_
          refine wl_v (st_assign (v := .int .i64 ((evAdd (q) (a) (b)).1)) rfl) rfl rfl rfl ?_
          refine wl_v (st_assign (v := .bool ((evAdd (q) (a) (b)).2)) rfl) rfl rfl rfl ?_
          refine wl_nil ?_
          refine wq_then ?_
          refine wc_seq ?_
          refine wc_region ?_
          refine wl_v (st_move (v := .int .i64 (q)) rfl) rfl rfl rfl ?_
          refine wl_v (st_move (v := .int .i64 (a)) rfl) rfl rfl rfl ?_
          refine wl_v (st_move (v := .int .i64 (b)) rfl) rfl rfl rfl ?_
          refine wl_call (vs := [.int .i64 (q), .int .i64 (a), .int .i64 (b)]) C20 rfl rfl (Mul_ok (q) (a) (b) _) ?_
          rintro _ w27 ⟨rfl, hn28⟩
          have pw := pu_trans pw hn28
          have hs2 := Rep.pu hs2 hn28
          have hzw27 := World.grownBy.size hn28
          refine wl_v (st_move (v := .tuple #[.int .i64 (evMul (q) (a) (b)).1, .bool (evMul (q) (a) (b)).2]) rfl) rfl rfl rfl ?_
          refine wl_v (st_extract (v := .int .i64 ((evMul (q) (a) (b)).1)) rfl rfl) rfl rfl rfl ?_
          refine wl_v (st_extract (v := .bool ((evMul (q) (a) (b)).2)) rfl rfl) rfl rfl rfl ?_
          refine wl_v (st_assign (v := .int .i64 ((evMul (q) (a) (b)).1)) rfl) rfl rfl rfl ?_
          refine wl_v (st_assign (v := .bool ((evMul (q) (a) (b)).2)) rfl) rfl rfl rfl ?_
          refine wl_nil ?_
          refine wq_then ?_
          refine wc_seq ?_
          refine wc_region ?_
          refine wl_v (st_move (v := .int .i64 ((evAdd (q) (a) (b)).1)) rfl) rfl rfl rfl ?_
          refine wl_v (st_move (v := .int .i64 (0)) rfl) rfl rfl rfl ?_
          refine wl_v (st_eql rfl rfl) rfl rfl rfl ?_
          rw [show decide (((evAdd (q) (a) (b)).1) = 0) = true from decide_eq_true (by rw [hE.1])]
          refine wl_v (st_move (v := .bool (true)) rfl) rfl rfl rfl ?_
          refine wl_guard_yes rfl rfl rfl rfl rfl ?_
          refine wl_v (st_move (v := .int .i64 ((evMul (q) (a) (b)).1)) rfl) rfl rfl rfl ?_
          refine wl_guard_yes rfl rfl rfl rfl rfl ?_
          refine wl_v (st_move (v := .int .i64 (0)) rfl) rfl rfl rfl ?_
          refine wl_guard_yes rfl rfl rfl rfl rfl ?_
          refine wl_v (st_eql rfl rfl) rfl rfl rfl ?_
          rw [show decide (((evMul (q) (a) (b)).1) = 0) = true from decide_eq_true (by rw [hE.2])]
          refine wl_v (st_pick_t (v := .bool (true)) rfl rfl rfl) rfl rfl rfl ?_
          refine wl_v (st_move (v := .bool (true)) rfl) rfl rfl rfl ?_
          refine wl_guard_yes rfl rfl rfl rfl rfl ?_
          refine wl_v (st_move (v := .bool ((evAdd (q) (a) (b)).2)) rfl) rfl rfl rfl ?_
          refine wl_guard_yes rfl rfl rfl rfl rfl ?_
          refine wl_v (st_move (v := .bool (false)) rfl) rfl rfl rfl ?_
          refine wl_guard_yes rfl rfl rfl rfl rfl ?_
          refine wl_v (st_eqlB ty4 rfl rfl) rfl rfl rfl ?_
          rw [show (((evAdd (q) (a) (b)).2) == false) = true from by simp [hE.1]]
          refine wl_v (st_pick_t (v := .bool (true)) rfl rfl rfl) rfl rfl rfl ?_
          refine wl_v (st_move (v := .bool (true)) rfl) rfl rfl rfl ?_
          refine wl_guard_yes rfl rfl rfl rfl rfl ?_
          refine wl_v (st_move (v := .bool ((evMul (q) (a) (b)).2)) rfl) rfl rfl rfl ?_
          refine wl_guard_yes rfl rfl rfl rfl rfl ?_
          refine wl_v (st_move (v := .bool (false)) rfl) rfl rfl rfl ?_
          refine wl_guard_yes rfl rfl rfl rfl rfl ?_
          refine wl_v (st_eqlB ty4 rfl rfl) rfl rfl rfl ?_
          rw [show (((evMul (q) (a) (b)).2) == false) = true from by simp [hE.2]]
          refine wl_v (st_pick_t (v := .bool (true)) rfl rfl rfl) rfl rfl rfl ?_
          refine wl_v (st_assign (v := .bool (true)) rfl) rfl rfl rfl ?_
          refine wl_nil ?_
          refine wq_then ?_
          refine wc_ret ?_
          refine wq_ret1 (v := .bool (true)) rfl rfl rfl ?_
          exact ⟨rfl, pw⟩
      · have h10 := hb
        clear hb
        have h10p : ¬ (a < q) := by first | simpa using h10 | (simp at h10; omega)
        refine wl_guard_no rfl rfl rfl rfl (by rw [h10]; rfl) rfl rfl ?_
        refine wl_guard_no rfl rfl rfl rfl (by rw [h10]; rfl) rfl rfl ?_
        refine wl_v (st_pick_f (v := .bool (false)) rfl h10 rfl) rfl rfl rfl ?_
        refine wl_v (st_move (v := .bool (false)) rfl) rfl rfl rfl ?_
        refine wl_guard_no rfl rfl rfl rfl rfl rfl rfl ?_
        refine wl_guard_no rfl rfl rfl rfl rfl rfl rfl ?_
        refine wl_guard_no rfl rfl rfl rfl rfl rfl rfl ?_
        refine wl_v (st_pick_f (v := .bool (false)) rfl rfl rfl) rfl rfl rfl ?_
        refine wl_nil ?_
        refine wq_then ?_
        refine wc_false rfl ?_
        refine wc_skip ?_
        refine wq_then ?_
        refine wc_seq ?_
        have hE := fields_out (q := q) (a := a) (b := b) (by rw [hq5]; show ¬ (0 < p3 ∧ (0 ≤ a ∧ a < q) ∧ (0 ≤ b ∧ b < q)); omega)
        refine wc_region ?_
        refine wl_v (st_move (v := .int .i64 (q)) rfl) rfl rfl rfl ?_
        refine wl_v (st_move (v := .int .i64 (a)) rfl) rfl rfl rfl ?_
        refine wl_v (st_move (v := .int .i64 (b)) rfl) rfl rfl rfl ?_
        refine wl_call (vs := [.int .i64 (q), .int .i64 (a), .int .i64 (b)]) C18 rfl rfl (Add_ok (q) (a) (b) _) ?_
        rintro _ w29 ⟨rfl, hn30⟩
        have pw := pu_trans pw hn30
        have hs2 := Rep.pu hs2 hn30
        have hzw29 := World.grownBy.size hn30
        refine wl_v (st_move (v := .tuple #[.int .i64 (evAdd (q) (a) (b)).1, .bool (evAdd (q) (a) (b)).2]) rfl) rfl rfl rfl ?_
        refine wl_v (st_extract (v := .int .i64 ((evAdd (q) (a) (b)).1)) rfl rfl) rfl rfl rfl ?_
        refine wl_v (st_extract (v := .bool ((evAdd (q) (a) (b)).2)) rfl rfl) rfl rfl rfl ?_
        refine wl_v (st_assign (v := .int .i64 ((evAdd (q) (a) (b)).1)) rfl) rfl rfl rfl ?_
        refine wl_v (st_assign (v := .bool ((evAdd (q) (a) (b)).2)) rfl) rfl rfl rfl ?_
        refine wl_nil ?_
        refine wq_then ?_
        refine wc_seq ?_
        refine wc_region ?_
        refine wl_v (st_move (v := .int .i64 (q)) rfl) rfl rfl rfl ?_
        refine wl_v (st_move (v := .int .i64 (a)) rfl) rfl rfl rfl ?_
        refine wl_v (st_move (v := .int .i64 (b)) rfl) rfl rfl rfl ?_
        refine wl_call (vs := [.int .i64 (q), .int .i64 (a), .int .i64 (b)]) C20 rfl rfl (Mul_ok (q) (a) (b) _) ?_
        rintro _ w31 ⟨rfl, hn32⟩
        have pw := pu_trans pw hn32
        have hs2 := Rep.pu hs2 hn32
        have hzw31 := World.grownBy.size hn32
        refine wl_v (st_move (v := .tuple #[.int .i64 (evMul (q) (a) (b)).1, .bool (evMul (q) (a) (b)).2]) rfl) rfl rfl rfl ?_
        refine wl_v (st_extract (v := .int .i64 ((evMul (q) (a) (b)).1)) rfl rfl) rfl rfl rfl ?_
        refine wl_v (st_extract (v := .bool ((evMul (q) (a) (b)).2)) rfl rfl) rfl rfl rfl ?_
        refine wl_v (st_assign (v := .int .i64 ((evMul (q) (a) (b)).1)) rfl) rfl rfl rfl ?_
        refine wl_v (st_assign (v := .bool ((evMul (q) (a) (b)).2)) rfl) rfl rfl rfl ?_
        refine wl_nil ?_
        refine wq_then ?_
        refine wc_seq ?_
        refine wc_region ?_
        refine wl_v (st_move (v := .int .i64 ((evAdd (q) (a) (b)).1)) rfl) rfl rfl rfl ?_
        refine wl_v (st_move (v := .int .i64 (0)) rfl) rfl rfl rfl ?_
        refine wl_v (st_eql rfl rfl) rfl rfl rfl ?_
        rw [show decide (((evAdd (q) (a) (b)).1) = 0) = true from decide_eq_true (by rw [hE.1])]
        refine wl_v (st_move (v := .bool (true)) rfl) rfl rfl rfl ?_
        refine wl_guard_yes rfl rfl rfl rfl rfl ?_
        refine wl_v (st_move (v := .int .i64 ((evMul (q) (a) (b)).1)) rfl) rfl rfl rfl ?_
        refine wl_guard_yes rfl rfl rfl rfl rfl ?_
        refine wl_v (st_move (v := .int .i64 (0)) rfl) rfl rfl rfl ?_
        refine wl_guard_yes rfl rfl rfl rfl rfl ?_
        refine wl_v (st_eql rfl rfl) rfl rfl rfl ?_
        rw [show decide (((evMul (q) (a) (b)).1) = 0) = true from decide_eq_true (by rw [hE.2])]
        refine wl_v (st_pick_t (v := .bool (true)) rfl rfl rfl) rfl rfl rfl ?_
        refine wl_v (st_move (v := .bool (true)) rfl) rfl rfl rfl ?_
        refine wl_guard_yes rfl rfl rfl rfl rfl ?_
        refine wl_v (st_move (v := .bool ((evAdd (q) (a) (b)).2)) rfl) rfl rfl rfl ?_
        refine wl_guard_yes rfl rfl rfl rfl rfl ?_
        refine wl_v (st_move (v := .bool (false)) rfl) rfl rfl rfl ?_
        refine wl_guard_yes rfl rfl rfl rfl rfl ?_
        refine wl_v (st_eqlB ty4 rfl rfl) rfl rfl rfl ?_
        rw [show (((evAdd (q) (a) (b)).2) == false) = true from by simp [hE.1]]
        refine wl_v (st_pick_t (v := .bool (true)) rfl rfl rfl) rfl rfl rfl ?_
        refine wl_v (st_move (v := .bool (true)) rfl) rfl rfl rfl ?_
        refine wl_guard_yes rfl rfl rfl rfl rfl ?_
        refine wl_v (st_move (v := .bool ((evMul (q) (a) (b)).2)) rfl) rfl rfl rfl ?_
        refine wl_guard_yes rfl rfl rfl rfl rfl ?_
        refine wl_v (st_move (v := .bool (false)) rfl) rfl rfl rfl ?_
        refine wl_guard_yes rfl rfl rfl rfl rfl ?_
        refine wl_v (st_eqlB ty4 rfl rfl) rfl rfl rfl ?_
        rw [show (((evMul (q) (a) (b)).2) == false) = true from by simp [hE.2]]
        refine wl_v (st_pick_t (v := .bool (true)) rfl rfl rfl) rfl rfl rfl ?_
        refine wl_v (st_assign (v := .bool (true)) rfl) rfl rfl rfl ?_
        refine wl_nil ?_
        refine wq_then ?_
        refine wc_ret ?_
        refine wq_ret1 (v := .bool (true)) rfl rfl rfl ?_
        exact ⟨rfl, pw⟩
    · have h9 := hb
      clear hb
      have h9p : ¬ (0 ≤ a) := by first | simpa using h9 | (simp at h9; omega)
      refine wl_guard_no rfl rfl rfl rfl (by rw [h9]; rfl) rfl rfl ?_
      refine wl_guard_no rfl rfl rfl rfl (by rw [h9]; rfl) rfl rfl ?_
      refine wl_guard_no rfl rfl rfl rfl (by rw [h9]; rfl) rfl rfl ?_
      refine wl_v (st_pick_f (v := .bool (false)) rfl h9 rfl) rfl rfl rfl ?_
      refine wl_v (st_move (v := .bool (false)) rfl) rfl rfl rfl ?_
      refine wl_guard_no rfl rfl rfl rfl rfl rfl rfl ?_
      refine wl_guard_no rfl rfl rfl rfl rfl rfl rfl ?_
      refine wl_v (st_pick_f (v := .bool (false)) rfl rfl rfl) rfl rfl rfl ?_
      refine wl_v (st_move (v := .bool (false)) rfl) rfl rfl rfl ?_
      refine wl_guard_no rfl rfl rfl rfl rfl rfl rfl ?_
      refine wl_guard_no rfl rfl rfl rfl rfl rfl rfl ?_
      refine wl_guard_no rfl rfl rfl rfl rfl rfl rfl ?_
      refine wl_v (st_pick_f (v := .bool (false)) rfl rfl rfl) rfl rfl rfl ?_
      refine wl_nil ?_
      refine wq_then ?_
      refine wc_false rfl ?_
      refine wc_skip ?_
      refine wq_then ?_
      refine wc_seq ?_
      have hE := fields_out (q := q) (a := a) (b := b) (by rw [hq5]; show ¬ (0 < p3 ∧ (0 ≤ a ∧ a < q) ∧ (0 ≤ b ∧ b < q)); omega)
      refine wc_region ?_
      refine wl_v (st_move (v := .int .i64 (q)) rfl) rfl rfl rfl ?_
      refine wl_v (st_move (v := .int .i64 (a)) rfl) rfl rfl rfl ?_
      refine wl_v (st_move (v := .int .i64 (b)) rfl) rfl rfl rfl ?_
      refine wl_call (vs := [.int .i64 (q), .int .i64 (a), .int .i64 (b)]) C18 rfl rfl (Add_ok (q) (a) (b) _) ?_
      rintro _ w33 ⟨rfl, hn34⟩
      have pw := pu_trans pw hn34
      have hs2 := Rep.pu hs2 hn34
      have hzw33 := World.grownBy.size hn34
      refine wl_v (st_move (v := .tuple #[.int .i64 (evAdd (q) (a) (b)).1, .bool (evAdd (q) (a) (b)).2]) rfl) rfl rfl rfl ?_
      refine wl_v (st_extract (v := .int .i64 ((evAdd (q) (a) (b)).1)) rfl rfl) rfl rfl rfl ?_
      refine wl_v (st_extract (v := .bool ((evAdd (q) (a) (b)).2)) rfl rfl) rfl rfl rfl ?_
      refine wl_v (st_assign (v := .int .i64 ((evAdd (q) (a) (b)).1)) rfl) rfl rfl rfl ?_
      refine wl_v (st_assign (v := .bool ((evAdd (q) (a) (b)).2)) rfl) rfl rfl rfl ?_
      refine wl_nil ?_
      refine wq_then ?_
      refine wc_seq ?_
      refine wc_region ?_
      refine wl_v (st_move (v := .int .i64 (q)) rfl) rfl rfl rfl ?_
      refine wl_v (st_move (v := .int .i64 (a)) rfl) rfl rfl rfl ?_
      refine wl_v (st_move (v := .int .i64 (b)) rfl) rfl rfl rfl ?_
      refine wl_call (vs := [.int .i64 (q), .int .i64 (a), .int .i64 (b)]) C20 rfl rfl (Mul_ok (q) (a) (b) _) ?_
      rintro _ w35 ⟨rfl, hn36⟩
      have pw := pu_trans pw hn36
      have hs2 := Rep.pu hs2 hn36
      have hzw35 := World.grownBy.size hn36
      refine wl_v (st_move (v := .tuple #[.int .i64 (evMul (q) (a) (b)).1, .bool (evMul (q) (a) (b)).2]) rfl) rfl rfl rfl ?_
      refine wl_v (st_extract (v := .int .i64 ((evMul (q) (a) (b)).1)) rfl rfl) rfl rfl rfl ?_
      refine wl_v (st_extract (v := .bool ((evMul (q) (a) (b)).2)) rfl rfl) rfl rfl rfl ?_
      refine wl_v (st_assign (v := .int .i64 ((evMul (q) (a) (b)).1)) rfl) rfl rfl rfl ?_
      refine wl_v (st_assign (v := .bool ((evMul (q) (a) (b)).2)) rfl) rfl rfl rfl ?_
      refine wl_nil ?_
      refine wq_then ?_
      refine wc_seq ?_
      refine wc_region ?_
      refine wl_v (st_move (v := .int .i64 ((evAdd (q) (a) (b)).1)) rfl) rfl rfl rfl ?_
      refine wl_v (st_move (v := .int .i64 (0)) rfl) rfl rfl rfl ?_
      refine wl_v (st_eql rfl rfl) rfl rfl rfl ?_
      rw [show decide (((evAdd (q) (a) (b)).1) = 0) = true from decide_eq_true (by rw [hE.1])]
      refine wl_v (st_move (v := .bool (true)) rfl) rfl rfl rfl ?_
      refine wl_guard_yes rfl rfl rfl rfl rfl ?_
      refine wl_v (st_move (v := .int .i64 ((evMul (q) (a) (b)).1)) rfl) rfl rfl rfl ?_
      refine wl_guard_yes rfl rfl rfl rfl rfl ?_
      refine wl_v (st_move (v := .int .i64 (0)) rfl) rfl rfl rfl ?_
      refine wl_guard_yes rfl rfl rfl rfl rfl ?_
      refine wl_v (st_eql rfl rfl) rfl rfl rfl ?_
      rw [show decide (((evMul (q) (a) (b)).1) = 0) = true from decide_eq_true (by rw [hE.2])]
      refine wl_v (st_pick_t (v := .bool (true)) rfl rfl rfl) rfl rfl rfl ?_
      refine wl_v (st_move (v := .bool (true)) rfl) rfl rfl rfl ?_
      refine wl_guard_yes rfl rfl rfl rfl rfl ?_
      refine wl_v (st_move (v := .bool ((evAdd (q) (a) (b)).2)) rfl) rfl rfl rfl ?_
      refine wl_guard_yes rfl rfl rfl rfl rfl ?_
      refine wl_v (st_move (v := .bool (false)) rfl) rfl rfl rfl ?_
      refine wl_guard_yes rfl rfl rfl rfl rfl ?_
      refine wl_v (st_eqlB ty4 rfl rfl) rfl rfl rfl ?_
      rw [show (((evAdd (q) (a) (b)).2) == false) = true from by simp [hE.1]]
      refine wl_v (st_pick_t (v := .bool (true)) rfl rfl rfl) rfl rfl rfl ?_
      refine wl_v (st_move (v := .bool (true)) rfl) rfl rfl rfl ?_
      refine wl_guard_yes rfl rfl rfl rfl rfl ?_
      refine wl_v (st_move (v := .bool ((evMul (q) (a) (b)).2)) rfl) rfl rfl rfl ?_
      refine wl_guard_yes rfl rfl rfl rfl rfl ?_
      refine wl_v (st_move (v := .bool (false)) rfl) rfl rfl rfl ?_
      refine wl_guard_yes rfl rfl rfl rfl rfl ?_
      refine wl_v (st_eqlB ty4 rfl rfl) rfl rfl rfl ?_
      rw [show (((evMul (q) (a) (b)).2) == false) = true from by simp [hE.2]]
      refine wl_v (st_pick_t (v := .bool (true)) rfl rfl rfl) rfl rfl rfl ?_
      refine wl_v (st_assign (v := .bool (true)) rfl) rfl rfl rfl ?_
      refine wl_nil ?_
      refine wq_then ?_
      refine wc_ret ?_
      refine wq_ret1 (v := .bool (true)) rfl rfl rfl ?_
      exact ⟨rfl, pw⟩
  · have h8 := hb
    clear hb
    have h8p : ¬ (0 < p3) := by first | simpa using h8 | (simp at h8; omega)
    refine wl_guard_no rfl rfl rfl rfl (by rw [h8]; rfl) rfl rfl ?_
    refine wl_guard_no rfl rfl rfl rfl (by rw [h8]; rfl) rfl rfl ?_
    refine wl_v (st_pick_f (v := .bool (false)) rfl h8 rfl) rfl rfl rfl ?_
    refine wl_v (st_move (v := .bool (false)) rfl) rfl rfl rfl ?_
    refine wl_guard_no rfl rfl rfl rfl rfl rfl rfl ?_
    refine wl_guard_no rfl rfl rfl rfl rfl rfl rfl ?_
    refine wl_guard_no rfl rfl rfl rfl rfl rfl rfl ?_
    refine wl_v (st_pick_f (v := .bool (false)) rfl rfl rfl) rfl rfl rfl ?_
    refine wl_v (st_move (v := .bool (false)) rfl) rfl rfl rfl ?_
    refine wl_guard_no rfl rfl rfl rfl rfl rfl rfl ?_
    refine wl_guard_no rfl rfl rfl rfl rfl rfl rfl ?_
    refine wl_v (st_pick_f (v := .bool (false)) rfl rfl rfl) rfl rfl rfl ?_
    refine wl_v (st_move (v := .bool (false)) rfl) rfl rfl rfl ?_
    refine wl_guard_no rfl rfl rfl rfl rfl rfl rfl ?_
    refine wl_guard_no rfl rfl rfl rfl rfl rfl rfl ?_
    refine wl_guard_no rfl rfl rfl rfl rfl rfl rfl ?_
    refine wl_v (st_pick_f (v := .bool (false)) rfl rfl rfl) rfl rfl rfl ?_
    refine wl_nil ?_
    refine wq_then ?_
    refine wc_false rfl ?_
    refine wc_skip ?_
    refine wq_then ?_
    refine wc_seq ?_
    have hE := fields_out (q := q) (a := a) (b := b) (by rw [hq5]; show ¬ (0 < p3 ∧ (0 ≤ a ∧ a < q) ∧ (0 ≤ b ∧ b < q)); omega)
    refine wc_region ?_
    refine wl_v (st_move (v := .int .i64 (q)) rfl) rfl rfl rfl ?_
    refine wl_v (st_move (v := .int .i64 (a)) rfl) rfl rfl rfl ?_
    refine wl_v (st_move (v := .int .i64 (b)) rfl) rfl rfl rfl ?_
    refine wl_call (vs := [.int .i64 (q), .int .i64 (a), .int .i64 (b)]) C18 rfl rfl (Add_ok (q) (a) (b) _) ?_
    rintro _ w37 ⟨rfl, hn38⟩
    have pw := pu_trans pw hn38
    have hs2 := Rep.pu hs2 hn38
    have hzw37 := World.grownBy.size hn38
    refine wl_v (st_move (v := .tuple #[.int .i64 (evAdd (q) (a) (b)).1, .bool (evAdd (q) (a) (b)).2]) rfl) rfl rfl rfl ?_
    refine wl_v (st_extract (v := .int .i64 ((evAdd (q) (a) (b)).1)) rfl rfl) rfl rfl rfl ?_
    refine wl_v (st_extract (v := .bool ((evAdd (q) (a) (b)).2)) rfl rfl) rfl rfl rfl ?_
    refine wl_v (st_assign (v := .int .i64 ((evAdd (q) (a) (b)).1)) rfl) rfl rfl rfl ?_
    refine wl_v (st_assign (v := .bool ((evAdd (q) (a) (b)).2)) rfl) rfl rfl rfl ?_
    refine wl_nil ?_
    refine wq_then ?_
    refine wc_seq ?_
    refine wc_region ?_
    refine wl_v (st_move (v := .int .i64 (q)) rfl) rfl rfl rfl ?_
    refine wl_v (st_move (v := .int .i64 (a)) rfl) rfl rfl rfl ?_
    refine wl_v (st_move (v := .int .i64 (b)) rfl) rfl rfl rfl ?_
    refine wl_call (vs := [.int .i64 (q), .int .i64 (a), .int .i64 (b)]) C20 rfl rfl (Mul_ok (q) (a) (b) _) ?_
    rintro _ w39 ⟨rfl, hn40⟩
    have pw := pu_trans pw hn40
    have hs2 := Rep.pu hs2 hn40
    have hzw39 := World.grownBy.size hn40
    refine wl_v (st_move (v := .tuple #[.int .i64 (evMul (q) (a) (b)).1, .bool (evMul (q) (a) (b)).2]) rfl) rfl rfl rfl ?_
    refine wl_v (st_extract (v := .int .i64 ((evMul (q) (a) (b)).1)) rfl rfl) rfl rfl rfl ?_
    refine wl_v (st_extract (v := .bool ((evMul (q) (a) (b)).2)) rfl rfl) rfl rfl rfl ?_
    refine wl_v (st_assign (v := .int .i64 ((evMul (q) (a) (b)).1)) rfl) rfl rfl rfl ?_
    refine wl_v (st_assign (v := .bool ((evMul (q) (a) (b)).2)) rfl) rfl rfl rfl ?_
    refine wl_nil ?_
    refine wq_then ?_
    refine wc_seq ?_
    refine wc_region ?_
    refine wl_v (st_move (v := .int .i64 ((evAdd (q) (a) (b)).1)) rfl) rfl rfl rfl ?_
    refine wl_v (st_move (v := .int .i64 (0)) rfl) rfl rfl rfl ?_
    refine wl_v (st_eql rfl rfl) rfl rfl rfl ?_
    rw [show decide (((evAdd (q) (a) (b)).1) = 0) = true from decide_eq_true (by rw [hE.1])]
    refine wl_v (st_move (v := .bool (true)) rfl) rfl rfl rfl ?_
    refine wl_guard_yes rfl rfl rfl rfl rfl ?_
    refine wl_v (st_move (v := .int .i64 ((evMul (q) (a) (b)).1)) rfl) rfl rfl rfl ?_
    refine wl_guard_yes rfl rfl rfl rfl rfl ?_
    refine wl_v (st_move (v := .int .i64 (0)) rfl) rfl rfl rfl ?_
    refine wl_guard_yes rfl rfl rfl rfl rfl ?_
    refine wl_v (st_eql rfl rfl) rfl rfl rfl ?_
    rw [show decide (((evMul (q) (a) (b)).1) = 0) = true from decide_eq_true (by rw [hE.2])]
    refine wl_v (st_pick_t (v := .bool (true)) rfl rfl rfl) rfl rfl rfl ?_
    refine wl_v (st_move (v := .bool (true)) rfl) rfl rfl rfl ?_
    refine wl_guard_yes rfl rfl rfl rfl rfl ?_
    refine wl_v (st_move (v := .bool ((evAdd (q) (a) (b)).2)) rfl) rfl rfl rfl ?_
    refine wl_guard_yes rfl rfl rfl rfl rfl ?_
    refine wl_v (st_move (v := .bool (false)) rfl) rfl rfl rfl ?_
    refine wl_guard_yes rfl rfl rfl rfl rfl ?_
    refine wl_v (st_eqlB ty4 rfl rfl) rfl rfl rfl ?_
    rw [show (((evAdd (q) (a) (b)).2) == false) = true from by simp [hE.1]]
    refine wl_v (st_pick_t (v := .bool (true)) rfl rfl rfl) rfl rfl rfl ?_
    refine wl_v (st_move (v := .bool (true)) rfl) rfl rfl rfl ?_
    refine wl_guard_yes rfl rfl rfl rfl rfl ?_
    refine wl_v (st_move (v := .bool ((evMul (q) (a) (b)).2)) rfl) rfl rfl rfl ?_
    refine wl_guard_yes rfl rfl rfl rfl rfl ?_
    refine wl_v (st_move (v := .bool (false)) rfl) rfl rfl rfl ?_
    refine wl_guard_yes rfl rfl rfl rfl rfl ?_
    refine wl_v (st_eqlB ty4 rfl rfl) rfl rfl rfl ?_
    rw [show (((evMul (q) (a) (b)).2) == false) = true from by simp [hE.2]]
    refine wl_v (st_pick_t (v := .bool (true)) rfl rfl rfl) rfl rfl rfl ?_
    refine wl_v (st_assign (v := .bool (true)) rfl) rfl rfl rfl ?_
    refine wl_nil ?_
    refine wq_then ?_
    refine wc_ret ?_
    refine wq_ret1 (v := .bool (true)) rfl rfl rfl ?_
    exact ⟨rfl, pw⟩

end Go.Proofs.YthofgamegondnaaDoor
