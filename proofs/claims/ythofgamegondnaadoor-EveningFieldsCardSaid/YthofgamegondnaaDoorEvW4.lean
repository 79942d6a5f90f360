/- Walks: the reference's fields. -/
import Derived.Test.YthofgamegondnaaDoorEvW3
namespace Go.Proofs.YthofgamegondnaaDoor
open Go.RowKit
set_option linter.unusedSimpArgs false
set_option linter.unusedVariables false

set_option maxRecDepth 100000 in
theorem rdigits_ok (a p : Int) (m : Nat) (w : World) (hp : 2 ≤ p ∧ p ≤ 13) (hm : m ≤ 1000) (ha : 0 ≤ a ∧ a ≤ 9223372036854775807) : Ret Tryd.prog 101 #[.int .i64 a, .int .i64 p, .int .i64 (m : Int)] w fun v w' => w.grownBy w' none ∧ Bl iR 3 w' w.heap.size w'.heap.size v (digitsL p m a) := by
  refine ret_in Tryd.func101 rfl rfl rfl ?_
  have pw := pu_refl w
  refine wc_seq ?_
  refine wc_region ?_
  refine wl_v (st_assign (v := .slice none 0 0) rfl) rfl rfl rfl ?_
  refine wl_nil ?_
  refine wq_then ?_
  refine wc_seq ?_
  refine wc_region ?_
  refine wl_v (st_assign (v := .slice none 0 0) rfl) rfl rfl rfl ?_
  refine wl_nil ?_
  refine wq_then ?_
  refine wc_seq ?_
  refine wc_seq ?_
  refine wc_region ?_
  refine wl_v (st_assign (v := .int .i64 (0)) rfl) rfl rfl rfl ?_
  refine wl_nil ?_
  refine wq_then ?_
  refine wc_block ?_
  have hL : Bl iR 3 w w.heap.size w.heap.size (.slice none 0 0) [] := Bl.nil
  refine wc_loop (fun fl mm w' => ∃ k : Nat, ∃ ds : List Int, ∃ ak : Int, ∃ sv : Value, fl = [(0, .int .i64 (ak)), (1, .int .i64 (p)), (2, .int .i64 ((m : Int))), (6, .slice none 0 0), (7, sv), (8, .int .i64 ((k : Int)))] ∧ mm = m - k ∧ (k ≤ m) ∧ (ds.length = k) ∧ (ds ++ digitsL p (m - k) ak = digitsL p m a) ∧ (0 ≤ ak ∧ ak ≤ 9223372036854775807) ∧ w.grownBy w' none ∧ Bl iR 3 w' (w.heap.size) (w'.heap.size) (sv) (ds)) (h0 := ⟨0, [], a, (.slice none 0 0), rfl, rfl, ?_, ?_, ?_, ?_, pw, (Bl.nil)⟩) (hf := ⟨(by first | rfl | exact congrArg (Value.int _) (by omega) | go_num), (by first | rfl | exact congrArg (Value.int _) (by omega) | go_num), (by first | rfl | exact congrArg (Value.int _) (by omega) | go_num), (by first | rfl | exact congrArg (Value.int _) (by omega) | go_num), (by first | rfl | exact congrArg (Value.int _) (by omega) | go_num), (by first | rfl | exact congrArg (Value.int _) (by omega) | go_num), trivial⟩) ?_
  · omega
  · rfl
  · rfl
  · omega
  · skip
    rintro _ _ w1 s2 ⟨k, ds, ak, sv, rfl, rfl, p1_1, p1_2, p1_3, p1_4, pw, hL⟩
    have hzp := World.grownBy.size pw
    refine wc_seq ?_
    refine wc_seq ?_
    refine wc_region ?_
    refine wl_v (st_move (v := .int .i64 ((k : Int))) rfl) rfl rfl rfl ?_
    refine wl_v (st_move (v := .int .i64 ((m : Int))) rfl) rfl rfl rfl ?_
    refine wl_v (st_lss rfl rfl) rfl rfl rfl ?_
    refine wl_nil ?_
    refine wq_then ?_
    refine wc_cond rfl ?_ ?_
    · intro h3
      have h3p : (k : Int) < (m : Int) := by first | simpa using h3 | (simp at h3; omega)
      refine wc_skip ?_
      refine wq_then ?_
      refine wc_seq ?_
      refine wc_block ?_
      refine wc_seq ?_
      refine wc_region ?_
      refine wl_v (st_move (v := sv) rfl) rfl rfl rfl ?_
      refine wl_v (st_move (v := .int .i64 (ak)) rfl) rfl rfl rfl ?_
      refine wl_v (st_move (v := .int .i64 (p)) rfl) rfl rfl rfl ?_
      refine wl_v (st_rem rfl rfl (by omega) (by omega)) rfl rfl rfl ?_
      have hKEY := Bl.key hL
      refine wl_pushB hL (q := ak % p) rfl (by omega) ty24 ty3 rfl rfl rfl (by omega) (by omega) rfl rfl rfl ?_
      intro v5 w4 hb6 hg7 ho8 hs9
      have pw := pu_row pw hg7 (by intro q hq hlt; have hQ := ho8 _ hq; omega)
      have hL := hb6
      refine wl_v (st_assign (v := v5) rfl) rfl rfl rfl ?_
      refine wl_nil ?_
      refine wq_then ?_
      refine wc_region ?_
      refine wl_v (st_move (v := .int .i64 (ak)) rfl) rfl rfl rfl ?_
      refine wl_v (st_move (v := .int .i64 (p)) rfl) rfl rfl rfl ?_
      refine wl_v (st_quo rfl rfl (by omega) (by omega) (by omega)) rfl rfl rfl ?_
      refine wl_v (st_assign (v := .int .i64 (ak / p)) rfl) rfl rfl rfl ?_
      refine wl_nil ?_
      refine wq_block_normal ?_
      refine wq_then ?_
      refine wc_region ?_
      refine wl_v (st_move (v := .int .i64 ((k : Int))) rfl) rfl rfl rfl ?_
      refine wl_v (st_add rfl rfl (by omega) (by omega)) rfl rfl rfl ?_
      refine wl_v (st_assign (v := .int .i64 ((k : Int) + 1)) rfl) rfl rfl rfl ?_
      refine wl_nil ?_
      refine wq_round (hI := ⟨k + 1, ds ++ [ak % p], ak / p, v5, rfl, rfl, ?_, ?_, ?_, ?_, pw, (Bl.top hL (Nat.le_refl _))⟩) (hm := ?_) (hf := ?_) rfl rfl
      · omega
      · (simp; omega)
      · (rw [show m - k = (m - (k + 1)) + 1 by omega, digitsL] at p1_3; rw [← p1_3]; simp)
      · (have h1 := Int.ediv_nonneg p1_4.1 (show 0 ≤ p by omega); have h2 := Int.ediv_le_self p p1_4.1; omega)
      · omega
      · exact ⟨(by first | rfl | exact congrArg (Value.int _) (by omega) | go_num), (by first | rfl | exact congrArg (Value.int _) (by omega) | go_num), (by first | rfl | exact congrArg (Value.int _) (by omega) | go_num), (by first | rfl | exact congrArg (Value.int _) (by omega) | go_num), (by first | rfl | exact congrArg (Value.int _) (by omega) | go_num), (by first | rfl | exact congrArg (Value.int _) (by omega) | go_num), trivial⟩
    · intro h3
      have h3p : ¬ ((k : Int) < (m : Int)) := by first | simpa using h3 | (simp at h3; omega)
      refine wc_exit ?_
      refine wq_then_exit ?_
      refine wq_then_exit ?_
      refine wq_block_exit ?_
      refine wq_then ?_
      refine wc_seq ?_
      refine wc_region ?_
      refine wl_v (st_move (v := sv) rfl) rfl rfl rfl ?_
      refine wl_v (st_assign (v := sv) rfl) rfl rfl rfl ?_
      refine wl_nil ?_
      refine wq_then ?_
      refine wc_ret ?_
      refine wq_ret1 (v := sv) rfl rfl rfl ?_
      have hk : m - k = 0 := by omega
      rw [hk, digitsL, List.append_nil] at p1_3
      rw [p1_3] at hL
      exact ⟨pw, hL.top (Nat.le_refl _)⟩

set_option maxRecDepth 100000 in
theorem rfield_ok (q : Int) (w : World) : Ret Tryd.prog 53 #[.int .i64 q] w fun v w' => w.grownBy w' none ∧ ∃ sv, v = .tuple #[.int .i64 (refField q).1, sv] ∧ rI.R w' (Lo w'.heap.size) sv (refField q).2 := by
  refine ret_in Tryd.func53 rfl rfl rfl ?_
  have pw := pu_refl w
  refine wc_seq ?_
  refine wc_region ?_
  refine wl_v (st_assign (v := .int .i64 (0)) rfl) rfl rfl rfl ?_
  refine wl_v (st_assign (v := .slice none 0 0) rfl) rfl rfl rfl ?_
  refine wl_nil ?_
  refine wq_then ?_
  refine wc_seq ?_
  refine wc_seq ?_
  refine wc_region ?_
  refine wl_v (st_move (v := .int .i64 (q)) rfl) rfl rfl rfl ?_
  refine wl_nil ?_
  refine wq_then ?_
  refine wc_block ?_
  refine wc_seq ?_
  refine wc_seq ?_
  refine wc_region ?_
  refine wl_v (st_eql rfl rfl) rfl rfl rfl ?_
  refine wl_v (st_assign (v := .bool (decide (q = 2))) rfl) rfl rfl rfl ?_
  refine wl_nil ?_
  refine wq_then ?_
  refine wc_cond rfl ?_ ?_
  · intro h1
    have h1p : q = 2 := by first | simpa using h1 | (simp at h1; omega)
    refine wc_skip ?_
    refine wq_then ?_
    refine wc_true (by rw [← h1]; rfl) ?_
    refine wc_seq ?_
    refine wc_region ?_
    refine wl_v (st_move (v := .int .i64 (q)) rfl) rfl rfl rfl ?_
    refine wl_v (st_assign (v := .int .i64 (q)) rfl) rfl rfl rfl ?_
    refine wl_v (st_assign (v := .slice none 0 0) rfl) rfl rfl rfl ?_
    refine wl_nil ?_
    refine wq_then ?_
    refine wc_ret ?_
    refine wq_block_ret ?_
    refine wq_then_ret ?_
    refine wq_ret2 (v := .int .i64 (q)) (v' := .slice none 0 0) rfl rfl rfl rfl ?_
    refine ⟨pw, ?_⟩
    unfold refField
    rw [if_pos (by omega)]
    exact ⟨_, rfl, SlR.nil⟩
  · intro h1
    have h1p : ¬ (q = 2) := by first | simpa using h1 | (simp at h1; omega)
    refine wc_seq ?_
    refine wc_region ?_
    refine wl_v (st_eql rfl rfl) rfl rfl rfl ?_
    refine wl_v (st_assign (v := .bool (decide (q = 3))) rfl) rfl rfl rfl ?_
    refine wl_nil ?_
    refine wq_then ?_
    refine wc_cond rfl ?_ ?_
    · intro h2
      have h2p : q = 3 := by first | simpa using h2 | (simp at h2; omega)
      refine wc_skip ?_
      refine wq_then ?_
      refine wc_true (by rw [← h2]; rfl) ?_
      refine wc_seq ?_
      refine wc_region ?_
      refine wl_v (st_move (v := .int .i64 (q)) rfl) rfl rfl rfl ?_
      refine wl_v (st_assign (v := .int .i64 (q)) rfl) rfl rfl rfl ?_
      refine wl_v (st_assign (v := .slice none 0 0) rfl) rfl rfl rfl ?_
      refine wl_nil ?_
      refine wq_then ?_
      refine wc_ret ?_
      refine wq_block_ret ?_
      refine wq_then_ret ?_
      refine wq_ret2 (v := .int .i64 (q)) (v' := .slice none 0 0) rfl rfl rfl rfl ?_
      refine ⟨pw, ?_⟩
      unfold refField
      rw [if_pos (by omega)]
      exact ⟨_, rfl, SlR.nil⟩
    · intro h2
      have h2p : ¬ (q = 3) := by first | simpa using h2 | (simp at h2; omega)
      refine wc_seq ?_
      refine wc_region ?_
      refine wl_v (st_eql rfl rfl) rfl rfl rfl ?_
      refine wl_v (st_assign (v := .bool (decide (q = 5))) rfl) rfl rfl rfl ?_
      refine wl_nil ?_
      refine wq_then ?_
      refine wc_cond rfl ?_ ?_
      · intro h3
        have h3p : q = 5 := by first | simpa using h3 | (simp at h3; omega)
        refine wc_skip ?_
        refine wq_then ?_
        refine wc_true (by rw [← h3]; rfl) ?_
        refine wc_seq ?_
        refine wc_region ?_
        refine wl_v (st_move (v := .int .i64 (q)) rfl) rfl rfl rfl ?_
        refine wl_v (st_assign (v := .int .i64 (q)) rfl) rfl rfl rfl ?_
        refine wl_v (st_assign (v := .slice none 0 0) rfl) rfl rfl rfl ?_
        refine wl_nil ?_
        refine wq_then ?_
        refine wc_ret ?_
        refine wq_block_ret ?_
        refine wq_then_ret ?_
        refine wq_ret2 (v := .int .i64 (q)) (v' := .slice none 0 0) rfl rfl rfl rfl ?_
        refine ⟨pw, ?_⟩
        unfold refField
        rw [if_pos (by omega)]
        exact ⟨_, rfl, SlR.nil⟩
      · intro h3
        have h3p : ¬ (q = 5) := by first | simpa using h3 | (simp at h3; omega)
        refine wc_seq ?_
        refine wc_region ?_
        refine wl_v (st_eql rfl rfl) rfl rfl rfl ?_
        refine wl_v (st_assign (v := .bool (decide (q = 7))) rfl) rfl rfl rfl ?_
        refine wl_nil ?_
        refine wq_then ?_
        refine wc_cond rfl ?_ ?_
        · intro h4
          have h4p : q = 7 := by first | simpa using h4 | (simp at h4; omega)
          refine wc_skip ?_
          refine wq_then ?_
          refine wc_true (by rw [← h4]; rfl) ?_
          refine wc_seq ?_
          refine wc_region ?_
          refine wl_v (st_move (v := .int .i64 (q)) rfl) rfl rfl rfl ?_
          refine wl_v (st_assign (v := .int .i64 (q)) rfl) rfl rfl rfl ?_
          refine wl_v (st_assign (v := .slice none 0 0) rfl) rfl rfl rfl ?_
          refine wl_nil ?_
          refine wq_then ?_
          refine wc_ret ?_
          refine wq_block_ret ?_
          refine wq_then_ret ?_
          refine wq_ret2 (v := .int .i64 (q)) (v' := .slice none 0 0) rfl rfl rfl rfl ?_
          refine ⟨pw, ?_⟩
          unfold refField
          rw [if_pos (by omega)]
          exact ⟨_, rfl, SlR.nil⟩
        · intro h4
          have h4p : ¬ (q = 7) := by first | simpa using h4 | (simp at h4; omega)
          refine wc_seq ?_
          refine wc_region ?_
          refine wl_v (st_eql rfl rfl) rfl rfl rfl ?_
          refine wl_v (st_assign (v := .bool (decide (q = 11))) rfl) rfl rfl rfl ?_
          refine wl_nil ?_
          refine wq_then ?_
          refine wc_cond rfl ?_ ?_
          · intro h5
            have h5p : q = 11 := by first | simpa using h5 | (simp at h5; omega)
            refine wc_skip ?_
            refine wq_then ?_
            refine wc_true (by rw [← h5]; rfl) ?_
            refine wc_seq ?_
            refine wc_region ?_
            refine wl_v (st_move (v := .int .i64 (q)) rfl) rfl rfl rfl ?_
            refine wl_v (st_assign (v := .int .i64 (q)) rfl) rfl rfl rfl ?_
            refine wl_v (st_assign (v := .slice none 0 0) rfl) rfl rfl rfl ?_
            refine wl_nil ?_
            refine wq_then ?_
            refine wc_ret ?_
            refine wq_block_ret ?_
            refine wq_then_ret ?_
            refine wq_ret2 (v := .int .i64 (q)) (v' := .slice none 0 0) rfl rfl rfl rfl ?_
            refine ⟨pw, ?_⟩
            unfold refField
            rw [if_pos (by omega)]
            exact ⟨_, rfl, SlR.nil⟩
          · intro h5
            have h5p : ¬ (q = 11) := by first | simpa using h5 | (simp at h5; omega)
            refine wc_region ?_
            refine wl_v (st_eql rfl rfl) rfl rfl rfl ?_
            refine wl_v (st_assign (v := .bool (decide (q = 13))) rfl) rfl rfl rfl ?_
            refine wl_nil ?_
            refine wq_then ?_
            refine wc_cond rfl ?_ ?_
            · intro h6
              have h6p : q = 13 := by first | simpa using h6 | (simp at h6; omega)
              refine wc_seq ?_
              refine wc_region ?_
              refine wl_v (st_move (v := .int .i64 (q)) rfl) rfl rfl rfl ?_
              refine wl_v (st_assign (v := .int .i64 (q)) rfl) rfl rfl rfl ?_
              refine wl_v (st_assign (v := .slice none 0 0) rfl) rfl rfl rfl ?_
              refine wl_nil ?_
              refine wq_then ?_
              refine wc_ret ?_
              refine wq_block_ret ?_
              refine wq_then_ret ?_
              refine wq_ret2 (v := .int .i64 (q)) (v' := .slice none 0 0) rfl rfl rfl rfl ?_
              refine ⟨pw, ?_⟩
              unfold refField
              rw [if_pos (by omega)]
              exact ⟨_, rfl, SlR.nil⟩
            · intro h6
              have h6p : ¬ (q = 13) := by first | simpa using h6 | (simp at h6; omega)
              refine wc_seq ?_
              refine wc_region ?_
              refine wl_v (st_eql rfl rfl) rfl rfl rfl ?_
              refine wl_v (st_assign (v := .bool (decide (q = 4))) rfl) rfl rfl rfl ?_
              refine wl_nil ?_
              refine wq_then ?_
              refine wc_cond rfl ?_ ?_
              · intro h7
                have h7p : q = 4 := by first | simpa using h7 | (simp at h7; omega)
                refine wc_seq ?_
                refine wc_region ?_
                refine wl_lit (r := iR) (lo := w.heap.size) (us := [.int .i64 (1), .int .i64 (1), .int .i64 (1)]) (xs := [1, 1, 1]) ty24 ty3 rfl rfl rfl (by decide) ⟨rfl, ⟨rfl, ⟨rfl, trivial⟩⟩⟩ (by omega) rfl ?_
                intro w9 g8 hg10 hs11 hb12 hn13
                have pw := pu_trans pw hn13
                refine wl_v (st_assign (v := .int .i64 (2)) rfl) rfl rfl rfl ?_
                refine wl_v (st_assign (v := .slice (some ⟨g8, 0, none⟩) 3 3) rfl) rfl rfl rfl ?_
                refine wl_nil ?_
                refine wq_then ?_
                refine wc_ret ?_
                refine wq_block_ret ?_
                refine wq_then_ret ?_
                refine wq_ret2 (v := .int .i64 (2)) (v' := .slice (some ⟨g8, 0, none⟩) 3 3) rfl rfl rfl rfl ?_
                refine ⟨pw, ?_⟩
                unfold refField
                rw [if_neg (by omega)]
                rw [if_pos (by omega)]
                exact ⟨_, rfl, rI.mono (rI.lt (Bl.sl hb12)) fun b hb => hb.2⟩
              · intro h7
                have h7p : ¬ (q = 4) := by first | simpa using h7 | (simp at h7; omega)
                refine wc_seq ?_
                refine wc_region ?_
                refine wl_v (st_eql rfl rfl) rfl rfl rfl ?_
                refine wl_v (st_assign (v := .bool (decide (q = 8))) rfl) rfl rfl rfl ?_
                refine wl_nil ?_
                refine wq_then ?_
                refine wc_cond rfl ?_ ?_
                · intro h14
                  have h14p : q = 8 := by first | simpa using h14 | (simp at h14; omega)
                  refine wc_seq ?_
                  refine wc_region ?_
                  refine wl_lit (r := iR) (lo := w.heap.size) (us := [.int .i64 (1), .int .i64 (1), .int .i64 (0), .int .i64 (1)]) (xs := [1, 1, 0, 1]) ty24 ty3 rfl rfl rfl (by decide) ⟨rfl, ⟨rfl, ⟨rfl, ⟨rfl, trivial⟩⟩⟩⟩ (by omega) rfl ?_
                  intro w16 g15 hg17 hs18 hb19 hn20
                  have pw := pu_trans pw hn20
                  refine wl_v (st_assign (v := .int .i64 (2)) rfl) rfl rfl rfl ?_
                  refine wl_v (st_assign (v := .slice (some ⟨g15, 0, none⟩) 4 4) rfl) rfl rfl rfl ?_
                  refine wl_nil ?_
                  refine wq_then ?_
                  refine wc_ret ?_
                  refine wq_block_ret ?_
                  refine wq_then_ret ?_
                  refine wq_ret2 (v := .int .i64 (2)) (v' := .slice (some ⟨g15, 0, none⟩) 4 4) rfl rfl rfl rfl ?_
                  refine ⟨pw, ?_⟩
                  unfold refField
                  rw [if_neg (by omega)]
                  rw [if_neg (by omega)]
                  rw [if_pos (by omega)]
                  exact ⟨_, rfl, rI.mono (rI.lt (Bl.sl hb19)) fun b hb => hb.2⟩
                · intro h14
                  have h14p : ¬ (q = 8) := by first | simpa using h14 | (simp at h14; omega)
                  refine wc_seq ?_
                  refine wc_region ?_
                  refine wl_v (st_eql rfl rfl) rfl rfl rfl ?_
                  refine wl_v (st_assign (v := .bool (decide (q = 9))) rfl) rfl rfl rfl ?_
                  refine wl_nil ?_
                  refine wq_then ?_
                  refine wc_cond rfl ?_ ?_
                  · intro h21
                    have h21p : q = 9 := by first | simpa using h21 | (simp at h21; omega)
                    refine wc_seq ?_
                    refine wc_region ?_
                    refine wl_lit (r := iR) (lo := w.heap.size) (us := [.int .i64 (1), .int .i64 (0), .int .i64 (1)]) (xs := [1, 0, 1]) ty24 ty3 rfl rfl rfl (by decide) ⟨rfl, ⟨rfl, ⟨rfl, trivial⟩⟩⟩ (by omega) rfl ?_
                    intro w23 g22 hg24 hs25 hb26 hn27
                    have pw := pu_trans pw hn27
                    refine wl_v (st_assign (v := .int .i64 (3)) rfl) rfl rfl rfl ?_
                    refine wl_v (st_assign (v := .slice (some ⟨g22, 0, none⟩) 3 3) rfl) rfl rfl rfl ?_
                    refine wl_nil ?_
                    refine wq_then ?_
                    refine wc_ret ?_
                    refine wq_block_ret ?_
                    refine wq_then_ret ?_
                    refine wq_ret2 (v := .int .i64 (3)) (v' := .slice (some ⟨g22, 0, none⟩) 3 3) rfl rfl rfl rfl ?_
                    refine ⟨pw, ?_⟩
                    unfold refField
                    rw [if_neg (by omega)]
                    rw [if_neg (by omega)]
                    rw [if_neg (by omega)]
                    rw [if_pos (by omega)]
                    exact ⟨_, rfl, rI.mono (rI.lt (Bl.sl hb26)) fun b hb => hb.2⟩
                  · intro h21
                    have h21p : ¬ (q = 9) := by first | simpa using h21 | (simp at h21; omega)
                    refine wc_seq ?_
                    refine wc_region ?_
                    refine wl_v (st_eql rfl rfl) rfl rfl rfl ?_
                    refine wl_v (st_assign (v := .bool (decide (q = 16))) rfl) rfl rfl rfl ?_
                    refine wl_nil ?_
                    refine wq_then ?_
                    refine wc_cond rfl ?_ ?_
                    · intro h28
                      have h28p : q = 16 := by first | simpa using h28 | (simp at h28; omega)
                      refine wc_seq ?_
                      refine wc_region ?_
                      refine wl_lit (r := iR) (lo := w.heap.size) (us := [.int .i64 (1), .int .i64 (1), .int .i64 (0), .int .i64 (0), .int .i64 (1)]) (xs := [1, 1, 0, 0, 1]) ty24 ty3 rfl rfl rfl (by decide) ⟨rfl, ⟨rfl, ⟨rfl, ⟨rfl, ⟨rfl, trivial⟩⟩⟩⟩⟩ (by omega) rfl ?_
                      intro w30 g29 hg31 hs32 hb33 hn34
                      have pw := pu_trans pw hn34
                      refine wl_v (st_assign (v := .int .i64 (2)) rfl) rfl rfl rfl ?_
                      refine wl_v (st_assign (v := .slice (some ⟨g29, 0, none⟩) 5 5) rfl) rfl rfl rfl ?_
                      refine wl_nil ?_
                      refine wq_then ?_
                      refine wc_ret ?_
                      refine wq_block_ret ?_
                      refine wq_then_ret ?_
                      refine wq_ret2 (v := .int .i64 (2)) (v' := .slice (some ⟨g29, 0, none⟩) 5 5) rfl rfl rfl rfl ?_
                      refine ⟨pw, ?_⟩
                      unfold refField
                      rw [if_neg (by omega)]
                      rw [if_neg (by omega)]
                      rw [if_neg (by omega)]
                      rw [if_neg (by omega)]
                      rw [if_pos (by omega)]
                      exact ⟨_, rfl, rI.mono (rI.lt (Bl.sl hb33)) fun b hb => hb.2⟩
                    · intro h28
                      have h28p : ¬ (q = 16) := by first | simpa using h28 | (simp at h28; omega)
                      refine wc_skip ?_
                      refine wq_block_normal ?_
                      refine wq_then ?_
                      refine wc_seq ?_
                      refine wc_region ?_
                      refine wl_v (st_assign (v := .int .i64 (0)) rfl) rfl rfl rfl ?_
                      refine wl_v (st_assign (v := .slice none 0 0) rfl) rfl rfl rfl ?_
                      refine wl_nil ?_
                      refine wq_then ?_
                      refine wc_ret ?_
                      refine wq_ret2 (v := .int .i64 (0)) (v' := .slice none 0 0) rfl rfl rfl rfl ?_
                      refine ⟨pw, ?_⟩
                      unfold refField
                      rw [if_neg (by omega)]
                      rw [if_neg (by omega)]
                      rw [if_neg (by omega)]
                      rw [if_neg (by omega)]
                      rw [if_neg (by omega)]
                      exact ⟨_, rfl, SlR.nil⟩

set_option maxRecDepth 100000 in
theorem rnumber_ok (dv : Value) (d : List Int) (S : Nat → Prop) (p : Int) (m : Nat) (w : World) (hp : 2 ≤ p ∧ p ≤ 13) (hm : m ≤ 4) (hdl : m ≤ d.length) (hdb : ∀ x ∈ d, 0 ≤ x ∧ x ≤ 12) (hd : rI.R w S dv d) : Ret Tryd.prog 102 #[dv, .int .i64 p, .int .i64 (m : Int)] w fun v w' => v = .int .i64 (refNum p (d.take m)) ∧ w.grownBy w' none := by
  refine ret_in Tryd.func102 rfl rfl rfl ?_
  have pw := pu_refl w
  refine wc_seq ?_
  refine wc_region ?_
  refine wl_v (st_assign (v := .int .i64 (0)) rfl) rfl rfl rfl ?_
  refine wl_nil ?_
  refine wq_then ?_
  refine wc_seq ?_
  refine wc_region ?_
  refine wl_v (st_assign (v := .int .i64 (0)) rfl) rfl rfl rfl ?_
  refine wl_v (st_assign (v := .int .i64 (1)) rfl) rfl rfl rfl ?_
  refine wl_nil ?_
  refine wq_then ?_
  refine wc_seq ?_
  refine wc_seq ?_
  refine wc_region ?_
  refine wl_v (st_assign (v := .int .i64 (0)) rfl) rfl rfl rfl ?_
  refine wl_nil ?_
  refine wq_then ?_
  refine wc_block ?_
  refine wc_loop (fun fl mm w' => ∃ i : Nat, ∃ nn : Int, ∃ po : Int, fl = [(0, dv), (1, .int .i64 (p)), (2, .int .i64 ((m : Int))), (6, .int .i64 (0)), (7, .int .i64 (nn)), (8, .int .i64 (po)), (9, .int .i64 ((i : Int)))] ∧ mm = m - i ∧ (i ≤ m) ∧ (0 ≤ nn ∧ nn ≤ 342732 * (i : Int)) ∧ (po = p ^ i) ∧ (nn + po * refNum p ((d.take m).drop i) = refNum p (d.take m)) ∧ w.grownBy w' none ∧ rI.R w' (S) (dv) (d)) (h0 := ⟨0, 0, 1, rfl, rfl, ?_, ?_, ?_, ?_, pw, hd⟩) (hf := ⟨(by first | rfl | exact congrArg (Value.int _) (by omega) | go_num), (by first | rfl | exact congrArg (Value.int _) (by omega) | go_num), (by first | rfl | exact congrArg (Value.int _) (by omega) | go_num), (by first | rfl | exact congrArg (Value.int _) (by omega) | go_num), (by first | rfl | exact congrArg (Value.int _) (by omega) | go_num), (by first | rfl | exact congrArg (Value.int _) (by omega) | go_num), (by first | rfl | exact congrArg (Value.int _) (by omega) | go_num), trivial⟩) ?_
  · omega
  · omega
  · (simp)
  · (simp)
  · skip
    rintro _ _ w1 s2 ⟨i, nn, po, rfl, rfl, p1_1, p1_2, p1_3, p1_4, pw, hd⟩
    have hpb := pow_le4 p hp i (by omega)
    have hp0 : 0 ≤ p ^ i := Int.pow_nonneg (by omega)
    rw [← p1_3] at hpb hp0
    have hdi := at_bd d 12 (by omega) hdb i
    have hmm := mul_bd hdi.1 hdi.2 hp0 hpb
    have hmp := mul_bd hp0 hpb (show 0 ≤ p by omega) hp.2
    refine wc_seq ?_
    refine wc_seq ?_
    refine wc_region ?_
    refine wl_v (st_move (v := .int .i64 ((i : Int))) rfl) rfl rfl rfl ?_
    refine wl_v (st_move (v := .int .i64 ((m : Int))) rfl) rfl rfl rfl ?_
    refine wl_v (st_lss rfl rfl) rfl rfl rfl ?_
    refine wl_nil ?_
    refine wq_then ?_
    refine wc_cond rfl ?_ ?_
    · intro h3
      have h3p : (i : Int) < (m : Int) := by first | simpa using h3 | (simp at h3; omega)
      refine wc_skip ?_
      refine wq_then ?_
      refine wc_seq ?_
      refine wc_block ?_
      refine wc_seq ?_
      refine wc_region ?_
      refine wl_v (st_move (v := .int .i64 (nn)) rfl) rfl rfl rfl ?_
      refine wl_v (st_move (v := dv) rfl) rfl rfl rfl ?_
      refine wl_v (st_move (v := .int .i64 ((i : Int))) rfl) rfl rfl rfl ?_
      refine wl_e (st_idxI hd ty24 ty3 rfl rfl (by omega) (by omega)) rfl rfl rfl ?_
      rintro _ ⟨a5, rfl, hc4⟩
      simp only [Int.toNat_natCast] at hc4
      refine wl_v (st_load ty3 rfl rfl hc4) rfl rfl rfl ?_
      refine wl_v (st_move (v := .int .i64 (po)) rfl) rfl rfl rfl ?_
      refine wl_v (st_mul rfl rfl (by omega) (by omega)) rfl rfl rfl ?_
      refine wl_v (st_add rfl rfl (by omega) (by omega)) rfl rfl rfl ?_
      refine wl_v (st_assign (v := .int .i64 (nn + (((d).getD i 0) * po))) rfl) rfl rfl rfl ?_
      refine wl_nil ?_
      refine wq_then ?_
      refine wc_region ?_
      refine wl_v (st_move (v := .int .i64 (po)) rfl) rfl rfl rfl ?_
      refine wl_v (st_move (v := .int .i64 (p)) rfl) rfl rfl rfl ?_
      refine wl_v (st_mul rfl rfl (by omega) (by omega)) rfl rfl rfl ?_
      refine wl_v (st_assign (v := .int .i64 (po * p)) rfl) rfl rfl rfl ?_
      refine wl_nil ?_
      refine wq_block_normal ?_
      refine wq_then ?_
      refine wc_region ?_
      refine wl_v (st_move (v := .int .i64 ((i : Int))) rfl) rfl rfl rfl ?_
      refine wl_v (st_add rfl rfl (by omega) (by omega)) rfl rfl rfl ?_
      refine wl_v (st_assign (v := .int .i64 ((i : Int) + 1)) rfl) rfl rfl rfl ?_
      refine wl_nil ?_
      refine wq_round (hI := ⟨i + 1, (nn + d.getD i 0 * po), (po * p), rfl, rfl, ?_, ?_, ?_, ?_, pw, hd⟩) (hm := ?_) (hf := ?_) rfl rfl
      · omega
      · omega
      · (rw [Int.pow_succ, p1_3])
      · (rw [refNum_drop p (d.take m) i (by simp; omega), Int.mul_add] at p1_4; rw [← p1_4, show (d.take m).getD i 0 = d.getD i 0 by (rw [List.getD_eq_getElem?_getD, List.getElem?_take_of_lt (by omega), List.getD_eq_getElem?_getD]), Int.mul_assoc, Int.mul_comm po (d.getD i 0)]; omega)
      · omega
      · exact ⟨(by first | rfl | exact congrArg (Value.int _) (by omega) | go_num), (by first | rfl | exact congrArg (Value.int _) (by omega) | go_num), (by first | rfl | exact congrArg (Value.int _) (by omega) | go_num), (by first | rfl | exact congrArg (Value.int _) (by omega) | go_num), (by first | rfl | exact congrArg (Value.int _) (by omega) | go_num), (by first | rfl | exact congrArg (Value.int _) (by omega) | go_num), (by first | rfl | exact congrArg (Value.int _) (by omega) | go_num), trivial⟩
    · intro h3
      have h3p : ¬ ((i : Int) < (m : Int)) := by first | simpa using h3 | (simp at h3; omega)
      refine wc_exit ?_
      refine wq_then_exit ?_
      refine wq_then_exit ?_
      refine wq_block_exit ?_
      refine wq_then ?_
      refine wc_seq ?_
      refine wc_region ?_
      refine wl_v (st_move (v := .int .i64 (nn)) rfl) rfl rfl rfl ?_
      refine wl_v (st_assign (v := .int .i64 (nn)) rfl) rfl rfl rfl ?_
      refine wl_nil ?_
      refine wq_then ?_
      refine wc_ret ?_
      refine wq_ret1 (v := .int .i64 (nn)) rfl rfl rfl ?_
      exact ⟨congrArg (Value.int .i64) (by rw [show i = m by omega, List.drop_of_length_le (by simp; omega), refNum, Int.mul_zero] at p1_4; omega), pw⟩

end Go.Proofs.YthofgamegondnaaDoor
