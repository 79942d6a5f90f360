/- Walks: fields. -/
import Derived.Test.YthofgamegondnaaDoorEvW1
namespace Go.Proofs.YthofgamegondnaaDoor
open Go.RowKit
set_option linter.unusedSimpArgs false
set_option linter.unusedVariables false

set_option maxRecDepth 100000 in
theorem fieldOf_ok (q : Int) (w : World) : Ret Tryd.prog 56 #[.int .i64 q] w fun v w' => w.grownBy w' none ∧ match fieldL q with | some (p, m, xs) => ∃ pv, v = .tuple #[.agg #[.int .i64 p, .int .i64 (m : Int), pv], .bool true] ∧ rI.R w' (Lo w'.heap.size) pv xs | none => v = .tuple #[.agg #[.int .i64 0, .int .i64 0, .slice none 0 0], .bool false] := by
  refine ret_in Tryd.func56 rfl rfl rfl ?_
  have pw := pu_refl w
  refine wc_seq ?_
  refine wc_region ?_
  refine wl_allocK (cs := [.int .i64 (0), .int .i64 (0), .slice none 0 0]) ty72 rfl rfl ?_
  intro w2 g1 hg3 hs4 hb5 hn6
  have pw := pu_trans pw hn6
  refine wl_v (st_assign (v := .bool (false)) rfl) rfl rfl rfl ?_
  refine wl_nil ?_
  refine wq_then ?_
  refine wc_seq ?_
  refine wc_seq ?_
  refine wc_region ?_
  refine wl_v (st_move (v := .int .i64 (q)) rfl) rfl rfl rfl ?_
  refine wl_nil ?_
  refine wq_then ?_
  refine wc_block ?_
  refine wc_seq ?_
  refine wc_seq ?_
  refine wc_region ?_
  refine wl_v (st_eql rfl rfl) rfl rfl rfl ?_
  refine wl_v (st_assign (v := .bool (decide (q = 2))) rfl) rfl rfl rfl ?_
  refine wl_nil ?_
  refine wq_then ?_
  refine wc_cond rfl ?_ ?_
  · intro h7
    have h7p : q = 2 := by first | simpa using h7 | (simp at h7; omega)
    refine wc_skip ?_
    refine wq_then ?_
    refine wc_true (by rw [← h7]; rfl) ?_
    refine wc_seq ?_
    refine wc_region ?_
    refine wl_v (st_move (v := .int .i64 (q)) rfl) rfl rfl rfl ?_
    refine wl_lit (r := iR) (lo := w2.heap.size) (us := [.int .i64 (0)]) (xs := [0]) ty24 ty3 rfl rfl rfl (by decide) ⟨rfl, trivial⟩ (by omega) rfl ?_
    intro w9 g8 hg10 hs11 hb12 hn13
    have pw := pu_trans pw hn13
    have hb5 := Bk.pu hb5 hn13
    refine wl_v (st_build (cs := [.int .i64 (0), .int .i64 (0), .slice none 0 0]) (us := [(0, .int .i64 (q)), (1, .int .i64 (1)), (2, .slice (some ⟨g8, 0, none⟩) 1 1)]) ty72 pl72 rfl rfl rfl rfl) rfl rfl rfl ?_
    refine wl_storeG (cs := [.int .i64 (q), .int .i64 (1), .slice (some ⟨g8, 0, none⟩) 1 1]) hb5 ty72 rfl rfl rfl rfl (all1 rfl (all1 rfl (all1 (Rep.one _ (Bl.sl hb12)) rfl))) ?_
    intro w18 hb19 hg20 hs21
    have pw := pu_row pw hg20 (by intro q hq hlt; simp at hq; omega)
    have hb12 := Bl.ch hb12 hg20 (by intro q hq hlt; simp at hq; omega)
    have hb5 := hb19
    refine wl_v (st_assign (v := .bool (true)) rfl) rfl rfl rfl ?_
    refine wl_nil ?_
    refine wq_then ?_
    refine wc_ret ?_
    refine wq_block_ret ?_
    refine wq_then_ret ?_
    refine wq_ret2ct (cs := [.int .i64 (q), .int .i64 (1), .slice (some ⟨g8, 0, none⟩) 1 1]) (v := .bool (true)) rfl rfl rfl rfl ty72 rfl rfl (Bk.cells hb5) ?_
    refine ⟨pw, ?_⟩
    unfold fieldL
    rw [if_pos (by omega)]
    exact ⟨_, rfl, rI.mono (rI.lt (Bl.sl hb12)) fun b hb => hb.2⟩
  · intro h7
    have h7p : ¬ (q = 2) := by first | simpa using h7 | (simp at h7; omega)
    refine wc_seq ?_
    refine wc_region ?_
    refine wl_v (st_eql rfl rfl) rfl rfl rfl ?_
    refine wl_v (st_assign (v := .bool (decide (q = 3))) rfl) rfl rfl rfl ?_
    refine wl_nil ?_
    refine wq_then ?_
    refine wc_cond rfl ?_ ?_
    · intro h22
      have h22p : q = 3 := by first | simpa using h22 | (simp at h22; omega)
      refine wc_skip ?_
      refine wq_then ?_
      refine wc_true (by rw [← h22]; rfl) ?_
      refine wc_seq ?_
      refine wc_region ?_
      refine wl_v (st_move (v := .int .i64 (q)) rfl) rfl rfl rfl ?_
      refine wl_lit (r := iR) (lo := w2.heap.size) (us := [.int .i64 (0)]) (xs := [0]) ty24 ty3 rfl rfl rfl (by decide) ⟨rfl, trivial⟩ (by omega) rfl ?_
      intro w24 g23 hg25 hs26 hb27 hn28
      have pw := pu_trans pw hn28
      have hb5 := Bk.pu hb5 hn28
      refine wl_v (st_build (cs := [.int .i64 (0), .int .i64 (0), .slice none 0 0]) (us := [(0, .int .i64 (q)), (1, .int .i64 (1)), (2, .slice (some ⟨g23, 0, none⟩) 1 1)]) ty72 pl72 rfl rfl rfl rfl) rfl rfl rfl ?_
      refine wl_storeG (cs := [.int .i64 (q), .int .i64 (1), .slice (some ⟨g23, 0, none⟩) 1 1]) hb5 ty72 rfl rfl rfl rfl (all1 rfl (all1 rfl (all1 (Rep.one _ (Bl.sl hb27)) rfl))) ?_
      intro w33 hb34 hg35 hs36
      have pw := pu_row pw hg35 (by intro q hq hlt; simp at hq; omega)
      have hb27 := Bl.ch hb27 hg35 (by intro q hq hlt; simp at hq; omega)
      have hb5 := hb34
      refine wl_v (st_assign (v := .bool (true)) rfl) rfl rfl rfl ?_
      refine wl_nil ?_
      refine wq_then ?_
      refine wc_ret ?_
      refine wq_block_ret ?_
      refine wq_then_ret ?_
      refine wq_ret2ct (cs := [.int .i64 (q), .int .i64 (1), .slice (some ⟨g23, 0, none⟩) 1 1]) (v := .bool (true)) rfl rfl rfl rfl ty72 rfl rfl (Bk.cells hb5) ?_
      refine ⟨pw, ?_⟩
      unfold fieldL
      rw [if_pos (by omega)]
      exact ⟨_, rfl, rI.mono (rI.lt (Bl.sl hb27)) fun b hb => hb.2⟩
    · intro h22
      have h22p : ¬ (q = 3) := by first | simpa using h22 | (simp at h22; omega)
      refine wc_seq ?_
      refine wc_region ?_
      refine wl_v (st_eql rfl rfl) rfl rfl rfl ?_
      refine wl_v (st_assign (v := .bool (decide (q = 5))) rfl) rfl rfl rfl ?_
      refine wl_nil ?_
      refine wq_then ?_
      refine wc_cond rfl ?_ ?_
      · intro h37
        have h37p : q = 5 := by first | simpa using h37 | (simp at h37; omega)
        refine wc_skip ?_
        refine wq_then ?_
        refine wc_true (by rw [← h37]; rfl) ?_
        refine wc_seq ?_
        refine wc_region ?_
        refine wl_v (st_move (v := .int .i64 (q)) rfl) rfl rfl rfl ?_
        refine wl_lit (r := iR) (lo := w2.heap.size) (us := [.int .i64 (0)]) (xs := [0]) ty24 ty3 rfl rfl rfl (by decide) ⟨rfl, trivial⟩ (by omega) rfl ?_
        intro w39 g38 hg40 hs41 hb42 hn43
        have pw := pu_trans pw hn43
        have hb5 := Bk.pu hb5 hn43
        refine wl_v (st_build (cs := [.int .i64 (0), .int .i64 (0), .slice none 0 0]) (us := [(0, .int .i64 (q)), (1, .int .i64 (1)), (2, .slice (some ⟨g38, 0, none⟩) 1 1)]) ty72 pl72 rfl rfl rfl rfl) rfl rfl rfl ?_
        refine wl_storeG (cs := [.int .i64 (q), .int .i64 (1), .slice (some ⟨g38, 0, none⟩) 1 1]) hb5 ty72 rfl rfl rfl rfl (all1 rfl (all1 rfl (all1 (Rep.one _ (Bl.sl hb42)) rfl))) ?_
        intro w48 hb49 hg50 hs51
        have pw := pu_row pw hg50 (by intro q hq hlt; simp at hq; omega)
        have hb42 := Bl.ch hb42 hg50 (by intro q hq hlt; simp at hq; omega)
        have hb5 := hb49
        refine wl_v (st_assign (v := .bool (true)) rfl) rfl rfl rfl ?_
        refine wl_nil ?_
        refine wq_then ?_
        refine wc_ret ?_
        refine wq_block_ret ?_
        refine wq_then_ret ?_
        refine wq_ret2ct (cs := [.int .i64 (q), .int .i64 (1), .slice (some ⟨g38, 0, none⟩) 1 1]) (v := .bool (true)) rfl rfl rfl rfl ty72 rfl rfl (Bk.cells hb5) ?_
        refine ⟨pw, ?_⟩
        unfold fieldL
        rw [if_pos (by omega)]
        exact ⟨_, rfl, rI.mono (rI.lt (Bl.sl hb42)) fun b hb => hb.2⟩
      · intro h37
        have h37p : ¬ (q = 5) := by first | simpa using h37 | (simp at h37; omega)
        refine wc_seq ?_
        refine wc_region ?_
        refine wl_v (st_eql rfl rfl) rfl rfl rfl ?_
        refine wl_v (st_assign (v := .bool (decide (q = 7))) rfl) rfl rfl rfl ?_
        refine wl_nil ?_
        refine wq_then ?_
        refine wc_cond rfl ?_ ?_
        · intro h52
          have h52p : q = 7 := by first | simpa using h52 | (simp at h52; omega)
          refine wc_skip ?_
          refine wq_then ?_
          refine wc_true (by rw [← h52]; rfl) ?_
          refine wc_seq ?_
          refine wc_region ?_
          refine wl_v (st_move (v := .int .i64 (q)) rfl) rfl rfl rfl ?_
          refine wl_lit (r := iR) (lo := w2.heap.size) (us := [.int .i64 (0)]) (xs := [0]) ty24 ty3 rfl rfl rfl (by decide) ⟨rfl, trivial⟩ (by omega) rfl ?_
          intro w54 g53 hg55 hs56 hb57 hn58
          have pw := pu_trans pw hn58
          have hb5 := Bk.pu hb5 hn58
          refine wl_v (st_build (cs := [.int .i64 (0), .int .i64 (0), .slice none 0 0]) (us := [(0, .int .i64 (q)), (1, .int .i64 (1)), (2, .slice (some ⟨g53, 0, none⟩) 1 1)]) ty72 pl72 rfl rfl rfl rfl) rfl rfl rfl ?_
          refine wl_storeG (cs := [.int .i64 (q), .int .i64 (1), .slice (some ⟨g53, 0, none⟩) 1 1]) hb5 ty72 rfl rfl rfl rfl (all1 rfl (all1 rfl (all1 (Rep.one _ (Bl.sl hb57)) rfl))) ?_
          intro w63 hb64 hg65 hs66
          have pw := pu_row pw hg65 (by intro q hq hlt; simp at hq; omega)
          have hb57 := Bl.ch hb57 hg65 (by intro q hq hlt; simp at hq; omega)
          have hb5 := hb64
          refine wl_v (st_assign (v := .bool (true)) rfl) rfl rfl rfl ?_
          refine wl_nil ?_
          refine wq_then ?_
          refine wc_ret ?_
          refine wq_block_ret ?_
          refine wq_then_ret ?_
          refine wq_ret2ct (cs := [.int .i64 (q), .int .i64 (1), .slice (some ⟨g53, 0, none⟩) 1 1]) (v := .bool (true)) rfl rfl rfl rfl ty72 rfl rfl (Bk.cells hb5) ?_
          refine ⟨pw, ?_⟩
          unfold fieldL
          rw [if_pos (by omega)]
          exact ⟨_, rfl, rI.mono (rI.lt (Bl.sl hb57)) fun b hb => hb.2⟩
        · intro h52
          have h52p : ¬ (q = 7) := by first | simpa using h52 | (simp at h52; omega)
          refine wc_seq ?_
          refine wc_region ?_
          refine wl_v (st_eql rfl rfl) rfl rfl rfl ?_
          refine wl_v (st_assign (v := .bool (decide (q = 11))) rfl) rfl rfl rfl ?_
          refine wl_nil ?_
          refine wq_then ?_
          refine wc_cond rfl ?_ ?_
          · intro h67
            have h67p : q = 11 := by first | simpa using h67 | (simp at h67; omega)
            refine wc_skip ?_
            refine wq_then ?_
            refine wc_true (by rw [← h67]; rfl) ?_
            refine wc_seq ?_
            refine wc_region ?_
            refine wl_v (st_move (v := .int .i64 (q)) rfl) rfl rfl rfl ?_
            refine wl_lit (r := iR) (lo := w2.heap.size) (us := [.int .i64 (0)]) (xs := [0]) ty24 ty3 rfl rfl rfl (by decide) ⟨rfl, trivial⟩ (by omega) rfl ?_
            intro w69 g68 hg70 hs71 hb72 hn73
            have pw := pu_trans pw hn73
            have hb5 := Bk.pu hb5 hn73
            refine wl_v (st_build (cs := [.int .i64 (0), .int .i64 (0), .slice none 0 0]) (us := [(0, .int .i64 (q)), (1, .int .i64 (1)), (2, .slice (some ⟨g68, 0, none⟩) 1 1)]) ty72 pl72 rfl rfl rfl rfl) rfl rfl rfl ?_
            refine wl_storeG (cs := [.int .i64 (q), .int .i64 (1), .slice (some ⟨g68, 0, none⟩) 1 1]) hb5 ty72 rfl rfl rfl rfl (all1 rfl (all1 rfl (all1 (Rep.one _ (Bl.sl hb72)) rfl))) ?_
            intro w78 hb79 hg80 hs81
            have pw := pu_row pw hg80 (by intro q hq hlt; simp at hq; omega)
            have hb72 := Bl.ch hb72 hg80 (by intro q hq hlt; simp at hq; omega)
            have hb5 := hb79
            refine wl_v (st_assign (v := .bool (true)) rfl) rfl rfl rfl ?_
            refine wl_nil ?_
            refine wq_then ?_
            refine wc_ret ?_
            refine wq_block_ret ?_
            refine wq_then_ret ?_
            refine wq_ret2ct (cs := [.int .i64 (q), .int .i64 (1), .slice (some ⟨g68, 0, none⟩) 1 1]) (v := .bool (true)) rfl rfl rfl rfl ty72 rfl rfl (Bk.cells hb5) ?_
            refine ⟨pw, ?_⟩
            unfold fieldL
            rw [if_pos (by omega)]
            exact ⟨_, rfl, rI.mono (rI.lt (Bl.sl hb72)) fun b hb => hb.2⟩
          · intro h67
            have h67p : ¬ (q = 11) := by first | simpa using h67 | (simp at h67; omega)
            refine wc_region ?_
            refine wl_v (st_eql rfl rfl) rfl rfl rfl ?_
            refine wl_v (st_assign (v := .bool (decide (q = 13))) rfl) rfl rfl rfl ?_
            refine wl_nil ?_
            refine wq_then ?_
            refine wc_cond rfl ?_ ?_
            · intro h82
              have h82p : q = 13 := by first | simpa using h82 | (simp at h82; omega)
              refine wc_seq ?_
              refine wc_region ?_
              refine wl_v (st_move (v := .int .i64 (q)) rfl) rfl rfl rfl ?_
              refine wl_lit (r := iR) (lo := w2.heap.size) (us := [.int .i64 (0)]) (xs := [0]) ty24 ty3 rfl rfl rfl (by decide) ⟨rfl, trivial⟩ (by omega) rfl ?_
              intro w84 g83 hg85 hs86 hb87 hn88
              have pw := pu_trans pw hn88
              have hb5 := Bk.pu hb5 hn88
              refine wl_v (st_build (cs := [.int .i64 (0), .int .i64 (0), .slice none 0 0]) (us := [(0, .int .i64 (q)), (1, .int .i64 (1)), (2, .slice (some ⟨g83, 0, none⟩) 1 1)]) ty72 pl72 rfl rfl rfl rfl) rfl rfl rfl ?_
              refine wl_storeG (cs := [.int .i64 (q), .int .i64 (1), .slice (some ⟨g83, 0, none⟩) 1 1]) hb5 ty72 rfl rfl rfl rfl (all1 rfl (all1 rfl (all1 (Rep.one _ (Bl.sl hb87)) rfl))) ?_
              intro w93 hb94 hg95 hs96
              have pw := pu_row pw hg95 (by intro q hq hlt; simp at hq; omega)
              have hb87 := Bl.ch hb87 hg95 (by intro q hq hlt; simp at hq; omega)
              have hb5 := hb94
              refine wl_v (st_assign (v := .bool (true)) rfl) rfl rfl rfl ?_
              refine wl_nil ?_
              refine wq_then ?_
              refine wc_ret ?_
              refine wq_block_ret ?_
              refine wq_then_ret ?_
              refine wq_ret2ct (cs := [.int .i64 (q), .int .i64 (1), .slice (some ⟨g83, 0, none⟩) 1 1]) (v := .bool (true)) rfl rfl rfl rfl ty72 rfl rfl (Bk.cells hb5) ?_
              refine ⟨pw, ?_⟩
              unfold fieldL
              rw [if_pos (by omega)]
              exact ⟨_, rfl, rI.mono (rI.lt (Bl.sl hb87)) fun b hb => hb.2⟩
            · intro h82
              have h82p : ¬ (q = 13) := by first | simpa using h82 | (simp at h82; omega)
              refine wc_seq ?_
              refine wc_region ?_
              refine wl_v (st_eql rfl rfl) rfl rfl rfl ?_
              refine wl_v (st_assign (v := .bool (decide (q = 4))) rfl) rfl rfl rfl ?_
              refine wl_nil ?_
              refine wq_then ?_
              refine wc_cond rfl ?_ ?_
              · intro h97
                have h97p : q = 4 := by first | simpa using h97 | (simp at h97; omega)
                refine wc_seq ?_
                refine wc_region ?_
                refine wl_lit (r := iR) (lo := w2.heap.size) (us := [.int .i64 (1), .int .i64 (1)]) (xs := [1, 1]) ty24 ty3 rfl rfl rfl (by decide) ⟨rfl, ⟨rfl, trivial⟩⟩ (by omega) rfl ?_
                intro w99 g98 hg100 hs101 hb102 hn103
                have pw := pu_trans pw hn103
                have hb5 := Bk.pu hb5 hn103
                refine wl_v (st_build (cs := [.int .i64 (0), .int .i64 (0), .slice none 0 0]) (us := [(0, .int .i64 (2)), (1, .int .i64 (2)), (2, .slice (some ⟨g98, 0, none⟩) 2 2)]) ty72 pl72 rfl rfl rfl rfl) rfl rfl rfl ?_
                refine wl_storeG (cs := [.int .i64 (2), .int .i64 (2), .slice (some ⟨g98, 0, none⟩) 2 2]) hb5 ty72 rfl rfl rfl rfl (all1 rfl (all1 rfl (all1 (Rep.one _ (Bl.sl hb102)) rfl))) ?_
                intro w108 hb109 hg110 hs111
                have pw := pu_row pw hg110 (by intro q hq hlt; simp at hq; omega)
                have hb102 := Bl.ch hb102 hg110 (by intro q hq hlt; simp at hq; omega)
                have hb5 := hb109
                refine wl_v (st_assign (v := .bool (true)) rfl) rfl rfl rfl ?_
                refine wl_nil ?_
                refine wq_then ?_
                refine wc_ret ?_
                refine wq_block_ret ?_
                refine wq_then_ret ?_
                refine wq_ret2ct (cs := [.int .i64 (2), .int .i64 (2), .slice (some ⟨g98, 0, none⟩) 2 2]) (v := .bool (true)) rfl rfl rfl rfl ty72 rfl rfl (Bk.cells hb5) ?_
                refine ⟨pw, ?_⟩
                unfold fieldL
                rw [if_neg (by omega)]
                rw [if_pos (by omega)]
                exact ⟨_, rfl, rI.mono (rI.lt (Bl.sl hb102)) fun b hb => hb.2⟩
              · intro h97
                have h97p : ¬ (q = 4) := by first | simpa using h97 | (simp at h97; omega)
                refine wc_seq ?_
                refine wc_region ?_
                refine wl_v (st_eql rfl rfl) rfl rfl rfl ?_
                refine wl_v (st_assign (v := .bool (decide (q = 8))) rfl) rfl rfl rfl ?_
                refine wl_nil ?_
                refine wq_then ?_
                refine wc_cond rfl ?_ ?_
                · intro h112
                  have h112p : q = 8 := by first | simpa using h112 | (simp at h112; omega)
                  refine wc_seq ?_
                  refine wc_region ?_
                  refine wl_lit (r := iR) (lo := w2.heap.size) (us := [.int .i64 (1), .int .i64 (1), .int .i64 (0)]) (xs := [1, 1, 0]) ty24 ty3 rfl rfl rfl (by decide) ⟨rfl, ⟨rfl, ⟨rfl, trivial⟩⟩⟩ (by omega) rfl ?_
                  intro w114 g113 hg115 hs116 hb117 hn118
                  have pw := pu_trans pw hn118
                  have hb5 := Bk.pu hb5 hn118
                  refine wl_v (st_build (cs := [.int .i64 (0), .int .i64 (0), .slice none 0 0]) (us := [(0, .int .i64 (2)), (1, .int .i64 (3)), (2, .slice (some ⟨g113, 0, none⟩) 3 3)]) ty72 pl72 rfl rfl rfl rfl) rfl rfl rfl ?_
                  refine wl_storeG (cs := [.int .i64 (2), .int .i64 (3), .slice (some ⟨g113, 0, none⟩) 3 3]) hb5 ty72 rfl rfl rfl rfl (all1 rfl (all1 rfl (all1 (Rep.one _ (Bl.sl hb117)) rfl))) ?_
                  intro w123 hb124 hg125 hs126
                  have pw := pu_row pw hg125 (by intro q hq hlt; simp at hq; omega)
                  have hb117 := Bl.ch hb117 hg125 (by intro q hq hlt; simp at hq; omega)
                  have hb5 := hb124
                  refine wl_v (st_assign (v := .bool (true)) rfl) rfl rfl rfl ?_
                  refine wl_nil ?_
                  refine wq_then ?_
                  refine wc_ret ?_
                  refine wq_block_ret ?_
                  refine wq_then_ret ?_
                  refine wq_ret2ct (cs := [.int .i64 (2), .int .i64 (3), .slice (some ⟨g113, 0, none⟩) 3 3]) (v := .bool (true)) rfl rfl rfl rfl ty72 rfl rfl (Bk.cells hb5) ?_
                  refine ⟨pw, ?_⟩
                  unfold fieldL
                  rw [if_neg (by omega)]
                  rw [if_neg (by omega)]
                  rw [if_pos (by omega)]
                  exact ⟨_, rfl, rI.mono (rI.lt (Bl.sl hb117)) fun b hb => hb.2⟩
                · intro h112
                  have h112p : ¬ (q = 8) := by first | simpa using h112 | (simp at h112; omega)
                  refine wc_seq ?_
                  refine wc_region ?_
                  refine wl_v (st_eql rfl rfl) rfl rfl rfl ?_
                  refine wl_v (st_assign (v := .bool (decide (q = 9))) rfl) rfl rfl rfl ?_
                  refine wl_nil ?_
                  refine wq_then ?_
                  refine wc_cond rfl ?_ ?_
                  · intro h127
                    have h127p : q = 9 := by first | simpa using h127 | (simp at h127; omega)
                    refine wc_seq ?_
                    refine wc_region ?_
                    refine wl_lit (r := iR) (lo := w2.heap.size) (us := [.int .i64 (2), .int .i64 (0)]) (xs := [2, 0]) ty24 ty3 rfl rfl rfl (by decide) ⟨rfl, ⟨rfl, trivial⟩⟩ (by omega) rfl ?_
                    intro w129 g128 hg130 hs131 hb132 hn133
                    have pw := pu_trans pw hn133
                    have hb5 := Bk.pu hb5 hn133
                    refine wl_v (st_build (cs := [.int .i64 (0), .int .i64 (0), .slice none 0 0]) (us := [(0, .int .i64 (3)), (1, .int .i64 (2)), (2, .slice (some ⟨g128, 0, none⟩) 2 2)]) ty72 pl72 rfl rfl rfl rfl) rfl rfl rfl ?_
                    refine wl_storeG (cs := [.int .i64 (3), .int .i64 (2), .slice (some ⟨g128, 0, none⟩) 2 2]) hb5 ty72 rfl rfl rfl rfl (all1 rfl (all1 rfl (all1 (Rep.one _ (Bl.sl hb132)) rfl))) ?_
                    intro w138 hb139 hg140 hs141
                    have pw := pu_row pw hg140 (by intro q hq hlt; simp at hq; omega)
                    have hb132 := Bl.ch hb132 hg140 (by intro q hq hlt; simp at hq; omega)
                    have hb5 := hb139
                    refine wl_v (st_assign (v := .bool (true)) rfl) rfl rfl rfl ?_
                    refine wl_nil ?_
                    refine wq_then ?_
                    refine wc_ret ?_
                    refine wq_block_ret ?_
                    refine wq_then_ret ?_
                    refine wq_ret2ct (cs := [.int .i64 (3), .int .i64 (2), .slice (some ⟨g128, 0, none⟩) 2 2]) (v := .bool (true)) rfl rfl rfl rfl ty72 rfl rfl (Bk.cells hb5) ?_
                    refine ⟨pw, ?_⟩
                    unfold fieldL
                    rw [if_neg (by omega)]
                    rw [if_neg (by omega)]
                    rw [if_neg (by omega)]
                    rw [if_pos (by omega)]
                    exact ⟨_, rfl, rI.mono (rI.lt (Bl.sl hb132)) fun b hb => hb.2⟩
                  · intro h127
                    have h127p : ¬ (q = 9) := by first | simpa using h127 | (simp at h127; omega)
                    refine wc_seq ?_
                    refine wc_region ?_
                    refine wl_v (st_eql rfl rfl) rfl rfl rfl ?_
                    refine wl_v (st_assign (v := .bool (decide (q = 16))) rfl) rfl rfl rfl ?_
                    refine wl_nil ?_
                    refine wq_then ?_
                    refine wc_cond rfl ?_ ?_
                    · intro h142
                      have h142p : q = 16 := by first | simpa using h142 | (simp at h142; omega)
                      refine wc_seq ?_
                      refine wc_region ?_
                      refine wl_lit (r := iR) (lo := w2.heap.size) (us := [.int .i64 (1), .int .i64 (1), .int .i64 (0), .int .i64 (0)]) (xs := [1, 1, 0, 0]) ty24 ty3 rfl rfl rfl (by decide) ⟨rfl, ⟨rfl, ⟨rfl, ⟨rfl, trivial⟩⟩⟩⟩ (by omega) rfl ?_
                      intro w144 g143 hg145 hs146 hb147 hn148
                      have pw := pu_trans pw hn148
                      have hb5 := Bk.pu hb5 hn148
                      refine wl_v (st_build (cs := [.int .i64 (0), .int .i64 (0), .slice none 0 0]) (us := [(0, .int .i64 (2)), (1, .int .i64 (4)), (2, .slice (some ⟨g143, 0, none⟩) 4 4)]) ty72 pl72 rfl rfl rfl rfl) rfl rfl rfl ?_
                      refine wl_storeG (cs := [.int .i64 (2), .int .i64 (4), .slice (some ⟨g143, 0, none⟩) 4 4]) hb5 ty72 rfl rfl rfl rfl (all1 rfl (all1 rfl (all1 (Rep.one _ (Bl.sl hb147)) rfl))) ?_
                      intro w153 hb154 hg155 hs156
                      have pw := pu_row pw hg155 (by intro q hq hlt; simp at hq; omega)
                      have hb147 := Bl.ch hb147 hg155 (by intro q hq hlt; simp at hq; omega)
                      have hb5 := hb154
                      refine wl_v (st_assign (v := .bool (true)) rfl) rfl rfl rfl ?_
                      refine wl_nil ?_
                      refine wq_then ?_
                      refine wc_ret ?_
                      refine wq_block_ret ?_
                      refine wq_then_ret ?_
                      refine wq_ret2ct (cs := [.int .i64 (2), .int .i64 (4), .slice (some ⟨g143, 0, none⟩) 4 4]) (v := .bool (true)) rfl rfl rfl rfl ty72 rfl rfl (Bk.cells hb5) ?_
                      refine ⟨pw, ?_⟩
                      unfold fieldL
                      rw [if_neg (by omega)]
                      rw [if_neg (by omega)]
                      rw [if_neg (by omega)]
                      rw [if_neg (by omega)]
                      rw [if_pos (by omega)]
                      exact ⟨_, rfl, rI.mono (rI.lt (Bl.sl hb147)) fun b hb => hb.2⟩
                    · intro h142
                      have h142p : ¬ (q = 16) := by first | simpa using h142 | (simp at h142; omega)
                      refine wc_skip ?_
                      refine wq_block_normal ?_
                      refine wq_then ?_
                      refine wc_seq ?_
                      refine wc_region ?_
                      refine wl_v (st_build (cs := [.int .i64 (0), .int .i64 (0), .slice none 0 0]) (us := []) ty72 pl72 rfl rfl rfl rfl) rfl rfl rfl ?_
                      refine wl_storeG (cs := [.int .i64 (0), .int .i64 (0), .slice none 0 0]) hb5 ty72 rfl rfl rfl rfl (all1 rfl (all1 rfl (all1 rfl rfl))) ?_
                      intro w161 hb162 hg163 hs164
                      have pw := pu_row pw hg163 (by intro q hq hlt; simp at hq; omega)
                      have hb5 := hb162
                      refine wl_v (st_assign (v := .bool (false)) rfl) rfl rfl rfl ?_
                      refine wl_nil ?_
                      refine wq_then ?_
                      refine wc_ret ?_
                      refine wq_ret2ct (cs := [.int .i64 (0), .int .i64 (0), .slice none 0 0]) (v := .bool (false)) rfl rfl rfl rfl ty72 rfl rfl (Bk.cells hb5) ?_
                      refine ⟨pw, ?_⟩
                      unfold fieldL
                      rw [if_neg (by omega)]
                      rw [if_neg (by omega)]
                      rw [if_neg (by omega)]
                      rw [if_neg (by omega)]
                      rw [if_neg (by omega)]
                      

set_option maxRecDepth 100000 in
theorem digits_ok (p a : Int) (mn : Nat) (pv : Value) (w : World) (hp : 2 ≤ p ∧ p ≤ 13) (hm : mn ≤ 4) (ha : 0 ≤ a ∧ a ≤ 9223372036854775807) : Ret Tryd.prog 103 #[.agg #[.int .i64 p, .int .i64 (mn : Int), pv], .int .i64 a] w fun v w' => w.grownBy w' none ∧ Bl iR 3 w' w.heap.size w'.heap.size v (digitsL p mn a) := by
  refine ret_in Tryd.func103 rfl rfl rfl ?_
  have pw := pu_refl w
  refine wc_seq ?_
  refine wc_region ?_
  refine wl_boxG (cs := [.int .i64 (p), .int .i64 ((mn : Int)), pv]) rfl rfl ?_
  intro w2 g1 hg3 hs4 hb5 hn6
  have pw := pu_trans pw hn6
  refine wl_v (st_assign (v := .slice none 0 0) rfl) rfl rfl rfl ?_
  refine wl_nil ?_
  refine wq_then ?_
  refine wc_seq ?_
  refine wc_region ?_
  refine wl_v (st_fieldAddr ty72 (ft := 3) (off := 1) (by kernel_rfl) ty3 rfl) rfl rfl rfl ?_
  refine wl_v (st_load (v := .int .i64 ((mn : Int))) ty3 rfl rfl (Bk.cell hb5 (i := 1) rfl)) rfl rfl rfl ?_
  refine wl_makeB (r := iR) (0 : Int) ty24 ty3 rfl (fun _ => rfl) rfl rfl (by omega) (by omega) rfl ?_
  intro w8 g7 hg9 hs10 hb11 hn12
  simp only [Int.toNat_natCast] at hb11 ⊢
  have hlog7 : g7 < w8.heap.size := by omega
  have pw := pu_trans pw hn12
  have hb5 := Bk.pu hb5 hn12
  refine wl_v (st_assign (v := .slice (some ⟨g7, 0, none⟩) mn mn) rfl) rfl rfl rfl ?_
  refine wl_nil ?_
  refine wq_then ?_
  refine wc_seq ?_
  refine wc_seq ?_
  refine wc_region ?_
  refine wl_v (st_move (v := .slice (some ⟨g7, 0, none⟩) mn mn) rfl) rfl rfl rfl ?_
  refine wl_v (st_lenS (Bl.sl hb11) ty24 rfl) rfl rfl rfl ?_
  refine wl_v (st_move (v := .int .i64 (0)) rfl) rfl rfl rfl ?_
  refine wl_nil ?_
  refine wq_then ?_
  refine wc_block ?_
  have hl : (List.replicate mn (0:Int)).length = mn := by simp
  refine wc_loop (fun fl mm w' => ∃ k : Nat, ∃ ds : List Int, ∃ ak : Int, fl = [(1, .int .i64 (ak)), (2, .pointer (some ⟨g1, 0, none⟩)), (4, .slice none 0 0), (5, .slice (some ⟨g7, 0, none⟩) mn mn), (11, .int .i64 (((List.replicate mn (0 : Int)).length : Int))), (12, .int .i64 ((k : Int)))] ∧ mm = mn - k ∧ (k ≤ mn) ∧ (ds.length = k) ∧ (ds ++ digitsL p (mn - k) ak = digitsL p mn a) ∧ (0 ≤ ak ∧ ak ≤ 9223372036854775807) ∧ w.grownBy w' none ∧ Bk w' g1 72 [.int .i64 (p), .int .i64 ((mn : Int)), pv] ∧ Bl iR 3 w' (w2.heap.size) (w8.heap.size) (.slice (some ⟨g7, 0, none⟩) mn mn) (ds ++ List.replicate (mn - k) (0 : Int))) (h0 := ⟨0, [], a, rfl, rfl, ?_, ?_, ?_, ?_, pw, hb5, hb11⟩) (hf := ⟨(by first | rfl | exact congrArg (Value.int _) (by omega) | go_num), (by first | rfl | exact congrArg (Value.int _) (by omega) | go_num), (by first | rfl | exact congrArg (Value.int _) (by omega) | go_num), (by first | rfl | exact congrArg (Value.int _) (by omega) | go_num), (by first | rfl | exact congrArg (Value.int _) (by omega) | go_num), (by first | rfl | exact congrArg (Value.int _) (by omega) | go_num), trivial⟩) ?_
  · omega
  · rfl
  · rfl
  · omega
  · skip
    rintro _ _ w13 s14 ⟨k, ds, ak, rfl, rfl, p1_1, p1_2, p1_3, p1_4, pw, hb5, hb11⟩
    refine wc_seq ?_
    refine wc_region ?_
    refine wl_v (st_lss rfl rfl) rfl rfl rfl ?_
    refine wl_nil ?_
    refine wq_then ?_
    refine wc_seq ?_
    refine wc_cond rfl ?_ ?_
    · intro h15
      have h15p : (k : Int) < ((List.replicate mn (0 : Int)).length : Int) := by first | simpa using h15 | (simp at h15; omega)
      refine wc_skip ?_
      refine wq_then ?_
      refine wc_seq ?_
      refine wc_block ?_
      refine wc_seq ?_
      refine wc_region ?_
      refine wl_v (st_move (v := .int .i64 ((k : Int))) rfl) rfl rfl rfl ?_
      refine wl_v (st_assign (v := .int .i64 ((k : Int))) rfl) rfl rfl rfl ?_
      refine wl_nil ?_
      refine wq_then ?_
      refine wc_seq ?_
      refine wc_region ?_
      refine wl_v (st_move (v := .slice (some ⟨g7, 0, none⟩) mn mn) rfl) rfl rfl rfl ?_
      refine wl_v (st_move (v := .int .i64 ((k : Int))) rfl) rfl rfl rfl ?_
      refine wl_v (st_move (v := .int .i64 (ak)) rfl) rfl rfl rfl ?_
      refine wl_v (st_fieldAddr ty72 (ft := 3) (off := 0) (by kernel_rfl) ty3 rfl) rfl rfl rfl ?_
      refine wl_v (st_load (v := .int .i64 (p)) ty3 rfl rfl (Bk.cell hb5 (i := 0) rfl)) rfl rfl rfl ?_
      refine wl_v (st_rem rfl rfl (by omega) (by omega)) rfl rfl rfl ?_
      have hbdg19 : (k : Int) < (((ds ++ List.replicate (mn - k) (0 : Int)).length : Nat) : Int) := (by rw [List.length_append, List.length_replicate]; omega)
      refine wl_e (st_idxB hb11 ty24 ty3 rfl rfl (by omega) hbdg19) rfl rfl rfl ?_
      rintro _ ⟨g19, rfl, hv18, hc16⟩
      try simp only [Int.toNat_natCast, Int.toNat_zero, Int.reduceToNat] at hc16 ⊢
      refine wl_storeB (q := ak % p) hb11 ty3 rfl hv18 (by omega) rfl (fun _ _ => rfl) ?_
      intro w20 hb21 hg22 hs23
      have hown := Bl.own hb11 hv18
      have pw := pu_row pw hg22 (by intro q hq hlt; simp at hq; omega)
      have hb5 := Bk.ch hb5 hg22 (by intro hq; have hlt := hb5.lt; simp at hq; omega)
      have hb11 := hb21
      try simp only [Int.toNat_natCast, Int.toNat_zero, Int.reduceToNat] at hb11
      refine wl_nil ?_
      refine wq_then ?_
      refine wc_region ?_
      refine wl_v (st_move (v := .int .i64 (ak)) rfl) rfl rfl rfl ?_
      refine wl_v (st_fieldAddr ty72 (ft := 3) (off := 0) (by kernel_rfl) ty3 rfl) rfl rfl rfl ?_
      refine wl_v (st_load (v := .int .i64 (p)) ty3 rfl rfl (Bk.cell hb5 (i := 0) rfl)) rfl rfl rfl ?_
      refine wl_v (st_quo rfl rfl (by omega) (by omega) (by omega)) rfl rfl rfl ?_
      refine wl_v (st_assign (v := .int .i64 (ak / p)) rfl) rfl rfl rfl ?_
      refine wl_nil ?_
      refine wq_block_normal ?_
      refine wq_then ?_
      refine wc_region ?_
      refine wl_v (st_add rfl rfl (by omega) (by omega)) rfl rfl rfl ?_
      refine wl_v (st_move (v := .int .i64 ((k : Int) + 1)) rfl) rfl rfl rfl ?_
      refine wl_nil ?_
      refine wq_round (hI := ⟨k + 1, ds ++ [ak % p], ak / p, rfl, rfl, ?_, ?_, ?_, ?_, pw, hb5, (set_step ds mn k 0 (ak % p) (by omega) (by omega) ▸ hb11)⟩) (hm := ?_) (hf := ?_) rfl rfl
      · omega
      · (simp; omega)
      · (rw [show mn - k = (mn - (k + 1)) + 1 by omega, digitsL] at p1_3; rw [← p1_3]; simp)
      · (have h1 := Int.ediv_nonneg p1_4.1 (show 0 ≤ p by omega); have h2 := Int.ediv_le_self p p1_4.1; omega)
      · omega
      · exact ⟨(by first | rfl | exact congrArg (Value.int _) (by omega) | go_num), (by first | rfl | exact congrArg (Value.int _) (by omega) | go_num), (by first | rfl | exact congrArg (Value.int _) (by omega) | go_num), (by first | rfl | exact congrArg (Value.int _) (by omega) | go_num), (by first | rfl | exact congrArg (Value.int _) (by omega) | go_num), (by first | rfl | exact congrArg (Value.int _) (by omega) | go_num), trivial⟩
    · intro h15
      have h15p : ¬ ((k : Int) < ((List.replicate mn (0 : Int)).length : Int)) := by first | simpa using h15 | (simp at h15; omega)
      refine wc_exit ?_
      refine wq_then_exit ?_
      refine wq_then_exit ?_
      refine wq_block_exit ?_
      refine wq_then ?_
      refine wc_seq ?_
      refine wc_region ?_
      refine wl_v (st_move (v := .slice (some ⟨g7, 0, none⟩) mn mn) rfl) rfl rfl rfl ?_
      refine wl_v (st_assign (v := .slice (some ⟨g7, 0, none⟩) mn mn) rfl) rfl rfl rfl ?_
      refine wl_nil ?_
      refine wq_then ?_
      refine wc_ret ?_
      refine wq_ret1 (v := .slice (some ⟨g7, 0, none⟩) mn mn) rfl rfl rfl ?_
      have hk : mn - k = 0 := by omega
      rw [hk, digitsL, List.append_nil] at p1_3
      have hb11 := hb11
      rw [hk, List.replicate_zero, List.append_nil, p1_3] at hb11
      exact ⟨pw, (hb11.top (Nat.le_refl _)).lower (by omega)⟩

set_option maxRecDepth 100000 in
theorem backward1 (sv : Value) (w : World) (ho : sv.oneCell' = true) : Ret Tryd.prog 105 #[sv] w fun v w' => w.grownBy w' none ∧ ∃ g, v = .func (.func 115) #[] #[.pointer (some ⟨g, 0, none⟩)] ∧ Bk w' g 24 [sv] ∧ w.heap.size ≤ g ∧ g < w'.heap.size := by
  refine ret_in Tryd.func105 rfl rfl rfl ?_
  have pw := pu_refl w
  refine wc_seq ?_
  refine wc_region ?_
  refine wl_boxK (v := sv) rfl ho rfl ?_
  intro w2 g1 hg3 hs4 hb5 hn6
  have pw := pu_trans pw hn6
  refine wl_v (st_assign (v := .nilFunc) rfl) rfl rfl rfl ?_
  refine wl_nil ?_
  refine wq_then ?_
  refine wc_seq ?_
  refine wc_region ?_
  refine wl_v (st_makeFunc (va := []) (vb := [.pointer (some ⟨g1, 0, none⟩)]) rfl rfl) rfl rfl rfl ?_
  refine wl_v (st_assign (v := .func (.func 115) #[] #[.pointer (some ⟨g1, 0, none⟩)]) rfl) rfl rfl rfl ?_
  refine wl_nil ?_
  refine wq_then ?_
  refine wc_ret ?_
  refine wq_ret1 (v := .func (.func 115) #[] #[.pointer (some ⟨g1, 0, none⟩)]) rfl rfl rfl ?_
  exact ⟨pw, _, rfl, hb5, by omega, Bk.lt hb5⟩

set_option maxRecDepth 100000 in
theorem backward2 (lp g : Nat) (sv : Value) (S : Nat → Prop) (xs : List Int) (w : World) (I : Nat → World → Prop) (h0 : I 0 w) (hkeep : ∀ k w, I k w → Bk w g 24 [sv] ∧ rI.R w S sv xs) (hy : ∀ k w, k < xs.length → I k w → Yd Tryd.prog lp [.int .i64 ((xs.length - 1 - k : Nat) : Int), .int .i64 (xs.getD (xs.length - 1 - k) 0)] w (I (k + 1))) : Ret Tryd.prog 115 #[.func (.yield lp) #[] #[], .pointer (some ⟨g, 0, none⟩)] w fun _ w' => True ∧ I xs.length w' := by
  refine ret_in Tryd.func115 rfl rfl rfl ?_
  obtain ⟨hbk, hx⟩ := hkeep 0 w h0
  have hlen := SlR.le hx
  refine wc_seq ?_
  refine wc_region ?_
  refine wl_v (st_load (v := sv) ty24 rfl rfl (Bk.cell hbk (i := 0) rfl)) rfl rfl rfl ?_
  refine wl_v (st_lenS hx ty24 rfl) rfl rfl rfl ?_
  refine wl_v (st_sub rfl rfl (by omega) (by omega)) rfl rfl rfl ?_
  refine wl_v (st_assign (v := .int .i64 (((xs).length : Int) - 1)) rfl) rfl rfl rfl ?_
  refine wl_nil ?_
  refine wq_then ?_
  refine wc_block ?_
  refine wc_loop (fun fl mm w' => ∃ k : Nat, fl = [(0, .func (.yield lp) #[] #[]), (1, .pointer (some ⟨g, 0, none⟩)), (3, .int .i64 ((xs.length : Int) - 1 - (k : Int)))] ∧ mm = xs.length - k ∧ (k ≤ xs.length) ∧ I k w') (h0 := ⟨0, rfl, rfl, ?_, h0⟩) (hf := ⟨(by first | rfl | exact congrArg (Value.int _) (by omega) | go_num), (by first | rfl | exact congrArg (Value.int _) (by omega) | go_num), (by first | rfl | exact congrArg (Value.int _) (by omega) | go_num), trivial⟩) ?_
  · omega
  · skip
    rintro _ _ w1 s2 ⟨k, rfl, rfl, p1_1, hI⟩
    obtain ⟨hbk, hx⟩ := hkeep _ _ hI
    refine wc_seq ?_
    refine wc_seq ?_
    refine wc_region ?_
    refine wl_v (st_move (v := .int .i64 ((xs.length : Int) - 1 - (k : Int))) rfl) rfl rfl rfl ?_
    refine wl_v (st_geq rfl rfl) rfl rfl rfl ?_
    refine wl_nil ?_
    refine wq_then ?_
    refine wc_cond rfl ?_ ?_
    · intro h3
      have h3p : 0 ≤ ((xs.length : Int) - 1 - (k : Int)) := by first | simpa using h3 | (simp at h3; omega)
      refine wc_skip ?_
      refine wq_then ?_
      refine wc_seq ?_
      refine wc_block ?_
      refine wc_seq ?_
      refine wc_region ?_
      refine wl_v (st_move (v := .func (.yield lp) #[] #[]) rfl) rfl rfl rfl ?_
      refine wl_v (st_move (v := .int .i64 ((xs.length : Int) - 1 - (k : Int))) rfl) rfl rfl rfl ?_
      refine wl_v (st_load (v := sv) ty24 rfl rfl (Bk.cell hbk (i := 0) rfl)) rfl rfl rfl ?_
      refine wl_v (st_move (v := .int .i64 ((xs.length : Int) - 1 - (k : Int))) rfl) rfl rfl rfl ?_
      refine wl_e (st_idxI hx ty24 ty3 rfl rfl (by omega) (by omega)) rfl rfl rfl ?_
      rintro _ ⟨a5, rfl, hc4⟩
      refine wl_v (st_load ty3 rfl rfl hc4) rfl rfl rfl ?_
      refine wl_yield (vs := [.int .i64 ((xs.length : Int) - 1 - (k : Int)), .int .i64 ((xs).getD ((xs.length : Int) - 1 - (k : Int)).toNat 0)]) rfl rfl rfl (by have h := hy k _ (by omega) hI; rw [show xs.getD (xs.length - 1 - k) 0 = xs.getD ((xs.length : Int) - 1 - (k : Int)).toNat 0 by congr 1; omega, show ((xs.length - 1 - k : Nat) : Int) = (xs.length : Int) - 1 - (k : Int) by omega] at h; exact h) ?_
      intro w6 hI
      obtain ⟨hbk, hx⟩ := hkeep _ _ hI
      refine wl_v (st_not rfl) rfl rfl rfl ?_
      refine wl_nil ?_
      refine wq_then ?_
      refine wc_false rfl ?_
      refine wc_skip ?_
      refine wq_block_normal ?_
      refine wq_then ?_
      refine wc_region ?_
      refine wl_v (st_move (v := .int .i64 ((xs.length : Int) - 1 - (k : Int))) rfl) rfl rfl rfl ?_
      refine wl_v (st_sub rfl rfl (by omega) (by omega)) rfl rfl rfl ?_
      refine wl_v (st_assign (v := .int .i64 (((xs.length : Int) - 1 - (k : Int)) - 1)) rfl) rfl rfl rfl ?_
      refine wl_nil ?_
      refine wq_round (hI := ⟨k + 1, rfl, rfl, ?_, hI⟩) (hm := ?_) (hf := ?_) rfl rfl
      · omega
      · omega
      · exact ⟨(by first | rfl | exact congrArg (Value.int _) (by omega) | go_num), (by first | rfl | exact congrArg (Value.int _) (by omega) | go_num), (by first | rfl | exact congrArg (Value.int _) (by omega) | go_num), trivial⟩
    · intro h3
      have h3p : ¬ (0 ≤ ((xs.length : Int) - 1 - (k : Int))) := by first | simpa using h3 | (simp at h3; omega)
      refine wc_exit ?_
      refine wq_then_exit ?_
      refine wq_then_exit ?_
      refine wq_block_exit ?_
      refine wq_end0 rfl rfl ?_
      have hk : k = xs.length := by omega
      subst hk
      exact ⟨trivial, hI⟩

set_option maxRecDepth 100000 in
theorem number_ok (p : Int) (mn : Nat) (pv d : Value) (xs : List Int) (S : Nat → Prop) (w : World) (hp : 2 ≤ p ∧ p ≤ 13) (hl : xs.length ≤ 4) (hx0 : ∀ x ∈ xs, 0 ≤ x ∧ x ≤ 100000) (hx : rI.R w S d xs) : Ret Tryd.prog 104 #[.agg #[.int .i64 p, .int .i64 (mn : Int), pv], d] w fun v w' => v = .int .i64 (numberL p xs) ∧ w.grownBy w' none := by
  refine ret_inM Tryd.func104 rfl rfl rfl ?_
  have pw := pu_refl w
  have hx : rI.R w (Lo w.heap.size) d xs := rI.mono (rI.lt hx) (fun b hb => hb.2)
  refine wc_seq ?_
  refine wc_region ?_
  refine wl_boxG (cs := [.int .i64 (p), .int .i64 ((mn : Int)), pv]) rfl rfl ?_
  intro w2 g1 hg3 hs4 hb5 hn6
  have pw := pu_trans pw hn6
  have hx := Rep.pu hx hn6
  refine wl_v (st_assign (v := .int .i64 (0)) rfl) rfl rfl rfl ?_
  refine wl_nil ?_
  refine wq_then ?_
  refine wc_seq ?_
  refine wc_region ?_
  refine wl_allocK (cs := [.int .i64 (0)]) ty3 rfl rfl ?_
  intro w8 g7 hg9 hs10 hb11 hn12
  have pw := pu_trans pw hn12
  have hx := Rep.pu hx hn12
  have hb5 := Bk.pu hb5 hn12
  refine wl_storeK (v := .int .i64 (0)) hb11 ty3 (i := 0) rfl (by simp) rfl rfl ?_
  intro w13 hb14 hg15 hs16
  have pw := pu_row pw hg15 (by intro q hq hlt; simp at hq; omega)
  have hx := Rep.ch hx hg15 (by intro q hq hlt; (try simp only [Lo, Iv]); simp at hq; omega)
  have hb5 := Bk.ch hb5 hg15 (by intro hq; have hlt := hb5.lt; simp at hq; omega)
  have hb11 := hb14
  refine wl_nil ?_
  refine wq_then ?_
  refine wc_seq ?_
  refine wc_seq ?_
  refine wc_region ?_
  refine wl_v (st_move (v := d) rfl) rfl rfl rfl ?_
  refine wl_call (vs := [d]) C105 rfl rfl (backward1 (d) _ (Rep.one _ hx)) ?_
  rintro _ w21 ⟨hn22, g17, rfl, hb18, hz19, hz20⟩
  have pw := pu_trans pw hn22
  have hx := Rep.pu hx hn22
  have hb5 := Bk.pu hb5 hn22
  have hb11 := Bk.pu hb11 hn22
  have hzw21 := World.grownBy.size hn22
  refine wl_nil ?_
  refine wq_then ?_
  refine wc_block ?_
  have hze1 := World.grownBy.size pw
  refine wc_rangeFunc (ps := [10, 11]) (first := []) (cap := [.pointer (some ⟨g17, 0, none⟩)]) rfl rfl C115 ?_
  intro wr1 lp1 RR1 hRR1 hlp1 hgr1 hsr1 hdr1 hrec1
  have hgl_hb5_1 : g1 < lp1 := by have := Bk.lt hb5; omega
  have hgl_hb11_1 : g7 < lp1 := by have := Bk.lt hb11; omega
  have hgl_hb18_1 : g17 < lp1 := by have := Bk.lt hb18; omega
  have pw := pu_trans pw hgr1
  have hx := Rep.pu hx hgr1
  have hb5 := Bk.pu hb5 hgr1
  have hb11 := Bk.pu hb11 hgr1
  have hb18 := Bk.pu hb18 hgr1
  have hmk : Mk wr1 w21.heap.size lp1 [mark w21.heap.size] := ⟨_, by omega, by omega, rfl, hdr1, trivial⟩
  refine Ret.mono (backward2 lp1 g17 (d) (Lo w.heap.size) (xs) _ (fun (kk : Nat) (w' : World) => ∃ nn : Int, (nn = numberL p (xs.drop (xs.length - kk))) ∧ RR1 .ready w' ∧ w.grownBy w' none ∧ rI.R w' (Lo w.heap.size) (d) (xs) ∧ Bk w' g1 72 [.int .i64 (p), .int .i64 ((mn : Int)), pv] ∧ Bk w' g7 3 [.int .i64 (nn)] ∧ Bk w' g17 24 [d] ∧ Mk w' (w21.heap.size) (lp1) ([mark w21.heap.size])) ?h01 ?keep1 ?yd1) ?rest1
  case h01 =>
    refine ⟨0, ?_, hrec1, pw, hx, hb5, hb11, hb18, hmk⟩
    · (simp [numberL])
  case keep1 =>
    rintro kk w' ⟨nn, q1_1, hrec1, pw, hx, hb5, hb11, hb18, hmk⟩
    exact ⟨hb18, hx⟩
  case yd1 =>
    rintro kk w23 hkk ⟨nn, q1_1, hrec1, pw, hx, hb5, hb11, hb18, hmk⟩
    refine yd_of hRR1 hrec1 rfl rfl ?_
    have hnb := numberL_bd p hp (xs.drop (xs.length - kk))
    have hpw := pow_le4 p hp (xs.drop (xs.length - kk)).length (by simp; omega)
    rw [← q1_1] at hnb
    have hm := mul_bd hnb.1 (show nn ≤ 28561 by omega) (show 0 ≤ p by omega) hp.2
    have hxk := hx0 _ (getD_mem xs (xs.length - 1 - kk) (by omega))
    have hr1 := Int.emod_nonneg (xs.getD (xs.length - 1 - kk) 0) (show p ≠ 0 by omega)
    have hr2 := Int.emod_lt_of_pos (xs.getD (xs.length - 1 - kk) 0) (show 0 < p by omega)
    refine wc_region ?_
    refine wl_v (st_assign (v := .int .i64 ((xs).getD ((xs).length - 1 - kk) 0)) rfl) rfl rfl rfl ?_
    refine wl_nil ?_
    refine wq_begin hRR1 hrec1 rfl ?_
    intro w24 hg25 hs26 hrec1
    have pw := pu_row pw hg25 (by intro q hq hlt; injection hq with hq; omega)
    have hx := Rep.ch hx hg25 (by intro q hq hlt; injection hq with hq; (try simp only [Lo, Iv]); omega)
    have hb5 := Bk.ch hb5 hg25 (by intro hq; injection hq with hq; omega)
    have hb11 := Bk.ch hb11 hg25 (by intro hq; injection hq with hq; omega)
    have hb18 := Bk.ch hb18 hg25 (by intro hq; injection hq with hq; omega)
    have hmk := Mk.ch hmk hg25 (by intro q hq hlt; injection hq with hq; left; omega)
    refine wc_block ?_
    refine wc_region_mix (fun w' => (w24.drew).grownBy w' none) (fun k => (false) || Nat.ble 9 k) 9 (by kernel_rfl) (by kernel_rfl) (by kernel_rfl) ?_
    obtain ⟨w27, ew27⟩ : ∃ q, q = w24.drew := ⟨_, rfl⟩
    rw [← ew27]
    have hn28 : w24.grownBy w27 none := by rw [ew27]; exact ch_drew _
    have hsw27 : w27.heap.size = w24.heap.size := by rw [ew27]; rfl
    clear ew27
    have pw := pu_trans pw hn28
    have hx := Rep.pu hx hn28
    have hb5 := Bk.pu hb5 hn28
    have hb11 := Bk.pu hb11 hn28
    have hb18 := Bk.pu hb18 hn28
    have hmk := Mk.pu hmk hn28
    have hrec1 := RRpu hRR1 hrec1 hn28
    have pc29 := pu_refl w27
    refine wm_v rfl (fun _ => pc29) (fun w' hw' => (st_load (v := .int .i64 (nn)) ty3 rfl rfl (Bk.cell (Bk.pu hb11 hw') (i := 0) rfl))) rfl rfl rfl ?_
    refine wm_v rfl (fun _ => pc29) (fun w' hw' => (st_fieldAddr ty72 (ft := 3) (off := 0) (by kernel_rfl) ty3 rfl)) rfl rfl rfl ?_
    refine wm_v rfl (fun _ => pc29) (fun w' hw' => (st_load (v := .int .i64 (p)) ty3 rfl rfl (Bk.cell (Bk.pu hb5 hw') (i := 0) rfl))) rfl rfl rfl ?_
    refine wm_v rfl (fun _ => pc29) (fun w' hw' => (st_mul rfl rfl (by omega) (by omega))) rfl rfl rfl ?_
    refine wm_v rfl (fun _ => pc29) (fun w' hw' => (st_move (v := .int .i64 ((xs).getD ((xs).length - 1 - kk) 0)) rfl)) rfl rfl rfl ?_
    refine wm_v rfl (fun _ => pc29) (fun w' hw' => (st_fieldAddr ty72 (ft := 3) (off := 0) (by kernel_rfl) ty3 rfl)) rfl rfl rfl ?_
    refine wm_v rfl (fun _ => pc29) (fun w' hw' => (st_load (v := .int .i64 (p)) ty3 rfl rfl (Bk.cell (Bk.pu hb5 hw') (i := 0) rfl))) rfl rfl rfl ?_
    refine wm_v rfl (fun _ => pc29) (fun w' hw' => (st_rem rfl rfl (by omega) (by omega))) rfl rfl rfl ?_
    refine wm_v rfl (fun _ => pc29) (fun w' hw' => (st_add rfl rfl (by omega) (by omega))) rfl rfl rfl ?_
    refine wm_tail (by decide) (fun _ => pc29) (fun j hj => by have hb : Nat.ble 9 j = true := (by rw [Nat.ble_eq]; omega); simp [hb]) ?_
    refine wl_storeK (v := .int .i64 ((nn * p) + (((xs).getD ((xs).length - 1 - kk) 0) % p))) hb11 ty3 (i := 0) rfl (by simp) rfl rfl ?_
    intro w30 hb31 hg32 hs33
    have pw := pu_row pw hg32 (by intro q hq hlt; simp at hq; omega)
    have hx := Rep.ch hx hg32 (by intro q hq hlt; (try simp only [Lo, Iv]); simp at hq; omega)
    have hb5 := Bk.ch hb5 hg32 (by intro hq; have hlt := hb5.lt; simp at hq; omega)
    have hb18 := Bk.ch hb18 hg32 (by intro hq; have hlt := hb18.lt; simp at hq; omega)
    have hmk := Mk.ch hmk hg32 (by intro q hq hlt; simp at hq; omega)
    have hrec1 := RRch hRR1 hrec1 hg32 (by intro hq; simp at hq; omega)
    have hb11 := hb31
    refine wt_nil ?_
    refine wq_block_normal ?_
    refine wq_roundEnd hRR1 hrec1 ?_
    intro w34 hg35 hs36 hrec1
    have pw := pu_row pw hg35 (by intro q hq hlt; injection hq with hq; omega)
    have hx := Rep.ch hx hg35 (by intro q hq hlt; injection hq with hq; (try simp only [Lo, Iv]); omega)
    have hb5 := Bk.ch hb5 hg35 (by intro hq; injection hq with hq; omega)
    have hb11 := Bk.ch hb11 hg35 (by intro hq; injection hq with hq; omega)
    have hb18 := Bk.ch hb18 hg35 (by intro hq; injection hq with hq; omega)
    have hmk := Mk.ch hmk hg35 (by intro q hq hlt; injection hq with hq; left; omega)
    refine ⟨(nn * p + xs.getD (xs.length - 1 - kk) 0 % p), ?_, hrec1, pw, hx, hb5, hb11, hb18, hmk⟩
    · (rw [numberL_drop p xs (xs.length - (kk + 1)) (by omega), show xs.length - (kk + 1) + 1 = xs.length - kk by omega, ← q1_1, show xs.length - (kk + 1) = xs.length - 1 - kk by omega])
  case rest1 =>
    rintro _ w37 ⟨-, hIr⟩
    obtain ⟨kk, hkn, nn, q1_1, hrec1, pw, hx, hb5, hb11, hb18, hmk⟩ : ∃ kk : Nat, kk = (xs).length ∧ (fun (kk : Nat) (w' : World) => ∃ nn : Int, (nn = numberL p (xs.drop (xs.length - kk))) ∧ RR1 .ready w' ∧ w.grownBy w' none ∧ rI.R w' (Lo w.heap.size) (d) (xs) ∧ Bk w' g1 72 [.int .i64 (p), .int .i64 ((mn : Int)), pv] ∧ Bk w' g7 3 [.int .i64 (nn)] ∧ Bk w' g17 24 [d] ∧ Mk w' (w21.heap.size) (lp1) ([mark w21.heap.size])) kk w37 := ⟨_, rfl, hIr⟩
    refine ⟨hrec1, ?_⟩
    intro w38 hg39 hs40
    have pw := pu_row pw hg39 (by intro q hq hlt; injection hq with hq; omega)
    have hx := Rep.ch hx hg39 (by intro q hq hlt; injection hq with hq; (try simp only [Lo, Iv]); omega)
    have hb5 := Bk.ch hb5 hg39 (by intro hq; injection hq with hq; omega)
    have hb11 := Bk.ch hb11 hg39 (by intro hq; injection hq with hq; omega)
    have hb18 := Bk.ch hb18 hg39 (by intro hq; injection hq with hq; omega)
    have hmk := Mk.ch hmk hg39 (by intro q hq hlt; injection hq with hq; left; omega)
    refine wq_block_normal ?_
    refine wq_then ?_
    refine wc_seq ?_
    refine wc_region ?_
    refine wl_v (st_load (v := .int .i64 (nn)) ty3 rfl rfl (Bk.cell hb11 (i := 0) rfl)) rfl rfl rfl ?_
    refine wl_v (st_assign (v := .int .i64 (nn)) rfl) rfl rfl rfl ?_
    refine wl_nil ?_
    refine wq_then ?_
    refine wc_ret ?_
    have hzw := World.grownBy.size pw
    refine wq_ret1M (v := .int .i64 (nn)) rfl hmk rfl ?_
    intro w41 hb42
    have pw := pu_below2 pw hb42 (by omega)
    have hx := Rep.belowS hx hb42 (by intro b hb1 hb2; simp only [Lo, Iv] at hb1; omega)
    exact ⟨congrArg (Value.int .i64) (by rw [q1_1, hkn, Nat.sub_self, List.drop_zero]), pw⟩

set_option maxRecDepth 100000 in
theorem add_ok (p a b : Int) (mn : Nat) (pv : Value) (w : World) (hp : 2 ≤ p ∧ p ≤ 13) (hm : mn ≤ 4) (ha : 0 ≤ a ∧ a ≤ 9223372036854775807) (hb : 0 ≤ b ∧ b ≤ 9223372036854775807) : Ret Tryd.prog 57 #[.agg #[.int .i64 p, .int .i64 (mn : Int), pv], .int .i64 a, .int .i64 b] w fun v w' => v = .int .i64 (addL p mn a b) ∧ w.grownBy w' none := by
  refine ret_in Tryd.func57 rfl rfl rfl ?_
  have pw := pu_refl w
  refine wc_seq ?_
  refine wc_region ?_
  refine wl_boxG (cs := [.int .i64 (p), .int .i64 ((mn : Int)), pv]) rfl rfl ?_
  intro w2 g1 hg3 hs4 hb5 hn6
  have pw := pu_trans pw hn6
  refine wl_v (st_assign (v := .int .i64 (0)) rfl) rfl rfl rfl ?_
  refine wl_nil ?_
  refine wq_then ?_
  refine wc_seq ?_
  refine wc_region_mix (fun w' => (w2.drew).grownBy w' none) (fun k => (false || Nat.beq k 2 || Nat.beq k 5) || Nat.ble 8 k) 8 (by kernel_rfl) (by kernel_rfl) (by kernel_rfl) ?_
  obtain ⟨w7, ew7⟩ : ∃ q, q = w2.drew := ⟨_, rfl⟩
  rw [← ew7]
  have hn8 : w2.grownBy w7 none := by rw [ew7]; exact ch_drew _
  have hsw7 : w7.heap.size = w2.heap.size := by rw [ew7]; rfl
  clear ew7
  have pw := pu_trans pw hn8
  have hb5 := Bk.pu hb5 hn8
  have pc9 := pu_refl w7
  refine wm_v rfl (fun _ => pc9) (fun w' hw' => (st_loadAgg (cs := [.int .i64 (p), .int .i64 ((mn : Int)), pv]) ty72 rfl rfl rfl (Bk.cells (Bk.pu hb5 hw')))) rfl rfl rfl ?_
  refine wm_v rfl (fun _ => pc9) (fun w' hw' => (st_move (v := .int .i64 (a)) rfl)) rfl rfl rfl ?_
  refine wm_call (vs := [.agg #[.int .i64 (p), .int .i64 ((mn : Int)), pv], .int .i64 (a)]) rfl (fun _ => pc9) C103 rfl rfl (digits_ok (p) (a) (mn) (pv) _ (by omega) (by omega) (by omega)) ?_
  rintro v11 w12 ⟨hn13, hd10⟩
  have pc9 := hn13
  have hzw12 := World.grownBy.size hn13
  refine wm_v rfl (fun _ => pc9) (fun w' hw' => (st_loadAgg (cs := [.int .i64 (p), .int .i64 ((mn : Int)), pv]) ty72 rfl rfl rfl (Bk.cells (Bk.pu hb5 hw')))) rfl rfl rfl ?_
  refine wm_v rfl (fun _ => pc9) (fun w' hw' => (st_move (v := .int .i64 (b)) rfl)) rfl rfl rfl ?_
  refine wm_call (vs := [.agg #[.int .i64 (p), .int .i64 ((mn : Int)), pv], .int .i64 (b)]) rfl (fun _ => pc9) C103 rfl rfl (digits_ok (p) (b) (mn) (pv) _ (by omega) (by omega) (by omega)) ?_
  rintro v15 w16 ⟨hn17, hd14⟩
  have pc9 := pu_trans pc9 hn17
  have hd10 := Bl.pu hd10 hn17
  have hzw16 := World.grownBy.size hn17
  refine wm_v rfl (fun _ => pc9) (fun w' hw' => (st_assign (v := v11) rfl)) rfl rfl rfl ?_
  refine wm_v rfl (fun _ => pc9) (fun w' hw' => (st_assign (v := v15) rfl)) rfl rfl rfl ?_
  refine wm_nil (fun _ => pc9) ?_
  have pw := pu_trans pw pc9
  have hb5 := Bk.pu hb5 pc9
  refine wq_then ?_
  refine wc_seq ?_
  refine wc_seq ?_
  refine wc_region ?_
  refine wl_v (st_move (v := v11) rfl) rfl rfl rfl ?_
  refine wl_v (st_lenS (Bl.sl hd10) ty24 rfl) rfl rfl rfl ?_
  refine wl_v (st_move (v := .int .i64 (0)) rfl) rfl rfl rfl ?_
  refine wl_nil ?_
  refine wq_then ?_
  refine wc_block ?_
  have hl := digitsL_len p mn a
  have hl2 := digitsL_len p mn b
  refine wc_loop (fun fl mm w' => ∃ k : Nat, fl = [(3, .pointer (some ⟨g1, 0, none⟩)), (6, .int .i64 (0)), (7, v11), (8, v15), (17, .int .i64 (((digitsL (p) (mn) (a)).length : Int))), (18, .int .i64 ((k : Int)))] ∧ mm = mn - k ∧ (k ≤ mn) ∧ w.grownBy w' none ∧ Bk w' g1 72 [.int .i64 (p), .int .i64 ((mn : Int)), pv] ∧ Bl iR 3 w' (w7.heap.size) (w12.heap.size) (v11) (addGo (digitsL p mn a) (digitsL p mn b) k) ∧ Bl iR 3 w' (w12.heap.size) (w16.heap.size) (v15) (digitsL (p) (mn) (b))) (h0 := ⟨0, rfl, rfl, ?_, pw, hb5, (by rw [addGo_zero]; exact hd10), hd14⟩) (hf := ⟨(by first | rfl | exact congrArg (Value.int _) (by omega) | go_num), (by first | rfl | exact congrArg (Value.int _) (by omega) | go_num), (by first | rfl | exact congrArg (Value.int _) (by omega) | go_num), (by first | rfl | exact congrArg (Value.int _) (by omega) | go_num), (by first | rfl | exact congrArg (Value.int _) (by omega) | go_num), (by first | rfl | exact congrArg (Value.int _) (by omega) | go_num), trivial⟩) ?_
  · omega
  · skip
    rintro _ _ w18 s19 ⟨k, rfl, rfl, p1_1, pw, hb5, hd10, hd14⟩
    refine wc_seq ?_
    refine wc_region ?_
    refine wl_v (st_lss rfl rfl) rfl rfl rfl ?_
    refine wl_nil ?_
    refine wq_then ?_
    refine wc_seq ?_
    refine wc_cond rfl ?_ ?_
    · intro h20
      have h20p : (k : Int) < ((digitsL (p) (mn) (a)).length : Int) := by first | simpa using h20 | (simp at h20; omega)
      refine wc_skip ?_
      refine wq_then ?_
      refine wc_seq ?_
      refine wc_block ?_
      refine wc_seq ?_
      refine wc_region ?_
      refine wl_v (st_move (v := .int .i64 ((k : Int))) rfl) rfl rfl rfl ?_
      refine wl_v (st_assign (v := .int .i64 ((k : Int))) rfl) rfl rfl rfl ?_
      refine wl_nil ?_
      refine wq_then ?_
      refine wc_region_mix (fun w' => (w18.drew).grownBy w' none) (fun k => (false) || Nat.ble 10 k) 10 (by kernel_rfl) (by kernel_rfl) (by kernel_rfl) ?_
      obtain ⟨w21, ew21⟩ : ∃ q, q = w18.drew := ⟨_, rfl⟩
      rw [← ew21]
      have hn22 : w18.grownBy w21 none := by rw [ew21]; exact ch_drew _
      have hsw21 : w21.heap.size = w18.heap.size := by rw [ew21]; rfl
      clear ew21
      have pw := pu_trans pw hn22
      have hb5 := Bk.pu hb5 hn22
      have hd10 := Bl.pu hd10 hn22
      have hd14 := Bl.pu hd14 hn22
      have pc23 := pu_refl w21
      refine wm_v rfl (fun _ => pc23) (fun w' hw' => (st_move (v := v11) rfl)) rfl rfl rfl ?_
      refine wm_v rfl (fun _ => pc23) (fun w' hw' => (st_move (v := .int .i64 ((k : Int))) rfl)) rfl rfl rfl ?_
      have hbdg27 : (k : Int) < (((addGo (digitsL p mn a) (digitsL p mn b) k).length : Nat) : Int) := (by have h1 := addD_len p mn a b k (by omega); omega)
      refine wm_e rfl (fun _ => pc23) (st_idxB hd10 ty24 ty3 rfl rfl (by omega) hbdg27) rfl rfl rfl ?_
      rintro _ ⟨g27, rfl, hv26, hc24⟩
      try simp only [Int.toNat_natCast, Int.toNat_zero, Int.reduceToNat] at hc24 ⊢
      refine wm_v rfl (fun _ => pc23) (fun w' hw' => (st_load ty3 rfl rfl (cell_pu hw' hc24))) rfl rfl rfl ?_
      refine wm_v rfl (fun _ => pc23) (fun w' hw' => (st_move (v := v15) rfl)) rfl rfl rfl ?_
      refine wm_v rfl (fun _ => pc23) (fun w' hw' => (st_move (v := .int .i64 ((k : Int))) rfl)) rfl rfl rfl ?_
      refine wm_e rfl (fun _ => pc23) (st_idxI (Bl.sl hd14) ty24 ty3 rfl rfl (by omega) (by omega)) rfl rfl rfl ?_
      rintro _ ⟨a29, rfl, hc28⟩
      simp only [Int.toNat_natCast] at hc28
      refine wm_v rfl (fun _ => pc23) (fun w' hw' => (st_load ty3 rfl rfl (cell_pu hw' hc28))) rfl rfl rfl ?_
      refine wm_v rfl (fun _ => pc23) (fun w' hw' => (st_add rfl rfl (by have h1 := addD_getD p mn a b k (by omega); have h2 := digitsL_at p hp mn a k (by omega); have h3 := digitsL_at p hp mn b k (by omega); omega) (by have h1 := addD_getD p mn a b k (by omega); have h2 := digitsL_at p hp mn a k (by omega); have h3 := digitsL_at p hp mn b k (by omega); omega))) rfl rfl rfl ?_
      have hbdg33 : (k : Int) < (((addGo (digitsL p mn a) (digitsL p mn b) k).length : Nat) : Int) := (by have h1 := addD_len p mn a b k (by omega); omega)
      refine wm_e rfl (fun _ => pc23) (st_idxB hd10 ty24 ty3 rfl rfl (by omega) hbdg33) rfl rfl rfl ?_
      rintro _ ⟨g33, rfl, hv32, hc30⟩
      try simp only [Int.toNat_natCast, Int.toNat_zero, Int.reduceToNat] at hc30 ⊢
      refine wm_tail (by decide) (fun _ => pc23) (fun j hj => by have hb : Nat.ble 10 j = true := (by rw [Nat.ble_eq]; omega); simp [hb]) ?_
      refine wl_storeB (q := ((addGo (digitsL p mn a) (digitsL p mn b) k).getD k 0) + ((digitsL (p) (mn) (b)).getD k 0)) hd10 ty3 rfl hv32 (by omega) rfl (fun _ _ => rfl) ?_
      intro w34 hb35 hg36 hs37
      have hown := Bl.own hd10 hv32
      have pw := pu_row pw hg36 (by intro q hq hlt; simp at hq; omega)
      have hb5 := Bk.ch hb5 hg36 (by intro hq; have hlt := hb5.lt; simp at hq; omega)
      have hd14 := Bl.ch hd14 hg36 (by intro q hq hlt; simp at hq; omega)
      have hd10 := hb35
      try simp only [Int.toNat_natCast, Int.toNat_zero, Int.reduceToNat] at hd10
      refine wt_nil ?_
      refine wq_block_normal ?_
      refine wq_then ?_
      refine wc_region ?_
      refine wl_v (st_add rfl rfl (by omega) (by omega)) rfl rfl rfl ?_
      refine wl_v (st_move (v := .int .i64 ((k : Int) + 1)) rfl) rfl rfl rfl ?_
      refine wl_nil ?_
      refine wq_round (hI := ⟨k + 1, rfl, rfl, ?_, pw, hb5, (addD_set p mn a b k (by omega) ▸ hd10), hd14⟩) (hm := ?_) (hf := ?_) rfl rfl
      · omega
      · omega
      · exact ⟨(by first | rfl | exact congrArg (Value.int _) (by omega) | go_num), (by first | rfl | exact congrArg (Value.int _) (by omega) | go_num), (by first | rfl | exact congrArg (Value.int _) (by omega) | go_num), (by first | rfl | exact congrArg (Value.int _) (by omega) | go_num), (by first | rfl | exact congrArg (Value.int _) (by omega) | go_num), (by first | rfl | exact congrArg (Value.int _) (by omega) | go_num), trivial⟩
    · intro h20
      have h20p : ¬ ((k : Int) < ((digitsL (p) (mn) (a)).length : Int)) := by first | simpa using h20 | (simp at h20; omega)
      refine wc_exit ?_
      refine wq_then_exit ?_
      refine wq_then_exit ?_
      refine wq_block_exit ?_
      refine wq_then ?_
      refine wc_seq ?_
      refine wc_region ?_
      refine wl_v (st_loadAgg (cs := [.int .i64 (p), .int .i64 ((mn : Int)), pv]) ty72 rfl rfl rfl (Bk.cells hb5)) rfl rfl rfl ?_
      refine wl_v (st_move (v := v11) rfl) rfl rfl rfl ?_
      refine wl_call (vs := [.agg #[.int .i64 (p), .int .i64 ((mn : Int)), pv], v11]) C104 rfl rfl (number_ok (p) (mn) (pv) _ _ _ _ (by omega) (by rw [addD_len p mn a b k (by omega)]; omega) (addD_bd p hp mn a b k) (Bl.sl hd10)) ?_
      rintro _ w38 ⟨rfl, hn39⟩
      have pw := pu_trans pw hn39
      have hb5 := Bk.pu hb5 hn39
      have hd10 := Bl.pu hd10 hn39
      have hd14 := Bl.pu hd14 hn39
      have hzw38 := World.grownBy.size hn39
      refine wl_v (st_assign (v := .int .i64 (numberL (p) (addGo (digitsL p mn a) (digitsL p mn b) k))) rfl) rfl rfl rfl ?_
      refine wl_nil ?_
      refine wq_then ?_
      refine wc_ret ?_
      refine wq_ret1 (v := .int .i64 (numberL (p) (addGo (digitsL p mn a) (digitsL p mn b) k))) rfl rfl rfl ?_
      have hk : k = mn := by omega
      subst hk
      have he := addGo_all (digitsL p k a) (digitsL p k b) (by rw [digitsL_len, digitsL_len])
      rw [digitsL_len] at he
      exact ⟨congrArg (Value.int .i64) (by rw [he]; rfl), pw⟩

set_option maxRecDepth 100000 in
theorem mul_ok (p a b : Int) (mn : Nat) (pv : Value) (pl : List Int) (S : Nat → Prop) (w : World) (hp : 2 ≤ p ∧ p ≤ 13) (hm : 1 ≤ mn ∧ mn ≤ 4) (ha : 0 ≤ a ∧ a ≤ 1000) (hb : 0 ≤ b ∧ b ≤ 1000) (hpl : pl.length = mn) (hpb : ∀ x ∈ pl, 0 ≤ x ∧ x ≤ 12) (hpv : rI.R w S pv pl) : Ret Tryd.prog 58 #[.agg #[.int .i64 p, .int .i64 (mn : Int), pv], .int .i64 a, .int .i64 b] w fun v w' => v = .int .i64 (mulL p mn pl a b) ∧ w.grownBy w' none := by
  refine ret_inM Tryd.func58 rfl rfl rfl ?_
  have pw := pu_refl w
  have hpv : rI.R w (Lo w.heap.size) pv pl := rI.mono (rI.lt hpv) (fun b hb => hb.2)
  have hab := mul_bd ha.1 ha.2 hb.1 hb.2
  refine wc_seq ?_
  refine wc_region ?_
  refine wl_boxG (cs := [.int .i64 (p), .int .i64 ((mn : Int)), pv]) rfl rfl ?_
  intro w2 g1 hg3 hs4 hb5 hn6
  have pw := pu_trans pw hn6
  have hpv := Rep.pu hpv hn6
  refine wl_v (st_assign (v := .int .i64 (0)) rfl) rfl rfl rfl ?_
  refine wl_nil ?_
  refine wq_then ?_
  refine wc_seq ?_
  refine wc_seq ?_
  refine wc_region ?_
  refine wl_v (st_fieldAddr ty72 (ft := 3) (off := 1) (by kernel_rfl) ty3 rfl) rfl rfl rfl ?_
  refine wl_v (st_load (v := .int .i64 ((mn : Int))) ty3 rfl rfl (Bk.cell hb5 (i := 1) rfl)) rfl rfl rfl ?_
  refine wl_v (st_eql rfl rfl) rfl rfl rfl ?_
  refine wl_nil ?_
  refine wq_then ?_
  refine wc_cond rfl ?_ ?_
  · intro h7
    have h7p : (mn : Int) = 1 := by first | simpa using h7 | (simp at h7; omega)
    refine wc_seq ?_
    refine wc_region ?_
    refine wl_v (st_move (v := .int .i64 (a)) rfl) rfl rfl rfl ?_
    refine wl_v (st_move (v := .int .i64 (b)) rfl) rfl rfl rfl ?_
    refine wl_v (st_mul rfl rfl (by omega) (by omega)) rfl rfl rfl ?_
    refine wl_v (st_fieldAddr ty72 (ft := 3) (off := 0) (by kernel_rfl) ty3 rfl) rfl rfl rfl ?_
    refine wl_v (st_load (v := .int .i64 (p)) ty3 rfl rfl (Bk.cell hb5 (i := 0) rfl)) rfl rfl rfl ?_
    refine wl_v (st_rem rfl rfl (by omega) (by omega)) rfl rfl rfl ?_
    refine wl_v (st_assign (v := .int .i64 ((a * b) % p)) rfl) rfl rfl rfl ?_
    refine wl_nil ?_
    refine wq_then ?_
    refine wc_ret ?_
    refine wq_then_ret ?_
    have hmk := Mk.nil w2 w2.heap.size 0
    have hzw := World.grownBy.size pw
    refine wq_ret1M (v := .int .i64 ((a * b) % p)) rfl hmk rfl ?_
    intro w8 hb9
    have pw := pu_below2 pw hb9 (by omega)
    have hpv := Rep.belowS hpv hb9 (by intro b hb1 hb2; simp only [Lo, Iv] at hb1; omega)
    exact ⟨congrArg (Value.int .i64) (by rw [mulL, if_pos (by omega)]), pw⟩
  · intro h7
    have h7p : ¬ ((mn : Int) = 1) := by first | simpa using h7 | (simp at h7; omega)
    refine wc_skip ?_
    refine wq_then ?_
    refine wc_seq ?_
    refine wc_region ?_
    refine wl_v (st_loadAgg (cs := [.int .i64 (p), .int .i64 ((mn : Int)), pv]) ty72 rfl rfl rfl (Bk.cells hb5)) rfl rfl rfl ?_
    refine wl_v (st_move (v := .int .i64 (a)) rfl) rfl rfl rfl ?_
    refine wl_call (vs := [.agg #[.int .i64 (p), .int .i64 ((mn : Int)), pv], .int .i64 (a)]) C103 rfl rfl (digits_ok (p) (a) (mn) (pv) _ (by omega) (by omega) (by omega)) ?_
    rintro v11 w12 ⟨hn13, hd10⟩
    have pw := pu_trans pw hn13
    have hpv := Rep.pu hpv hn13
    have hb5 := Bk.pu hb5 hn13
    have hzw12 := World.grownBy.size hn13
    refine wl_allocK (cs := [.slice none 0 0]) ty24 rfl rfl ?_
    intro w15 g14 hg16 hs17 hb18 hn19
    have pw := pu_trans pw hn19
    have hpv := Rep.pu hpv hn19
    have hb5 := Bk.pu hb5 hn19
    have hd10 := Bl.pu hd10 hn19
    refine wl_storeK (v := v11) hb18 ty24 (i := 0) rfl (by simp) rfl (Rep.one _ (Bl.sl hd10)) ?_
    intro w20 hb21 hg22 hs23
    have pw := pu_row pw hg22 (by intro q hq hlt; simp at hq; omega)
    have hpv := Rep.ch hpv hg22 (by intro q hq hlt; (try simp only [Lo, Iv]); simp at hq; omega)
    have hb5 := Bk.ch hb5 hg22 (by intro hq; have hlt := hb5.lt; simp at hq; omega)
    have hd10 := Bl.ch hd10 hg22 (by intro q hq hlt; simp at hq; omega)
    have hb18 := hb21
    refine wl_nil ?_
    refine wq_then ?_
    refine wc_seq ?_
    refine wc_region ?_
    refine wl_v (st_fieldAddr ty72 (ft := 3) (off := 1) (by kernel_rfl) ty3 rfl) rfl rfl rfl ?_
    refine wl_v (st_load (v := .int .i64 ((mn : Int))) ty3 rfl rfl (Bk.cell hb5 (i := 1) rfl)) rfl rfl rfl ?_
    refine wl_makeB (r := iR) (0 : Int) ty24 ty3 rfl (fun _ => rfl) rfl rfl (by omega) (by omega) rfl ?_
    intro w25 g24 hg26 hs27 hb28 hn29
    simp only [Int.toNat_natCast] at hb28 ⊢
    have hlog24 : g24 < w25.heap.size := by omega
    have pw := pu_trans pw hn29
    have hpv := Rep.pu hpv hn29
    have hb5 := Bk.pu hb5 hn29
    have hd10 := Bl.pu hd10 hn29
    have hb18 := Bk.pu hb18 hn29
    refine wl_allocK (cs := [.slice none 0 0]) ty24 rfl rfl ?_
    intro w31 g30 hg32 hs33 hb34 hn35
    have pw := pu_trans pw hn35
    have hpv := Rep.pu hpv hn35
    have hb5 := Bk.pu hb5 hn35
    have hd10 := Bl.pu hd10 hn35
    have hb18 := Bk.pu hb18 hn35
    have hb28 := Bl.pu hb28 hn35
    refine wl_storeK (v := .slice (some ⟨g24, 0, none⟩) mn mn) hb34 ty24 (i := 0) rfl (by simp) rfl (Rep.one _ (Bl.sl hb28)) ?_
    intro w36 hb37 hg38 hs39
    have pw := pu_row pw hg38 (by intro q hq hlt; simp at hq; omega)
    have hpv := Rep.ch hpv hg38 (by intro q hq hlt; (try simp only [Lo, Iv]); simp at hq; omega)
    have hb5 := Bk.ch hb5 hg38 (by intro hq; have hlt := hb5.lt; simp at hq; omega)
    have hd10 := Bl.ch hd10 hg38 (by intro q hq hlt; simp at hq; omega)
    have hb18 := Bk.ch hb18 hg38 (by intro hq; have hlt := hb18.lt; simp at hq; omega)
    have hb28 := Bl.ch hb28 hg38 (by intro q hq hlt; simp at hq; omega)
    have hb34 := hb37
    refine wl_nil ?_
    refine wq_then ?_
    refine wc_seq ?_
    refine wc_seq ?_
    refine wc_region ?_
    refine wl_v (st_loadAgg (cs := [.int .i64 (p), .int .i64 ((mn : Int)), pv]) ty72 rfl rfl rfl (Bk.cells hb5)) rfl rfl rfl ?_
    refine wl_v (st_move (v := .int .i64 (b)) rfl) rfl rfl rfl ?_
    refine wl_call (vs := [.agg #[.int .i64 (p), .int .i64 ((mn : Int)), pv], .int .i64 (b)]) C103 rfl rfl (digits_ok (p) (b) (mn) (pv) _ (by omega) (by omega) (by omega)) ?_
    rintro v41 w42 ⟨hn43, hd40⟩
    have pw := pu_trans pw hn43
    have hpv := Rep.pu hpv hn43
    have hb5 := Bk.pu hb5 hn43
    have hd10 := Bl.pu hd10 hn43
    have hb18 := Bk.pu hb18 hn43
    have hb28 := Bl.pu hb28 hn43
    have hb34 := Bk.pu hb34 hn43
    have hzw42 := World.grownBy.size hn43
    refine wl_call (vs := [v41]) C105 rfl rfl (backward1 (v41) _ (Rep.one _ (Bl.sl hd40))) ?_
    rintro _ w48 ⟨hn49, g44, rfl, hb45, hz46, hz47⟩
    have pw := pu_trans pw hn49
    have hpv := Rep.pu hpv hn49
    have hb5 := Bk.pu hb5 hn49
    have hd10 := Bl.pu hd10 hn49
    have hb18 := Bk.pu hb18 hn49
    have hb28 := Bl.pu hb28 hn49
    have hb34 := Bk.pu hb34 hn49
    have hd40 := Bl.pu hd40 hn49
    have hzw48 := World.grownBy.size hn49
    refine wl_nil ?_
    refine wq_then ?_
    refine wc_block ?_
    have hze1 := World.grownBy.size pw
    refine wc_rangeFunc (ps := [32, 33]) (first := []) (cap := [.pointer (some ⟨g44, 0, none⟩)]) rfl rfl C115 ?_
    intro wr1 lp1 RR1 hRR1 hlp1 hgr1 hsr1 hdr1 hrec1
    have hgl_hb5_1 : g1 < lp1 := by have := Bk.lt hb5; omega
    have hgl_hb18_1 : g14 < lp1 := by have := Bk.lt hb18; omega
    have hgl_hb34_1 : g30 < lp1 := by have := Bk.lt hb34; omega
    have hgl_hb45_1 : g44 < lp1 := by have := Bk.lt hb45; omega
    have pw := pu_trans pw hgr1
    have hpv := Rep.pu hpv hgr1
    have hb5 := Bk.pu hb5 hgr1
    have hd10 := Bl.pu hd10 hgr1
    have hb18 := Bk.pu hb18 hgr1
    have hb28 := Bl.pu hb28 hgr1
    have hb34 := Bk.pu hb34 hgr1
    have hd40 := Bl.pu hd40 hgr1
    have hb45 := Bk.pu hb45 hgr1
    have hmk : Mk wr1 w48.heap.size lp1 [mark w48.heap.size] := ⟨_, by omega, by omega, rfl, hdr1, trivial⟩
    refine Ret.mono (backward2 lp1 g44 (v41) (Iv (w36.heap.size) (w42.heap.size)) (digitsL (p) (mn) (b)) _ (fun (kk : Nat) (w' : World) => ∃ out : List Int, (out.length = mn) ∧ (∀ x ∈ out, 0 ≤ x ∧ x ≤ 12) ∧ (out = ((digitsL p mn b).drop ((digitsL p mn b).length - kk)).foldr (mulStep p pl (digitsL p mn a)) (List.replicate mn 0)) ∧ RR1 .ready w' ∧ w.grownBy w' none ∧ rI.R w' (Lo w.heap.size) (pv) (pl) ∧ Bk w' g1 72 [.int .i64 (p), .int .i64 ((mn : Int)), pv] ∧ Bl iR 3 w' (w2.heap.size) (w12.heap.size) (v11) (digitsL (p) (mn) (a)) ∧ Bk w' g14 24 [v11] ∧ Bl iR 3 w' (w20.heap.size) (w25.heap.size) (.slice (some ⟨g24, 0, none⟩) mn mn) (out) ∧ Bk w' g30 24 [.slice (some ⟨g24, 0, none⟩) mn mn] ∧ Bl iR 3 w' (w36.heap.size) (w42.heap.size) (v41) (digitsL (p) (mn) (b)) ∧ Bk w' g44 24 [v41] ∧ Mk w' (w48.heap.size) (lp1) ([mark w48.heap.size])) ?h01 ?keep1 ?yd1) ?rest1
    case h01 =>
      refine ⟨(List.replicate mn 0), ?_, ?_, ?_, hrec1, pw, hpv, hb5, hd10, hb18, hb28, hb34, hd40, hb45, hmk⟩
      · (simp)
      · (intro x hx; have := List.eq_of_mem_replicate hx; omega)
      · (simp)
    case keep1 =>
      rintro kk w' ⟨out, q1_1, q1_2, q1_3, hrec1, pw, hpv, hb5, hd10, hb18, hb28, hb34, hd40, hb45, hmk⟩
      exact ⟨hb45, (Bl.sl hd40)⟩
    case yd1 =>
      rintro kk w50 hkk ⟨out, q1_1, q1_2, q1_3, hrec1, pw, hpv, hb5, hd10, hb18, hb28, hb34, hd40, hb45, hmk⟩
      refine yd_of hRR1 hrec1 rfl rfl ?_
      have hlb := digitsL_len p mn b
      have hla := digitsL_len p mn a
      have htop : out.getD ((mn : Int) - 1).toNat 0 = out.getD (out.length - 1) 0 := by congr 1; omega
      have hkd := digitsL_at p hp mn b ((digitsL p mn b).length - 1 - kk) (by omega)
      refine wc_region ?_
      refine wl_v (st_assign (v := .int .i64 ((digitsL (p) (mn) (b)).getD ((digitsL (p) (mn) (b)).length - 1 - kk) 0)) rfl) rfl rfl rfl ?_
      refine wl_nil ?_
      refine wq_begin hRR1 hrec1 rfl ?_
      intro w51 hg52 hs53 hrec1
      have pw := pu_row pw hg52 (by intro q hq hlt; injection hq with hq; omega)
      have hpv := Rep.ch hpv hg52 (by intro q hq hlt; injection hq with hq; (try simp only [Lo, Iv]); omega)
      have hb5 := Bk.ch hb5 hg52 (by intro hq; injection hq with hq; omega)
      have hd10 := Bl.ch hd10 hg52 (by intro q hq hlt; injection hq with hq; omega)
      have hb18 := Bk.ch hb18 hg52 (by intro hq; injection hq with hq; omega)
      have hb28 := Bl.ch hb28 hg52 (by intro q hq hlt; injection hq with hq; omega)
      have hb34 := Bk.ch hb34 hg52 (by intro hq; injection hq with hq; omega)
      have hd40 := Bl.ch hd40 hg52 (by intro q hq hlt; injection hq with hq; omega)
      have hb45 := Bk.ch hb45 hg52 (by intro hq; injection hq with hq; omega)
      have hmk := Mk.ch hmk hg52 (by intro q hq hlt; injection hq with hq; left; omega)
      refine wc_block ?_
      refine wc_seq ?_
      refine wc_region ?_
      refine wl_v (st_load (v := .slice (some ⟨g24, 0, none⟩) mn mn) ty24 rfl rfl (Bk.cell hb34 (i := 0) rfl)) rfl rfl rfl ?_
      refine wl_v (st_fieldAddr ty72 (ft := 3) (off := 1) (by kernel_rfl) ty3 rfl) rfl rfl rfl ?_
      refine wl_v (st_load (v := .int .i64 ((mn : Int))) ty3 rfl rfl (Bk.cell hb5 (i := 1) rfl)) rfl rfl rfl ?_
      refine wl_v (st_sub rfl rfl (by omega) (by omega)) rfl rfl rfl ?_
      refine wl_e (st_idxI (Bl.sl hb28) ty24 ty3 rfl rfl (by omega) (by omega)) rfl rfl rfl ?_
      rintro _ ⟨a55, rfl, hc54⟩
      refine wl_v (st_load ty3 rfl rfl hc54) rfl rfl rfl ?_
      refine wl_v (st_assign (v := .int .i64 ((out).getD ((mn : Int) - 1).toNat 0)) rfl) rfl rfl rfl ?_
      refine wl_nil ?_
      refine wq_then ?_
      refine wc_seq ?_
      refine wc_region_mix (fun w' => (w51.drew).grownBy w' none) (fun k => (false) || Nat.ble 7 k) 7 (by kernel_rfl) (by kernel_rfl) (by kernel_rfl) ?_
      obtain ⟨w56, ew56⟩ : ∃ q, q = w51.drew := ⟨_, rfl⟩
      rw [← ew56]
      have hn57 : w51.grownBy w56 none := by rw [ew56]; exact ch_drew _
      have hsw56 : w56.heap.size = w51.heap.size := by rw [ew56]; rfl
      clear ew56
      have pw := pu_trans pw hn57
      have hpv := Rep.pu hpv hn57
      have hb5 := Bk.pu hb5 hn57
      have hd10 := Bl.pu hd10 hn57
      have hb18 := Bk.pu hb18 hn57
      have hb28 := Bl.pu hb28 hn57
      have hb34 := Bk.pu hb34 hn57
      have hd40 := Bl.pu hd40 hn57
      have hb45 := Bk.pu hb45 hn57
      have hmk := Mk.pu hmk hn57
      have hrec1 := RRpu hRR1 hrec1 hn57
      have pc58 := pu_refl w56
      refine wm_v rfl (fun _ => pc58) (fun w' hw' => (st_load (v := .slice (some ⟨g24, 0, none⟩) mn mn) ty24 rfl rfl (Bk.cell (Bk.pu hb34 hw') (i := 0) rfl))) rfl rfl rfl ?_
      refine wm_v rfl (fun _ => pc58) (fun w' hw' => (st_cutLo (m := 1) ty24 ty3 rfl rfl (by omega) (by omega) (by omega))) rfl rfl rfl ?_
      refine wm_v rfl (fun _ => pc58) (fun w' hw' => (st_load (v := .slice (some ⟨g24, 0, none⟩) mn mn) ty24 rfl rfl (Bk.cell (Bk.pu hb34 hw') (i := 0) rfl))) rfl rfl rfl ?_
      refine wm_v rfl (fun _ => pc58) (fun w' hw' => (st_fieldAddr ty72 (ft := 3) (off := 1) (by kernel_rfl) ty3 rfl)) rfl rfl rfl ?_
      refine wm_v rfl (fun _ => pc58) (fun w' hw' => (st_load (v := .int .i64 ((mn : Int))) ty3 rfl rfl (Bk.cell (Bk.pu hb5 hw') (i := 1) rfl))) rfl rfl rfl ?_
      refine wm_v rfl (fun _ => pc58) (fun w' hw' => (st_sub rfl rfl (by omega) (by omega))) rfl rfl rfl ?_
      refine wm_v rfl (fun _ => pc58) (fun w' hw' => (st_cutHi (m := ((mn : Int) - 1).toNat) ty24 ty3 rfl rfl (by omega) (by omega))) rfl rfl rfl ?_
      refine wm_tail (by decide) (fun _ => pc58) (fun j hj => by have hb : Nat.ble 7 j = true := (by rw [Nat.ble_eq]; omega); simp [hb]) ?_
      refine wl_copyB (off := 0 + 1) (so := 0) (k := mn - 1) hb28 ty24 ty3 rfl rfl (by show min _ _ = _; omega) (by omega) (by omega) rfl ?_
      intro w59 hb60 hg61 hs62 hown
      have pw := pu_row pw hg61 (by intro q hq hlt; simp at hq; omega)
      have hpv := Rep.ch hpv hg61 (by intro q hq hlt; (try simp only [Lo, Iv]); simp at hq; omega)
      have hb5 := Bk.ch hb5 hg61 (by intro hq; have hlt := hb5.lt; simp at hq; omega)
      have hd10 := Bl.ch hd10 hg61 (by intro q hq hlt; simp at hq; omega)
      have hb18 := Bk.ch hb18 hg61 (by intro hq; have hlt := hb18.lt; simp at hq; omega)
      have hb34 := Bk.ch hb34 hg61 (by intro hq; have hlt := hb34.lt; simp at hq; omega)
      have hd40 := Bl.ch hd40 hg61 (by intro q hq hlt; simp at hq; omega)
      have hb45 := Bk.ch hb45 hg61 (by intro hq; have hlt := hb45.lt; simp at hq; omega)
      have hmk := Mk.ch hmk hg61 (by intro q hq hlt; simp at hq; omega)
      have hrec1 := RRch hRR1 hrec1 hg61 (by intro hq; simp at hq; omega)
      have hb28 := hb60
      refine wt_nil ?_
      refine wq_then ?_
      refine wc_seq ?_
      refine wc_region ?_
      refine wl_v (st_load (v := .slice (some ⟨g24, 0, none⟩) mn mn) ty24 rfl rfl (Bk.cell hb34 (i := 0) rfl)) rfl rfl rfl ?_
      have hbdg66 : 0 < (((((out).take (0 + 1)) ++ (((out).drop (0)).take (mn - 1)) ++ ((out).drop ((0 + 1) + (mn - 1)))).length : Nat) : Int) := (by have h1 := copyL_len out (0 + 1) 0 (mn - 1) (by omega) (by omega); unfold copyL at h1; omega)
      refine wl_e (st_idxB hb28 ty24 ty3 rfl rfl (by omega) hbdg66) rfl rfl rfl ?_
      rintro _ ⟨g66, rfl, hv65, hc63⟩
      try simp only [Int.toNat_natCast, Int.toNat_zero, Int.reduceToNat] at hc63 ⊢
      refine wl_storeB (q := 0) hb28 ty3 rfl hv65 (by omega) rfl (fun _ _ => rfl) ?_
      intro w67 hb68 hg69 hs70
      have hown := Bl.own hb28 hv65
      have pw := pu_row pw hg69 (by intro q hq hlt; simp at hq; omega)
      have hpv := Rep.ch hpv hg69 (by intro q hq hlt; (try simp only [Lo, Iv]); simp at hq; omega)
      have hb5 := Bk.ch hb5 hg69 (by intro hq; have hlt := hb5.lt; simp at hq; omega)
      have hd10 := Bl.ch hd10 hg69 (by intro q hq hlt; simp at hq; omega)
      have hb18 := Bk.ch hb18 hg69 (by intro hq; have hlt := hb18.lt; simp at hq; omega)
      have hb34 := Bk.ch hb34 hg69 (by intro hq; have hlt := hb34.lt; simp at hq; omega)
      have hd40 := Bl.ch hd40 hg69 (by intro q hq hlt; simp at hq; omega)
      have hb45 := Bk.ch hb45 hg69 (by intro hq; have hlt := hb45.lt; simp at hq; omega)
      have hmk := Mk.ch hmk hg69 (by intro q hq hlt; simp at hq; omega)
      have hrec1 := RRch hRR1 hrec1 hg69 (by intro hq; simp at hq; omega)
      have hb28 := hb68
      try simp only [Int.toNat_natCast, Int.toNat_zero, Int.reduceToNat] at hb28
      refine wl_nil ?_
      refine wq_then ?_
      refine wc_seq ?_
      refine wc_region ?_
      refine wl_v (st_load (v := .slice (some ⟨g24, 0, none⟩) mn mn) ty24 rfl rfl (Bk.cell hb34 (i := 0) rfl)) rfl rfl rfl ?_
      refine wl_v (st_lenS (Bl.sl hb28) ty24 rfl) rfl rfl rfl ?_
      refine wl_v (st_move (v := .int .i64 (0)) rfl) rfl rfl rfl ?_
      refine wl_nil ?_
      refine wq_then ?_
      refine wc_block ?_
      rw [show (0 + 1) = 1 from rfl, copy_sh out mn q1_1 (by omega)] at hb28
      have hlsh := mulSh_len out (by omega)
      have hlc : (((((out).take (0 + 1)) ++ (((out).drop (0)).take (mn - 1)) ++ ((out).drop ((0 + 1) + (mn - 1)))).set 0 (0))).length = mn := by rw [show (0 + 1) = 1 from rfl, copy_sh out mn q1_1 (by omega)]; omega
      refine wc_loop (fun fl mm w' => ∃ i : Nat, fl = [(3, .pointer (some ⟨g1, 0, none⟩)), (6, .int .i64 (0)), (7, .pointer (some ⟨g14, 0, none⟩)), (8, .pointer (some ⟨g30, 0, none⟩)), (10, .int .i64 ((digitsL (p) (mn) (b)).getD ((digitsL (p) (mn) (b)).length - 1 - kk) 0)), (11, .int .i64 ((out).getD ((mn : Int) - 1).toNat 0)), (51, .int .i64 ((((((out).take (0 + 1)) ++ (((out).drop (0)).take (mn - 1)) ++ ((out).drop ((0 + 1) + (mn - 1)))).set 0 (0)).length : Int))), (52, .int .i64 ((i : Int)))] ∧ mm = mn - i ∧ (i ≤ mn) ∧ w.grownBy w' none ∧ rI.R w' (Lo w.heap.size) (pv) (pl) ∧ Bk w' g1 72 [.int .i64 (p), .int .i64 ((mn : Int)), pv] ∧ Bl iR 3 w' (w2.heap.size) (w12.heap.size) (v11) (digitsL (p) (mn) (a)) ∧ Bk w' g14 24 [v11] ∧ Bl iR 3 w' (w20.heap.size) (w25.heap.size) (.slice (some ⟨g24, 0, none⟩) mn mn) (mulGo p pl (digitsL p mn a) ((digitsL p mn b).getD ((digitsL p mn b).length - 1 - kk) 0) out i) ∧ Bk w' g30 24 [.slice (some ⟨g24, 0, none⟩) mn mn] ∧ Bl iR 3 w' (w36.heap.size) (w42.heap.size) (v41) (digitsL (p) (mn) (b)) ∧ Bk w' g44 24 [v41] ∧ Mk w' (w48.heap.size) (lp1) ([mark w48.heap.size]) ∧ RR1 .busy w') (h0 := ⟨0, rfl, rfl, ?_, pw, hpv, hb5, hd10, hb18, (by rw [mulGo_zero]; exact hb28), hb34, hd40, hb45, hmk, hrec1⟩) (hf := ⟨(by first | rfl | exact congrArg (Value.int _) (by omega) | go_num), (by first | rfl | exact congrArg (Value.int _) (by omega) | go_num), (by first | rfl | exact congrArg (Value.int _) (by omega) | go_num), (by first | rfl | exact congrArg (Value.int _) (by omega) | go_num), (by first | rfl | exact congrArg (Value.int _) (by omega) | go_num), (by first | rfl | exact congrArg (Value.int _) (by omega) | go_num), (by first | rfl | exact congrArg (Value.int _) (by omega) | go_num), (by first | rfl | exact congrArg (Value.int _) (by omega) | go_num), trivial⟩) ?_
      · omega
      · skip
        rintro _ _ w71 s72 ⟨i, rfl, rfl, p1_1, pw, hpv, hb5, hd10, hb18, hb28, hb34, hd40, hb45, hmk, hrec1⟩
        refine wc_seq ?_
        refine wc_region ?_
        refine wl_v (st_lss rfl rfl) rfl rfl rfl ?_
        refine wl_nil ?_
        refine wq_then ?_
        refine wc_seq ?_
        refine wc_cond rfl ?_ ?_
        · intro h73
          have h73p : (i : Int) < (((((out).take (0 + 1)) ++ (((out).drop (0)).take (mn - 1)) ++ ((out).drop ((0 + 1) + (mn - 1)))).set 0 (0)).length : Int) := by first | simpa using h73 | (simp at h73; omega)
          refine wc_skip ?_
          refine wq_then ?_
          refine wc_seq ?_
          refine wc_block ?_
          refine wc_seq ?_
          refine wc_region ?_
          refine wl_v (st_move (v := .int .i64 ((i : Int))) rfl) rfl rfl rfl ?_
          refine wl_v (st_assign (v := .int .i64 ((i : Int))) rfl) rfl rfl rfl ?_
          refine wl_nil ?_
          refine wq_then ?_
          refine wc_region_mix (fun w' => (w71.drew).grownBy w' none) (fun k => (false) || Nat.ble 25 k) 25 (by kernel_rfl) (by kernel_rfl) (by kernel_rfl) ?_
          obtain ⟨w74, ew74⟩ : ∃ q, q = w71.drew := ⟨_, rfl⟩
          rw [← ew74]
          have hn75 : w71.grownBy w74 none := by rw [ew74]; exact ch_drew _
          have hsw74 : w74.heap.size = w71.heap.size := by rw [ew74]; rfl
          clear ew74
          have pw := pu_trans pw hn75
          have hpv := Rep.pu hpv hn75
          have hb5 := Bk.pu hb5 hn75
          have hd10 := Bl.pu hd10 hn75
          have hb18 := Bk.pu hb18 hn75
          have hb28 := Bl.pu hb28 hn75
          have hb34 := Bk.pu hb34 hn75
          have hd40 := Bl.pu hd40 hn75
          have hb45 := Bk.pu hb45 hn75
          have hmk := Mk.pu hmk hn75
          have hrec1 := RRpu hRR1 hrec1 hn75
          have pc76 := pu_refl w74
          refine wm_v rfl (fun _ => pc76) (fun w' hw' => (st_load (v := .slice (some ⟨g24, 0, none⟩) mn mn) ty24 rfl rfl (Bk.cell (Bk.pu hb34 hw') (i := 0) rfl))) rfl rfl rfl ?_
          refine wm_v rfl (fun _ => pc76) (fun w' hw' => (st_move (v := .int .i64 ((i : Int))) rfl)) rfl rfl rfl ?_
          refine wm_v rfl (fun _ => pc76) (fun w' hw' => (st_load (v := .slice (some ⟨g24, 0, none⟩) mn mn) ty24 rfl rfl (Bk.cell (Bk.pu hb34 hw') (i := 0) rfl))) rfl rfl rfl ?_
          refine wm_v rfl (fun _ => pc76) (fun w' hw' => (st_move (v := .int .i64 ((i : Int))) rfl)) rfl rfl rfl ?_
          refine wm_e rfl (fun _ => pc76) (st_idxI (Bl.sl hb28) ty24 ty3 rfl rfl (by omega) (by have h1 := mulGo_len p pl (digitsL p mn a) ((digitsL p mn b).getD ((digitsL p mn b).length - 1 - kk) 0) out i (by omega) (by omega); omega)) rfl rfl rfl ?_
          rintro _ ⟨a78, rfl, hc77⟩
          simp only [Int.toNat_natCast] at hc77
          refine wm_v rfl (fun _ => pc76) (fun w' hw' => (st_load ty3 rfl rfl (cell_pu hw' hc77))) rfl rfl rfl ?_
          refine wm_v rfl (fun _ => pc76) (fun w' hw' => (st_move (v := .int .i64 ((out).getD ((mn : Int) - 1).toNat 0)) rfl)) rfl rfl rfl ?_
          refine wm_v rfl (fun _ => pc76) (fun w' hw' => (st_fieldAddr ty72 (ft := 24) (off := 2) (by kernel_rfl) ty24 rfl)) rfl rfl rfl ?_
          refine wm_v rfl (fun _ => pc76) (fun w' hw' => (st_load (v := pv) ty24 rfl rfl (Bk.cell (Bk.pu hb5 hw') (i := 2) rfl))) rfl rfl rfl ?_
          refine wm_v rfl (fun _ => pc76) (fun w' hw' => (st_move (v := .int .i64 ((i : Int))) rfl)) rfl rfl rfl ?_
          refine wm_e rfl (fun _ => pc76) (st_idxI hpv ty24 ty3 rfl rfl (by omega) (by omega)) rfl rfl rfl ?_
          rintro _ ⟨a80, rfl, hc79⟩
          simp only [Int.toNat_natCast] at hc79
          refine wm_v rfl (fun _ => pc76) (fun w' hw' => (st_load ty3 rfl rfl (cell_pu hw' hc79))) rfl rfl rfl ?_
          refine wm_v rfl (fun _ => pc76) (fun w' hw' => (st_mul rfl rfl (by have t1 := at_bd out 12 (by omega) q1_2 ((mn : Int) - 1).toNat; have t2 := at_bd pl 12 (by omega) hpb i; have t3 := digitsL_at p hp mn a i (by omega); have t4 := mul_bd t1.1 t1.2 t2.1 t2.2; have t5 := mul_bd hkd.1 hkd.2 t3.1 t3.2; have t6 := mulSh_at out q1_2 i; have t7 := mulGo_getD p pl (digitsL p mn a) ((digitsL p mn b).getD ((digitsL p mn b).length - 1 - kk) 0) out i; omega) (by have t1 := at_bd out 12 (by omega) q1_2 ((mn : Int) - 1).toNat; have t2 := at_bd pl 12 (by omega) hpb i; have t3 := digitsL_at p hp mn a i (by omega); have t4 := mul_bd t1.1 t1.2 t2.1 t2.2; have t5 := mul_bd hkd.1 hkd.2 t3.1 t3.2; have t6 := mulSh_at out q1_2 i; have t7 := mulGo_getD p pl (digitsL p mn a) ((digitsL p mn b).getD ((digitsL p mn b).length - 1 - kk) 0) out i; omega))) rfl rfl rfl ?_
          refine wm_v rfl (fun _ => pc76) (fun w' hw' => (st_add rfl rfl (by have t1 := at_bd out 12 (by omega) q1_2 ((mn : Int) - 1).toNat; have t2 := at_bd pl 12 (by omega) hpb i; have t3 := digitsL_at p hp mn a i (by omega); have t4 := mul_bd t1.1 t1.2 t2.1 t2.2; have t5 := mul_bd hkd.1 hkd.2 t3.1 t3.2; have t6 := mulSh_at out q1_2 i; have t7 := mulGo_getD p pl (digitsL p mn a) ((digitsL p mn b).getD ((digitsL p mn b).length - 1 - kk) 0) out i; omega) (by have t1 := at_bd out 12 (by omega) q1_2 ((mn : Int) - 1).toNat; have t2 := at_bd pl 12 (by omega) hpb i; have t3 := digitsL_at p hp mn a i (by omega); have t4 := mul_bd t1.1 t1.2 t2.1 t2.2; have t5 := mul_bd hkd.1 hkd.2 t3.1 t3.2; have t6 := mulSh_at out q1_2 i; have t7 := mulGo_getD p pl (digitsL p mn a) ((digitsL p mn b).getD ((digitsL p mn b).length - 1 - kk) 0) out i; omega))) rfl rfl rfl ?_
          refine wm_v rfl (fun _ => pc76) (fun w' hw' => (st_move (v := .int .i64 ((digitsL (p) (mn) (b)).getD ((digitsL (p) (mn) (b)).length - 1 - kk) 0)) rfl)) rfl rfl rfl ?_
          refine wm_v rfl (fun _ => pc76) (fun w' hw' => (st_load (v := v11) ty24 rfl rfl (Bk.cell (Bk.pu hb18 hw') (i := 0) rfl))) rfl rfl rfl ?_
          refine wm_v rfl (fun _ => pc76) (fun w' hw' => (st_move (v := .int .i64 ((i : Int))) rfl)) rfl rfl rfl ?_
          refine wm_e rfl (fun _ => pc76) (st_idxI (Bl.sl hd10) ty24 ty3 rfl rfl (by omega) (by omega)) rfl rfl rfl ?_
          rintro _ ⟨a82, rfl, hc81⟩
          simp only [Int.toNat_natCast] at hc81
          refine wm_v rfl (fun _ => pc76) (fun w' hw' => (st_load ty3 rfl rfl (cell_pu hw' hc81))) rfl rfl rfl ?_
          refine wm_v rfl (fun _ => pc76) (fun w' hw' => (st_mul rfl rfl (by have t1 := at_bd out 12 (by omega) q1_2 ((mn : Int) - 1).toNat; have t2 := at_bd pl 12 (by omega) hpb i; have t3 := digitsL_at p hp mn a i (by omega); have t4 := mul_bd t1.1 t1.2 t2.1 t2.2; have t5 := mul_bd hkd.1 hkd.2 t3.1 t3.2; have t6 := mulSh_at out q1_2 i; have t7 := mulGo_getD p pl (digitsL p mn a) ((digitsL p mn b).getD ((digitsL p mn b).length - 1 - kk) 0) out i; omega) (by have t1 := at_bd out 12 (by omega) q1_2 ((mn : Int) - 1).toNat; have t2 := at_bd pl 12 (by omega) hpb i; have t3 := digitsL_at p hp mn a i (by omega); have t4 := mul_bd t1.1 t1.2 t2.1 t2.2; have t5 := mul_bd hkd.1 hkd.2 t3.1 t3.2; have t6 := mulSh_at out q1_2 i; have t7 := mulGo_getD p pl (digitsL p mn a) ((digitsL p mn b).getD ((digitsL p mn b).length - 1 - kk) 0) out i; omega))) rfl rfl rfl ?_
          refine wm_v rfl (fun _ => pc76) (fun w' hw' => (st_add rfl rfl (by have t1 := at_bd out 12 (by omega) q1_2 ((mn : Int) - 1).toNat; have t2 := at_bd pl 12 (by omega) hpb i; have t3 := digitsL_at p hp mn a i (by omega); have t4 := mul_bd t1.1 t1.2 t2.1 t2.2; have t5 := mul_bd hkd.1 hkd.2 t3.1 t3.2; have t6 := mulSh_at out q1_2 i; have t7 := mulGo_getD p pl (digitsL p mn a) ((digitsL p mn b).getD ((digitsL p mn b).length - 1 - kk) 0) out i; omega) (by have t1 := at_bd out 12 (by omega) q1_2 ((mn : Int) - 1).toNat; have t2 := at_bd pl 12 (by omega) hpb i; have t3 := digitsL_at p hp mn a i (by omega); have t4 := mul_bd t1.1 t1.2 t2.1 t2.2; have t5 := mul_bd hkd.1 hkd.2 t3.1 t3.2; have t6 := mulSh_at out q1_2 i; have t7 := mulGo_getD p pl (digitsL p mn a) ((digitsL p mn b).getD ((digitsL p mn b).length - 1 - kk) 0) out i; omega))) rfl rfl rfl ?_
          refine wm_v rfl (fun _ => pc76) (fun w' hw' => (st_fieldAddr ty72 (ft := 3) (off := 0) (by kernel_rfl) ty3 rfl)) rfl rfl rfl ?_
          refine wm_v rfl (fun _ => pc76) (fun w' hw' => (st_load (v := .int .i64 (p)) ty3 rfl rfl (Bk.cell (Bk.pu hb5 hw') (i := 0) rfl))) rfl rfl rfl ?_
          refine wm_v rfl (fun _ => pc76) (fun w' hw' => (st_rem rfl rfl (by have t1 := at_bd out 12 (by omega) q1_2 ((mn : Int) - 1).toNat; have t2 := at_bd pl 12 (by omega) hpb i; have t3 := digitsL_at p hp mn a i (by omega); have t4 := mul_bd t1.1 t1.2 t2.1 t2.2; have t5 := mul_bd hkd.1 hkd.2 t3.1 t3.2; have t6 := mulSh_at out q1_2 i; have t7 := mulGo_getD p pl (digitsL p mn a) ((digitsL p mn b).getD ((digitsL p mn b).length - 1 - kk) 0) out i; omega) (by have t1 := at_bd out 12 (by omega) q1_2 ((mn : Int) - 1).toNat; have t2 := at_bd pl 12 (by omega) hpb i; have t3 := digitsL_at p hp mn a i (by omega); have t4 := mul_bd t1.1 t1.2 t2.1 t2.2; have t5 := mul_bd hkd.1 hkd.2 t3.1 t3.2; have t6 := mulSh_at out q1_2 i; have t7 := mulGo_getD p pl (digitsL p mn a) ((digitsL p mn b).getD ((digitsL p mn b).length - 1 - kk) 0) out i; omega))) rfl rfl rfl ?_
          have hbdg86 : (i : Int) < (((mulGo p pl (digitsL p mn a) ((digitsL p mn b).getD ((digitsL p mn b).length - 1 - kk) 0) out i).length : Nat) : Int) := (by have h1 := mulGo_len p pl (digitsL p mn a) ((digitsL p mn b).getD ((digitsL p mn b).length - 1 - kk) 0) out i (by omega) (by omega); omega)
          refine wm_e rfl (fun _ => pc76) (st_idxB hb28 ty24 ty3 rfl rfl (by omega) hbdg86) rfl rfl rfl ?_
          rintro _ ⟨g86, rfl, hv85, hc83⟩
          try simp only [Int.toNat_natCast, Int.toNat_zero, Int.reduceToNat] at hc83 ⊢
          refine wm_tail (by decide) (fun _ => pc76) (fun j hj => by have hb : Nat.ble 25 j = true := (by rw [Nat.ble_eq]; omega); simp [hb]) ?_
          refine wl_storeB (q := ((((mulGo p pl (digitsL p mn a) ((digitsL p mn b).getD ((digitsL p mn b).length - 1 - kk) 0) out i).getD i 0) + (((out).getD ((mn : Int) - 1).toNat 0) * ((pl).getD i 0))) + (((digitsL (p) (mn) (b)).getD ((digitsL (p) (mn) (b)).length - 1 - kk) 0) * ((digitsL (p) (mn) (a)).getD i 0))) % p) hb28 ty3 rfl hv85 (by omega) rfl (fun _ _ => rfl) ?_
          intro w87 hb88 hg89 hs90
          have hown := Bl.own hb28 hv85
          have pw := pu_row pw hg89 (by intro q hq hlt; simp at hq; omega)
          have hpv := Rep.ch hpv hg89 (by intro q hq hlt; (try simp only [Lo, Iv]); simp at hq; omega)
          have hb5 := Bk.ch hb5 hg89 (by intro hq; have hlt := hb5.lt; simp at hq; omega)
          have hd10 := Bl.ch hd10 hg89 (by intro q hq hlt; simp at hq; omega)
          have hb18 := Bk.ch hb18 hg89 (by intro hq; have hlt := hb18.lt; simp at hq; omega)
          have hb34 := Bk.ch hb34 hg89 (by intro hq; have hlt := hb34.lt; simp at hq; omega)
          have hd40 := Bl.ch hd40 hg89 (by intro q hq hlt; simp at hq; omega)
          have hb45 := Bk.ch hb45 hg89 (by intro hq; have hlt := hb45.lt; simp at hq; omega)
          have hmk := Mk.ch hmk hg89 (by intro q hq hlt; simp at hq; omega)
          have hrec1 := RRch hRR1 hrec1 hg89 (by intro hq; simp at hq; omega)
          have hb28 := hb88
          try simp only [Int.toNat_natCast, Int.toNat_zero, Int.reduceToNat] at hb28
          refine wt_nil ?_
          refine wq_block_normal ?_
          refine wq_then ?_
          refine wc_region ?_
          refine wl_v (st_add rfl rfl (by omega) (by omega)) rfl rfl rfl ?_
          refine wl_v (st_move (v := .int .i64 ((i : Int) + 1)) rfl) rfl rfl rfl ?_
          refine wl_nil ?_
          refine wq_round (hI := ⟨i + 1, rfl, rfl, ?_, pw, hpv, hb5, hd10, hb18, (by have h := hb28; rw [mulGo_set p pl (digitsL p mn a) ((digitsL p mn b).getD ((digitsL p mn b).length - 1 - kk) 0) out i _ (by omega) (by omega) htop] at h; exact h), hb34, hd40, hb45, hmk, hrec1⟩) (hm := ?_) (hf := ?_) rfl rfl
          · omega
          · omega
          · exact ⟨(by first | rfl | exact congrArg (Value.int _) (by omega) | go_num), (by first | rfl | exact congrArg (Value.int _) (by omega) | go_num), (by first | rfl | exact congrArg (Value.int _) (by omega) | go_num), (by first | rfl | exact congrArg (Value.int _) (by omega) | go_num), (by first | rfl | exact congrArg (Value.int _) (by omega) | go_num), (by first | rfl | exact congrArg (Value.int _) (by omega) | go_num), (by first | rfl | exact congrArg (Value.int _) (by omega) | go_num), (by first | rfl | exact congrArg (Value.int _) (by omega) | go_num), trivial⟩
        · intro h73
          have h73p : ¬ ((i : Int) < (((((out).take (0 + 1)) ++ (((out).drop (0)).take (mn - 1)) ++ ((out).drop ((0 + 1) + (mn - 1)))).set 0 (0)).length : Int)) := by first | simpa using h73 | (simp at h73; omega)
          refine wc_exit ?_
          refine wq_then_exit ?_
          refine wq_then_exit ?_
          refine wq_block_exit ?_
          refine wq_block_normal ?_
          refine wq_roundEnd hRR1 hrec1 ?_
          intro w91 hg92 hs93 hrec1
          have pw := pu_row pw hg92 (by intro q hq hlt; injection hq with hq; omega)
          have hpv := Rep.ch hpv hg92 (by intro q hq hlt; injection hq with hq; (try simp only [Lo, Iv]); omega)
          have hb5 := Bk.ch hb5 hg92 (by intro hq; injection hq with hq; omega)
          have hd10 := Bl.ch hd10 hg92 (by intro q hq hlt; injection hq with hq; omega)
          have hb18 := Bk.ch hb18 hg92 (by intro hq; injection hq with hq; omega)
          have hb28 := Bl.ch hb28 hg92 (by intro q hq hlt; injection hq with hq; omega)
          have hb34 := Bk.ch hb34 hg92 (by intro hq; injection hq with hq; omega)
          have hd40 := Bl.ch hd40 hg92 (by intro q hq hlt; injection hq with hq; omega)
          have hb45 := Bk.ch hb45 hg92 (by intro hq; injection hq with hq; omega)
          have hmk := Mk.ch hmk hg92 (by intro q hq hlt; injection hq with hq; left; omega)
          refine ⟨(mulStep p pl (digitsL p mn a) ((digitsL p mn b).getD ((digitsL p mn b).length - 1 - kk) 0) out), ?_, ?_, ?_, hrec1, pw, hpv, hb5, hd10, hb18, (by have h := hb28; rw [show i = out.length by omega, mulGo_all _ _ _ _ _ (by omega)] at h; exact h), hb34, hd40, hb45, hmk⟩
          · (rw [mulStep_len]; exact q1_1)
          · (exact mulStep_bd p hp _ _ _ _)
          · (rw [show (digitsL p mn b).length - (kk + 1) = (digitsL p mn b).length - 1 - kk by omega, drop_getD (digitsL p mn b) ((digitsL p mn b).length - 1 - kk) (by omega), List.foldr_cons, show (digitsL p mn b).length - 1 - kk + 1 = (digitsL p mn b).length - kk by omega, ← q1_3])
    case rest1 =>
      rintro _ w94 ⟨-, hIr⟩
      obtain ⟨kk, hkn, out, q1_1, q1_2, q1_3, hrec1, pw, hpv, hb5, hd10, hb18, hb28, hb34, hd40, hb45, hmk⟩ : ∃ kk : Nat, kk = (digitsL (p) (mn) (b)).length ∧ (fun (kk : Nat) (w' : World) => ∃ out : List Int, (out.length = mn) ∧ (∀ x ∈ out, 0 ≤ x ∧ x ≤ 12) ∧ (out = ((digitsL p mn b).drop ((digitsL p mn b).length - kk)).foldr (mulStep p pl (digitsL p mn a)) (List.replicate mn 0)) ∧ RR1 .ready w' ∧ w.grownBy w' none ∧ rI.R w' (Lo w.heap.size) (pv) (pl) ∧ Bk w' g1 72 [.int .i64 (p), .int .i64 ((mn : Int)), pv] ∧ Bl iR 3 w' (w2.heap.size) (w12.heap.size) (v11) (digitsL (p) (mn) (a)) ∧ Bk w' g14 24 [v11] ∧ Bl iR 3 w' (w20.heap.size) (w25.heap.size) (.slice (some ⟨g24, 0, none⟩) mn mn) (out) ∧ Bk w' g30 24 [.slice (some ⟨g24, 0, none⟩) mn mn] ∧ Bl iR 3 w' (w36.heap.size) (w42.heap.size) (v41) (digitsL (p) (mn) (b)) ∧ Bk w' g44 24 [v41] ∧ Mk w' (w48.heap.size) (lp1) ([mark w48.heap.size])) kk w94 := ⟨_, rfl, hIr⟩
      refine ⟨hrec1, ?_⟩
      intro w95 hg96 hs97
      have pw := pu_row pw hg96 (by intro q hq hlt; injection hq with hq; omega)
      have hpv := Rep.ch hpv hg96 (by intro q hq hlt; injection hq with hq; (try simp only [Lo, Iv]); omega)
      have hb5 := Bk.ch hb5 hg96 (by intro hq; injection hq with hq; omega)
      have hd10 := Bl.ch hd10 hg96 (by intro q hq hlt; injection hq with hq; omega)
      have hb18 := Bk.ch hb18 hg96 (by intro hq; injection hq with hq; omega)
      have hb28 := Bl.ch hb28 hg96 (by intro q hq hlt; injection hq with hq; omega)
      have hb34 := Bk.ch hb34 hg96 (by intro hq; injection hq with hq; omega)
      have hd40 := Bl.ch hd40 hg96 (by intro q hq hlt; injection hq with hq; omega)
      have hb45 := Bk.ch hb45 hg96 (by intro hq; injection hq with hq; omega)
      have hmk := Mk.ch hmk hg96 (by intro q hq hlt; injection hq with hq; left; omega)
      refine wq_block_normal ?_
      refine wq_then ?_
      refine wc_seq ?_
      refine wc_region ?_
      refine wl_v (st_loadAgg (cs := [.int .i64 (p), .int .i64 ((mn : Int)), pv]) ty72 rfl rfl rfl (Bk.cells hb5)) rfl rfl rfl ?_
      refine wl_v (st_load (v := .slice (some ⟨g24, 0, none⟩) mn mn) ty24 rfl rfl (Bk.cell hb34 (i := 0) rfl)) rfl rfl rfl ?_
      refine wl_call (vs := [.agg #[.int .i64 (p), .int .i64 ((mn : Int)), pv], .slice (some ⟨g24, 0, none⟩) mn mn]) C104 rfl rfl (number_ok (p) (mn) (pv) _ _ _ _ (by omega) (by omega) (fun x hx => by have := q1_2 x hx; omega) (Bl.sl hb28)) ?_
      rintro _ w98 ⟨rfl, hn99⟩
      have pw := pu_trans pw hn99
      have hpv := Rep.pu hpv hn99
      have hb5 := Bk.pu hb5 hn99
      have hd10 := Bl.pu hd10 hn99
      have hb18 := Bk.pu hb18 hn99
      have hb28 := Bl.pu hb28 hn99
      have hb34 := Bk.pu hb34 hn99
      have hd40 := Bl.pu hd40 hn99
      have hb45 := Bk.pu hb45 hn99
      have hmk := Mk.pu hmk hn99
      have hzw98 := World.grownBy.size hn99
      refine wl_v (st_assign (v := .int .i64 (numberL (p) (out))) rfl) rfl rfl rfl ?_
      refine wl_nil ?_
      refine wq_then ?_
      refine wc_ret ?_
      have hzw := World.grownBy.size pw
      refine wq_ret1M (v := .int .i64 (numberL (p) (out))) rfl hmk rfl ?_
      intro w100 hb101
      have pw := pu_below2 pw hb101 (by omega)
      have hpv := Rep.belowS hpv hb101 (by intro b hb1 hb2; simp only [Lo, Iv] at hb1; omega)
      have hd10 := Bl.below hd10 hb101 (by omega)
      have hb28 := Bl.below hb28 hb101 (by omega)
      have hd40 := Bl.below hd40 hb101 (by omega)
      exact ⟨congrArg (Value.int .i64) (by rw [mulL, if_neg (by omega), q1_3, hkn, Nat.sub_self, List.drop_zero]), pw⟩

end Go.Proofs.YthofgamegondnaaDoor
