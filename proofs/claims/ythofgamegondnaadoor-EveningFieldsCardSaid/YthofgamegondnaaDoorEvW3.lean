/- Walks: sums and products. -/
import Derived.Test.YthofgamegondnaaDoorEvW2
namespace Go.Proofs.YthofgamegondnaaDoor
open Go.RowKit
set_option linter.unusedSimpArgs false
set_option linter.unusedVariables false

theorem fieldOf2 (q : Int) (w : World) : Ret Tryd.prog 56 #[.int .i64 q] w fun v w' => w.grownBy w' none ∧ ∃ (p : Int) (m : Nat) (pv : Value) (pl : List Int) (ok : Bool), v = .tuple #[.agg #[.int .i64 p, .int .i64 (m : Int), pv], .bool ok] ∧ (ok = true → fieldL q = some (p, m, pl)) ∧ (ok = true → rI.R w' (Lo w'.heap.size) pv pl) ∧ (ok = false → fieldL q = none) ∧ pv.oneCell' = true := by
  refine Ret.mono (fieldOf_ok q w) fun v w' h => ⟨h.1, ?_⟩
  have h2 := h.2
  cases hf : fieldL q with
  | none => rw [hf] at h2; exact ⟨0, 0, .slice none 0 0, [], false, h2, (fun h => by cases h), (fun h => by cases h), (fun _ => rfl), by rfl⟩
  | some x =>
    obtain ⟨p, m, pl⟩ := x
    rw [hf] at h2
    obtain ⟨pv, h3, h4⟩ := h2
    exact ⟨p, m, pv, pl, true, h3, (fun _ => rfl), (fun _ => h4), (fun h => by cases h), Rep.one _ h4⟩

set_option maxRecDepth 100000 in
theorem Add_ok (q a b : Int) (w : World) : Ret Tryd.prog 18 #[.int .i64 q, .int .i64 a, .int .i64 b] w fun v w' => v = .tuple #[.int .i64 (evAdd q a b).1, .bool (evAdd q a b).2] ∧ w.grownBy w' none := by
  refine ret_in Tryd.func18 rfl rfl rfl ?_
  have pw := pu_refl w
  refine wc_seq ?_
  refine wc_region ?_
  refine wl_v (st_assign (v := .int .i64 (0)) rfl) rfl rfl rfl ?_
  refine wl_v (st_assign (v := .bool (false)) rfl) rfl rfl rfl ?_
  refine wl_nil ?_
  refine wq_then ?_
  refine wc_seq ?_
  refine wc_region ?_
  refine wl_v (st_move (v := .int .i64 (q)) rfl) rfl rfl rfl ?_
  refine wl_call (vs := [.int .i64 (q)]) C56 rfl rfl (fieldOf2 (q) _) ?_
  rintro _ w10 ⟨hn11, p1, m2, pv3, pl4, ok5, rfl, hok6, hpv7, hno8, hone9⟩
  have pw := pu_trans pw hn11
  have hzw10 := World.grownBy.size hn11
  refine wl_v (st_move (v := .tuple #[.agg #[.int .i64 (p1), .int .i64 ((m2 : Int)), pv3], .bool (ok5)]) rfl) rfl rfl rfl ?_
  refine wl_v (st_extract (v := .agg #[.int .i64 (p1), .int .i64 ((m2 : Int)), pv3]) rfl rfl) rfl rfl rfl ?_
  refine wl_v (st_extract (v := .bool (ok5)) rfl rfl) rfl rfl rfl ?_
  refine wl_allocK (cs := [.int .i64 (0), .int .i64 (0), .slice none 0 0]) ty72 rfl rfl ?_
  intro w13 g12 hg14 hs15 hb16 hn17
  have pw := pu_trans pw hn17
  have hpv7 := fun (h : ok5 = true) => Rep.pu (hpv7 h) hn17
  refine wl_storeG (cs := [.int .i64 (p1), .int .i64 ((m2 : Int)), pv3]) hb16 ty72 rfl rfl rfl rfl (all1 rfl (all1 rfl (all1 hone9 rfl))) ?_
  intro w22 hb23 hg24 hs25
  have pw := pu_row pw hg24 (by intro q hq hlt; simp at hq; omega)
  have hpv7 := fun (h : ok5 = true) => Rep.ch (hpv7 h) hg24 (by intro q hq hlt; (try simp only [Lo, Iv]); simp at hq; omega)
  have hb16 := hb23
  refine wl_v (st_assign (v := .bool (ok5)) rfl) rfl rfl rfl ?_
  refine wl_nil ?_
  refine wq_then ?_
  refine wc_seq ?_
  refine wc_seq ?_
  refine wc_region ?_
  refine wl_v (st_move (v := .bool (ok5)) rfl) rfl rfl rfl ?_
  refine wl_v (st_not rfl) rfl rfl rfl ?_
  refine wl_v (st_move (v := .bool (!ok5)) rfl) rfl rfl rfl ?_
  refine wl_bool (!ok5) (fun hb => ?_) (fun hb => ?_)
  · have h26 := hb
    clear hb
    have h26p : ¬ (ok5 = true) := by first | simpa using h26 | (simp at h26; omega)
    refine wl_guard_no rfl rfl rfl rfl (by rw [h26]; rfl) rfl rfl ?_
    refine wl_guard_no rfl rfl rfl rfl (by rw [h26]; rfl) rfl rfl ?_
    refine wl_v (st_pick_t (v := .bool (true)) rfl h26 rfl) rfl rfl rfl ?_
    refine wl_v (st_move (v := .bool (true)) rfl) rfl rfl rfl ?_
    refine wl_guard_no rfl rfl rfl rfl rfl rfl rfl ?_
    refine wl_guard_no rfl rfl rfl rfl rfl rfl rfl ?_
    refine wl_guard_no rfl rfl rfl rfl rfl rfl rfl ?_
    refine wl_v (st_pick_t (v := .bool (true)) rfl rfl rfl) rfl rfl rfl ?_
    refine wl_v (st_move (v := .bool (true)) rfl) rfl rfl rfl ?_
    refine wl_guard_no rfl rfl rfl rfl rfl rfl rfl ?_
    refine wl_guard_no rfl rfl rfl rfl rfl rfl rfl ?_
    refine wl_v (st_pick_t (v := .bool (true)) rfl rfl rfl) rfl rfl rfl ?_
    refine wl_v (st_move (v := .bool (true)) rfl) rfl rfl rfl ?_
    refine wl_guard_no rfl rfl rfl rfl rfl rfl rfl ?_
    refine wl_guard_no rfl rfl rfl rfl rfl rfl rfl ?_
    refine wl_guard_no rfl rfl rfl rfl rfl rfl rfl ?_
    refine wl_v (st_pick_t (v := .bool (true)) rfl rfl rfl) rfl rfl rfl ?_
    refine wl_nil ?_
    refine wq_then ?_
    refine wc_true rfl ?_
    refine wc_seq ?_
    refine wc_region ?_
    refine wl_v (st_assign (v := .int .i64 (0)) rfl) rfl rfl rfl ?_
    refine wl_v (st_assign (v := .bool (false)) rfl) rfl rfl rfl ?_
    refine wl_nil ?_
    refine wq_then ?_
    refine wc_ret ?_
    refine wq_then_ret ?_
    refine wq_ret2 (v := .int .i64 (0)) (v' := .bool (false)) rfl rfl rfl rfl ?_
    have e := evAdd_no (a := a) (b := b) (hno8 (by simpa using h26))
    rw [e]
    exact ⟨rfl, pw⟩
  · have h26 := hb
    clear hb
    have h26p : ¬ (¬ (ok5 = true)) := by first | simpa using h26 | (simp at h26; omega)
    refine wl_guard_yes rfl rfl rfl rfl (by rw [h26]; rfl) ?_
    refine wl_v (st_move (v := .int .i64 (a)) rfl) rfl rfl rfl ?_
    refine wl_guard_yes rfl rfl rfl rfl (by rw [h26]; rfl) ?_
    refine wl_v (st_lss rfl rfl) rfl rfl rfl ?_
    refine wl_v (st_pick_f (v := .bool (decide (a < 0))) rfl h26 rfl) rfl rfl rfl ?_
    refine wl_v (st_move (v := .bool (decide (a < 0))) rfl) rfl rfl rfl ?_
    refine wl_bool (decide (a < 0)) (fun hb => ?_) (fun hb => ?_)
    · have h27 := hb
      clear hb
      have h27p : a < 0 := by first | simpa using h27 | (simp at h27; omega)
      refine wl_guard_no rfl rfl rfl rfl (by rw [h27]; rfl) rfl rfl ?_
      refine wl_guard_no rfl rfl rfl rfl (by rw [h27]; rfl) rfl rfl ?_
      refine wl_guard_no rfl rfl rfl rfl (by rw [h27]; rfl) rfl rfl ?_
      refine wl_v (st_pick_t (v := .bool (true)) rfl h27 rfl) rfl rfl rfl ?_
      refine wl_v (st_move (v := .bool (true)) rfl) rfl rfl rfl ?_
      refine wl_guard_no rfl rfl rfl rfl rfl rfl rfl ?_
      refine wl_guard_no rfl rfl rfl rfl rfl rfl rfl ?_
      refine wl_v (st_pick_t (v := .bool (true)) rfl rfl rfl) rfl rfl rfl ?_
      refine wl_v (st_move (v := .bool (true)) rfl) rfl rfl rfl ?_
      refine wl_guard_no rfl rfl rfl rfl rfl rfl rfl ?_
      refine wl_guard_no rfl rfl rfl rfl rfl rfl rfl ?_
      refine wl_guard_no rfl rfl rfl rfl rfl rfl rfl ?_
      refine wl_v (st_pick_t (v := .bool (true)) rfl rfl rfl) rfl rfl rfl ?_
      refine wl_nil ?_
      refine wq_then ?_
      refine wc_true rfl ?_
      refine wc_seq ?_
      refine wc_region ?_
      refine wl_v (st_assign (v := .int .i64 (0)) rfl) rfl rfl rfl ?_
      refine wl_v (st_assign (v := .bool (false)) rfl) rfl rfl rfl ?_
      refine wl_nil ?_
      refine wq_then ?_
      refine wc_ret ?_
      refine wq_then_ret ?_
      refine wq_ret2 (v := .int .i64 (0)) (v' := .bool (false)) rfl rfl rfl rfl ?_
      have e := evAdd_out (q := q) (a := a) (b := b) (by omega)
      rw [e]
      exact ⟨rfl, pw⟩
    · have h27 := hb
      clear hb
      have h27p : ¬ (a < 0) := by first | simpa using h27 | (simp at h27; omega)
      refine wl_guard_yes rfl rfl rfl rfl (by rw [h27]; rfl) ?_
      refine wl_v (st_move (v := .int .i64 (a)) rfl) rfl rfl rfl ?_
      refine wl_guard_yes rfl rfl rfl rfl (by rw [h27]; rfl) ?_
      refine wl_v (st_move (v := .int .i64 (q)) rfl) rfl rfl rfl ?_
      refine wl_guard_yes rfl rfl rfl rfl (by rw [h27]; rfl) ?_
      refine wl_v (st_geq rfl rfl) rfl rfl rfl ?_
      refine wl_v (st_pick_f (v := .bool (decide (q ≤ a))) rfl h27 rfl) rfl rfl rfl ?_
      refine wl_v (st_move (v := .bool (decide (q ≤ a))) rfl) rfl rfl rfl ?_
      refine wl_bool (decide (q ≤ a)) (fun hb => ?_) (fun hb => ?_)
      · have h28 := hb
        clear hb
        have h28p : q ≤ a := by first | simpa using h28 | (simp at h28; omega)
        refine wl_guard_no rfl rfl rfl rfl (by rw [h28]; rfl) rfl rfl ?_
        refine wl_guard_no rfl rfl rfl rfl (by rw [h28]; rfl) rfl rfl ?_
        refine wl_v (st_pick_t (v := .bool (true)) rfl h28 rfl) rfl rfl rfl ?_
        refine wl_v (st_move (v := .bool (true)) rfl) rfl rfl rfl ?_
        refine wl_guard_no rfl rfl rfl rfl rfl rfl rfl ?_
        refine wl_guard_no rfl rfl rfl rfl rfl rfl rfl ?_
        refine wl_guard_no rfl rfl rfl rfl rfl rfl rfl ?_
        refine wl_v (st_pick_t (v := .bool (true)) rfl rfl rfl) rfl rfl rfl ?_
        refine wl_nil ?_
        refine wq_then ?_
        refine wc_true rfl ?_
        refine wc_seq ?_
        refine wc_region ?_
        refine wl_v (st_assign (v := .int .i64 (0)) rfl) rfl rfl rfl ?_
        refine wl_v (st_assign (v := .bool (false)) rfl) rfl rfl rfl ?_
        refine wl_nil ?_
        refine wq_then ?_
        refine wc_ret ?_
        refine wq_then_ret ?_
        refine wq_ret2 (v := .int .i64 (0)) (v' := .bool (false)) rfl rfl rfl rfl ?_
        have e := evAdd_out (q := q) (a := a) (b := b) (by omega)
        rw [e]
        exact ⟨rfl, pw⟩
      · have h28 := hb
        clear hb
        have h28p : ¬ (q ≤ a) := by first | simpa using h28 | (simp at h28; omega)
        refine wl_guard_yes rfl rfl rfl rfl (by rw [h28]; rfl) ?_
        refine wl_v (st_move (v := .int .i64 (b)) rfl) rfl rfl rfl ?_
        refine wl_guard_yes rfl rfl rfl rfl (by rw [h28]; rfl) ?_
        refine wl_v (st_lss rfl rfl) rfl rfl rfl ?_
        refine wl_v (st_pick_f (v := .bool (decide (b < 0))) rfl h28 rfl) rfl rfl rfl ?_
        refine wl_v (st_move (v := .bool (decide (b < 0))) rfl) rfl rfl rfl ?_
        refine wl_bool (decide (b < 0)) (fun hb => ?_) (fun hb => ?_)
        · have h29 := hb
          clear hb
          have h29p : b < 0 := by first | simpa using h29 | (simp at h29; omega)
          refine wl_guard_no rfl rfl rfl rfl (by rw [h29]; rfl) rfl rfl ?_
          refine wl_guard_no rfl rfl rfl rfl (by rw [h29]; rfl) rfl rfl ?_
          refine wl_guard_no rfl rfl rfl rfl (by rw [h29]; rfl) rfl rfl ?_
          refine wl_v (st_pick_t (v := .bool (true)) rfl h29 rfl) rfl rfl rfl ?_
          refine wl_nil ?_
          refine wq_then ?_
          refine wc_true rfl ?_
          refine wc_seq ?_
          refine wc_region ?_
          refine wl_v (st_assign (v := .int .i64 (0)) rfl) rfl rfl rfl ?_
          refine wl_v (st_assign (v := .bool (false)) rfl) rfl rfl rfl ?_
          refine wl_nil ?_
          refine wq_then ?_
          refine wc_ret ?_
          refine wq_then_ret ?_
          refine wq_ret2 (v := .int .i64 (0)) (v' := .bool (false)) rfl rfl rfl rfl ?_
          have e := evAdd_out (q := q) (a := a) (b := b) (by omega)
          rw [e]
          exact ⟨rfl, pw⟩
        · have h29 := hb
          clear hb
          have h29p : ¬ (b < 0) := by first | simpa using h29 | (simp at h29; omega)
          refine wl_guard_yes rfl rfl rfl rfl (by rw [h29]; rfl) ?_
          refine wl_v (st_move (v := .int .i64 (b)) rfl) rfl rfl rfl ?_
          refine wl_guard_yes rfl rfl rfl rfl (by rw [h29]; rfl) ?_
          refine wl_v (st_move (v := .int .i64 (q)) rfl) rfl rfl rfl ?_
          refine wl_guard_yes rfl rfl rfl rfl (by rw [h29]; rfl) ?_
          refine wl_v (st_geq rfl rfl) rfl rfl rfl ?_
          refine wl_v (st_pick_f (v := .bool (decide (q ≤ b))) rfl h29 rfl) rfl rfl rfl ?_
          refine wl_nil ?_
          refine wq_then ?_
          refine wc_cond rfl ?_ ?_
          · intro h30
            have h30p : q ≤ b := by first | simpa using h30 | (simp at h30; omega)
            refine wc_seq ?_
            refine wc_region ?_
            refine wl_v (st_assign (v := .int .i64 (0)) rfl) rfl rfl rfl ?_
            refine wl_v (st_assign (v := .bool (false)) rfl) rfl rfl rfl ?_
            refine wl_nil ?_
            refine wq_then ?_
            refine wc_ret ?_
            refine wq_then_ret ?_
            refine wq_ret2 (v := .int .i64 (0)) (v' := .bool (false)) rfl rfl rfl rfl ?_
            have e := evAdd_out (q := q) (a := a) (b := b) (by omega)
            rw [e]
            exact ⟨rfl, pw⟩
          · intro h30
            have h30p : ¬ (q ≤ b) := by first | simpa using h30 | (simp at h30; omega)
            refine wc_skip ?_
            refine wq_then ?_
            refine wc_seq ?_
            have hf := hok6 (by simpa using h26)
            have hpr := hpv7 (by simpa using h26)
            obtain ⟨hb1, hb2, hb3, hb4, hb5, hb6, hb7, hb8⟩ := fieldL_bd hf
            refine wc_region ?_
            refine wl_v (st_loadAgg (cs := [.int .i64 (p1), .int .i64 ((m2 : Int)), pv3]) ty72 rfl rfl rfl (Bk.cells hb16)) rfl rfl rfl ?_
            refine wl_v (st_move (v := .int .i64 (a)) rfl) rfl rfl rfl ?_
            refine wl_v (st_move (v := .int .i64 (b)) rfl) rfl rfl rfl ?_
            refine wl_call (vs := [.agg #[.int .i64 (p1), .int .i64 ((m2 : Int)), pv3], .int .i64 (a), .int .i64 (b)]) C57 rfl rfl (add_ok (p1) (a) (b) (m2) (pv3) _ (by omega) (by omega) (by omega) (by omega)) ?_
            rintro _ w31 ⟨rfl, hn32⟩
            have pw := pu_trans pw hn32
            have hb16 := Bk.pu hb16 hn32
            have hpr := Rep.pu hpr hn32
            have hzw31 := World.grownBy.size hn32
            refine wl_v (st_assign (v := .int .i64 (addL (p1) (m2) (a) (b))) rfl) rfl rfl rfl ?_
            refine wl_v (st_assign (v := .bool (true)) rfl) rfl rfl rfl ?_
            refine wl_nil ?_
            refine wq_then ?_
            refine wc_ret ?_
            refine wq_ret2 (v := .int .i64 (addL (p1) (m2) (a) (b))) (v' := .bool (true)) rfl rfl rfl rfl ?_
            have e := evAdd_in (a := a) (b := b) hf (by omega)
            rw [e]
            exact ⟨rfl, pw⟩

set_option maxRecDepth 100000 in
theorem Mul_ok (q a b : Int) (w : World) : Ret Tryd.prog 20 #[.int .i64 q, .int .i64 a, .int .i64 b] w fun v w' => v = .tuple #[.int .i64 (evMul q a b).1, .bool (evMul q a b).2] ∧ w.grownBy w' none := by
  refine ret_in Tryd.func20 rfl rfl rfl ?_
  have pw := pu_refl w
  refine wc_seq ?_
  refine wc_region ?_
  refine wl_v (st_assign (v := .int .i64 (0)) rfl) rfl rfl rfl ?_
  refine wl_v (st_assign (v := .bool (false)) rfl) rfl rfl rfl ?_
  refine wl_nil ?_
  refine wq_then ?_
  refine wc_seq ?_
  refine wc_region ?_
  refine wl_v (st_move (v := .int .i64 (q)) rfl) rfl rfl rfl ?_
  refine wl_call (vs := [.int .i64 (q)]) C56 rfl rfl (fieldOf2 (q) _) ?_
  rintro _ w10 ⟨hn11, p1, m2, pv3, pl4, ok5, rfl, hok6, hpv7, hno8, hone9⟩
  have pw := pu_trans pw hn11
  have hzw10 := World.grownBy.size hn11
  refine wl_v (st_move (v := .tuple #[.agg #[.int .i64 (p1), .int .i64 ((m2 : Int)), pv3], .bool (ok5)]) rfl) rfl rfl rfl ?_
  refine wl_v (st_extract (v := .agg #[.int .i64 (p1), .int .i64 ((m2 : Int)), pv3]) rfl rfl) rfl rfl rfl ?_
  refine wl_v (st_extract (v := .bool (ok5)) rfl rfl) rfl rfl rfl ?_
  refine wl_allocK (cs := [.int .i64 (0), .int .i64 (0), .slice none 0 0]) ty72 rfl rfl ?_
  intro w13 g12 hg14 hs15 hb16 hn17
  have pw := pu_trans pw hn17
  have hpv7 := fun (h : ok5 = true) => Rep.pu (hpv7 h) hn17
  refine wl_storeG (cs := [.int .i64 (p1), .int .i64 ((m2 : Int)), pv3]) hb16 ty72 rfl rfl rfl rfl (all1 rfl (all1 rfl (all1 hone9 rfl))) ?_
  intro w22 hb23 hg24 hs25
  have pw := pu_row pw hg24 (by intro q hq hlt; simp at hq; omega)
  have hpv7 := fun (h : ok5 = true) => Rep.ch (hpv7 h) hg24 (by intro q hq hlt; (try simp only [Lo, Iv]); simp at hq; omega)
  have hb16 := hb23
  refine wl_v (st_assign (v := .bool (ok5)) rfl) rfl rfl rfl ?_
  refine wl_nil ?_
  refine wq_then ?_
  refine wc_seq ?_
  refine wc_seq ?_
  refine wc_region ?_
  refine wl_v (st_move (v := .bool (ok5)) rfl) rfl rfl rfl ?_
  refine wl_v (st_not rfl) rfl rfl rfl ?_
  refine wl_v (st_move (v := .bool (!ok5)) rfl) rfl rfl rfl ?_
  refine wl_bool (!ok5) (fun hb => ?_) (fun hb => ?_)
  · have h26 := hb
    clear hb
    have h26p : ¬ (ok5 = true) := by first | simpa using h26 | (simp at h26; omega)
    refine wl_guard_no rfl rfl rfl rfl (by rw [h26]; rfl) rfl rfl ?_
    refine wl_guard_no rfl rfl rfl rfl (by rw [h26]; rfl) rfl rfl ?_
    refine wl_v (st_pick_t (v := .bool (true)) rfl h26 rfl) rfl rfl rfl ?_
    refine wl_v (st_move (v := .bool (true)) rfl) rfl rfl rfl ?_
    refine wl_guard_no rfl rfl rfl rfl rfl rfl rfl ?_
    refine wl_guard_no rfl rfl rfl rfl rfl rfl rfl ?_
    refine wl_guard_no rfl rfl rfl rfl rfl rfl rfl ?_
    refine wl_v (st_pick_t (v := .bool (true)) rfl rfl rfl) rfl rfl rfl ?_
    refine wl_v (st_move (v := .bool (true)) rfl) rfl rfl rfl ?_
    refine wl_guard_no rfl rfl rfl rfl rfl rfl rfl ?_
    refine wl_guard_no rfl rfl rfl rfl rfl rfl rfl ?_
    refine wl_v (st_pick_t (v := .bool (true)) rfl rfl rfl) rfl rfl rfl ?_
    refine wl_v (st_move (v := .bool (true)) rfl) rfl rfl rfl ?_
    refine wl_guard_no rfl rfl rfl rfl rfl rfl rfl ?_
    refine wl_guard_no rfl rfl rfl rfl rfl rfl rfl ?_
    refine wl_guard_no rfl rfl rfl rfl rfl rfl rfl ?_
    refine wl_v (st_pick_t (v := .bool (true)) rfl rfl rfl) rfl rfl rfl ?_
    refine wl_nil ?_
    refine wq_then ?_
    refine wc_true rfl ?_
    refine wc_seq ?_
    refine wc_region ?_
    refine wl_v (st_assign (v := .int .i64 (0)) rfl) rfl rfl rfl ?_
    refine wl_v (st_assign (v := .bool (false)) rfl) rfl rfl rfl ?_
    refine wl_nil ?_
    refine wq_then ?_
    refine wc_ret ?_
    refine wq_then_ret ?_
    refine wq_ret2 (v := .int .i64 (0)) (v' := .bool (false)) rfl rfl rfl rfl ?_
    have e := evMul_no (a := a) (b := b) (hno8 (by simpa using h26))
    rw [e]
    exact ⟨rfl, pw⟩
  · have h26 := hb
    clear hb
    have h26p : ¬ (¬ (ok5 = true)) := by first | simpa using h26 | (simp at h26; omega)
    refine wl_guard_yes rfl rfl rfl rfl (by rw [h26]; rfl) ?_
    refine wl_v (st_move (v := .int .i64 (a)) rfl) rfl rfl rfl ?_
    refine wl_guard_yes rfl rfl rfl rfl (by rw [h26]; rfl) ?_
    refine wl_v (st_lss rfl rfl) rfl rfl rfl ?_
    refine wl_v (st_pick_f (v := .bool (decide (a < 0))) rfl h26 rfl) rfl rfl rfl ?_
    refine wl_v (st_move (v := .bool (decide (a < 0))) rfl) rfl rfl rfl ?_
    refine wl_bool (decide (a < 0)) (fun hb => ?_) (fun hb => ?_)
    · have h27 := hb
      clear hb
      have h27p : a < 0 := by first | simpa using h27 | (simp at h27; omega)
      refine wl_guard_no rfl rfl rfl rfl (by rw [h27]; rfl) rfl rfl ?_
      refine wl_guard_no rfl rfl rfl rfl (by rw [h27]; rfl) rfl rfl ?_
      refine wl_guard_no rfl rfl rfl rfl (by rw [h27]; rfl) rfl rfl ?_
      refine wl_v (st_pick_t (v := .bool (true)) rfl h27 rfl) rfl rfl rfl ?_
      refine wl_v (st_move (v := .bool (true)) rfl) rfl rfl rfl ?_
      refine wl_guard_no rfl rfl rfl rfl rfl rfl rfl ?_
      refine wl_guard_no rfl rfl rfl rfl rfl rfl rfl ?_
      refine wl_v (st_pick_t (v := .bool (true)) rfl rfl rfl) rfl rfl rfl ?_
      refine wl_v (st_move (v := .bool (true)) rfl) rfl rfl rfl ?_
      refine wl_guard_no rfl rfl rfl rfl rfl rfl rfl ?_
      refine wl_guard_no rfl rfl rfl rfl rfl rfl rfl ?_
      refine wl_guard_no rfl rfl rfl rfl rfl rfl rfl ?_
      refine wl_v (st_pick_t (v := .bool (true)) rfl rfl rfl) rfl rfl rfl ?_
      refine wl_nil ?_
      refine wq_then ?_
      refine wc_true rfl ?_
      refine wc_seq ?_
      refine wc_region ?_
      refine wl_v (st_assign (v := .int .i64 (0)) rfl) rfl rfl rfl ?_
      refine wl_v (st_assign (v := .bool (false)) rfl) rfl rfl rfl ?_
      refine wl_nil ?_
      refine wq_then ?_
      refine wc_ret ?_
      refine wq_then_ret ?_
      refine wq_ret2 (v := .int .i64 (0)) (v' := .bool (false)) rfl rfl rfl rfl ?_
      have e := evMul_out (q := q) (a := a) (b := b) (by omega)
      rw [e]
      exact ⟨rfl, pw⟩
    · have h27 := hb
      clear hb
      have h27p : ¬ (a < 0) := by first | simpa using h27 | (simp at h27; omega)
      refine wl_guard_yes rfl rfl rfl rfl (by rw [h27]; rfl) ?_
      refine wl_v (st_move (v := .int .i64 (a)) rfl) rfl rfl rfl ?_
      refine wl_guard_yes rfl rfl rfl rfl (by rw [h27]; rfl) ?_
      refine wl_v (st_move (v := .int .i64 (q)) rfl) rfl rfl rfl ?_
      refine wl_guard_yes rfl rfl rfl rfl (by rw [h27]; rfl) ?_
      refine wl_v (st_geq rfl rfl) rfl rfl rfl ?_
      refine wl_v (st_pick_f (v := .bool (decide (q ≤ a))) rfl h27 rfl) rfl rfl rfl ?_
      refine wl_v (st_move (v := .bool (decide (q ≤ a))) rfl) rfl rfl rfl ?_
      refine wl_bool (decide (q ≤ a)) (fun hb => ?_) (fun hb => ?_)
      · have h28 := hb
        clear hb
        have h28p : q ≤ a := by first | simpa using h28 | (simp at h28; omega)
        refine wl_guard_no rfl rfl rfl rfl (by rw [h28]; rfl) rfl rfl ?_
        refine wl_guard_no rfl rfl rfl rfl (by rw [h28]; rfl) rfl rfl ?_
        refine wl_v (st_pick_t (v := .bool (true)) rfl h28 rfl) rfl rfl rfl ?_
        refine wl_v (st_move (v := .bool (true)) rfl) rfl rfl rfl ?_
        refine wl_guard_no rfl rfl rfl rfl rfl rfl rfl ?_
        refine wl_guard_no rfl rfl rfl rfl rfl rfl rfl ?_
        refine wl_guard_no rfl rfl rfl rfl rfl rfl rfl ?_
        refine wl_v (st_pick_t (v := .bool (true)) rfl rfl rfl) rfl rfl rfl ?_
        refine wl_nil ?_
        refine wq_then ?_
        refine wc_true rfl ?_
        refine wc_seq ?_
        refine wc_region ?_
        refine wl_v (st_assign (v := .int .i64 (0)) rfl) rfl rfl rfl ?_
        refine wl_v (st_assign (v := .bool (false)) rfl) rfl rfl rfl ?_
        refine wl_nil ?_
        refine wq_then ?_
        refine wc_ret ?_
        refine wq_then_ret ?_
        refine wq_ret2 (v := .int .i64 (0)) (v' := .bool (false)) rfl rfl rfl rfl ?_
        have e := evMul_out (q := q) (a := a) (b := b) (by omega)
        rw [e]
        exact ⟨rfl, pw⟩
      · have h28 := hb
        clear hb
        have h28p : ¬ (q ≤ a) := by first | simpa using h28 | (simp at h28; omega)
        refine wl_guard_yes rfl rfl rfl rfl (by rw [h28]; rfl) ?_
        refine wl_v (st_move (v := .int .i64 (b)) rfl) rfl rfl rfl ?_
        refine wl_guard_yes rfl rfl rfl rfl (by rw [h28]; rfl) ?_
        refine wl_v (st_lss rfl rfl) rfl rfl rfl ?_
        refine wl_v (st_pick_f (v := .bool (decide (b < 0))) rfl h28 rfl) rfl rfl rfl ?_
        refine wl_v (st_move (v := .bool (decide (b < 0))) rfl) rfl rfl rfl ?_
        refine wl_bool (decide (b < 0)) (fun hb => ?_) (fun hb => ?_)
        · have h29 := hb
          clear hb
          have h29p : b < 0 := by first | simpa using h29 | (simp at h29; omega)
          refine wl_guard_no rfl rfl rfl rfl (by rw [h29]; rfl) rfl rfl ?_
          refine wl_guard_no rfl rfl rfl rfl (by rw [h29]; rfl) rfl rfl ?_
          refine wl_guard_no rfl rfl rfl rfl (by rw [h29]; rfl) rfl rfl ?_
          refine wl_v (st_pick_t (v := .bool (true)) rfl h29 rfl) rfl rfl rfl ?_
          refine wl_nil ?_
          refine wq_then ?_
          refine wc_true rfl ?_
          refine wc_seq ?_
          refine wc_region ?_
          refine wl_v (st_assign (v := .int .i64 (0)) rfl) rfl rfl rfl ?_
          refine wl_v (st_assign (v := .bool (false)) rfl) rfl rfl rfl ?_
          refine wl_nil ?_
          refine wq_then ?_
          refine wc_ret ?_
          refine wq_then_ret ?_
          refine wq_ret2 (v := .int .i64 (0)) (v' := .bool (false)) rfl rfl rfl rfl ?_
          have e := evMul_out (q := q) (a := a) (b := b) (by omega)
          rw [e]
          exact ⟨rfl, pw⟩
        · have h29 := hb
          clear hb
          have h29p : ¬ (b < 0) := by first | simpa using h29 | (simp at h29; omega)
          refine wl_guard_yes rfl rfl rfl rfl (by rw [h29]; rfl) ?_
          refine wl_v (st_move (v := .int .i64 (b)) rfl) rfl rfl rfl ?_
          refine wl_guard_yes rfl rfl rfl rfl (by rw [h29]; rfl) ?_
          refine wl_v (st_move (v := .int .i64 (q)) rfl) rfl rfl rfl ?_
          refine wl_guard_yes rfl rfl rfl rfl (by rw [h29]; rfl) ?_
          refine wl_v (st_geq rfl rfl) rfl rfl rfl ?_
          refine wl_v (st_pick_f (v := .bool (decide (q ≤ b))) rfl h29 rfl) rfl rfl rfl ?_
          refine wl_nil ?_
          refine wq_then ?_
          refine wc_cond rfl ?_ ?_
          · intro h30
            have h30p : q ≤ b := by first | simpa using h30 | (simp at h30; omega)
            refine wc_seq ?_
            refine wc_region ?_
            refine wl_v (st_assign (v := .int .i64 (0)) rfl) rfl rfl rfl ?_
            refine wl_v (st_assign (v := .bool (false)) rfl) rfl rfl rfl ?_
            refine wl_nil ?_
            refine wq_then ?_
            refine wc_ret ?_
            refine wq_then_ret ?_
            refine wq_ret2 (v := .int .i64 (0)) (v' := .bool (false)) rfl rfl rfl rfl ?_
            have e := evMul_out (q := q) (a := a) (b := b) (by omega)
            rw [e]
            exact ⟨rfl, pw⟩
          · intro h30
            have h30p : ¬ (q ≤ b) := by first | simpa using h30 | (simp at h30; omega)
            refine wc_skip ?_
            refine wq_then ?_
            refine wc_seq ?_
            have hf := hok6 (by simpa using h26)
            have hpr := hpv7 (by simpa using h26)
            obtain ⟨hb1, hb2, hb3, hb4, hb5, hb6, hb7, hb8⟩ := fieldL_bd hf
            refine wc_region ?_
            refine wl_v (st_loadAgg (cs := [.int .i64 (p1), .int .i64 ((m2 : Int)), pv3]) ty72 rfl rfl rfl (Bk.cells hb16)) rfl rfl rfl ?_
            refine wl_v (st_move (v := .int .i64 (a)) rfl) rfl rfl rfl ?_
            refine wl_v (st_move (v := .int .i64 (b)) rfl) rfl rfl rfl ?_
            refine wl_call (vs := [.agg #[.int .i64 (p1), .int .i64 ((m2 : Int)), pv3], .int .i64 (a), .int .i64 (b)]) C58 rfl rfl (mul_ok (p1) (a) (b) (m2) (pv3) (pl4) _ _ (by omega) (by omega) (by omega) (by omega) (by omega) hb6 hpr) ?_
            rintro _ w31 ⟨rfl, hn32⟩
            have pw := pu_trans pw hn32
            have hb16 := Bk.pu hb16 hn32
            have hpr := Rep.pu hpr hn32
            have hzw31 := World.grownBy.size hn32
            refine wl_v (st_assign (v := .int .i64 (mulL (p1) (m2) (pl4) (a) (b))) rfl) rfl rfl rfl ?_
            refine wl_v (st_assign (v := .bool (true)) rfl) rfl rfl rfl ?_
            refine wl_nil ?_
            refine wq_then ?_
            refine wc_ret ?_
            refine wq_ret2 (v := .int .i64 (mulL (p1) (m2) (pl4) (a) (b))) (v' := .bool (true)) rfl rfl rfl rfl ?_
            have e := evMul_in (a := a) (b := b) hf (by omega)
            rw [e]
            exact ⟨rfl, pw⟩

end Go.Proofs.YthofgamegondnaaDoor
