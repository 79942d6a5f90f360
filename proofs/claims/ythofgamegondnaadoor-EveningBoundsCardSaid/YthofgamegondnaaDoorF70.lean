/- A function of plain data that the program's function 70 computes. By a program of mine. -/
import Derived.Test.YthofgamegondnaaDoorCx
namespace Go.Proofs.YthofgamegondnaaDoor
open Go.RowKit
/- trestle/trestleref09.Fit -/
noncomputable def e_ref09_Fit : Env := E0
theorem e_ref09_Fit_ok : EnvOk e_ref09_Fit := E0_ok
def ref09_Fit_1 (x0 : Int) (x1 : (List Int)) : Nat → Int → Int → Option ((Int) ⊕ (Bool))
  | 0, _, _ => none
  | f + 1, c1, c2 =>
    if (decide (c2 < (x1.length : Int))) = true then
    (idx x1 c2).bind fun v4 =>
    (if (decide (v4 < 1)) = true then some true else (idx x1 c2).bind fun v5 =>
    if (decide (v5 > 64)) = true then some true else some (decide (c1 > 64))).bind fun j7 =>
    if j7 = true then
    some (.inr false)
    else
    (idx x1 c2).bind fun v10 =>
    ref09_Fit_1 x0 x1 f (wr .i64 (c1 + v10)) (wr .i64 (c2 + 1))
    else
    some (.inl c1)
def ref09_Fit (x0 : Int) (x1 : (List Int)) : Option (Bool) :=
  (ref09_Fit_1 x0 x1 100000 0 0).bind fun r14 =>
  match r14 with
  | (.inl w15) =>
    (if (decide (x0 ≥ 1)) = true then if (decide (x0 ≤ 64)) = true then some (w15 == x0) else some false else some false).bind fun j17 =>
    some j17
  | (.inr w20) =>
    some w20
def cs_ref09_Fit : Cs (Int × (List Int) × Unit) := (csC cdI (csC (cdL 1 cdI) csN))
def er_ref09_Fit (r : Bool) : AV := cdB.enc r
noncomputable def cb_ref09_Fit : Code := codeOf Tryd.f70
set_option maxRecDepth 100000 in
theorem ref09_Fit_1_ok (x0 : Int) (x1 : (List Int)) : ∀ (f : Nat) (c1 : Int) (c2 : Int) (r : (Int) ⊕ (Bool)), ref09_Fit_1 x0 x1 f c1 c2 = some r → SemN e_ref09_Fit ⟨none, false⟩ (pc cb_ref09_Fit [1, 1, 0, 1, 0, 0]) f ⟨Fr 46 [(0, .v (.int .i64 x0)), (1, .sl 1 (x1.map cdI.enc)), (5, .v (.int .i64 c1)), (6, .v (.int .i64 c2))], []⟩ (fun e s => match r with
  | (.inl w) => e = (.exit 0) ∧ Wk e_ref09_Fit s ⟨Fr 46 [(0, .v (.int .i64 x0)), (5, .v (.int .i64 w))], []⟩
  | (.inr w) => e = .ret ∧ Wk e_ref09_Fit s ⟨Fr 46 [(4, .v (.bool w))], []⟩) := by
  intro f
  induction f with
  | zero => intro c1 c2 r h; cases h
  | succ f ih0 =>
    intro c1 c2 r h
    have ih := fun (c1 : Int) (c2 : Int) => ih0 c1 c2 r
    unfold ref09_Fit_1 at h
    refine SemN.succ ?_
    refine Sem.seq ?_
    refine Sem.seq ?_
    refine Sem.runS (s1 := ⟨Fr 46 [(0, .v (.int .i64 x0)), (1, .sl 1 (x1.map cdI.enc)), (5, .v (.int .i64 c1)), (6, .v (.int .i64 c2)), (10, .v (.bool (decide (c2 < (x1.length : Int)))))], []⟩) ?_ ?_
    · refine RunS.seg e_ref09_Fit_ok 2 (s1 := ⟨Fr 46 [(0, .v (.int .i64 x0)), (1, .sl 1 (x1.map cdI.enc)), (5, .v (.int .i64 c1)), (6, .v (.int .i64 c2)), (7, .v (.int .i64 c2)), (8, .sl 1 (x1.map cdI.enc))], []⟩) (by kernel_rfl) ?_
      refine RunS.one e_ref09_Fit_ok 0 rfl (op_q (wantedA_none rfl) rfl (q_len (a := .sl 1 (x1.map cdI.enc)) (by kernel_rfl) (len_sl (el := 3) (by kernel_rfl)))) ?_
      refine RunS.seg e_ref09_Fit_ok 1 (s1 := ⟨Fr 46 [(0, .v (.int .i64 x0)), (1, .sl 1 (x1.map cdI.enc)), (5, .v (.int .i64 c1)), (6, .v (.int .i64 c2)), (7, .v (.int .i64 c2)), (8, .sl 1 (x1.map cdI.enc)), (9, .v (.int .i64 (x1.length : Int))), (10, .v (.bool (decide (c2 < (x1.length : Int)))))], []⟩) (by kernel_rfl) ?_
      exact RunS.done rfl (Wk.fr (by kernel_rfl))
    refine Sem.cond (b := (decide (c2 < (x1.length : Int)))) (by kernel_rfl) (fun hb3 => ?_) (fun hb3 => ?_)
    · rw [if_pos hb3] at h
      refine Sem.skip ?_
      refine Sem.seq ?_
      refine Sem.block ?_
      refine Sem.seq ?_
      refine Sem.seq ?_
      obtain ⟨v4, hv4, h⟩ := Option.bind_eq_some_iff.1 h
      obtain ⟨j7, hj7, h⟩ := Option.bind_eq_some_iff.1 h
      refine Sem.runS (s1 := ⟨Fr 46 [(0, .v (.int .i64 x0)), (1, .sl 1 (x1.map cdI.enc)), (5, .v (.int .i64 c1)), (6, .v (.int .i64 c2)), (28, .v (.bool j7))], []⟩) ?_ ?_
      · refine RunS.seg e_ref09_Fit_ok 2 (s1 := ⟨Fr 46 [(0, .v (.int .i64 x0)), (1, .sl 1 (x1.map cdI.enc)), (5, .v (.int .i64 c1)), (6, .v (.int .i64 c2)), (10, .v (.bool (decide (c2 < (x1.length : Int))))), (13, .sl 1 (x1.map cdI.enc)), (14, .v (.int .i64 c2))], []⟩) (by kernel_rfl) ?_
        refine RunS.one e_ref09_Fit_ok 0 rfl (op_q (wantedA_none rfl) rfl (q_indexAddr (a := .sl 1 (x1.map cdI.enc)) (b := .v (.int .i64 c2)) (by kernel_rfl) (by kernel_rfl) (ix_sl (e := cdI.enc) (el := 3) (k := 1) (ki := .i64) (by kernel_rfl) (by kernel_rfl) hv4))) ?_
        refine RunS.seg e_ref09_Fit_ok 3 (s1 := ⟨Fr 46 [(0, .v (.int .i64 x0)), (1, .sl 1 (x1.map cdI.enc)), (5, .v (.int .i64 c1)), (6, .v (.int .i64 c2)), (10, .v (.bool (decide (c2 < (x1.length : Int))))), (13, .sl 1 (x1.map cdI.enc)), (14, .v (.int .i64 c2)), (15, .pe (.v (.int .i64 v4)) 0), (16, .v (.int .i64 v4)), (17, .v (.bool (decide (v4 < 1)))), (18, .v (.bool (decide (v4 < 1))))], []⟩) (by kernel_rfl) ?_
        rcases Bool.eq_false_or_eq_true (decide (v4 < 1)) with hc11 | hc11
        · rw [if_pos hc11] at hj7
          rw [hc11]
          refine RunS.seg e_ref09_Fit_ok 10 (s1 := ⟨Fr 46 [(0, .v (.int .i64 x0)), (1, .sl 1 (x1.map cdI.enc)), (5, .v (.int .i64 c1)), (6, .v (.int .i64 c2)), (10, .v (.bool (decide (c2 < (x1.length : Int))))), (13, .sl 1 (x1.map cdI.enc)), (14, .v (.int .i64 c2)), (15, .pe (.v (.int .i64 v4)) 0), (16, .v (.int .i64 v4)), (17, .v (.bool true)), (18, .v (.bool true)), (19, .tp []), (20, .tp []), (21, .tp []), (22, .tp []), (23, .tp []), (24, .v (.bool true)), (25, .v (.bool true)), (26, .tp []), (27, .tp []), (28, .v (.bool true))], []⟩) (by kernel_rfl) ?_
          have hq := Option.some.inj hj7; subst hq
          exact RunS.done rfl (Wk.fr (by kernel_rfl))
        · rw [if_f hc11] at hj7
          rw [hc11]
          refine RunS.seg e_ref09_Fit_ok 2 (s1 := ⟨Fr 46 [(0, .v (.int .i64 x0)), (1, .sl 1 (x1.map cdI.enc)), (5, .v (.int .i64 c1)), (6, .v (.int .i64 c2)), (10, .v (.bool (decide (c2 < (x1.length : Int))))), (13, .sl 1 (x1.map cdI.enc)), (14, .v (.int .i64 c2)), (15, .pe (.v (.int .i64 v4)) 0), (16, .v (.int .i64 v4)), (17, .v (.bool false)), (18, .v (.bool false)), (19, .sl 1 (x1.map cdI.enc)), (20, .v (.int .i64 c2))], []⟩) (by kernel_rfl) ?_
          obtain ⟨v5, hv5, hj7⟩ := Option.bind_eq_some_iff.1 hj7
          refine RunS.one e_ref09_Fit_ok 0 rfl (op_q (by kernel_rfl) rfl (q_indexAddr (a := .sl 1 (x1.map cdI.enc)) (b := .v (.int .i64 c2)) (by kernel_rfl) (by kernel_rfl) (ix_sl (e := cdI.enc) (el := 3) (k := 1) (ki := .i64) (by kernel_rfl) (by kernel_rfl) hv5))) ?_
          refine RunS.seg e_ref09_Fit_ok 4 (s1 := ⟨Fr 46 [(0, .v (.int .i64 x0)), (1, .sl 1 (x1.map cdI.enc)), (5, .v (.int .i64 c1)), (6, .v (.int .i64 c2)), (10, .v (.bool (decide (c2 < (x1.length : Int))))), (13, .sl 1 (x1.map cdI.enc)), (14, .v (.int .i64 c2)), (15, .pe (.v (.int .i64 v4)) 0), (16, .v (.int .i64 v4)), (17, .v (.bool false)), (18, .v (.bool false)), (19, .sl 1 (x1.map cdI.enc)), (20, .v (.int .i64 c2)), (21, .pe (.v (.int .i64 v5)) 0), (22, .v (.int .i64 v5)), (23, .v (.bool (decide (v5 > 64)))), (24, .v (.bool (decide (v5 > 64)))), (25, .v (.bool (decide (v5 > 64))))], []⟩) (by kernel_rfl) ?_
          rcases Bool.eq_false_or_eq_true (decide (v5 > 64)) with hc12 | hc12
          · rw [if_pos hc12] at hj7
            rw [hc12]
            refine RunS.seg e_ref09_Fit_ok 3 (s1 := ⟨Fr 46 [(0, .v (.int .i64 x0)), (1, .sl 1 (x1.map cdI.enc)), (5, .v (.int .i64 c1)), (6, .v (.int .i64 c2)), (10, .v (.bool (decide (c2 < (x1.length : Int))))), (13, .sl 1 (x1.map cdI.enc)), (14, .v (.int .i64 c2)), (15, .pe (.v (.int .i64 v4)) 0), (16, .v (.int .i64 v4)), (17, .v (.bool false)), (18, .v (.bool false)), (19, .sl 1 (x1.map cdI.enc)), (20, .v (.int .i64 c2)), (21, .pe (.v (.int .i64 v5)) 0), (22, .v (.int .i64 v5)), (23, .v (.bool true)), (24, .v (.bool true)), (25, .v (.bool true)), (26, .tp []), (27, .tp []), (28, .v (.bool true))], []⟩) (by kernel_rfl) ?_
            have hq := Option.some.inj hj7; subst hq
            exact RunS.done rfl (Wk.fr (by kernel_rfl))
          · rw [if_f hc12] at hj7
            rw [hc12]
            refine RunS.seg e_ref09_Fit_ok 3 (s1 := ⟨Fr 46 [(0, .v (.int .i64 x0)), (1, .sl 1 (x1.map cdI.enc)), (5, .v (.int .i64 c1)), (6, .v (.int .i64 c2)), (10, .v (.bool (decide (c2 < (x1.length : Int))))), (13, .sl 1 (x1.map cdI.enc)), (14, .v (.int .i64 c2)), (15, .pe (.v (.int .i64 v4)) 0), (16, .v (.int .i64 v4)), (17, .v (.bool false)), (18, .v (.bool false)), (19, .sl 1 (x1.map cdI.enc)), (20, .v (.int .i64 c2)), (21, .pe (.v (.int .i64 v5)) 0), (22, .v (.int .i64 v5)), (23, .v (.bool false)), (24, .v (.bool false)), (25, .v (.bool false)), (26, .v (.int .i64 c1)), (27, .v (.bool (decide (c1 > 64)))), (28, .v (.bool (decide (c1 > 64))))], []⟩) (by kernel_rfl) ?_
            have hq := Option.some.inj hj7; subst hq
            exact RunS.done rfl (Wk.fr (by kernel_rfl))
      refine Sem.cond (b := j7) (by kernel_rfl) (fun hb8 => ?_) (fun hb8 => ?_)
      · rw [if_pos hb8] at h
        refine Sem.seq ?_
        refine Sem.runS (s1 := ⟨Fr 46 [(4, .v (.bool false))], []⟩) ?_ ?_
        · refine RunS.seg e_ref09_Fit_ok 1 (s1 := ⟨Fr 46 [(0, .v (.int .i64 x0)), (1, .sl 1 (x1.map cdI.enc)), (4, .v (.bool false)), (5, .v (.int .i64 c1)), (6, .v (.int .i64 c2)), (28, .v (.bool j7))], []⟩) (by kernel_rfl) ?_
          exact RunS.done rfl (Wk.fr (by kernel_rfl))
        refine Sem.ret ?_
        have hq := Option.some.inj h; subst hq
        exact ⟨rfl, (Wk.fr (by kernel_rfl))⟩
      · rw [if_f hb8] at h
        refine Sem.skip ?_
        obtain ⟨v10, hv10, h⟩ := Option.bind_eq_some_iff.1 h
        refine Sem.runS (s1 := ⟨Fr 46 [(0, .v (.int .i64 x0)), (1, .sl 1 (x1.map cdI.enc)), (5, .v (.int .i64 (wr .i64 (c1 + v10)))), (6, .v (.int .i64 c2))], []⟩) ?_ ?_
        · refine RunS.seg e_ref09_Fit_ok 3 (s1 := ⟨Fr 46 [(0, .v (.int .i64 x0)), (1, .sl 1 (x1.map cdI.enc)), (5, .v (.int .i64 c1)), (6, .v (.int .i64 c2)), (28, .v (.bool j7)), (29, .v (.int .i64 c1)), (30, .sl 1 (x1.map cdI.enc)), (31, .v (.int .i64 c2))], []⟩) (by kernel_rfl) ?_
          refine RunS.one e_ref09_Fit_ok 0 rfl (op_q (wantedA_none rfl) rfl (q_indexAddr (a := .sl 1 (x1.map cdI.enc)) (b := .v (.int .i64 c2)) (by kernel_rfl) (by kernel_rfl) (ix_sl (e := cdI.enc) (el := 3) (k := 1) (ki := .i64) (by kernel_rfl) (by kernel_rfl) hv10))) ?_
          refine RunS.seg e_ref09_Fit_ok 3 (s1 := ⟨Fr 46 [(0, .v (.int .i64 x0)), (1, .sl 1 (x1.map cdI.enc)), (5, .v (.int .i64 (wr .i64 (c1 + v10)))), (6, .v (.int .i64 c2)), (28, .v (.bool j7)), (29, .v (.int .i64 c1)), (30, .sl 1 (x1.map cdI.enc)), (31, .v (.int .i64 c2)), (32, .pe (.v (.int .i64 v10)) 0), (33, .v (.int .i64 v10)), (34, .v (.int .i64 (wr .i64 (c1 + v10))))], []⟩) (by kernel_rfl) ?_
          exact RunS.done rfl (Wk.fr (by kernel_rfl))
        refine Sem.runS (s1 := ⟨Fr 46 [(0, .v (.int .i64 x0)), (1, .sl 1 (x1.map cdI.enc)), (5, .v (.int .i64 (wr .i64 (c1 + v10)))), (6, .v (.int .i64 (wr .i64 (c2 + 1))))], []⟩) ?_ ?_
        · refine RunS.seg e_ref09_Fit_ok 3 (s1 := ⟨Fr 46 [(0, .v (.int .i64 x0)), (1, .sl 1 (x1.map cdI.enc)), (5, .v (.int .i64 (wr .i64 (c1 + v10)))), (6, .v (.int .i64 (wr .i64 (c2 + 1)))), (11, .v (.int .i64 c2)), (12, .v (.int .i64 (wr .i64 (c2 + 1))))], []⟩) (by kernel_rfl) ?_
          exact RunS.done rfl (Wk.fr (by kernel_rfl))
        exact SemN.wk (s1 := ⟨Fr 46 [(0, .v (.int .i64 x0)), (1, .sl 1 (x1.map cdI.enc)), (5, .v (.int .i64 (wr .i64 (c1 + v10)))), (6, .v (.int .i64 (wr .i64 (c2 + 1))))], []⟩) (Wk.fr (by kernel_rfl)) (ih (wr .i64 (c1 + v10)) (wr .i64 (c2 + 1)) h)
    · rw [if_f hb3] at h
      refine Sem.exit ?_
      have hq := Option.some.inj h; subst hq
      exact ⟨rfl, (Wk.fr (by kernel_rfl))⟩
set_option maxRecDepth 100000 in
theorem ref09_Fit_sem (x0 : Int) (x1 : (List Int)) (r : Bool) (h : ref09_Fit x0 x1 = some r) : Sem e_ref09_Fit ⟨none, false⟩ cb_ref09_Fit ⟨Fr 46 (pairs0 0 (cs_ref09_Fit.enc (x0, x1, ()))), []⟩ fun e s' => (e = .normal ∨ e = .ret) ∧ ∃ xs, resA e_ref09_Fit.P s'.fr s'.hp Tryd.f70.results.toList = some xs ∧ retA xs = er_ref09_Fit r := by
  unfold ref09_Fit at h
  refine Sem.wkQ (Sem.wk (s1 := ⟨Fr 46 [(0, .v (.int .i64 x0)), (1, .sl 1 (x1.map cdI.enc))], []⟩) (Wk.fr (by kernel_rfl)) ?_)
  refine Sem.seq ?_
  refine Sem.runS (s1 := ⟨Fr 46 [(0, .v (.int .i64 x0)), (1, .sl 1 (x1.map cdI.enc))], []⟩) ?_ ?_
  · refine RunS.seg e_ref09_Fit_ok 1 (s1 := ⟨Fr 46 [(0, .v (.int .i64 x0)), (1, .sl 1 (x1.map cdI.enc)), (4, .v (.bool false))], []⟩) (by kernel_rfl) ?_
    exact RunS.done rfl (Wk.fr (by kernel_rfl))
  refine Sem.seq ?_
  refine Sem.runS (s1 := ⟨Fr 46 [(0, .v (.int .i64 x0)), (1, .sl 1 (x1.map cdI.enc)), (5, .v (.int .i64 0))], []⟩) ?_ ?_
  · refine RunS.seg e_ref09_Fit_ok 1 (s1 := ⟨Fr 46 [(0, .v (.int .i64 x0)), (1, .sl 1 (x1.map cdI.enc)), (5, .v (.int .i64 0))], []⟩) (by kernel_rfl) ?_
    exact RunS.done rfl (Wk.fr (by kernel_rfl))
  refine Sem.seq ?_
  refine Sem.seq ?_
  refine Sem.runS (s1 := ⟨Fr 46 [(0, .v (.int .i64 x0)), (1, .sl 1 (x1.map cdI.enc)), (5, .v (.int .i64 0)), (6, .v (.int .i64 0))], []⟩) ?_ ?_
  · refine RunS.seg e_ref09_Fit_ok 1 (s1 := ⟨Fr 46 [(0, .v (.int .i64 x0)), (1, .sl 1 (x1.map cdI.enc)), (5, .v (.int .i64 0)), (6, .v (.int .i64 0))], []⟩) (by kernel_rfl) ?_
    exact RunS.done rfl (Wk.fr (by kernel_rfl))
  refine Sem.block ?_
  obtain ⟨r14, hr14, h⟩ := Option.bind_eq_some_iff.1 h
  refine Sem.loop (n := 100000) ?_
  rcases r14 with w15 | w20
  · refine Sem.cutN (SemN.wk (s1 := ⟨Fr 46 [(0, .v (.int .i64 x0)), (1, .sl 1 (x1.map cdI.enc)), (5, .v (.int .i64 0)), (6, .v (.int .i64 0))], []⟩) (Wk.fr (by kernel_rfl)) (ref09_Fit_1_ok x0 x1 _ 0 0 _ hr14)) ?_
    refine Sem.seq ?_
    obtain ⟨j17, hj17, h⟩ := Option.bind_eq_some_iff.1 h
    refine Sem.runS (s1 := ⟨Fr 46 [(4, .v (.bool j17))], []⟩) ?_ ?_
    · refine RunS.seg e_ref09_Fit_ok 3 (s1 := ⟨Fr 46 [(0, .v (.int .i64 x0)), (5, .v (.int .i64 w15)), (35, .v (.int .i64 x0)), (36, .v (.bool (decide (x0 ≥ 1)))), (37, .v (.bool (decide (x0 ≥ 1))))], []⟩) (by kernel_rfl) ?_
      rcases Bool.eq_false_or_eq_true (decide (x0 ≥ 1)) with hc18 | hc18
      · rw [if_pos hc18] at hj17
        rw [hc18]
        refine RunS.seg e_ref09_Fit_ok 4 (s1 := ⟨Fr 46 [(0, .v (.int .i64 x0)), (5, .v (.int .i64 w15)), (35, .v (.int .i64 x0)), (36, .v (.bool true)), (37, .v (.bool true)), (38, .v (.int .i64 x0)), (39, .v (.bool (decide (x0 ≤ 64)))), (40, .v (.bool (decide (x0 ≤ 64)))), (41, .v (.bool (decide (x0 ≤ 64))))], []⟩) (by kernel_rfl) ?_
        rcases Bool.eq_false_or_eq_true (decide (x0 ≤ 64)) with hc19 | hc19
        · rw [if_pos hc19] at hj17
          rw [hc19]
          refine RunS.seg e_ref09_Fit_ok 5 (s1 := ⟨Fr 46 [(0, .v (.int .i64 x0)), (4, .v (.bool (w15 == x0))), (5, .v (.int .i64 w15)), (35, .v (.int .i64 x0)), (36, .v (.bool true)), (37, .v (.bool true)), (38, .v (.int .i64 x0)), (39, .v (.bool true)), (40, .v (.bool true)), (41, .v (.bool true)), (42, .v (.int .i64 w15)), (43, .v (.int .i64 x0)), (44, .v (.bool (w15 == x0))), (45, .v (.bool (w15 == x0)))], []⟩) (by kernel_rfl) ?_
          have hq := Option.some.inj hj17; subst hq
          exact RunS.done rfl (Wk.fr (by kernel_rfl))
        · rw [if_f hc19] at hj17
          rw [hc19]
          refine RunS.seg e_ref09_Fit_ok 5 (s1 := ⟨Fr 46 [(0, .v (.int .i64 x0)), (4, .v (.bool false)), (5, .v (.int .i64 w15)), (35, .v (.int .i64 x0)), (36, .v (.bool true)), (37, .v (.bool true)), (38, .v (.int .i64 x0)), (39, .v (.bool false)), (40, .v (.bool false)), (41, .v (.bool false)), (42, .tp []), (43, .tp []), (44, .tp []), (45, .v (.bool false))], []⟩) (by kernel_rfl) ?_
          have hq := Option.some.inj hj17; subst hq
          exact RunS.done rfl (Wk.fr (by kernel_rfl))
      · rw [if_f hc18] at hj17
        rw [hc18]
        refine RunS.seg e_ref09_Fit_ok 9 (s1 := ⟨Fr 46 [(0, .v (.int .i64 x0)), (4, .v (.bool false)), (5, .v (.int .i64 w15)), (35, .v (.int .i64 x0)), (36, .v (.bool false)), (37, .v (.bool false)), (38, .tp []), (39, .tp []), (40, .v (.bool false)), (41, .v (.bool false)), (42, .tp []), (43, .tp []), (44, .tp []), (45, .v (.bool false))], []⟩) (by kernel_rfl) ?_
        have hq := Option.some.inj hj17; subst hq
        exact RunS.done rfl (Wk.fr (by kernel_rfl))
    refine Sem.ret ?_
    have hq := Option.some.inj h; subst hq
    exact ⟨⟨Fr 46 [(4, .v (.bool j17))], []⟩, (Wk.fr (by kernel_rfl)), .inr rfl, [.v (.bool j17)], (by kernel_rfl), (by kernel_rfl)⟩
  · refine Sem.cutN (SemN.wk (s1 := ⟨Fr 46 [(0, .v (.int .i64 x0)), (1, .sl 1 (x1.map cdI.enc)), (5, .v (.int .i64 0)), (6, .v (.int .i64 0))], []⟩) (Wk.fr (by kernel_rfl)) (ref09_Fit_1_ok x0 x1 _ 0 0 _ hr14)) ?_
    have hq := Option.some.inj h; subst hq
    exact ⟨⟨Fr 46 [(4, .v (.bool w20))], []⟩, (Wk.fr (by kernel_rfl)), .inr rfl, [.v (.bool w20)], (by kernel_rfl), (by kernel_rfl)⟩
def t_ref09_Fit : List AV → Option AV := told cs_ref09_Fit (fun a => ref09_Fit a.1 a.2.1) er_ref09_Fit
theorem x_ref09_Fit : XOk 70 t_ref09_Fit := by
  refine EnvOk.x (E := e_ref09_Fit) (contract_ok e_ref09_Fit_ok (fn := Tryd.f70) (c := cb_ref09_Fit) ?h1 ?h2 ⟨Tryd.call70⟩ cs_ref09_Fit (fun a => ref09_Fit a.1 a.2.1) er_ref09_Fit (fun a => (by show 2 ≤ 46; decide)) ?h3 ?h4) rfl rfl
  case h1 => kernel_rfl
  case h2 => kernel_rfl
  case h3 => intro b; kernel_rfl
  case h4 => exact fun a b h => ref09_Fit_sem a.1 a.2.1 b h
end Go.Proofs.YthofgamegondnaaDoor
