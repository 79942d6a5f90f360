/- Lemmas for the proof. -/
import Derived.Test.YthofgamegondnaaDoorEveningChecksM1
import Derived.Test.YthofgamegondnaaDoorEveningChecksM2
import Derived.Test.YthofgamegondnaaDoorEveningChecksM3
import Derived.Test.YthofgamegondnaaDoorEveningChecksM4
namespace Go.Proofs.YthofgamegondnaaDoor
open Go.RowKit
/- trestle/trestleref09.CheckEvening -/
noncomputable def e_ref09_CheckEvening : Env := (E0.withX 98 t_ref09_times)
theorem e_ref09_CheckEvening_ok : EnvOk e_ref09_CheckEvening := (EnvOk.withX E0_ok x_ref09_times.1 x_ref09_times.2)
def ref09_CheckEvening_1 (x0 : Int) (x1 : (List Int)) (x2 : (List (List Int))) : Nat → Int → Option ((Unit) ⊕ (Int))
  | 0, _ => none
  | f + 1, c4 =>
    if (decide (c4 < (x2.length : Int))) = true then
    (idx x2 c4).bind fun v6 =>
    (if ((v6.length : Int) == 0) = true then some true else if (decide ((x1.length : Int) > 0)) = true then (idx x1 c4).bind fun v7 =>
    (idx x2 c4).bind fun v8 =>
    some (v7 != (v8.length : Int)) else some false).bind fun j10 =>
    if j10 = true then
    some (.inr 2)
    else
    ref09_CheckEvening_1 x0 x1 x2 f (wr .i64 (c4 + 1))
    else
    some (.inl ())
def ref09_CheckEvening_3 (x0 : Int) (x2 : (List (List Int))) (c17 : Int) : Nat → Int → Option ((Unit) ⊕ (Int))
  | 0, _ => none
  | f + 1, c19 =>
    (idx x2 c17).bind fun v20 =>
    if (decide (c19 < (v20.length : Int))) = true then
    (idx x2 c17).bind fun v22 =>
    (idx v22 c19).bind fun v23 =>
    (if (decide (v23 < 0)) = true then some true else (idx x2 c17).bind fun v24 =>
    (idx v24 c19).bind fun v25 =>
    some (decide (v25 ≥ x0))).bind fun j27 =>
    if j27 = true then
    some (.inr 6)
    else
    ref09_CheckEvening_3 x0 x2 c17 f (wr .i64 (c19 + 1))
    else
    some (.inl ())
def ref09_CheckEvening_2 (x0 : Int) (x2 : (List (List Int))) : Nat → Int → Option ((Unit) ⊕ (Int))
  | 0, _ => none
  | f + 1, c17 =>
    if (decide (c17 < (x2.length : Int))) = true then
    (ref09_CheckEvening_3 x0 x2 c17 100000 0).bind fun r31 =>
    match r31 with
    | (.inl w32) =>
      ref09_CheckEvening_2 x0 x2 f (wr .i64 (c17 + 1))
    | (.inr w33) =>
      some (.inr w33)
    else
    some (.inl ())
def ref09_CheckEvening_4 (x0 : Int) (x2 : (List (List Int))) : Nat → Int → Option ((Unit) ⊕ (Int))
  | 0, _ => none
  | f + 1, c37 =>
    if (decide (c37 < x0)) = true then
    (ref09_times x2 c37).bind fun v39 =>
    if (decide (v39 > 1)) = true then
    some (.inr 5)
    else
    ref09_CheckEvening_4 x0 x2 f (wr .i64 (c37 + 1))
    else
    some (.inl ())
def ref09_CheckEvening_5 (x0 : Int) (x2 : (List (List Int))) : Nat → Int → Option ((Unit) ⊕ (Int))
  | 0, _ => none
  | f + 1, c44 =>
    if (decide (c44 < x0)) = true then
    (ref09_times x2 c44).bind fun v46 =>
    if (v46 == 0) = true then
    some (.inr 2)
    else
    ref09_CheckEvening_5 x0 x2 f (wr .i64 (c44 + 1))
    else
    some (.inl ())
def ref09_CheckEvening (x0 : Int) (x1 : (List Int)) (x2 : (List (List Int))) : Option (Int) :=
  (if (decide ((x1.length : Int) > 0)) = true then some ((x1.length : Int) != (x2.length : Int)) else some false).bind fun j2 =>
  if j2 = true then
  some 2
  else
  (ref09_CheckEvening_1 x0 x1 x2 100000 0).bind fun r15 =>
  match r15 with
  | (.inl w16) =>
    (ref09_CheckEvening_2 x0 x2 100000 0).bind fun r35 =>
    match r35 with
    | (.inl w36) =>
      (ref09_CheckEvening_4 x0 x2 100000 0).bind fun r42 =>
      match r42 with
      | (.inl w43) =>
        (ref09_CheckEvening_5 x0 x2 100000 0).bind fun r49 =>
        match r49 with
        | (.inl w50) =>
          some 0
        | (.inr w51) =>
          some w51
      | (.inr w52) =>
        some w52
    | (.inr w53) =>
      some w53
  | (.inr w54) =>
    some w54
def cs_ref09_CheckEvening : Cs (Int × (List Int) × (List (List Int)) × Unit) := (csC cdI (csC (cdL 1 cdI) (csC (cdL 1 (cdL 1 cdI)) csN)))
def er_ref09_CheckEvening (r : Int) : AV := cdI.enc r
noncomputable def cb_ref09_CheckEvening : Code := codeOf Tryd.f71
set_option maxRecDepth 100000 in
theorem ref09_CheckEvening_1_ok (x0 : Int) (x1 : (List Int)) (x2 : (List (List Int))) : ∀ (f : Nat) (c4 : Int) (r : (Unit) ⊕ (Int)), ref09_CheckEvening_1 x0 x1 x2 f c4 = some r → SemN e_ref09_CheckEvening ⟨none, false⟩ (pc cb_ref09_CheckEvening [1, 1, 0, 1, 0, 0]) f ⟨Fr 103 [(0, .v (.int .i64 x0)), (1, .sl 1 (x1.map cdI.enc)), (2, .sl 1 (x2.map (cdL 1 cdI).enc)), (7, .v (.int .i64 c4))], []⟩ (fun e s => match r with
  | (.inl w) => e = (.exit 0) ∧ Wk e_ref09_CheckEvening s ⟨Fr 103 [(0, .v (.int .i64 x0)), (2, .sl 1 (x2.map (cdL 1 cdI).enc))], []⟩
  | (.inr w) => e = .ret ∧ Wk e_ref09_CheckEvening s ⟨Fr 103 [(6, .v (.int .i64 w))], []⟩) := by
  intro f
  induction f with
  | zero => intro c4 r h; cases h
  | succ f ih0 =>
    intro c4 r h
    have ih := fun (c4 : Int) => ih0 c4 r
    unfold ref09_CheckEvening_1 at h
    refine SemN.succ ?_
    refine Sem.seq ?_
    refine Sem.seq ?_
    refine Sem.runS (s1 := ⟨Fr 103 [(0, .v (.int .i64 x0)), (1, .sl 1 (x1.map cdI.enc)), (2, .sl 1 (x2.map (cdL 1 cdI).enc)), (7, .v (.int .i64 c4)), (25, .v (.bool (decide (c4 < (x2.length : Int)))))], []⟩) ?_ ?_
    · refine RunS.seg e_ref09_CheckEvening_ok 2 (s1 := ⟨Fr 103 [(0, .v (.int .i64 x0)), (1, .sl 1 (x1.map cdI.enc)), (2, .sl 1 (x2.map (cdL 1 cdI).enc)), (7, .v (.int .i64 c4)), (22, .v (.int .i64 c4)), (23, .sl 1 (x2.map (cdL 1 cdI).enc))], []⟩) (by kernel_rfl) ?_
      refine RunS.one e_ref09_CheckEvening_ok 0 rfl (op_q (wantedA_none rfl) rfl (q_len (a := .sl 1 (x2.map (cdL 1 cdI).enc)) (by kernel_rfl) (len_sl (el := 24) (by kernel_rfl)))) ?_
      refine RunS.seg e_ref09_CheckEvening_ok 1 (s1 := ⟨Fr 103 [(0, .v (.int .i64 x0)), (1, .sl 1 (x1.map cdI.enc)), (2, .sl 1 (x2.map (cdL 1 cdI).enc)), (7, .v (.int .i64 c4)), (22, .v (.int .i64 c4)), (23, .sl 1 (x2.map (cdL 1 cdI).enc)), (24, .v (.int .i64 (x2.length : Int))), (25, .v (.bool (decide (c4 < (x2.length : Int)))))], []⟩) (by kernel_rfl) ?_
      exact RunS.done rfl (Wk.fr (by kernel_rfl))
    refine Sem.cond (b := (decide (c4 < (x2.length : Int)))) (by kernel_rfl) (fun hb5 => ?_) (fun hb5 => ?_)
    · rw [if_pos hb5] at h
      refine Sem.skip ?_
      refine Sem.seq ?_
      refine Sem.block ?_
      refine Sem.seq ?_
      obtain ⟨v6, hv6, h⟩ := Option.bind_eq_some_iff.1 h
      obtain ⟨j10, hj10, h⟩ := Option.bind_eq_some_iff.1 h
      refine Sem.runDS e_ref09_CheckEvening_ok (s1 := ⟨Fr 103 [(0, .v (.int .i64 x0)), (1, .sl 1 (x1.map cdI.enc)), (2, .sl 1 (x2.map (cdL 1 cdI).enc)), (7, .v (.int .i64 c4)), (50, .v (.bool j10))], []⟩) (by kernel_rfl) ?_ ?_
      · refine RunDS.seg e_ref09_CheckEvening_ok 2 (s1 := ⟨Fr 103 [(0, .v (.int .i64 x0)), (1, .sl 1 (x1.map cdI.enc)), (2, .sl 1 (x2.map (cdL 1 cdI).enc)), (7, .v (.int .i64 c4)), (25, .v (.bool (decide (c4 < (x2.length : Int))))), (28, .sl 1 (x2.map (cdL 1 cdI).enc)), (29, .v (.int .i64 c4))], []⟩) (by kernel_rfl) (by kernel_rfl) ?_
        refine RunDS.one e_ref09_CheckEvening_ok rfl (by kernel_rfl) (opd_q (by kernel_rfl) (wantedA_none rfl) rfl (q_indexAddr (a := .sl 1 (x2.map (cdL 1 cdI).enc)) (b := .v (.int .i64 c4)) (by kernel_rfl) (by kernel_rfl) (ix_sl (e := (cdL 1 cdI).enc) (el := 24) (k := 1) (ki := .i64) (by kernel_rfl) (by kernel_rfl) hv6)) (by kernel_rfl)) ?_
        refine RunDS.seg e_ref09_CheckEvening_ok 1 (s1 := ⟨Fr 103 [(0, .v (.int .i64 x0)), (1, .sl 1 (x1.map cdI.enc)), (2, .sl 1 (x2.map (cdL 1 cdI).enc)), (7, .v (.int .i64 c4)), (25, .v (.bool (decide (c4 < (x2.length : Int))))), (28, .sl 1 (x2.map (cdL 1 cdI).enc)), (29, .v (.int .i64 c4)), (30, .pe (.sl 1 (v6.map cdI.enc)) 0), (31, .sl 1 (v6.map cdI.enc))], []⟩) (by kernel_rfl) (by kernel_rfl) ?_
        refine RunDS.one e_ref09_CheckEvening_ok rfl (by kernel_rfl) (opd_q (by kernel_rfl) (wantedA_none rfl) rfl (q_len (a := .sl 1 (v6.map cdI.enc)) (by kernel_rfl) (len_sl (el := 3) (by kernel_rfl))) (by kernel_rfl)) ?_
        refine RunDS.seg e_ref09_CheckEvening_ok 2 (s1 := ⟨Fr 103 [(0, .v (.int .i64 x0)), (1, .sl 1 (x1.map cdI.enc)), (2, .sl 1 (x2.map (cdL 1 cdI).enc)), (7, .v (.int .i64 c4)), (25, .v (.bool (decide (c4 < (x2.length : Int))))), (28, .sl 1 (x2.map (cdL 1 cdI).enc)), (29, .v (.int .i64 c4)), (30, .pe (.sl 1 (v6.map cdI.enc)) 0), (31, .sl 1 (v6.map cdI.enc)), (32, .v (.int .i64 (v6.length : Int))), (33, .v (.bool ((v6.length : Int) == 0))), (34, .v (.bool ((v6.length : Int) == 0)))], []⟩) (by kernel_rfl) (by kernel_rfl) ?_
        rcases Bool.eq_false_or_eq_true ((v6.length : Int) == 0) with hc13 | hc13
        · rw [if_pos hc13] at hj10
          rw [hc13]
          refine RunDS.seg e_ref09_CheckEvening_ok 16 (s1 := ⟨Fr 103 [(0, .v (.int .i64 x0)), (1, .sl 1 (x1.map cdI.enc)), (2, .sl 1 (x2.map (cdL 1 cdI).enc)), (7, .v (.int .i64 c4)), (25, .v (.bool (decide (c4 < (x2.length : Int))))), (28, .sl 1 (x2.map (cdL 1 cdI).enc)), (29, .v (.int .i64 c4)), (30, .pe (.sl 1 (v6.map cdI.enc)) 0), (31, .sl 1 (v6.map cdI.enc)), (32, .v (.int .i64 (v6.length : Int))), (33, .v (.bool true)), (34, .v (.bool true)), (35, .tp []), (36, .tp []), (37, .tp []), (38, .tp []), (39, .tp []), (40, .tp []), (41, .tp []), (42, .tp []), (43, .tp []), (44, .tp []), (45, .tp []), (46, .tp []), (47, .tp []), (48, .tp []), (49, .tp []), (50, .v (.bool true))], []⟩) (by kernel_rfl) (by kernel_rfl) ?_
          have hq := Option.some.inj hj10; subst hq
          exact RunDS.done rfl (Wk.fr (by kernel_rfl))
        · rw [if_f hc13] at hj10
          rw [hc13]
          refine RunDS.seg e_ref09_CheckEvening_ok 1 (s1 := ⟨Fr 103 [(0, .v (.int .i64 x0)), (1, .sl 1 (x1.map cdI.enc)), (2, .sl 1 (x2.map (cdL 1 cdI).enc)), (7, .v (.int .i64 c4)), (25, .v (.bool (decide (c4 < (x2.length : Int))))), (28, .sl 1 (x2.map (cdL 1 cdI).enc)), (29, .v (.int .i64 c4)), (30, .pe (.sl 1 (v6.map cdI.enc)) 0), (31, .sl 1 (v6.map cdI.enc)), (32, .v (.int .i64 (v6.length : Int))), (33, .v (.bool false)), (34, .v (.bool false)), (35, .sl 1 (x1.map cdI.enc))], []⟩) (by kernel_rfl) (by kernel_rfl) ?_
          refine RunDS.one e_ref09_CheckEvening_ok rfl (by kernel_rfl) (opd_q (by kernel_rfl) (by kernel_rfl) rfl (q_len (a := .sl 1 (x1.map cdI.enc)) (by kernel_rfl) (len_sl (el := 3) (by kernel_rfl))) (by kernel_rfl)) ?_
          refine RunDS.seg e_ref09_CheckEvening_ok 2 (s1 := ⟨Fr 103 [(0, .v (.int .i64 x0)), (1, .sl 1 (x1.map cdI.enc)), (2, .sl 1 (x2.map (cdL 1 cdI).enc)), (7, .v (.int .i64 c4)), (25, .v (.bool (decide (c4 < (x2.length : Int))))), (28, .sl 1 (x2.map (cdL 1 cdI).enc)), (29, .v (.int .i64 c4)), (30, .pe (.sl 1 (v6.map cdI.enc)) 0), (31, .sl 1 (v6.map cdI.enc)), (32, .v (.int .i64 (v6.length : Int))), (33, .v (.bool false)), (34, .v (.bool false)), (35, .sl 1 (x1.map cdI.enc)), (36, .v (.int .i64 (x1.length : Int))), (37, .v (.bool (decide ((x1.length : Int) > 0)))), (38, .v (.bool (decide ((x1.length : Int) > 0))))], []⟩) (by kernel_rfl) (by kernel_rfl) ?_
          rcases Bool.eq_false_or_eq_true (decide ((x1.length : Int) > 0)) with hc14 | hc14
          · rw [if_pos hc14] at hj10
            rw [hc14]
            refine RunDS.seg e_ref09_CheckEvening_ok 2 (s1 := ⟨Fr 103 [(0, .v (.int .i64 x0)), (1, .sl 1 (x1.map cdI.enc)), (2, .sl 1 (x2.map (cdL 1 cdI).enc)), (7, .v (.int .i64 c4)), (25, .v (.bool (decide (c4 < (x2.length : Int))))), (28, .sl 1 (x2.map (cdL 1 cdI).enc)), (29, .v (.int .i64 c4)), (30, .pe (.sl 1 (v6.map cdI.enc)) 0), (31, .sl 1 (v6.map cdI.enc)), (32, .v (.int .i64 (v6.length : Int))), (33, .v (.bool false)), (34, .v (.bool false)), (35, .sl 1 (x1.map cdI.enc)), (36, .v (.int .i64 (x1.length : Int))), (37, .v (.bool true)), (38, .v (.bool true)), (39, .sl 1 (x1.map cdI.enc)), (40, .v (.int .i64 c4))], []⟩) (by kernel_rfl) (by kernel_rfl) ?_
            obtain ⟨v7, hv7, hj10⟩ := Option.bind_eq_some_iff.1 hj10
            refine RunDS.one e_ref09_CheckEvening_ok rfl (by kernel_rfl) (opd_q (by kernel_rfl) (by kernel_rfl) rfl (q_indexAddr (a := .sl 1 (x1.map cdI.enc)) (b := .v (.int .i64 c4)) (by kernel_rfl) (by kernel_rfl) (ix_sl (e := cdI.enc) (el := 3) (k := 1) (ki := .i64) (by kernel_rfl) (by kernel_rfl) hv7)) (by kernel_rfl)) ?_
            refine RunDS.seg e_ref09_CheckEvening_ok 3 (s1 := ⟨Fr 103 [(0, .v (.int .i64 x0)), (1, .sl 1 (x1.map cdI.enc)), (2, .sl 1 (x2.map (cdL 1 cdI).enc)), (7, .v (.int .i64 c4)), (25, .v (.bool (decide (c4 < (x2.length : Int))))), (28, .sl 1 (x2.map (cdL 1 cdI).enc)), (29, .v (.int .i64 c4)), (30, .pe (.sl 1 (v6.map cdI.enc)) 0), (31, .sl 1 (v6.map cdI.enc)), (32, .v (.int .i64 (v6.length : Int))), (33, .v (.bool false)), (34, .v (.bool false)), (35, .sl 1 (x1.map cdI.enc)), (36, .v (.int .i64 (x1.length : Int))), (37, .v (.bool true)), (38, .v (.bool true)), (39, .sl 1 (x1.map cdI.enc)), (40, .v (.int .i64 c4)), (41, .pe (.v (.int .i64 v7)) 0), (42, .v (.int .i64 v7)), (43, .sl 1 (x2.map (cdL 1 cdI).enc)), (44, .v (.int .i64 c4))], []⟩) (by kernel_rfl) (by kernel_rfl) ?_
            obtain ⟨v8, hv8, hj10⟩ := Option.bind_eq_some_iff.1 hj10
            refine RunDS.one e_ref09_CheckEvening_ok rfl (by kernel_rfl) (opd_q (by kernel_rfl) (by kernel_rfl) rfl (q_indexAddr (a := .sl 1 (x2.map (cdL 1 cdI).enc)) (b := .v (.int .i64 c4)) (by kernel_rfl) (by kernel_rfl) (ix_sl (e := (cdL 1 cdI).enc) (el := 24) (k := 1) (ki := .i64) (by kernel_rfl) (by kernel_rfl) hv8)) (by kernel_rfl)) ?_
            refine RunDS.seg e_ref09_CheckEvening_ok 1 (s1 := ⟨Fr 103 [(0, .v (.int .i64 x0)), (1, .sl 1 (x1.map cdI.enc)), (2, .sl 1 (x2.map (cdL 1 cdI).enc)), (7, .v (.int .i64 c4)), (25, .v (.bool (decide (c4 < (x2.length : Int))))), (28, .sl 1 (x2.map (cdL 1 cdI).enc)), (29, .v (.int .i64 c4)), (30, .pe (.sl 1 (v6.map cdI.enc)) 0), (31, .sl 1 (v6.map cdI.enc)), (32, .v (.int .i64 (v6.length : Int))), (33, .v (.bool false)), (34, .v (.bool false)), (35, .sl 1 (x1.map cdI.enc)), (36, .v (.int .i64 (x1.length : Int))), (37, .v (.bool true)), (38, .v (.bool true)), (39, .sl 1 (x1.map cdI.enc)), (40, .v (.int .i64 c4)), (41, .pe (.v (.int .i64 v7)) 0), (42, .v (.int .i64 v7)), (43, .sl 1 (x2.map (cdL 1 cdI).enc)), (44, .v (.int .i64 c4)), (45, .pe (.sl 1 (v8.map cdI.enc)) 0), (46, .sl 1 (v8.map cdI.enc))], []⟩) (by kernel_rfl) (by kernel_rfl) ?_
            refine RunDS.one e_ref09_CheckEvening_ok rfl (by kernel_rfl) (opd_q (by kernel_rfl) (by kernel_rfl) rfl (q_len (a := .sl 1 (v8.map cdI.enc)) (by kernel_rfl) (len_sl (el := 3) (by kernel_rfl))) (by kernel_rfl)) ?_
            refine RunDS.seg e_ref09_CheckEvening_ok 3 (s1 := ⟨Fr 103 [(0, .v (.int .i64 x0)), (1, .sl 1 (x1.map cdI.enc)), (2, .sl 1 (x2.map (cdL 1 cdI).enc)), (7, .v (.int .i64 c4)), (25, .v (.bool (decide (c4 < (x2.length : Int))))), (28, .sl 1 (x2.map (cdL 1 cdI).enc)), (29, .v (.int .i64 c4)), (30, .pe (.sl 1 (v6.map cdI.enc)) 0), (31, .sl 1 (v6.map cdI.enc)), (32, .v (.int .i64 (v6.length : Int))), (33, .v (.bool false)), (34, .v (.bool false)), (35, .sl 1 (x1.map cdI.enc)), (36, .v (.int .i64 (x1.length : Int))), (37, .v (.bool true)), (38, .v (.bool true)), (39, .sl 1 (x1.map cdI.enc)), (40, .v (.int .i64 c4)), (41, .pe (.v (.int .i64 v7)) 0), (42, .v (.int .i64 v7)), (43, .sl 1 (x2.map (cdL 1 cdI).enc)), (44, .v (.int .i64 c4)), (45, .pe (.sl 1 (v8.map cdI.enc)) 0), (46, .sl 1 (v8.map cdI.enc)), (47, .v (.int .i64 (v8.length : Int))), (48, .v (.bool (v7 != (v8.length : Int)))), (49, .v (.bool (v7 != (v8.length : Int)))), (50, .v (.bool (v7 != (v8.length : Int))))], []⟩) (by kernel_rfl) (by kernel_rfl) ?_
            have hq := Option.some.inj hj10; subst hq
            exact RunDS.done rfl (Wk.fr (by kernel_rfl))
          · rw [if_f hc14] at hj10
            rw [hc14]
            refine RunDS.seg e_ref09_CheckEvening_ok 12 (s1 := ⟨Fr 103 [(0, .v (.int .i64 x0)), (1, .sl 1 (x1.map cdI.enc)), (2, .sl 1 (x2.map (cdL 1 cdI).enc)), (7, .v (.int .i64 c4)), (25, .v (.bool (decide (c4 < (x2.length : Int))))), (28, .sl 1 (x2.map (cdL 1 cdI).enc)), (29, .v (.int .i64 c4)), (30, .pe (.sl 1 (v6.map cdI.enc)) 0), (31, .sl 1 (v6.map cdI.enc)), (32, .v (.int .i64 (v6.length : Int))), (33, .v (.bool false)), (34, .v (.bool false)), (35, .sl 1 (x1.map cdI.enc)), (36, .v (.int .i64 (x1.length : Int))), (37, .v (.bool false)), (38, .v (.bool false)), (39, .tp []), (40, .tp []), (41, .tp []), (42, .tp []), (43, .tp []), (44, .tp []), (45, .tp []), (46, .tp []), (47, .tp []), (48, .tp []), (49, .v (.bool false)), (50, .v (.bool false))], []⟩) (by kernel_rfl) (by kernel_rfl) ?_
            have hq := Option.some.inj hj10; subst hq
            exact RunDS.done rfl (Wk.fr (by kernel_rfl))
      refine Sem.cond (b := j10) (by kernel_rfl) (fun hb11 => ?_) (fun hb11 => ?_)
      · rw [if_pos hb11] at h
        refine Sem.seq ?_
        refine Sem.runS (s1 := ⟨Fr 103 [(6, .v (.int .i64 2))], []⟩) ?_ ?_
        · refine RunS.seg e_ref09_CheckEvening_ok 1 (s1 := ⟨Fr 103 [(0, .v (.int .i64 x0)), (1, .sl 1 (x1.map cdI.enc)), (2, .sl 1 (x2.map (cdL 1 cdI).enc)), (6, .v (.int .i64 2)), (7, .v (.int .i64 c4)), (50, .v (.bool j10))], []⟩) (by kernel_rfl) ?_
          exact RunS.done rfl (Wk.fr (by kernel_rfl))
        refine Sem.ret ?_
        have hq := Option.some.inj h; subst hq
        exact ⟨rfl, (Wk.fr (by kernel_rfl))⟩
      · rw [if_f hb11] at h
        refine Sem.skip ?_
        refine Sem.runS (s1 := ⟨Fr 103 [(0, .v (.int .i64 x0)), (1, .sl 1 (x1.map cdI.enc)), (2, .sl 1 (x2.map (cdL 1 cdI).enc)), (7, .v (.int .i64 (wr .i64 (c4 + 1))))], []⟩) ?_ ?_
        · refine RunS.seg e_ref09_CheckEvening_ok 3 (s1 := ⟨Fr 103 [(0, .v (.int .i64 x0)), (1, .sl 1 (x1.map cdI.enc)), (2, .sl 1 (x2.map (cdL 1 cdI).enc)), (7, .v (.int .i64 (wr .i64 (c4 + 1)))), (26, .v (.int .i64 c4)), (27, .v (.int .i64 (wr .i64 (c4 + 1)))), (50, .v (.bool j10))], []⟩) (by kernel_rfl) ?_
          exact RunS.done rfl (Wk.fr (by kernel_rfl))
        exact SemN.wk (s1 := ⟨Fr 103 [(0, .v (.int .i64 x0)), (1, .sl 1 (x1.map cdI.enc)), (2, .sl 1 (x2.map (cdL 1 cdI).enc)), (7, .v (.int .i64 (wr .i64 (c4 + 1))))], []⟩) (Wk.fr (by kernel_rfl)) (ih (wr .i64 (c4 + 1)) h)
    · rw [if_f hb5] at h
      refine Sem.exit ?_
      have hq := Option.some.inj h; subst hq
      exact ⟨rfl, (Wk.fr (by kernel_rfl))⟩
set_option maxRecDepth 100000 in
theorem ref09_CheckEvening_3_ok (x0 : Int) (x2 : (List (List Int))) (c17 : Int) : ∀ (f : Nat) (c19 : Int) (r : (Unit) ⊕ (Int)), ref09_CheckEvening_3 x0 x2 c17 f c19 = some r → SemN e_ref09_CheckEvening ⟨none, false⟩ (pc cb_ref09_CheckEvening [1, 1, 1, 0, 1, 0, 0, 1, 0, 0, 1, 0, 0]) f ⟨Fr 103 [(0, .v (.int .i64 x0)), (2, .sl 1 (x2.map (cdL 1 cdI).enc)), (8, .v (.int .i64 c17)), (9, .v (.int .i64 c19))], []⟩ (fun e s => match r with
  | (.inl w) => e = (.exit 4) ∧ Wk e_ref09_CheckEvening s ⟨Fr 103 [(0, .v (.int .i64 x0)), (2, .sl 1 (x2.map (cdL 1 cdI).enc)), (8, .v (.int .i64 c17))], []⟩
  | (.inr w) => e = .ret ∧ Wk e_ref09_CheckEvening s ⟨Fr 103 [(6, .v (.int .i64 w))], []⟩) := by
  intro f
  induction f with
  | zero => intro c19 r h; cases h
  | succ f ih0 =>
    intro c19 r h
    have ih := fun (c19 : Int) => ih0 c19 r
    unfold ref09_CheckEvening_3 at h
    refine SemN.succ ?_
    refine Sem.seq ?_
    refine Sem.seq ?_
    obtain ⟨v20, hv20, h⟩ := Option.bind_eq_some_iff.1 h
    refine Sem.runS (s1 := ⟨Fr 103 [(0, .v (.int .i64 x0)), (2, .sl 1 (x2.map (cdL 1 cdI).enc)), (8, .v (.int .i64 c17)), (9, .v (.int .i64 c19)), (63, .v (.bool (decide (c19 < (v20.length : Int)))))], []⟩) ?_ ?_
    · refine RunS.seg e_ref09_CheckEvening_ok 3 (s1 := ⟨Fr 103 [(0, .v (.int .i64 x0)), (2, .sl 1 (x2.map (cdL 1 cdI).enc)), (8, .v (.int .i64 c17)), (9, .v (.int .i64 c19)), (57, .v (.int .i64 c19)), (58, .sl 1 (x2.map (cdL 1 cdI).enc)), (59, .v (.int .i64 c17))], []⟩) (by kernel_rfl) ?_
      refine RunS.one e_ref09_CheckEvening_ok 0 rfl (op_q (wantedA_none rfl) rfl (q_indexAddr (a := .sl 1 (x2.map (cdL 1 cdI).enc)) (b := .v (.int .i64 c17)) (by kernel_rfl) (by kernel_rfl) (ix_sl (e := (cdL 1 cdI).enc) (el := 24) (k := 1) (ki := .i64) (by kernel_rfl) (by kernel_rfl) hv20))) ?_
      refine RunS.seg e_ref09_CheckEvening_ok 1 (s1 := ⟨Fr 103 [(0, .v (.int .i64 x0)), (2, .sl 1 (x2.map (cdL 1 cdI).enc)), (8, .v (.int .i64 c17)), (9, .v (.int .i64 c19)), (57, .v (.int .i64 c19)), (58, .sl 1 (x2.map (cdL 1 cdI).enc)), (59, .v (.int .i64 c17)), (60, .pe (.sl 1 (v20.map cdI.enc)) 0), (61, .sl 1 (v20.map cdI.enc))], []⟩) (by kernel_rfl) ?_
      refine RunS.one e_ref09_CheckEvening_ok 0 rfl (op_q (wantedA_none rfl) rfl (q_len (a := .sl 1 (v20.map cdI.enc)) (by kernel_rfl) (len_sl (el := 3) (by kernel_rfl)))) ?_
      refine RunS.seg e_ref09_CheckEvening_ok 1 (s1 := ⟨Fr 103 [(0, .v (.int .i64 x0)), (2, .sl 1 (x2.map (cdL 1 cdI).enc)), (8, .v (.int .i64 c17)), (9, .v (.int .i64 c19)), (57, .v (.int .i64 c19)), (58, .sl 1 (x2.map (cdL 1 cdI).enc)), (59, .v (.int .i64 c17)), (60, .pe (.sl 1 (v20.map cdI.enc)) 0), (61, .sl 1 (v20.map cdI.enc)), (62, .v (.int .i64 (v20.length : Int))), (63, .v (.bool (decide (c19 < (v20.length : Int)))))], []⟩) (by kernel_rfl) ?_
      exact RunS.done rfl (Wk.fr (by kernel_rfl))
    refine Sem.cond (b := (decide (c19 < (v20.length : Int)))) (by kernel_rfl) (fun hb21 => ?_) (fun hb21 => ?_)
    · rw [if_pos hb21] at h
      refine Sem.skip ?_
      refine Sem.seq ?_
      refine Sem.block ?_
      refine Sem.seq ?_
      obtain ⟨v22, hv22, h⟩ := Option.bind_eq_some_iff.1 h
      obtain ⟨v23, hv23, h⟩ := Option.bind_eq_some_iff.1 h
      obtain ⟨j27, hj27, h⟩ := Option.bind_eq_some_iff.1 h
      refine Sem.runS (s1 := ⟨Fr 103 [(0, .v (.int .i64 x0)), (2, .sl 1 (x2.map (cdL 1 cdI).enc)), (8, .v (.int .i64 c17)), (9, .v (.int .i64 c19)), (84, .v (.bool j27))], []⟩) ?_ ?_
      · refine RunS.seg e_ref09_CheckEvening_ok 2 (s1 := ⟨Fr 103 [(0, .v (.int .i64 x0)), (2, .sl 1 (x2.map (cdL 1 cdI).enc)), (8, .v (.int .i64 c17)), (9, .v (.int .i64 c19)), (63, .v (.bool (decide (c19 < (v20.length : Int))))), (66, .sl 1 (x2.map (cdL 1 cdI).enc)), (67, .v (.int .i64 c17))], []⟩) (by kernel_rfl) ?_
        refine RunS.one e_ref09_CheckEvening_ok 0 rfl (op_q (wantedA_none rfl) rfl (q_indexAddr (a := .sl 1 (x2.map (cdL 1 cdI).enc)) (b := .v (.int .i64 c17)) (by kernel_rfl) (by kernel_rfl) (ix_sl (e := (cdL 1 cdI).enc) (el := 24) (k := 1) (ki := .i64) (by kernel_rfl) (by kernel_rfl) hv22))) ?_
        refine RunS.seg e_ref09_CheckEvening_ok 2 (s1 := ⟨Fr 103 [(0, .v (.int .i64 x0)), (2, .sl 1 (x2.map (cdL 1 cdI).enc)), (8, .v (.int .i64 c17)), (9, .v (.int .i64 c19)), (63, .v (.bool (decide (c19 < (v20.length : Int))))), (66, .sl 1 (x2.map (cdL 1 cdI).enc)), (67, .v (.int .i64 c17)), (68, .pe (.sl 1 (v22.map cdI.enc)) 0), (69, .sl 1 (v22.map cdI.enc)), (70, .v (.int .i64 c19))], []⟩) (by kernel_rfl) ?_
        refine RunS.one e_ref09_CheckEvening_ok 0 rfl (op_q (wantedA_none rfl) rfl (q_indexAddr (a := .sl 1 (v22.map cdI.enc)) (b := .v (.int .i64 c19)) (by kernel_rfl) (by kernel_rfl) (ix_sl (e := cdI.enc) (el := 3) (k := 1) (ki := .i64) (by kernel_rfl) (by kernel_rfl) hv23))) ?_
        refine RunS.seg e_ref09_CheckEvening_ok 3 (s1 := ⟨Fr 103 [(0, .v (.int .i64 x0)), (2, .sl 1 (x2.map (cdL 1 cdI).enc)), (8, .v (.int .i64 c17)), (9, .v (.int .i64 c19)), (63, .v (.bool (decide (c19 < (v20.length : Int))))), (66, .sl 1 (x2.map (cdL 1 cdI).enc)), (67, .v (.int .i64 c17)), (68, .pe (.sl 1 (v22.map cdI.enc)) 0), (69, .sl 1 (v22.map cdI.enc)), (70, .v (.int .i64 c19)), (71, .pe (.v (.int .i64 v23)) 0), (72, .v (.int .i64 v23)), (73, .v (.bool (decide (v23 < 0)))), (74, .v (.bool (decide (v23 < 0))))], []⟩) (by kernel_rfl) ?_
        rcases Bool.eq_false_or_eq_true (decide (v23 < 0)) with hc30 | hc30
        · rw [if_pos hc30] at hj27
          rw [hc30]
          refine RunS.seg e_ref09_CheckEvening_ok 10 (s1 := ⟨Fr 103 [(0, .v (.int .i64 x0)), (2, .sl 1 (x2.map (cdL 1 cdI).enc)), (8, .v (.int .i64 c17)), (9, .v (.int .i64 c19)), (63, .v (.bool (decide (c19 < (v20.length : Int))))), (66, .sl 1 (x2.map (cdL 1 cdI).enc)), (67, .v (.int .i64 c17)), (68, .pe (.sl 1 (v22.map cdI.enc)) 0), (69, .sl 1 (v22.map cdI.enc)), (70, .v (.int .i64 c19)), (71, .pe (.v (.int .i64 v23)) 0), (72, .v (.int .i64 v23)), (73, .v (.bool true)), (74, .v (.bool true)), (75, .tp []), (76, .tp []), (77, .tp []), (78, .tp []), (79, .tp []), (80, .tp []), (81, .tp []), (82, .tp []), (83, .tp []), (84, .v (.bool true))], []⟩) (by kernel_rfl) ?_
          have hq := Option.some.inj hj27; subst hq
          exact RunS.done rfl (Wk.fr (by kernel_rfl))
        · rw [if_f hc30] at hj27
          rw [hc30]
          refine RunS.seg e_ref09_CheckEvening_ok 2 (s1 := ⟨Fr 103 [(0, .v (.int .i64 x0)), (2, .sl 1 (x2.map (cdL 1 cdI).enc)), (8, .v (.int .i64 c17)), (9, .v (.int .i64 c19)), (63, .v (.bool (decide (c19 < (v20.length : Int))))), (66, .sl 1 (x2.map (cdL 1 cdI).enc)), (67, .v (.int .i64 c17)), (68, .pe (.sl 1 (v22.map cdI.enc)) 0), (69, .sl 1 (v22.map cdI.enc)), (70, .v (.int .i64 c19)), (71, .pe (.v (.int .i64 v23)) 0), (72, .v (.int .i64 v23)), (73, .v (.bool false)), (74, .v (.bool false)), (75, .sl 1 (x2.map (cdL 1 cdI).enc)), (76, .v (.int .i64 c17))], []⟩) (by kernel_rfl) ?_
          obtain ⟨v24, hv24, hj27⟩ := Option.bind_eq_some_iff.1 hj27
          refine RunS.one e_ref09_CheckEvening_ok 0 rfl (op_q (by kernel_rfl) rfl (q_indexAddr (a := .sl 1 (x2.map (cdL 1 cdI).enc)) (b := .v (.int .i64 c17)) (by kernel_rfl) (by kernel_rfl) (ix_sl (e := (cdL 1 cdI).enc) (el := 24) (k := 1) (ki := .i64) (by kernel_rfl) (by kernel_rfl) hv24))) ?_
          refine RunS.seg e_ref09_CheckEvening_ok 2 (s1 := ⟨Fr 103 [(0, .v (.int .i64 x0)), (2, .sl 1 (x2.map (cdL 1 cdI).enc)), (8, .v (.int .i64 c17)), (9, .v (.int .i64 c19)), (63, .v (.bool (decide (c19 < (v20.length : Int))))), (66, .sl 1 (x2.map (cdL 1 cdI).enc)), (67, .v (.int .i64 c17)), (68, .pe (.sl 1 (v22.map cdI.enc)) 0), (69, .sl 1 (v22.map cdI.enc)), (70, .v (.int .i64 c19)), (71, .pe (.v (.int .i64 v23)) 0), (72, .v (.int .i64 v23)), (73, .v (.bool false)), (74, .v (.bool false)), (75, .sl 1 (x2.map (cdL 1 cdI).enc)), (76, .v (.int .i64 c17)), (77, .pe (.sl 1 (v24.map cdI.enc)) 0), (78, .sl 1 (v24.map cdI.enc)), (79, .v (.int .i64 c19))], []⟩) (by kernel_rfl) ?_
          obtain ⟨v25, hv25, hj27⟩ := Option.bind_eq_some_iff.1 hj27
          refine RunS.one e_ref09_CheckEvening_ok 0 rfl (op_q (by kernel_rfl) rfl (q_indexAddr (a := .sl 1 (v24.map cdI.enc)) (b := .v (.int .i64 c19)) (by kernel_rfl) (by kernel_rfl) (ix_sl (e := cdI.enc) (el := 3) (k := 1) (ki := .i64) (by kernel_rfl) (by kernel_rfl) hv25))) ?_
          refine RunS.seg e_ref09_CheckEvening_ok 4 (s1 := ⟨Fr 103 [(0, .v (.int .i64 x0)), (2, .sl 1 (x2.map (cdL 1 cdI).enc)), (8, .v (.int .i64 c17)), (9, .v (.int .i64 c19)), (63, .v (.bool (decide (c19 < (v20.length : Int))))), (66, .sl 1 (x2.map (cdL 1 cdI).enc)), (67, .v (.int .i64 c17)), (68, .pe (.sl 1 (v22.map cdI.enc)) 0), (69, .sl 1 (v22.map cdI.enc)), (70, .v (.int .i64 c19)), (71, .pe (.v (.int .i64 v23)) 0), (72, .v (.int .i64 v23)), (73, .v (.bool false)), (74, .v (.bool false)), (75, .sl 1 (x2.map (cdL 1 cdI).enc)), (76, .v (.int .i64 c17)), (77, .pe (.sl 1 (v24.map cdI.enc)) 0), (78, .sl 1 (v24.map cdI.enc)), (79, .v (.int .i64 c19)), (80, .pe (.v (.int .i64 v25)) 0), (81, .v (.int .i64 v25)), (82, .v (.int .i64 x0)), (83, .v (.bool (decide (v25 ≥ x0)))), (84, .v (.bool (decide (v25 ≥ x0))))], []⟩) (by kernel_rfl) ?_
          have hq := Option.some.inj hj27; subst hq
          exact RunS.done rfl (Wk.fr (by kernel_rfl))
      refine Sem.cond (b := j27) (by kernel_rfl) (fun hb28 => ?_) (fun hb28 => ?_)
      · rw [if_pos hb28] at h
        refine Sem.seq ?_
        refine Sem.runS (s1 := ⟨Fr 103 [(6, .v (.int .i64 6))], []⟩) ?_ ?_
        · refine RunS.seg e_ref09_CheckEvening_ok 1 (s1 := ⟨Fr 103 [(0, .v (.int .i64 x0)), (2, .sl 1 (x2.map (cdL 1 cdI).enc)), (6, .v (.int .i64 6)), (8, .v (.int .i64 c17)), (9, .v (.int .i64 c19)), (84, .v (.bool j27))], []⟩) (by kernel_rfl) ?_
          exact RunS.done rfl (Wk.fr (by kernel_rfl))
        refine Sem.ret ?_
        have hq := Option.some.inj h; subst hq
        exact ⟨rfl, (Wk.fr (by kernel_rfl))⟩
      · rw [if_f hb28] at h
        refine Sem.skip ?_
        refine Sem.runS (s1 := ⟨Fr 103 [(0, .v (.int .i64 x0)), (2, .sl 1 (x2.map (cdL 1 cdI).enc)), (8, .v (.int .i64 c17)), (9, .v (.int .i64 (wr .i64 (c19 + 1))))], []⟩) ?_ ?_
        · refine RunS.seg e_ref09_CheckEvening_ok 3 (s1 := ⟨Fr 103 [(0, .v (.int .i64 x0)), (2, .sl 1 (x2.map (cdL 1 cdI).enc)), (8, .v (.int .i64 c17)), (9, .v (.int .i64 (wr .i64 (c19 + 1)))), (64, .v (.int .i64 c19)), (65, .v (.int .i64 (wr .i64 (c19 + 1)))), (84, .v (.bool j27))], []⟩) (by kernel_rfl) ?_
          exact RunS.done rfl (Wk.fr (by kernel_rfl))
        exact SemN.wk (s1 := ⟨Fr 103 [(0, .v (.int .i64 x0)), (2, .sl 1 (x2.map (cdL 1 cdI).enc)), (8, .v (.int .i64 c17)), (9, .v (.int .i64 (wr .i64 (c19 + 1))))], []⟩) (Wk.fr (by kernel_rfl)) (ih (wr .i64 (c19 + 1)) h)
    · rw [if_f hb21] at h
      refine Sem.exit ?_
      have hq := Option.some.inj h; subst hq
      exact ⟨rfl, (Wk.fr (by kernel_rfl))⟩
set_option maxRecDepth 100000 in
theorem ref09_CheckEvening_2_ok (x0 : Int) (x2 : (List (List Int))) : ∀ (f : Nat) (c17 : Int) (r : (Unit) ⊕ (Int)), ref09_CheckEvening_2 x0 x2 f c17 = some r → SemN e_ref09_CheckEvening ⟨none, false⟩ (pc cb_ref09_CheckEvening [1, 1, 1, 0, 1, 0, 0]) f ⟨Fr 103 [(0, .v (.int .i64 x0)), (2, .sl 1 (x2.map (cdL 1 cdI).enc)), (8, .v (.int .i64 c17))], []⟩ (fun e s => match r with
  | (.inl w) => e = (.exit 2) ∧ Wk e_ref09_CheckEvening s ⟨Fr 103 [(0, .v (.int .i64 x0)), (2, .sl 1 (x2.map (cdL 1 cdI).enc))], []⟩
  | (.inr w) => e = .ret ∧ Wk e_ref09_CheckEvening s ⟨Fr 103 [(6, .v (.int .i64 w))], []⟩) := by
  intro f
  induction f with
  | zero => intro c17 r h; cases h
  | succ f ih0 =>
    intro c17 r h
    have ih := fun (c17 : Int) => ih0 c17 r
    unfold ref09_CheckEvening_2 at h
    refine SemN.succ ?_
    refine Sem.seq ?_
    refine Sem.seq ?_
    refine Sem.runS (s1 := ⟨Fr 103 [(0, .v (.int .i64 x0)), (2, .sl 1 (x2.map (cdL 1 cdI).enc)), (8, .v (.int .i64 c17)), (54, .v (.bool (decide (c17 < (x2.length : Int)))))], []⟩) ?_ ?_
    · refine RunS.seg e_ref09_CheckEvening_ok 2 (s1 := ⟨Fr 103 [(0, .v (.int .i64 x0)), (2, .sl 1 (x2.map (cdL 1 cdI).enc)), (8, .v (.int .i64 c17)), (51, .v (.int .i64 c17)), (52, .sl 1 (x2.map (cdL 1 cdI).enc))], []⟩) (by kernel_rfl) ?_
      refine RunS.one e_ref09_CheckEvening_ok 0 rfl (op_q (wantedA_none rfl) rfl (q_len (a := .sl 1 (x2.map (cdL 1 cdI).enc)) (by kernel_rfl) (len_sl (el := 24) (by kernel_rfl)))) ?_
      refine RunS.seg e_ref09_CheckEvening_ok 1 (s1 := ⟨Fr 103 [(0, .v (.int .i64 x0)), (2, .sl 1 (x2.map (cdL 1 cdI).enc)), (8, .v (.int .i64 c17)), (51, .v (.int .i64 c17)), (52, .sl 1 (x2.map (cdL 1 cdI).enc)), (53, .v (.int .i64 (x2.length : Int))), (54, .v (.bool (decide (c17 < (x2.length : Int)))))], []⟩) (by kernel_rfl) ?_
      exact RunS.done rfl (Wk.fr (by kernel_rfl))
    refine Sem.cond (b := (decide (c17 < (x2.length : Int)))) (by kernel_rfl) (fun hb18 => ?_) (fun hb18 => ?_)
    · rw [if_pos hb18] at h
      refine Sem.skip ?_
      refine Sem.seq ?_
      refine Sem.block ?_
      refine Sem.seq ?_
      refine Sem.runS (s1 := ⟨Fr 103 [(0, .v (.int .i64 x0)), (2, .sl 1 (x2.map (cdL 1 cdI).enc)), (8, .v (.int .i64 c17)), (9, .v (.int .i64 0))], []⟩) ?_ ?_
      · refine RunS.seg e_ref09_CheckEvening_ok 1 (s1 := ⟨Fr 103 [(0, .v (.int .i64 x0)), (2, .sl 1 (x2.map (cdL 1 cdI).enc)), (8, .v (.int .i64 c17)), (9, .v (.int .i64 0)), (54, .v (.bool (decide (c17 < (x2.length : Int)))))], []⟩) (by kernel_rfl) ?_
        exact RunS.done rfl (Wk.fr (by kernel_rfl))
      refine Sem.block ?_
      obtain ⟨r31, hr31, h⟩ := Option.bind_eq_some_iff.1 h
      refine Sem.loop (n := 100000) ?_
      rcases r31 with w32 | w33
      · refine Sem.cutN (SemN.wk (s1 := ⟨Fr 103 [(0, .v (.int .i64 x0)), (2, .sl 1 (x2.map (cdL 1 cdI).enc)), (8, .v (.int .i64 c17)), (9, .v (.int .i64 0))], []⟩) (Wk.fr (by kernel_rfl)) (ref09_CheckEvening_3_ok x0 x2 c17 _ 0 _ hr31)) ?_
        refine Sem.runS (s1 := ⟨Fr 103 [(0, .v (.int .i64 x0)), (2, .sl 1 (x2.map (cdL 1 cdI).enc)), (8, .v (.int .i64 (wr .i64 (c17 + 1))))], []⟩) ?_ ?_
        · refine RunS.seg e_ref09_CheckEvening_ok 3 (s1 := ⟨Fr 103 [(0, .v (.int .i64 x0)), (2, .sl 1 (x2.map (cdL 1 cdI).enc)), (8, .v (.int .i64 (wr .i64 (c17 + 1)))), (55, .v (.int .i64 c17)), (56, .v (.int .i64 (wr .i64 (c17 + 1))))], []⟩) (by kernel_rfl) ?_
          exact RunS.done rfl (Wk.fr (by kernel_rfl))
        exact SemN.wk (s1 := ⟨Fr 103 [(0, .v (.int .i64 x0)), (2, .sl 1 (x2.map (cdL 1 cdI).enc)), (8, .v (.int .i64 (wr .i64 (c17 + 1))))], []⟩) (Wk.fr (by kernel_rfl)) (ih (wr .i64 (c17 + 1)) h)
      · refine Sem.cutN (SemN.wk (s1 := ⟨Fr 103 [(0, .v (.int .i64 x0)), (2, .sl 1 (x2.map (cdL 1 cdI).enc)), (8, .v (.int .i64 c17)), (9, .v (.int .i64 0))], []⟩) (Wk.fr (by kernel_rfl)) (ref09_CheckEvening_3_ok x0 x2 c17 _ 0 _ hr31)) ?_
        have hq := Option.some.inj h; subst hq
        exact ⟨rfl, (Wk.fr (by kernel_rfl))⟩
    · rw [if_f hb18] at h
      refine Sem.exit ?_
      have hq := Option.some.inj h; subst hq
      exact ⟨rfl, (Wk.fr (by kernel_rfl))⟩
set_option maxRecDepth 100000 in
theorem ref09_CheckEvening_4_ok (x0 : Int) (x2 : (List (List Int))) : ∀ (f : Nat) (c37 : Int) (r : (Unit) ⊕ (Int)), ref09_CheckEvening_4 x0 x2 f c37 = some r → SemN e_ref09_CheckEvening ⟨none, false⟩ (pc cb_ref09_CheckEvening [1, 1, 1, 1, 0, 1, 0, 0]) f ⟨Fr 103 [(0, .v (.int .i64 x0)), (2, .sl 1 (x2.map (cdL 1 cdI).enc)), (10, .v (.int .i64 c37))], []⟩ (fun e s => match r with
  | (.inl w) => e = (.exit 6) ∧ Wk e_ref09_CheckEvening s ⟨Fr 103 [(0, .v (.int .i64 x0)), (2, .sl 1 (x2.map (cdL 1 cdI).enc))], []⟩
  | (.inr w) => e = .ret ∧ Wk e_ref09_CheckEvening s ⟨Fr 103 [(6, .v (.int .i64 w))], []⟩) := by
  intro f
  induction f with
  | zero => intro c37 r h; cases h
  | succ f ih0 =>
    intro c37 r h
    have ih := fun (c37 : Int) => ih0 c37 r
    unfold ref09_CheckEvening_4 at h
    refine SemN.succ ?_
    refine Sem.seq ?_
    refine Sem.seq ?_
    refine Sem.runS (s1 := ⟨Fr 103 [(0, .v (.int .i64 x0)), (2, .sl 1 (x2.map (cdL 1 cdI).enc)), (10, .v (.int .i64 c37)), (87, .v (.bool (decide (c37 < x0))))], []⟩) ?_ ?_
    · refine RunS.seg e_ref09_CheckEvening_ok 3 (s1 := ⟨Fr 103 [(0, .v (.int .i64 x0)), (2, .sl 1 (x2.map (cdL 1 cdI).enc)), (10, .v (.int .i64 c37)), (85, .v (.int .i64 c37)), (86, .v (.int .i64 x0)), (87, .v (.bool (decide (c37 < x0))))], []⟩) (by kernel_rfl) ?_
      exact RunS.done rfl (Wk.fr (by kernel_rfl))
    refine Sem.cond (b := (decide (c37 < x0))) (by kernel_rfl) (fun hb38 => ?_) (fun hb38 => ?_)
    · rw [if_pos hb38] at h
      refine Sem.skip ?_
      refine Sem.seq ?_
      refine Sem.block ?_
      refine Sem.seq ?_
      obtain ⟨v39, hv39, h⟩ := Option.bind_eq_some_iff.1 h
      refine Sem.runS (s1 := ⟨Fr 103 [(0, .v (.int .i64 x0)), (2, .sl 1 (x2.map (cdL 1 cdI).enc)), (10, .v (.int .i64 c37)), (93, .v (.bool (decide (v39 > 1))))], []⟩) ?_ ?_
      · refine RunS.seg e_ref09_CheckEvening_ok 2 (s1 := ⟨Fr 103 [(0, .v (.int .i64 x0)), (2, .sl 1 (x2.map (cdL 1 cdI).enc)), (10, .v (.int .i64 c37)), (87, .v (.bool (decide (c37 < x0)))), (90, .sl 1 (x2.map (cdL 1 cdI).enc)), (91, .v (.int .i64 c37))], []⟩) (by kernel_rfl) ?_
        refine RunS.call e_ref09_CheckEvening_ok (fid := 98) (s := cs_ref09_times) (F := fun a => ref09_times a.1 a.2.1) (er := er_ref09_times) (xs := [.sl 1 (x2.map (cdL 1 cdI).enc), .v (.int .i64 c37)]) (a := (x2, c37, ())) rfl (wantedA_none rfl) (by kernel_rfl) (by kernel_rfl) (by kernel_rfl) (by kernel_rfl) (Sns.cons (Sn.enc (c := (cdL 1 (cdL 1 cdI))) (v := x2)) (Sns.cons (Sn.enc (c := cdI) (v := c37)) Sns.nil)) (.inl (by kernel_rfl)) hv39 ?_
        refine RunS.seg e_ref09_CheckEvening_ok 1 (s1 := ⟨Fr 103 [(0, .v (.int .i64 x0)), (2, .sl 1 (x2.map (cdL 1 cdI).enc)), (10, .v (.int .i64 c37)), (87, .v (.bool (decide (c37 < x0)))), (90, .sl 1 (x2.map (cdL 1 cdI).enc)), (91, .v (.int .i64 c37)), (92, .v (.int .i64 v39)), (93, .v (.bool (decide (v39 > 1))))], []⟩) (by kernel_rfl) ?_
        exact RunS.done rfl (Wk.fr (by kernel_rfl))
      refine Sem.cond (b := (decide (v39 > 1))) (by kernel_rfl) (fun hb40 => ?_) (fun hb40 => ?_)
      · rw [if_pos hb40] at h
        refine Sem.seq ?_
        refine Sem.runS (s1 := ⟨Fr 103 [(6, .v (.int .i64 5))], []⟩) ?_ ?_
        · refine RunS.seg e_ref09_CheckEvening_ok 1 (s1 := ⟨Fr 103 [(0, .v (.int .i64 x0)), (2, .sl 1 (x2.map (cdL 1 cdI).enc)), (6, .v (.int .i64 5)), (10, .v (.int .i64 c37)), (93, .v (.bool (decide (v39 > 1))))], []⟩) (by kernel_rfl) ?_
          exact RunS.done rfl (Wk.fr (by kernel_rfl))
        refine Sem.ret ?_
        have hq := Option.some.inj h; subst hq
        exact ⟨rfl, (Wk.fr (by kernel_rfl))⟩
      · rw [if_f hb40] at h
        refine Sem.skip ?_
        refine Sem.runS (s1 := ⟨Fr 103 [(0, .v (.int .i64 x0)), (2, .sl 1 (x2.map (cdL 1 cdI).enc)), (10, .v (.int .i64 (wr .i64 (c37 + 1))))], []⟩) ?_ ?_
        · refine RunS.seg e_ref09_CheckEvening_ok 3 (s1 := ⟨Fr 103 [(0, .v (.int .i64 x0)), (2, .sl 1 (x2.map (cdL 1 cdI).enc)), (10, .v (.int .i64 (wr .i64 (c37 + 1)))), (88, .v (.int .i64 c37)), (89, .v (.int .i64 (wr .i64 (c37 + 1)))), (93, .v (.bool (decide (v39 > 1))))], []⟩) (by kernel_rfl) ?_
          exact RunS.done rfl (Wk.fr (by kernel_rfl))
        exact SemN.wk (s1 := ⟨Fr 103 [(0, .v (.int .i64 x0)), (2, .sl 1 (x2.map (cdL 1 cdI).enc)), (10, .v (.int .i64 (wr .i64 (c37 + 1))))], []⟩) (Wk.fr (by kernel_rfl)) (ih (wr .i64 (c37 + 1)) h)
    · rw [if_f hb38] at h
      refine Sem.exit ?_
      have hq := Option.some.inj h; subst hq
      exact ⟨rfl, (Wk.fr (by kernel_rfl))⟩
set_option maxRecDepth 100000 in
theorem ref09_CheckEvening_5_ok (x0 : Int) (x2 : (List (List Int))) : ∀ (f : Nat) (c44 : Int) (r : (Unit) ⊕ (Int)), ref09_CheckEvening_5 x0 x2 f c44 = some r → SemN e_ref09_CheckEvening ⟨none, false⟩ (pc cb_ref09_CheckEvening [1, 1, 1, 1, 1, 0, 1, 0, 0]) f ⟨Fr 103 [(0, .v (.int .i64 x0)), (2, .sl 1 (x2.map (cdL 1 cdI).enc)), (11, .v (.int .i64 c44))], []⟩ (fun e s => match r with
  | (.inl w) => e = (.exit 8) ∧ Wk e_ref09_CheckEvening s ⟨Fr 103 [], []⟩
  | (.inr w) => e = .ret ∧ Wk e_ref09_CheckEvening s ⟨Fr 103 [(6, .v (.int .i64 w))], []⟩) := by
  intro f
  induction f with
  | zero => intro c44 r h; cases h
  | succ f ih0 =>
    intro c44 r h
    have ih := fun (c44 : Int) => ih0 c44 r
    unfold ref09_CheckEvening_5 at h
    refine SemN.succ ?_
    refine Sem.seq ?_
    refine Sem.seq ?_
    refine Sem.runS (s1 := ⟨Fr 103 [(0, .v (.int .i64 x0)), (2, .sl 1 (x2.map (cdL 1 cdI).enc)), (11, .v (.int .i64 c44)), (96, .v (.bool (decide (c44 < x0))))], []⟩) ?_ ?_
    · refine RunS.seg e_ref09_CheckEvening_ok 3 (s1 := ⟨Fr 103 [(0, .v (.int .i64 x0)), (2, .sl 1 (x2.map (cdL 1 cdI).enc)), (11, .v (.int .i64 c44)), (94, .v (.int .i64 c44)), (95, .v (.int .i64 x0)), (96, .v (.bool (decide (c44 < x0))))], []⟩) (by kernel_rfl) ?_
      exact RunS.done rfl (Wk.fr (by kernel_rfl))
    refine Sem.cond (b := (decide (c44 < x0))) (by kernel_rfl) (fun hb45 => ?_) (fun hb45 => ?_)
    · rw [if_pos hb45] at h
      refine Sem.skip ?_
      refine Sem.seq ?_
      refine Sem.block ?_
      refine Sem.seq ?_
      obtain ⟨v46, hv46, h⟩ := Option.bind_eq_some_iff.1 h
      refine Sem.runS (s1 := ⟨Fr 103 [(0, .v (.int .i64 x0)), (2, .sl 1 (x2.map (cdL 1 cdI).enc)), (11, .v (.int .i64 c44)), (102, .v (.bool (v46 == 0)))], []⟩) ?_ ?_
      · refine RunS.seg e_ref09_CheckEvening_ok 2 (s1 := ⟨Fr 103 [(0, .v (.int .i64 x0)), (2, .sl 1 (x2.map (cdL 1 cdI).enc)), (11, .v (.int .i64 c44)), (96, .v (.bool (decide (c44 < x0)))), (99, .sl 1 (x2.map (cdL 1 cdI).enc)), (100, .v (.int .i64 c44))], []⟩) (by kernel_rfl) ?_
        refine RunS.call e_ref09_CheckEvening_ok (fid := 98) (s := cs_ref09_times) (F := fun a => ref09_times a.1 a.2.1) (er := er_ref09_times) (xs := [.sl 1 (x2.map (cdL 1 cdI).enc), .v (.int .i64 c44)]) (a := (x2, c44, ())) rfl (wantedA_none rfl) (by kernel_rfl) (by kernel_rfl) (by kernel_rfl) (by kernel_rfl) (Sns.cons (Sn.enc (c := (cdL 1 (cdL 1 cdI))) (v := x2)) (Sns.cons (Sn.enc (c := cdI) (v := c44)) Sns.nil)) (.inl (by kernel_rfl)) hv46 ?_
        refine RunS.seg e_ref09_CheckEvening_ok 1 (s1 := ⟨Fr 103 [(0, .v (.int .i64 x0)), (2, .sl 1 (x2.map (cdL 1 cdI).enc)), (11, .v (.int .i64 c44)), (96, .v (.bool (decide (c44 < x0)))), (99, .sl 1 (x2.map (cdL 1 cdI).enc)), (100, .v (.int .i64 c44)), (101, .v (.int .i64 v46)), (102, .v (.bool (v46 == 0)))], []⟩) (by kernel_rfl) ?_
        exact RunS.done rfl (Wk.fr (by kernel_rfl))
      refine Sem.cond (b := (v46 == 0)) (by kernel_rfl) (fun hb47 => ?_) (fun hb47 => ?_)
      · rw [if_pos hb47] at h
        refine Sem.seq ?_
        refine Sem.runS (s1 := ⟨Fr 103 [(6, .v (.int .i64 2))], []⟩) ?_ ?_
        · refine RunS.seg e_ref09_CheckEvening_ok 1 (s1 := ⟨Fr 103 [(0, .v (.int .i64 x0)), (2, .sl 1 (x2.map (cdL 1 cdI).enc)), (6, .v (.int .i64 2)), (11, .v (.int .i64 c44)), (102, .v (.bool (v46 == 0)))], []⟩) (by kernel_rfl) ?_
          exact RunS.done rfl (Wk.fr (by kernel_rfl))
        refine Sem.ret ?_
        have hq := Option.some.inj h; subst hq
        exact ⟨rfl, (Wk.fr (by kernel_rfl))⟩
      · rw [if_f hb47] at h
        refine Sem.skip ?_
        refine Sem.runS (s1 := ⟨Fr 103 [(0, .v (.int .i64 x0)), (2, .sl 1 (x2.map (cdL 1 cdI).enc)), (11, .v (.int .i64 (wr .i64 (c44 + 1))))], []⟩) ?_ ?_
        · refine RunS.seg e_ref09_CheckEvening_ok 3 (s1 := ⟨Fr 103 [(0, .v (.int .i64 x0)), (2, .sl 1 (x2.map (cdL 1 cdI).enc)), (11, .v (.int .i64 (wr .i64 (c44 + 1)))), (97, .v (.int .i64 c44)), (98, .v (.int .i64 (wr .i64 (c44 + 1)))), (102, .v (.bool (v46 == 0)))], []⟩) (by kernel_rfl) ?_
          exact RunS.done rfl (Wk.fr (by kernel_rfl))
        exact SemN.wk (s1 := ⟨Fr 103 [(0, .v (.int .i64 x0)), (2, .sl 1 (x2.map (cdL 1 cdI).enc)), (11, .v (.int .i64 (wr .i64 (c44 + 1))))], []⟩) (Wk.fr (by kernel_rfl)) (ih (wr .i64 (c44 + 1)) h)
    · rw [if_f hb45] at h
      refine Sem.exit ?_
      have hq := Option.some.inj h; subst hq
      exact ⟨rfl, (Wk.fr (by kernel_rfl))⟩
set_option maxRecDepth 100000 in
theorem ref09_CheckEvening_sem (x0 : Int) (x1 : (List Int)) (x2 : (List (List Int))) (r : Int) (h : ref09_CheckEvening x0 x1 x2 = some r) : Sem e_ref09_CheckEvening ⟨none, false⟩ cb_ref09_CheckEvening ⟨Fr 103 (pairs0 0 (cs_ref09_CheckEvening.enc (x0, x1, x2, ()))), []⟩ fun e s' => (e = .normal ∨ e = .ret) ∧ ∃ xs, resA e_ref09_CheckEvening.P s'.fr s'.hp Tryd.f71.results.toList = some xs ∧ retA xs = er_ref09_CheckEvening r := by
  unfold ref09_CheckEvening at h
  refine Sem.wkQ (Sem.wk (s1 := ⟨Fr 103 [(0, .v (.int .i64 x0)), (1, .sl 1 (x1.map cdI.enc)), (2, .sl 1 (x2.map (cdL 1 cdI).enc))], []⟩) (Wk.fr (by kernel_rfl)) ?_)
  refine Sem.seq ?_
  refine Sem.runS (s1 := ⟨Fr 103 [(0, .v (.int .i64 x0)), (1, .sl 1 (x1.map cdI.enc)), (2, .sl 1 (x2.map (cdL 1 cdI).enc))], []⟩) ?_ ?_
  · refine RunS.seg e_ref09_CheckEvening_ok 1 (s1 := ⟨Fr 103 [(0, .v (.int .i64 x0)), (1, .sl 1 (x1.map cdI.enc)), (2, .sl 1 (x2.map (cdL 1 cdI).enc)), (6, .v (.int .i64 0))], []⟩) (by kernel_rfl) ?_
    exact RunS.done rfl (Wk.fr (by kernel_rfl))
  refine Sem.seq ?_
  refine Sem.seq ?_
  obtain ⟨j2, hj2, h⟩ := Option.bind_eq_some_iff.1 h
  refine Sem.runS (s1 := ⟨Fr 103 [(0, .v (.int .i64 x0)), (1, .sl 1 (x1.map cdI.enc)), (2, .sl 1 (x2.map (cdL 1 cdI).enc)), (21, .v (.bool j2))], []⟩) ?_ ?_
  · refine RunS.seg e_ref09_CheckEvening_ok 1 (s1 := ⟨Fr 103 [(0, .v (.int .i64 x0)), (1, .sl 1 (x1.map cdI.enc)), (2, .sl 1 (x2.map (cdL 1 cdI).enc)), (12, .sl 1 (x1.map cdI.enc))], []⟩) (by kernel_rfl) ?_
    refine RunS.one e_ref09_CheckEvening_ok 0 rfl (op_q (wantedA_none rfl) rfl (q_len (a := .sl 1 (x1.map cdI.enc)) (by kernel_rfl) (len_sl (el := 3) (by kernel_rfl)))) ?_
    refine RunS.seg e_ref09_CheckEvening_ok 2 (s1 := ⟨Fr 103 [(0, .v (.int .i64 x0)), (1, .sl 1 (x1.map cdI.enc)), (2, .sl 1 (x2.map (cdL 1 cdI).enc)), (12, .sl 1 (x1.map cdI.enc)), (13, .v (.int .i64 (x1.length : Int))), (14, .v (.bool (decide ((x1.length : Int) > 0)))), (15, .v (.bool (decide ((x1.length : Int) > 0))))], []⟩) (by kernel_rfl) ?_
    rcases Bool.eq_false_or_eq_true (decide ((x1.length : Int) > 0)) with hc55 | hc55
    · rw [if_pos hc55] at hj2
      rw [hc55]
      refine RunS.seg e_ref09_CheckEvening_ok 1 (s1 := ⟨Fr 103 [(0, .v (.int .i64 x0)), (1, .sl 1 (x1.map cdI.enc)), (2, .sl 1 (x2.map (cdL 1 cdI).enc)), (12, .sl 1 (x1.map cdI.enc)), (13, .v (.int .i64 (x1.length : Int))), (14, .v (.bool true)), (15, .v (.bool true)), (16, .sl 1 (x1.map cdI.enc))], []⟩) (by kernel_rfl) ?_
      refine RunS.one e_ref09_CheckEvening_ok 0 rfl (op_q (by kernel_rfl) rfl (q_len (a := .sl 1 (x1.map cdI.enc)) (by kernel_rfl) (len_sl (el := 3) (by kernel_rfl)))) ?_
      refine RunS.seg e_ref09_CheckEvening_ok 1 (s1 := ⟨Fr 103 [(0, .v (.int .i64 x0)), (1, .sl 1 (x1.map cdI.enc)), (2, .sl 1 (x2.map (cdL 1 cdI).enc)), (12, .sl 1 (x1.map cdI.enc)), (13, .v (.int .i64 (x1.length : Int))), (14, .v (.bool true)), (15, .v (.bool true)), (16, .sl 1 (x1.map cdI.enc)), (17, .v (.int .i64 (x1.length : Int))), (18, .sl 1 (x2.map (cdL 1 cdI).enc))], []⟩) (by kernel_rfl) ?_
      refine RunS.one e_ref09_CheckEvening_ok 0 rfl (op_q (by kernel_rfl) rfl (q_len (a := .sl 1 (x2.map (cdL 1 cdI).enc)) (by kernel_rfl) (len_sl (el := 24) (by kernel_rfl)))) ?_
      refine RunS.seg e_ref09_CheckEvening_ok 2 (s1 := ⟨Fr 103 [(0, .v (.int .i64 x0)), (1, .sl 1 (x1.map cdI.enc)), (2, .sl 1 (x2.map (cdL 1 cdI).enc)), (12, .sl 1 (x1.map cdI.enc)), (13, .v (.int .i64 (x1.length : Int))), (14, .v (.bool true)), (15, .v (.bool true)), (16, .sl 1 (x1.map cdI.enc)), (17, .v (.int .i64 (x1.length : Int))), (18, .sl 1 (x2.map (cdL 1 cdI).enc)), (19, .v (.int .i64 (x2.length : Int))), (20, .v (.bool ((x1.length : Int) != (x2.length : Int)))), (21, .v (.bool ((x1.length : Int) != (x2.length : Int))))], []⟩) (by kernel_rfl) ?_
      have hq := Option.some.inj hj2; subst hq
      exact RunS.done rfl (Wk.fr (by kernel_rfl))
    · rw [if_f hc55] at hj2
      rw [hc55]
      refine RunS.seg e_ref09_CheckEvening_ok 6 (s1 := ⟨Fr 103 [(0, .v (.int .i64 x0)), (1, .sl 1 (x1.map cdI.enc)), (2, .sl 1 (x2.map (cdL 1 cdI).enc)), (12, .sl 1 (x1.map cdI.enc)), (13, .v (.int .i64 (x1.length : Int))), (14, .v (.bool false)), (15, .v (.bool false)), (16, .tp []), (17, .tp []), (18, .tp []), (19, .tp []), (20, .tp []), (21, .v (.bool false))], []⟩) (by kernel_rfl) ?_
      have hq := Option.some.inj hj2; subst hq
      exact RunS.done rfl (Wk.fr (by kernel_rfl))
  refine Sem.cond (b := j2) (by kernel_rfl) (fun hb3 => ?_) (fun hb3 => ?_)
  · rw [if_pos hb3] at h
    refine Sem.seq ?_
    refine Sem.runS (s1 := ⟨Fr 103 [(6, .v (.int .i64 2))], []⟩) ?_ ?_
    · refine RunS.seg e_ref09_CheckEvening_ok 1 (s1 := ⟨Fr 103 [(0, .v (.int .i64 x0)), (1, .sl 1 (x1.map cdI.enc)), (2, .sl 1 (x2.map (cdL 1 cdI).enc)), (6, .v (.int .i64 2)), (21, .v (.bool j2))], []⟩) (by kernel_rfl) ?_
      exact RunS.done rfl (Wk.fr (by kernel_rfl))
    refine Sem.ret ?_
    have hq := Option.some.inj h; subst hq
    exact ⟨⟨Fr 103 [(6, .v (.int .i64 2))], []⟩, (Wk.fr (by kernel_rfl)), .inr rfl, [.v (.int .i64 2)], (by kernel_rfl), (by kernel_rfl)⟩
  · rw [if_f hb3] at h
    refine Sem.skip ?_
    refine Sem.seq ?_
    refine Sem.seq ?_
    refine Sem.runS (s1 := ⟨Fr 103 [(0, .v (.int .i64 x0)), (1, .sl 1 (x1.map cdI.enc)), (2, .sl 1 (x2.map (cdL 1 cdI).enc)), (7, .v (.int .i64 0))], []⟩) ?_ ?_
    · refine RunS.seg e_ref09_CheckEvening_ok 1 (s1 := ⟨Fr 103 [(0, .v (.int .i64 x0)), (1, .sl 1 (x1.map cdI.enc)), (2, .sl 1 (x2.map (cdL 1 cdI).enc)), (7, .v (.int .i64 0)), (21, .v (.bool j2))], []⟩) (by kernel_rfl) ?_
      exact RunS.done rfl (Wk.fr (by kernel_rfl))
    refine Sem.block ?_
    obtain ⟨r15, hr15, h⟩ := Option.bind_eq_some_iff.1 h
    refine Sem.loop (n := 100000) ?_
    rcases r15 with w16 | w54
    · refine Sem.cutN (SemN.wk (s1 := ⟨Fr 103 [(0, .v (.int .i64 x0)), (1, .sl 1 (x1.map cdI.enc)), (2, .sl 1 (x2.map (cdL 1 cdI).enc)), (7, .v (.int .i64 0))], []⟩) (Wk.fr (by kernel_rfl)) (ref09_CheckEvening_1_ok x0 x1 x2 _ 0 _ hr15)) ?_
      refine Sem.seq ?_
      refine Sem.seq ?_
      refine Sem.runS (s1 := ⟨Fr 103 [(0, .v (.int .i64 x0)), (2, .sl 1 (x2.map (cdL 1 cdI).enc)), (8, .v (.int .i64 0))], []⟩) ?_ ?_
      · refine RunS.seg e_ref09_CheckEvening_ok 1 (s1 := ⟨Fr 103 [(0, .v (.int .i64 x0)), (2, .sl 1 (x2.map (cdL 1 cdI).enc)), (8, .v (.int .i64 0))], []⟩) (by kernel_rfl) ?_
        exact RunS.done rfl (Wk.fr (by kernel_rfl))
      refine Sem.block ?_
      obtain ⟨r35, hr35, h⟩ := Option.bind_eq_some_iff.1 h
      refine Sem.loop (n := 100000) ?_
      rcases r35 with w36 | w53
      · refine Sem.cutN (SemN.wk (s1 := ⟨Fr 103 [(0, .v (.int .i64 x0)), (2, .sl 1 (x2.map (cdL 1 cdI).enc)), (8, .v (.int .i64 0))], []⟩) (Wk.fr (by kernel_rfl)) (ref09_CheckEvening_2_ok x0 x2 _ 0 _ hr35)) ?_
        refine Sem.seq ?_
        refine Sem.seq ?_
        refine Sem.runS (s1 := ⟨Fr 103 [(0, .v (.int .i64 x0)), (2, .sl 1 (x2.map (cdL 1 cdI).enc)), (10, .v (.int .i64 0))], []⟩) ?_ ?_
        · refine RunS.seg e_ref09_CheckEvening_ok 1 (s1 := ⟨Fr 103 [(0, .v (.int .i64 x0)), (2, .sl 1 (x2.map (cdL 1 cdI).enc)), (10, .v (.int .i64 0))], []⟩) (by kernel_rfl) ?_
          exact RunS.done rfl (Wk.fr (by kernel_rfl))
        refine Sem.block ?_
        obtain ⟨r42, hr42, h⟩ := Option.bind_eq_some_iff.1 h
        refine Sem.loop (n := 100000) ?_
        rcases r42 with w43 | w52
        · refine Sem.cutN (SemN.wk (s1 := ⟨Fr 103 [(0, .v (.int .i64 x0)), (2, .sl 1 (x2.map (cdL 1 cdI).enc)), (10, .v (.int .i64 0))], []⟩) (Wk.fr (by kernel_rfl)) (ref09_CheckEvening_4_ok x0 x2 _ 0 _ hr42)) ?_
          refine Sem.seq ?_
          refine Sem.seq ?_
          refine Sem.runS (s1 := ⟨Fr 103 [(0, .v (.int .i64 x0)), (2, .sl 1 (x2.map (cdL 1 cdI).enc)), (11, .v (.int .i64 0))], []⟩) ?_ ?_
          · refine RunS.seg e_ref09_CheckEvening_ok 1 (s1 := ⟨Fr 103 [(0, .v (.int .i64 x0)), (2, .sl 1 (x2.map (cdL 1 cdI).enc)), (11, .v (.int .i64 0))], []⟩) (by kernel_rfl) ?_
            exact RunS.done rfl (Wk.fr (by kernel_rfl))
          refine Sem.block ?_
          obtain ⟨r49, hr49, h⟩ := Option.bind_eq_some_iff.1 h
          refine Sem.loop (n := 100000) ?_
          rcases r49 with w50 | w51
          · refine Sem.cutN (SemN.wk (s1 := ⟨Fr 103 [(0, .v (.int .i64 x0)), (2, .sl 1 (x2.map (cdL 1 cdI).enc)), (11, .v (.int .i64 0))], []⟩) (Wk.fr (by kernel_rfl)) (ref09_CheckEvening_5_ok x0 x2 _ 0 _ hr49)) ?_
            refine Sem.seq ?_
            refine Sem.runS (s1 := ⟨Fr 103 [(6, .v (.int .i64 0))], []⟩) ?_ ?_
            · refine RunS.seg e_ref09_CheckEvening_ok 1 (s1 := ⟨Fr 103 [(6, .v (.int .i64 0))], []⟩) (by kernel_rfl) ?_
              exact RunS.done rfl (Wk.fr (by kernel_rfl))
            refine Sem.ret ?_
            have hq := Option.some.inj h; subst hq
            exact ⟨⟨Fr 103 [(6, .v (.int .i64 0))], []⟩, (Wk.fr (by kernel_rfl)), .inr rfl, [.v (.int .i64 0)], (by kernel_rfl), (by kernel_rfl)⟩
          · refine Sem.cutN (SemN.wk (s1 := ⟨Fr 103 [(0, .v (.int .i64 x0)), (2, .sl 1 (x2.map (cdL 1 cdI).enc)), (11, .v (.int .i64 0))], []⟩) (Wk.fr (by kernel_rfl)) (ref09_CheckEvening_5_ok x0 x2 _ 0 _ hr49)) ?_
            have hq := Option.some.inj h; subst hq
            exact ⟨⟨Fr 103 [(6, .v (.int .i64 w51))], []⟩, (Wk.fr (by kernel_rfl)), .inr rfl, [.v (.int .i64 w51)], (by kernel_rfl), (by kernel_rfl)⟩
        · refine Sem.cutN (SemN.wk (s1 := ⟨Fr 103 [(0, .v (.int .i64 x0)), (2, .sl 1 (x2.map (cdL 1 cdI).enc)), (10, .v (.int .i64 0))], []⟩) (Wk.fr (by kernel_rfl)) (ref09_CheckEvening_4_ok x0 x2 _ 0 _ hr42)) ?_
          have hq := Option.some.inj h; subst hq
          exact ⟨⟨Fr 103 [(6, .v (.int .i64 w52))], []⟩, (Wk.fr (by kernel_rfl)), .inr rfl, [.v (.int .i64 w52)], (by kernel_rfl), (by kernel_rfl)⟩
      · refine Sem.cutN (SemN.wk (s1 := ⟨Fr 103 [(0, .v (.int .i64 x0)), (2, .sl 1 (x2.map (cdL 1 cdI).enc)), (8, .v (.int .i64 0))], []⟩) (Wk.fr (by kernel_rfl)) (ref09_CheckEvening_2_ok x0 x2 _ 0 _ hr35)) ?_
        have hq := Option.some.inj h; subst hq
        exact ⟨⟨Fr 103 [(6, .v (.int .i64 w53))], []⟩, (Wk.fr (by kernel_rfl)), .inr rfl, [.v (.int .i64 w53)], (by kernel_rfl), (by kernel_rfl)⟩
    · refine Sem.cutN (SemN.wk (s1 := ⟨Fr 103 [(0, .v (.int .i64 x0)), (1, .sl 1 (x1.map cdI.enc)), (2, .sl 1 (x2.map (cdL 1 cdI).enc)), (7, .v (.int .i64 0))], []⟩) (Wk.fr (by kernel_rfl)) (ref09_CheckEvening_1_ok x0 x1 x2 _ 0 _ hr15)) ?_
      have hq := Option.some.inj h; subst hq
      exact ⟨⟨Fr 103 [(6, .v (.int .i64 w54))], []⟩, (Wk.fr (by kernel_rfl)), .inr rfl, [.v (.int .i64 w54)], (by kernel_rfl), (by kernel_rfl)⟩
def t_ref09_CheckEvening : List AV → Option AV := told cs_ref09_CheckEvening (fun a => ref09_CheckEvening a.1 a.2.1 a.2.2.1) er_ref09_CheckEvening
theorem x_ref09_CheckEvening : XOk 71 t_ref09_CheckEvening := by
  refine EnvOk.x (E := e_ref09_CheckEvening) (contract_ok e_ref09_CheckEvening_ok (fn := Tryd.f71) (c := cb_ref09_CheckEvening) ?h1 ?h2 ⟨Tryd.call71⟩ cs_ref09_CheckEvening (fun a => ref09_CheckEvening a.1 a.2.1 a.2.2.1) er_ref09_CheckEvening (fun a => (by show 3 ≤ 103; decide)) ?h3 ?h4) rfl rfl
  case h1 => kernel_rfl
  case h2 => kernel_rfl
  case h3 => intro b; kernel_rfl
  case h4 => exact fun a b h => ref09_CheckEvening_sem a.1 a.2.1 a.2.2.1 b h
end Go.Proofs.YthofgamegondnaaDoor

namespace Go.Proofs.YthofgamegondnaaDoor
open Go.RowKit
/- trestle/trestleref09.Check -/
noncomputable def e_ref09_Check : Env := ((E0.withX 70 t_ref09_Fit).withX 71 t_ref09_CheckEvening)
theorem e_ref09_Check_ok : EnvOk e_ref09_Check := (EnvOk.withX (EnvOk.withX E0_ok x_ref09_Fit.1 x_ref09_Fit.2) x_ref09_CheckEvening.1 x_ref09_CheckEvening.2)
def ref09_Check_1 (x0 : Int) (x1 : (List Int)) (x2 : (List (List (List Int)))) : Nat → Int → Option ((Unit) ⊕ (Int × Int))
  | 0, _ => none
  | f + 1, c6 =>
    if (decide (c6 < (x2.length : Int))) = true then
    (idx x2 c6).bind fun v8 =>
    (ref09_CheckEvening x0 x1 v8).bind fun v9 =>
    if (v9 != 0) = true then
    some (.inr (c6, v9))
    else
    ref09_Check_1 x0 x1 x2 f (wr .i64 (c6 + 1))
    else
    some (.inl ())
def ref09_Check (x0 : Int) (x1 : (List Int)) (x2 : (List (List (List Int)))) : Option (Int × Int) :=
  (if (decide (x0 < 1)) = true then some true else if (decide (x0 > 64)) = true then some true else if (decide ((x1.length : Int) > 0)) = true then (ref09_Fit x0 x1).bind fun v1 =>
  some (!v1) else some false).bind fun j3 =>
  if j3 = true then
  some (0, 90)
  else
  if (decide ((x2.length : Int) > 64)) = true then
  some (0, 7)
  else
  (ref09_Check_1 x0 x1 x2 100000 0).bind fun r13 =>
  match r13 with
  | (.inl w14) =>
    some (0, 0)
  | (.inr w15) =>
    some (w15.1, w15.2)
def cs_ref09_Check : Cs (Int × (List Int) × (List (List (List Int))) × Unit) := (csC cdI (csC (cdL 1 cdI) (csC (cdL 1 (cdL 1 (cdL 1 cdI))) csN)))
def er_ref09_Check (r : Int × Int) : AV := .tp [cdI.enc r.1, cdI.enc r.2]
noncomputable def cb_ref09_Check : Code := codeOf Tryd.f29
set_option maxRecDepth 100000 in
theorem ref09_Check_1_ok (x0 : Int) (x1 : (List Int)) (x2 : (List (List (List Int)))) : ∀ (f : Nat) (c6 : Int) (r : (Unit) ⊕ (Int × Int)), ref09_Check_1 x0 x1 x2 f c6 = some r → SemN e_ref09_Check ⟨none, false⟩ (pc cb_ref09_Check [1, 1, 1, 0, 1, 0, 0]) f ⟨Fr 47 [(0, .v (.int .i64 x0)), (1, .sl 1 (x1.map cdI.enc)), (2, .sl 1 (x2.map (cdL 1 (cdL 1 cdI)).enc)), (8, .v (.int .i64 c6))], []⟩ (fun e s => match r with
  | (.inl w) => e = (.exit 0) ∧ Wk e_ref09_Check s ⟨Fr 47 [], []⟩
  | (.inr w) => e = .ret ∧ Wk e_ref09_Check s ⟨Fr 47 [(6, .v (.int .i64 w.1)), (7, .v (.int .i64 w.2))], []⟩) := by
  intro f
  induction f with
  | zero => intro c6 r h; cases h
  | succ f ih0 =>
    intro c6 r h
    have ih := fun (c6 : Int) => ih0 c6 r
    unfold ref09_Check_1 at h
    refine SemN.succ ?_
    refine Sem.seq ?_
    refine Sem.seq ?_
    refine Sem.runS (s1 := ⟨Fr 47 [(0, .v (.int .i64 x0)), (1, .sl 1 (x1.map cdI.enc)), (2, .sl 1 (x2.map (cdL 1 (cdL 1 cdI)).enc)), (8, .v (.int .i64 c6)), (33, .v (.bool (decide (c6 < (x2.length : Int)))))], []⟩) ?_ ?_
    · refine RunS.seg e_ref09_Check_ok 2 (s1 := ⟨Fr 47 [(0, .v (.int .i64 x0)), (1, .sl 1 (x1.map cdI.enc)), (2, .sl 1 (x2.map (cdL 1 (cdL 1 cdI)).enc)), (8, .v (.int .i64 c6)), (30, .v (.int .i64 c6)), (31, .sl 1 (x2.map (cdL 1 (cdL 1 cdI)).enc))], []⟩) (by kernel_rfl) ?_
      refine RunS.one e_ref09_Check_ok 0 rfl (op_q (wantedA_none rfl) rfl (q_len (a := .sl 1 (x2.map (cdL 1 (cdL 1 cdI)).enc)) (by kernel_rfl) (len_sl (el := 49) (by kernel_rfl)))) ?_
      refine RunS.seg e_ref09_Check_ok 1 (s1 := ⟨Fr 47 [(0, .v (.int .i64 x0)), (1, .sl 1 (x1.map cdI.enc)), (2, .sl 1 (x2.map (cdL 1 (cdL 1 cdI)).enc)), (8, .v (.int .i64 c6)), (30, .v (.int .i64 c6)), (31, .sl 1 (x2.map (cdL 1 (cdL 1 cdI)).enc)), (32, .v (.int .i64 (x2.length : Int))), (33, .v (.bool (decide (c6 < (x2.length : Int)))))], []⟩) (by kernel_rfl) ?_
      exact RunS.done rfl (Wk.fr (by kernel_rfl))
    refine Sem.cond (b := (decide (c6 < (x2.length : Int)))) (by kernel_rfl) (fun hb7 => ?_) (fun hb7 => ?_)
    · rw [if_pos hb7] at h
      refine Sem.skip ?_
      refine Sem.seq ?_
      refine Sem.block ?_
      refine Sem.seq ?_
      obtain ⟨v8, hv8, h⟩ := Option.bind_eq_some_iff.1 h
      obtain ⟨v9, hv9, h⟩ := Option.bind_eq_some_iff.1 h
      refine Sem.runS (s1 := ⟨Fr 47 [(0, .v (.int .i64 x0)), (1, .sl 1 (x1.map cdI.enc)), (2, .sl 1 (x2.map (cdL 1 (cdL 1 cdI)).enc)), (8, .v (.int .i64 c6)), (9, .v (.int .i64 v9))], []⟩) ?_ ?_
      · refine RunS.seg e_ref09_Check_ok 4 (s1 := ⟨Fr 47 [(0, .v (.int .i64 x0)), (1, .sl 1 (x1.map cdI.enc)), (2, .sl 1 (x2.map (cdL 1 (cdL 1 cdI)).enc)), (8, .v (.int .i64 c6)), (33, .v (.bool (decide (c6 < (x2.length : Int))))), (36, .v (.int .i64 x0)), (37, .sl 1 (x1.map cdI.enc)), (38, .sl 1 (x2.map (cdL 1 (cdL 1 cdI)).enc)), (39, .v (.int .i64 c6))], []⟩) (by kernel_rfl) ?_
        refine RunS.one e_ref09_Check_ok 0 rfl (op_q (wantedA_none rfl) rfl (q_indexAddr (a := .sl 1 (x2.map (cdL 1 (cdL 1 cdI)).enc)) (b := .v (.int .i64 c6)) (by kernel_rfl) (by kernel_rfl) (ix_sl (e := (cdL 1 (cdL 1 cdI)).enc) (el := 49) (k := 1) (ki := .i64) (by kernel_rfl) (by kernel_rfl) hv8))) ?_
        refine RunS.seg e_ref09_Check_ok 1 (s1 := ⟨Fr 47 [(0, .v (.int .i64 x0)), (1, .sl 1 (x1.map cdI.enc)), (2, .sl 1 (x2.map (cdL 1 (cdL 1 cdI)).enc)), (8, .v (.int .i64 c6)), (33, .v (.bool (decide (c6 < (x2.length : Int))))), (36, .v (.int .i64 x0)), (37, .sl 1 (x1.map cdI.enc)), (38, .sl 1 (x2.map (cdL 1 (cdL 1 cdI)).enc)), (39, .v (.int .i64 c6)), (40, .pe (.sl 1 (v8.map (cdL 1 cdI).enc)) 0), (41, .sl 1 (v8.map (cdL 1 cdI).enc))], []⟩) (by kernel_rfl) ?_
        refine RunS.call e_ref09_Check_ok (fid := 71) (s := cs_ref09_CheckEvening) (F := fun a => ref09_CheckEvening a.1 a.2.1 a.2.2.1) (er := er_ref09_CheckEvening) (xs := [.v (.int .i64 x0), .sl 1 (x1.map cdI.enc), .sl 1 (v8.map (cdL 1 cdI).enc)]) (a := (x0, x1, v8, ())) rfl (wantedA_none rfl) (by kernel_rfl) (by kernel_rfl) (by kernel_rfl) (by kernel_rfl) (Sns.cons (Sn.enc (c := cdI) (v := x0)) (Sns.cons (Sn.enc (c := (cdL 1 cdI)) (v := x1)) (Sns.cons (Sn.enc (c := (cdL 1 (cdL 1 cdI))) (v := v8)) Sns.nil))) (.inl (by kernel_rfl)) hv9 ?_
        refine RunS.seg e_ref09_Check_ok 1 (s1 := ⟨Fr 47 [(0, .v (.int .i64 x0)), (1, .sl 1 (x1.map cdI.enc)), (2, .sl 1 (x2.map (cdL 1 (cdL 1 cdI)).enc)), (8, .v (.int .i64 c6)), (9, .v (.int .i64 v9)), (33, .v (.bool (decide (c6 < (x2.length : Int))))), (36, .v (.int .i64 x0)), (37, .sl 1 (x1.map cdI.enc)), (38, .sl 1 (x2.map (cdL 1 (cdL 1 cdI)).enc)), (39, .v (.int .i64 c6)), (40, .pe (.sl 1 (v8.map (cdL 1 cdI).enc)) 0), (41, .sl 1 (v8.map (cdL 1 cdI).enc)), (42, .v (.int .i64 v9))], []⟩) (by kernel_rfl) ?_
        exact RunS.done rfl (Wk.fr (by kernel_rfl))
      refine Sem.seq ?_
      refine Sem.runS (s1 := ⟨Fr 47 [(0, .v (.int .i64 x0)), (1, .sl 1 (x1.map cdI.enc)), (2, .sl 1 (x2.map (cdL 1 (cdL 1 cdI)).enc)), (8, .v (.int .i64 c6)), (9, .v (.int .i64 v9)), (44, .v (.bool (v9 != 0)))], []⟩) ?_ ?_
      · refine RunS.seg e_ref09_Check_ok 2 (s1 := ⟨Fr 47 [(0, .v (.int .i64 x0)), (1, .sl 1 (x1.map cdI.enc)), (2, .sl 1 (x2.map (cdL 1 (cdL 1 cdI)).enc)), (8, .v (.int .i64 c6)), (9, .v (.int .i64 v9)), (43, .v (.int .i64 v9)), (44, .v (.bool (v9 != 0)))], []⟩) (by kernel_rfl) ?_
        exact RunS.done rfl (Wk.fr (by kernel_rfl))
      refine Sem.cond (b := (v9 != 0)) (by kernel_rfl) (fun hb10 => ?_) (fun hb10 => ?_)
      · rw [if_pos hb10] at h
        refine Sem.seq ?_
        refine Sem.runS (s1 := ⟨Fr 47 [(6, .v (.int .i64 c6)), (7, .v (.int .i64 v9))], []⟩) ?_ ?_
        · refine RunS.seg e_ref09_Check_ok 4 (s1 := ⟨Fr 47 [(0, .v (.int .i64 x0)), (1, .sl 1 (x1.map cdI.enc)), (2, .sl 1 (x2.map (cdL 1 (cdL 1 cdI)).enc)), (6, .v (.int .i64 c6)), (7, .v (.int .i64 v9)), (8, .v (.int .i64 c6)), (9, .v (.int .i64 v9)), (44, .v (.bool (v9 != 0))), (45, .v (.int .i64 c6)), (46, .v (.int .i64 v9))], []⟩) (by kernel_rfl) ?_
          exact RunS.done rfl (Wk.fr (by kernel_rfl))
        refine Sem.ret ?_
        have hq := Option.some.inj h; subst hq
        exact ⟨rfl, (Wk.fr (by kernel_rfl))⟩
      · rw [if_f hb10] at h
        refine Sem.skip ?_
        refine Sem.runS (s1 := ⟨Fr 47 [(0, .v (.int .i64 x0)), (1, .sl 1 (x1.map cdI.enc)), (2, .sl 1 (x2.map (cdL 1 (cdL 1 cdI)).enc)), (8, .v (.int .i64 (wr .i64 (c6 + 1))))], []⟩) ?_ ?_
        · refine RunS.seg e_ref09_Check_ok 3 (s1 := ⟨Fr 47 [(0, .v (.int .i64 x0)), (1, .sl 1 (x1.map cdI.enc)), (2, .sl 1 (x2.map (cdL 1 (cdL 1 cdI)).enc)), (8, .v (.int .i64 (wr .i64 (c6 + 1)))), (9, .v (.int .i64 v9)), (34, .v (.int .i64 c6)), (35, .v (.int .i64 (wr .i64 (c6 + 1)))), (44, .v (.bool (v9 != 0)))], []⟩) (by kernel_rfl) ?_
          exact RunS.done rfl (Wk.fr (by kernel_rfl))
        exact SemN.wk (s1 := ⟨Fr 47 [(0, .v (.int .i64 x0)), (1, .sl 1 (x1.map cdI.enc)), (2, .sl 1 (x2.map (cdL 1 (cdL 1 cdI)).enc)), (8, .v (.int .i64 (wr .i64 (c6 + 1))))], []⟩) (Wk.fr (by kernel_rfl)) (ih (wr .i64 (c6 + 1)) h)
    · rw [if_f hb7] at h
      refine Sem.exit ?_
      have hq := Option.some.inj h; subst hq
      exact ⟨rfl, (Wk.fr (by kernel_rfl))⟩
set_option maxRecDepth 100000 in
theorem ref09_Check_sem (x0 : Int) (x1 : (List Int)) (x2 : (List (List (List Int)))) (r : Int × Int) (h : ref09_Check x0 x1 x2 = some r) : Sem e_ref09_Check ⟨none, false⟩ cb_ref09_Check ⟨Fr 47 (pairs0 0 (cs_ref09_Check.enc (x0, x1, x2, ()))), []⟩ fun e s' => (e = .normal ∨ e = .ret) ∧ ∃ xs, resA e_ref09_Check.P s'.fr s'.hp Tryd.f29.results.toList = some xs ∧ retA xs = er_ref09_Check r := by
  unfold ref09_Check at h
  refine Sem.wkQ (Sem.wk (s1 := ⟨Fr 47 [(0, .v (.int .i64 x0)), (1, .sl 1 (x1.map cdI.enc)), (2, .sl 1 (x2.map (cdL 1 (cdL 1 cdI)).enc))], []⟩) (Wk.fr (by kernel_rfl)) ?_)
  refine Sem.seq ?_
  refine Sem.runS (s1 := ⟨Fr 47 [(0, .v (.int .i64 x0)), (1, .sl 1 (x1.map cdI.enc)), (2, .sl 1 (x2.map (cdL 1 (cdL 1 cdI)).enc))], []⟩) ?_ ?_
  · refine RunS.seg e_ref09_Check_ok 2 (s1 := ⟨Fr 47 [(0, .v (.int .i64 x0)), (1, .sl 1 (x1.map cdI.enc)), (2, .sl 1 (x2.map (cdL 1 (cdL 1 cdI)).enc)), (6, .v (.int .i64 0)), (7, .v (.int .i64 0))], []⟩) (by kernel_rfl) ?_
    exact RunS.done rfl (Wk.fr (by kernel_rfl))
  refine Sem.seq ?_
  refine Sem.seq ?_
  obtain ⟨j3, hj3, h⟩ := Option.bind_eq_some_iff.1 h
  refine Sem.runS (s1 := ⟨Fr 47 [(0, .v (.int .i64 x0)), (1, .sl 1 (x1.map cdI.enc)), (2, .sl 1 (x2.map (cdL 1 (cdL 1 cdI)).enc)), (26, .v (.bool j3))], []⟩) ?_ ?_
  · refine RunS.seg e_ref09_Check_ok 3 (s1 := ⟨Fr 47 [(0, .v (.int .i64 x0)), (1, .sl 1 (x1.map cdI.enc)), (2, .sl 1 (x2.map (cdL 1 (cdL 1 cdI)).enc)), (10, .v (.int .i64 x0)), (11, .v (.bool (decide (x0 < 1)))), (12, .v (.bool (decide (x0 < 1))))], []⟩) (by kernel_rfl) ?_
    rcases Bool.eq_false_or_eq_true (decide (x0 < 1)) with hc16 | hc16
    · rw [if_pos hc16] at hj3
      rw [hc16]
      refine RunS.seg e_ref09_Check_ok 14 (s1 := ⟨Fr 47 [(0, .v (.int .i64 x0)), (1, .sl 1 (x1.map cdI.enc)), (2, .sl 1 (x2.map (cdL 1 (cdL 1 cdI)).enc)), (10, .v (.int .i64 x0)), (11, .v (.bool true)), (12, .v (.bool true)), (13, .tp []), (14, .tp []), (15, .v (.bool true)), (16, .v (.bool true)), (17, .tp []), (18, .tp []), (19, .tp []), (20, .tp []), (21, .tp []), (22, .tp []), (23, .tp []), (24, .tp []), (25, .tp []), (26, .v (.bool true))], []⟩) (by kernel_rfl) ?_
      have hq := Option.some.inj hj3; subst hq
      exact RunS.done rfl (Wk.fr (by kernel_rfl))
    · rw [if_f hc16] at hj3
      rw [hc16]
      refine RunS.seg e_ref09_Check_ok 4 (s1 := ⟨Fr 47 [(0, .v (.int .i64 x0)), (1, .sl 1 (x1.map cdI.enc)), (2, .sl 1 (x2.map (cdL 1 (cdL 1 cdI)).enc)), (10, .v (.int .i64 x0)), (11, .v (.bool false)), (12, .v (.bool false)), (13, .v (.int .i64 x0)), (14, .v (.bool (decide (x0 > 64)))), (15, .v (.bool (decide (x0 > 64)))), (16, .v (.bool (decide (x0 > 64))))], []⟩) (by kernel_rfl) ?_
      rcases Bool.eq_false_or_eq_true (decide (x0 > 64)) with hc17 | hc17
      · rw [if_pos hc17] at hj3
        rw [hc17]
        refine RunS.seg e_ref09_Check_ok 10 (s1 := ⟨Fr 47 [(0, .v (.int .i64 x0)), (1, .sl 1 (x1.map cdI.enc)), (2, .sl 1 (x2.map (cdL 1 (cdL 1 cdI)).enc)), (10, .v (.int .i64 x0)), (11, .v (.bool false)), (12, .v (.bool false)), (13, .v (.int .i64 x0)), (14, .v (.bool true)), (15, .v (.bool true)), (16, .v (.bool true)), (17, .tp []), (18, .tp []), (19, .tp []), (20, .tp []), (21, .tp []), (22, .tp []), (23, .tp []), (24, .tp []), (25, .tp []), (26, .v (.bool true))], []⟩) (by kernel_rfl) ?_
        have hq := Option.some.inj hj3; subst hq
        exact RunS.done rfl (Wk.fr (by kernel_rfl))
      · rw [if_f hc17] at hj3
        rw [hc17]
        refine RunS.seg e_ref09_Check_ok 1 (s1 := ⟨Fr 47 [(0, .v (.int .i64 x0)), (1, .sl 1 (x1.map cdI.enc)), (2, .sl 1 (x2.map (cdL 1 (cdL 1 cdI)).enc)), (10, .v (.int .i64 x0)), (11, .v (.bool false)), (12, .v (.bool false)), (13, .v (.int .i64 x0)), (14, .v (.bool false)), (15, .v (.bool false)), (16, .v (.bool false)), (17, .sl 1 (x1.map cdI.enc))], []⟩) (by kernel_rfl) ?_
        refine RunS.one e_ref09_Check_ok 0 rfl (op_q (by kernel_rfl) rfl (q_len (a := .sl 1 (x1.map cdI.enc)) (by kernel_rfl) (len_sl (el := 3) (by kernel_rfl)))) ?_
        refine RunS.seg e_ref09_Check_ok 2 (s1 := ⟨Fr 47 [(0, .v (.int .i64 x0)), (1, .sl 1 (x1.map cdI.enc)), (2, .sl 1 (x2.map (cdL 1 (cdL 1 cdI)).enc)), (10, .v (.int .i64 x0)), (11, .v (.bool false)), (12, .v (.bool false)), (13, .v (.int .i64 x0)), (14, .v (.bool false)), (15, .v (.bool false)), (16, .v (.bool false)), (17, .sl 1 (x1.map cdI.enc)), (18, .v (.int .i64 (x1.length : Int))), (19, .v (.bool (decide ((x1.length : Int) > 0)))), (20, .v (.bool (decide ((x1.length : Int) > 0))))], []⟩) (by kernel_rfl) ?_
        rcases Bool.eq_false_or_eq_true (decide ((x1.length : Int) > 0)) with hc18 | hc18
        · rw [if_pos hc18] at hj3
          rw [hc18]
          refine RunS.seg e_ref09_Check_ok 2 (s1 := ⟨Fr 47 [(0, .v (.int .i64 x0)), (1, .sl 1 (x1.map cdI.enc)), (2, .sl 1 (x2.map (cdL 1 (cdL 1 cdI)).enc)), (10, .v (.int .i64 x0)), (11, .v (.bool false)), (12, .v (.bool false)), (13, .v (.int .i64 x0)), (14, .v (.bool false)), (15, .v (.bool false)), (16, .v (.bool false)), (17, .sl 1 (x1.map cdI.enc)), (18, .v (.int .i64 (x1.length : Int))), (19, .v (.bool true)), (20, .v (.bool true)), (21, .v (.int .i64 x0)), (22, .sl 1 (x1.map cdI.enc))], []⟩) (by kernel_rfl) ?_
          obtain ⟨v1, hv1, hj3⟩ := Option.bind_eq_some_iff.1 hj3
          refine RunS.call e_ref09_Check_ok (fid := 70) (s := cs_ref09_Fit) (F := fun a => ref09_Fit a.1 a.2.1) (er := er_ref09_Fit) (xs := [.v (.int .i64 x0), .sl 1 (x1.map cdI.enc)]) (a := (x0, x1, ())) rfl (by kernel_rfl) (by kernel_rfl) (by kernel_rfl) (by kernel_rfl) (by kernel_rfl) (Sns.cons (Sn.enc (c := cdI) (v := x0)) (Sns.cons (Sn.enc (c := (cdL 1 cdI)) (v := x1)) Sns.nil)) (.inl (by kernel_rfl)) hv1 ?_
          refine RunS.seg e_ref09_Check_ok 3 (s1 := ⟨Fr 47 [(0, .v (.int .i64 x0)), (1, .sl 1 (x1.map cdI.enc)), (2, .sl 1 (x2.map (cdL 1 (cdL 1 cdI)).enc)), (10, .v (.int .i64 x0)), (11, .v (.bool false)), (12, .v (.bool false)), (13, .v (.int .i64 x0)), (14, .v (.bool false)), (15, .v (.bool false)), (16, .v (.bool false)), (17, .sl 1 (x1.map cdI.enc)), (18, .v (.int .i64 (x1.length : Int))), (19, .v (.bool true)), (20, .v (.bool true)), (21, .v (.int .i64 x0)), (22, .sl 1 (x1.map cdI.enc)), (23, .v (.bool v1)), (24, .v (.bool (!v1))), (25, .v (.bool (!v1))), (26, .v (.bool (!v1)))], []⟩) (by kernel_rfl) ?_
          have hq := Option.some.inj hj3; subst hq
          exact RunS.done rfl (Wk.fr (by kernel_rfl))
        · rw [if_f hc18] at hj3
          rw [hc18]
          refine RunS.seg e_ref09_Check_ok 6 (s1 := ⟨Fr 47 [(0, .v (.int .i64 x0)), (1, .sl 1 (x1.map cdI.enc)), (2, .sl 1 (x2.map (cdL 1 (cdL 1 cdI)).enc)), (10, .v (.int .i64 x0)), (11, .v (.bool false)), (12, .v (.bool false)), (13, .v (.int .i64 x0)), (14, .v (.bool false)), (15, .v (.bool false)), (16, .v (.bool false)), (17, .sl 1 (x1.map cdI.enc)), (18, .v (.int .i64 (x1.length : Int))), (19, .v (.bool false)), (20, .v (.bool false)), (21, .tp []), (22, .tp []), (23, .tp []), (24, .tp []), (25, .v (.bool false)), (26, .v (.bool false))], []⟩) (by kernel_rfl) ?_
          have hq := Option.some.inj hj3; subst hq
          exact RunS.done rfl (Wk.fr (by kernel_rfl))
  refine Sem.cond (b := j3) (by kernel_rfl) (fun hb4 => ?_) (fun hb4 => ?_)
  · rw [if_pos hb4] at h
    refine Sem.seq ?_
    refine Sem.runS (s1 := ⟨Fr 47 [(6, .v (.int .i64 0)), (7, .v (.int .i64 90))], []⟩) ?_ ?_
    · refine RunS.seg e_ref09_Check_ok 2 (s1 := ⟨Fr 47 [(0, .v (.int .i64 x0)), (1, .sl 1 (x1.map cdI.enc)), (2, .sl 1 (x2.map (cdL 1 (cdL 1 cdI)).enc)), (6, .v (.int .i64 0)), (7, .v (.int .i64 90)), (26, .v (.bool j3))], []⟩) (by kernel_rfl) ?_
      exact RunS.done rfl (Wk.fr (by kernel_rfl))
    refine Sem.ret ?_
    have hq := Option.some.inj h; subst hq
    exact ⟨⟨Fr 47 [(6, .v (.int .i64 0)), (7, .v (.int .i64 90))], []⟩, (Wk.fr (by kernel_rfl)), .inr rfl, [.v (.int .i64 0), .v (.int .i64 90)], (by kernel_rfl), (by kernel_rfl)⟩
  · rw [if_f hb4] at h
    refine Sem.skip ?_
    refine Sem.seq ?_
    refine Sem.seq ?_
    refine Sem.runS (s1 := ⟨Fr 47 [(0, .v (.int .i64 x0)), (1, .sl 1 (x1.map cdI.enc)), (2, .sl 1 (x2.map (cdL 1 (cdL 1 cdI)).enc)), (29, .v (.bool (decide ((x2.length : Int) > 64))))], []⟩) ?_ ?_
    · refine RunS.seg e_ref09_Check_ok 1 (s1 := ⟨Fr 47 [(0, .v (.int .i64 x0)), (1, .sl 1 (x1.map cdI.enc)), (2, .sl 1 (x2.map (cdL 1 (cdL 1 cdI)).enc)), (26, .v (.bool j3)), (27, .sl 1 (x2.map (cdL 1 (cdL 1 cdI)).enc))], []⟩) (by kernel_rfl) ?_
      refine RunS.one e_ref09_Check_ok 0 rfl (op_q (wantedA_none rfl) rfl (q_len (a := .sl 1 (x2.map (cdL 1 (cdL 1 cdI)).enc)) (by kernel_rfl) (len_sl (el := 49) (by kernel_rfl)))) ?_
      refine RunS.seg e_ref09_Check_ok 1 (s1 := ⟨Fr 47 [(0, .v (.int .i64 x0)), (1, .sl 1 (x1.map cdI.enc)), (2, .sl 1 (x2.map (cdL 1 (cdL 1 cdI)).enc)), (26, .v (.bool j3)), (27, .sl 1 (x2.map (cdL 1 (cdL 1 cdI)).enc)), (28, .v (.int .i64 (x2.length : Int))), (29, .v (.bool (decide ((x2.length : Int) > 64))))], []⟩) (by kernel_rfl) ?_
      exact RunS.done rfl (Wk.fr (by kernel_rfl))
    refine Sem.cond (b := (decide ((x2.length : Int) > 64))) (by kernel_rfl) (fun hb5 => ?_) (fun hb5 => ?_)
    · rw [if_pos hb5] at h
      refine Sem.seq ?_
      refine Sem.runS (s1 := ⟨Fr 47 [(6, .v (.int .i64 0)), (7, .v (.int .i64 7))], []⟩) ?_ ?_
      · refine RunS.seg e_ref09_Check_ok 2 (s1 := ⟨Fr 47 [(0, .v (.int .i64 x0)), (1, .sl 1 (x1.map cdI.enc)), (2, .sl 1 (x2.map (cdL 1 (cdL 1 cdI)).enc)), (6, .v (.int .i64 0)), (7, .v (.int .i64 7)), (29, .v (.bool (decide ((x2.length : Int) > 64))))], []⟩) (by kernel_rfl) ?_
        exact RunS.done rfl (Wk.fr (by kernel_rfl))
      refine Sem.ret ?_
      have hq := Option.some.inj h; subst hq
      exact ⟨⟨Fr 47 [(6, .v (.int .i64 0)), (7, .v (.int .i64 7))], []⟩, (Wk.fr (by kernel_rfl)), .inr rfl, [.v (.int .i64 0), .v (.int .i64 7)], (by kernel_rfl), (by kernel_rfl)⟩
    · rw [if_f hb5] at h
      refine Sem.skip ?_
      refine Sem.seq ?_
      refine Sem.seq ?_
      refine Sem.runS (s1 := ⟨Fr 47 [(0, .v (.int .i64 x0)), (1, .sl 1 (x1.map cdI.enc)), (2, .sl 1 (x2.map (cdL 1 (cdL 1 cdI)).enc)), (8, .v (.int .i64 0))], []⟩) ?_ ?_
      · refine RunS.seg e_ref09_Check_ok 1 (s1 := ⟨Fr 47 [(0, .v (.int .i64 x0)), (1, .sl 1 (x1.map cdI.enc)), (2, .sl 1 (x2.map (cdL 1 (cdL 1 cdI)).enc)), (8, .v (.int .i64 0)), (29, .v (.bool (decide ((x2.length : Int) > 64))))], []⟩) (by kernel_rfl) ?_
        exact RunS.done rfl (Wk.fr (by kernel_rfl))
      refine Sem.block ?_
      obtain ⟨r13, hr13, h⟩ := Option.bind_eq_some_iff.1 h
      refine Sem.loop (n := 100000) ?_
      rcases r13 with w14 | w15
      · refine Sem.cutN (SemN.wk (s1 := ⟨Fr 47 [(0, .v (.int .i64 x0)), (1, .sl 1 (x1.map cdI.enc)), (2, .sl 1 (x2.map (cdL 1 (cdL 1 cdI)).enc)), (8, .v (.int .i64 0))], []⟩) (Wk.fr (by kernel_rfl)) (ref09_Check_1_ok x0 x1 x2 _ 0 _ hr13)) ?_
        refine Sem.seq ?_
        refine Sem.runS (s1 := ⟨Fr 47 [(6, .v (.int .i64 0)), (7, .v (.int .i64 0))], []⟩) ?_ ?_
        · refine RunS.seg e_ref09_Check_ok 2 (s1 := ⟨Fr 47 [(6, .v (.int .i64 0)), (7, .v (.int .i64 0))], []⟩) (by kernel_rfl) ?_
          exact RunS.done rfl (Wk.fr (by kernel_rfl))
        refine Sem.ret ?_
        have hq := Option.some.inj h; subst hq
        exact ⟨⟨Fr 47 [(6, .v (.int .i64 0)), (7, .v (.int .i64 0))], []⟩, (Wk.fr (by kernel_rfl)), .inr rfl, [.v (.int .i64 0), .v (.int .i64 0)], (by kernel_rfl), (by kernel_rfl)⟩
      · refine Sem.cutN (SemN.wk (s1 := ⟨Fr 47 [(0, .v (.int .i64 x0)), (1, .sl 1 (x1.map cdI.enc)), (2, .sl 1 (x2.map (cdL 1 (cdL 1 cdI)).enc)), (8, .v (.int .i64 0))], []⟩) (Wk.fr (by kernel_rfl)) (ref09_Check_1_ok x0 x1 x2 _ 0 _ hr13)) ?_
        have hq := Option.some.inj h; subst hq
        exact ⟨⟨Fr 47 [(6, .v (.int .i64 w15.1)), (7, .v (.int .i64 w15.2))], []⟩, (Wk.fr (by kernel_rfl)), .inr rfl, [.v (.int .i64 w15.1), .v (.int .i64 w15.2)], (by kernel_rfl), (by kernel_rfl)⟩
def t_ref09_Check : List AV → Option AV := told cs_ref09_Check (fun a => ref09_Check a.1 a.2.1 a.2.2.1) er_ref09_Check
theorem x_ref09_Check : XOk 29 t_ref09_Check := by
  refine EnvOk.x (E := e_ref09_Check) (contract_ok e_ref09_Check_ok (fn := Tryd.f29) (c := cb_ref09_Check) ?h1 ?h2 ⟨Tryd.call29⟩ cs_ref09_Check (fun a => ref09_Check a.1 a.2.1 a.2.2.1) er_ref09_Check (fun a => (by show 3 ≤ 47; decide)) ?h3 ?h4) rfl rfl
  case h1 => kernel_rfl
  case h2 => kernel_rfl
  case h3 => intro b; kernel_rfl
  case h4 => exact fun a b h => ref09_Check_sem a.1 a.2.1 a.2.2.1 b h
end Go.Proofs.YthofgamegondnaaDoor

namespace Go.Proofs.YthofgamegondnaaDoor
open Go.RowKit
/- trestle/trestlekit.SameInts -/
noncomputable def e_kit_SameInts : Env := E0
theorem e_kit_SameInts_ok : EnvOk e_kit_SameInts := E0_ok
def kit_SameInts_1 (x0 : (List Int)) (x1 : (List Int)) : Nat → Int → Option ((Unit) ⊕ (Bool))
  | 0, _ => none
  | f + 1, c2 =>
    if (decide (c2 < (x0.length : Int))) = true then
    (idx x0 c2).bind fun v4 =>
    (idx x1 c2).bind fun v5 =>
    if (v4 != v5) = true then
    some (.inr false)
    else
    kit_SameInts_1 x0 x1 f (wr .i64 (c2 + 1))
    else
    some (.inl ())
def kit_SameInts (x0 : (List Int)) (x1 : (List Int)) : Option (Bool) :=
  if ((x0.length : Int) != (x1.length : Int)) = true then
  some false
  else
  (kit_SameInts_1 x0 x1 100000 0).bind fun r8 =>
  match r8 with
  | (.inl w9) =>
    some true
  | (.inr w10) =>
    some w10
def cs_kit_SameInts : Cs ((List Int) × (List Int) × Unit) := (csC (cdL 1 cdI) (csC (cdL 1 cdI) csN))
def er_kit_SameInts (r : Bool) : AV := cdB.enc r
noncomputable def cb_kit_SameInts : Code := codeOf Tryd.f108
set_option maxRecDepth 100000 in
theorem kit_SameInts_1_ok (x0 : (List Int)) (x1 : (List Int)) : ∀ (f : Nat) (c2 : Int) (r : (Unit) ⊕ (Bool)), kit_SameInts_1 x0 x1 f c2 = some r → SemN e_kit_SameInts ⟨none, false⟩ (pc cb_kit_SameInts [1, 1, 0, 1, 0, 0]) f ⟨Fr 26 [(0, .sl 1 (x0.map cdI.enc)), (1, .sl 1 (x1.map cdI.enc)), (5, .v (.int .i64 c2))], []⟩ (fun e s => match r with
  | (.inl w) => e = (.exit 0) ∧ Wk e_kit_SameInts s ⟨Fr 26 [], []⟩
  | (.inr w) => e = .ret ∧ Wk e_kit_SameInts s ⟨Fr 26 [(4, .v (.bool w))], []⟩) := by
  intro f
  induction f with
  | zero => intro c2 r h; cases h
  | succ f ih0 =>
    intro c2 r h
    have ih := fun (c2 : Int) => ih0 c2 r
    unfold kit_SameInts_1 at h
    refine SemN.succ ?_
    refine Sem.seq ?_
    refine Sem.seq ?_
    refine Sem.runS (s1 := ⟨Fr 26 [(0, .sl 1 (x0.map cdI.enc)), (1, .sl 1 (x1.map cdI.enc)), (5, .v (.int .i64 c2)), (14, .v (.bool (decide (c2 < (x0.length : Int)))))], []⟩) ?_ ?_
    · refine RunS.seg e_kit_SameInts_ok 2 (s1 := ⟨Fr 26 [(0, .sl 1 (x0.map cdI.enc)), (1, .sl 1 (x1.map cdI.enc)), (5, .v (.int .i64 c2)), (11, .v (.int .i64 c2)), (12, .sl 1 (x0.map cdI.enc))], []⟩) (by kernel_rfl) ?_
      refine RunS.one e_kit_SameInts_ok 0 rfl (op_q (wantedA_none rfl) rfl (q_len (a := .sl 1 (x0.map cdI.enc)) (by kernel_rfl) (len_sl (el := 3) (by kernel_rfl)))) ?_
      refine RunS.seg e_kit_SameInts_ok 1 (s1 := ⟨Fr 26 [(0, .sl 1 (x0.map cdI.enc)), (1, .sl 1 (x1.map cdI.enc)), (5, .v (.int .i64 c2)), (11, .v (.int .i64 c2)), (12, .sl 1 (x0.map cdI.enc)), (13, .v (.int .i64 (x0.length : Int))), (14, .v (.bool (decide (c2 < (x0.length : Int)))))], []⟩) (by kernel_rfl) ?_
      exact RunS.done rfl (Wk.fr (by kernel_rfl))
    refine Sem.cond (b := (decide (c2 < (x0.length : Int)))) (by kernel_rfl) (fun hb3 => ?_) (fun hb3 => ?_)
    · rw [if_pos hb3] at h
      refine Sem.skip ?_
      refine Sem.seq ?_
      refine Sem.block ?_
      refine Sem.seq ?_
      obtain ⟨v4, hv4, h⟩ := Option.bind_eq_some_iff.1 h
      obtain ⟨v5, hv5, h⟩ := Option.bind_eq_some_iff.1 h
      refine Sem.runDS e_kit_SameInts_ok (s1 := ⟨Fr 26 [(0, .sl 1 (x0.map cdI.enc)), (1, .sl 1 (x1.map cdI.enc)), (5, .v (.int .i64 c2)), (25, .v (.bool (v4 != v5)))], []⟩) (by kernel_rfl) ?_ ?_
      · refine RunDS.seg e_kit_SameInts_ok 2 (s1 := ⟨Fr 26 [(0, .sl 1 (x0.map cdI.enc)), (1, .sl 1 (x1.map cdI.enc)), (5, .v (.int .i64 c2)), (14, .v (.bool (decide (c2 < (x0.length : Int))))), (17, .sl 1 (x0.map cdI.enc)), (18, .v (.int .i64 c2))], []⟩) (by kernel_rfl) (by kernel_rfl) ?_
        refine RunDS.one e_kit_SameInts_ok rfl (by kernel_rfl) (opd_q (by kernel_rfl) (wantedA_none rfl) rfl (q_indexAddr (a := .sl 1 (x0.map cdI.enc)) (b := .v (.int .i64 c2)) (by kernel_rfl) (by kernel_rfl) (ix_sl (e := cdI.enc) (el := 3) (k := 1) (ki := .i64) (by kernel_rfl) (by kernel_rfl) hv4)) (by kernel_rfl)) ?_
        refine RunDS.seg e_kit_SameInts_ok 3 (s1 := ⟨Fr 26 [(0, .sl 1 (x0.map cdI.enc)), (1, .sl 1 (x1.map cdI.enc)), (5, .v (.int .i64 c2)), (14, .v (.bool (decide (c2 < (x0.length : Int))))), (17, .sl 1 (x0.map cdI.enc)), (18, .v (.int .i64 c2)), (19, .pe (.v (.int .i64 v4)) 0), (20, .v (.int .i64 v4)), (21, .sl 1 (x1.map cdI.enc)), (22, .v (.int .i64 c2))], []⟩) (by kernel_rfl) (by kernel_rfl) ?_
        refine RunDS.one e_kit_SameInts_ok rfl (by kernel_rfl) (opd_q (by kernel_rfl) (wantedA_none rfl) rfl (q_indexAddr (a := .sl 1 (x1.map cdI.enc)) (b := .v (.int .i64 c2)) (by kernel_rfl) (by kernel_rfl) (ix_sl (e := cdI.enc) (el := 3) (k := 1) (ki := .i64) (by kernel_rfl) (by kernel_rfl) hv5)) (by kernel_rfl)) ?_
        refine RunDS.seg e_kit_SameInts_ok 2 (s1 := ⟨Fr 26 [(0, .sl 1 (x0.map cdI.enc)), (1, .sl 1 (x1.map cdI.enc)), (5, .v (.int .i64 c2)), (14, .v (.bool (decide (c2 < (x0.length : Int))))), (17, .sl 1 (x0.map cdI.enc)), (18, .v (.int .i64 c2)), (19, .pe (.v (.int .i64 v4)) 0), (20, .v (.int .i64 v4)), (21, .sl 1 (x1.map cdI.enc)), (22, .v (.int .i64 c2)), (23, .pe (.v (.int .i64 v5)) 0), (24, .v (.int .i64 v5)), (25, .v (.bool (v4 != v5)))], []⟩) (by kernel_rfl) (by kernel_rfl) ?_
        exact RunDS.done rfl (Wk.fr (by kernel_rfl))
      refine Sem.cond (b := (v4 != v5)) (by kernel_rfl) (fun hb6 => ?_) (fun hb6 => ?_)
      · rw [if_pos hb6] at h
        refine Sem.seq ?_
        refine Sem.runS (s1 := ⟨Fr 26 [(4, .v (.bool false))], []⟩) ?_ ?_
        · refine RunS.seg e_kit_SameInts_ok 1 (s1 := ⟨Fr 26 [(0, .sl 1 (x0.map cdI.enc)), (1, .sl 1 (x1.map cdI.enc)), (4, .v (.bool false)), (5, .v (.int .i64 c2)), (25, .v (.bool (v4 != v5)))], []⟩) (by kernel_rfl) ?_
          exact RunS.done rfl (Wk.fr (by kernel_rfl))
        refine Sem.ret ?_
        have hq := Option.some.inj h; subst hq
        exact ⟨rfl, (Wk.fr (by kernel_rfl))⟩
      · rw [if_f hb6] at h
        refine Sem.skip ?_
        refine Sem.runS (s1 := ⟨Fr 26 [(0, .sl 1 (x0.map cdI.enc)), (1, .sl 1 (x1.map cdI.enc)), (5, .v (.int .i64 (wr .i64 (c2 + 1))))], []⟩) ?_ ?_
        · refine RunS.seg e_kit_SameInts_ok 3 (s1 := ⟨Fr 26 [(0, .sl 1 (x0.map cdI.enc)), (1, .sl 1 (x1.map cdI.enc)), (5, .v (.int .i64 (wr .i64 (c2 + 1)))), (15, .v (.int .i64 c2)), (16, .v (.int .i64 (wr .i64 (c2 + 1)))), (25, .v (.bool (v4 != v5)))], []⟩) (by kernel_rfl) ?_
          exact RunS.done rfl (Wk.fr (by kernel_rfl))
        exact SemN.wk (s1 := ⟨Fr 26 [(0, .sl 1 (x0.map cdI.enc)), (1, .sl 1 (x1.map cdI.enc)), (5, .v (.int .i64 (wr .i64 (c2 + 1))))], []⟩) (Wk.fr (by kernel_rfl)) (ih (wr .i64 (c2 + 1)) h)
    · rw [if_f hb3] at h
      refine Sem.exit ?_
      have hq := Option.some.inj h; subst hq
      exact ⟨rfl, (Wk.fr (by kernel_rfl))⟩
set_option maxRecDepth 100000 in
theorem kit_SameInts_sem (x0 : (List Int)) (x1 : (List Int)) (r : Bool) (h : kit_SameInts x0 x1 = some r) : Sem e_kit_SameInts ⟨none, false⟩ cb_kit_SameInts ⟨Fr 26 (pairs0 0 (cs_kit_SameInts.enc (x0, x1, ()))), []⟩ fun e s' => (e = .normal ∨ e = .ret) ∧ ∃ xs, resA e_kit_SameInts.P s'.fr s'.hp Tryd.f108.results.toList = some xs ∧ retA xs = er_kit_SameInts r := by
  unfold kit_SameInts at h
  refine Sem.wkQ (Sem.wk (s1 := ⟨Fr 26 [(0, .sl 1 (x0.map cdI.enc)), (1, .sl 1 (x1.map cdI.enc))], []⟩) (Wk.fr (by kernel_rfl)) ?_)
  refine Sem.seq ?_
  refine Sem.runS (s1 := ⟨Fr 26 [(0, .sl 1 (x0.map cdI.enc)), (1, .sl 1 (x1.map cdI.enc))], []⟩) ?_ ?_
  · refine RunS.seg e_kit_SameInts_ok 1 (s1 := ⟨Fr 26 [(0, .sl 1 (x0.map cdI.enc)), (1, .sl 1 (x1.map cdI.enc)), (4, .v (.bool false))], []⟩) (by kernel_rfl) ?_
    exact RunS.done rfl (Wk.fr (by kernel_rfl))
  refine Sem.seq ?_
  refine Sem.seq ?_
  refine Sem.runS (s1 := ⟨Fr 26 [(0, .sl 1 (x0.map cdI.enc)), (1, .sl 1 (x1.map cdI.enc)), (10, .v (.bool ((x0.length : Int) != (x1.length : Int))))], []⟩) ?_ ?_
  · refine RunS.seg e_kit_SameInts_ok 1 (s1 := ⟨Fr 26 [(0, .sl 1 (x0.map cdI.enc)), (1, .sl 1 (x1.map cdI.enc)), (6, .sl 1 (x0.map cdI.enc))], []⟩) (by kernel_rfl) ?_
    refine RunS.one e_kit_SameInts_ok 0 rfl (op_q (wantedA_none rfl) rfl (q_len (a := .sl 1 (x0.map cdI.enc)) (by kernel_rfl) (len_sl (el := 3) (by kernel_rfl)))) ?_
    refine RunS.seg e_kit_SameInts_ok 1 (s1 := ⟨Fr 26 [(0, .sl 1 (x0.map cdI.enc)), (1, .sl 1 (x1.map cdI.enc)), (6, .sl 1 (x0.map cdI.enc)), (7, .v (.int .i64 (x0.length : Int))), (8, .sl 1 (x1.map cdI.enc))], []⟩) (by kernel_rfl) ?_
    refine RunS.one e_kit_SameInts_ok 0 rfl (op_q (wantedA_none rfl) rfl (q_len (a := .sl 1 (x1.map cdI.enc)) (by kernel_rfl) (len_sl (el := 3) (by kernel_rfl)))) ?_
    refine RunS.seg e_kit_SameInts_ok 1 (s1 := ⟨Fr 26 [(0, .sl 1 (x0.map cdI.enc)), (1, .sl 1 (x1.map cdI.enc)), (6, .sl 1 (x0.map cdI.enc)), (7, .v (.int .i64 (x0.length : Int))), (8, .sl 1 (x1.map cdI.enc)), (9, .v (.int .i64 (x1.length : Int))), (10, .v (.bool ((x0.length : Int) != (x1.length : Int))))], []⟩) (by kernel_rfl) ?_
    exact RunS.done rfl (Wk.fr (by kernel_rfl))
  refine Sem.cond (b := ((x0.length : Int) != (x1.length : Int))) (by kernel_rfl) (fun hb1 => ?_) (fun hb1 => ?_)
  · rw [if_pos hb1] at h
    refine Sem.seq ?_
    refine Sem.runS (s1 := ⟨Fr 26 [(4, .v (.bool false))], []⟩) ?_ ?_
    · refine RunS.seg e_kit_SameInts_ok 1 (s1 := ⟨Fr 26 [(0, .sl 1 (x0.map cdI.enc)), (1, .sl 1 (x1.map cdI.enc)), (4, .v (.bool false)), (10, .v (.bool ((x0.length : Int) != (x1.length : Int))))], []⟩) (by kernel_rfl) ?_
      exact RunS.done rfl (Wk.fr (by kernel_rfl))
    refine Sem.ret ?_
    have hq := Option.some.inj h; subst hq
    exact ⟨⟨Fr 26 [(4, .v (.bool false))], []⟩, (Wk.fr (by kernel_rfl)), .inr rfl, [.v (.bool false)], (by kernel_rfl), (by kernel_rfl)⟩
  · rw [if_f hb1] at h
    refine Sem.skip ?_
    refine Sem.seq ?_
    refine Sem.seq ?_
    refine Sem.runS (s1 := ⟨Fr 26 [(0, .sl 1 (x0.map cdI.enc)), (1, .sl 1 (x1.map cdI.enc)), (5, .v (.int .i64 0))], []⟩) ?_ ?_
    · refine RunS.seg e_kit_SameInts_ok 1 (s1 := ⟨Fr 26 [(0, .sl 1 (x0.map cdI.enc)), (1, .sl 1 (x1.map cdI.enc)), (5, .v (.int .i64 0)), (10, .v (.bool ((x0.length : Int) != (x1.length : Int))))], []⟩) (by kernel_rfl) ?_
      exact RunS.done rfl (Wk.fr (by kernel_rfl))
    refine Sem.block ?_
    obtain ⟨r8, hr8, h⟩ := Option.bind_eq_some_iff.1 h
    refine Sem.loop (n := 100000) ?_
    rcases r8 with w9 | w10
    · refine Sem.cutN (SemN.wk (s1 := ⟨Fr 26 [(0, .sl 1 (x0.map cdI.enc)), (1, .sl 1 (x1.map cdI.enc)), (5, .v (.int .i64 0))], []⟩) (Wk.fr (by kernel_rfl)) (kit_SameInts_1_ok x0 x1 _ 0 _ hr8)) ?_
      refine Sem.seq ?_
      refine Sem.runS (s1 := ⟨Fr 26 [(4, .v (.bool true))], []⟩) ?_ ?_
      · refine RunS.seg e_kit_SameInts_ok 1 (s1 := ⟨Fr 26 [(4, .v (.bool true))], []⟩) (by kernel_rfl) ?_
        exact RunS.done rfl (Wk.fr (by kernel_rfl))
      refine Sem.ret ?_
      have hq := Option.some.inj h; subst hq
      exact ⟨⟨Fr 26 [(4, .v (.bool true))], []⟩, (Wk.fr (by kernel_rfl)), .inr rfl, [.v (.bool true)], (by kernel_rfl), (by kernel_rfl)⟩
    · refine Sem.cutN (SemN.wk (s1 := ⟨Fr 26 [(0, .sl 1 (x0.map cdI.enc)), (1, .sl 1 (x1.map cdI.enc)), (5, .v (.int .i64 0))], []⟩) (Wk.fr (by kernel_rfl)) (kit_SameInts_1_ok x0 x1 _ 0 _ hr8)) ?_
      have hq := Option.some.inj h; subst hq
      exact ⟨⟨Fr 26 [(4, .v (.bool w10))], []⟩, (Wk.fr (by kernel_rfl)), .inr rfl, [.v (.bool w10)], (by kernel_rfl), (by kernel_rfl)⟩
def t_kit_SameInts : List AV → Option AV := told cs_kit_SameInts (fun a => kit_SameInts a.1 a.2.1) er_kit_SameInts
theorem x_kit_SameInts : XOk 108 t_kit_SameInts := by
  refine EnvOk.x (E := e_kit_SameInts) (contract_ok e_kit_SameInts_ok (fn := Tryd.f108) (c := cb_kit_SameInts) ?h1 ?h2 ⟨Tryd.call108⟩ cs_kit_SameInts (fun a => kit_SameInts a.1 a.2.1) er_kit_SameInts (fun a => (by show 2 ≤ 26; decide)) ?h3 ?h4) rfl rfl
  case h1 => kernel_rfl
  case h2 => kernel_rfl
  case h3 => intro b; kernel_rfl
  case h4 => exact fun a b h => kit_SameInts_sem a.1 a.2.1 b h
end Go.Proofs.YthofgamegondnaaDoor

namespace Go.Proofs.YthofgamegondnaaDoor
open Go.RowKit
/- trestle/trestlekit.SameLists -/
noncomputable def e_kit_SameLists : Env := (E0.withX 108 t_kit_SameInts)
theorem e_kit_SameLists_ok : EnvOk e_kit_SameLists := (EnvOk.withX E0_ok x_kit_SameInts.1 x_kit_SameInts.2)
def kit_SameLists_1 (x0 : (List (List Int))) (x1 : (List (List Int))) : Nat → Int → Option ((Unit) ⊕ (Bool))
  | 0, _ => none
  | f + 1, c2 =>
    if (decide (c2 < (x0.length : Int))) = true then
    (idx x0 c2).bind fun v4 =>
    (idx x1 c2).bind fun v5 =>
    (kit_SameInts v4 v5).bind fun v6 =>
    if (!v6) = true then
    some (.inr false)
    else
    kit_SameLists_1 x0 x1 f (wr .i64 (c2 + 1))
    else
    some (.inl ())
def kit_SameLists (x0 : (List (List Int))) (x1 : (List (List Int))) : Option (Bool) :=
  if ((x0.length : Int) != (x1.length : Int)) = true then
  some false
  else
  (kit_SameLists_1 x0 x1 100000 0).bind fun r9 =>
  match r9 with
  | (.inl w10) =>
    some true
  | (.inr w11) =>
    some w11
def cs_kit_SameLists : Cs ((List (List Int)) × (List (List Int)) × Unit) := (csC (cdL 1 (cdL 1 cdI)) (csC (cdL 1 (cdL 1 cdI)) csN))
def er_kit_SameLists (r : Bool) : AV := cdB.enc r
noncomputable def cb_kit_SameLists : Code := codeOf Tryd.f66
set_option maxRecDepth 100000 in
theorem kit_SameLists_1_ok (x0 : (List (List Int))) (x1 : (List (List Int))) : ∀ (f : Nat) (c2 : Int) (r : (Unit) ⊕ (Bool)), kit_SameLists_1 x0 x1 f c2 = some r → SemN e_kit_SameLists ⟨none, false⟩ (pc cb_kit_SameLists [1, 1, 0, 1, 0, 0]) f ⟨Fr 27 [(0, .sl 1 (x0.map (cdL 1 cdI).enc)), (1, .sl 1 (x1.map (cdL 1 cdI).enc)), (5, .v (.int .i64 c2))], []⟩ (fun e s => match r with
  | (.inl w) => e = (.exit 0) ∧ Wk e_kit_SameLists s ⟨Fr 27 [], []⟩
  | (.inr w) => e = .ret ∧ Wk e_kit_SameLists s ⟨Fr 27 [(4, .v (.bool w))], []⟩) := by
  intro f
  induction f with
  | zero => intro c2 r h; cases h
  | succ f ih0 =>
    intro c2 r h
    have ih := fun (c2 : Int) => ih0 c2 r
    unfold kit_SameLists_1 at h
    refine SemN.succ ?_
    refine Sem.seq ?_
    refine Sem.seq ?_
    refine Sem.runS (s1 := ⟨Fr 27 [(0, .sl 1 (x0.map (cdL 1 cdI).enc)), (1, .sl 1 (x1.map (cdL 1 cdI).enc)), (5, .v (.int .i64 c2)), (14, .v (.bool (decide (c2 < (x0.length : Int)))))], []⟩) ?_ ?_
    · refine RunS.seg e_kit_SameLists_ok 2 (s1 := ⟨Fr 27 [(0, .sl 1 (x0.map (cdL 1 cdI).enc)), (1, .sl 1 (x1.map (cdL 1 cdI).enc)), (5, .v (.int .i64 c2)), (11, .v (.int .i64 c2)), (12, .sl 1 (x0.map (cdL 1 cdI).enc))], []⟩) (by kernel_rfl) ?_
      refine RunS.one e_kit_SameLists_ok 0 rfl (op_q (wantedA_none rfl) rfl (q_len (a := .sl 1 (x0.map (cdL 1 cdI).enc)) (by kernel_rfl) (len_sl (el := 24) (by kernel_rfl)))) ?_
      refine RunS.seg e_kit_SameLists_ok 1 (s1 := ⟨Fr 27 [(0, .sl 1 (x0.map (cdL 1 cdI).enc)), (1, .sl 1 (x1.map (cdL 1 cdI).enc)), (5, .v (.int .i64 c2)), (11, .v (.int .i64 c2)), (12, .sl 1 (x0.map (cdL 1 cdI).enc)), (13, .v (.int .i64 (x0.length : Int))), (14, .v (.bool (decide (c2 < (x0.length : Int)))))], []⟩) (by kernel_rfl) ?_
      exact RunS.done rfl (Wk.fr (by kernel_rfl))
    refine Sem.cond (b := (decide (c2 < (x0.length : Int)))) (by kernel_rfl) (fun hb3 => ?_) (fun hb3 => ?_)
    · rw [if_pos hb3] at h
      refine Sem.skip ?_
      refine Sem.seq ?_
      refine Sem.block ?_
      refine Sem.seq ?_
      obtain ⟨v4, hv4, h⟩ := Option.bind_eq_some_iff.1 h
      obtain ⟨v5, hv5, h⟩ := Option.bind_eq_some_iff.1 h
      obtain ⟨v6, hv6, h⟩ := Option.bind_eq_some_iff.1 h
      refine Sem.runDS e_kit_SameLists_ok (s1 := ⟨Fr 27 [(0, .sl 1 (x0.map (cdL 1 cdI).enc)), (1, .sl 1 (x1.map (cdL 1 cdI).enc)), (5, .v (.int .i64 c2)), (26, .v (.bool (!v6)))], []⟩) (by kernel_rfl) ?_ ?_
      · refine RunDS.seg e_kit_SameLists_ok 2 (s1 := ⟨Fr 27 [(0, .sl 1 (x0.map (cdL 1 cdI).enc)), (1, .sl 1 (x1.map (cdL 1 cdI).enc)), (5, .v (.int .i64 c2)), (14, .v (.bool (decide (c2 < (x0.length : Int))))), (17, .sl 1 (x0.map (cdL 1 cdI).enc)), (18, .v (.int .i64 c2))], []⟩) (by kernel_rfl) (by kernel_rfl) ?_
        refine RunDS.one e_kit_SameLists_ok rfl (by kernel_rfl) (opd_q (by kernel_rfl) (wantedA_none rfl) rfl (q_indexAddr (a := .sl 1 (x0.map (cdL 1 cdI).enc)) (b := .v (.int .i64 c2)) (by kernel_rfl) (by kernel_rfl) (ix_sl (e := (cdL 1 cdI).enc) (el := 24) (k := 1) (ki := .i64) (by kernel_rfl) (by kernel_rfl) hv4)) (by kernel_rfl)) ?_
        refine RunDS.seg e_kit_SameLists_ok 3 (s1 := ⟨Fr 27 [(0, .sl 1 (x0.map (cdL 1 cdI).enc)), (1, .sl 1 (x1.map (cdL 1 cdI).enc)), (5, .v (.int .i64 c2)), (14, .v (.bool (decide (c2 < (x0.length : Int))))), (17, .sl 1 (x0.map (cdL 1 cdI).enc)), (18, .v (.int .i64 c2)), (19, .pe (.sl 1 (v4.map cdI.enc)) 0), (20, .sl 1 (v4.map cdI.enc)), (21, .sl 1 (x1.map (cdL 1 cdI).enc)), (22, .v (.int .i64 c2))], []⟩) (by kernel_rfl) (by kernel_rfl) ?_
        refine RunDS.one e_kit_SameLists_ok rfl (by kernel_rfl) (opd_q (by kernel_rfl) (wantedA_none rfl) rfl (q_indexAddr (a := .sl 1 (x1.map (cdL 1 cdI).enc)) (b := .v (.int .i64 c2)) (by kernel_rfl) (by kernel_rfl) (ix_sl (e := (cdL 1 cdI).enc) (el := 24) (k := 1) (ki := .i64) (by kernel_rfl) (by kernel_rfl) hv5)) (by kernel_rfl)) ?_
        refine RunDS.seg e_kit_SameLists_ok 1 (s1 := ⟨Fr 27 [(0, .sl 1 (x0.map (cdL 1 cdI).enc)), (1, .sl 1 (x1.map (cdL 1 cdI).enc)), (5, .v (.int .i64 c2)), (14, .v (.bool (decide (c2 < (x0.length : Int))))), (17, .sl 1 (x0.map (cdL 1 cdI).enc)), (18, .v (.int .i64 c2)), (19, .pe (.sl 1 (v4.map cdI.enc)) 0), (20, .sl 1 (v4.map cdI.enc)), (21, .sl 1 (x1.map (cdL 1 cdI).enc)), (22, .v (.int .i64 c2)), (23, .pe (.sl 1 (v5.map cdI.enc)) 0), (24, .sl 1 (v5.map cdI.enc))], []⟩) (by kernel_rfl) (by kernel_rfl) ?_
        refine RunDS.call e_kit_SameLists_ok (fid := 108) (s := cs_kit_SameInts) (F := fun a => kit_SameInts a.1 a.2.1) (er := er_kit_SameInts) (xs := [.sl 1 (v4.map cdI.enc), .sl 1 (v5.map cdI.enc)]) (a := (v4, v5, ())) rfl (wantedA_none rfl) (by kernel_rfl) (by kernel_rfl) (by kernel_rfl) (Sns.cons (Sn.enc (c := (cdL 1 cdI)) (v := v4)) (Sns.cons (Sn.enc (c := (cdL 1 cdI)) (v := v5)) Sns.nil)) (by kernel_rfl) hv6 ?_
        refine RunDS.seg e_kit_SameLists_ok 1 (s1 := ⟨Fr 27 [(0, .sl 1 (x0.map (cdL 1 cdI).enc)), (1, .sl 1 (x1.map (cdL 1 cdI).enc)), (5, .v (.int .i64 c2)), (14, .v (.bool (decide (c2 < (x0.length : Int))))), (17, .sl 1 (x0.map (cdL 1 cdI).enc)), (18, .v (.int .i64 c2)), (19, .pe (.sl 1 (v4.map cdI.enc)) 0), (20, .sl 1 (v4.map cdI.enc)), (21, .sl 1 (x1.map (cdL 1 cdI).enc)), (22, .v (.int .i64 c2)), (23, .pe (.sl 1 (v5.map cdI.enc)) 0), (24, .sl 1 (v5.map cdI.enc)), (25, .v (.bool v6)), (26, .v (.bool (!v6)))], []⟩) (by kernel_rfl) (by kernel_rfl) ?_
        exact RunDS.done rfl (Wk.fr (by kernel_rfl))
      refine Sem.cond (b := (!v6)) (by kernel_rfl) (fun hb7 => ?_) (fun hb7 => ?_)
      · rw [if_pos hb7] at h
        refine Sem.seq ?_
        refine Sem.runS (s1 := ⟨Fr 27 [(4, .v (.bool false))], []⟩) ?_ ?_
        · refine RunS.seg e_kit_SameLists_ok 1 (s1 := ⟨Fr 27 [(0, .sl 1 (x0.map (cdL 1 cdI).enc)), (1, .sl 1 (x1.map (cdL 1 cdI).enc)), (4, .v (.bool false)), (5, .v (.int .i64 c2)), (26, .v (.bool (!v6)))], []⟩) (by kernel_rfl) ?_
          exact RunS.done rfl (Wk.fr (by kernel_rfl))
        refine Sem.ret ?_
        have hq := Option.some.inj h; subst hq
        exact ⟨rfl, (Wk.fr (by kernel_rfl))⟩
      · rw [if_f hb7] at h
        refine Sem.skip ?_
        refine Sem.runS (s1 := ⟨Fr 27 [(0, .sl 1 (x0.map (cdL 1 cdI).enc)), (1, .sl 1 (x1.map (cdL 1 cdI).enc)), (5, .v (.int .i64 (wr .i64 (c2 + 1))))], []⟩) ?_ ?_
        · refine RunS.seg e_kit_SameLists_ok 3 (s1 := ⟨Fr 27 [(0, .sl 1 (x0.map (cdL 1 cdI).enc)), (1, .sl 1 (x1.map (cdL 1 cdI).enc)), (5, .v (.int .i64 (wr .i64 (c2 + 1)))), (15, .v (.int .i64 c2)), (16, .v (.int .i64 (wr .i64 (c2 + 1)))), (26, .v (.bool (!v6)))], []⟩) (by kernel_rfl) ?_
          exact RunS.done rfl (Wk.fr (by kernel_rfl))
        exact SemN.wk (s1 := ⟨Fr 27 [(0, .sl 1 (x0.map (cdL 1 cdI).enc)), (1, .sl 1 (x1.map (cdL 1 cdI).enc)), (5, .v (.int .i64 (wr .i64 (c2 + 1))))], []⟩) (Wk.fr (by kernel_rfl)) (ih (wr .i64 (c2 + 1)) h)
    · rw [if_f hb3] at h
      refine Sem.exit ?_
      have hq := Option.some.inj h; subst hq
      exact ⟨rfl, (Wk.fr (by kernel_rfl))⟩
set_option maxRecDepth 100000 in
theorem kit_SameLists_sem (x0 : (List (List Int))) (x1 : (List (List Int))) (r : Bool) (h : kit_SameLists x0 x1 = some r) : Sem e_kit_SameLists ⟨none, false⟩ cb_kit_SameLists ⟨Fr 27 (pairs0 0 (cs_kit_SameLists.enc (x0, x1, ()))), []⟩ fun e s' => (e = .normal ∨ e = .ret) ∧ ∃ xs, resA e_kit_SameLists.P s'.fr s'.hp Tryd.f66.results.toList = some xs ∧ retA xs = er_kit_SameLists r := by
  unfold kit_SameLists at h
  refine Sem.wkQ (Sem.wk (s1 := ⟨Fr 27 [(0, .sl 1 (x0.map (cdL 1 cdI).enc)), (1, .sl 1 (x1.map (cdL 1 cdI).enc))], []⟩) (Wk.fr (by kernel_rfl)) ?_)
  refine Sem.seq ?_
  refine Sem.runS (s1 := ⟨Fr 27 [(0, .sl 1 (x0.map (cdL 1 cdI).enc)), (1, .sl 1 (x1.map (cdL 1 cdI).enc))], []⟩) ?_ ?_
  · refine RunS.seg e_kit_SameLists_ok 1 (s1 := ⟨Fr 27 [(0, .sl 1 (x0.map (cdL 1 cdI).enc)), (1, .sl 1 (x1.map (cdL 1 cdI).enc)), (4, .v (.bool false))], []⟩) (by kernel_rfl) ?_
    exact RunS.done rfl (Wk.fr (by kernel_rfl))
  refine Sem.seq ?_
  refine Sem.seq ?_
  refine Sem.runS (s1 := ⟨Fr 27 [(0, .sl 1 (x0.map (cdL 1 cdI).enc)), (1, .sl 1 (x1.map (cdL 1 cdI).enc)), (10, .v (.bool ((x0.length : Int) != (x1.length : Int))))], []⟩) ?_ ?_
  · refine RunS.seg e_kit_SameLists_ok 1 (s1 := ⟨Fr 27 [(0, .sl 1 (x0.map (cdL 1 cdI).enc)), (1, .sl 1 (x1.map (cdL 1 cdI).enc)), (6, .sl 1 (x0.map (cdL 1 cdI).enc))], []⟩) (by kernel_rfl) ?_
    refine RunS.one e_kit_SameLists_ok 0 rfl (op_q (wantedA_none rfl) rfl (q_len (a := .sl 1 (x0.map (cdL 1 cdI).enc)) (by kernel_rfl) (len_sl (el := 24) (by kernel_rfl)))) ?_
    refine RunS.seg e_kit_SameLists_ok 1 (s1 := ⟨Fr 27 [(0, .sl 1 (x0.map (cdL 1 cdI).enc)), (1, .sl 1 (x1.map (cdL 1 cdI).enc)), (6, .sl 1 (x0.map (cdL 1 cdI).enc)), (7, .v (.int .i64 (x0.length : Int))), (8, .sl 1 (x1.map (cdL 1 cdI).enc))], []⟩) (by kernel_rfl) ?_
    refine RunS.one e_kit_SameLists_ok 0 rfl (op_q (wantedA_none rfl) rfl (q_len (a := .sl 1 (x1.map (cdL 1 cdI).enc)) (by kernel_rfl) (len_sl (el := 24) (by kernel_rfl)))) ?_
    refine RunS.seg e_kit_SameLists_ok 1 (s1 := ⟨Fr 27 [(0, .sl 1 (x0.map (cdL 1 cdI).enc)), (1, .sl 1 (x1.map (cdL 1 cdI).enc)), (6, .sl 1 (x0.map (cdL 1 cdI).enc)), (7, .v (.int .i64 (x0.length : Int))), (8, .sl 1 (x1.map (cdL 1 cdI).enc)), (9, .v (.int .i64 (x1.length : Int))), (10, .v (.bool ((x0.length : Int) != (x1.length : Int))))], []⟩) (by kernel_rfl) ?_
    exact RunS.done rfl (Wk.fr (by kernel_rfl))
  refine Sem.cond (b := ((x0.length : Int) != (x1.length : Int))) (by kernel_rfl) (fun hb1 => ?_) (fun hb1 => ?_)
  · rw [if_pos hb1] at h
    refine Sem.seq ?_
    refine Sem.runS (s1 := ⟨Fr 27 [(4, .v (.bool false))], []⟩) ?_ ?_
    · refine RunS.seg e_kit_SameLists_ok 1 (s1 := ⟨Fr 27 [(0, .sl 1 (x0.map (cdL 1 cdI).enc)), (1, .sl 1 (x1.map (cdL 1 cdI).enc)), (4, .v (.bool false)), (10, .v (.bool ((x0.length : Int) != (x1.length : Int))))], []⟩) (by kernel_rfl) ?_
      exact RunS.done rfl (Wk.fr (by kernel_rfl))
    refine Sem.ret ?_
    have hq := Option.some.inj h; subst hq
    exact ⟨⟨Fr 27 [(4, .v (.bool false))], []⟩, (Wk.fr (by kernel_rfl)), .inr rfl, [.v (.bool false)], (by kernel_rfl), (by kernel_rfl)⟩
  · rw [if_f hb1] at h
    refine Sem.skip ?_
    refine Sem.seq ?_
    refine Sem.seq ?_
    refine Sem.runS (s1 := ⟨Fr 27 [(0, .sl 1 (x0.map (cdL 1 cdI).enc)), (1, .sl 1 (x1.map (cdL 1 cdI).enc)), (5, .v (.int .i64 0))], []⟩) ?_ ?_
    · refine RunS.seg e_kit_SameLists_ok 1 (s1 := ⟨Fr 27 [(0, .sl 1 (x0.map (cdL 1 cdI).enc)), (1, .sl 1 (x1.map (cdL 1 cdI).enc)), (5, .v (.int .i64 0)), (10, .v (.bool ((x0.length : Int) != (x1.length : Int))))], []⟩) (by kernel_rfl) ?_
      exact RunS.done rfl (Wk.fr (by kernel_rfl))
    refine Sem.block ?_
    obtain ⟨r9, hr9, h⟩ := Option.bind_eq_some_iff.1 h
    refine Sem.loop (n := 100000) ?_
    rcases r9 with w10 | w11
    · refine Sem.cutN (SemN.wk (s1 := ⟨Fr 27 [(0, .sl 1 (x0.map (cdL 1 cdI).enc)), (1, .sl 1 (x1.map (cdL 1 cdI).enc)), (5, .v (.int .i64 0))], []⟩) (Wk.fr (by kernel_rfl)) (kit_SameLists_1_ok x0 x1 _ 0 _ hr9)) ?_
      refine Sem.seq ?_
      refine Sem.runS (s1 := ⟨Fr 27 [(4, .v (.bool true))], []⟩) ?_ ?_
      · refine RunS.seg e_kit_SameLists_ok 1 (s1 := ⟨Fr 27 [(4, .v (.bool true))], []⟩) (by kernel_rfl) ?_
        exact RunS.done rfl (Wk.fr (by kernel_rfl))
      refine Sem.ret ?_
      have hq := Option.some.inj h; subst hq
      exact ⟨⟨Fr 27 [(4, .v (.bool true))], []⟩, (Wk.fr (by kernel_rfl)), .inr rfl, [.v (.bool true)], (by kernel_rfl), (by kernel_rfl)⟩
    · refine Sem.cutN (SemN.wk (s1 := ⟨Fr 27 [(0, .sl 1 (x0.map (cdL 1 cdI).enc)), (1, .sl 1 (x1.map (cdL 1 cdI).enc)), (5, .v (.int .i64 0))], []⟩) (Wk.fr (by kernel_rfl)) (kit_SameLists_1_ok x0 x1 _ 0 _ hr9)) ?_
      have hq := Option.some.inj h; subst hq
      exact ⟨⟨Fr 27 [(4, .v (.bool w11))], []⟩, (Wk.fr (by kernel_rfl)), .inr rfl, [.v (.bool w11)], (by kernel_rfl), (by kernel_rfl)⟩
def t_kit_SameLists : List AV → Option AV := told cs_kit_SameLists (fun a => kit_SameLists a.1 a.2.1) er_kit_SameLists
theorem x_kit_SameLists : XOk 66 t_kit_SameLists := by
  refine EnvOk.x (E := e_kit_SameLists) (contract_ok e_kit_SameLists_ok (fn := Tryd.f66) (c := cb_kit_SameLists) ?h1 ?h2 ⟨Tryd.call66⟩ cs_kit_SameLists (fun a => kit_SameLists a.1 a.2.1) er_kit_SameLists (fun a => (by show 2 ≤ 27; decide)) ?h3 ?h4) rfl rfl
  case h1 => kernel_rfl
  case h2 => kernel_rfl
  case h3 => intro b; kernel_rfl
  case h4 => exact fun a b h => kit_SameLists_sem a.1 a.2.1 b h
end Go.Proofs.YthofgamegondnaaDoor

namespace Go.Proofs.YthofgamegondnaaDoor
open Go.RowKit
/- trestle/trestlelaw09.Same$1 -/
noncomputable def e_law09_Same_1 : Env := (E0.withX 66 t_kit_SameLists)
theorem e_law09_Same_1_ok : EnvOk e_law09_Same_1 := (EnvOk.withX E0_ok x_kit_SameLists.1 x_kit_SameLists.2)
def law09_Same_1 (x0 : (List (List Int))) (x1 : (List (List Int))) : Option (Bool) :=
  (kit_SameLists x0 x1).bind fun v1 =>
  some v1
def cs_law09_Same_1 : Cs ((List (List Int)) × (List (List Int)) × Unit) := (csC (cdL 1 (cdL 1 cdI)) (csC (cdL 1 (cdL 1 cdI)) csN))
def er_law09_Same_1 (r : Bool) : AV := cdB.enc r
noncomputable def cb_law09_Same_1 : Code := codeOf Tryd.f65
set_option maxRecDepth 100000 in
theorem law09_Same_1_sem (x0 : (List (List Int))) (x1 : (List (List Int))) (r : Bool) (h : law09_Same_1 x0 x1 = some r) : Sem e_law09_Same_1 ⟨none, false⟩ cb_law09_Same_1 ⟨Fr 8 (pairs0 0 (cs_law09_Same_1.enc (x0, x1, ()))), []⟩ fun e s' => (e = .normal ∨ e = .ret) ∧ ∃ xs, resA e_law09_Same_1.P s'.fr s'.hp Tryd.f65.results.toList = some xs ∧ retA xs = er_law09_Same_1 r := by
  unfold law09_Same_1 at h
  refine Sem.wkQ (Sem.wk (s1 := ⟨Fr 8 [(0, .sl 1 (x0.map (cdL 1 cdI).enc)), (1, .sl 1 (x1.map (cdL 1 cdI).enc))], []⟩) (Wk.fr (by kernel_rfl)) ?_)
  refine Sem.seq ?_
  refine Sem.runS (s1 := ⟨Fr 8 [(0, .sl 1 (x0.map (cdL 1 cdI).enc)), (1, .sl 1 (x1.map (cdL 1 cdI).enc))], []⟩) ?_ ?_
  · refine RunS.seg e_law09_Same_1_ok 1 (s1 := ⟨Fr 8 [(0, .sl 1 (x0.map (cdL 1 cdI).enc)), (1, .sl 1 (x1.map (cdL 1 cdI).enc)), (4, .v (.bool false))], []⟩) (by kernel_rfl) ?_
    exact RunS.done rfl (Wk.fr (by kernel_rfl))
  refine Sem.seq ?_
  obtain ⟨v1, hv1, h⟩ := Option.bind_eq_some_iff.1 h
  refine Sem.runS (s1 := ⟨Fr 8 [(4, .v (.bool v1))], []⟩) ?_ ?_
  · refine RunS.seg e_law09_Same_1_ok 2 (s1 := ⟨Fr 8 [(0, .sl 1 (x0.map (cdL 1 cdI).enc)), (1, .sl 1 (x1.map (cdL 1 cdI).enc)), (5, .sl 1 (x0.map (cdL 1 cdI).enc)), (6, .sl 1 (x1.map (cdL 1 cdI).enc))], []⟩) (by kernel_rfl) ?_
    refine RunS.call e_law09_Same_1_ok (fid := 66) (s := cs_kit_SameLists) (F := fun a => kit_SameLists a.1 a.2.1) (er := er_kit_SameLists) (xs := [.sl 1 (x0.map (cdL 1 cdI).enc), .sl 1 (x1.map (cdL 1 cdI).enc)]) (a := (x0, x1, ())) rfl (wantedA_none rfl) (by kernel_rfl) (by kernel_rfl) (by kernel_rfl) (by kernel_rfl) (Sns.cons (Sn.enc (c := (cdL 1 (cdL 1 cdI))) (v := x0)) (Sns.cons (Sn.enc (c := (cdL 1 (cdL 1 cdI))) (v := x1)) Sns.nil)) (.inl (by kernel_rfl)) hv1 ?_
    refine RunS.seg e_law09_Same_1_ok 1 (s1 := ⟨Fr 8 [(0, .sl 1 (x0.map (cdL 1 cdI).enc)), (1, .sl 1 (x1.map (cdL 1 cdI).enc)), (4, .v (.bool v1)), (5, .sl 1 (x0.map (cdL 1 cdI).enc)), (6, .sl 1 (x1.map (cdL 1 cdI).enc)), (7, .v (.bool v1))], []⟩) (by kernel_rfl) ?_
    exact RunS.done rfl (Wk.fr (by kernel_rfl))
  refine Sem.ret ?_
  have hq := Option.some.inj h; subst hq
  exact ⟨⟨Fr 8 [(4, .v (.bool v1))], []⟩, (Wk.fr (by kernel_rfl)), .inr rfl, [.v (.bool v1)], (by kernel_rfl), (by kernel_rfl)⟩
def t_law09_Same_1 : List AV → Option AV := told cs_law09_Same_1 (fun a => law09_Same_1 a.1 a.2.1) er_law09_Same_1
theorem x_law09_Same_1 : XOk 65 t_law09_Same_1 := by
  refine EnvOk.x (E := e_law09_Same_1) (contract_ok e_law09_Same_1_ok (fn := Tryd.f65) (c := cb_law09_Same_1) ?h1 ?h2 ⟨Tryd.call65⟩ cs_law09_Same_1 (fun a => law09_Same_1 a.1 a.2.1) er_law09_Same_1 (fun a => (by show 2 ≤ 8; decide)) ?h3 ?h4) rfl rfl
  case h1 => kernel_rfl
  case h2 => kernel_rfl
  case h3 => intro b; kernel_rfl
  case h4 => exact fun a b h => law09_Same_1_sem a.1 a.2.1 b h
end Go.Proofs.YthofgamegondnaaDoor

namespace Go.Proofs.YthofgamegondnaaDoor
open Go.RowKit
/- slices.EqualFunc[[][][]int,[][][]int,[][]int,[][]int] -/
noncomputable def e_slices_EqualFunc_LLL_LLL_LL_LL__law09_Same_1 : Env := (E0.withX 65 t_law09_Same_1)
theorem e_slices_EqualFunc_LLL_LLL_LL_LL__law09_Same_1_ok : EnvOk e_slices_EqualFunc_LLL_LLL_LL_LL__law09_Same_1 := (EnvOk.withX E0_ok x_law09_Same_1.1 x_law09_Same_1.2)
def slices_EqualFunc_LLL_LLL_LL_LL__law09_Same_1_1 (x0 : (List (List (List Int)))) (x1 : (List (List (List Int)))) : Nat → Int → Option ((Unit) ⊕ (Bool))
  | 0, _ => none
  | f + 1, c2 =>
    if (decide (c2 < (x0.length : Int))) = true then
    (idx x0 c2).bind fun v4 =>
    (idx x1 c2).bind fun v5 =>
    (law09_Same_1 v4 v5).bind fun v6 =>
    if (!v6) = true then
    some (.inr false)
    else
    slices_EqualFunc_LLL_LLL_LL_LL__law09_Same_1_1 x0 x1 f (wr .i64 (c2 + 1))
    else
    some (.inl ())
def slices_EqualFunc_LLL_LLL_LL_LL__law09_Same_1 (x0 : (List (List (List Int)))) (x1 : (List (List (List Int)))) : Option (Bool) :=
  if ((x0.length : Int) != (x1.length : Int)) = true then
  some false
  else
  (slices_EqualFunc_LLL_LLL_LL_LL__law09_Same_1_1 x0 x1 100000 0).bind fun r9 =>
  match r9 with
  | (.inl w10) =>
    some true
  | (.inr w11) =>
    some w11
def er_slices_EqualFunc_LLL_LLL_LL_LL__law09_Same_1 (r : Bool) : AV := cdB.enc r
noncomputable def cb_slices_EqualFunc_LLL_LLL_LL_LL__law09_Same_1 : Code := codeOf Tryd.f64
set_option maxRecDepth 100000 in
theorem slices_EqualFunc_LLL_LLL_LL_LL__law09_Same_1_1_ok (x0 : (List (List (List Int)))) (x1 : (List (List (List Int)))) : ∀ (f : Nat) (c2 : Int) (r : (Unit) ⊕ (Bool)), slices_EqualFunc_LLL_LLL_LL_LL__law09_Same_1_1 x0 x1 f c2 = some r → SemN e_slices_EqualFunc_LLL_LLL_LL_LL__law09_Same_1 ⟨none, false⟩ (pc cb_slices_EqualFunc_LLL_LLL_LL_LL__law09_Same_1 [1, 1, 0, 1, 0, 0]) f ⟨Fr 32 [(1, .sl 1 (x1.map (cdL 1 (cdL 1 cdI)).enc)), (2, .fn 65 [] []), (15, .sl 1 (x0.map (cdL 1 (cdL 1 cdI)).enc)), (16, .v (.int .i64 (x0.length : Int))), (17, .v (.int .i64 c2))], []⟩ (fun e s => match r with
  | (.inl w) => e = (.exit 0) ∧ Wk e_slices_EqualFunc_LLL_LLL_LL_LL__law09_Same_1 s ⟨Fr 32 [], []⟩
  | (.inr w) => e = .ret ∧ Wk e_slices_EqualFunc_LLL_LLL_LL_LL__law09_Same_1 s ⟨Fr 32 [(6, .v (.bool w))], []⟩) := by
  intro f
  induction f with
  | zero => intro c2 r h; cases h
  | succ f ih0 =>
    intro c2 r h
    have ih := fun (c2 : Int) => ih0 c2 r
    unfold slices_EqualFunc_LLL_LLL_LL_LL__law09_Same_1_1 at h
    refine SemN.succ ?_
    refine Sem.seq ?_
    refine Sem.runS (s1 := ⟨Fr 32 [(1, .sl 1 (x1.map (cdL 1 (cdL 1 cdI)).enc)), (2, .fn 65 [] []), (15, .sl 1 (x0.map (cdL 1 (cdL 1 cdI)).enc)), (16, .v (.int .i64 (x0.length : Int))), (17, .v (.int .i64 c2)), (18, .v (.bool (decide (c2 < (x0.length : Int)))))], []⟩) ?_ ?_
    · refine RunS.seg e_slices_EqualFunc_LLL_LLL_LL_LL__law09_Same_1_ok 1 (s1 := ⟨Fr 32 [(1, .sl 1 (x1.map (cdL 1 (cdL 1 cdI)).enc)), (2, .fn 65 [] []), (15, .sl 1 (x0.map (cdL 1 (cdL 1 cdI)).enc)), (16, .v (.int .i64 (x0.length : Int))), (17, .v (.int .i64 c2)), (18, .v (.bool (decide (c2 < (x0.length : Int)))))], []⟩) (by kernel_rfl) ?_
      exact RunS.done rfl (Wk.fr (by kernel_rfl))
    refine Sem.seq ?_
    refine Sem.cond (b := (decide (c2 < (x0.length : Int)))) (by kernel_rfl) (fun hb3 => ?_) (fun hb3 => ?_)
    · rw [if_pos hb3] at h
      refine Sem.skip ?_
      refine Sem.seq ?_
      refine Sem.block ?_
      refine Sem.seq ?_
      obtain ⟨v4, hv4, h⟩ := Option.bind_eq_some_iff.1 h
      refine Sem.runS (s1 := ⟨Fr 32 [(1, .sl 1 (x1.map (cdL 1 (cdL 1 cdI)).enc)), (2, .fn 65 [] []), (7, .v (.int .i64 c2)), (8, .sl 1 (v4.map (cdL 1 cdI).enc)), (15, .sl 1 (x0.map (cdL 1 (cdL 1 cdI)).enc)), (16, .v (.int .i64 (x0.length : Int))), (17, .v (.int .i64 c2))], []⟩) ?_ ?_
      · refine RunS.seg e_slices_EqualFunc_LLL_LLL_LL_LL__law09_Same_1_ok 1 (s1 := ⟨Fr 32 [(1, .sl 1 (x1.map (cdL 1 (cdL 1 cdI)).enc)), (2, .fn 65 [] []), (15, .sl 1 (x0.map (cdL 1 (cdL 1 cdI)).enc)), (16, .v (.int .i64 (x0.length : Int))), (17, .v (.int .i64 c2)), (18, .v (.bool (decide (c2 < (x0.length : Int))))), (19, .v (.int .i64 c2))], []⟩) (by kernel_rfl) ?_
        refine RunS.one e_slices_EqualFunc_LLL_LLL_LL_LL__law09_Same_1_ok 0 rfl (op_q (wantedA_none rfl) rfl (q_indexAddr (a := .sl 1 (x0.map (cdL 1 (cdL 1 cdI)).enc)) (b := .v (.int .i64 c2)) (by kernel_rfl) (by kernel_rfl) (ix_sl (e := (cdL 1 (cdL 1 cdI)).enc) (el := 49) (k := 1) (ki := .i64) (by kernel_rfl) (by kernel_rfl) hv4))) ?_
        refine RunS.seg e_slices_EqualFunc_LLL_LLL_LL_LL__law09_Same_1_ok 3 (s1 := ⟨Fr 32 [(1, .sl 1 (x1.map (cdL 1 (cdL 1 cdI)).enc)), (2, .fn 65 [] []), (7, .v (.int .i64 c2)), (8, .sl 1 (v4.map (cdL 1 cdI).enc)), (15, .sl 1 (x0.map (cdL 1 (cdL 1 cdI)).enc)), (16, .v (.int .i64 (x0.length : Int))), (17, .v (.int .i64 c2)), (18, .v (.bool (decide (c2 < (x0.length : Int))))), (19, .v (.int .i64 c2)), (20, .pe (.sl 1 (v4.map (cdL 1 cdI).enc)) 0), (21, .sl 1 (v4.map (cdL 1 cdI).enc))], []⟩) (by kernel_rfl) ?_
        exact RunS.done rfl (Wk.fr (by kernel_rfl))
      refine Sem.seq ?_
      obtain ⟨v5, hv5, h⟩ := Option.bind_eq_some_iff.1 h
      refine Sem.runS (s1 := ⟨Fr 32 [(1, .sl 1 (x1.map (cdL 1 (cdL 1 cdI)).enc)), (2, .fn 65 [] []), (8, .sl 1 (v4.map (cdL 1 cdI).enc)), (9, .sl 1 (v5.map (cdL 1 cdI).enc)), (15, .sl 1 (x0.map (cdL 1 (cdL 1 cdI)).enc)), (16, .v (.int .i64 (x0.length : Int))), (17, .v (.int .i64 c2))], []⟩) ?_ ?_
      · refine RunS.seg e_slices_EqualFunc_LLL_LLL_LL_LL__law09_Same_1_ok 2 (s1 := ⟨Fr 32 [(1, .sl 1 (x1.map (cdL 1 (cdL 1 cdI)).enc)), (2, .fn 65 [] []), (7, .v (.int .i64 c2)), (8, .sl 1 (v4.map (cdL 1 cdI).enc)), (15, .sl 1 (x0.map (cdL 1 (cdL 1 cdI)).enc)), (16, .v (.int .i64 (x0.length : Int))), (17, .v (.int .i64 c2)), (22, .sl 1 (x1.map (cdL 1 (cdL 1 cdI)).enc)), (23, .v (.int .i64 c2))], []⟩) (by kernel_rfl) ?_
        refine RunS.one e_slices_EqualFunc_LLL_LLL_LL_LL__law09_Same_1_ok 0 rfl (op_q (wantedA_none rfl) rfl (q_indexAddr (a := .sl 1 (x1.map (cdL 1 (cdL 1 cdI)).enc)) (b := .v (.int .i64 c2)) (by kernel_rfl) (by kernel_rfl) (ix_sl (e := (cdL 1 (cdL 1 cdI)).enc) (el := 49) (k := 1) (ki := .i64) (by kernel_rfl) (by kernel_rfl) hv5))) ?_
        refine RunS.seg e_slices_EqualFunc_LLL_LLL_LL_LL__law09_Same_1_ok 2 (s1 := ⟨Fr 32 [(1, .sl 1 (x1.map (cdL 1 (cdL 1 cdI)).enc)), (2, .fn 65 [] []), (7, .v (.int .i64 c2)), (8, .sl 1 (v4.map (cdL 1 cdI).enc)), (9, .sl 1 (v5.map (cdL 1 cdI).enc)), (15, .sl 1 (x0.map (cdL 1 (cdL 1 cdI)).enc)), (16, .v (.int .i64 (x0.length : Int))), (17, .v (.int .i64 c2)), (22, .sl 1 (x1.map (cdL 1 (cdL 1 cdI)).enc)), (23, .v (.int .i64 c2)), (24, .pe (.sl 1 (v5.map (cdL 1 cdI).enc)) 0), (25, .sl 1 (v5.map (cdL 1 cdI).enc))], []⟩) (by kernel_rfl) ?_
        exact RunS.done rfl (Wk.fr (by kernel_rfl))
      refine Sem.seq ?_
      obtain ⟨v6, hv6, h⟩ := Option.bind_eq_some_iff.1 h
      refine Sem.runS (s1 := ⟨Fr 32 [(1, .sl 1 (x1.map (cdL 1 (cdL 1 cdI)).enc)), (2, .fn 65 [] []), (15, .sl 1 (x0.map (cdL 1 (cdL 1 cdI)).enc)), (16, .v (.int .i64 (x0.length : Int))), (17, .v (.int .i64 c2)), (30, .v (.bool (!v6)))], []⟩) ?_ ?_
      · refine RunS.seg e_slices_EqualFunc_LLL_LLL_LL_LL__law09_Same_1_ok 3 (s1 := ⟨Fr 32 [(1, .sl 1 (x1.map (cdL 1 (cdL 1 cdI)).enc)), (2, .fn 65 [] []), (8, .sl 1 (v4.map (cdL 1 cdI).enc)), (9, .sl 1 (v5.map (cdL 1 cdI).enc)), (15, .sl 1 (x0.map (cdL 1 (cdL 1 cdI)).enc)), (16, .v (.int .i64 (x0.length : Int))), (17, .v (.int .i64 c2)), (26, .fn 65 [] []), (27, .sl 1 (v4.map (cdL 1 cdI).enc)), (28, .sl 1 (v5.map (cdL 1 cdI).enc))], []⟩) (by kernel_rfl) ?_
        refine RunS.call e_slices_EqualFunc_LLL_LLL_LL_LL__law09_Same_1_ok (fid := 65) (s := cs_law09_Same_1) (F := fun a => law09_Same_1 a.1 a.2.1) (er := er_law09_Same_1) (xs := [.sl 1 (v4.map (cdL 1 cdI).enc), .sl 1 (v5.map (cdL 1 cdI).enc)]) (a := (v4, v5, ())) rfl (wantedA_none rfl) (by kernel_rfl) (by kernel_rfl) (by kernel_rfl) (by kernel_rfl) (Sns.cons (Sn.enc (c := (cdL 1 (cdL 1 cdI))) (v := v4)) (Sns.cons (Sn.enc (c := (cdL 1 (cdL 1 cdI))) (v := v5)) Sns.nil)) (.inl (by kernel_rfl)) hv6 ?_
        refine RunS.seg e_slices_EqualFunc_LLL_LLL_LL_LL__law09_Same_1_ok 1 (s1 := ⟨Fr 32 [(1, .sl 1 (x1.map (cdL 1 (cdL 1 cdI)).enc)), (2, .fn 65 [] []), (8, .sl 1 (v4.map (cdL 1 cdI).enc)), (9, .sl 1 (v5.map (cdL 1 cdI).enc)), (15, .sl 1 (x0.map (cdL 1 (cdL 1 cdI)).enc)), (16, .v (.int .i64 (x0.length : Int))), (17, .v (.int .i64 c2)), (26, .fn 65 [] []), (27, .sl 1 (v4.map (cdL 1 cdI).enc)), (28, .sl 1 (v5.map (cdL 1 cdI).enc)), (29, .v (.bool v6)), (30, .v (.bool (!v6)))], []⟩) (by kernel_rfl) ?_
        exact RunS.done rfl (Wk.fr (by kernel_rfl))
      refine Sem.cond (b := (!v6)) (by kernel_rfl) (fun hb7 => ?_) (fun hb7 => ?_)
      · rw [if_pos hb7] at h
        refine Sem.seq ?_
        refine Sem.runS (s1 := ⟨Fr 32 [(6, .v (.bool false))], []⟩) ?_ ?_
        · refine RunS.seg e_slices_EqualFunc_LLL_LLL_LL_LL__law09_Same_1_ok 1 (s1 := ⟨Fr 32 [(1, .sl 1 (x1.map (cdL 1 (cdL 1 cdI)).enc)), (2, .fn 65 [] []), (6, .v (.bool false)), (15, .sl 1 (x0.map (cdL 1 (cdL 1 cdI)).enc)), (16, .v (.int .i64 (x0.length : Int))), (17, .v (.int .i64 c2)), (30, .v (.bool (!v6)))], []⟩) (by kernel_rfl) ?_
          exact RunS.done rfl (Wk.fr (by kernel_rfl))
        refine Sem.ret ?_
        have hq := Option.some.inj h; subst hq
        exact ⟨rfl, (Wk.fr (by kernel_rfl))⟩
      · rw [if_f hb7] at h
        refine Sem.skip ?_
        refine Sem.runS (s1 := ⟨Fr 32 [(1, .sl 1 (x1.map (cdL 1 (cdL 1 cdI)).enc)), (2, .fn 65 [] []), (15, .sl 1 (x0.map (cdL 1 (cdL 1 cdI)).enc)), (16, .v (.int .i64 (x0.length : Int))), (17, .v (.int .i64 (wr .i64 (c2 + 1))))], []⟩) ?_ ?_
        · refine RunS.seg e_slices_EqualFunc_LLL_LLL_LL_LL__law09_Same_1_ok 2 (s1 := ⟨Fr 32 [(1, .sl 1 (x1.map (cdL 1 (cdL 1 cdI)).enc)), (2, .fn 65 [] []), (15, .sl 1 (x0.map (cdL 1 (cdL 1 cdI)).enc)), (16, .v (.int .i64 (x0.length : Int))), (17, .v (.int .i64 (wr .i64 (c2 + 1)))), (30, .v (.bool (!v6))), (31, .v (.int .i64 (wr .i64 (c2 + 1))))], []⟩) (by kernel_rfl) ?_
          exact RunS.done rfl (Wk.fr (by kernel_rfl))
        exact SemN.wk (s1 := ⟨Fr 32 [(1, .sl 1 (x1.map (cdL 1 (cdL 1 cdI)).enc)), (2, .fn 65 [] []), (15, .sl 1 (x0.map (cdL 1 (cdL 1 cdI)).enc)), (16, .v (.int .i64 (x0.length : Int))), (17, .v (.int .i64 (wr .i64 (c2 + 1))))], []⟩) (Wk.fr (by kernel_rfl)) (ih (wr .i64 (c2 + 1)) h)
    · rw [if_f hb3] at h
      refine Sem.exit ?_
      have hq := Option.some.inj h; subst hq
      exact ⟨rfl, (Wk.fr (by kernel_rfl))⟩
set_option maxRecDepth 100000 in
theorem slices_EqualFunc_LLL_LLL_LL_LL__law09_Same_1_sem (x0 : (List (List (List Int)))) (x1 : (List (List (List Int)))) (r : Bool) (h : slices_EqualFunc_LLL_LLL_LL_LL__law09_Same_1 x0 x1 = some r) : Sem e_slices_EqualFunc_LLL_LLL_LL_LL__law09_Same_1 ⟨none, false⟩ cb_slices_EqualFunc_LLL_LLL_LL_LL__law09_Same_1 ⟨Fr 32 (pairs0 0 [.sl 1 (x0.map (cdL 1 (cdL 1 cdI)).enc), .sl 1 (x1.map (cdL 1 (cdL 1 cdI)).enc), .fn 65 [] []]), []⟩ fun e s' => (e = .normal ∨ e = .ret) ∧ ∃ xs, resA e_slices_EqualFunc_LLL_LLL_LL_LL__law09_Same_1.P s'.fr s'.hp Tryd.f64.results.toList = some xs ∧ (retA xs = er_slices_EqualFunc_LLL_LLL_LL_LL__law09_Same_1 r ∧ s'.hp = []) := by
  unfold slices_EqualFunc_LLL_LLL_LL_LL__law09_Same_1 at h
  refine Sem.wkQ (Sem.wk (s1 := ⟨Fr 32 [(0, .sl 1 (x0.map (cdL 1 (cdL 1 cdI)).enc)), (1, .sl 1 (x1.map (cdL 1 (cdL 1 cdI)).enc)), (2, .fn 65 [] [])], []⟩) (Wk.fr (by kernel_rfl)) ?_)
  refine Sem.seq ?_
  refine Sem.runS (s1 := ⟨Fr 32 [(0, .sl 1 (x0.map (cdL 1 (cdL 1 cdI)).enc)), (1, .sl 1 (x1.map (cdL 1 (cdL 1 cdI)).enc)), (2, .fn 65 [] [])], []⟩) ?_ ?_
  · refine RunS.seg e_slices_EqualFunc_LLL_LLL_LL_LL__law09_Same_1_ok 1 (s1 := ⟨Fr 32 [(0, .sl 1 (x0.map (cdL 1 (cdL 1 cdI)).enc)), (1, .sl 1 (x1.map (cdL 1 (cdL 1 cdI)).enc)), (2, .fn 65 [] []), (6, .v (.bool false))], []⟩) (by kernel_rfl) ?_
    exact RunS.done rfl (Wk.fr (by kernel_rfl))
  refine Sem.seq ?_
  refine Sem.seq ?_
  refine Sem.runS (s1 := ⟨Fr 32 [(0, .sl 1 (x0.map (cdL 1 (cdL 1 cdI)).enc)), (1, .sl 1 (x1.map (cdL 1 (cdL 1 cdI)).enc)), (2, .fn 65 [] []), (14, .v (.bool ((x0.length : Int) != (x1.length : Int))))], []⟩) ?_ ?_
  · refine RunS.seg e_slices_EqualFunc_LLL_LLL_LL_LL__law09_Same_1_ok 1 (s1 := ⟨Fr 32 [(0, .sl 1 (x0.map (cdL 1 (cdL 1 cdI)).enc)), (1, .sl 1 (x1.map (cdL 1 (cdL 1 cdI)).enc)), (2, .fn 65 [] []), (10, .sl 1 (x0.map (cdL 1 (cdL 1 cdI)).enc))], []⟩) (by kernel_rfl) ?_
    refine RunS.one e_slices_EqualFunc_LLL_LLL_LL_LL__law09_Same_1_ok 0 rfl (op_q (wantedA_none rfl) rfl (q_len (a := .sl 1 (x0.map (cdL 1 (cdL 1 cdI)).enc)) (by kernel_rfl) (len_sl (el := 49) (by kernel_rfl)))) ?_
    refine RunS.seg e_slices_EqualFunc_LLL_LLL_LL_LL__law09_Same_1_ok 1 (s1 := ⟨Fr 32 [(0, .sl 1 (x0.map (cdL 1 (cdL 1 cdI)).enc)), (1, .sl 1 (x1.map (cdL 1 (cdL 1 cdI)).enc)), (2, .fn 65 [] []), (10, .sl 1 (x0.map (cdL 1 (cdL 1 cdI)).enc)), (11, .v (.int .i64 (x0.length : Int))), (12, .sl 1 (x1.map (cdL 1 (cdL 1 cdI)).enc))], []⟩) (by kernel_rfl) ?_
    refine RunS.one e_slices_EqualFunc_LLL_LLL_LL_LL__law09_Same_1_ok 0 rfl (op_q (wantedA_none rfl) rfl (q_len (a := .sl 1 (x1.map (cdL 1 (cdL 1 cdI)).enc)) (by kernel_rfl) (len_sl (el := 49) (by kernel_rfl)))) ?_
    refine RunS.seg e_slices_EqualFunc_LLL_LLL_LL_LL__law09_Same_1_ok 1 (s1 := ⟨Fr 32 [(0, .sl 1 (x0.map (cdL 1 (cdL 1 cdI)).enc)), (1, .sl 1 (x1.map (cdL 1 (cdL 1 cdI)).enc)), (2, .fn 65 [] []), (10, .sl 1 (x0.map (cdL 1 (cdL 1 cdI)).enc)), (11, .v (.int .i64 (x0.length : Int))), (12, .sl 1 (x1.map (cdL 1 (cdL 1 cdI)).enc)), (13, .v (.int .i64 (x1.length : Int))), (14, .v (.bool ((x0.length : Int) != (x1.length : Int))))], []⟩) (by kernel_rfl) ?_
    exact RunS.done rfl (Wk.fr (by kernel_rfl))
  refine Sem.cond (b := ((x0.length : Int) != (x1.length : Int))) (by kernel_rfl) (fun hb1 => ?_) (fun hb1 => ?_)
  · rw [if_pos hb1] at h
    refine Sem.seq ?_
    refine Sem.runS (s1 := ⟨Fr 32 [(6, .v (.bool false))], []⟩) ?_ ?_
    · refine RunS.seg e_slices_EqualFunc_LLL_LLL_LL_LL__law09_Same_1_ok 1 (s1 := ⟨Fr 32 [(0, .sl 1 (x0.map (cdL 1 (cdL 1 cdI)).enc)), (1, .sl 1 (x1.map (cdL 1 (cdL 1 cdI)).enc)), (2, .fn 65 [] []), (6, .v (.bool false)), (14, .v (.bool ((x0.length : Int) != (x1.length : Int))))], []⟩) (by kernel_rfl) ?_
      exact RunS.done rfl (Wk.fr (by kernel_rfl))
    refine Sem.ret ?_
    have hq := Option.some.inj h; subst hq
    exact ⟨⟨Fr 32 [(6, .v (.bool false))], []⟩, (Wk.fr (by kernel_rfl)), .inr rfl, [.v (.bool false)], (by kernel_rfl), ⟨(by kernel_rfl), rfl⟩⟩
  · rw [if_f hb1] at h
    refine Sem.skip ?_
    refine Sem.seq ?_
    refine Sem.seq ?_
    refine Sem.runS (s1 := ⟨Fr 32 [(1, .sl 1 (x1.map (cdL 1 (cdL 1 cdI)).enc)), (2, .fn 65 [] []), (15, .sl 1 (x0.map (cdL 1 (cdL 1 cdI)).enc)), (16, .v (.int .i64 (x0.length : Int))), (17, .v (.int .i64 0))], []⟩) ?_ ?_
    · refine RunS.seg e_slices_EqualFunc_LLL_LLL_LL_LL__law09_Same_1_ok 1 (s1 := ⟨Fr 32 [(0, .sl 1 (x0.map (cdL 1 (cdL 1 cdI)).enc)), (1, .sl 1 (x1.map (cdL 1 (cdL 1 cdI)).enc)), (2, .fn 65 [] []), (14, .v (.bool ((x0.length : Int) != (x1.length : Int)))), (15, .sl 1 (x0.map (cdL 1 (cdL 1 cdI)).enc))], []⟩) (by kernel_rfl) ?_
      refine RunS.one e_slices_EqualFunc_LLL_LLL_LL_LL__law09_Same_1_ok 0 rfl (op_q (wantedA_none rfl) rfl (q_len (a := .sl 1 (x0.map (cdL 1 (cdL 1 cdI)).enc)) (by kernel_rfl) (len_sl (el := 49) (by kernel_rfl)))) ?_
      refine RunS.seg e_slices_EqualFunc_LLL_LLL_LL_LL__law09_Same_1_ok 1 (s1 := ⟨Fr 32 [(0, .sl 1 (x0.map (cdL 1 (cdL 1 cdI)).enc)), (1, .sl 1 (x1.map (cdL 1 (cdL 1 cdI)).enc)), (2, .fn 65 [] []), (14, .v (.bool ((x0.length : Int) != (x1.length : Int)))), (15, .sl 1 (x0.map (cdL 1 (cdL 1 cdI)).enc)), (16, .v (.int .i64 (x0.length : Int))), (17, .v (.int .i64 0))], []⟩) (by kernel_rfl) ?_
      exact RunS.done rfl (Wk.fr (by kernel_rfl))
    refine Sem.block ?_
    obtain ⟨r9, hr9, h⟩ := Option.bind_eq_some_iff.1 h
    refine Sem.loop (n := 100000) ?_
    rcases r9 with w10 | w11
    · try dsimp only at h
      refine Sem.cutN (SemN.wk (s1 := ⟨Fr 32 [(1, .sl 1 (x1.map (cdL 1 (cdL 1 cdI)).enc)), (2, .fn 65 [] []), (15, .sl 1 (x0.map (cdL 1 (cdL 1 cdI)).enc)), (16, .v (.int .i64 (x0.length : Int))), (17, .v (.int .i64 0))], []⟩) (Wk.fr (by kernel_rfl)) (slices_EqualFunc_LLL_LLL_LL_LL__law09_Same_1_1_ok x0 x1 _ 0 _ hr9)) ?_
      refine Sem.seq ?_
      refine Sem.runS (s1 := ⟨Fr 32 [(6, .v (.bool true))], []⟩) ?_ ?_
      · refine RunS.seg e_slices_EqualFunc_LLL_LLL_LL_LL__law09_Same_1_ok 1 (s1 := ⟨Fr 32 [(6, .v (.bool true))], []⟩) (by kernel_rfl) ?_
        exact RunS.done rfl (Wk.fr (by kernel_rfl))
      refine Sem.ret ?_
      have hq := Option.some.inj h; subst hq
      exact ⟨⟨Fr 32 [(6, .v (.bool true))], []⟩, (Wk.fr (by kernel_rfl)), .inr rfl, [.v (.bool true)], (by kernel_rfl), ⟨(by kernel_rfl), rfl⟩⟩
    · try dsimp only at h
      refine Sem.cutN (SemN.wk (s1 := ⟨Fr 32 [(1, .sl 1 (x1.map (cdL 1 (cdL 1 cdI)).enc)), (2, .fn 65 [] []), (15, .sl 1 (x0.map (cdL 1 (cdL 1 cdI)).enc)), (16, .v (.int .i64 (x0.length : Int))), (17, .v (.int .i64 0))], []⟩) (Wk.fr (by kernel_rfl)) (slices_EqualFunc_LLL_LLL_LL_LL__law09_Same_1_1_ok x0 x1 _ 0 _ hr9)) ?_
      have hq := Option.some.inj h; subst hq
      exact ⟨⟨Fr 32 [(6, .v (.bool w11))], []⟩, (Wk.fr (by kernel_rfl)), .inr rfl, [.v (.bool w11)], (by kernel_rfl), ⟨(by kernel_rfl), rfl⟩⟩
theorem s_slices_EqualFunc_LLL_LLL_LL_LL__law09_Same_1 (x0 : (List (List (List Int)))) (x1 : (List (List (List Int)))) (r : Bool) (h : slices_EqualFunc_LLL_LLL_LL_LL__law09_Same_1 x0 x1 = some r) : SOk 64 [.sl 1 (x0.map (cdL 1 (cdL 1 cdI)).enc), .sl 1 (x1.map (cdL 1 (cdL 1 cdI)).enc), .fn 65 [] []] (fun x h' => x = er_slices_EqualFunc_LLL_LLL_LL_LL__law09_Same_1 r ∧ h' = []) :=
  sok_of_sem e_slices_EqualFunc_LLL_LLL_LL_LL__law09_Same_1_ok rfl rfl (fn := Tryd.f64) (c := cb_slices_EqualFunc_LLL_LLL_LL_LL__law09_Same_1) (by kernel_rfl) (by kernel_rfl) ⟨Tryd.call64⟩ (by show 3 ≤ 32; decide) (slices_EqualFunc_LLL_LLL_LL_LL__law09_Same_1_sem x0 x1 r h)
end Go.Proofs.YthofgamegondnaaDoor

namespace Go.Proofs.YthofgamegondnaaDoor
open Go.RowKit
/- trestle/trestlelaw09.Same -/
noncomputable def e_law09_Same : Env := E0
theorem e_law09_Same_ok : EnvOk e_law09_Same := E0_ok
def law09_Same (x0 : (List (List (List Int)))) (x1 : (List (List (List Int)))) : Option (Bool) :=
  (slices_EqualFunc_LLL_LLL_LL_LL__law09_Same_1 x0 x1).bind fun v1 =>
  some v1
def cs_law09_Same : Cs ((List (List (List Int))) × (List (List (List Int))) × Unit) := (csC (cdL 1 (cdL 1 (cdL 1 cdI))) (csC (cdL 1 (cdL 1 (cdL 1 cdI))) csN))
def er_law09_Same (r : Bool) : AV := cdB.enc r
noncomputable def cb_law09_Same : Code := codeOf Tryd.f26
set_option maxRecDepth 100000 in
theorem law09_Same_sem (x0 : (List (List (List Int)))) (x1 : (List (List (List Int)))) (r : Bool) (h : law09_Same x0 x1 = some r) : Sem e_law09_Same ⟨none, false⟩ cb_law09_Same ⟨Fr 8 (pairs0 0 (cs_law09_Same.enc (x0, x1, ()))), []⟩ fun e s' => (e = .normal ∨ e = .ret) ∧ ∃ xs, resA e_law09_Same.P s'.fr s'.hp Tryd.f26.results.toList = some xs ∧ retA xs = er_law09_Same r := by
  unfold law09_Same at h
  refine Sem.wkQ (Sem.wk (s1 := ⟨Fr 8 [(0, .sl 1 (x0.map (cdL 1 (cdL 1 cdI)).enc)), (1, .sl 1 (x1.map (cdL 1 (cdL 1 cdI)).enc))], []⟩) (Wk.fr (by kernel_rfl)) ?_)
  refine Sem.seq ?_
  refine Sem.runS (s1 := ⟨Fr 8 [(0, .sl 1 (x0.map (cdL 1 (cdL 1 cdI)).enc)), (1, .sl 1 (x1.map (cdL 1 (cdL 1 cdI)).enc))], []⟩) ?_ ?_
  · refine RunS.seg e_law09_Same_ok 1 (s1 := ⟨Fr 8 [(0, .sl 1 (x0.map (cdL 1 (cdL 1 cdI)).enc)), (1, .sl 1 (x1.map (cdL 1 (cdL 1 cdI)).enc)), (4, .v (.bool false))], []⟩) (by kernel_rfl) ?_
    exact RunS.done rfl (Wk.fr (by kernel_rfl))
  refine Sem.seq ?_
  obtain ⟨v1, hv1, h⟩ := Option.bind_eq_some_iff.1 h
  refine Sem.runS (s1 := ⟨Fr 8 [(4, .v (.bool v1))], []⟩) ?_ ?_
  · refine RunS.seg e_law09_Same_ok 2 (s1 := ⟨Fr 8 [(0, .sl 1 (x0.map (cdL 1 (cdL 1 cdI)).enc)), (1, .sl 1 (x1.map (cdL 1 (cdL 1 cdI)).enc)), (5, .sl 1 (x0.map (cdL 1 (cdL 1 cdI)).enc)), (6, .sl 1 (x1.map (cdL 1 (cdL 1 cdI)).enc))], []⟩) (by kernel_rfl) ?_
    refine RunS.callS rfl rfl (s_slices_EqualFunc_LLL_LLL_LL_LL__law09_Same_1 x0 x1 _ hv1) rfl (wantedA_none rfl) (by kernel_rfl) (xs := [.sl 1 (x0.map (cdL 1 (cdL 1 cdI)).enc), .sl 1 (x1.map (cdL 1 (cdL 1 cdI)).enc), .fn 65 [] []]) (by kernel_rfl) (by kernel_rfl) (by rintro x h' ⟨rfl, rfl⟩; exact ⟨rfl, rfl⟩) ?_
    rintro x h' ⟨rfl, rfl⟩
    refine RunS.seg e_law09_Same_ok 1 (s1 := ⟨Fr 8 [(0, .sl 1 (x0.map (cdL 1 (cdL 1 cdI)).enc)), (1, .sl 1 (x1.map (cdL 1 (cdL 1 cdI)).enc)), (4, .v (.bool v1)), (5, .sl 1 (x0.map (cdL 1 (cdL 1 cdI)).enc)), (6, .sl 1 (x1.map (cdL 1 (cdL 1 cdI)).enc)), (7, .v (.bool v1))], []⟩) (by kernel_rfl) ?_
    exact RunS.done rfl (Wk.fr (by kernel_rfl))
  refine Sem.ret ?_
  have hq := Option.some.inj h; subst hq
  exact ⟨⟨Fr 8 [(4, .v (.bool v1))], []⟩, (Wk.fr (by kernel_rfl)), .inr rfl, [.v (.bool v1)], (by kernel_rfl), (by kernel_rfl)⟩
def t_law09_Same : List AV → Option AV := told cs_law09_Same (fun a => law09_Same a.1 a.2.1) er_law09_Same
theorem x_law09_Same : XOk 26 t_law09_Same := by
  refine EnvOk.x (E := e_law09_Same) (contract_ok e_law09_Same_ok (fn := Tryd.f26) (c := cb_law09_Same) ?h1 ?h2 ⟨Tryd.call26⟩ cs_law09_Same (fun a => law09_Same a.1 a.2.1) er_law09_Same (fun a => (by show 2 ≤ 8; decide)) ?h3 ?h4) rfl rfl
  case h1 => kernel_rfl
  case h2 => kernel_rfl
  case h3 => intro b; kernel_rfl
  case h4 => exact fun a b h => law09_Same_sem a.1 a.2.1 b h
end Go.Proofs.YthofgamegondnaaDoor

namespace Go.Proofs.YthofgamegondnaaDoor
open Go.RowKit
/- slices.Equal[[]int,int] -/
noncomputable def e_slices_Equal_L_int : Env := E0
theorem e_slices_Equal_L_int_ok : EnvOk e_slices_Equal_L_int := E0_ok
def slices_Equal_L_int_1 (x0 : (List Int)) (x1 : (List Int)) : Nat → Int → Option ((Unit) ⊕ (Bool))
  | 0, _ => none
  | f + 1, c2 =>
    if (decide (c2 < (x0.length : Int))) = true then
    (idx x0 c2).bind fun v4 =>
    (idx x1 c2).bind fun v5 =>
    if (v4 != v5) = true then
    some (.inr false)
    else
    slices_Equal_L_int_1 x0 x1 f (wr .i64 (c2 + 1))
    else
    some (.inl ())
def slices_Equal_L_int (x0 : (List Int)) (x1 : (List Int)) : Option (Bool) :=
  if ((x0.length : Int) != (x1.length : Int)) = true then
  some false
  else
  (slices_Equal_L_int_1 x0 x1 100000 0).bind fun r8 =>
  match r8 with
  | (.inl w9) =>
    some true
  | (.inr w10) =>
    some w10
def cs_slices_Equal_L_int : Cs ((List Int) × (List Int) × Unit) := (csC (cdL 1 cdI) (csC (cdL 1 cdI) csN))
def er_slices_Equal_L_int (r : Bool) : AV := cdB.enc r
noncomputable def cb_slices_Equal_L_int : Code := codeOf Tryd.f30
set_option maxRecDepth 100000 in
theorem slices_Equal_L_int_1_ok (x0 : (List Int)) (x1 : (List Int)) : ∀ (f : Nat) (c2 : Int) (r : (Unit) ⊕ (Bool)), slices_Equal_L_int_1 x0 x1 f c2 = some r → SemN e_slices_Equal_L_int ⟨none, false⟩ (pc cb_slices_Equal_L_int [1, 1, 0, 1, 0, 0]) f ⟨Fr 26 [(0, .sl 1 (x0.map cdI.enc)), (1, .sl 1 (x1.map cdI.enc)), (12, .v (.int .i64 (x0.length : Int))), (13, .v (.int .i64 c2))], []⟩ (fun e s => match r with
  | (.inl w) => e = (.exit 0) ∧ Wk e_slices_Equal_L_int s ⟨Fr 26 [], []⟩
  | (.inr w) => e = .ret ∧ Wk e_slices_Equal_L_int s ⟨Fr 26 [(4, .v (.bool w))], []⟩) := by
  intro f
  induction f with
  | zero => intro c2 r h; cases h
  | succ f ih0 =>
    intro c2 r h
    have ih := fun (c2 : Int) => ih0 c2 r
    unfold slices_Equal_L_int_1 at h
    refine SemN.succ ?_
    refine Sem.seq ?_
    refine Sem.runS (s1 := ⟨Fr 26 [(0, .sl 1 (x0.map cdI.enc)), (1, .sl 1 (x1.map cdI.enc)), (12, .v (.int .i64 (x0.length : Int))), (13, .v (.int .i64 c2)), (14, .v (.bool (decide (c2 < (x0.length : Int)))))], []⟩) ?_ ?_
    · refine RunS.seg e_slices_Equal_L_int_ok 1 (s1 := ⟨Fr 26 [(0, .sl 1 (x0.map cdI.enc)), (1, .sl 1 (x1.map cdI.enc)), (12, .v (.int .i64 (x0.length : Int))), (13, .v (.int .i64 c2)), (14, .v (.bool (decide (c2 < (x0.length : Int)))))], []⟩) (by kernel_rfl) ?_
      exact RunS.done rfl (Wk.fr (by kernel_rfl))
    refine Sem.seq ?_
    refine Sem.cond (b := (decide (c2 < (x0.length : Int)))) (by kernel_rfl) (fun hb3 => ?_) (fun hb3 => ?_)
    · rw [if_pos hb3] at h
      refine Sem.skip ?_
      refine Sem.seq ?_
      refine Sem.block ?_
      refine Sem.seq ?_
      refine Sem.runS (s1 := ⟨Fr 26 [(0, .sl 1 (x0.map cdI.enc)), (1, .sl 1 (x1.map cdI.enc)), (5, .v (.int .i64 c2)), (12, .v (.int .i64 (x0.length : Int))), (13, .v (.int .i64 c2))], []⟩) ?_ ?_
      · refine RunS.seg e_slices_Equal_L_int_ok 2 (s1 := ⟨Fr 26 [(0, .sl 1 (x0.map cdI.enc)), (1, .sl 1 (x1.map cdI.enc)), (5, .v (.int .i64 c2)), (12, .v (.int .i64 (x0.length : Int))), (13, .v (.int .i64 c2)), (14, .v (.bool (decide (c2 < (x0.length : Int))))), (15, .v (.int .i64 c2))], []⟩) (by kernel_rfl) ?_
        exact RunS.done rfl (Wk.fr (by kernel_rfl))
      refine Sem.seq ?_
      obtain ⟨v4, hv4, h⟩ := Option.bind_eq_some_iff.1 h
      obtain ⟨v5, hv5, h⟩ := Option.bind_eq_some_iff.1 h
      refine Sem.runDS e_slices_Equal_L_int_ok (s1 := ⟨Fr 26 [(0, .sl 1 (x0.map cdI.enc)), (1, .sl 1 (x1.map cdI.enc)), (12, .v (.int .i64 (x0.length : Int))), (13, .v (.int .i64 c2)), (24, .v (.bool (v4 != v5)))], []⟩) (by kernel_rfl) ?_ ?_
      · refine RunDS.seg e_slices_Equal_L_int_ok 2 (s1 := ⟨Fr 26 [(0, .sl 1 (x0.map cdI.enc)), (1, .sl 1 (x1.map cdI.enc)), (5, .v (.int .i64 c2)), (12, .v (.int .i64 (x0.length : Int))), (13, .v (.int .i64 c2)), (16, .sl 1 (x0.map cdI.enc)), (17, .v (.int .i64 c2))], []⟩) (by kernel_rfl) (by kernel_rfl) ?_
        refine RunDS.one e_slices_Equal_L_int_ok rfl (by kernel_rfl) (opd_q (by kernel_rfl) (wantedA_none rfl) rfl (q_indexAddr (a := .sl 1 (x0.map cdI.enc)) (b := .v (.int .i64 c2)) (by kernel_rfl) (by kernel_rfl) (ix_sl (e := cdI.enc) (el := 3) (k := 1) (ki := .i64) (by kernel_rfl) (by kernel_rfl) hv4)) (by kernel_rfl)) ?_
        refine RunDS.seg e_slices_Equal_L_int_ok 3 (s1 := ⟨Fr 26 [(0, .sl 1 (x0.map cdI.enc)), (1, .sl 1 (x1.map cdI.enc)), (5, .v (.int .i64 c2)), (12, .v (.int .i64 (x0.length : Int))), (13, .v (.int .i64 c2)), (16, .sl 1 (x0.map cdI.enc)), (17, .v (.int .i64 c2)), (18, .pe (.v (.int .i64 v4)) 0), (19, .v (.int .i64 v4)), (20, .sl 1 (x1.map cdI.enc)), (21, .v (.int .i64 c2))], []⟩) (by kernel_rfl) (by kernel_rfl) ?_
        refine RunDS.one e_slices_Equal_L_int_ok rfl (by kernel_rfl) (opd_q (by kernel_rfl) (wantedA_none rfl) rfl (q_indexAddr (a := .sl 1 (x1.map cdI.enc)) (b := .v (.int .i64 c2)) (by kernel_rfl) (by kernel_rfl) (ix_sl (e := cdI.enc) (el := 3) (k := 1) (ki := .i64) (by kernel_rfl) (by kernel_rfl) hv5)) (by kernel_rfl)) ?_
        refine RunDS.seg e_slices_Equal_L_int_ok 2 (s1 := ⟨Fr 26 [(0, .sl 1 (x0.map cdI.enc)), (1, .sl 1 (x1.map cdI.enc)), (5, .v (.int .i64 c2)), (12, .v (.int .i64 (x0.length : Int))), (13, .v (.int .i64 c2)), (16, .sl 1 (x0.map cdI.enc)), (17, .v (.int .i64 c2)), (18, .pe (.v (.int .i64 v4)) 0), (19, .v (.int .i64 v4)), (20, .sl 1 (x1.map cdI.enc)), (21, .v (.int .i64 c2)), (22, .pe (.v (.int .i64 v5)) 0), (23, .v (.int .i64 v5)), (24, .v (.bool (v4 != v5)))], []⟩) (by kernel_rfl) (by kernel_rfl) ?_
        exact RunDS.done rfl (Wk.fr (by kernel_rfl))
      refine Sem.cond (b := (v4 != v5)) (by kernel_rfl) (fun hb6 => ?_) (fun hb6 => ?_)
      · rw [if_pos hb6] at h
        refine Sem.seq ?_
        refine Sem.runS (s1 := ⟨Fr 26 [(4, .v (.bool false))], []⟩) ?_ ?_
        · refine RunS.seg e_slices_Equal_L_int_ok 1 (s1 := ⟨Fr 26 [(0, .sl 1 (x0.map cdI.enc)), (1, .sl 1 (x1.map cdI.enc)), (4, .v (.bool false)), (12, .v (.int .i64 (x0.length : Int))), (13, .v (.int .i64 c2)), (24, .v (.bool (v4 != v5)))], []⟩) (by kernel_rfl) ?_
          exact RunS.done rfl (Wk.fr (by kernel_rfl))
        refine Sem.ret ?_
        have hq := Option.some.inj h; subst hq
        exact ⟨rfl, (Wk.fr (by kernel_rfl))⟩
      · rw [if_f hb6] at h
        refine Sem.skip ?_
        refine Sem.runS (s1 := ⟨Fr 26 [(0, .sl 1 (x0.map cdI.enc)), (1, .sl 1 (x1.map cdI.enc)), (12, .v (.int .i64 (x0.length : Int))), (13, .v (.int .i64 (wr .i64 (c2 + 1))))], []⟩) ?_ ?_
        · refine RunS.seg e_slices_Equal_L_int_ok 2 (s1 := ⟨Fr 26 [(0, .sl 1 (x0.map cdI.enc)), (1, .sl 1 (x1.map cdI.enc)), (12, .v (.int .i64 (x0.length : Int))), (13, .v (.int .i64 (wr .i64 (c2 + 1)))), (24, .v (.bool (v4 != v5))), (25, .v (.int .i64 (wr .i64 (c2 + 1))))], []⟩) (by kernel_rfl) ?_
          exact RunS.done rfl (Wk.fr (by kernel_rfl))
        exact SemN.wk (s1 := ⟨Fr 26 [(0, .sl 1 (x0.map cdI.enc)), (1, .sl 1 (x1.map cdI.enc)), (12, .v (.int .i64 (x0.length : Int))), (13, .v (.int .i64 (wr .i64 (c2 + 1))))], []⟩) (Wk.fr (by kernel_rfl)) (ih (wr .i64 (c2 + 1)) h)
    · rw [if_f hb3] at h
      refine Sem.exit ?_
      have hq := Option.some.inj h; subst hq
      exact ⟨rfl, (Wk.fr (by kernel_rfl))⟩
set_option maxRecDepth 100000 in
theorem slices_Equal_L_int_sem (x0 : (List Int)) (x1 : (List Int)) (r : Bool) (h : slices_Equal_L_int x0 x1 = some r) : Sem e_slices_Equal_L_int ⟨none, false⟩ cb_slices_Equal_L_int ⟨Fr 26 (pairs0 0 (cs_slices_Equal_L_int.enc (x0, x1, ()))), []⟩ fun e s' => (e = .normal ∨ e = .ret) ∧ ∃ xs, resA e_slices_Equal_L_int.P s'.fr s'.hp Tryd.f30.results.toList = some xs ∧ retA xs = er_slices_Equal_L_int r := by
  unfold slices_Equal_L_int at h
  refine Sem.wkQ (Sem.wk (s1 := ⟨Fr 26 [(0, .sl 1 (x0.map cdI.enc)), (1, .sl 1 (x1.map cdI.enc))], []⟩) (Wk.fr (by kernel_rfl)) ?_)
  refine Sem.seq ?_
  refine Sem.runS (s1 := ⟨Fr 26 [(0, .sl 1 (x0.map cdI.enc)), (1, .sl 1 (x1.map cdI.enc))], []⟩) ?_ ?_
  · refine RunS.seg e_slices_Equal_L_int_ok 1 (s1 := ⟨Fr 26 [(0, .sl 1 (x0.map cdI.enc)), (1, .sl 1 (x1.map cdI.enc)), (4, .v (.bool false))], []⟩) (by kernel_rfl) ?_
    exact RunS.done rfl (Wk.fr (by kernel_rfl))
  refine Sem.seq ?_
  refine Sem.seq ?_
  refine Sem.runS (s1 := ⟨Fr 26 [(0, .sl 1 (x0.map cdI.enc)), (1, .sl 1 (x1.map cdI.enc)), (10, .v (.bool ((x0.length : Int) != (x1.length : Int))))], []⟩) ?_ ?_
  · refine RunS.seg e_slices_Equal_L_int_ok 1 (s1 := ⟨Fr 26 [(0, .sl 1 (x0.map cdI.enc)), (1, .sl 1 (x1.map cdI.enc)), (6, .sl 1 (x0.map cdI.enc))], []⟩) (by kernel_rfl) ?_
    refine RunS.one e_slices_Equal_L_int_ok 0 rfl (op_q (wantedA_none rfl) rfl (q_len (a := .sl 1 (x0.map cdI.enc)) (by kernel_rfl) (len_sl (el := 3) (by kernel_rfl)))) ?_
    refine RunS.seg e_slices_Equal_L_int_ok 1 (s1 := ⟨Fr 26 [(0, .sl 1 (x0.map cdI.enc)), (1, .sl 1 (x1.map cdI.enc)), (6, .sl 1 (x0.map cdI.enc)), (7, .v (.int .i64 (x0.length : Int))), (8, .sl 1 (x1.map cdI.enc))], []⟩) (by kernel_rfl) ?_
    refine RunS.one e_slices_Equal_L_int_ok 0 rfl (op_q (wantedA_none rfl) rfl (q_len (a := .sl 1 (x1.map cdI.enc)) (by kernel_rfl) (len_sl (el := 3) (by kernel_rfl)))) ?_
    refine RunS.seg e_slices_Equal_L_int_ok 1 (s1 := ⟨Fr 26 [(0, .sl 1 (x0.map cdI.enc)), (1, .sl 1 (x1.map cdI.enc)), (6, .sl 1 (x0.map cdI.enc)), (7, .v (.int .i64 (x0.length : Int))), (8, .sl 1 (x1.map cdI.enc)), (9, .v (.int .i64 (x1.length : Int))), (10, .v (.bool ((x0.length : Int) != (x1.length : Int))))], []⟩) (by kernel_rfl) ?_
    exact RunS.done rfl (Wk.fr (by kernel_rfl))
  refine Sem.cond (b := ((x0.length : Int) != (x1.length : Int))) (by kernel_rfl) (fun hb1 => ?_) (fun hb1 => ?_)
  · rw [if_pos hb1] at h
    refine Sem.seq ?_
    refine Sem.runS (s1 := ⟨Fr 26 [(4, .v (.bool false))], []⟩) ?_ ?_
    · refine RunS.seg e_slices_Equal_L_int_ok 1 (s1 := ⟨Fr 26 [(0, .sl 1 (x0.map cdI.enc)), (1, .sl 1 (x1.map cdI.enc)), (4, .v (.bool false)), (10, .v (.bool ((x0.length : Int) != (x1.length : Int))))], []⟩) (by kernel_rfl) ?_
      exact RunS.done rfl (Wk.fr (by kernel_rfl))
    refine Sem.ret ?_
    have hq := Option.some.inj h; subst hq
    exact ⟨⟨Fr 26 [(4, .v (.bool false))], []⟩, (Wk.fr (by kernel_rfl)), .inr rfl, [.v (.bool false)], (by kernel_rfl), (by kernel_rfl)⟩
  · rw [if_f hb1] at h
    refine Sem.skip ?_
    refine Sem.seq ?_
    refine Sem.seq ?_
    refine Sem.runS (s1 := ⟨Fr 26 [(0, .sl 1 (x0.map cdI.enc)), (1, .sl 1 (x1.map cdI.enc)), (12, .v (.int .i64 (x0.length : Int))), (13, .v (.int .i64 0))], []⟩) ?_ ?_
    · refine RunS.seg e_slices_Equal_L_int_ok 1 (s1 := ⟨Fr 26 [(0, .sl 1 (x0.map cdI.enc)), (1, .sl 1 (x1.map cdI.enc)), (10, .v (.bool ((x0.length : Int) != (x1.length : Int)))), (11, .sl 1 (x0.map cdI.enc))], []⟩) (by kernel_rfl) ?_
      refine RunS.one e_slices_Equal_L_int_ok 0 rfl (op_q (wantedA_none rfl) rfl (q_len (a := .sl 1 (x0.map cdI.enc)) (by kernel_rfl) (len_sl (el := 3) (by kernel_rfl)))) ?_
      refine RunS.seg e_slices_Equal_L_int_ok 1 (s1 := ⟨Fr 26 [(0, .sl 1 (x0.map cdI.enc)), (1, .sl 1 (x1.map cdI.enc)), (10, .v (.bool ((x0.length : Int) != (x1.length : Int)))), (11, .sl 1 (x0.map cdI.enc)), (12, .v (.int .i64 (x0.length : Int))), (13, .v (.int .i64 0))], []⟩) (by kernel_rfl) ?_
      exact RunS.done rfl (Wk.fr (by kernel_rfl))
    refine Sem.block ?_
    obtain ⟨r8, hr8, h⟩ := Option.bind_eq_some_iff.1 h
    refine Sem.loop (n := 100000) ?_
    rcases r8 with w9 | w10
    · refine Sem.cutN (SemN.wk (s1 := ⟨Fr 26 [(0, .sl 1 (x0.map cdI.enc)), (1, .sl 1 (x1.map cdI.enc)), (12, .v (.int .i64 (x0.length : Int))), (13, .v (.int .i64 0))], []⟩) (Wk.fr (by kernel_rfl)) (slices_Equal_L_int_1_ok x0 x1 _ 0 _ hr8)) ?_
      refine Sem.seq ?_
      refine Sem.runS (s1 := ⟨Fr 26 [(4, .v (.bool true))], []⟩) ?_ ?_
      · refine RunS.seg e_slices_Equal_L_int_ok 1 (s1 := ⟨Fr 26 [(4, .v (.bool true))], []⟩) (by kernel_rfl) ?_
        exact RunS.done rfl (Wk.fr (by kernel_rfl))
      refine Sem.ret ?_
      have hq := Option.some.inj h; subst hq
      exact ⟨⟨Fr 26 [(4, .v (.bool true))], []⟩, (Wk.fr (by kernel_rfl)), .inr rfl, [.v (.bool true)], (by kernel_rfl), (by kernel_rfl)⟩
    · refine Sem.cutN (SemN.wk (s1 := ⟨Fr 26 [(0, .sl 1 (x0.map cdI.enc)), (1, .sl 1 (x1.map cdI.enc)), (12, .v (.int .i64 (x0.length : Int))), (13, .v (.int .i64 0))], []⟩) (Wk.fr (by kernel_rfl)) (slices_Equal_L_int_1_ok x0 x1 _ 0 _ hr8)) ?_
      have hq := Option.some.inj h; subst hq
      exact ⟨⟨Fr 26 [(4, .v (.bool w10))], []⟩, (Wk.fr (by kernel_rfl)), .inr rfl, [.v (.bool w10)], (by kernel_rfl), (by kernel_rfl)⟩
def t_slices_Equal_L_int : List AV → Option AV := told cs_slices_Equal_L_int (fun a => slices_Equal_L_int a.1 a.2.1) er_slices_Equal_L_int
theorem x_slices_Equal_L_int : XOk 30 t_slices_Equal_L_int := by
  refine EnvOk.x (E := e_slices_Equal_L_int) (contract_ok e_slices_Equal_L_int_ok (fn := Tryd.f30) (c := cb_slices_Equal_L_int) ?h1 ?h2 ⟨Tryd.call30⟩ cs_slices_Equal_L_int (fun a => slices_Equal_L_int a.1 a.2.1) er_slices_Equal_L_int (fun a => (by show 2 ≤ 26; decide)) ?h3 ?h4) rfl rfl
  case h1 => kernel_rfl
  case h2 => kernel_rfl
  case h3 => intro b; kernel_rfl
  case h4 => exact fun a b h => slices_Equal_L_int_sem a.1 a.2.1 b h
end Go.Proofs.YthofgamegondnaaDoor

namespace Go.Proofs.YthofgamegondnaaDoor
open Go.RowKit
/- trestle/trestlelaw09.EveningChecks -/
noncomputable def e_law09_EveningChecks : Env := ((((((((E0.withX 21 t_law09_Few).withX 16 t_law09_awake).withX 22 t_law09_Copy).withX 27 t_slices_Clone_L_int).withX 28 t_evening_Check).withX 29 t_ref09_Check).withX 26 t_law09_Same).withX 30 t_slices_Equal_L_int)
theorem e_law09_EveningChecks_ok : EnvOk e_law09_EveningChecks := (EnvOk.withX (EnvOk.withX (EnvOk.withX (EnvOk.withX (EnvOk.withX (EnvOk.withX (EnvOk.withX (EnvOk.withX E0_ok x_law09_Few.1 x_law09_Few.2) x_law09_awake.1 x_law09_awake.2) x_law09_Copy.1 x_law09_Copy.2) x_slices_Clone_L_int.1 x_slices_Clone_L_int.2) x_evening_Check.1 x_evening_Check.2) x_ref09_Check.1 x_ref09_Check.2) x_law09_Same.1 x_law09_Same.2) x_slices_Equal_L_int.1 x_slices_Equal_L_int.2)
def law09_EveningChecks (x0 : Int) (x1 : (List Int)) (x2 : (List (List (List Int)))) : Option (Bool) :=
  (if (decide ((x1.length : Int) > 20)) = true then some true else (law09_Few x2 400).bind fun v1 =>
  some (!v1)).bind fun j3 =>
  if j3 = true then
  law09_awake.bind fun v5 =>
  some v5
  else
  (law09_Copy x2).bind fun v6 =>
  (slices_Clone_L_int x1).bind fun v7 =>
  (evening_Check x0 v7 v6).bind fun v8 =>
  (ref09_Check x0 x1 x2).bind fun v9 =>
  (if (v8.1 == v9.1) = true then if (v8.2 == v9.2) = true then (law09_Same v6 x2).bind fun v10 =>
  if v10 = true then (slices_Equal_L_int v7 x1).bind fun v11 =>
  if v11 = true then law09_awake.bind fun v12 =>
  some v12 else some false else some false else some false else some false).bind fun j14 =>
  some j14
def cs_law09_EveningChecks : Cs (Int × (List Int) × (List (List (List Int))) × Unit) := (csC cdI (csC (cdL 1 cdI) (csC (cdL 1 (cdL 1 (cdL 1 cdI))) csN)))
def er_law09_EveningChecks (r : Bool) : AV := cdB.enc r
noncomputable def cb_law09_EveningChecks : Code := codeOf Tryd.f6
set_option maxRecDepth 100000 in
theorem law09_EveningChecks_sem (x0 : Int) (x1 : (List Int)) (x2 : (List (List (List Int)))) (r : Bool) (h : law09_EveningChecks x0 x1 x2 = some r) : Sem e_law09_EveningChecks ⟨none, false⟩ cb_law09_EveningChecks ⟨Fr 61 (pairs0 0 (cs_law09_EveningChecks.enc (x0, x1, x2, ()))), []⟩ fun e s' => (e = .normal ∨ e = .ret) ∧ ∃ xs, resA e_law09_EveningChecks.P s'.fr s'.hp Tryd.f6.results.toList = some xs ∧ retA xs = er_law09_EveningChecks r := by
  unfold law09_EveningChecks at h
  refine Sem.wkQ (Sem.wk (s1 := ⟨Fr 61 [(0, .v (.int .i64 x0)), (1, .sl 1 (x1.map cdI.enc)), (2, .sl 1 (x2.map (cdL 1 (cdL 1 cdI)).enc))], []⟩) (Wk.fr (by kernel_rfl)) ?_)
  refine Sem.seq ?_
  refine Sem.runS (s1 := ⟨Fr 61 [(0, .v (.int .i64 x0)), (1, .sl 1 (x1.map cdI.enc)), (2, .sl 1 (x2.map (cdL 1 (cdL 1 cdI)).enc))], []⟩) ?_ ?_
  · refine RunS.seg e_law09_EveningChecks_ok 1 (s1 := ⟨Fr 61 [(0, .v (.int .i64 x0)), (1, .sl 1 (x1.map cdI.enc)), (2, .sl 1 (x2.map (cdL 1 (cdL 1 cdI)).enc)), (6, .v (.bool false))], []⟩) (by kernel_rfl) ?_
    exact RunS.done rfl (Wk.fr (by kernel_rfl))
  refine Sem.seq ?_
  refine Sem.seq ?_
  obtain ⟨j3, hj3, h⟩ := Option.bind_eq_some_iff.1 h
  refine Sem.runS (s1 := ⟨Fr 61 [(0, .v (.int .i64 x0)), (1, .sl 1 (x1.map cdI.enc)), (2, .sl 1 (x2.map (cdL 1 (cdL 1 cdI)).enc)), (20, .v (.bool j3))], []⟩) ?_ ?_
  · refine RunS.seg e_law09_EveningChecks_ok 1 (s1 := ⟨Fr 61 [(0, .v (.int .i64 x0)), (1, .sl 1 (x1.map cdI.enc)), (2, .sl 1 (x2.map (cdL 1 (cdL 1 cdI)).enc)), (13, .sl 1 (x1.map cdI.enc))], []⟩) (by kernel_rfl) ?_
    refine RunS.one e_law09_EveningChecks_ok 0 rfl (op_q (wantedA_none rfl) rfl (q_len (a := .sl 1 (x1.map cdI.enc)) (by kernel_rfl) (len_sl (el := 3) (by kernel_rfl)))) ?_
    refine RunS.seg e_law09_EveningChecks_ok 2 (s1 := ⟨Fr 61 [(0, .v (.int .i64 x0)), (1, .sl 1 (x1.map cdI.enc)), (2, .sl 1 (x2.map (cdL 1 (cdL 1 cdI)).enc)), (13, .sl 1 (x1.map cdI.enc)), (14, .v (.int .i64 (x1.length : Int))), (15, .v (.bool (decide ((x1.length : Int) > 20)))), (16, .v (.bool (decide ((x1.length : Int) > 20))))], []⟩) (by kernel_rfl) ?_
    rcases Bool.eq_false_or_eq_true (decide ((x1.length : Int) > 20)) with hc19 | hc19
    · rw [if_pos hc19] at hj3
      rw [hc19]
      refine RunS.seg e_law09_EveningChecks_ok 4 (s1 := ⟨Fr 61 [(0, .v (.int .i64 x0)), (1, .sl 1 (x1.map cdI.enc)), (2, .sl 1 (x2.map (cdL 1 (cdL 1 cdI)).enc)), (13, .sl 1 (x1.map cdI.enc)), (14, .v (.int .i64 (x1.length : Int))), (15, .v (.bool true)), (16, .v (.bool true)), (17, .tp []), (18, .tp []), (19, .tp []), (20, .v (.bool true))], []⟩) (by kernel_rfl) ?_
      have hq := Option.some.inj hj3; subst hq
      exact RunS.done rfl (Wk.fr (by kernel_rfl))
    · rw [if_f hc19] at hj3
      rw [hc19]
      refine RunS.seg e_law09_EveningChecks_ok 1 (s1 := ⟨Fr 61 [(0, .v (.int .i64 x0)), (1, .sl 1 (x1.map cdI.enc)), (2, .sl 1 (x2.map (cdL 1 (cdL 1 cdI)).enc)), (13, .sl 1 (x1.map cdI.enc)), (14, .v (.int .i64 (x1.length : Int))), (15, .v (.bool false)), (16, .v (.bool false)), (17, .sl 1 (x2.map (cdL 1 (cdL 1 cdI)).enc))], []⟩) (by kernel_rfl) ?_
      obtain ⟨v1, hv1, hj3⟩ := Option.bind_eq_some_iff.1 hj3
      refine RunS.call e_law09_EveningChecks_ok (fid := 21) (s := cs_law09_Few) (F := fun a => law09_Few a.1 a.2.1) (er := er_law09_Few) (xs := [.sl 1 (x2.map (cdL 1 (cdL 1 cdI)).enc), .v (.int .i64 400)]) (a := (x2, 400, ())) rfl (by kernel_rfl) (by kernel_rfl) (by kernel_rfl) (by kernel_rfl) (by kernel_rfl) (Sns.cons (Sn.enc (c := (cdL 1 (cdL 1 (cdL 1 cdI)))) (v := x2)) (Sns.cons (Sn.enc (c := cdI) (v := 400)) Sns.nil)) (.inl (by kernel_rfl)) hv1 ?_
      refine RunS.seg e_law09_EveningChecks_ok 2 (s1 := ⟨Fr 61 [(0, .v (.int .i64 x0)), (1, .sl 1 (x1.map cdI.enc)), (2, .sl 1 (x2.map (cdL 1 (cdL 1 cdI)).enc)), (13, .sl 1 (x1.map cdI.enc)), (14, .v (.int .i64 (x1.length : Int))), (15, .v (.bool false)), (16, .v (.bool false)), (17, .sl 1 (x2.map (cdL 1 (cdL 1 cdI)).enc)), (18, .v (.bool v1)), (19, .v (.bool (!v1))), (20, .v (.bool (!v1)))], []⟩) (by kernel_rfl) ?_
      have hq := Option.some.inj hj3; subst hq
      exact RunS.done rfl (Wk.fr (by kernel_rfl))
  refine Sem.cond (b := j3) (by kernel_rfl) (fun hb4 => ?_) (fun hb4 => ?_)
  · rw [if_pos hb4] at h
    refine Sem.seq ?_
    obtain ⟨v5, hv5, h⟩ := Option.bind_eq_some_iff.1 h
    refine Sem.runS (s1 := ⟨Fr 61 [(6, .v (.bool v5))], []⟩) ?_ ?_
    · refine RunS.call e_law09_EveningChecks_ok (fid := 16) (s := cs_law09_awake) (F := fun a => law09_awake ) (er := er_law09_awake) (xs := []) (a := (())) rfl (wantedA_none rfl) (by kernel_rfl) (by kernel_rfl) (by kernel_rfl) (by kernel_rfl) Sns.nil (.inl (by kernel_rfl)) hv5 ?_
      refine RunS.seg e_law09_EveningChecks_ok 1 (s1 := ⟨Fr 61 [(0, .v (.int .i64 x0)), (1, .sl 1 (x1.map cdI.enc)), (2, .sl 1 (x2.map (cdL 1 (cdL 1 cdI)).enc)), (6, .v (.bool v5)), (20, .v (.bool j3)), (21, .v (.bool v5))], []⟩) (by kernel_rfl) ?_
      exact RunS.done rfl (Wk.fr (by kernel_rfl))
    refine Sem.ret ?_
    have hq := Option.some.inj h; subst hq
    exact ⟨⟨Fr 61 [(6, .v (.bool v5))], []⟩, (Wk.fr (by kernel_rfl)), .inr rfl, [.v (.bool v5)], (by kernel_rfl), (by kernel_rfl)⟩
  · rw [if_f hb4] at h
    refine Sem.skip ?_
    refine Sem.seq ?_
    obtain ⟨v6, hv6, h⟩ := Option.bind_eq_some_iff.1 h
    obtain ⟨v7, hv7, h⟩ := Option.bind_eq_some_iff.1 h
    refine Sem.runS (s1 := ⟨Fr 61 [(0, .v (.int .i64 x0)), (1, .sl 1 (x1.map cdI.enc)), (2, .sl 1 (x2.map (cdL 1 (cdL 1 cdI)).enc)), (7, .sl 1 (v6.map (cdL 1 (cdL 1 cdI)).enc)), (8, .sl 1 (v7.map cdI.enc))], []⟩) ?_ ?_
    · refine RunS.seg e_law09_EveningChecks_ok 1 (s1 := ⟨Fr 61 [(0, .v (.int .i64 x0)), (1, .sl 1 (x1.map cdI.enc)), (2, .sl 1 (x2.map (cdL 1 (cdL 1 cdI)).enc)), (20, .v (.bool j3)), (22, .sl 1 (x2.map (cdL 1 (cdL 1 cdI)).enc))], []⟩) (by kernel_rfl) ?_
      refine RunS.call e_law09_EveningChecks_ok (fid := 22) (s := cs_law09_Copy) (F := fun a => law09_Copy a.1) (er := er_law09_Copy) (xs := [.sl 1 (x2.map (cdL 1 (cdL 1 cdI)).enc)]) (a := (x2, ())) rfl (wantedA_none rfl) (by kernel_rfl) (by kernel_rfl) (by kernel_rfl) (by kernel_rfl) (Sns.cons (Sn.enc (c := (cdL 1 (cdL 1 (cdL 1 cdI)))) (v := x2)) Sns.nil) (.inl (by kernel_rfl)) hv6 ?_
      refine RunS.seg e_law09_EveningChecks_ok 1 (s1 := ⟨Fr 61 [(0, .v (.int .i64 x0)), (1, .sl 1 (x1.map cdI.enc)), (2, .sl 1 (x2.map (cdL 1 (cdL 1 cdI)).enc)), (20, .v (.bool j3)), (22, .sl 1 (x2.map (cdL 1 (cdL 1 cdI)).enc)), (23, .sl 1 (v6.map (cdL 1 (cdL 1 cdI)).enc)), (24, .sl 1 (x1.map cdI.enc))], []⟩) (by kernel_rfl) ?_
      refine RunS.call e_law09_EveningChecks_ok (fid := 27) (s := cs_slices_Clone_L_int) (F := fun a => slices_Clone_L_int a.1) (er := er_slices_Clone_L_int) (xs := [.sl 1 (x1.map cdI.enc)]) (a := (x1, ())) rfl (wantedA_none rfl) (by kernel_rfl) (by kernel_rfl) (by kernel_rfl) (by kernel_rfl) (Sns.cons (Sn.enc (c := (cdL 1 cdI)) (v := x1)) Sns.nil) (.inl (by kernel_rfl)) hv7 ?_
      refine RunS.seg e_law09_EveningChecks_ok 2 (s1 := ⟨Fr 61 [(0, .v (.int .i64 x0)), (1, .sl 1 (x1.map cdI.enc)), (2, .sl 1 (x2.map (cdL 1 (cdL 1 cdI)).enc)), (7, .sl 1 (v6.map (cdL 1 (cdL 1 cdI)).enc)), (8, .sl 1 (v7.map cdI.enc)), (20, .v (.bool j3)), (22, .sl 1 (x2.map (cdL 1 (cdL 1 cdI)).enc)), (23, .sl 1 (v6.map (cdL 1 (cdL 1 cdI)).enc)), (24, .sl 1 (x1.map cdI.enc)), (25, .sl 1 (v7.map cdI.enc))], []⟩) (by kernel_rfl) ?_
      exact RunS.done rfl (Wk.fr (by kernel_rfl))
    refine Sem.seq ?_
    obtain ⟨v8, hv8, h⟩ := Option.bind_eq_some_iff.1 h
    refine Sem.runS (s1 := ⟨Fr 61 [(0, .v (.int .i64 x0)), (1, .sl 1 (x1.map cdI.enc)), (2, .sl 1 (x2.map (cdL 1 (cdL 1 cdI)).enc)), (7, .sl 1 (v6.map (cdL 1 (cdL 1 cdI)).enc)), (8, .sl 1 (v7.map cdI.enc)), (9, .v (.int .i64 v8.1)), (10, .v (.int .i64 v8.2))], []⟩) ?_ ?_
    · refine RunS.seg e_law09_EveningChecks_ok 3 (s1 := ⟨Fr 61 [(0, .v (.int .i64 x0)), (1, .sl 1 (x1.map cdI.enc)), (2, .sl 1 (x2.map (cdL 1 (cdL 1 cdI)).enc)), (7, .sl 1 (v6.map (cdL 1 (cdL 1 cdI)).enc)), (8, .sl 1 (v7.map cdI.enc)), (27, .v (.int .i64 x0)), (28, .sl 1 (v7.map cdI.enc)), (29, .sl 1 (v6.map (cdL 1 (cdL 1 cdI)).enc))], []⟩) (by kernel_rfl) ?_
      refine RunS.call e_law09_EveningChecks_ok (fid := 28) (s := cs_evening_Check) (F := fun a => evening_Check a.1 a.2.1 a.2.2.1) (er := er_evening_Check) (xs := [.v (.int .i64 x0), .sl 1 (v7.map cdI.enc), .sl 1 (v6.map (cdL 1 (cdL 1 cdI)).enc)]) (a := (x0, v7, v6, ())) rfl (wantedA_none rfl) (by kernel_rfl) (by kernel_rfl) (by kernel_rfl) (by kernel_rfl) (Sns.cons (Sn.enc (c := cdI) (v := x0)) (Sns.cons (Sn.enc (c := (cdL 1 cdI)) (v := v7)) (Sns.cons (Sn.enc (c := (cdL 1 (cdL 1 (cdL 1 cdI)))) (v := v6)) Sns.nil))) (.inl (by kernel_rfl)) hv8 ?_
      refine RunS.seg e_law09_EveningChecks_ok 5 (s1 := ⟨Fr 61 [(0, .v (.int .i64 x0)), (1, .sl 1 (x1.map cdI.enc)), (2, .sl 1 (x2.map (cdL 1 (cdL 1 cdI)).enc)), (7, .sl 1 (v6.map (cdL 1 (cdL 1 cdI)).enc)), (8, .sl 1 (v7.map cdI.enc)), (9, .v (.int .i64 v8.1)), (10, .v (.int .i64 v8.2)), (26, .tp [.v (.int .i64 v8.1), .v (.int .i64 v8.2)]), (27, .v (.int .i64 x0)), (28, .sl 1 (v7.map cdI.enc)), (29, .sl 1 (v6.map (cdL 1 (cdL 1 cdI)).enc)), (30, .tp [.v (.int .i64 v8.1), .v (.int .i64 v8.2)]), (31, .v (.int .i64 v8.1)), (32, .v (.int .i64 v8.2))], []⟩) (by kernel_rfl) ?_
      exact RunS.done rfl (Wk.fr (by kernel_rfl))
    refine Sem.seq ?_
    obtain ⟨v9, hv9, h⟩ := Option.bind_eq_some_iff.1 h
    refine Sem.runS (s1 := ⟨Fr 61 [(1, .sl 1 (x1.map cdI.enc)), (2, .sl 1 (x2.map (cdL 1 (cdL 1 cdI)).enc)), (7, .sl 1 (v6.map (cdL 1 (cdL 1 cdI)).enc)), (8, .sl 1 (v7.map cdI.enc)), (9, .v (.int .i64 v8.1)), (10, .v (.int .i64 v8.2)), (11, .v (.int .i64 v9.1)), (12, .v (.int .i64 v9.2))], []⟩) ?_ ?_
    · refine RunS.seg e_law09_EveningChecks_ok 3 (s1 := ⟨Fr 61 [(0, .v (.int .i64 x0)), (1, .sl 1 (x1.map cdI.enc)), (2, .sl 1 (x2.map (cdL 1 (cdL 1 cdI)).enc)), (7, .sl 1 (v6.map (cdL 1 (cdL 1 cdI)).enc)), (8, .sl 1 (v7.map cdI.enc)), (9, .v (.int .i64 v8.1)), (10, .v (.int .i64 v8.2)), (34, .v (.int .i64 x0)), (35, .sl 1 (x1.map cdI.enc)), (36, .sl 1 (x2.map (cdL 1 (cdL 1 cdI)).enc))], []⟩) (by kernel_rfl) ?_
      refine RunS.call e_law09_EveningChecks_ok (fid := 29) (s := cs_ref09_Check) (F := fun a => ref09_Check a.1 a.2.1 a.2.2.1) (er := er_ref09_Check) (xs := [.v (.int .i64 x0), .sl 1 (x1.map cdI.enc), .sl 1 (x2.map (cdL 1 (cdL 1 cdI)).enc)]) (a := (x0, x1, x2, ())) rfl (wantedA_none rfl) (by kernel_rfl) (by kernel_rfl) (by kernel_rfl) (by kernel_rfl) (Sns.cons (Sn.enc (c := cdI) (v := x0)) (Sns.cons (Sn.enc (c := (cdL 1 cdI)) (v := x1)) (Sns.cons (Sn.enc (c := (cdL 1 (cdL 1 (cdL 1 cdI)))) (v := x2)) Sns.nil))) (.inl (by kernel_rfl)) hv9 ?_
      refine RunS.seg e_law09_EveningChecks_ok 5 (s1 := ⟨Fr 61 [(0, .v (.int .i64 x0)), (1, .sl 1 (x1.map cdI.enc)), (2, .sl 1 (x2.map (cdL 1 (cdL 1 cdI)).enc)), (7, .sl 1 (v6.map (cdL 1 (cdL 1 cdI)).enc)), (8, .sl 1 (v7.map cdI.enc)), (9, .v (.int .i64 v8.1)), (10, .v (.int .i64 v8.2)), (11, .v (.int .i64 v9.1)), (12, .v (.int .i64 v9.2)), (33, .tp [.v (.int .i64 v9.1), .v (.int .i64 v9.2)]), (34, .v (.int .i64 x0)), (35, .sl 1 (x1.map cdI.enc)), (36, .sl 1 (x2.map (cdL 1 (cdL 1 cdI)).enc)), (37, .tp [.v (.int .i64 v9.1), .v (.int .i64 v9.2)]), (38, .v (.int .i64 v9.1)), (39, .v (.int .i64 v9.2))], []⟩) (by kernel_rfl) ?_
      exact RunS.done rfl (Wk.fr (by kernel_rfl))
    refine Sem.seq ?_
    obtain ⟨j14, hj14, h⟩ := Option.bind_eq_some_iff.1 h
    refine Sem.runS (s1 := ⟨Fr 61 [(6, .v (.bool j14))], []⟩) ?_ ?_
    · refine RunS.seg e_law09_EveningChecks_ok 4 (s1 := ⟨Fr 61 [(1, .sl 1 (x1.map cdI.enc)), (2, .sl 1 (x2.map (cdL 1 (cdL 1 cdI)).enc)), (7, .sl 1 (v6.map (cdL 1 (cdL 1 cdI)).enc)), (8, .sl 1 (v7.map cdI.enc)), (9, .v (.int .i64 v8.1)), (10, .v (.int .i64 v8.2)), (11, .v (.int .i64 v9.1)), (12, .v (.int .i64 v9.2)), (40, .v (.int .i64 v8.1)), (41, .v (.int .i64 v9.1)), (42, .v (.bool (v8.1 == v9.1))), (43, .v (.bool (v8.1 == v9.1)))], []⟩) (by kernel_rfl) ?_
      rcases Bool.eq_false_or_eq_true (v8.1 == v9.1) with hc15 | hc15
      · rw [if_pos hc15] at hj14
        rw [hc15]
        refine RunS.seg e_law09_EveningChecks_ok 5 (s1 := ⟨Fr 61 [(1, .sl 1 (x1.map cdI.enc)), (2, .sl 1 (x2.map (cdL 1 (cdL 1 cdI)).enc)), (7, .sl 1 (v6.map (cdL 1 (cdL 1 cdI)).enc)), (8, .sl 1 (v7.map cdI.enc)), (9, .v (.int .i64 v8.1)), (10, .v (.int .i64 v8.2)), (11, .v (.int .i64 v9.1)), (12, .v (.int .i64 v9.2)), (40, .v (.int .i64 v8.1)), (41, .v (.int .i64 v9.1)), (42, .v (.bool true)), (43, .v (.bool true)), (44, .v (.int .i64 v8.2)), (45, .v (.int .i64 v9.2)), (46, .v (.bool (v8.2 == v9.2))), (47, .v (.bool (v8.2 == v9.2))), (48, .v (.bool (v8.2 == v9.2)))], []⟩) (by kernel_rfl) ?_
        rcases Bool.eq_false_or_eq_true (v8.2 == v9.2) with hc16 | hc16
        · rw [if_pos hc16] at hj14
          rw [hc16]
          refine RunS.seg e_law09_EveningChecks_ok 2 (s1 := ⟨Fr 61 [(1, .sl 1 (x1.map cdI.enc)), (2, .sl 1 (x2.map (cdL 1 (cdL 1 cdI)).enc)), (7, .sl 1 (v6.map (cdL 1 (cdL 1 cdI)).enc)), (8, .sl 1 (v7.map cdI.enc)), (9, .v (.int .i64 v8.1)), (10, .v (.int .i64 v8.2)), (11, .v (.int .i64 v9.1)), (12, .v (.int .i64 v9.2)), (40, .v (.int .i64 v8.1)), (41, .v (.int .i64 v9.1)), (42, .v (.bool true)), (43, .v (.bool true)), (44, .v (.int .i64 v8.2)), (45, .v (.int .i64 v9.2)), (46, .v (.bool true)), (47, .v (.bool true)), (48, .v (.bool true)), (49, .sl 1 (v6.map (cdL 1 (cdL 1 cdI)).enc)), (50, .sl 1 (x2.map (cdL 1 (cdL 1 cdI)).enc))], []⟩) (by kernel_rfl) ?_
          obtain ⟨v10, hv10, hj14⟩ := Option.bind_eq_some_iff.1 hj14
          refine RunS.call e_law09_EveningChecks_ok (fid := 26) (s := cs_law09_Same) (F := fun a => law09_Same a.1 a.2.1) (er := er_law09_Same) (xs := [.sl 1 (v6.map (cdL 1 (cdL 1 cdI)).enc), .sl 1 (x2.map (cdL 1 (cdL 1 cdI)).enc)]) (a := (v6, x2, ())) rfl (by kernel_rfl) (by kernel_rfl) (by kernel_rfl) (by kernel_rfl) (by kernel_rfl) (Sns.cons (Sn.enc (c := (cdL 1 (cdL 1 (cdL 1 cdI)))) (v := v6)) (Sns.cons (Sn.enc (c := (cdL 1 (cdL 1 (cdL 1 cdI)))) (v := x2)) Sns.nil)) (.inl (by kernel_rfl)) hv10 ?_
          refine RunS.seg e_law09_EveningChecks_ok 2 (s1 := ⟨Fr 61 [(1, .sl 1 (x1.map cdI.enc)), (2, .sl 1 (x2.map (cdL 1 (cdL 1 cdI)).enc)), (7, .sl 1 (v6.map (cdL 1 (cdL 1 cdI)).enc)), (8, .sl 1 (v7.map cdI.enc)), (9, .v (.int .i64 v8.1)), (10, .v (.int .i64 v8.2)), (11, .v (.int .i64 v9.1)), (12, .v (.int .i64 v9.2)), (40, .v (.int .i64 v8.1)), (41, .v (.int .i64 v9.1)), (42, .v (.bool true)), (43, .v (.bool true)), (44, .v (.int .i64 v8.2)), (45, .v (.int .i64 v9.2)), (46, .v (.bool true)), (47, .v (.bool true)), (48, .v (.bool true)), (49, .sl 1 (v6.map (cdL 1 (cdL 1 cdI)).enc)), (50, .sl 1 (x2.map (cdL 1 (cdL 1 cdI)).enc)), (51, .v (.bool v10)), (52, .v (.bool v10)), (53, .v (.bool v10))], []⟩) (by kernel_rfl) ?_
          rcases Bool.eq_false_or_eq_true v10 with hc17 | hc17
          · rw [if_pos hc17] at hj14
            rw [hc17]
            refine RunS.seg e_law09_EveningChecks_ok 2 (s1 := ⟨Fr 61 [(1, .sl 1 (x1.map cdI.enc)), (2, .sl 1 (x2.map (cdL 1 (cdL 1 cdI)).enc)), (7, .sl 1 (v6.map (cdL 1 (cdL 1 cdI)).enc)), (8, .sl 1 (v7.map cdI.enc)), (9, .v (.int .i64 v8.1)), (10, .v (.int .i64 v8.2)), (11, .v (.int .i64 v9.1)), (12, .v (.int .i64 v9.2)), (40, .v (.int .i64 v8.1)), (41, .v (.int .i64 v9.1)), (42, .v (.bool true)), (43, .v (.bool true)), (44, .v (.int .i64 v8.2)), (45, .v (.int .i64 v9.2)), (46, .v (.bool true)), (47, .v (.bool true)), (48, .v (.bool true)), (49, .sl 1 (v6.map (cdL 1 (cdL 1 cdI)).enc)), (50, .sl 1 (x2.map (cdL 1 (cdL 1 cdI)).enc)), (51, .v (.bool true)), (52, .v (.bool true)), (53, .v (.bool true)), (54, .sl 1 (v7.map cdI.enc)), (55, .sl 1 (x1.map cdI.enc))], []⟩) (by kernel_rfl) ?_
            obtain ⟨v11, hv11, hj14⟩ := Option.bind_eq_some_iff.1 hj14
            refine RunS.call e_law09_EveningChecks_ok (fid := 30) (s := cs_slices_Equal_L_int) (F := fun a => slices_Equal_L_int a.1 a.2.1) (er := er_slices_Equal_L_int) (xs := [.sl 1 (v7.map cdI.enc), .sl 1 (x1.map cdI.enc)]) (a := (v7, x1, ())) rfl (by kernel_rfl) (by kernel_rfl) (by kernel_rfl) (by kernel_rfl) (by kernel_rfl) (Sns.cons (Sn.enc (c := (cdL 1 cdI)) (v := v7)) (Sns.cons (Sn.enc (c := (cdL 1 cdI)) (v := x1)) Sns.nil)) (.inl (by kernel_rfl)) hv11 ?_
            refine RunS.seg e_law09_EveningChecks_ok 2 (s1 := ⟨Fr 61 [(1, .sl 1 (x1.map cdI.enc)), (2, .sl 1 (x2.map (cdL 1 (cdL 1 cdI)).enc)), (7, .sl 1 (v6.map (cdL 1 (cdL 1 cdI)).enc)), (8, .sl 1 (v7.map cdI.enc)), (9, .v (.int .i64 v8.1)), (10, .v (.int .i64 v8.2)), (11, .v (.int .i64 v9.1)), (12, .v (.int .i64 v9.2)), (40, .v (.int .i64 v8.1)), (41, .v (.int .i64 v9.1)), (42, .v (.bool true)), (43, .v (.bool true)), (44, .v (.int .i64 v8.2)), (45, .v (.int .i64 v9.2)), (46, .v (.bool true)), (47, .v (.bool true)), (48, .v (.bool true)), (49, .sl 1 (v6.map (cdL 1 (cdL 1 cdI)).enc)), (50, .sl 1 (x2.map (cdL 1 (cdL 1 cdI)).enc)), (51, .v (.bool true)), (52, .v (.bool true)), (53, .v (.bool true)), (54, .sl 1 (v7.map cdI.enc)), (55, .sl 1 (x1.map cdI.enc)), (56, .v (.bool v11)), (57, .v (.bool v11)), (58, .v (.bool v11))], []⟩) (by kernel_rfl) ?_
            rcases Bool.eq_false_or_eq_true v11 with hc18 | hc18
            · rw [if_pos hc18] at hj14
              rw [hc18]
              obtain ⟨v12, hv12, hj14⟩ := Option.bind_eq_some_iff.1 hj14
              refine RunS.call e_law09_EveningChecks_ok (fid := 16) (s := cs_law09_awake) (F := fun a => law09_awake ) (er := er_law09_awake) (xs := []) (a := (())) rfl (by kernel_rfl) (by kernel_rfl) (by kernel_rfl) (by kernel_rfl) (by kernel_rfl) Sns.nil (.inl (by kernel_rfl)) hv12 ?_
              refine RunS.seg e_law09_EveningChecks_ok 2 (s1 := ⟨Fr 61 [(1, .sl 1 (x1.map cdI.enc)), (2, .sl 1 (x2.map (cdL 1 (cdL 1 cdI)).enc)), (6, .v (.bool v12)), (7, .sl 1 (v6.map (cdL 1 (cdL 1 cdI)).enc)), (8, .sl 1 (v7.map cdI.enc)), (9, .v (.int .i64 v8.1)), (10, .v (.int .i64 v8.2)), (11, .v (.int .i64 v9.1)), (12, .v (.int .i64 v9.2)), (40, .v (.int .i64 v8.1)), (41, .v (.int .i64 v9.1)), (42, .v (.bool true)), (43, .v (.bool true)), (44, .v (.int .i64 v8.2)), (45, .v (.int .i64 v9.2)), (46, .v (.bool true)), (47, .v (.bool true)), (48, .v (.bool true)), (49, .sl 1 (v6.map (cdL 1 (cdL 1 cdI)).enc)), (50, .sl 1 (x2.map (cdL 1 (cdL 1 cdI)).enc)), (51, .v (.bool true)), (52, .v (.bool true)), (53, .v (.bool true)), (54, .sl 1 (v7.map cdI.enc)), (55, .sl 1 (x1.map cdI.enc)), (56, .v (.bool true)), (57, .v (.bool true)), (58, .v (.bool true)), (59, .v (.bool v12)), (60, .v (.bool v12))], []⟩) (by kernel_rfl) ?_
              have hq := Option.some.inj hj14; subst hq
              exact RunS.done rfl (Wk.fr (by kernel_rfl))
            · rw [if_f hc18] at hj14
              rw [hc18]
              refine RunS.seg e_law09_EveningChecks_ok 3 (s1 := ⟨Fr 61 [(1, .sl 1 (x1.map cdI.enc)), (2, .sl 1 (x2.map (cdL 1 (cdL 1 cdI)).enc)), (6, .v (.bool false)), (7, .sl 1 (v6.map (cdL 1 (cdL 1 cdI)).enc)), (8, .sl 1 (v7.map cdI.enc)), (9, .v (.int .i64 v8.1)), (10, .v (.int .i64 v8.2)), (11, .v (.int .i64 v9.1)), (12, .v (.int .i64 v9.2)), (40, .v (.int .i64 v8.1)), (41, .v (.int .i64 v9.1)), (42, .v (.bool true)), (43, .v (.bool true)), (44, .v (.int .i64 v8.2)), (45, .v (.int .i64 v9.2)), (46, .v (.bool true)), (47, .v (.bool true)), (48, .v (.bool true)), (49, .sl 1 (v6.map (cdL 1 (cdL 1 cdI)).enc)), (50, .sl 1 (x2.map (cdL 1 (cdL 1 cdI)).enc)), (51, .v (.bool true)), (52, .v (.bool true)), (53, .v (.bool true)), (54, .sl 1 (v7.map cdI.enc)), (55, .sl 1 (x1.map cdI.enc)), (56, .v (.bool false)), (57, .v (.bool false)), (58, .v (.bool false)), (59, .tp []), (60, .v (.bool false))], []⟩) (by kernel_rfl) ?_
              have hq := Option.some.inj hj14; subst hq
              exact RunS.done rfl (Wk.fr (by kernel_rfl))
          · rw [if_f hc17] at hj14
            rw [hc17]
            refine RunS.seg e_law09_EveningChecks_ok 8 (s1 := ⟨Fr 61 [(1, .sl 1 (x1.map cdI.enc)), (2, .sl 1 (x2.map (cdL 1 (cdL 1 cdI)).enc)), (6, .v (.bool false)), (7, .sl 1 (v6.map (cdL 1 (cdL 1 cdI)).enc)), (8, .sl 1 (v7.map cdI.enc)), (9, .v (.int .i64 v8.1)), (10, .v (.int .i64 v8.2)), (11, .v (.int .i64 v9.1)), (12, .v (.int .i64 v9.2)), (40, .v (.int .i64 v8.1)), (41, .v (.int .i64 v9.1)), (42, .v (.bool true)), (43, .v (.bool true)), (44, .v (.int .i64 v8.2)), (45, .v (.int .i64 v9.2)), (46, .v (.bool true)), (47, .v (.bool true)), (48, .v (.bool true)), (49, .sl 1 (v6.map (cdL 1 (cdL 1 cdI)).enc)), (50, .sl 1 (x2.map (cdL 1 (cdL 1 cdI)).enc)), (51, .v (.bool false)), (52, .v (.bool false)), (53, .v (.bool false)), (54, .tp []), (55, .tp []), (56, .tp []), (57, .v (.bool false)), (58, .v (.bool false)), (59, .tp []), (60, .v (.bool false))], []⟩) (by kernel_rfl) ?_
            have hq := Option.some.inj hj14; subst hq
            exact RunS.done rfl (Wk.fr (by kernel_rfl))
        · rw [if_f hc16] at hj14
          rw [hc16]
          refine RunS.seg e_law09_EveningChecks_ok 13 (s1 := ⟨Fr 61 [(1, .sl 1 (x1.map cdI.enc)), (2, .sl 1 (x2.map (cdL 1 (cdL 1 cdI)).enc)), (6, .v (.bool false)), (7, .sl 1 (v6.map (cdL 1 (cdL 1 cdI)).enc)), (8, .sl 1 (v7.map cdI.enc)), (9, .v (.int .i64 v8.1)), (10, .v (.int .i64 v8.2)), (11, .v (.int .i64 v9.1)), (12, .v (.int .i64 v9.2)), (40, .v (.int .i64 v8.1)), (41, .v (.int .i64 v9.1)), (42, .v (.bool true)), (43, .v (.bool true)), (44, .v (.int .i64 v8.2)), (45, .v (.int .i64 v9.2)), (46, .v (.bool false)), (47, .v (.bool false)), (48, .v (.bool false)), (49, .tp []), (50, .tp []), (51, .tp []), (52, .v (.bool false)), (53, .v (.bool false)), (54, .tp []), (55, .tp []), (56, .tp []), (57, .v (.bool false)), (58, .v (.bool false)), (59, .tp []), (60, .v (.bool false))], []⟩) (by kernel_rfl) ?_
          have hq := Option.some.inj hj14; subst hq
          exact RunS.done rfl (Wk.fr (by kernel_rfl))
      · rw [if_f hc15] at hj14
        rw [hc15]
        refine RunS.seg e_law09_EveningChecks_ok 18 (s1 := ⟨Fr 61 [(1, .sl 1 (x1.map cdI.enc)), (2, .sl 1 (x2.map (cdL 1 (cdL 1 cdI)).enc)), (6, .v (.bool false)), (7, .sl 1 (v6.map (cdL 1 (cdL 1 cdI)).enc)), (8, .sl 1 (v7.map cdI.enc)), (9, .v (.int .i64 v8.1)), (10, .v (.int .i64 v8.2)), (11, .v (.int .i64 v9.1)), (12, .v (.int .i64 v9.2)), (40, .v (.int .i64 v8.1)), (41, .v (.int .i64 v9.1)), (42, .v (.bool false)), (43, .v (.bool false)), (44, .tp []), (45, .tp []), (46, .tp []), (47, .v (.bool false)), (48, .v (.bool false)), (49, .tp []), (50, .tp []), (51, .tp []), (52, .v (.bool false)), (53, .v (.bool false)), (54, .tp []), (55, .tp []), (56, .tp []), (57, .v (.bool false)), (58, .v (.bool false)), (59, .tp []), (60, .v (.bool false))], []⟩) (by kernel_rfl) ?_
        have hq := Option.some.inj hj14; subst hq
        exact RunS.done rfl (Wk.fr (by kernel_rfl))
    refine Sem.ret ?_
    have hq := Option.some.inj h; subst hq
    exact ⟨⟨Fr 61 [(6, .v (.bool j14))], []⟩, (Wk.fr (by kernel_rfl)), .inr rfl, [.v (.bool j14)], (by kernel_rfl), (by kernel_rfl)⟩
def t_law09_EveningChecks : List AV → Option AV := told cs_law09_EveningChecks (fun a => law09_EveningChecks a.1 a.2.1 a.2.2.1) er_law09_EveningChecks
theorem x_law09_EveningChecks : XOk 6 t_law09_EveningChecks := by
  refine EnvOk.x (E := e_law09_EveningChecks) (contract_ok e_law09_EveningChecks_ok (fn := Tryd.f6) (c := cb_law09_EveningChecks) ?h1 ?h2 ⟨Tryd.call6⟩ cs_law09_EveningChecks (fun a => law09_EveningChecks a.1 a.2.1 a.2.2.1) er_law09_EveningChecks (fun a => (by show 3 ≤ 61; decide)) ?h3 ?h4) rfl rfl
  case h1 => kernel_rfl
  case h2 => kernel_rfl
  case h3 => intro b; kernel_rfl
  case h4 => exact fun a b h => law09_EveningChecks_sem a.1 a.2.1 a.2.2.1 b h
end Go.Proofs.YthofgamegondnaaDoor

namespace Go.Proofs.YthofgamegondnaaDoor
open Go.RowKit
def in64 (n : Int) : Prop := -9223372036854775808 ≤ n ∧ n ≤ 9223372036854775807
theorem wr_i {n : Int} (h1 : -9223372036854775808 ≤ n) (h2 : n ≤ 9223372036854775807) : wr .i64 n = n := by
  show (if _ then n else _) = n
  rw [if_pos ⟨h1, h2⟩]
theorem idx_app {α : Type} (pre : List α) (v : α) (r : List α) : idx (pre ++ v :: r) (pre.length : Int) = some v := by
  unfold idx
  rw [if_pos (by omega)]
  simp
theorem idx_lt {α : Type} {xs : List α} {i : Nat} (h : i < xs.length) : idx xs (i : Int) = some xs[i] := by
  unfold idx
  rw [if_pos (by omega)]
  simp [h]
theorem snoc_len {α : Type} (pre : List α) (v : α) : ((pre.length : Int) + 1) = ((pre ++ [v]).length : Int) := by simp
theorem snoc_app {α : Type} (pre : List α) (v : α) (r : List α) : pre ++ v :: r = (pre ++ [v]) ++ r := by simp
theorem wr_snoc {α : Type} (pre : List α) (v : α) (r : List α) (h : (pre ++ v :: r).length ≤ 1000000000) : wr .i64 ((pre.length : Int) + 1) = ((pre ++ [v]).length : Int) := by
  simp at h
  rw [wr_i (by omega) (by omega)]; simp
theorem lt_len {α : Type} (pre : List α) (v : α) (r : List α) : decide ((pre.length : Int) < ((pre ++ v :: r).length : Int)) = true := by
  simp; omega
theorem nlt_len {α : Type} (pre : List α) : decide ((pre.length : Int) < ((pre ++ []).length : Int)) = false := by simp
theorem capOk_le {b n : Nat} (hb : b ≤ 1000) (h : n ≤ 1000000000) : capOk b n = true := by
  have h1 : n * b ≤ 1000000000 * 1000 := Nat.mul_le_mul h hb
  unfold capOk
  rw [Bool.and_eq_true]
  exact ⟨Nat.ble_eq_true_of_le (by omega), Nat.ble_eq_true_of_le (by omega)⟩
theorem tdiv2 (n : Int) (h : 0 ≤ n) : n.tdiv 2 = n / 2 := Int.tdiv_eq_ediv_of_nonneg h

/-- A loop over a list, told by the list. -/
def goL {α σ ρ : Type} (B : α → Int → σ → (σ → Option ρ) → Option ρ) (D : σ → Option ρ) : List α → Int → σ → Option ρ
  | [], _, s => D s
  | v :: r, i, s => B v i s (fun s' => goL B D r (i + 1) s')
theorem loop_list {α σ ρ : Type} (xs : List α) (hxs : xs.length ≤ 1000000) (L : Nat → σ → Int → Option ρ) (B : α → Int → σ → (σ → Option ρ) → Option ρ) (D : σ → Option ρ)
    (h : ∀ f s i, L (f + 1) s i = if decide (i < (xs.length : Int)) = true then (idx xs i).bind fun v => B v i s (fun s' => L f s' (wr .i64 (i + 1))) else D s) :
    ∀ (r pre : List α) (s : σ) (f : Nat), xs = pre ++ r → r.length < f → L f s pre.length = goL B D r pre.length s
  | [], pre, s, f + 1, hx, _ => by
    subst hx
    rw [h, nlt_len]
    rfl
  | v :: r, pre, s, f + 1, hx, hf => by
    have ih := loop_list xs hxs L B D h r (pre ++ [v])
    subst hx
    rw [h, if_pos (lt_len pre v r), idx_app]
    show B v pre.length s _ = B v pre.length s _
    congr 1
    funext s'
    rw [wr_snoc pre v r (by omega), ih s' f (by simp) (by simp at hf; omega)]
    congr 1
    exact (snoc_len pre v).symm
theorem loop0 {α σ ρ : Type} (xs : List α) (hxs : xs.length ≤ 1000000) (L : Nat → σ → Int → Option ρ) (B : α → Int → σ → (σ → Option ρ) → Option ρ) (D : σ → Option ρ)
    (h : ∀ f s i, L (f + 1) s i = if decide (i < (xs.length : Int)) = true then (idx xs i).bind fun v => B v i s (fun s' => L f s' (wr .i64 (i + 1))) else D s) (s : σ) (f : Nat) (hf : xs.length < f) : L f s 0 = goL B D xs 0 s :=
  loop_list xs hxs L B D h xs [] s f rfl hf
/-- A loop over numbers. -/
def goN {σ ρ : Type} (B : Int → σ → (σ → Option ρ) → Option ρ) (D : σ → Option ρ) : Nat → Int → σ → Option ρ
  | 0, _, s => D s
  | k + 1, i, s => B i s (fun s' => goN B D k (i + 1) s')
theorem loop_num {σ ρ : Type} (n : Int) (hn : n ≤ 1000000) (L : Nat → σ → Int → Option ρ) (B : Int → σ → (σ → Option ρ) → Option ρ) (D : σ → Option ρ)
    (h : ∀ f s i, L (f + 1) s i = if decide (i < n) = true then B i s (fun s' => L f s' (wr .i64 (i + 1))) else D s) :
    ∀ (k : Nat) (i : Int) (s : σ) (f : Nat), (k : Int) = n - i → 0 ≤ i → k < f → L f s i = goN B D k i s
  | 0, i, s, f + 1, hk, _, _ => by
    rw [h, if_neg (by simp; omega)]
    rfl
  | k + 1, i, s, f + 1, hk, hi, hf => by
    have ih := loop_num n hn L B D h k (i + 1)
    rw [h, if_pos (by simp; omega)]
    show B i s _ = B i s _
    congr 1
    funext s'
    rw [wr_i (by omega) (by omega), ih s' f (by omega) (by omega) (by omega)]
theorem idx_some {α : Type} {xs : List α} {i : Int} {v : α} (h : idx xs i = some v) : v ∈ xs := by
  unfold idx at h
  split at h
  · exact List.mem_of_getElem? h
  · cases h
end Go.Proofs.YthofgamegondnaaDoor

namespace Go.Proofs.YthofgamegondnaaDoor
open Go.RowKit
/- trestle/evening.met -/
noncomputable def e_evening_met : Env := E0
theorem e_evening_met_ok : EnvOk e_evening_met := E0_ok
def evening_met_1 (x0 : (List Int)) : Nat → Int → Int → Option ((Int))
  | 0, _, _ => none
  | f + 1, c1, c2 =>
    if (decide (c2 < (x0.length : Int))) = true then
    (idx x0 c2).bind fun v4 =>
    evening_met_1 x0 f (wr .i64 (c1 + (wr .i64 ((wr .i64 (v4 * (wr .i64 (v4 - 1)))).tdiv 2)))) (wr .i64 (c2 + 1))
    else
    some c1
def evening_met (x0 : (List Int)) : Option (Int) :=
  (evening_met_1 x0 100000 0 0).bind fun r6 =>
  some r6
def cs_evening_met : Cs ((List Int) × Unit) := (csC (cdL 1 cdI) csN)
def er_evening_met (r : Int) : AV := cdI.enc r
noncomputable def cb_evening_met : Code := codeOf Tryd.f72
set_option maxRecDepth 100000 in
theorem evening_met_1_ok (x0 : (List Int)) : ∀ (f : Nat) (c1 : Int) (c2 : Int) (r : (Int)), evening_met_1 x0 f c1 c2 = some r → SemN e_evening_met ⟨none, false⟩ (pc cb_evening_met [1, 1, 0, 1, 0, 0]) f ⟨Fr 21 [(3, .v (.int .i64 c1)), (6, .sl 1 (x0.map cdI.enc)), (7, .v (.int .i64 (x0.length : Int))), (8, .v (.int .i64 c2))], []⟩ (fun e s => e = (.exit 0) ∧ Wk e_evening_met s ⟨Fr 21 [(3, .v (.int .i64 r))], []⟩) := by
  intro f
  induction f with
  | zero => intro c1 c2 r h; cases h
  | succ f ih0 =>
    intro c1 c2 r h
    have ih := fun (c1 : Int) (c2 : Int) => ih0 c1 c2 r
    unfold evening_met_1 at h
    refine SemN.succ ?_
    refine Sem.seq ?_
    refine Sem.runS (s1 := ⟨Fr 21 [(3, .v (.int .i64 c1)), (6, .sl 1 (x0.map cdI.enc)), (7, .v (.int .i64 (x0.length : Int))), (8, .v (.int .i64 c2)), (9, .v (.bool (decide (c2 < (x0.length : Int)))))], []⟩) ?_ ?_
    · refine RunS.seg e_evening_met_ok 1 (s1 := ⟨Fr 21 [(3, .v (.int .i64 c1)), (6, .sl 1 (x0.map cdI.enc)), (7, .v (.int .i64 (x0.length : Int))), (8, .v (.int .i64 c2)), (9, .v (.bool (decide (c2 < (x0.length : Int)))))], []⟩) (by kernel_rfl) ?_
      exact RunS.done rfl (Wk.fr (by kernel_rfl))
    refine Sem.seq ?_
    refine Sem.cond (b := (decide (c2 < (x0.length : Int)))) (by kernel_rfl) (fun hb3 => ?_) (fun hb3 => ?_)
    · rw [if_pos hb3] at h
      refine Sem.skip ?_
      refine Sem.seq ?_
      refine Sem.block ?_
      refine Sem.seq ?_
      obtain ⟨v4, hv4, h⟩ := Option.bind_eq_some_iff.1 h
      refine Sem.runS (s1 := ⟨Fr 21 [(3, .v (.int .i64 c1)), (5, .v (.int .i64 v4)), (6, .sl 1 (x0.map cdI.enc)), (7, .v (.int .i64 (x0.length : Int))), (8, .v (.int .i64 c2))], []⟩) ?_ ?_
      · refine RunS.one e_evening_met_ok 0 rfl (op_q (wantedA_none rfl) rfl (q_indexAddr (a := .sl 1 (x0.map cdI.enc)) (b := .v (.int .i64 c2)) (by kernel_rfl) (by kernel_rfl) (ix_sl (e := cdI.enc) (el := 3) (k := 1) (ki := .i64) (by kernel_rfl) (by kernel_rfl) hv4))) ?_
        refine RunS.seg e_evening_met_ok 2 (s1 := ⟨Fr 21 [(3, .v (.int .i64 c1)), (5, .v (.int .i64 v4)), (6, .sl 1 (x0.map cdI.enc)), (7, .v (.int .i64 (x0.length : Int))), (8, .v (.int .i64 c2)), (9, .v (.bool (decide (c2 < (x0.length : Int))))), (10, .pe (.v (.int .i64 v4)) 0), (11, .v (.int .i64 v4))], []⟩) (by kernel_rfl) ?_
        exact RunS.done rfl (Wk.fr (by kernel_rfl))
      refine Sem.runS (s1 := ⟨Fr 21 [(3, .v (.int .i64 (wr .i64 (c1 + (wr .i64 ((wr .i64 (v4 * (wr .i64 (v4 - 1)))).tdiv 2)))))), (6, .sl 1 (x0.map cdI.enc)), (7, .v (.int .i64 (x0.length : Int))), (8, .v (.int .i64 c2))], []⟩) ?_ ?_
      · refine RunS.seg e_evening_met_ok 8 (s1 := ⟨Fr 21 [(3, .v (.int .i64 (wr .i64 (c1 + (wr .i64 ((wr .i64 (v4 * (wr .i64 (v4 - 1)))).tdiv 2)))))), (5, .v (.int .i64 v4)), (6, .sl 1 (x0.map cdI.enc)), (7, .v (.int .i64 (x0.length : Int))), (8, .v (.int .i64 c2)), (12, .v (.int .i64 c1)), (13, .v (.int .i64 v4)), (14, .v (.int .i64 v4)), (15, .v (.int .i64 (wr .i64 (v4 - 1)))), (16, .v (.int .i64 (wr .i64 (v4 * (wr .i64 (v4 - 1)))))), (17, .v (.int .i64 (wr .i64 ((wr .i64 (v4 * (wr .i64 (v4 - 1)))).tdiv 2)))), (18, .v (.int .i64 (wr .i64 (c1 + (wr .i64 ((wr .i64 (v4 * (wr .i64 (v4 - 1)))).tdiv 2))))))], []⟩) (by kernel_rfl) ?_
        exact RunS.done rfl (Wk.fr (by kernel_rfl))
      refine Sem.runS (s1 := ⟨Fr 21 [(3, .v (.int .i64 (wr .i64 (c1 + (wr .i64 ((wr .i64 (v4 * (wr .i64 (v4 - 1)))).tdiv 2)))))), (6, .sl 1 (x0.map cdI.enc)), (7, .v (.int .i64 (x0.length : Int))), (8, .v (.int .i64 (wr .i64 (c2 + 1))))], []⟩) ?_ ?_
      · refine RunS.seg e_evening_met_ok 2 (s1 := ⟨Fr 21 [(3, .v (.int .i64 (wr .i64 (c1 + (wr .i64 ((wr .i64 (v4 * (wr .i64 (v4 - 1)))).tdiv 2)))))), (6, .sl 1 (x0.map cdI.enc)), (7, .v (.int .i64 (x0.length : Int))), (8, .v (.int .i64 (wr .i64 (c2 + 1)))), (19, .v (.int .i64 (wr .i64 (c2 + 1))))], []⟩) (by kernel_rfl) ?_
        exact RunS.done rfl (Wk.fr (by kernel_rfl))
      exact SemN.wk (s1 := ⟨Fr 21 [(3, .v (.int .i64 (wr .i64 (c1 + (wr .i64 ((wr .i64 (v4 * (wr .i64 (v4 - 1)))).tdiv 2)))))), (6, .sl 1 (x0.map cdI.enc)), (7, .v (.int .i64 (x0.length : Int))), (8, .v (.int .i64 (wr .i64 (c2 + 1))))], []⟩) (Wk.fr (by kernel_rfl)) (ih (wr .i64 (c1 + (wr .i64 ((wr .i64 (v4 * (wr .i64 (v4 - 1)))).tdiv 2)))) (wr .i64 (c2 + 1)) h)
    · rw [if_f hb3] at h
      refine Sem.exit ?_
      have hq := Option.some.inj h; subst hq
      exact ⟨rfl, (Wk.fr (by kernel_rfl))⟩
set_option maxRecDepth 100000 in
theorem evening_met_sem (x0 : (List Int)) (r : Int) (h : evening_met x0 = some r) : Sem e_evening_met ⟨none, false⟩ cb_evening_met ⟨Fr 21 (pairs0 0 (cs_evening_met.enc (x0, ()))), []⟩ fun e s' => (e = .normal ∨ e = .ret) ∧ ∃ xs, resA e_evening_met.P s'.fr s'.hp Tryd.f72.results.toList = some xs ∧ retA xs = er_evening_met r := by
  unfold evening_met at h
  refine Sem.wkQ (Sem.wk (s1 := ⟨Fr 21 [(0, .sl 1 (x0.map cdI.enc))], []⟩) (Wk.fr (by kernel_rfl)) ?_)
  refine Sem.seq ?_
  refine Sem.runS (s1 := ⟨Fr 21 [(0, .sl 1 (x0.map cdI.enc))], []⟩) ?_ ?_
  · refine RunS.seg e_evening_met_ok 1 (s1 := ⟨Fr 21 [(0, .sl 1 (x0.map cdI.enc)), (2, .v (.int .i64 0))], []⟩) (by kernel_rfl) ?_
    exact RunS.done rfl (Wk.fr (by kernel_rfl))
  refine Sem.seq ?_
  refine Sem.runS (s1 := ⟨Fr 21 [(0, .sl 1 (x0.map cdI.enc)), (3, .v (.int .i64 0))], []⟩) ?_ ?_
  · refine RunS.seg e_evening_met_ok 1 (s1 := ⟨Fr 21 [(0, .sl 1 (x0.map cdI.enc)), (3, .v (.int .i64 0))], []⟩) (by kernel_rfl) ?_
    exact RunS.done rfl (Wk.fr (by kernel_rfl))
  refine Sem.seq ?_
  refine Sem.seq ?_
  refine Sem.runS (s1 := ⟨Fr 21 [(3, .v (.int .i64 0)), (6, .sl 1 (x0.map cdI.enc)), (7, .v (.int .i64 (x0.length : Int))), (8, .v (.int .i64 0))], []⟩) ?_ ?_
  · refine RunS.seg e_evening_met_ok 1 (s1 := ⟨Fr 21 [(0, .sl 1 (x0.map cdI.enc)), (3, .v (.int .i64 0)), (6, .sl 1 (x0.map cdI.enc))], []⟩) (by kernel_rfl) ?_
    refine RunS.one e_evening_met_ok 0 rfl (op_q (wantedA_none rfl) rfl (q_len (a := .sl 1 (x0.map cdI.enc)) (by kernel_rfl) (len_sl (el := 3) (by kernel_rfl)))) ?_
    refine RunS.seg e_evening_met_ok 1 (s1 := ⟨Fr 21 [(0, .sl 1 (x0.map cdI.enc)), (3, .v (.int .i64 0)), (6, .sl 1 (x0.map cdI.enc)), (7, .v (.int .i64 (x0.length : Int))), (8, .v (.int .i64 0))], []⟩) (by kernel_rfl) ?_
    exact RunS.done rfl (Wk.fr (by kernel_rfl))
  refine Sem.block ?_
  obtain ⟨r6, hr6, h⟩ := Option.bind_eq_some_iff.1 h
  refine Sem.loop (n := 100000) ?_
  refine Sem.cutN (SemN.wk (s1 := ⟨Fr 21 [(3, .v (.int .i64 0)), (6, .sl 1 (x0.map cdI.enc)), (7, .v (.int .i64 (x0.length : Int))), (8, .v (.int .i64 0))], []⟩) (Wk.fr (by kernel_rfl)) (evening_met_1_ok x0 _ 0 0 _ hr6)) ?_
  refine Sem.seq ?_
  refine Sem.runS (s1 := ⟨Fr 21 [(2, .v (.int .i64 r6))], []⟩) ?_ ?_
  · refine RunS.seg e_evening_met_ok 2 (s1 := ⟨Fr 21 [(2, .v (.int .i64 r6)), (3, .v (.int .i64 r6)), (20, .v (.int .i64 r6))], []⟩) (by kernel_rfl) ?_
    exact RunS.done rfl (Wk.fr (by kernel_rfl))
  refine Sem.ret ?_
  have hq := Option.some.inj h; subst hq
  exact ⟨⟨Fr 21 [(2, .v (.int .i64 r6))], []⟩, (Wk.fr (by kernel_rfl)), .inr rfl, [.v (.int .i64 r6)], (by kernel_rfl), (by kernel_rfl)⟩
def t_evening_met : List AV → Option AV := told cs_evening_met (fun a => evening_met a.1) er_evening_met
theorem x_evening_met : XOk 72 t_evening_met := by
  refine EnvOk.x (E := e_evening_met) (contract_ok e_evening_met_ok (fn := Tryd.f72) (c := cb_evening_met) ?h1 ?h2 ⟨Tryd.call72⟩ cs_evening_met (fun a => evening_met a.1) er_evening_met (fun a => (by show 1 ≤ 21; decide)) ?h3 ?h4) rfl rfl
  case h1 => kernel_rfl
  case h2 => kernel_rfl
  case h3 => intro b; kernel_rfl
  case h4 => exact fun a b h => evening_met_sem a.1 b h
end Go.Proofs.YthofgamegondnaaDoor

namespace Go.Proofs.YthofgamegondnaaDoor
open Go.RowKit
/- trestle/evening.LeastMost -/
noncomputable def e_evening_LeastMost : Env := ((E0.withX 68 t_evening_fit).withX 72 t_evening_met)
theorem e_evening_LeastMost_ok : EnvOk e_evening_LeastMost := (EnvOk.withX (EnvOk.withX E0_ok x_evening_fit.1 x_evening_fit.2) x_evening_met.1 x_evening_met.2)
def evening_LeastMost (x0 : Int) (x1 : (List Int)) (x2 : Int) : Option (Int) :=
  (evening_fit x0 x1).bind fun v1 =>
  (if (!v1) = true then some true else if (decide (x2 < 1)) = true then some true else (evening_met x1).bind fun v2 =>
  some (v2 == 0)).bind fun j4 =>
  if j4 = true then
  some 0
  else
  (evening_met x1).bind fun v6 =>
  if (wr .i64 ((wr .i64 (x0 * (wr .i64 (x0 - 1)))).tdiv 2)) = (0 : Int) then none else
  some (wr .i64 ((wr .i64 ((wr .i64 ((wr .i64 ((mnI x2 64) * v6)) + (wr .i64 ((wr .i64 (x0 * (wr .i64 (x0 - 1)))).tdiv 2)))) - 1)).tdiv (wr .i64 ((wr .i64 (x0 * (wr .i64 (x0 - 1)))).tdiv 2))))
def cs_evening_LeastMost : Cs (Int × (List Int) × Int × Unit) := (csC cdI (csC (cdL 1 cdI) (csC cdI csN)))
def er_evening_LeastMost (r : Int) : AV := cdI.enc r
noncomputable def cb_evening_LeastMost : Code := codeOf Tryd.f31
set_option maxRecDepth 100000 in
theorem evening_LeastMost_sem (x0 : Int) (x1 : (List Int)) (x2 : Int) (r : Int) (h : evening_LeastMost x0 x1 x2 = some r) : Sem e_evening_LeastMost ⟨none, false⟩ cb_evening_LeastMost ⟨Fr 36 (pairs0 0 (cs_evening_LeastMost.enc (x0, x1, x2, ()))), []⟩ fun e s' => (e = .normal ∨ e = .ret) ∧ ∃ xs, resA e_evening_LeastMost.P s'.fr s'.hp Tryd.f31.results.toList = some xs ∧ retA xs = er_evening_LeastMost r := by
  unfold evening_LeastMost at h
  refine Sem.wkQ (Sem.wk (s1 := ⟨Fr 36 [(0, .v (.int .i64 x0)), (1, .sl 1 (x1.map cdI.enc)), (2, .v (.int .i64 x2))], []⟩) (Wk.fr (by kernel_rfl)) ?_)
  refine Sem.seq ?_
  refine Sem.runS (s1 := ⟨Fr 36 [(0, .v (.int .i64 x0)), (1, .sl 1 (x1.map cdI.enc)), (2, .v (.int .i64 x2))], []⟩) ?_ ?_
  · refine RunS.seg e_evening_LeastMost_ok 1 (s1 := ⟨Fr 36 [(0, .v (.int .i64 x0)), (1, .sl 1 (x1.map cdI.enc)), (2, .v (.int .i64 x2)), (6, .v (.int .i64 0))], []⟩) (by kernel_rfl) ?_
    exact RunS.done rfl (Wk.fr (by kernel_rfl))
  refine Sem.seq ?_
  refine Sem.seq ?_
  obtain ⟨v1, hv1, h⟩ := Option.bind_eq_some_iff.1 h
  obtain ⟨j4, hj4, h⟩ := Option.bind_eq_some_iff.1 h
  refine Sem.runS (s1 := ⟨Fr 36 [(0, .v (.int .i64 x0)), (1, .sl 1 (x1.map cdI.enc)), (2, .v (.int .i64 x2)), (20, .v (.bool j4))], []⟩) ?_ ?_
  · refine RunS.seg e_evening_LeastMost_ok 2 (s1 := ⟨Fr 36 [(0, .v (.int .i64 x0)), (1, .sl 1 (x1.map cdI.enc)), (2, .v (.int .i64 x2)), (8, .v (.int .i64 x0)), (9, .sl 1 (x1.map cdI.enc))], []⟩) (by kernel_rfl) ?_
    refine RunS.call e_evening_LeastMost_ok (fid := 68) (s := cs_evening_fit) (F := fun a => evening_fit a.1 a.2.1) (er := er_evening_fit) (xs := [.v (.int .i64 x0), .sl 1 (x1.map cdI.enc)]) (a := (x0, x1, ())) rfl (wantedA_none rfl) (by kernel_rfl) (by kernel_rfl) (by kernel_rfl) (by kernel_rfl) (Sns.cons (Sn.enc (c := cdI) (v := x0)) (Sns.cons (Sn.enc (c := (cdL 1 cdI)) (v := x1)) Sns.nil)) (.inl (by kernel_rfl)) hv1 ?_
    refine RunS.seg e_evening_LeastMost_ok 2 (s1 := ⟨Fr 36 [(0, .v (.int .i64 x0)), (1, .sl 1 (x1.map cdI.enc)), (2, .v (.int .i64 x2)), (8, .v (.int .i64 x0)), (9, .sl 1 (x1.map cdI.enc)), (10, .v (.bool v1)), (11, .v (.bool (!v1))), (12, .v (.bool (!v1)))], []⟩) (by kernel_rfl) ?_
    rcases Bool.eq_false_or_eq_true (!v1) with hc8 | hc8
    · rw [if_pos hc8] at hj4
      rw [hc8]
      refine RunS.seg e_evening_LeastMost_ok 8 (s1 := ⟨Fr 36 [(0, .v (.int .i64 x0)), (1, .sl 1 (x1.map cdI.enc)), (2, .v (.int .i64 x2)), (8, .v (.int .i64 x0)), (9, .sl 1 (x1.map cdI.enc)), (10, .v (.bool v1)), (11, .v (.bool true)), (12, .v (.bool true)), (13, .tp []), (14, .tp []), (15, .v (.bool true)), (16, .v (.bool true)), (17, .tp []), (18, .tp []), (19, .tp []), (20, .v (.bool true))], []⟩) (by kernel_rfl) ?_
      have hq := Option.some.inj hj4; subst hq
      exact RunS.done rfl (Wk.fr (by kernel_rfl))
    · rw [if_f hc8] at hj4
      rw [hc8]
      refine RunS.seg e_evening_LeastMost_ok 4 (s1 := ⟨Fr 36 [(0, .v (.int .i64 x0)), (1, .sl 1 (x1.map cdI.enc)), (2, .v (.int .i64 x2)), (8, .v (.int .i64 x0)), (9, .sl 1 (x1.map cdI.enc)), (10, .v (.bool v1)), (11, .v (.bool false)), (12, .v (.bool false)), (13, .v (.int .i64 x2)), (14, .v (.bool (decide (x2 < 1)))), (15, .v (.bool (decide (x2 < 1)))), (16, .v (.bool (decide (x2 < 1))))], []⟩) (by kernel_rfl) ?_
      rcases Bool.eq_false_or_eq_true (decide (x2 < 1)) with hc9 | hc9
      · rw [if_pos hc9] at hj4
        rw [hc9]
        refine RunS.seg e_evening_LeastMost_ok 4 (s1 := ⟨Fr 36 [(0, .v (.int .i64 x0)), (1, .sl 1 (x1.map cdI.enc)), (2, .v (.int .i64 x2)), (8, .v (.int .i64 x0)), (9, .sl 1 (x1.map cdI.enc)), (10, .v (.bool v1)), (11, .v (.bool false)), (12, .v (.bool false)), (13, .v (.int .i64 x2)), (14, .v (.bool true)), (15, .v (.bool true)), (16, .v (.bool true)), (17, .tp []), (18, .tp []), (19, .tp []), (20, .v (.bool true))], []⟩) (by kernel_rfl) ?_
        have hq := Option.some.inj hj4; subst hq
        exact RunS.done rfl (Wk.fr (by kernel_rfl))
      · rw [if_f hc9] at hj4
        rw [hc9]
        refine RunS.seg e_evening_LeastMost_ok 1 (s1 := ⟨Fr 36 [(0, .v (.int .i64 x0)), (1, .sl 1 (x1.map cdI.enc)), (2, .v (.int .i64 x2)), (8, .v (.int .i64 x0)), (9, .sl 1 (x1.map cdI.enc)), (10, .v (.bool v1)), (11, .v (.bool false)), (12, .v (.bool false)), (13, .v (.int .i64 x2)), (14, .v (.bool false)), (15, .v (.bool false)), (16, .v (.bool false)), (17, .sl 1 (x1.map cdI.enc))], []⟩) (by kernel_rfl) ?_
        obtain ⟨v2, hv2, hj4⟩ := Option.bind_eq_some_iff.1 hj4
        refine RunS.call e_evening_LeastMost_ok (fid := 72) (s := cs_evening_met) (F := fun a => evening_met a.1) (er := er_evening_met) (xs := [.sl 1 (x1.map cdI.enc)]) (a := (x1, ())) rfl (by kernel_rfl) (by kernel_rfl) (by kernel_rfl) (by kernel_rfl) (by kernel_rfl) (Sns.cons (Sn.enc (c := (cdL 1 cdI)) (v := x1)) Sns.nil) (.inl (by kernel_rfl)) hv2 ?_
        refine RunS.seg e_evening_LeastMost_ok 2 (s1 := ⟨Fr 36 [(0, .v (.int .i64 x0)), (1, .sl 1 (x1.map cdI.enc)), (2, .v (.int .i64 x2)), (8, .v (.int .i64 x0)), (9, .sl 1 (x1.map cdI.enc)), (10, .v (.bool v1)), (11, .v (.bool false)), (12, .v (.bool false)), (13, .v (.int .i64 x2)), (14, .v (.bool false)), (15, .v (.bool false)), (16, .v (.bool false)), (17, .sl 1 (x1.map cdI.enc)), (18, .v (.int .i64 v2)), (19, .v (.bool (v2 == 0))), (20, .v (.bool (v2 == 0)))], []⟩) (by kernel_rfl) ?_
        have hq := Option.some.inj hj4; subst hq
        exact RunS.done rfl (Wk.fr (by kernel_rfl))
  refine Sem.cond (b := j4) (by kernel_rfl) (fun hb5 => ?_) (fun hb5 => ?_)
  · rw [if_pos hb5] at h
    refine Sem.seq ?_
    refine Sem.runS (s1 := ⟨Fr 36 [(6, .v (.int .i64 0))], []⟩) ?_ ?_
    · refine RunS.seg e_evening_LeastMost_ok 1 (s1 := ⟨Fr 36 [(0, .v (.int .i64 x0)), (1, .sl 1 (x1.map cdI.enc)), (2, .v (.int .i64 x2)), (6, .v (.int .i64 0)), (20, .v (.bool j4))], []⟩) (by kernel_rfl) ?_
      exact RunS.done rfl (Wk.fr (by kernel_rfl))
    refine Sem.ret ?_
    have hq := Option.some.inj h; subst hq
    exact ⟨⟨Fr 36 [(6, .v (.int .i64 0))], []⟩, (Wk.fr (by kernel_rfl)), .inr rfl, [.v (.int .i64 0)], (by kernel_rfl), (by kernel_rfl)⟩
  · rw [if_f hb5] at h
    refine Sem.skip ?_
    refine Sem.seq ?_
    refine Sem.runS (s1 := ⟨Fr 36 [(1, .sl 1 (x1.map cdI.enc)), (2, .v (.int .i64 x2)), (7, .v (.int .i64 (wr .i64 ((wr .i64 (x0 * (wr .i64 (x0 - 1)))).tdiv 2))))], []⟩) ?_ ?_
    · refine RunS.seg e_evening_LeastMost_ok 6 (s1 := ⟨Fr 36 [(0, .v (.int .i64 x0)), (1, .sl 1 (x1.map cdI.enc)), (2, .v (.int .i64 x2)), (7, .v (.int .i64 (wr .i64 ((wr .i64 (x0 * (wr .i64 (x0 - 1)))).tdiv 2)))), (20, .v (.bool j4)), (21, .v (.int .i64 x0)), (22, .v (.int .i64 x0)), (23, .v (.int .i64 (wr .i64 (x0 - 1)))), (24, .v (.int .i64 (wr .i64 (x0 * (wr .i64 (x0 - 1)))))), (25, .v (.int .i64 (wr .i64 ((wr .i64 (x0 * (wr .i64 (x0 - 1)))).tdiv 2))))], []⟩) (by kernel_rfl) ?_
      exact RunS.done rfl (Wk.fr (by kernel_rfl))
    refine Sem.seq ?_
    obtain ⟨v6, hv6, h⟩ := Option.bind_eq_some_iff.1 h
    by_cases hz7 : (wr .i64 ((wr .i64 (x0 * (wr .i64 (x0 - 1)))).tdiv 2)) = (0 : Int)
    · rw [if_pos hz7] at h; cases h
    rw [if_neg hz7] at h
    refine Sem.runS (s1 := ⟨Fr 36 [(6, .v (.int .i64 (wr .i64 ((wr .i64 ((wr .i64 ((wr .i64 ((mnI x2 64) * v6)) + (wr .i64 ((wr .i64 (x0 * (wr .i64 (x0 - 1)))).tdiv 2)))) - 1)).tdiv (wr .i64 ((wr .i64 (x0 * (wr .i64 (x0 - 1)))).tdiv 2))))))], []⟩) ?_ ?_
    · refine RunS.seg e_evening_LeastMost_ok 3 (s1 := ⟨Fr 36 [(1, .sl 1 (x1.map cdI.enc)), (2, .v (.int .i64 x2)), (7, .v (.int .i64 (wr .i64 ((wr .i64 (x0 * (wr .i64 (x0 - 1)))).tdiv 2)))), (26, .v (.int .i64 x2)), (27, .v (.int .i64 (mnI x2 64))), (28, .sl 1 (x1.map cdI.enc))], []⟩) (by kernel_rfl) ?_
      refine RunS.call e_evening_LeastMost_ok (fid := 72) (s := cs_evening_met) (F := fun a => evening_met a.1) (er := er_evening_met) (xs := [.sl 1 (x1.map cdI.enc)]) (a := (x1, ())) rfl (wantedA_none rfl) (by kernel_rfl) (by kernel_rfl) (by kernel_rfl) (by kernel_rfl) (Sns.cons (Sn.enc (c := (cdL 1 cdI)) (v := x1)) Sns.nil) (.inl (by kernel_rfl)) hv6 ?_
      refine RunS.seg e_evening_LeastMost_ok 5 (s1 := ⟨Fr 36 [(1, .sl 1 (x1.map cdI.enc)), (2, .v (.int .i64 x2)), (7, .v (.int .i64 (wr .i64 ((wr .i64 (x0 * (wr .i64 (x0 - 1)))).tdiv 2)))), (26, .v (.int .i64 x2)), (27, .v (.int .i64 (mnI x2 64))), (28, .sl 1 (x1.map cdI.enc)), (29, .v (.int .i64 v6)), (30, .v (.int .i64 (wr .i64 ((mnI x2 64) * v6)))), (31, .v (.int .i64 (wr .i64 ((wr .i64 (x0 * (wr .i64 (x0 - 1)))).tdiv 2)))), (32, .v (.int .i64 (wr .i64 ((wr .i64 ((mnI x2 64) * v6)) + (wr .i64 ((wr .i64 (x0 * (wr .i64 (x0 - 1)))).tdiv 2)))))), (33, .v (.int .i64 (wr .i64 ((wr .i64 ((wr .i64 ((mnI x2 64) * v6)) + (wr .i64 ((wr .i64 (x0 * (wr .i64 (x0 - 1)))).tdiv 2)))) - 1)))), (34, .v (.int .i64 (wr .i64 ((wr .i64 (x0 * (wr .i64 (x0 - 1)))).tdiv 2))))], []⟩) (by kernel_rfl) ?_
      refine RunS.one e_evening_LeastMost_ok 0 rfl (op_q (wantedA_none rfl) rfl (q_bin (a := .v (.int .i64 (wr .i64 ((wr .i64 ((wr .i64 ((mnI x2 64) * v6)) + (wr .i64 ((wr .i64 (x0 * (wr .i64 (x0 - 1)))).tdiv 2)))) - 1)))) (b := .v (.int .i64 (wr .i64 ((wr .i64 (x0 * (wr .i64 (x0 - 1)))).tdiv 2)))) (by kernel_rfl) (by kernel_rfl) (bin_quo hz7))) ?_
      refine RunS.seg e_evening_LeastMost_ok 1 (s1 := ⟨Fr 36 [(1, .sl 1 (x1.map cdI.enc)), (2, .v (.int .i64 x2)), (6, .v (.int .i64 (wr .i64 ((wr .i64 ((wr .i64 ((wr .i64 ((mnI x2 64) * v6)) + (wr .i64 ((wr .i64 (x0 * (wr .i64 (x0 - 1)))).tdiv 2)))) - 1)).tdiv (wr .i64 ((wr .i64 (x0 * (wr .i64 (x0 - 1)))).tdiv 2)))))), (7, .v (.int .i64 (wr .i64 ((wr .i64 (x0 * (wr .i64 (x0 - 1)))).tdiv 2)))), (26, .v (.int .i64 x2)), (27, .v (.int .i64 (mnI x2 64))), (28, .sl 1 (x1.map cdI.enc)), (29, .v (.int .i64 v6)), (30, .v (.int .i64 (wr .i64 ((mnI x2 64) * v6)))), (31, .v (.int .i64 (wr .i64 ((wr .i64 (x0 * (wr .i64 (x0 - 1)))).tdiv 2)))), (32, .v (.int .i64 (wr .i64 ((wr .i64 ((mnI x2 64) * v6)) + (wr .i64 ((wr .i64 (x0 * (wr .i64 (x0 - 1)))).tdiv 2)))))), (33, .v (.int .i64 (wr .i64 ((wr .i64 ((wr .i64 ((mnI x2 64) * v6)) + (wr .i64 ((wr .i64 (x0 * (wr .i64 (x0 - 1)))).tdiv 2)))) - 1)))), (34, .v (.int .i64 (wr .i64 ((wr .i64 (x0 * (wr .i64 (x0 - 1)))).tdiv 2)))), (35, .v (.int .i64 (wr .i64 ((wr .i64 ((wr .i64 ((wr .i64 ((mnI x2 64) * v6)) + (wr .i64 ((wr .i64 (x0 * (wr .i64 (x0 - 1)))).tdiv 2)))) - 1)).tdiv (wr .i64 ((wr .i64 (x0 * (wr .i64 (x0 - 1)))).tdiv 2))))))], []⟩) (by kernel_rfl) ?_
      exact RunS.done rfl (Wk.fr (by kernel_rfl))
    refine Sem.ret ?_
    have hq := Option.some.inj h; subst hq
    exact ⟨⟨Fr 36 [(6, .v (.int .i64 (wr .i64 ((wr .i64 ((wr .i64 ((wr .i64 ((mnI x2 64) * v6)) + (wr .i64 ((wr .i64 (x0 * (wr .i64 (x0 - 1)))).tdiv 2)))) - 1)).tdiv (wr .i64 ((wr .i64 (x0 * (wr .i64 (x0 - 1)))).tdiv 2))))))], []⟩, (Wk.fr (by kernel_rfl)), .inr rfl, [.v (.int .i64 (wr .i64 ((wr .i64 ((wr .i64 ((wr .i64 ((mnI x2 64) * v6)) + (wr .i64 ((wr .i64 (x0 * (wr .i64 (x0 - 1)))).tdiv 2)))) - 1)).tdiv (wr .i64 ((wr .i64 (x0 * (wr .i64 (x0 - 1)))).tdiv 2)))))], (by kernel_rfl), (by kernel_rfl)⟩
def t_evening_LeastMost : List AV → Option AV := told cs_evening_LeastMost (fun a => evening_LeastMost a.1 a.2.1 a.2.2.1) er_evening_LeastMost
theorem x_evening_LeastMost : XOk 31 t_evening_LeastMost := by
  refine EnvOk.x (E := e_evening_LeastMost) (contract_ok e_evening_LeastMost_ok (fn := Tryd.f31) (c := cb_evening_LeastMost) ?h1 ?h2 ⟨Tryd.call31⟩ cs_evening_LeastMost (fun a => evening_LeastMost a.1 a.2.1 a.2.2.1) er_evening_LeastMost (fun a => (by show 3 ≤ 36; decide)) ?h3 ?h4) rfl rfl
  case h1 => kernel_rfl
  case h2 => kernel_rfl
  case h3 => intro b; kernel_rfl
  case h4 => exact fun a b h => evening_LeastMost_sem a.1 a.2.1 a.2.2.1 b h
end Go.Proofs.YthofgamegondnaaDoor

namespace Go.Proofs.YthofgamegondnaaDoor
open Go.RowKit
/- trestle/trestleref09.met -/
noncomputable def e_ref09_met : Env := E0
theorem e_ref09_met_ok : EnvOk e_ref09_met := E0_ok
def ref09_met_2 (x0 : (List Int)) (c2 : Int) : Nat → Int → Int → Option ((Int))
  | 0, _, _ => none
  | f + 1, c4, c5 =>
    (idx x0 c2).bind fun v6 =>
    if (decide (c5 < v6)) = true then
    ref09_met_2 x0 c2 f (wr .i64 (c4 + c5)) (wr .i64 (c5 + 1))
    else
    some c4
def ref09_met_1 (x0 : (List Int)) : Nat → Int → Int → Option ((Int))
  | 0, _, _ => none
  | f + 1, c1, c2 =>
    if (decide (c2 < (x0.length : Int))) = true then
    (ref09_met_2 x0 c2 100000 c1 1).bind fun r9 =>
    ref09_met_1 x0 f r9 (wr .i64 (c2 + 1))
    else
    some c1
def ref09_met (x0 : (List Int)) : Option (Int) :=
  (ref09_met_1 x0 100000 0 0).bind fun r11 =>
  some r11
def cs_ref09_met : Cs ((List Int) × Unit) := (csC (cdL 1 cdI) csN)
def er_ref09_met (r : Int) : AV := cdI.enc r
noncomputable def cb_ref09_met : Code := codeOf Tryd.f73
set_option maxRecDepth 100000 in
theorem ref09_met_2_ok (x0 : (List Int)) (c2 : Int) : ∀ (f : Nat) (c4 : Int) (c5 : Int) (r : (Int)), ref09_met_2 x0 c2 f c4 c5 = some r → SemN e_ref09_met ⟨none, false⟩ (pc cb_ref09_met [1, 1, 0, 1, 0, 0, 1, 0, 0, 1, 0, 0]) f ⟨Fr 24 [(0, .sl 1 (x0.map cdI.enc)), (3, .v (.int .i64 c4)), (4, .v (.int .i64 c2)), (5, .v (.int .i64 c5))], []⟩ (fun e s => e = (.exit 2) ∧ Wk e_ref09_met s ⟨Fr 24 [(0, .sl 1 (x0.map cdI.enc)), (3, .v (.int .i64 r)), (4, .v (.int .i64 c2))], []⟩) := by
  intro f
  induction f with
  | zero => intro c4 c5 r h; cases h
  | succ f ih0 =>
    intro c4 c5 r h
    have ih := fun (c4 : Int) (c5 : Int) => ih0 c4 c5 r
    unfold ref09_met_2 at h
    refine SemN.succ ?_
    refine Sem.seq ?_
    refine Sem.seq ?_
    obtain ⟨v6, hv6, h⟩ := Option.bind_eq_some_iff.1 h
    refine Sem.runS (s1 := ⟨Fr 24 [(0, .sl 1 (x0.map cdI.enc)), (3, .v (.int .i64 c4)), (4, .v (.int .i64 c2)), (5, .v (.int .i64 c5)), (17, .v (.bool (decide (c5 < v6))))], []⟩) ?_ ?_
    · refine RunS.seg e_ref09_met_ok 3 (s1 := ⟨Fr 24 [(0, .sl 1 (x0.map cdI.enc)), (3, .v (.int .i64 c4)), (4, .v (.int .i64 c2)), (5, .v (.int .i64 c5)), (12, .v (.int .i64 c5)), (13, .sl 1 (x0.map cdI.enc)), (14, .v (.int .i64 c2))], []⟩) (by kernel_rfl) ?_
      refine RunS.one e_ref09_met_ok 0 rfl (op_q (wantedA_none rfl) rfl (q_indexAddr (a := .sl 1 (x0.map cdI.enc)) (b := .v (.int .i64 c2)) (by kernel_rfl) (by kernel_rfl) (ix_sl (e := cdI.enc) (el := 3) (k := 1) (ki := .i64) (by kernel_rfl) (by kernel_rfl) hv6))) ?_
      refine RunS.seg e_ref09_met_ok 2 (s1 := ⟨Fr 24 [(0, .sl 1 (x0.map cdI.enc)), (3, .v (.int .i64 c4)), (4, .v (.int .i64 c2)), (5, .v (.int .i64 c5)), (12, .v (.int .i64 c5)), (13, .sl 1 (x0.map cdI.enc)), (14, .v (.int .i64 c2)), (15, .pe (.v (.int .i64 v6)) 0), (16, .v (.int .i64 v6)), (17, .v (.bool (decide (c5 < v6))))], []⟩) (by kernel_rfl) ?_
      exact RunS.done rfl (Wk.fr (by kernel_rfl))
    refine Sem.cond (b := (decide (c5 < v6))) (by kernel_rfl) (fun hb7 => ?_) (fun hb7 => ?_)
    · rw [if_pos hb7] at h
      refine Sem.skip ?_
      refine Sem.seq ?_
      refine Sem.block ?_
      refine Sem.runS (s1 := ⟨Fr 24 [(0, .sl 1 (x0.map cdI.enc)), (3, .v (.int .i64 (wr .i64 (c4 + c5)))), (4, .v (.int .i64 c2)), (5, .v (.int .i64 c5))], []⟩) ?_ ?_
      · refine RunS.seg e_ref09_met_ok 4 (s1 := ⟨Fr 24 [(0, .sl 1 (x0.map cdI.enc)), (3, .v (.int .i64 (wr .i64 (c4 + c5)))), (4, .v (.int .i64 c2)), (5, .v (.int .i64 c5)), (17, .v (.bool (decide (c5 < v6)))), (20, .v (.int .i64 c4)), (21, .v (.int .i64 c5)), (22, .v (.int .i64 (wr .i64 (c4 + c5))))], []⟩) (by kernel_rfl) ?_
        exact RunS.done rfl (Wk.fr (by kernel_rfl))
      refine Sem.runS (s1 := ⟨Fr 24 [(0, .sl 1 (x0.map cdI.enc)), (3, .v (.int .i64 (wr .i64 (c4 + c5)))), (4, .v (.int .i64 c2)), (5, .v (.int .i64 (wr .i64 (c5 + 1))))], []⟩) ?_ ?_
      · refine RunS.seg e_ref09_met_ok 3 (s1 := ⟨Fr 24 [(0, .sl 1 (x0.map cdI.enc)), (3, .v (.int .i64 (wr .i64 (c4 + c5)))), (4, .v (.int .i64 c2)), (5, .v (.int .i64 (wr .i64 (c5 + 1)))), (18, .v (.int .i64 c5)), (19, .v (.int .i64 (wr .i64 (c5 + 1))))], []⟩) (by kernel_rfl) ?_
        exact RunS.done rfl (Wk.fr (by kernel_rfl))
      exact SemN.wk (s1 := ⟨Fr 24 [(0, .sl 1 (x0.map cdI.enc)), (3, .v (.int .i64 (wr .i64 (c4 + c5)))), (4, .v (.int .i64 c2)), (5, .v (.int .i64 (wr .i64 (c5 + 1))))], []⟩) (Wk.fr (by kernel_rfl)) (ih (wr .i64 (c4 + c5)) (wr .i64 (c5 + 1)) h)
    · rw [if_f hb7] at h
      refine Sem.exit ?_
      have hq := Option.some.inj h; subst hq
      exact ⟨rfl, (Wk.fr (by kernel_rfl))⟩
set_option maxRecDepth 100000 in
theorem ref09_met_1_ok (x0 : (List Int)) : ∀ (f : Nat) (c1 : Int) (c2 : Int) (r : (Int)), ref09_met_1 x0 f c1 c2 = some r → SemN e_ref09_met ⟨none, false⟩ (pc cb_ref09_met [1, 1, 0, 1, 0, 0]) f ⟨Fr 24 [(0, .sl 1 (x0.map cdI.enc)), (3, .v (.int .i64 c1)), (4, .v (.int .i64 c2))], []⟩ (fun e s => e = (.exit 0) ∧ Wk e_ref09_met s ⟨Fr 24 [(3, .v (.int .i64 r))], []⟩) := by
  intro f
  induction f with
  | zero => intro c1 c2 r h; cases h
  | succ f ih0 =>
    intro c1 c2 r h
    have ih := fun (c1 : Int) (c2 : Int) => ih0 c1 c2 r
    unfold ref09_met_1 at h
    refine SemN.succ ?_
    refine Sem.seq ?_
    refine Sem.seq ?_
    refine Sem.runS (s1 := ⟨Fr 24 [(0, .sl 1 (x0.map cdI.enc)), (3, .v (.int .i64 c1)), (4, .v (.int .i64 c2)), (9, .v (.bool (decide (c2 < (x0.length : Int)))))], []⟩) ?_ ?_
    · refine RunS.seg e_ref09_met_ok 2 (s1 := ⟨Fr 24 [(0, .sl 1 (x0.map cdI.enc)), (3, .v (.int .i64 c1)), (4, .v (.int .i64 c2)), (6, .v (.int .i64 c2)), (7, .sl 1 (x0.map cdI.enc))], []⟩) (by kernel_rfl) ?_
      refine RunS.one e_ref09_met_ok 0 rfl (op_q (wantedA_none rfl) rfl (q_len (a := .sl 1 (x0.map cdI.enc)) (by kernel_rfl) (len_sl (el := 3) (by kernel_rfl)))) ?_
      refine RunS.seg e_ref09_met_ok 1 (s1 := ⟨Fr 24 [(0, .sl 1 (x0.map cdI.enc)), (3, .v (.int .i64 c1)), (4, .v (.int .i64 c2)), (6, .v (.int .i64 c2)), (7, .sl 1 (x0.map cdI.enc)), (8, .v (.int .i64 (x0.length : Int))), (9, .v (.bool (decide (c2 < (x0.length : Int)))))], []⟩) (by kernel_rfl) ?_
      exact RunS.done rfl (Wk.fr (by kernel_rfl))
    refine Sem.cond (b := (decide (c2 < (x0.length : Int)))) (by kernel_rfl) (fun hb3 => ?_) (fun hb3 => ?_)
    · rw [if_pos hb3] at h
      refine Sem.skip ?_
      refine Sem.seq ?_
      refine Sem.block ?_
      refine Sem.seq ?_
      refine Sem.runS (s1 := ⟨Fr 24 [(0, .sl 1 (x0.map cdI.enc)), (3, .v (.int .i64 c1)), (4, .v (.int .i64 c2)), (5, .v (.int .i64 1))], []⟩) ?_ ?_
      · refine RunS.seg e_ref09_met_ok 1 (s1 := ⟨Fr 24 [(0, .sl 1 (x0.map cdI.enc)), (3, .v (.int .i64 c1)), (4, .v (.int .i64 c2)), (5, .v (.int .i64 1)), (9, .v (.bool (decide (c2 < (x0.length : Int)))))], []⟩) (by kernel_rfl) ?_
        exact RunS.done rfl (Wk.fr (by kernel_rfl))
      refine Sem.block ?_
      obtain ⟨r9, hr9, h⟩ := Option.bind_eq_some_iff.1 h
      refine Sem.loop (n := 100000) ?_
      refine Sem.cutN (SemN.wk (s1 := ⟨Fr 24 [(0, .sl 1 (x0.map cdI.enc)), (3, .v (.int .i64 c1)), (4, .v (.int .i64 c2)), (5, .v (.int .i64 1))], []⟩) (Wk.fr (by kernel_rfl)) (ref09_met_2_ok x0 c2 _ c1 1 _ hr9)) ?_
      refine Sem.runS (s1 := ⟨Fr 24 [(0, .sl 1 (x0.map cdI.enc)), (3, .v (.int .i64 r9)), (4, .v (.int .i64 (wr .i64 (c2 + 1))))], []⟩) ?_ ?_
      · refine RunS.seg e_ref09_met_ok 3 (s1 := ⟨Fr 24 [(0, .sl 1 (x0.map cdI.enc)), (3, .v (.int .i64 r9)), (4, .v (.int .i64 (wr .i64 (c2 + 1)))), (10, .v (.int .i64 c2)), (11, .v (.int .i64 (wr .i64 (c2 + 1))))], []⟩) (by kernel_rfl) ?_
        exact RunS.done rfl (Wk.fr (by kernel_rfl))
      exact SemN.wk (s1 := ⟨Fr 24 [(0, .sl 1 (x0.map cdI.enc)), (3, .v (.int .i64 r9)), (4, .v (.int .i64 (wr .i64 (c2 + 1))))], []⟩) (Wk.fr (by kernel_rfl)) (ih r9 (wr .i64 (c2 + 1)) h)
    · rw [if_f hb3] at h
      refine Sem.exit ?_
      have hq := Option.some.inj h; subst hq
      exact ⟨rfl, (Wk.fr (by kernel_rfl))⟩
set_option maxRecDepth 100000 in
theorem ref09_met_sem (x0 : (List Int)) (r : Int) (h : ref09_met x0 = some r) : Sem e_ref09_met ⟨none, false⟩ cb_ref09_met ⟨Fr 24 (pairs0 0 (cs_ref09_met.enc (x0, ()))), []⟩ fun e s' => (e = .normal ∨ e = .ret) ∧ ∃ xs, resA e_ref09_met.P s'.fr s'.hp Tryd.f73.results.toList = some xs ∧ retA xs = er_ref09_met r := by
  unfold ref09_met at h
  refine Sem.wkQ (Sem.wk (s1 := ⟨Fr 24 [(0, .sl 1 (x0.map cdI.enc))], []⟩) (Wk.fr (by kernel_rfl)) ?_)
  refine Sem.seq ?_
  refine Sem.runS (s1 := ⟨Fr 24 [(0, .sl 1 (x0.map cdI.enc))], []⟩) ?_ ?_
  · refine RunS.seg e_ref09_met_ok 1 (s1 := ⟨Fr 24 [(0, .sl 1 (x0.map cdI.enc)), (2, .v (.int .i64 0))], []⟩) (by kernel_rfl) ?_
    exact RunS.done rfl (Wk.fr (by kernel_rfl))
  refine Sem.seq ?_
  refine Sem.runS (s1 := ⟨Fr 24 [(0, .sl 1 (x0.map cdI.enc)), (3, .v (.int .i64 0))], []⟩) ?_ ?_
  · refine RunS.seg e_ref09_met_ok 1 (s1 := ⟨Fr 24 [(0, .sl 1 (x0.map cdI.enc)), (3, .v (.int .i64 0))], []⟩) (by kernel_rfl) ?_
    exact RunS.done rfl (Wk.fr (by kernel_rfl))
  refine Sem.seq ?_
  refine Sem.seq ?_
  refine Sem.runS (s1 := ⟨Fr 24 [(0, .sl 1 (x0.map cdI.enc)), (3, .v (.int .i64 0)), (4, .v (.int .i64 0))], []⟩) ?_ ?_
  · refine RunS.seg e_ref09_met_ok 1 (s1 := ⟨Fr 24 [(0, .sl 1 (x0.map cdI.enc)), (3, .v (.int .i64 0)), (4, .v (.int .i64 0))], []⟩) (by kernel_rfl) ?_
    exact RunS.done rfl (Wk.fr (by kernel_rfl))
  refine Sem.block ?_
  obtain ⟨r11, hr11, h⟩ := Option.bind_eq_some_iff.1 h
  refine Sem.loop (n := 100000) ?_
  refine Sem.cutN (SemN.wk (s1 := ⟨Fr 24 [(0, .sl 1 (x0.map cdI.enc)), (3, .v (.int .i64 0)), (4, .v (.int .i64 0))], []⟩) (Wk.fr (by kernel_rfl)) (ref09_met_1_ok x0 _ 0 0 _ hr11)) ?_
  refine Sem.seq ?_
  refine Sem.runS (s1 := ⟨Fr 24 [(2, .v (.int .i64 r11))], []⟩) ?_ ?_
  · refine RunS.seg e_ref09_met_ok 2 (s1 := ⟨Fr 24 [(2, .v (.int .i64 r11)), (3, .v (.int .i64 r11)), (23, .v (.int .i64 r11))], []⟩) (by kernel_rfl) ?_
    exact RunS.done rfl (Wk.fr (by kernel_rfl))
  refine Sem.ret ?_
  have hq := Option.some.inj h; subst hq
  exact ⟨⟨Fr 24 [(2, .v (.int .i64 r11))], []⟩, (Wk.fr (by kernel_rfl)), .inr rfl, [.v (.int .i64 r11)], (by kernel_rfl), (by kernel_rfl)⟩
def t_ref09_met : List AV → Option AV := told cs_ref09_met (fun a => ref09_met a.1) er_ref09_met
theorem x_ref09_met : XOk 73 t_ref09_met := by
  refine EnvOk.x (E := e_ref09_met) (contract_ok e_ref09_met_ok (fn := Tryd.f73) (c := cb_ref09_met) ?h1 ?h2 ⟨Tryd.call73⟩ cs_ref09_met (fun a => ref09_met a.1) er_ref09_met (fun a => (by show 1 ≤ 24; decide)) ?h3 ?h4) rfl rfl
  case h1 => kernel_rfl
  case h2 => kernel_rfl
  case h3 => intro b; kernel_rfl
  case h4 => exact fun a b h => ref09_met_sem a.1 b h
end Go.Proofs.YthofgamegondnaaDoor

namespace Go.Proofs.YthofgamegondnaaDoor
open Go.RowKit
/- trestle/trestleref09.LeastMost -/
noncomputable def e_ref09_LeastMost : Env := ((E0.withX 70 t_ref09_Fit).withX 73 t_ref09_met)
theorem e_ref09_LeastMost_ok : EnvOk e_ref09_LeastMost := (EnvOk.withX (EnvOk.withX E0_ok x_ref09_Fit.1 x_ref09_Fit.2) x_ref09_met.1 x_ref09_met.2)
def ref09_LeastMost_1 (x0 : Int) (x2 : Int) (v5 : Int) : Nat → Int → Option ((Int))
  | 0, _ => none
  | f + 1, c6 =>
    (ref09_met [x0]).bind fun v7 =>
    if (decide ((wr .i64 (c6 * v7)) < (wr .i64 ((mnI x2 64) * v5)))) = true then
    ref09_LeastMost_1 x0 x2 v5 f (wr .i64 (c6 + 1))
    else
    some c6
def ref09_LeastMost (x0 : Int) (x1 : (List Int)) (x2 : Int) : Option (Int) :=
  (ref09_Fit x0 x1).bind fun v1 =>
  (if (!v1) = true then some true else some (decide (x2 < 1))).bind fun j3 =>
  if j3 = true then
  some 0
  else
  (ref09_met x1).bind fun v5 =>
  (ref09_LeastMost_1 x0 x2 v5 100000 0).bind fun r10 =>
  some r10
def cs_ref09_LeastMost : Cs (Int × (List Int) × Int × Unit) := (csC cdI (csC (cdL 1 cdI) (csC cdI csN)))
def er_ref09_LeastMost (r : Int) : AV := cdI.enc r
noncomputable def cb_ref09_LeastMost : Code := codeOf Tryd.f32
set_option maxRecDepth 100000 in
theorem ref09_LeastMost_1_ok (x0 : Int) (x2 : Int) (v5 : Int) : ∀ (f : Nat) (c6 : Int) (r : (Int)), ref09_LeastMost_1 x0 x2 v5 f c6 = some r → SemN e_ref09_LeastMost ⟨none, false⟩ (pc cb_ref09_LeastMost [1, 1, 1, 1, 0, 0, 0]) f ⟨Fr 32 [(0, .v (.int .i64 x0)), (7, .v (.int .i64 (wr .i64 ((mnI x2 64) * v5)))), (8, .v (.int .i64 c6))], []⟩ (fun e s => e = (.exit 0) ∧ Wk e_ref09_LeastMost s ⟨Fr 32 [(8, .v (.int .i64 r))], []⟩) := by
  intro f
  induction f with
  | zero => intro c6 r h; cases h
  | succ f ih0 =>
    intro c6 r h
    have ih := fun (c6 : Int) => ih0 c6 r
    unfold ref09_LeastMost_1 at h
    refine SemN.succ ?_
    refine Sem.seq ?_
    refine Sem.seq ?_
    obtain ⟨v7, hv7, h⟩ := Option.bind_eq_some_iff.1 h
    refine Sem.runS (s1 := ⟨Fr 32 [(0, .v (.int .i64 x0)), (7, .v (.int .i64 (wr .i64 ((mnI x2 64) * v5)))), (8, .v (.int .i64 c6)), (28, .v (.bool (decide ((wr .i64 (c6 * v7)) < (wr .i64 ((mnI x2 64) * v5))))))], []⟩) ?_ ?_
    · refine RunS.seg e_ref09_LeastMost_ok 3 (s1 := ⟨Fr 32 [(0, .v (.int .i64 x0)), (7, .v (.int .i64 (wr .i64 ((mnI x2 64) * v5)))), (8, .v (.int .i64 c6)), (22, .v (.int .i64 c6)), (23, .v (.int .i64 x0)), (24, hd 0 ([x0].map cdI.enc))], [mk 1 3 ([x0].map cdI.enc)]⟩) (by kernel_rfl) ?_
      refine RunS.call e_ref09_LeastMost_ok (fid := 73) (s := cs_ref09_met) (F := fun a => ref09_met a.1) (er := er_ref09_met) (xs := [hd 0 ([x0].map cdI.enc)]) (a := ([x0], ())) rfl (wantedA_none rfl) (by kernel_rfl) (by kernel_rfl) (by kernel_rfl) (by kernel_rfl) (Sns.cons (Sn.hd (c := cdI) (xs := [x0]) (t := 3) (by kernel_rfl) n1_I) Sns.nil) (.inr (by kernel_rfl)) hv7 ?_
      refine RunS.seg e_ref09_LeastMost_ok 3 (s1 := ⟨Fr 32 [(0, .v (.int .i64 x0)), (7, .v (.int .i64 (wr .i64 ((mnI x2 64) * v5)))), (8, .v (.int .i64 c6)), (22, .v (.int .i64 c6)), (23, .v (.int .i64 x0)), (24, hd 0 ([x0].map cdI.enc)), (25, .v (.int .i64 v7)), (26, .v (.int .i64 (wr .i64 (c6 * v7)))), (27, .v (.int .i64 (wr .i64 ((mnI x2 64) * v5)))), (28, .v (.bool (decide ((wr .i64 (c6 * v7)) < (wr .i64 ((mnI x2 64) * v5))))))], [mk 1 3 ([x0].map cdI.enc)]⟩) (by kernel_rfl) ?_
      exact RunS.done rfl (Wk.sel2 [] (by kernel_rfl) (by kernel_rfl) (by kernel_rfl) trivial ⟨lu (by kernel_rfl) (by kernel_rfl), lu (by kernel_rfl) (by kernel_rfl), lu (by kernel_rfl) (by kernel_rfl), lu (by kernel_rfl) (by kernel_rfl), trivial⟩)
    refine Sem.cond (b := (decide ((wr .i64 (c6 * v7)) < (wr .i64 ((mnI x2 64) * v5))))) (by kernel_rfl) (fun hb8 => ?_) (fun hb8 => ?_)
    · rw [if_pos hb8] at h
      refine Sem.skip ?_
      refine Sem.block ?_
      refine Sem.runS (s1 := ⟨Fr 32 [(0, .v (.int .i64 x0)), (7, .v (.int .i64 (wr .i64 ((mnI x2 64) * v5)))), (8, .v (.int .i64 (wr .i64 (c6 + 1))))], []⟩) ?_ ?_
      · refine RunS.seg e_ref09_LeastMost_ok 3 (s1 := ⟨Fr 32 [(0, .v (.int .i64 x0)), (7, .v (.int .i64 (wr .i64 ((mnI x2 64) * v5)))), (8, .v (.int .i64 (wr .i64 (c6 + 1)))), (28, .v (.bool (decide ((wr .i64 (c6 * v7)) < (wr .i64 ((mnI x2 64) * v5)))))), (29, .v (.int .i64 c6)), (30, .v (.int .i64 (wr .i64 (c6 + 1))))], []⟩) (by kernel_rfl) ?_
        exact RunS.done rfl (Wk.fr (by kernel_rfl))
      exact SemN.wk (s1 := ⟨Fr 32 [(0, .v (.int .i64 x0)), (7, .v (.int .i64 (wr .i64 ((mnI x2 64) * v5)))), (8, .v (.int .i64 (wr .i64 (c6 + 1))))], []⟩) (Wk.fr (by kernel_rfl)) (ih (wr .i64 (c6 + 1)) h)
    · rw [if_f hb8] at h
      refine Sem.exit ?_
      have hq := Option.some.inj h; subst hq
      exact ⟨rfl, (Wk.fr (by kernel_rfl))⟩
set_option maxRecDepth 100000 in
theorem ref09_LeastMost_sem (x0 : Int) (x1 : (List Int)) (x2 : Int) (r : Int) (h : ref09_LeastMost x0 x1 x2 = some r) : Sem e_ref09_LeastMost ⟨none, false⟩ cb_ref09_LeastMost ⟨Fr 32 (pairs0 0 (cs_ref09_LeastMost.enc (x0, x1, x2, ()))), []⟩ fun e s' => (e = .normal ∨ e = .ret) ∧ ∃ xs, resA e_ref09_LeastMost.P s'.fr s'.hp Tryd.f32.results.toList = some xs ∧ retA xs = er_ref09_LeastMost r := by
  unfold ref09_LeastMost at h
  refine Sem.wkQ (Sem.wk (s1 := ⟨Fr 32 [(0, .v (.int .i64 x0)), (1, .sl 1 (x1.map cdI.enc)), (2, .v (.int .i64 x2))], []⟩) (Wk.fr (by kernel_rfl)) ?_)
  refine Sem.seq ?_
  refine Sem.runS (s1 := ⟨Fr 32 [(0, .v (.int .i64 x0)), (1, .sl 1 (x1.map cdI.enc)), (2, .v (.int .i64 x2))], []⟩) ?_ ?_
  · refine RunS.seg e_ref09_LeastMost_ok 1 (s1 := ⟨Fr 32 [(0, .v (.int .i64 x0)), (1, .sl 1 (x1.map cdI.enc)), (2, .v (.int .i64 x2)), (6, .v (.int .i64 0))], []⟩) (by kernel_rfl) ?_
    exact RunS.done rfl (Wk.fr (by kernel_rfl))
  refine Sem.seq ?_
  refine Sem.seq ?_
  obtain ⟨v1, hv1, h⟩ := Option.bind_eq_some_iff.1 h
  obtain ⟨j3, hj3, h⟩ := Option.bind_eq_some_iff.1 h
  refine Sem.runS (s1 := ⟨Fr 32 [(0, .v (.int .i64 x0)), (1, .sl 1 (x1.map cdI.enc)), (2, .v (.int .i64 x2)), (16, .v (.bool j3))], []⟩) ?_ ?_
  · refine RunS.seg e_ref09_LeastMost_ok 2 (s1 := ⟨Fr 32 [(0, .v (.int .i64 x0)), (1, .sl 1 (x1.map cdI.enc)), (2, .v (.int .i64 x2)), (9, .v (.int .i64 x0)), (10, .sl 1 (x1.map cdI.enc))], []⟩) (by kernel_rfl) ?_
    refine RunS.call e_ref09_LeastMost_ok (fid := 70) (s := cs_ref09_Fit) (F := fun a => ref09_Fit a.1 a.2.1) (er := er_ref09_Fit) (xs := [.v (.int .i64 x0), .sl 1 (x1.map cdI.enc)]) (a := (x0, x1, ())) rfl (wantedA_none rfl) (by kernel_rfl) (by kernel_rfl) (by kernel_rfl) (by kernel_rfl) (Sns.cons (Sn.enc (c := cdI) (v := x0)) (Sns.cons (Sn.enc (c := (cdL 1 cdI)) (v := x1)) Sns.nil)) (.inl (by kernel_rfl)) hv1 ?_
    refine RunS.seg e_ref09_LeastMost_ok 2 (s1 := ⟨Fr 32 [(0, .v (.int .i64 x0)), (1, .sl 1 (x1.map cdI.enc)), (2, .v (.int .i64 x2)), (9, .v (.int .i64 x0)), (10, .sl 1 (x1.map cdI.enc)), (11, .v (.bool v1)), (12, .v (.bool (!v1))), (13, .v (.bool (!v1)))], []⟩) (by kernel_rfl) ?_
    rcases Bool.eq_false_or_eq_true (!v1) with hc11 | hc11
    · rw [if_pos hc11] at hj3
      rw [hc11]
      refine RunS.seg e_ref09_LeastMost_ok 3 (s1 := ⟨Fr 32 [(0, .v (.int .i64 x0)), (1, .sl 1 (x1.map cdI.enc)), (2, .v (.int .i64 x2)), (9, .v (.int .i64 x0)), (10, .sl 1 (x1.map cdI.enc)), (11, .v (.bool v1)), (12, .v (.bool true)), (13, .v (.bool true)), (14, .tp []), (15, .tp []), (16, .v (.bool true))], []⟩) (by kernel_rfl) ?_
      have hq := Option.some.inj hj3; subst hq
      exact RunS.done rfl (Wk.fr (by kernel_rfl))
    · rw [if_f hc11] at hj3
      rw [hc11]
      refine RunS.seg e_ref09_LeastMost_ok 3 (s1 := ⟨Fr 32 [(0, .v (.int .i64 x0)), (1, .sl 1 (x1.map cdI.enc)), (2, .v (.int .i64 x2)), (9, .v (.int .i64 x0)), (10, .sl 1 (x1.map cdI.enc)), (11, .v (.bool v1)), (12, .v (.bool false)), (13, .v (.bool false)), (14, .v (.int .i64 x2)), (15, .v (.bool (decide (x2 < 1)))), (16, .v (.bool (decide (x2 < 1))))], []⟩) (by kernel_rfl) ?_
      have hq := Option.some.inj hj3; subst hq
      exact RunS.done rfl (Wk.fr (by kernel_rfl))
  refine Sem.cond (b := j3) (by kernel_rfl) (fun hb4 => ?_) (fun hb4 => ?_)
  · rw [if_pos hb4] at h
    refine Sem.seq ?_
    refine Sem.runS (s1 := ⟨Fr 32 [(6, .v (.int .i64 0))], []⟩) ?_ ?_
    · refine RunS.seg e_ref09_LeastMost_ok 1 (s1 := ⟨Fr 32 [(0, .v (.int .i64 x0)), (1, .sl 1 (x1.map cdI.enc)), (2, .v (.int .i64 x2)), (6, .v (.int .i64 0)), (16, .v (.bool j3))], []⟩) (by kernel_rfl) ?_
      exact RunS.done rfl (Wk.fr (by kernel_rfl))
    refine Sem.ret ?_
    have hq := Option.some.inj h; subst hq
    exact ⟨⟨Fr 32 [(6, .v (.int .i64 0))], []⟩, (Wk.fr (by kernel_rfl)), .inr rfl, [.v (.int .i64 0)], (by kernel_rfl), (by kernel_rfl)⟩
  · rw [if_f hb4] at h
    refine Sem.skip ?_
    refine Sem.seq ?_
    obtain ⟨v5, hv5, h⟩ := Option.bind_eq_some_iff.1 h
    refine Sem.runS (s1 := ⟨Fr 32 [(0, .v (.int .i64 x0)), (7, .v (.int .i64 (wr .i64 ((mnI x2 64) * v5))))], []⟩) ?_ ?_
    · refine RunS.seg e_ref09_LeastMost_ok 3 (s1 := ⟨Fr 32 [(0, .v (.int .i64 x0)), (1, .sl 1 (x1.map cdI.enc)), (2, .v (.int .i64 x2)), (16, .v (.bool j3)), (17, .v (.int .i64 x2)), (18, .v (.int .i64 (mnI x2 64))), (19, .sl 1 (x1.map cdI.enc))], []⟩) (by kernel_rfl) ?_
      refine RunS.call e_ref09_LeastMost_ok (fid := 73) (s := cs_ref09_met) (F := fun a => ref09_met a.1) (er := er_ref09_met) (xs := [.sl 1 (x1.map cdI.enc)]) (a := (x1, ())) rfl (wantedA_none rfl) (by kernel_rfl) (by kernel_rfl) (by kernel_rfl) (by kernel_rfl) (Sns.cons (Sn.enc (c := (cdL 1 cdI)) (v := x1)) Sns.nil) (.inl (by kernel_rfl)) hv5 ?_
      refine RunS.seg e_ref09_LeastMost_ok 2 (s1 := ⟨Fr 32 [(0, .v (.int .i64 x0)), (1, .sl 1 (x1.map cdI.enc)), (2, .v (.int .i64 x2)), (7, .v (.int .i64 (wr .i64 ((mnI x2 64) * v5)))), (16, .v (.bool j3)), (17, .v (.int .i64 x2)), (18, .v (.int .i64 (mnI x2 64))), (19, .sl 1 (x1.map cdI.enc)), (20, .v (.int .i64 v5)), (21, .v (.int .i64 (wr .i64 ((mnI x2 64) * v5))))], []⟩) (by kernel_rfl) ?_
      exact RunS.done rfl (Wk.fr (by kernel_rfl))
    refine Sem.seq ?_
    refine Sem.runS (s1 := ⟨Fr 32 [(0, .v (.int .i64 x0)), (7, .v (.int .i64 (wr .i64 ((mnI x2 64) * v5)))), (8, .v (.int .i64 0))], []⟩) ?_ ?_
    · refine RunS.seg e_ref09_LeastMost_ok 1 (s1 := ⟨Fr 32 [(0, .v (.int .i64 x0)), (7, .v (.int .i64 (wr .i64 ((mnI x2 64) * v5)))), (8, .v (.int .i64 0))], []⟩) (by kernel_rfl) ?_
      exact RunS.done rfl (Wk.fr (by kernel_rfl))
    refine Sem.seq ?_
    refine Sem.block ?_
    obtain ⟨r10, hr10, h⟩ := Option.bind_eq_some_iff.1 h
    refine Sem.loop (n := 100000) ?_
    refine Sem.cutN (SemN.wk (s1 := ⟨Fr 32 [(0, .v (.int .i64 x0)), (7, .v (.int .i64 (wr .i64 ((mnI x2 64) * v5)))), (8, .v (.int .i64 0))], []⟩) (Wk.fr (by kernel_rfl)) (ref09_LeastMost_1_ok x0 x2 v5 _ 0 _ hr10)) ?_
    refine Sem.seq ?_
    refine Sem.runS (s1 := ⟨Fr 32 [(6, .v (.int .i64 r10))], []⟩) ?_ ?_
    · refine RunS.seg e_ref09_LeastMost_ok 2 (s1 := ⟨Fr 32 [(6, .v (.int .i64 r10)), (8, .v (.int .i64 r10)), (31, .v (.int .i64 r10))], []⟩) (by kernel_rfl) ?_
      exact RunS.done rfl (Wk.fr (by kernel_rfl))
    refine Sem.ret ?_
    have hq := Option.some.inj h; subst hq
    exact ⟨⟨Fr 32 [(6, .v (.int .i64 r10))], []⟩, (Wk.fr (by kernel_rfl)), .inr rfl, [.v (.int .i64 r10)], (by kernel_rfl), (by kernel_rfl)⟩
def t_ref09_LeastMost : List AV → Option AV := told cs_ref09_LeastMost (fun a => ref09_LeastMost a.1 a.2.1 a.2.2.1) er_ref09_LeastMost
theorem x_ref09_LeastMost : XOk 32 t_ref09_LeastMost := by
  refine EnvOk.x (E := e_ref09_LeastMost) (contract_ok e_ref09_LeastMost_ok (fn := Tryd.f32) (c := cb_ref09_LeastMost) ?h1 ?h2 ⟨Tryd.call32⟩ cs_ref09_LeastMost (fun a => ref09_LeastMost a.1 a.2.1 a.2.2.1) er_ref09_LeastMost (fun a => (by show 3 ≤ 32; decide)) ?h3 ?h4) rfl rfl
  case h1 => kernel_rfl
  case h2 => kernel_rfl
  case h3 => intro b; kernel_rfl
  case h4 => exact fun a b h => ref09_LeastMost_sem a.1 a.2.1 a.2.2.1 b h
end Go.Proofs.YthofgamegondnaaDoor

namespace Go.Proofs.YthofgamegondnaaDoor
open Go.RowKit
/- trestle/evening.MostEvenings -/
noncomputable def e_evening_MostEvenings : Env := ((E0.withX 68 t_evening_fit).withX 72 t_evening_met)
theorem e_evening_MostEvenings_ok : EnvOk e_evening_MostEvenings := (EnvOk.withX (EnvOk.withX E0_ok x_evening_fit.1 x_evening_fit.2) x_evening_met.1 x_evening_met.2)
def evening_MostEvenings (x0 : Int) (x1 : (List Int)) (x2 : Int) : Option (Int) :=
  (evening_fit x0 x1).bind fun v1 =>
  (if (!v1) = true then some true else some (decide (x2 < 0))).bind fun j3 =>
  if j3 = true then
  some 0
  else
  (evening_met x1).bind fun v5 =>
  if (v5 == 0) = true then
  some 64
  else
  (evening_met x1).bind fun v7 =>
  if v7 = (0 : Int) then none else
  some (mnI 64 (wr .i64 ((wr .i64 ((mnI x2 64) * (wr .i64 ((wr .i64 (x0 * (wr .i64 (x0 - 1)))).tdiv 2)))).tdiv v7)))
def cs_evening_MostEvenings : Cs (Int × (List Int) × Int × Unit) := (csC cdI (csC (cdL 1 cdI) (csC cdI csN)))
def er_evening_MostEvenings (r : Int) : AV := cdI.enc r
noncomputable def cb_evening_MostEvenings : Code := codeOf Tryd.f33
set_option maxRecDepth 100000 in
theorem evening_MostEvenings_sem (x0 : Int) (x1 : (List Int)) (x2 : Int) (r : Int) (h : evening_MostEvenings x0 x1 x2 = some r) : Sem e_evening_MostEvenings ⟨none, false⟩ cb_evening_MostEvenings ⟨Fr 30 (pairs0 0 (cs_evening_MostEvenings.enc (x0, x1, x2, ()))), []⟩ fun e s' => (e = .normal ∨ e = .ret) ∧ ∃ xs, resA e_evening_MostEvenings.P s'.fr s'.hp Tryd.f33.results.toList = some xs ∧ retA xs = er_evening_MostEvenings r := by
  unfold evening_MostEvenings at h
  refine Sem.wkQ (Sem.wk (s1 := ⟨Fr 30 [(0, .v (.int .i64 x0)), (1, .sl 1 (x1.map cdI.enc)), (2, .v (.int .i64 x2))], []⟩) (Wk.fr (by kernel_rfl)) ?_)
  refine Sem.seq ?_
  refine Sem.runS (s1 := ⟨Fr 30 [(0, .v (.int .i64 x0)), (1, .sl 1 (x1.map cdI.enc)), (2, .v (.int .i64 x2))], []⟩) ?_ ?_
  · refine RunS.seg e_evening_MostEvenings_ok 1 (s1 := ⟨Fr 30 [(0, .v (.int .i64 x0)), (1, .sl 1 (x1.map cdI.enc)), (2, .v (.int .i64 x2)), (6, .v (.int .i64 0))], []⟩) (by kernel_rfl) ?_
    exact RunS.done rfl (Wk.fr (by kernel_rfl))
  refine Sem.seq ?_
  refine Sem.seq ?_
  obtain ⟨v1, hv1, h⟩ := Option.bind_eq_some_iff.1 h
  obtain ⟨j3, hj3, h⟩ := Option.bind_eq_some_iff.1 h
  refine Sem.runS (s1 := ⟨Fr 30 [(0, .v (.int .i64 x0)), (1, .sl 1 (x1.map cdI.enc)), (2, .v (.int .i64 x2)), (14, .v (.bool j3))], []⟩) ?_ ?_
  · refine RunS.seg e_evening_MostEvenings_ok 2 (s1 := ⟨Fr 30 [(0, .v (.int .i64 x0)), (1, .sl 1 (x1.map cdI.enc)), (2, .v (.int .i64 x2)), (7, .v (.int .i64 x0)), (8, .sl 1 (x1.map cdI.enc))], []⟩) (by kernel_rfl) ?_
    refine RunS.call e_evening_MostEvenings_ok (fid := 68) (s := cs_evening_fit) (F := fun a => evening_fit a.1 a.2.1) (er := er_evening_fit) (xs := [.v (.int .i64 x0), .sl 1 (x1.map cdI.enc)]) (a := (x0, x1, ())) rfl (wantedA_none rfl) (by kernel_rfl) (by kernel_rfl) (by kernel_rfl) (by kernel_rfl) (Sns.cons (Sn.enc (c := cdI) (v := x0)) (Sns.cons (Sn.enc (c := (cdL 1 cdI)) (v := x1)) Sns.nil)) (.inl (by kernel_rfl)) hv1 ?_
    refine RunS.seg e_evening_MostEvenings_ok 2 (s1 := ⟨Fr 30 [(0, .v (.int .i64 x0)), (1, .sl 1 (x1.map cdI.enc)), (2, .v (.int .i64 x2)), (7, .v (.int .i64 x0)), (8, .sl 1 (x1.map cdI.enc)), (9, .v (.bool v1)), (10, .v (.bool (!v1))), (11, .v (.bool (!v1)))], []⟩) (by kernel_rfl) ?_
    rcases Bool.eq_false_or_eq_true (!v1) with hc9 | hc9
    · rw [if_pos hc9] at hj3
      rw [hc9]
      refine RunS.seg e_evening_MostEvenings_ok 3 (s1 := ⟨Fr 30 [(0, .v (.int .i64 x0)), (1, .sl 1 (x1.map cdI.enc)), (2, .v (.int .i64 x2)), (7, .v (.int .i64 x0)), (8, .sl 1 (x1.map cdI.enc)), (9, .v (.bool v1)), (10, .v (.bool true)), (11, .v (.bool true)), (12, .tp []), (13, .tp []), (14, .v (.bool true))], []⟩) (by kernel_rfl) ?_
      have hq := Option.some.inj hj3; subst hq
      exact RunS.done rfl (Wk.fr (by kernel_rfl))
    · rw [if_f hc9] at hj3
      rw [hc9]
      refine RunS.seg e_evening_MostEvenings_ok 3 (s1 := ⟨Fr 30 [(0, .v (.int .i64 x0)), (1, .sl 1 (x1.map cdI.enc)), (2, .v (.int .i64 x2)), (7, .v (.int .i64 x0)), (8, .sl 1 (x1.map cdI.enc)), (9, .v (.bool v1)), (10, .v (.bool false)), (11, .v (.bool false)), (12, .v (.int .i64 x2)), (13, .v (.bool (decide (x2 < 0)))), (14, .v (.bool (decide (x2 < 0))))], []⟩) (by kernel_rfl) ?_
      have hq := Option.some.inj hj3; subst hq
      exact RunS.done rfl (Wk.fr (by kernel_rfl))
  refine Sem.cond (b := j3) (by kernel_rfl) (fun hb4 => ?_) (fun hb4 => ?_)
  · rw [if_pos hb4] at h
    refine Sem.seq ?_
    refine Sem.runS (s1 := ⟨Fr 30 [(6, .v (.int .i64 0))], []⟩) ?_ ?_
    · refine RunS.seg e_evening_MostEvenings_ok 1 (s1 := ⟨Fr 30 [(0, .v (.int .i64 x0)), (1, .sl 1 (x1.map cdI.enc)), (2, .v (.int .i64 x2)), (6, .v (.int .i64 0)), (14, .v (.bool j3))], []⟩) (by kernel_rfl) ?_
      exact RunS.done rfl (Wk.fr (by kernel_rfl))
    refine Sem.ret ?_
    have hq := Option.some.inj h; subst hq
    exact ⟨⟨Fr 30 [(6, .v (.int .i64 0))], []⟩, (Wk.fr (by kernel_rfl)), .inr rfl, [.v (.int .i64 0)], (by kernel_rfl), (by kernel_rfl)⟩
  · rw [if_f hb4] at h
    refine Sem.skip ?_
    refine Sem.seq ?_
    refine Sem.seq ?_
    obtain ⟨v5, hv5, h⟩ := Option.bind_eq_some_iff.1 h
    refine Sem.runS (s1 := ⟨Fr 30 [(0, .v (.int .i64 x0)), (1, .sl 1 (x1.map cdI.enc)), (2, .v (.int .i64 x2)), (17, .v (.bool (v5 == 0)))], []⟩) ?_ ?_
    · refine RunS.seg e_evening_MostEvenings_ok 1 (s1 := ⟨Fr 30 [(0, .v (.int .i64 x0)), (1, .sl 1 (x1.map cdI.enc)), (2, .v (.int .i64 x2)), (14, .v (.bool j3)), (15, .sl 1 (x1.map cdI.enc))], []⟩) (by kernel_rfl) ?_
      refine RunS.call e_evening_MostEvenings_ok (fid := 72) (s := cs_evening_met) (F := fun a => evening_met a.1) (er := er_evening_met) (xs := [.sl 1 (x1.map cdI.enc)]) (a := (x1, ())) rfl (wantedA_none rfl) (by kernel_rfl) (by kernel_rfl) (by kernel_rfl) (by kernel_rfl) (Sns.cons (Sn.enc (c := (cdL 1 cdI)) (v := x1)) Sns.nil) (.inl (by kernel_rfl)) hv5 ?_
      refine RunS.seg e_evening_MostEvenings_ok 1 (s1 := ⟨Fr 30 [(0, .v (.int .i64 x0)), (1, .sl 1 (x1.map cdI.enc)), (2, .v (.int .i64 x2)), (14, .v (.bool j3)), (15, .sl 1 (x1.map cdI.enc)), (16, .v (.int .i64 v5)), (17, .v (.bool (v5 == 0)))], []⟩) (by kernel_rfl) ?_
      exact RunS.done rfl (Wk.fr (by kernel_rfl))
    refine Sem.cond (b := (v5 == 0)) (by kernel_rfl) (fun hb6 => ?_) (fun hb6 => ?_)
    · rw [if_pos hb6] at h
      refine Sem.seq ?_
      refine Sem.runS (s1 := ⟨Fr 30 [(6, .v (.int .i64 64))], []⟩) ?_ ?_
      · refine RunS.seg e_evening_MostEvenings_ok 1 (s1 := ⟨Fr 30 [(0, .v (.int .i64 x0)), (1, .sl 1 (x1.map cdI.enc)), (2, .v (.int .i64 x2)), (6, .v (.int .i64 64)), (17, .v (.bool (v5 == 0)))], []⟩) (by kernel_rfl) ?_
        exact RunS.done rfl (Wk.fr (by kernel_rfl))
      refine Sem.ret ?_
      have hq := Option.some.inj h; subst hq
      exact ⟨⟨Fr 30 [(6, .v (.int .i64 64))], []⟩, (Wk.fr (by kernel_rfl)), .inr rfl, [.v (.int .i64 64)], (by kernel_rfl), (by kernel_rfl)⟩
    · rw [if_f hb6] at h
      refine Sem.skip ?_
      refine Sem.seq ?_
      obtain ⟨v7, hv7, h⟩ := Option.bind_eq_some_iff.1 h
      by_cases hz8 : v7 = (0 : Int)
      · rw [if_pos hz8] at h; cases h
      rw [if_neg hz8] at h
      refine Sem.runS (s1 := ⟨Fr 30 [(6, .v (.int .i64 (mnI 64 (wr .i64 ((wr .i64 ((mnI x2 64) * (wr .i64 ((wr .i64 (x0 * (wr .i64 (x0 - 1)))).tdiv 2)))).tdiv v7)))))], []⟩) ?_ ?_
      · refine RunS.seg e_evening_MostEvenings_ok 9 (s1 := ⟨Fr 30 [(0, .v (.int .i64 x0)), (1, .sl 1 (x1.map cdI.enc)), (2, .v (.int .i64 x2)), (17, .v (.bool (v5 == 0))), (18, .v (.int .i64 x2)), (19, .v (.int .i64 (mnI x2 64))), (20, .v (.int .i64 x0)), (21, .v (.int .i64 x0)), (22, .v (.int .i64 (wr .i64 (x0 - 1)))), (23, .v (.int .i64 (wr .i64 (x0 * (wr .i64 (x0 - 1)))))), (24, .v (.int .i64 (wr .i64 ((wr .i64 (x0 * (wr .i64 (x0 - 1)))).tdiv 2)))), (25, .v (.int .i64 (wr .i64 ((mnI x2 64) * (wr .i64 ((wr .i64 (x0 * (wr .i64 (x0 - 1)))).tdiv 2)))))), (26, .sl 1 (x1.map cdI.enc))], []⟩) (by kernel_rfl) ?_
        refine RunS.call e_evening_MostEvenings_ok (fid := 72) (s := cs_evening_met) (F := fun a => evening_met a.1) (er := er_evening_met) (xs := [.sl 1 (x1.map cdI.enc)]) (a := (x1, ())) rfl (wantedA_none rfl) (by kernel_rfl) (by kernel_rfl) (by kernel_rfl) (by kernel_rfl) (Sns.cons (Sn.enc (c := (cdL 1 cdI)) (v := x1)) Sns.nil) (.inl (by kernel_rfl)) hv7 ?_
        refine RunS.one e_evening_MostEvenings_ok 0 rfl (op_q (wantedA_none rfl) rfl (q_bin (a := .v (.int .i64 (wr .i64 ((mnI x2 64) * (wr .i64 ((wr .i64 (x0 * (wr .i64 (x0 - 1)))).tdiv 2)))))) (b := .v (.int .i64 v7)) (by kernel_rfl) (by kernel_rfl) (bin_quo hz8))) ?_
        refine RunS.seg e_evening_MostEvenings_ok 2 (s1 := ⟨Fr 30 [(0, .v (.int .i64 x0)), (1, .sl 1 (x1.map cdI.enc)), (2, .v (.int .i64 x2)), (6, .v (.int .i64 (mnI 64 (wr .i64 ((wr .i64 ((mnI x2 64) * (wr .i64 ((wr .i64 (x0 * (wr .i64 (x0 - 1)))).tdiv 2)))).tdiv v7))))), (17, .v (.bool (v5 == 0))), (18, .v (.int .i64 x2)), (19, .v (.int .i64 (mnI x2 64))), (20, .v (.int .i64 x0)), (21, .v (.int .i64 x0)), (22, .v (.int .i64 (wr .i64 (x0 - 1)))), (23, .v (.int .i64 (wr .i64 (x0 * (wr .i64 (x0 - 1)))))), (24, .v (.int .i64 (wr .i64 ((wr .i64 (x0 * (wr .i64 (x0 - 1)))).tdiv 2)))), (25, .v (.int .i64 (wr .i64 ((mnI x2 64) * (wr .i64 ((wr .i64 (x0 * (wr .i64 (x0 - 1)))).tdiv 2)))))), (26, .sl 1 (x1.map cdI.enc)), (27, .v (.int .i64 v7)), (28, .v (.int .i64 (wr .i64 ((wr .i64 ((mnI x2 64) * (wr .i64 ((wr .i64 (x0 * (wr .i64 (x0 - 1)))).tdiv 2)))).tdiv v7)))), (29, .v (.int .i64 (mnI 64 (wr .i64 ((wr .i64 ((mnI x2 64) * (wr .i64 ((wr .i64 (x0 * (wr .i64 (x0 - 1)))).tdiv 2)))).tdiv v7)))))], []⟩) (by kernel_rfl) ?_
        exact RunS.done rfl (Wk.fr (by kernel_rfl))
      refine Sem.ret ?_
      have hq := Option.some.inj h; subst hq
      exact ⟨⟨Fr 30 [(6, .v (.int .i64 (mnI 64 (wr .i64 ((wr .i64 ((mnI x2 64) * (wr .i64 ((wr .i64 (x0 * (wr .i64 (x0 - 1)))).tdiv 2)))).tdiv v7)))))], []⟩, (Wk.fr (by kernel_rfl)), .inr rfl, [.v (.int .i64 (mnI 64 (wr .i64 ((wr .i64 ((mnI x2 64) * (wr .i64 ((wr .i64 (x0 * (wr .i64 (x0 - 1)))).tdiv 2)))).tdiv v7))))], (by kernel_rfl), (by kernel_rfl)⟩
def t_evening_MostEvenings : List AV → Option AV := told cs_evening_MostEvenings (fun a => evening_MostEvenings a.1 a.2.1 a.2.2.1) er_evening_MostEvenings
theorem x_evening_MostEvenings : XOk 33 t_evening_MostEvenings := by
  refine EnvOk.x (E := e_evening_MostEvenings) (contract_ok e_evening_MostEvenings_ok (fn := Tryd.f33) (c := cb_evening_MostEvenings) ?h1 ?h2 ⟨Tryd.call33⟩ cs_evening_MostEvenings (fun a => evening_MostEvenings a.1 a.2.1 a.2.2.1) er_evening_MostEvenings (fun a => (by show 3 ≤ 30; decide)) ?h3 ?h4) rfl rfl
  case h1 => kernel_rfl
  case h2 => kernel_rfl
  case h3 => intro b; kernel_rfl
  case h4 => exact fun a b h => evening_MostEvenings_sem a.1 a.2.1 a.2.2.1 b h
end Go.Proofs.YthofgamegondnaaDoor
