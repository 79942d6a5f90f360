/- Lemmas for the proof. -/
import Derived.Test.YtnmkejapogklmaaDoorEveningMeetsM1
import Derived.Test.YtnmkejapogklmaaDoorEveningMeetsM2
import Derived.Test.YtnmkejapogklmaaDoorEveningMeetsM3
import Derived.Test.YtnmkejapogklmaaDoorProg
import Derived.Laws.CopyOwn
import Derived.Laws.Slices
import Derived.Laws.StructEq
namespace Go.Proofs.YtnmkejapogklmaaDoor
open Go.RowKit
/- trestle/evening.Check -/
noncomputable def e_evening_Check : Env := (((E0.withX 34 t_evening_guests).withX 40 t_evening_fit).withX 42 t_evening_check)
theorem e_evening_Check_ok : EnvOk e_evening_Check := (EnvOk.withX (EnvOk.withX (EnvOk.withX E0_ok x_evening_guests.1 x_evening_guests.2) x_evening_fit.1 x_evening_fit.2) x_evening_check.1 x_evening_check.2)
noncomputable def cb_evening_Check : Code := codeOf Tryd.f11
def evening_Check_1 (x0 : Int) (x1 : (List Int)) (x2 : (List (List (List Int)))) : Nat → Int → Option ((Unit) ⊕ (Int × Int))
  | 0, _ => none
  | f + 1, c7 =>
    if (decide (c7 < (x2.length : Int))) = true then
    (idx x2 c7).bind fun v9 =>
    (evening_check x0 x1 v9).bind fun v10 =>
    if (v10 != 0) = true then
    some (.inr (c7, v10))
    else
    evening_Check_1 x0 x1 x2 f (wr .i64 (c7 + 1))
    else
    some (.inl ())
def evening_Check (x0 : Int) (x1 : (List Int)) (x2 : (List (List (List Int)))) : Option (Int × Int) :=
  (evening_guests x0).bind fun v1 =>
  (if (!v1) = true then some true else if (decide ((x1.length : Int) > 0)) = true then (evening_fit x0 x1).bind fun v2 =>
  some (!v2) else some false).bind fun j4 =>
  if j4 = true then
  some (0, 90)
  else
  if (decide ((x2.length : Int) > 64)) = true then
  some (0, 7)
  else
  (evening_Check_1 x0 x1 x2 100000 0).bind fun r14 =>
  match r14 with
  | (.inl w15) =>
    some (0, 0)
  | (.inr w16) =>
    some (w16.1, w16.2)
def cs_evening_Check : Cs (Int × (List Int) × (List (List (List Int))) × Unit) := (csC cdI (csC (cdL 1 cdI) (csC (cdL 1 (cdL 1 (cdL 1 cdI))) csN)))
def er_evening_Check (r : Int × Int) : AV := .tp [cdI.enc r.1, cdI.enc r.2]
set_option maxHeartbeats 4000000 in
set_option maxRecDepth 100000 in
theorem evening_Check_1_ok (x0 : Int) (x1 : (List Int)) (x2 : (List (List (List Int)))) : ∀ (f : Nat) (c7 : Int) (r : (Unit) ⊕ (Int × Int)), evening_Check_1 x0 x1 x2 f c7 = some r → SemN e_evening_Check ⟨none, false⟩ (pc cb_evening_Check [1, 1, 0, 1, 0, 0]) f ⟨Fr 46 [(0, .v (.int .i64 x0)), (1, .sl 1 (x1.map cdI.enc)), (30, .sl 1 (x2.map (cdL 1 (cdL 1 cdI)).enc)), (31, .v (.int .i64 (x2.length : Int))), (32, .v (.int .i64 c7))], []⟩ (fun e s => match r with
  | (.inl w) => e = (.exit 1) ∧ Wk e_evening_Check s ⟨Fr 46 [], []⟩
  | (.inr w) => e = .ret ∧ Wk e_evening_Check s ⟨Fr 46 [(6, .v (.int .i64 w.1)), (7, .v (.int .i64 w.2))], []⟩) := by
  intro f
  induction f with
  | zero => intro c7 r h; cases h
  | succ f ih0 =>
    intro c7 r h
    have ih := fun (c7 : Int) => ih0 c7 r
    unfold evening_Check_1 at h
    refine SemN.succ ?_
    refine Sem.seq ?_
    refine Sem.runS (s1 := ⟨Fr 46 [(0, .v (.int .i64 x0)), (1, .sl 1 (x1.map cdI.enc)), (30, .sl 1 (x2.map (cdL 1 (cdL 1 cdI)).enc)), (31, .v (.int .i64 (x2.length : Int))), (32, .v (.int .i64 c7)), (33, .v (.bool (decide (c7 < (x2.length : Int)))))], []⟩) ?_ ?_
    · refine RunS.segF (n := 46) e_evening_Check_ok 1 [(0, .v (.int .i64 x0)), (1, .sl 1 (x1.map cdI.enc)), (30, .sl 1 (x2.map (cdL 1 (cdL 1 cdI)).enc)), (31, .v (.int .i64 (x2.length : Int))), (32, .v (.int .i64 c7)), (33, .v (.bool (decide (c7 < (x2.length : Int)))))] [] (by kernel_rfl) ?_
      exact RunS.done rfl Wk.f1
    refine Sem.seq ?_
    refine Sem.cond (b := (decide (c7 < (x2.length : Int)))) (by kernel_rfl) (fun hb8 => ?_) (fun hb8 => ?_)
    · rw [if_pos hb8] at h
      refine Sem.skip ?_
      refine Sem.seq ?_
      refine Sem.block ?_
      refine Sem.seq ?_
      obtain ⟨v9, hv9, h⟩ := Option.bind_eq_some_iff.1 h
      refine Sem.runS (s1 := ⟨Fr 46 [(0, .v (.int .i64 x0)), (1, .sl 1 (x1.map cdI.enc)), (8, .v (.int .i64 c7)), (9, .sl 1 (v9.map (cdL 1 cdI).enc)), (30, .sl 1 (x2.map (cdL 1 (cdL 1 cdI)).enc)), (31, .v (.int .i64 (x2.length : Int))), (32, .v (.int .i64 c7))], []⟩) ?_ ?_
      · refine RunS.segF (n := 46) e_evening_Check_ok 1 [(0, .v (.int .i64 x0)), (1, .sl 1 (x1.map cdI.enc)), (30, .sl 1 (x2.map (cdL 1 (cdL 1 cdI)).enc)), (31, .v (.int .i64 (x2.length : Int))), (32, .v (.int .i64 c7)), (34, .v (.int .i64 c7))] [] (by kernel_rfl) ?_
        refine RunS.one e_evening_Check_ok 0 rfl (op_q (wantedA_none rfl) rfl (q_indexAddr (a := .sl 1 (x2.map (cdL 1 (cdL 1 cdI)).enc)) (b := .v (.int .i64 c7)) (by kernel_rfl) (by kernel_rfl) (ix_sl (e := (cdL 1 (cdL 1 cdI)).enc) (el := 36) (k := 1) (ki := .i64) (by kernel_rfl) (by kernel_rfl) hv9))) ?_
        refine RunS.segF (n := 46) e_evening_Check_ok 3 [(0, .v (.int .i64 x0)), (1, .sl 1 (x1.map cdI.enc)), (8, .v (.int .i64 c7)), (9, .sl 1 (v9.map (cdL 1 cdI).enc)), (30, .sl 1 (x2.map (cdL 1 (cdL 1 cdI)).enc)), (31, .v (.int .i64 (x2.length : Int))), (32, .v (.int .i64 c7))] [] (by kernel_rfl) ?_
        exact RunS.done rfl Wk.f1
      refine Sem.seq ?_
      obtain ⟨v10, hv10, h⟩ := Option.bind_eq_some_iff.1 h
      refine Sem.runS (s1 := ⟨Fr 46 [(0, .v (.int .i64 x0)), (1, .sl 1 (x1.map cdI.enc)), (8, .v (.int .i64 c7)), (10, .v (.int .i64 v10)), (30, .sl 1 (x2.map (cdL 1 (cdL 1 cdI)).enc)), (31, .v (.int .i64 (x2.length : Int))), (32, .v (.int .i64 c7))], []⟩) ?_ ?_
      · refine RunS.segF (n := 46) e_evening_Check_ok 3 [(0, .v (.int .i64 x0)), (1, .sl 1 (x1.map cdI.enc)), (8, .v (.int .i64 c7)), (30, .sl 1 (x2.map (cdL 1 (cdL 1 cdI)).enc)), (31, .v (.int .i64 (x2.length : Int))), (32, .v (.int .i64 c7)), (37, .v (.int .i64 x0)), (38, .sl 1 (x1.map cdI.enc)), (39, .sl 1 (v9.map (cdL 1 cdI).enc))] [] (by kernel_rfl) ?_
        refine RunS.call e_evening_Check_ok (fid := 42) (s := cs_evening_check) (F := fun a => evening_check a.1 a.2.1 a.2.2.1) (er := er_evening_check) (xs := [.v (.int .i64 x0), .sl 1 (x1.map cdI.enc), .sl 1 (v9.map (cdL 1 cdI).enc)]) (a := (x0, x1, v9, ())) rfl (wantedA_none rfl) (by kernel_rfl) (by kernel_rfl) (by kernel_rfl) (by kernel_rfl) (Sns.cons (Sn.enc (c := cdI) (v := x0)) (Sns.cons (Sn.enc (c := (cdL 1 cdI)) (v := x1)) (Sns.cons (Sn.enc (c := (cdL 1 (cdL 1 cdI))) (v := v9)) Sns.nil))) (.inl (by kernel_rfl)) hv10 ?_
        refine RunS.segF (n := 46) e_evening_Check_ok 1 [(0, .v (.int .i64 x0)), (1, .sl 1 (x1.map cdI.enc)), (8, .v (.int .i64 c7)), (10, .v (.int .i64 v10)), (30, .sl 1 (x2.map (cdL 1 (cdL 1 cdI)).enc)), (31, .v (.int .i64 (x2.length : Int))), (32, .v (.int .i64 c7))] [] (by kernel_rfl) ?_
        exact RunS.done rfl Wk.f1
      refine Sem.seq ?_
      refine Sem.runS (s1 := ⟨Fr 46 [(0, .v (.int .i64 x0)), (1, .sl 1 (x1.map cdI.enc)), (8, .v (.int .i64 c7)), (10, .v (.int .i64 v10)), (30, .sl 1 (x2.map (cdL 1 (cdL 1 cdI)).enc)), (31, .v (.int .i64 (x2.length : Int))), (32, .v (.int .i64 c7)), (42, .v (.bool (v10 != 0)))], []⟩) ?_ ?_
      · refine RunS.segF (n := 46) e_evening_Check_ok 2 [(0, .v (.int .i64 x0)), (1, .sl 1 (x1.map cdI.enc)), (8, .v (.int .i64 c7)), (10, .v (.int .i64 v10)), (30, .sl 1 (x2.map (cdL 1 (cdL 1 cdI)).enc)), (31, .v (.int .i64 (x2.length : Int))), (32, .v (.int .i64 c7)), (42, .v (.bool (v10 != 0)))] [] (by kernel_rfl) ?_
        exact RunS.done rfl Wk.f1
      refine Sem.cond (b := (v10 != 0)) (by kernel_rfl) (fun hb11 => ?_) (fun hb11 => ?_)
      · rw [if_pos hb11] at h
        refine Sem.seq ?_
        refine Sem.runS (s1 := ⟨Fr 46 [(6, .v (.int .i64 c7)), (7, .v (.int .i64 v10))], []⟩) ?_ ?_
        · refine RunS.segF (n := 46) e_evening_Check_ok 4 [(6, .v (.int .i64 c7)), (7, .v (.int .i64 v10))] [] (by kernel_rfl) ?_
          exact RunS.done rfl Wk.f1
        refine Sem.ret ?_
        have hq := Option.some.inj h; subst hq
        exact ⟨rfl, Wk.f1⟩
      · rw [if_f hb11] at h
        refine Sem.skip ?_
        refine Sem.runS (s1 := ⟨Fr 46 [(0, .v (.int .i64 x0)), (1, .sl 1 (x1.map cdI.enc)), (30, .sl 1 (x2.map (cdL 1 (cdL 1 cdI)).enc)), (31, .v (.int .i64 (x2.length : Int))), (32, .v (.int .i64 (wr .i64 (c7 + 1))))], []⟩) ?_ ?_
        · refine RunS.segF (n := 46) e_evening_Check_ok 2 [(0, .v (.int .i64 x0)), (1, .sl 1 (x1.map cdI.enc)), (30, .sl 1 (x2.map (cdL 1 (cdL 1 cdI)).enc)), (31, .v (.int .i64 (x2.length : Int))), (32, .v (.int .i64 (wr .i64 (c7 + 1))))] [] (by kernel_rfl) ?_
          exact RunS.done rfl Wk.f1
        exact SemN.wk (s1 := ⟨Fr 46 [(0, .v (.int .i64 x0)), (1, .sl 1 (x1.map cdI.enc)), (30, .sl 1 (x2.map (cdL 1 (cdL 1 cdI)).enc)), (31, .v (.int .i64 (x2.length : Int))), (32, .v (.int .i64 (wr .i64 (c7 + 1))))], []⟩) Wk.f1 (ih (wr .i64 (c7 + 1)) h)
    · rw [if_f hb8] at h
      refine Sem.exit ?_
      have hq := Option.some.inj h; subst hq
      exact ⟨rfl, Wk.f1⟩
set_option maxHeartbeats 4000000 in
set_option maxRecDepth 100000 in
theorem evening_Check_sem (x0 : Int) (x1 : (List Int)) (x2 : (List (List (List Int)))) (r : Int × Int) (h : evening_Check x0 x1 x2 = some r) : Sem e_evening_Check ⟨none, false⟩ cb_evening_Check ⟨Fr 46 (pairs0 0 (cs_evening_Check.enc (x0, x1, x2, ()))), []⟩ fun e s' => (e = .normal ∨ e = .ret) ∧ ∃ xs, resA e_evening_Check.P s'.fr s'.hp Tryd.f11.results.toList = some xs ∧ retA xs = er_evening_Check r := by
  unfold evening_Check at h
  refine Sem.wkQ (Sem.wk (s1 := ⟨Fr 46 [(0, .v (.int .i64 x0)), (1, .sl 1 (x1.map cdI.enc)), (2, .sl 1 (x2.map (cdL 1 (cdL 1 cdI)).enc))], []⟩) Wk.f1 ?_)
  refine Sem.seq ?_
  refine Sem.runS (s1 := ⟨Fr 46 [(0, .v (.int .i64 x0)), (1, .sl 1 (x1.map cdI.enc)), (2, .sl 1 (x2.map (cdL 1 (cdL 1 cdI)).enc))], []⟩) ?_ ?_
  · refine RunS.segF (n := 46) e_evening_Check_ok 2 [(0, .v (.int .i64 x0)), (1, .sl 1 (x1.map cdI.enc)), (2, .sl 1 (x2.map (cdL 1 (cdL 1 cdI)).enc))] [] (by kernel_rfl) ?_
    exact RunS.done rfl Wk.f1
  refine Sem.seq ?_
  refine Sem.block ?_
  refine Sem.seq ?_
  obtain ⟨v1, hv1, h⟩ := Option.bind_eq_some_iff.1 h
  obtain ⟨j4, hj4, h⟩ := Option.bind_eq_some_iff.1 h
  refine Sem.runS (s1 := ⟨Fr 46 [(0, .v (.int .i64 x0)), (1, .sl 1 (x1.map cdI.enc)), (2, .sl 1 (x2.map (cdL 1 (cdL 1 cdI)).enc)), (11, .v (.bool j4))], []⟩) ?_ ?_
  · refine RunS.segF (n := 46) e_evening_Check_ok 1 [(0, .v (.int .i64 x0)), (1, .sl 1 (x1.map cdI.enc)), (2, .sl 1 (x2.map (cdL 1 (cdL 1 cdI)).enc)), (12, .v (.int .i64 x0))] [] (by kernel_rfl) ?_
    refine RunS.call e_evening_Check_ok (fid := 34) (s := cs_evening_guests) (F := fun a => evening_guests a.1) (er := er_evening_guests) (xs := [.v (.int .i64 x0)]) (a := (x0, ())) rfl (wantedA_none rfl) (by kernel_rfl) (by kernel_rfl) (by kernel_rfl) (by kernel_rfl) (Sns.cons (Sn.enc (c := cdI) (v := x0)) Sns.nil) (.inl (by kernel_rfl)) hv1 ?_
    refine RunS.segF (n := 46) e_evening_Check_ok 2 [(0, .v (.int .i64 x0)), (1, .sl 1 (x1.map cdI.enc)), (2, .sl 1 (x2.map (cdL 1 (cdL 1 cdI)).enc)), (15, .v (.bool (!v1)))] [] (by kernel_rfl) ?_
    rcases Bool.eq_false_or_eq_true (!v1) with hc17 | hc17
    · rw [if_pos hc17] at hj4
      rw [hc17]
      refine RunS.segF (n := 46) e_evening_Check_ok 11 [(0, .v (.int .i64 x0)), (1, .sl 1 (x1.map cdI.enc)), (2, .sl 1 (x2.map (cdL 1 (cdL 1 cdI)).enc)), (11, .v (.bool true))] [] (by kernel_rfl) ?_
      have hq := Option.some.inj hj4; subst hq
      exact RunS.done rfl Wk.f1
    · rw [if_f hc17] at hj4
      rw [hc17]
      refine RunS.segF (n := 46) e_evening_Check_ok 1 [(0, .v (.int .i64 x0)), (1, .sl 1 (x1.map cdI.enc)), (2, .sl 1 (x2.map (cdL 1 (cdL 1 cdI)).enc)), (15, .v (.bool false)), (16, .sl 1 (x1.map cdI.enc))] [] (by kernel_rfl) ?_
      refine RunS.one e_evening_Check_ok 0 rfl (op_q (by kernel_rfl) rfl (q_len (a := .sl 1 (x1.map cdI.enc)) (by kernel_rfl) (len_sl (el := 3) (by kernel_rfl)))) ?_
      refine RunS.segF (n := 46) e_evening_Check_ok 2 [(0, .v (.int .i64 x0)), (1, .sl 1 (x1.map cdI.enc)), (2, .sl 1 (x2.map (cdL 1 (cdL 1 cdI)).enc)), (15, .v (.bool false)), (19, .v (.bool (decide ((x1.length : Int) > 0))))] [] (by kernel_rfl) ?_
      rcases Bool.eq_false_or_eq_true (decide ((x1.length : Int) > 0)) with hc18 | hc18
      · rw [if_pos hc18] at hj4
        rw [hc18]
        refine RunS.segF (n := 46) e_evening_Check_ok 2 [(0, .v (.int .i64 x0)), (1, .sl 1 (x1.map cdI.enc)), (2, .sl 1 (x2.map (cdL 1 (cdL 1 cdI)).enc)), (15, .v (.bool false)), (19, .v (.bool true)), (20, .v (.int .i64 x0)), (21, .sl 1 (x1.map cdI.enc))] [] (by kernel_rfl) ?_
        obtain ⟨v2, hv2, hj4⟩ := Option.bind_eq_some_iff.1 hj4
        refine RunS.call e_evening_Check_ok (fid := 40) (s := cs_evening_fit) (F := fun a => evening_fit a.1 a.2.1) (er := er_evening_fit) (xs := [.v (.int .i64 x0), .sl 1 (x1.map cdI.enc)]) (a := (x0, x1, ())) rfl (by kernel_rfl) (by kernel_rfl) (by kernel_rfl) (by kernel_rfl) (by kernel_rfl) (Sns.cons (Sn.enc (c := cdI) (v := x0)) (Sns.cons (Sn.enc (c := (cdL 1 cdI)) (v := x1)) Sns.nil)) (.inl (by kernel_rfl)) hv2 ?_
        refine RunS.segF (n := 46) e_evening_Check_ok 4 [(0, .v (.int .i64 x0)), (1, .sl 1 (x1.map cdI.enc)), (2, .sl 1 (x2.map (cdL 1 (cdL 1 cdI)).enc)), (11, .v (.bool (!v2)))] [] (by kernel_rfl) ?_
        have hq := Option.some.inj hj4; subst hq
        exact RunS.done rfl Wk.f1
      · rw [if_f hc18] at hj4
        rw [hc18]
        refine RunS.segF (n := 46) e_evening_Check_ok 7 [(0, .v (.int .i64 x0)), (1, .sl 1 (x1.map cdI.enc)), (2, .sl 1 (x2.map (cdL 1 (cdL 1 cdI)).enc)), (11, .v (.bool false))] [] (by kernel_rfl) ?_
        have hq := Option.some.inj hj4; subst hq
        exact RunS.done rfl Wk.f1
  refine Sem.cond (b := j4) (by kernel_rfl) (fun hb5 => ?_) (fun hb5 => ?_)
  · rw [if_pos hb5] at h
    refine Sem.seq ?_
    refine Sem.runS (s1 := ⟨Fr 46 [(6, .v (.int .i64 0)), (7, .v (.int .i64 90))], []⟩) ?_ ?_
    · refine RunS.segF (n := 46) e_evening_Check_ok 2 [(6, .v (.int .i64 0)), (7, .v (.int .i64 90))] [] (by kernel_rfl) ?_
      exact RunS.done rfl Wk.f1
    refine Sem.ret ?_
    have hq := Option.some.inj h; subst hq
    exact ⟨⟨Fr 46 [(6, .v (.int .i64 0)), (7, .v (.int .i64 90))], []⟩, Wk.f1, .inr rfl, [.v (.int .i64 0), .v (.int .i64 90)], (by kernel_rfl), (by kernel_rfl)⟩
  · rw [if_f hb5] at h
    refine Sem.seq ?_
    refine Sem.runS (s1 := ⟨Fr 46 [(0, .v (.int .i64 x0)), (1, .sl 1 (x1.map cdI.enc)), (2, .sl 1 (x2.map (cdL 1 (cdL 1 cdI)).enc)), (26, .v (.bool (decide ((x2.length : Int) > 64))))], []⟩) ?_ ?_
    · refine RunS.segF (n := 46) e_evening_Check_ok 1 [(0, .v (.int .i64 x0)), (1, .sl 1 (x1.map cdI.enc)), (2, .sl 1 (x2.map (cdL 1 (cdL 1 cdI)).enc)), (27, .sl 1 (x2.map (cdL 1 (cdL 1 cdI)).enc))] [] (by kernel_rfl) ?_
      refine RunS.one e_evening_Check_ok 0 rfl (op_q (wantedA_none rfl) rfl (q_len (a := .sl 1 (x2.map (cdL 1 (cdL 1 cdI)).enc)) (by kernel_rfl) (len_sl (el := 36) (by kernel_rfl)))) ?_
      refine RunS.segF (n := 46) e_evening_Check_ok 2 [(0, .v (.int .i64 x0)), (1, .sl 1 (x1.map cdI.enc)), (2, .sl 1 (x2.map (cdL 1 (cdL 1 cdI)).enc)), (26, .v (.bool (decide ((x2.length : Int) > 64))))] [] (by kernel_rfl) ?_
      exact RunS.done rfl Wk.f1
    refine Sem.cond (b := (decide ((x2.length : Int) > 64))) (by kernel_rfl) (fun hb6 => ?_) (fun hb6 => ?_)
    · rw [if_pos hb6] at h
      refine Sem.seq ?_
      refine Sem.runS (s1 := ⟨Fr 46 [(6, .v (.int .i64 0)), (7, .v (.int .i64 7))], []⟩) ?_ ?_
      · refine RunS.segF (n := 46) e_evening_Check_ok 2 [(6, .v (.int .i64 0)), (7, .v (.int .i64 7))] [] (by kernel_rfl) ?_
        exact RunS.done rfl Wk.f1
      refine Sem.ret ?_
      have hq := Option.some.inj h; subst hq
      exact ⟨⟨Fr 46 [(6, .v (.int .i64 0)), (7, .v (.int .i64 7))], []⟩, Wk.f1, .inr rfl, [.v (.int .i64 0), .v (.int .i64 7)], (by kernel_rfl), (by kernel_rfl)⟩
    · rw [if_f hb6] at h
      refine Sem.skip ?_
      refine Sem.seq ?_
      refine Sem.seq ?_
      refine Sem.runS (s1 := ⟨Fr 46 [(0, .v (.int .i64 x0)), (1, .sl 1 (x1.map cdI.enc)), (30, .sl 1 (x2.map (cdL 1 (cdL 1 cdI)).enc)), (31, .v (.int .i64 (x2.length : Int))), (32, .v (.int .i64 0))], []⟩) ?_ ?_
      · refine RunS.segF (n := 46) e_evening_Check_ok 1 [(0, .v (.int .i64 x0)), (1, .sl 1 (x1.map cdI.enc)), (30, .sl 1 (x2.map (cdL 1 (cdL 1 cdI)).enc))] [] (by kernel_rfl) ?_
        refine RunS.one e_evening_Check_ok 0 rfl (op_q (wantedA_none rfl) rfl (q_len (a := .sl 1 (x2.map (cdL 1 (cdL 1 cdI)).enc)) (by kernel_rfl) (len_sl (el := 36) (by kernel_rfl)))) ?_
        refine RunS.segF (n := 46) e_evening_Check_ok 1 [(0, .v (.int .i64 x0)), (1, .sl 1 (x1.map cdI.enc)), (30, .sl 1 (x2.map (cdL 1 (cdL 1 cdI)).enc)), (31, .v (.int .i64 (x2.length : Int))), (32, .v (.int .i64 0))] [] (by kernel_rfl) ?_
        exact RunS.done rfl Wk.f1
      refine Sem.block ?_
      obtain ⟨r14, hr14, h⟩ := Option.bind_eq_some_iff.1 h
      refine Sem.loop (n := 100000) ?_
      rcases r14 with w15 | w16
      · try dsimp only at h
        refine Sem.cutN (SemN.wk (s1 := ⟨Fr 46 [(0, .v (.int .i64 x0)), (1, .sl 1 (x1.map cdI.enc)), (30, .sl 1 (x2.map (cdL 1 (cdL 1 cdI)).enc)), (31, .v (.int .i64 (x2.length : Int))), (32, .v (.int .i64 0))], []⟩) Wk.f1 (evening_Check_1_ok x0 x1 x2 _ 0 _ hr14)) ?_
        refine Sem.seq ?_
        refine Sem.runS (s1 := ⟨Fr 46 [(6, .v (.int .i64 0)), (7, .v (.int .i64 0))], []⟩) ?_ ?_
        · refine RunS.segF (n := 46) e_evening_Check_ok 2 [(6, .v (.int .i64 0)), (7, .v (.int .i64 0))] [] (by kernel_rfl) ?_
          exact RunS.done rfl Wk.f1
        refine Sem.ret ?_
        have hq := Option.some.inj h; subst hq
        exact ⟨⟨Fr 46 [(6, .v (.int .i64 0)), (7, .v (.int .i64 0))], []⟩, Wk.f1, .inr rfl, [.v (.int .i64 0), .v (.int .i64 0)], (by kernel_rfl), (by kernel_rfl)⟩
      · try dsimp only at h
        refine Sem.cutN (SemN.wk (s1 := ⟨Fr 46 [(0, .v (.int .i64 x0)), (1, .sl 1 (x1.map cdI.enc)), (30, .sl 1 (x2.map (cdL 1 (cdL 1 cdI)).enc)), (31, .v (.int .i64 (x2.length : Int))), (32, .v (.int .i64 0))], []⟩) Wk.f1 (evening_Check_1_ok x0 x1 x2 _ 0 _ hr14)) ?_
        have hq := Option.some.inj h; subst hq
        exact ⟨⟨Fr 46 [(6, .v (.int .i64 w16.1)), (7, .v (.int .i64 w16.2))], []⟩, Wk.f1, .inr rfl, [.v (.int .i64 w16.1), .v (.int .i64 w16.2)], (by kernel_rfl), (by kernel_rfl)⟩
def t_evening_Check : List AV → Option AV := told cs_evening_Check (fun a => evening_Check a.1 a.2.1 a.2.2.1) er_evening_Check
theorem x_evening_Check : XOk 11 t_evening_Check := by
  refine EnvOk.x (E := e_evening_Check) (contract_ok e_evening_Check_ok (fn := Tryd.f11) (c := cb_evening_Check) ?h1 ?h2 ⟨Tryd.call11⟩ cs_evening_Check (fun a => evening_Check a.1 a.2.1 a.2.2.1) er_evening_Check (fun a => (by show 3 ≤ 46; decide)) ?h3 ?h4) rfl rfl
  case h1 => kernel_rfl
  case h2 => kernel_rfl
  case h3 => intro b; kernel_rfl
  case h4 => exact fun a b h => evening_Check_sem a.1 a.2.1 a.2.2.1 b h
/- trestle/evening.valid -/
noncomputable def e_evening_valid : Env := (E0.withX 11 t_evening_Check)
theorem e_evening_valid_ok : EnvOk e_evening_valid := (EnvOk.withX E0_ok x_evening_Check.1 x_evening_Check.2)
noncomputable def cb_evening_valid : Code := codeOf Tryd.f43
def evening_valid (x0 : Int) (x1 : (List (List (List Int)))) : Option (Bool) :=
  (evening_Check x0 [] x1).bind fun v1 =>
  some (v1.2 == 0)
def cs_evening_valid : Cs (Int × (List (List (List Int))) × Unit) := (csC cdI (csC (cdL 1 (cdL 1 (cdL 1 cdI))) csN))
def er_evening_valid (r : Bool) : AV := cdB.enc r
set_option maxHeartbeats 4000000 in
set_option maxRecDepth 100000 in
theorem evening_valid_sem (x0 : Int) (x1 : (List (List (List Int)))) (r : Bool) (h : evening_valid x0 x1 = some r) : Sem e_evening_valid ⟨none, false⟩ cb_evening_valid ⟨Fr 15 (pairs0 0 (cs_evening_valid.enc (x0, x1, ()))), []⟩ fun e s' => (e = .normal ∨ e = .ret) ∧ ∃ xs, resA e_evening_valid.P s'.fr s'.hp Tryd.f43.results.toList = some xs ∧ retA xs = er_evening_valid r := by
  unfold evening_valid at h
  refine Sem.wkQ (Sem.wk (s1 := ⟨Fr 15 [(0, .v (.int .i64 x0)), (1, .sl 1 (x1.map (cdL 1 (cdL 1 cdI)).enc))], []⟩) Wk.f1 ?_)
  refine Sem.seq ?_
  refine Sem.runS (s1 := ⟨Fr 15 [(0, .v (.int .i64 x0)), (1, .sl 1 (x1.map (cdL 1 (cdL 1 cdI)).enc))], []⟩) ?_ ?_
  · refine RunS.segF (n := 15) e_evening_valid_ok 1 [(0, .v (.int .i64 x0)), (1, .sl 1 (x1.map (cdL 1 (cdL 1 cdI)).enc))] [] (by kernel_rfl) ?_
    exact RunS.done rfl Wk.f1
  refine Sem.seq ?_
  obtain ⟨v1, hv1, h⟩ := Option.bind_eq_some_iff.1 h
  refine Sem.runS (s1 := ⟨Fr 15 [(6, .v (.int .i64 v1.2))], []⟩) ?_ ?_
  · refine RunS.segF (n := 15) e_evening_valid_ok 2 [(8, .v (.int .i64 x0)), (9, .sl 1 (x1.map (cdL 1 (cdL 1 cdI)).enc))] [] (by kernel_rfl) ?_
    refine RunS.call e_evening_valid_ok (fid := 11) (s := cs_evening_Check) (F := fun a => evening_Check a.1 a.2.1 a.2.2.1) (er := er_evening_Check) (xs := [.v (.int .i64 x0), .e0, .sl 1 (x1.map (cdL 1 (cdL 1 cdI)).enc)]) (a := (x0, [], x1, ())) rfl (wantedA_none rfl) (by kernel_rfl) (by kernel_rfl) (by kernel_rfl) (by kernel_rfl) (Sns.cons (Sn.enc (c := cdI) (v := x0)) (Sns.cons Sn.e0 (Sns.cons (Sn.enc (c := (cdL 1 (cdL 1 (cdL 1 cdI)))) (v := x1)) Sns.nil))) (.inl (by kernel_rfl)) hv1 ?_
    refine RunS.segF (n := 15) e_evening_valid_ok 5 [(6, .v (.int .i64 v1.2))] [] (by kernel_rfl) ?_
    exact RunS.done rfl Wk.f1
  refine Sem.seq ?_
  refine Sem.runS (s1 := ⟨Fr 15 [(4, .v (.bool (v1.2 == 0)))], []⟩) ?_ ?_
  · refine RunS.segF (n := 15) e_evening_valid_ok 3 [(4, .v (.bool (v1.2 == 0)))] [] (by kernel_rfl) ?_
    exact RunS.done rfl Wk.f1
  refine Sem.ret ?_
  have hq := Option.some.inj h; subst hq
  exact ⟨⟨Fr 15 [(4, .v (.bool (v1.2 == 0)))], []⟩, Wk.f1, .inr rfl, [.v (.bool (v1.2 == 0))], (by kernel_rfl), (by kernel_rfl)⟩
def t_evening_valid : List AV → Option AV := told cs_evening_valid (fun a => evening_valid a.1 a.2.1) er_evening_valid
theorem x_evening_valid : XOk 43 t_evening_valid := by
  refine EnvOk.x (E := e_evening_valid) (contract_ok e_evening_valid_ok (fn := Tryd.f43) (c := cb_evening_valid) ?h1 ?h2 ⟨Tryd.call43⟩ cs_evening_valid (fun a => evening_valid a.1 a.2.1) er_evening_valid (fun a => (by show 2 ≤ 15; decide)) ?h3 ?h4) rfl rfl
  case h1 => kernel_rfl
  case h2 => kernel_rfl
  case h3 => intro b; kernel_rfl
  case h4 => exact fun a b h => evening_valid_sem a.1 a.2.1 b h
/- trestle/evening.meetings -/
noncomputable def e_evening_meetings : Env := E0
theorem e_evening_meetings_ok : EnvOk e_evening_meetings := E0_ok
noncomputable def cb_evening_meetings : Code := codeOf Tryd.f46
noncomputable def e_evening_meetings_k1 : Env := E0
theorem e_evening_meetings_k1_ok : EnvOk e_evening_meetings_k1 := E0_ok
noncomputable def cb_evening_meetings_k1 : Code := codeOf Tryd.f48
def evening_meetings_k1 (y0 : Int) (y1 : Int) : Option (Int × Int × (List Int)) :=
  if (mkOk 8 (wr .i64 (y1 * y1))) = true then
  some (y1, y1, (List.replicate (wr .i64 (y1 * y1)).toNat (0 : Int)))
  else none
set_option maxHeartbeats 4000000 in
set_option maxRecDepth 100000 in
theorem evening_meetings_k1_sem (y0 : Int) (y1 : Int) (r : Int × Int × (List Int)) (h : evening_meetings_k1 y0 y1 = some r) : SemY e_evening_meetings_k1 ⟨none, false⟩ cb_evening_meetings_k1 ⟨Fr 9 (pairs0 0 [.v (.int .i64 y1)]), [some ⟨2, 65, [.ag [.v (.int .i64 y0), .e0]], false⟩]⟩ fun x s' => (x = .normal ∨ x = .ret) ∧ ∃ ys, resA e_evening_meetings_k1.P s'.fr s'.hp Tryd.f48.results.toList = some ys ∧ (retA ys = .ag [.v (.int .i64 r.1), .rf 2 0 r.2.2.length r.2.2.length] ∧ s'.hp = [some ⟨2, 65, [.ag [.v (.int .i64 y0), .e0]], false⟩, some ⟨2, 65, [.ag [.v (.int .i64 r.2.1), .rf 2 0 r.2.2.length r.2.2.length]], false⟩, some ⟨1, 3, (r.2.2.map cdI.enc), false⟩]) := by
  unfold evening_meetings_k1 at h
  refine SemY.seq ?_
  refine SemY.region ?_
  refine RunY.segF (n := 9) e_evening_meetings_k1_ok 1 [(0, .v (.int .i64 y1)), (2, .pt 1 0 0)] [some ⟨2, 65, [.ag [.v (.int .i64 y0), .e0]], false⟩, some ⟨2, 65, [.ag [.v (.int .i64 0), .e0]], false⟩] (by kernel_rfl) ?_
  refine RunY.done rfl (SemY.fr (l' := [(0, .v (.int .i64 y1)), (2, .pt 1 0 0)]) (by kernel_rfl) ?_)
  refine SemY.seq ?_
  refine SemY.region ?_
  refine RunY.segF (n := 9) e_evening_meetings_k1_ok 4 [(2, .pt 1 0 0), (3, .v (.int .i64 y1)), (6, .v (.int .i64 (wr .i64 (y1 * y1))))] [some ⟨2, 65, [.ag [.v (.int .i64 y0), .e0]], false⟩, some ⟨2, 65, [.ag [.v (.int .i64 0), .e0]], false⟩] (by kernel_rfl) ?_
  by_cases hk1 : (mkOk 8 (wr .i64 (y1 * y1))) = true
  case neg => rw [if_neg hk1] at h; cases h
  rw [if_pos hk1] at h
  refine RunY.one e_evening_meetings_k1_ok 0 rfl (op_n (wantedA_none rfl) rfl (by kernel_rfl) (n_make (x := .v (.int .i64 (wr .i64 (y1 * y1)))) (y := .v (.int .i64 (wr .i64 (y1 * y1)))) (by kernel_rfl) (by kernel_rfl) (make_B (c := cdI) (z := (0 : Int)) (k := 1) (bytes := 8) (el := 3) (by kernel_rfl) (by kernel_rfl) hk1))) ?_
  refine RunY.segF (n := 9) e_evening_meetings_k1_ok 2 [(2, .pt 1 0 0)] [some ⟨2, 65, [.ag [.v (.int .i64 y0), .e0]], false⟩, some ⟨2, 65, [.ag [.v (.int .i64 y1), .rf 2 0 (List.replicate (wr .i64 (y1 * y1)).toNat (0 : Int)).length (List.replicate (wr .i64 (y1 * y1)).toNat (0 : Int)).length]], false⟩, some ⟨1, 3, ((List.replicate (wr .i64 (y1 * y1)).toNat (0 : Int)).map cdI.enc), false⟩] (by kernel_rfl) ?_
  refine RunY.done rfl (SemY.fr (l' := [(2, .pt 1 0 0)]) (by kernel_rfl) ?_)
  refine SemY.ret ?_
  have hq := Option.some.inj h; subst hq
  exact ⟨.inr rfl, [.ag [.v (.int .i64 y1), .rf 2 0 (List.replicate (wr .i64 (y1 * y1)).toNat (0 : Int)).length (List.replicate (wr .i64 (y1 * y1)).toNat (0 : Int)).length]], (by kernel_rfl), (by kernel_rfl), (by kernel_rfl)⟩
noncomputable def e_evening_meetings_k2 : Env := E0
theorem e_evening_meetings_k2_ok : EnvOk e_evening_meetings_k2 := E0_ok
noncomputable def cb_evening_meetings_k2 : Code := codeOf Tryd.f67
def evening_meetings_k2 (y0 : Int) (y1 : Int) (y2 : (List Int)) (y3 : (List (List Int))) : Option ((List (List Int))) :=
  some y3
set_option maxHeartbeats 4000000 in
set_option maxRecDepth 100000 in
theorem evening_meetings_k2_sem (y0 : Int) (y1 : Int) (y2 : (List Int)) (y3 : (List (List Int))) (r : (List (List Int))) (h : evening_meetings_k2 y0 y1 y2 y3 = some r) : SemY e_evening_meetings_k2 ⟨none, false⟩ cb_evening_meetings_k2 ⟨Fr 4 (pairs0 0 [.sl 1 (y3.map (cdL 1 cdI).enc)]), [some ⟨2, 65, [.ag [.v (.int .i64 y0), .e0]], false⟩, some ⟨2, 65, [.ag [.v (.int .i64 y1), .rf 2 0 y2.length y2.length]], false⟩, some ⟨1, 3, (y2.map cdI.enc), false⟩]⟩ fun x s' => (x = .normal ∨ x = .ret) ∧ ∃ ys, resA e_evening_meetings_k2.P s'.fr s'.hp Tryd.f67.results.toList = some ys ∧ (retA ys = .fn 76 [] [.pt 3 0 0] ∧ s'.hp = [some ⟨2, 65, [.ag [.v (.int .i64 y0), .e0]], false⟩, some ⟨2, 65, [.ag [.v (.int .i64 y1), .rf 2 0 y2.length y2.length]], false⟩, some ⟨1, 3, (y2.map cdI.enc), false⟩, some ⟨1, 36, [.sl 1 (r.map (cdL 1 cdI).enc)], false⟩]) := by
  unfold evening_meetings_k2 at h
  refine SemY.seq ?_
  refine SemY.region ?_
  refine RunY.segF (n := 4) e_evening_meetings_k2_ok 2 [(1, .pt 3 0 0)] [some ⟨2, 65, [.ag [.v (.int .i64 y0), .e0]], false⟩, some ⟨2, 65, [.ag [.v (.int .i64 y1), .rf 2 0 y2.length y2.length]], false⟩, some ⟨1, 3, (y2.map cdI.enc), false⟩, some ⟨1, 36, [.sl 1 (y3.map (cdL 1 cdI).enc)], false⟩] (by kernel_rfl) ?_
  refine RunY.done rfl (SemY.fr (l' := [(1, .pt 3 0 0)]) (by kernel_rfl) ?_)
  refine SemY.seq ?_
  refine SemY.region ?_
  refine RunY.segF (n := 4) e_evening_meetings_k2_ok 2 [(2, .fn 76 [] [.pt 3 0 0])] [some ⟨2, 65, [.ag [.v (.int .i64 y0), .e0]], false⟩, some ⟨2, 65, [.ag [.v (.int .i64 y1), .rf 2 0 y2.length y2.length]], false⟩, some ⟨1, 3, (y2.map cdI.enc), false⟩, some ⟨1, 36, [.sl 1 (y3.map (cdL 1 cdI).enc)], false⟩] (by kernel_rfl) ?_
  refine RunY.done rfl (SemY.fr (l' := [(2, .fn 76 [] [.pt 3 0 0])]) (by kernel_rfl) ?_)
  refine SemY.ret ?_
  have hq := Option.some.inj h; subst hq
  exact ⟨.inr rfl, [.fn 76 [] [.pt 3 0 0]], (by kernel_rfl), (by kernel_rfl), (by kernel_rfl)⟩
noncomputable def e_evening_meetings_k3 : Env := E0
theorem e_evening_meetings_k3_ok : EnvOk e_evening_meetings_k3 := E0_ok
noncomputable def cb_evening_meetings_k3 : Code := codeOf Tryd.f76
noncomputable def cx_evening_meetings_k3 (y4 : (List (List (List Int)))) (y5 : Int) (y6 : Int) : Cx := ⟨some ⟨4, Fr 32 [(4, .pt 0 0 0), (5, .pt 1 0 0), (12, .sl 1 (y4.map (cdL 1 (cdL 1 cdI)).enc)), (13, .v (.int .i64 y5)), (14, .v (.int .i64 y6)), (19, .fn 76 [] [.pt 3 0 0])], [20, 21], asgOf (pc cb_evening_meetings [1, 1, 0, 1, 0, 0, 1, 1, 0, 0, 1, 1, 0]), bdyOf (pc cb_evening_meetings [1, 1, 0, 1, 0, 0, 1, 1, 0, 0, 1, 1, 0])⟩, false⟩
noncomputable def e_evening_meetings_k3_y_k1 : Env := E0
theorem e_evening_meetings_k3_y_k1_ok : EnvOk e_evening_meetings_k3_y_k1 := E0_ok
noncomputable def cb_evening_meetings_k3_y_k1 : Code := codeOf Tryd.f49
def evening_meetings_k3_y_k1 (y0 : Int) (y1 : Int) (y2 : (List Int)) (y3 : (List (List Int))) (y4 : Int) (y5 : Int) (y6 : Int) : Option (Int) :=
  (idx y2 (wr .i64 ((wr .i64 (y5 * y4)) + y6))).bind fun v1 =>
  some y4
set_option maxHeartbeats 4000000 in
set_option maxRecDepth 100000 in
theorem evening_meetings_k3_y_k1_sem (y0 : Int) (y1 : Int) (y2 : (List Int)) (y3 : (List (List Int))) (y4 : Int) (y5 : Int) (y6 : Int) (r : Int) (h : evening_meetings_k3_y_k1 y0 y1 y2 y3 y4 y5 y6 = some r) : SemY e_evening_meetings_k3_y_k1 ⟨none, false⟩ cb_evening_meetings_k3_y_k1 ⟨Fr 16 (pairs0 0 [.ag [.v (.int .i64 y4), .rf 2 0 y2.length y2.length], .v (.int .i64 y5), .v (.int .i64 y6)]), [some ⟨2, 65, [.ag [.v (.int .i64 y0), .e0]], false⟩, some ⟨2, 65, [.ag [.v (.int .i64 y1), .rf 2 0 y2.length y2.length]], false⟩, some ⟨1, 3, (y2.map cdI.enc), false⟩, some ⟨1, 36, [.sl 1 (y3.map (cdL 1 cdI).enc)], false⟩, none]⟩ fun x s' => (x = .normal ∨ x = .ret) ∧ ∃ ys, resA e_evening_meetings_k3_y_k1.P s'.fr s'.hp Tryd.f49.results.toList = some ys ∧ (retA ys = .pt 2 ((wr .i64 ((wr .i64 (y5 * y4)) + y6)).toNat) 0 ∧ s'.hp = [some ⟨2, 65, [.ag [.v (.int .i64 y0), .e0]], false⟩, some ⟨2, 65, [.ag [.v (.int .i64 y1), .rf 2 0 y2.length y2.length]], false⟩, some ⟨1, 3, (y2.map cdI.enc), false⟩, some ⟨1, 36, [.sl 1 (y3.map (cdL 1 cdI).enc)], false⟩, none, some ⟨2, 65, [.ag [.v (.int .i64 r), .rf 2 0 y2.length y2.length]], false⟩]) := by
  unfold evening_meetings_k3_y_k1 at h
  refine SemY.seq ?_
  refine SemY.region ?_
  refine RunY.segF (n := 16) e_evening_meetings_k3_y_k1_ok 2 [(1, .v (.int .i64 y5)), (2, .v (.int .i64 y6)), (3, .pt 5 0 0)] [some ⟨2, 65, [.ag [.v (.int .i64 y0), .e0]], false⟩, some ⟨2, 65, [.ag [.v (.int .i64 y1), .rf 2 0 y2.length y2.length]], false⟩, some ⟨1, 3, (y2.map cdI.enc), false⟩, some ⟨1, 36, [.sl 1 (y3.map (cdL 1 cdI).enc)], false⟩, none, some ⟨2, 65, [.ag [.v (.int .i64 y4), .rf 2 0 y2.length y2.length]], false⟩] (by kernel_rfl) ?_
  refine RunY.done rfl (SemY.fr (l' := [(1, .v (.int .i64 y5)), (2, .v (.int .i64 y6)), (3, .pt 5 0 0)]) (by kernel_rfl) ?_)
  refine SemY.seq ?_
  refine SemY.region ?_
  refine RunY.segF (n := 16) e_evening_meetings_k3_y_k1_ok 8 [(8, .rf 2 0 y2.length y2.length), (14, .v (.int .i64 (wr .i64 ((wr .i64 (y5 * y4)) + y6))))] [some ⟨2, 65, [.ag [.v (.int .i64 y0), .e0]], false⟩, some ⟨2, 65, [.ag [.v (.int .i64 y1), .rf 2 0 y2.length y2.length]], false⟩, some ⟨1, 3, (y2.map cdI.enc), false⟩, some ⟨1, 36, [.sl 1 (y3.map (cdL 1 cdI).enc)], false⟩, none, some ⟨2, 65, [.ag [.v (.int .i64 y4), .rf 2 0 y2.length y2.length]], false⟩] (by kernel_rfl) ?_
  obtain ⟨v1, hv1, h⟩ := Option.bind_eq_some_iff.1 h
  refine RunY.one e_evening_meetings_k3_y_k1_ok 0 rfl (op_q (wantedA_none rfl) rfl (q_indexAddr (a := .rf 2 0 y2.length y2.length) (b := .v (.int .i64 (wr .i64 ((wr .i64 (y5 * y4)) + y6)))) (by kernel_rfl) (by kernel_rfl) (ix_rl (e := cdI.enc) (xs := y2) (t' := 3) (el := 3) (k := 1) (ki := .i64) (by kernel_rfl) (by kernel_rfl) (by kernel_rfl) hv1))) ?_
  refine RunY.segF (n := 16) e_evening_meetings_k3_y_k1_ok 1 [(6, .pt 2 ((wr .i64 ((wr .i64 (y5 * y4)) + y6)).toNat) 0)] [some ⟨2, 65, [.ag [.v (.int .i64 y0), .e0]], false⟩, some ⟨2, 65, [.ag [.v (.int .i64 y1), .rf 2 0 y2.length y2.length]], false⟩, some ⟨1, 3, (y2.map cdI.enc), false⟩, some ⟨1, 36, [.sl 1 (y3.map (cdL 1 cdI).enc)], false⟩, none, some ⟨2, 65, [.ag [.v (.int .i64 y4), .rf 2 0 y2.length y2.length]], false⟩] (by kernel_rfl) ?_
  refine RunY.done rfl (SemY.fr (l' := [(6, .pt 2 ((wr .i64 ((wr .i64 (y5 * y4)) + y6)).toNat) 0)]) (by kernel_rfl) ?_)
  refine SemY.ret ?_
  have hq := Option.some.inj h; subst hq
  exact ⟨.inr rfl, [.pt 2 ((wr .i64 ((wr .i64 (y5 * y4)) + y6)).toNat) 0], (by kernel_rfl), (by kernel_rfl), (by kernel_rfl)⟩
def evening_meetings_k3_y (y0 : Int) (y1 : Int) (y2 : (List Int)) (y3 : (List (List Int))) (y4 : (List (List (List Int)))) (y5 : Int) (y6 : Int) (y7 : Int) (y8 : Int) : Option ((List Int)) :=
  (evening_meetings_k3_y_k1 y0 y1 y2 y3 y1 y7 y8).bind fun v1 =>
  (idx y2 (wr .i64 ((wr .i64 (y7 * y1)) + y8))).bind fun v2 =>
  some (y2.set ((wr .i64 ((wr .i64 (y7 * y1)) + y8)).toNat) (wr .i64 (v2 + 1)))
set_option maxHeartbeats 4000000 in
set_option maxRecDepth 100000 in
theorem evening_meetings_k3_y_sem (y0 : Int) (y1 : Int) (y2 : (List Int)) (y3 : (List (List Int))) (y4 : (List (List (List Int)))) (y5 : Int) (y6 : Int) (y7 : Int) (y8 : Int) (r : (List Int)) (h : evening_meetings_k3_y y0 y1 y2 y3 y4 y5 y6 y7 y8 = some r) : SemY e_evening_meetings ⟨none, true⟩ (asgOf (pc cb_evening_meetings [1, 1, 0, 1, 0, 0, 1, 1, 0, 0, 1, 1, 0])) ⟨Fr 32 [(21, .v (.int .i64 y8)), (20, .v (.int .i64 y7)), (4, .pt 0 0 0), (5, .pt 1 0 0), (12, .sl 1 (y4.map (cdL 1 (cdL 1 cdI)).enc)), (13, .v (.int .i64 y5)), (14, .v (.int .i64 y6)), (19, .fn 76 [] [.pt 3 0 0])], [some ⟨2, 65, [.ag [.v (.int .i64 y0), .e0]], false⟩, some ⟨2, 65, [.ag [.v (.int .i64 y1), .rf 2 0 y2.length y2.length]], false⟩, some ⟨1, 3, (y2.map cdI.enc), false⟩, some ⟨1, 36, [.sl 1 (y3.map (cdL 1 cdI).enc)], false⟩, none]⟩ fun e s1 => e = .normal ∧ SemY e_evening_meetings ⟨none, true⟩ (bdyOf (pc cb_evening_meetings [1, 1, 0, 1, 0, 0, 1, 1, 0, 0, 1, 1, 0])) s1 fun e s2 => e = .normal ∧ s2.hp = [some ⟨2, 65, [.ag [.v (.int .i64 y0), .e0]], false⟩, some ⟨2, 65, [.ag [.v (.int .i64 y1), .rf 2 0 r.length r.length]], false⟩, some ⟨1, 3, (r.map cdI.enc), false⟩, some ⟨1, 36, [.sl 1 (y3.map (cdL 1 cdI).enc)], false⟩, none] := by
  unfold evening_meetings_k3_y at h
  refine SemY.seq ?_
  refine SemY.region ?_
  refine RunY.segF (n := 32) e_evening_meetings_ok 1 [(5, .pt 1 0 0), (8, .v (.int .i64 y7)), (21, .v (.int .i64 y8))] [some ⟨2, 65, [.ag [.v (.int .i64 y0), .e0]], false⟩, some ⟨2, 65, [.ag [.v (.int .i64 y1), .rf 2 0 y2.length y2.length]], false⟩, some ⟨1, 3, (y2.map cdI.enc), false⟩, some ⟨1, 36, [.sl 1 (y3.map (cdL 1 cdI).enc)], false⟩, none] (by kernel_rfl) ?_
  refine RunY.done rfl (SemY.fr (l' := [(5, .pt 1 0 0), (8, .v (.int .i64 y7)), (21, .v (.int .i64 y8))]) (by kernel_rfl) ?_)
  refine SemY.region ?_
  refine RunY.segF (n := 32) e_evening_meetings_ok 1 [(5, .pt 1 0 0), (8, .v (.int .i64 y7)), (9, .v (.int .i64 y8))] [some ⟨2, 65, [.ag [.v (.int .i64 y0), .e0]], false⟩, some ⟨2, 65, [.ag [.v (.int .i64 y1), .rf 2 0 y2.length y2.length]], false⟩, some ⟨1, 3, (y2.map cdI.enc), false⟩, some ⟨1, 36, [.sl 1 (y3.map (cdL 1 cdI).enc)], false⟩, none] (by kernel_rfl) ?_
  refine RunY.done rfl ?_
  refine ⟨rfl, ?_⟩
  refine SemY.block ?_
  refine SemY.region ?_
  refine RunY.segF (n := 32) e_evening_meetings_ok 3 [(22, .ag [.v (.int .i64 y1), .rf 2 0 y2.length y2.length]), (23, .v (.int .i64 y7)), (24, .v (.int .i64 y8))] [some ⟨2, 65, [.ag [.v (.int .i64 y0), .e0]], false⟩, some ⟨2, 65, [.ag [.v (.int .i64 y1), .rf 2 0 y2.length y2.length]], false⟩, some ⟨1, 3, (y2.map cdI.enc), false⟩, some ⟨1, 36, [.sl 1 (y3.map (cdL 1 cdI).enc)], false⟩, none] (by kernel_rfl) ?_
  obtain ⟨v1, hv1, h⟩ := Option.bind_eq_some_iff.1 h
  obtain ⟨v2, hv2, h⟩ := Option.bind_eq_some_iff.1 h
  refine RunY.inl (fid := 49) (caps := []) (xs := [.ag [.v (.int .i64 y1), .rf 2 0 y2.length y2.length], .v (.int .i64 y7), .v (.int .i64 y8)]) (fn := Tryd.f49) (Out := fun x h' => x = .pt 2 ((wr .i64 ((wr .i64 (y7 * y1)) + y8)).toNat) 0 ∧ h' = [some ⟨2, 65, [.ag [.v (.int .i64 y0), .e0]], false⟩, some ⟨2, 65, [.ag [.v (.int .i64 y1), .rf 2 0 y2.length y2.length]], false⟩, some ⟨1, 3, (y2.map cdI.enc), false⟩, some ⟨1, 36, [.sl 1 (y3.map (cdL 1 cdI).enc)], false⟩, none, some ⟨2, 65, [.ag [.v (.int .i64 v1), .rf 2 0 y2.length y2.length]], false⟩]) rfl rfl e_evening_meetings_k3_y_k1_ok rfl rfl 5 (by kernel_rfl) rfl (wantedA_none rfl) (by kernel_rfl) (by kernel_rfl) (by kernel_rfl) (by kernel_rfl) (by show 3 ≤ 16; decide) (evening_meetings_k3_y_k1_sem y0 y1 y2 y3 y1 y7 y8 _ hv1) ?_
  rintro x h' ⟨rfl, rfl⟩
  refine ⟨[some ⟨2, 65, [.ag [.v (.int .i64 y0), .e0]], false⟩, some ⟨2, 65, [.ag [.v (.int .i64 y1), .rf 2 0 y2.length y2.length]], false⟩, some ⟨1, 3, (y2.map cdI.enc), false⟩, some ⟨1, 36, [.sl 1 (y3.map (cdL 1 cdI).enc)], false⟩, none], by kernel_rfl, ⟨⟨_, rfl, bu_d⟩, ⟨_, rfl, bu_d⟩, ⟨_, rfl, bu_own⟩, ⟨_, rfl, bu_d⟩, ⟨_, rfl, bu_none⟩, trivial⟩, ⟨by kernel_rfl, by kernel_rfl⟩, ?_⟩
  refine RunY.segF (n := 32) e_evening_meetings_ok 1 [(25, .pt 2 ((wr .i64 ((wr .i64 (y7 * y1)) + y8)).toNat) 0), (26, .pt 2 ((wr .i64 ((wr .i64 (y7 * y1)) + y8)).toNat) 0)] [some ⟨2, 65, [.ag [.v (.int .i64 y0), .e0]], false⟩, some ⟨2, 65, [.ag [.v (.int .i64 y1), .rf 2 0 y2.length y2.length]], false⟩, some ⟨1, 3, (y2.map cdI.enc), false⟩, some ⟨1, 36, [.sl 1 (y3.map (cdL 1 cdI).enc)], false⟩, none] (by kernel_rfl) ?_
  refine RunY.one e_evening_meetings_ok 0 rfl (op_q (wantedA_none rfl) rfl (q_load (p := .pt 2 ((wr .i64 ((wr .i64 (y7 * y1)) + y8)).toNat) 0) (by kernel_rfl) (ld_blk (B := ⟨1, 3, (y2.map cdI.enc), false⟩) (m := 1) (g := false) (e := cdI.enc) (xs := y2) (by kernel_rfl) (by kernel_rfl) (by kernel_rfl) rfl (idx_at hv2).2 (by kernel_rfl)))) ?_
  refine RunY.segF (n := 32) e_evening_meetings_ok 2 [(28, .v (.int .i64 (wr .i64 (v2 + 1)))), (29, .pt 2 ((wr .i64 ((wr .i64 (y7 * y1)) + y8)).toNat) 0)] [some ⟨2, 65, [.ag [.v (.int .i64 y0), .e0]], false⟩, some ⟨2, 65, [.ag [.v (.int .i64 y1), .rf 2 0 y2.length y2.length]], false⟩, some ⟨1, 3, (y2.map cdI.enc), false⟩, some ⟨1, 36, [.sl 1 (y3.map (cdL 1 cdI).enc)], false⟩, none] (by kernel_rfl) ?_
  refine RunY.store e_evening_meetings_ok (y := .pt 2 ((wr .i64 ((wr .i64 (y7 * y1)) + y8)).toNat) 0) (z := .v (.int .i64 (wr .i64 (v2 + 1)))) rfl (wantedA_none rfl) (by kernel_rfl) (by kernel_rfl) (st_blk (t' := 3) (k := 1) (e := cdI.enc) (xs := y2) (v := v2) (v' := (wr .i64 (v2 + 1))) (by kernel_rfl) (idx_at hv2).2 (by kernel_rfl) (by kernel_rfl) (by kernel_rfl)) ?_
  refine RunY.done rfl ?_
  have hq := Option.some.inj h; subst hq
  exact ⟨rfl, Eq.trans (b := [some ⟨2, 65, [.ag [.v (.int .i64 y0), .e0]], false⟩, some ⟨2, 65, [.ag [.v (.int .i64 y1), .rf 2 0 y2.length y2.length]], false⟩, some ⟨1, 3, ((y2.set ((wr .i64 ((wr .i64 (y7 * y1)) + y8)).toNat) (wr .i64 (v2 + 1))).map cdI.enc), false⟩, some ⟨1, 36, [.sl 1 (y3.map (cdL 1 cdI).enc)], false⟩, none]) (by kernel_rfl) (by simp only [List.length_set])⟩
def evening_meetings_k3_3 (y0 : Int) (y1 : Int) (y3 : (List (List Int))) (y4 : (List (List (List Int)))) (y5 : Int) (y6 : Int) (c186 : Int) (v189 : (List Int)) (c222 : Int) (v225 : Int) : Nat → Int → (List Int) → Option (((List Int)))
  | 0, _, _ => none
  | f + 1, c239, c240 =>
    if (decide (c239 < (v189.length : Int))) = true then
    (idx v189 c239).bind fun v242 =>
    if (c222 != c239) = true then
    (evening_meetings_k3_y y0 y1 c240 y3 y4 y5 y6 v225 v242).bind fun v243 =>
    evening_meetings_k3_3 y0 y1 y3 y4 y5 y6 c186 v189 c222 v225 f (wr .i64 (c239 + 1)) v243
    else
    evening_meetings_k3_3 y0 y1 y3 y4 y5 y6 c186 v189 c222 v225 f (wr .i64 (c239 + 1)) c240
    else
    some c240
def evening_meetings_k3_2 (y0 : Int) (y1 : Int) (y3 : (List (List Int))) (y4 : (List (List (List Int)))) (y5 : Int) (y6 : Int) (c186 : Int) (v189 : (List Int)) : Nat → Int → (List Int) → Option (((List Int)))
  | 0, _, _ => none
  | f + 1, c222, c223 =>
    if (decide (c222 < (v189.length : Int))) = true then
    (idx v189 c222).bind fun v225 =>
    (evening_meetings_k3_3 y0 y1 y3 y4 y5 y6 c186 v189 c222 v225 100000 0 c223).bind fun r246 =>
    evening_meetings_k3_2 y0 y1 y3 y4 y5 y6 c186 v189 f (wr .i64 (c222 + 1)) r246
    else
    some c223
def evening_meetings_k3_1 (y0 : Int) (y1 : Int) (y3 : (List (List Int))) (y4 : (List (List (List Int)))) (y5 : Int) (y6 : Int) : Nat → Int → (List Int) → Option (((List Int)))
  | 0, _, _ => none
  | f + 1, c186, c187 =>
    if (decide (c186 < (y3.length : Int))) = true then
    (idx y3 c186).bind fun v189 =>
    (evening_meetings_k3_2 y0 y1 y3 y4 y5 y6 c186 v189 100000 0 c187).bind fun r248 =>
    evening_meetings_k3_1 y0 y1 y3 y4 y5 y6 f (wr .i64 (c186 + 1)) r248
    else
    some c187
def evening_meetings_k3 (y0 : Int) (y1 : Int) (y2 : (List Int)) (y3 : (List (List Int))) (y4 : (List (List (List Int)))) (y5 : Int) (y6 : Int) : Option ((List Int)) :=
  (evening_meetings_k3_1 y0 y1 y3 y4 y5 y6 100000 0 y2).bind fun r250 =>
  some r250
set_option maxHeartbeats 4000000 in
set_option maxRecDepth 100000 in
theorem evening_meetings_k3_3_ok (y0 : Int) (y1 : Int) (y3 : (List (List Int))) (y4 : (List (List (List Int)))) (y5 : Int) (y6 : Int) (c186 : Int) (v189 : (List Int)) (c222 : Int) (v225 : Int) : ∀ (f : Nat) (c239 : Int) (c240 : (List Int)) (r : ((List Int))), evening_meetings_k3_3 y0 y1 y3 y4 y5 y6 c186 v189 c222 v225 f c239 c240 = some r → SemYN e_evening_meetings_k3 (cx_evening_meetings_k3 y4 y5 y6) (pc cb_evening_meetings_k3 [1, 0, 0, 1, 1, 0, 0, 1, 1, 0, 0, 1, 1, 0, 0, 1, 1, 0, 0]) f ⟨Fr 42 [(0, .yl 4), (4, .sl 1 (v189.map cdI.enc)), (5, .v (.int .i64 c222)), (6, .v (.int .i64 v225)), (9, .sl 1 (y3.map (cdL 1 cdI).enc)), (10, .v (.int .i64 (y3.length : Int))), (11, .v (.int .i64 c186)), (15, .sl 1 (v189.map cdI.enc)), (16, .v (.int .i64 (v189.length : Int))), (17, .v (.int .i64 c222)), (22, .sl 1 (v189.map cdI.enc)), (23, .v (.int .i64 (v189.length : Int))), (24, .v (.int .i64 c239))], [some ⟨2, 65, [.ag [.v (.int .i64 y0), .e0]], false⟩, some ⟨2, 65, [.ag [.v (.int .i64 y1), .rf 2 0 c240.length c240.length]], false⟩, some ⟨1, 3, (c240.map cdI.enc), false⟩, some ⟨1, 36, [.sl 1 (y3.map (cdL 1 cdI).enc)], false⟩, none]⟩ (fun e s => e = (.exit 4) ∧ WkY e_evening_meetings_k3 s ⟨Fr 42 [(0, .yl 4), (4, .sl 1 (v189.map cdI.enc)), (9, .sl 1 (y3.map (cdL 1 cdI).enc)), (10, .v (.int .i64 (y3.length : Int))), (11, .v (.int .i64 c186)), (15, .sl 1 (v189.map cdI.enc)), (16, .v (.int .i64 (v189.length : Int))), (17, .v (.int .i64 c222))], [some ⟨2, 65, [.ag [.v (.int .i64 y0), .e0]], false⟩, some ⟨2, 65, [.ag [.v (.int .i64 y1), .rf 2 0 r.length r.length]], false⟩, some ⟨1, 3, (r.map cdI.enc), false⟩, some ⟨1, 36, [.sl 1 (y3.map (cdL 1 cdI).enc)], false⟩, none]⟩) := by
  intro f
  induction f with
  | zero => intro c239 c240 r h; cases h
  | succ f ih0 =>
    intro c239 c240 r h
    have ih := fun (c239 : Int) (c240 : (List Int)) => ih0 c239 c240 r
    unfold evening_meetings_k3_3 at h
    refine SemYN.succ ?_
    refine SemY.seq ?_
    refine SemY.region ?_
    refine RunY.segF (n := 42) e_evening_meetings_k3_ok 1 [(0, .yl 4), (4, .sl 1 (v189.map cdI.enc)), (5, .v (.int .i64 c222)), (6, .v (.int .i64 v225)), (9, .sl 1 (y3.map (cdL 1 cdI).enc)), (10, .v (.int .i64 (y3.length : Int))), (11, .v (.int .i64 c186)), (15, .sl 1 (v189.map cdI.enc)), (16, .v (.int .i64 (v189.length : Int))), (17, .v (.int .i64 c222)), (22, .sl 1 (v189.map cdI.enc)), (23, .v (.int .i64 (v189.length : Int))), (24, .v (.int .i64 c239)), (25, .v (.bool (decide (c239 < (v189.length : Int)))))] [some ⟨2, 65, [.ag [.v (.int .i64 y0), .e0]], false⟩, some ⟨2, 65, [.ag [.v (.int .i64 y1), .rf 2 0 c240.length c240.length]], false⟩, some ⟨1, 3, (c240.map cdI.enc), false⟩, some ⟨1, 36, [.sl 1 (y3.map (cdL 1 cdI).enc)], false⟩, none] (by kernel_rfl) ?_
    refine RunY.done rfl (SemY.fr (l' := [(0, .yl 4), (4, .sl 1 (v189.map cdI.enc)), (5, .v (.int .i64 c222)), (6, .v (.int .i64 v225)), (9, .sl 1 (y3.map (cdL 1 cdI).enc)), (10, .v (.int .i64 (y3.length : Int))), (11, .v (.int .i64 c186)), (15, .sl 1 (v189.map cdI.enc)), (16, .v (.int .i64 (v189.length : Int))), (17, .v (.int .i64 c222)), (22, .sl 1 (v189.map cdI.enc)), (23, .v (.int .i64 (v189.length : Int))), (24, .v (.int .i64 c239)), (25, .v (.bool (decide (c239 < (v189.length : Int)))))]) (by kernel_rfl) ?_)
    refine SemY.seq ?_
    refine SemY.cond (b := (decide (c239 < (v189.length : Int)))) (by kernel_rfl) (fun hb241 => ?_) (fun hb241 => ?_)
    · rw [if_pos hb241] at h
      refine SemY.skip ?_
      refine SemY.seq ?_
      refine SemY.block ?_
      refine SemY.seq ?_
      refine SemY.region ?_
      refine RunY.segF (n := 42) e_evening_meetings_k3_ok 1 [(0, .yl 4), (4, .sl 1 (v189.map cdI.enc)), (5, .v (.int .i64 c222)), (6, .v (.int .i64 v225)), (9, .sl 1 (y3.map (cdL 1 cdI).enc)), (10, .v (.int .i64 (y3.length : Int))), (11, .v (.int .i64 c186)), (15, .sl 1 (v189.map cdI.enc)), (16, .v (.int .i64 (v189.length : Int))), (17, .v (.int .i64 c222)), (22, .sl 1 (v189.map cdI.enc)), (23, .v (.int .i64 (v189.length : Int))), (24, .v (.int .i64 c239)), (26, .v (.int .i64 c239))] [some ⟨2, 65, [.ag [.v (.int .i64 y0), .e0]], false⟩, some ⟨2, 65, [.ag [.v (.int .i64 y1), .rf 2 0 c240.length c240.length]], false⟩, some ⟨1, 3, (c240.map cdI.enc), false⟩, some ⟨1, 36, [.sl 1 (y3.map (cdL 1 cdI).enc)], false⟩, none] (by kernel_rfl) ?_
      obtain ⟨v242, hv242, h⟩ := Option.bind_eq_some_iff.1 h
      refine RunY.one e_evening_meetings_k3_ok 0 rfl (op_q (wantedA_none rfl) rfl (q_indexAddr (a := .sl 1 (v189.map cdI.enc)) (b := .v (.int .i64 c239)) (by kernel_rfl) (by kernel_rfl) (ix_sl (e := cdI.enc) (el := 3) (k := 1) (ki := .i64) (by kernel_rfl) (by kernel_rfl) hv242))) ?_
      refine RunY.segF (n := 42) e_evening_meetings_k3_ok 3 [(0, .yl 4), (4, .sl 1 (v189.map cdI.enc)), (5, .v (.int .i64 c222)), (6, .v (.int .i64 v225)), (7, .v (.int .i64 c239)), (8, .v (.int .i64 v242)), (9, .sl 1 (y3.map (cdL 1 cdI).enc)), (10, .v (.int .i64 (y3.length : Int))), (11, .v (.int .i64 c186)), (15, .sl 1 (v189.map cdI.enc)), (16, .v (.int .i64 (v189.length : Int))), (17, .v (.int .i64 c222)), (22, .sl 1 (v189.map cdI.enc)), (23, .v (.int .i64 (v189.length : Int))), (24, .v (.int .i64 c239))] [some ⟨2, 65, [.ag [.v (.int .i64 y0), .e0]], false⟩, some ⟨2, 65, [.ag [.v (.int .i64 y1), .rf 2 0 c240.length c240.length]], false⟩, some ⟨1, 3, (c240.map cdI.enc), false⟩, some ⟨1, 36, [.sl 1 (y3.map (cdL 1 cdI).enc)], false⟩, none] (by kernel_rfl) ?_
      refine RunY.done rfl (SemY.fr (l' := [(0, .yl 4), (4, .sl 1 (v189.map cdI.enc)), (5, .v (.int .i64 c222)), (6, .v (.int .i64 v225)), (7, .v (.int .i64 c239)), (8, .v (.int .i64 v242)), (9, .sl 1 (y3.map (cdL 1 cdI).enc)), (10, .v (.int .i64 (y3.length : Int))), (11, .v (.int .i64 c186)), (15, .sl 1 (v189.map cdI.enc)), (16, .v (.int .i64 (v189.length : Int))), (17, .v (.int .i64 c222)), (22, .sl 1 (v189.map cdI.enc)), (23, .v (.int .i64 (v189.length : Int))), (24, .v (.int .i64 c239))]) (by kernel_rfl) ?_)
      refine SemY.seq ?_
      refine SemY.region ?_
      refine RunY.segF (n := 42) e_evening_meetings_k3_ok 4 [(0, .yl 4), (4, .sl 1 (v189.map cdI.enc)), (5, .v (.int .i64 c222)), (6, .v (.int .i64 v225)), (8, .v (.int .i64 v242)), (9, .sl 1 (y3.map (cdL 1 cdI).enc)), (10, .v (.int .i64 (y3.length : Int))), (11, .v (.int .i64 c186)), (15, .sl 1 (v189.map cdI.enc)), (16, .v (.int .i64 (v189.length : Int))), (17, .v (.int .i64 c222)), (22, .sl 1 (v189.map cdI.enc)), (23, .v (.int .i64 (v189.length : Int))), (24, .v (.int .i64 c239)), (32, .v (.bool (c222 != c239)))] [some ⟨2, 65, [.ag [.v (.int .i64 y0), .e0]], false⟩, some ⟨2, 65, [.ag [.v (.int .i64 y1), .rf 2 0 c240.length c240.length]], false⟩, some ⟨1, 3, (c240.map cdI.enc), false⟩, some ⟨1, 36, [.sl 1 (y3.map (cdL 1 cdI).enc)], false⟩, none] (by kernel_rfl) ?_
      rcases Bool.eq_false_or_eq_true (c222 != c239) with hc244 | hc244
      · rw [if_pos hc244] at h
        rw [hc244]
        refine RunY.segF (n := 42) e_evening_meetings_k3_ok 3 [(0, .yl 4), (4, .sl 1 (v189.map cdI.enc)), (5, .v (.int .i64 c222)), (6, .v (.int .i64 v225)), (9, .sl 1 (y3.map (cdL 1 cdI).enc)), (10, .v (.int .i64 (y3.length : Int))), (11, .v (.int .i64 c186)), (15, .sl 1 (v189.map cdI.enc)), (16, .v (.int .i64 (v189.length : Int))), (17, .v (.int .i64 c222)), (22, .sl 1 (v189.map cdI.enc)), (23, .v (.int .i64 (v189.length : Int))), (24, .v (.int .i64 c239)), (32, .v (.bool true)), (33, .yl 4), (34, .v (.int .i64 v225)), (35, .v (.int .i64 v242))] [some ⟨2, 65, [.ag [.v (.int .i64 y0), .e0]], false⟩, some ⟨2, 65, [.ag [.v (.int .i64 y1), .rf 2 0 c240.length c240.length]], false⟩, some ⟨1, 3, (c240.map cdI.enc), false⟩, some ⟨1, 36, [.sl 1 (y3.map (cdL 1 cdI).enc)], false⟩, none] (by kernel_rfl) ?_
        obtain ⟨v243, hv243, h⟩ := Option.bind_eq_some_iff.1 h
        refine RunY.yield (K1 := fun h' => h' = [some ⟨2, 65, [.ag [.v (.int .i64 y0), .e0]], false⟩, some ⟨2, 65, [.ag [.v (.int .i64 y1), .rf 2 0 v243.length v243.length]], false⟩, some ⟨1, 3, (v243.map cdI.enc), false⟩, some ⟨1, 36, [.sl 1 (y3.map (cdL 1 cdI).enc)], false⟩, none]) rfl rfl (eb := e_evening_meetings) rfl rfl rfl rfl rfl (by kernel_rfl) (by kernel_rfl) (xs := [.v (.int .i64 v225), .v (.int .i64 v242)]) (by kernel_rfl) rfl rfl (evening_meetings_k3_y_sem y0 y1 c240 y3 y4 y5 y6 v225 v242 _ hv243) ?_
        rintro h' rfl
        refine RunY.segF (n := 42) e_evening_meetings_k3_ok 2 [(0, .yl 4), (4, .sl 1 (v189.map cdI.enc)), (5, .v (.int .i64 c222)), (6, .v (.int .i64 v225)), (9, .sl 1 (y3.map (cdL 1 cdI).enc)), (10, .v (.int .i64 (y3.length : Int))), (11, .v (.int .i64 c186)), (15, .sl 1 (v189.map cdI.enc)), (16, .v (.int .i64 (v189.length : Int))), (17, .v (.int .i64 c222)), (22, .sl 1 (v189.map cdI.enc)), (23, .v (.int .i64 (v189.length : Int))), (24, .v (.int .i64 c239)), (33, .yl 4), (34, .v (.int .i64 v225)), (35, .v (.int .i64 v242)), (36, .v (.bool true)), (37, .v (.bool false)), (38, .v (.bool false))] [some ⟨2, 65, [.ag [.v (.int .i64 y0), .e0]], false⟩, some ⟨2, 65, [.ag [.v (.int .i64 y1), .rf 2 0 v243.length v243.length]], false⟩, some ⟨1, 3, (v243.map cdI.enc), false⟩, some ⟨1, 36, [.sl 1 (y3.map (cdL 1 cdI).enc)], false⟩, none] (by kernel_rfl) ?_
        refine RunY.done rfl (SemY.fr (l' := [(0, .yl 4), (4, .sl 1 (v189.map cdI.enc)), (5, .v (.int .i64 c222)), (6, .v (.int .i64 v225)), (9, .sl 1 (y3.map (cdL 1 cdI).enc)), (10, .v (.int .i64 (y3.length : Int))), (11, .v (.int .i64 c186)), (15, .sl 1 (v189.map cdI.enc)), (16, .v (.int .i64 (v189.length : Int))), (17, .v (.int .i64 c222)), (22, .sl 1 (v189.map cdI.enc)), (23, .v (.int .i64 (v189.length : Int))), (24, .v (.int .i64 c239)), (33, .yl 4), (34, .v (.int .i64 v225)), (35, .v (.int .i64 v242)), (36, .v (.bool true)), (37, .v (.bool false)), (38, .v (.bool false))]) (by kernel_rfl) ?_)
        refine SemY.cond_false (by kernel_rfl) ?_
        refine SemY.skip ?_
        refine SemY.region ?_
        refine RunY.segF (n := 42) e_evening_meetings_k3_ok 2 [(0, .yl 4), (4, .sl 1 (v189.map cdI.enc)), (5, .v (.int .i64 c222)), (6, .v (.int .i64 v225)), (9, .sl 1 (y3.map (cdL 1 cdI).enc)), (10, .v (.int .i64 (y3.length : Int))), (11, .v (.int .i64 c186)), (15, .sl 1 (v189.map cdI.enc)), (16, .v (.int .i64 (v189.length : Int))), (17, .v (.int .i64 c222)), (22, .sl 1 (v189.map cdI.enc)), (23, .v (.int .i64 (v189.length : Int))), (24, .v (.int .i64 (wr .i64 (c239 + 1)))), (33, .yl 4), (34, .v (.int .i64 v225)), (35, .v (.int .i64 v242)), (36, .v (.bool true)), (37, .v (.bool false))] [some ⟨2, 65, [.ag [.v (.int .i64 y0), .e0]], false⟩, some ⟨2, 65, [.ag [.v (.int .i64 y1), .rf 2 0 v243.length v243.length]], false⟩, some ⟨1, 3, (v243.map cdI.enc), false⟩, some ⟨1, 36, [.sl 1 (y3.map (cdL 1 cdI).enc)], false⟩, none] (by kernel_rfl) ?_
        refine RunY.done rfl ?_
        exact SemYN.wk (s1 := ⟨Fr 42 [(0, .yl 4), (4, .sl 1 (v189.map cdI.enc)), (5, .v (.int .i64 c222)), (6, .v (.int .i64 v225)), (9, .sl 1 (y3.map (cdL 1 cdI).enc)), (10, .v (.int .i64 (y3.length : Int))), (11, .v (.int .i64 c186)), (15, .sl 1 (v189.map cdI.enc)), (16, .v (.int .i64 (v189.length : Int))), (17, .v (.int .i64 c222)), (22, .sl 1 (v189.map cdI.enc)), (23, .v (.int .i64 (v189.length : Int))), (24, .v (.int .i64 (wr .i64 (c239 + 1))))], [some ⟨2, 65, [.ag [.v (.int .i64 y0), .e0]], false⟩, some ⟨2, 65, [.ag [.v (.int .i64 y1), .rf 2 0 v243.length v243.length]], false⟩, some ⟨1, 3, (v243.map cdI.enc), false⟩, some ⟨1, 36, [.sl 1 (y3.map (cdL 1 cdI).enc)], false⟩, none]⟩) (WkY.fr (by kernel_rfl)) (ih (wr .i64 (c239 + 1)) v243 h)
      · rw [if_f hc244] at h
        rw [hc244]
        refine RunY.segF (n := 42) e_evening_meetings_k3_ok 6 [(0, .yl 4), (4, .sl 1 (v189.map cdI.enc)), (5, .v (.int .i64 c222)), (6, .v (.int .i64 v225)), (9, .sl 1 (y3.map (cdL 1 cdI).enc)), (10, .v (.int .i64 (y3.length : Int))), (11, .v (.int .i64 c186)), (15, .sl 1 (v189.map cdI.enc)), (16, .v (.int .i64 (v189.length : Int))), (17, .v (.int .i64 c222)), (22, .sl 1 (v189.map cdI.enc)), (23, .v (.int .i64 (v189.length : Int))), (24, .v (.int .i64 c239)), (33, .tp []), (34, .tp []), (35, .tp []), (36, .tp []), (37, .tp []), (38, .v (.bool false))] [some ⟨2, 65, [.ag [.v (.int .i64 y0), .e0]], false⟩, some ⟨2, 65, [.ag [.v (.int .i64 y1), .rf 2 0 c240.length c240.length]], false⟩, some ⟨1, 3, (c240.map cdI.enc), false⟩, some ⟨1, 36, [.sl 1 (y3.map (cdL 1 cdI).enc)], false⟩, none] (by kernel_rfl) ?_
        refine RunY.done rfl (SemY.fr (l' := [(0, .yl 4), (4, .sl 1 (v189.map cdI.enc)), (5, .v (.int .i64 c222)), (6, .v (.int .i64 v225)), (9, .sl 1 (y3.map (cdL 1 cdI).enc)), (10, .v (.int .i64 (y3.length : Int))), (11, .v (.int .i64 c186)), (15, .sl 1 (v189.map cdI.enc)), (16, .v (.int .i64 (v189.length : Int))), (17, .v (.int .i64 c222)), (22, .sl 1 (v189.map cdI.enc)), (23, .v (.int .i64 (v189.length : Int))), (24, .v (.int .i64 c239)), (33, .tp []), (34, .tp []), (35, .tp []), (36, .tp []), (37, .tp []), (38, .v (.bool false))]) (by kernel_rfl) ?_)
        refine SemY.cond_false (by kernel_rfl) ?_
        refine SemY.skip ?_
        refine SemY.region ?_
        refine RunY.segF (n := 42) e_evening_meetings_k3_ok 2 [(0, .yl 4), (4, .sl 1 (v189.map cdI.enc)), (5, .v (.int .i64 c222)), (6, .v (.int .i64 v225)), (9, .sl 1 (y3.map (cdL 1 cdI).enc)), (10, .v (.int .i64 (y3.length : Int))), (11, .v (.int .i64 c186)), (15, .sl 1 (v189.map cdI.enc)), (16, .v (.int .i64 (v189.length : Int))), (17, .v (.int .i64 c222)), (22, .sl 1 (v189.map cdI.enc)), (23, .v (.int .i64 (v189.length : Int))), (24, .v (.int .i64 (wr .i64 (c239 + 1)))), (33, .tp []), (34, .tp []), (35, .tp []), (36, .tp []), (37, .tp [])] [some ⟨2, 65, [.ag [.v (.int .i64 y0), .e0]], false⟩, some ⟨2, 65, [.ag [.v (.int .i64 y1), .rf 2 0 c240.length c240.length]], false⟩, some ⟨1, 3, (c240.map cdI.enc), false⟩, some ⟨1, 36, [.sl 1 (y3.map (cdL 1 cdI).enc)], false⟩, none] (by kernel_rfl) ?_
        refine RunY.done rfl ?_
        exact SemYN.wk (s1 := ⟨Fr 42 [(0, .yl 4), (4, .sl 1 (v189.map cdI.enc)), (5, .v (.int .i64 c222)), (6, .v (.int .i64 v225)), (9, .sl 1 (y3.map (cdL 1 cdI).enc)), (10, .v (.int .i64 (y3.length : Int))), (11, .v (.int .i64 c186)), (15, .sl 1 (v189.map cdI.enc)), (16, .v (.int .i64 (v189.length : Int))), (17, .v (.int .i64 c222)), (22, .sl 1 (v189.map cdI.enc)), (23, .v (.int .i64 (v189.length : Int))), (24, .v (.int .i64 (wr .i64 (c239 + 1))))], [some ⟨2, 65, [.ag [.v (.int .i64 y0), .e0]], false⟩, some ⟨2, 65, [.ag [.v (.int .i64 y1), .rf 2 0 c240.length c240.length]], false⟩, some ⟨1, 3, (c240.map cdI.enc), false⟩, some ⟨1, 36, [.sl 1 (y3.map (cdL 1 cdI).enc)], false⟩, none]⟩) (WkY.fr (by kernel_rfl)) (ih (wr .i64 (c239 + 1)) c240 h)
    · rw [if_f hb241] at h
      refine SemY.exit ?_
      have hq := Option.some.inj h; subst hq
      exact ⟨rfl, (WkY.fr (by kernel_rfl))⟩
set_option maxHeartbeats 4000000 in
set_option maxRecDepth 100000 in
theorem evening_meetings_k3_2_ok (y0 : Int) (y1 : Int) (y3 : (List (List Int))) (y4 : (List (List (List Int)))) (y5 : Int) (y6 : Int) (c186 : Int) (v189 : (List Int)) : ∀ (f : Nat) (c222 : Int) (c223 : (List Int)) (r : ((List Int))), evening_meetings_k3_2 y0 y1 y3 y4 y5 y6 c186 v189 f c222 c223 = some r → SemYN e_evening_meetings_k3 (cx_evening_meetings_k3 y4 y5 y6) (pc cb_evening_meetings_k3 [1, 0, 0, 1, 1, 0, 0, 1, 1, 0, 0]) f ⟨Fr 42 [(0, .yl 4), (4, .sl 1 (v189.map cdI.enc)), (9, .sl 1 (y3.map (cdL 1 cdI).enc)), (10, .v (.int .i64 (y3.length : Int))), (11, .v (.int .i64 c186)), (15, .sl 1 (v189.map cdI.enc)), (16, .v (.int .i64 (v189.length : Int))), (17, .v (.int .i64 c222))], [some ⟨2, 65, [.ag [.v (.int .i64 y0), .e0]], false⟩, some ⟨2, 65, [.ag [.v (.int .i64 y1), .rf 2 0 c223.length c223.length]], false⟩, some ⟨1, 3, (c223.map cdI.enc), false⟩, some ⟨1, 36, [.sl 1 (y3.map (cdL 1 cdI).enc)], false⟩, none]⟩ (fun e s => e = (.exit 2) ∧ WkY e_evening_meetings_k3 s ⟨Fr 42 [(0, .yl 4), (9, .sl 1 (y3.map (cdL 1 cdI).enc)), (10, .v (.int .i64 (y3.length : Int))), (11, .v (.int .i64 c186))], [some ⟨2, 65, [.ag [.v (.int .i64 y0), .e0]], false⟩, some ⟨2, 65, [.ag [.v (.int .i64 y1), .rf 2 0 r.length r.length]], false⟩, some ⟨1, 3, (r.map cdI.enc), false⟩, some ⟨1, 36, [.sl 1 (y3.map (cdL 1 cdI).enc)], false⟩, none]⟩) := by
  intro f
  induction f with
  | zero => intro c222 c223 r h; cases h
  | succ f ih0 =>
    intro c222 c223 r h
    have ih := fun (c222 : Int) (c223 : (List Int)) => ih0 c222 c223 r
    unfold evening_meetings_k3_2 at h
    refine SemYN.succ ?_
    refine SemY.seq ?_
    refine SemY.region ?_
    refine RunY.segF (n := 42) e_evening_meetings_k3_ok 1 [(0, .yl 4), (4, .sl 1 (v189.map cdI.enc)), (9, .sl 1 (y3.map (cdL 1 cdI).enc)), (10, .v (.int .i64 (y3.length : Int))), (11, .v (.int .i64 c186)), (15, .sl 1 (v189.map cdI.enc)), (16, .v (.int .i64 (v189.length : Int))), (17, .v (.int .i64 c222)), (18, .v (.bool (decide (c222 < (v189.length : Int)))))] [some ⟨2, 65, [.ag [.v (.int .i64 y0), .e0]], false⟩, some ⟨2, 65, [.ag [.v (.int .i64 y1), .rf 2 0 c223.length c223.length]], false⟩, some ⟨1, 3, (c223.map cdI.enc), false⟩, some ⟨1, 36, [.sl 1 (y3.map (cdL 1 cdI).enc)], false⟩, none] (by kernel_rfl) ?_
    refine RunY.done rfl (SemY.fr (l' := [(0, .yl 4), (4, .sl 1 (v189.map cdI.enc)), (9, .sl 1 (y3.map (cdL 1 cdI).enc)), (10, .v (.int .i64 (y3.length : Int))), (11, .v (.int .i64 c186)), (15, .sl 1 (v189.map cdI.enc)), (16, .v (.int .i64 (v189.length : Int))), (17, .v (.int .i64 c222)), (18, .v (.bool (decide (c222 < (v189.length : Int)))))]) (by kernel_rfl) ?_)
    refine SemY.seq ?_
    refine SemY.cond (b := (decide (c222 < (v189.length : Int)))) (by kernel_rfl) (fun hb224 => ?_) (fun hb224 => ?_)
    · rw [if_pos hb224] at h
      refine SemY.skip ?_
      refine SemY.seq ?_
      refine SemY.block ?_
      refine SemY.seq ?_
      refine SemY.region ?_
      refine RunY.segF (n := 42) e_evening_meetings_k3_ok 1 [(0, .yl 4), (4, .sl 1 (v189.map cdI.enc)), (9, .sl 1 (y3.map (cdL 1 cdI).enc)), (10, .v (.int .i64 (y3.length : Int))), (11, .v (.int .i64 c186)), (15, .sl 1 (v189.map cdI.enc)), (16, .v (.int .i64 (v189.length : Int))), (17, .v (.int .i64 c222)), (19, .v (.int .i64 c222))] [some ⟨2, 65, [.ag [.v (.int .i64 y0), .e0]], false⟩, some ⟨2, 65, [.ag [.v (.int .i64 y1), .rf 2 0 c223.length c223.length]], false⟩, some ⟨1, 3, (c223.map cdI.enc), false⟩, some ⟨1, 36, [.sl 1 (y3.map (cdL 1 cdI).enc)], false⟩, none] (by kernel_rfl) ?_
      obtain ⟨v225, hv225, h⟩ := Option.bind_eq_some_iff.1 h
      refine RunY.one e_evening_meetings_k3_ok 0 rfl (op_q (wantedA_none rfl) rfl (q_indexAddr (a := .sl 1 (v189.map cdI.enc)) (b := .v (.int .i64 c222)) (by kernel_rfl) (by kernel_rfl) (ix_sl (e := cdI.enc) (el := 3) (k := 1) (ki := .i64) (by kernel_rfl) (by kernel_rfl) hv225))) ?_
      refine RunY.segF (n := 42) e_evening_meetings_k3_ok 3 [(0, .yl 4), (4, .sl 1 (v189.map cdI.enc)), (5, .v (.int .i64 c222)), (6, .v (.int .i64 v225)), (9, .sl 1 (y3.map (cdL 1 cdI).enc)), (10, .v (.int .i64 (y3.length : Int))), (11, .v (.int .i64 c186)), (15, .sl 1 (v189.map cdI.enc)), (16, .v (.int .i64 (v189.length : Int))), (17, .v (.int .i64 c222))] [some ⟨2, 65, [.ag [.v (.int .i64 y0), .e0]], false⟩, some ⟨2, 65, [.ag [.v (.int .i64 y1), .rf 2 0 c223.length c223.length]], false⟩, some ⟨1, 3, (c223.map cdI.enc), false⟩, some ⟨1, 36, [.sl 1 (y3.map (cdL 1 cdI).enc)], false⟩, none] (by kernel_rfl) ?_
      refine RunY.done rfl (SemY.fr (l' := [(0, .yl 4), (4, .sl 1 (v189.map cdI.enc)), (5, .v (.int .i64 c222)), (6, .v (.int .i64 v225)), (9, .sl 1 (y3.map (cdL 1 cdI).enc)), (10, .v (.int .i64 (y3.length : Int))), (11, .v (.int .i64 c186)), (15, .sl 1 (v189.map cdI.enc)), (16, .v (.int .i64 (v189.length : Int))), (17, .v (.int .i64 c222))]) (by kernel_rfl) ?_)
      refine SemY.seq ?_
      refine SemY.region ?_
      refine RunY.segF (n := 42) e_evening_meetings_k3_ok 1 [(0, .yl 4), (4, .sl 1 (v189.map cdI.enc)), (5, .v (.int .i64 c222)), (6, .v (.int .i64 v225)), (9, .sl 1 (y3.map (cdL 1 cdI).enc)), (10, .v (.int .i64 (y3.length : Int))), (11, .v (.int .i64 c186)), (15, .sl 1 (v189.map cdI.enc)), (16, .v (.int .i64 (v189.length : Int))), (17, .v (.int .i64 c222)), (22, .sl 1 (v189.map cdI.enc))] [some ⟨2, 65, [.ag [.v (.int .i64 y0), .e0]], false⟩, some ⟨2, 65, [.ag [.v (.int .i64 y1), .rf 2 0 c223.length c223.length]], false⟩, some ⟨1, 3, (c223.map cdI.enc), false⟩, some ⟨1, 36, [.sl 1 (y3.map (cdL 1 cdI).enc)], false⟩, none] (by kernel_rfl) ?_
      refine RunY.one e_evening_meetings_k3_ok 0 rfl (op_q (wantedA_none rfl) rfl (q_len (a := .sl 1 (v189.map cdI.enc)) (by kernel_rfl) (len_sl (el := 3) (by kernel_rfl)))) ?_
      refine RunY.segF (n := 42) e_evening_meetings_k3_ok 1 [(0, .yl 4), (4, .sl 1 (v189.map cdI.enc)), (5, .v (.int .i64 c222)), (6, .v (.int .i64 v225)), (9, .sl 1 (y3.map (cdL 1 cdI).enc)), (10, .v (.int .i64 (y3.length : Int))), (11, .v (.int .i64 c186)), (15, .sl 1 (v189.map cdI.enc)), (16, .v (.int .i64 (v189.length : Int))), (17, .v (.int .i64 c222)), (22, .sl 1 (v189.map cdI.enc)), (23, .v (.int .i64 (v189.length : Int))), (24, .v (.int .i64 0))] [some ⟨2, 65, [.ag [.v (.int .i64 y0), .e0]], false⟩, some ⟨2, 65, [.ag [.v (.int .i64 y1), .rf 2 0 c223.length c223.length]], false⟩, some ⟨1, 3, (c223.map cdI.enc), false⟩, some ⟨1, 36, [.sl 1 (y3.map (cdL 1 cdI).enc)], false⟩, none] (by kernel_rfl) ?_
      refine RunY.done rfl (SemY.fr (l' := [(0, .yl 4), (4, .sl 1 (v189.map cdI.enc)), (5, .v (.int .i64 c222)), (6, .v (.int .i64 v225)), (9, .sl 1 (y3.map (cdL 1 cdI).enc)), (10, .v (.int .i64 (y3.length : Int))), (11, .v (.int .i64 c186)), (15, .sl 1 (v189.map cdI.enc)), (16, .v (.int .i64 (v189.length : Int))), (17, .v (.int .i64 c222)), (22, .sl 1 (v189.map cdI.enc)), (23, .v (.int .i64 (v189.length : Int))), (24, .v (.int .i64 0))]) (by kernel_rfl) ?_)
      refine SemY.block ?_
      obtain ⟨r246, hr246, h⟩ := Option.bind_eq_some_iff.1 h
      refine SemY.loop (n := 100000) ?_
      refine SemY.cutN (SemYN.wk (s1 := ⟨Fr 42 [(0, .yl 4), (4, .sl 1 (v189.map cdI.enc)), (5, .v (.int .i64 c222)), (6, .v (.int .i64 v225)), (9, .sl 1 (y3.map (cdL 1 cdI).enc)), (10, .v (.int .i64 (y3.length : Int))), (11, .v (.int .i64 c186)), (15, .sl 1 (v189.map cdI.enc)), (16, .v (.int .i64 (v189.length : Int))), (17, .v (.int .i64 c222)), (22, .sl 1 (v189.map cdI.enc)), (23, .v (.int .i64 (v189.length : Int))), (24, .v (.int .i64 0))], [some ⟨2, 65, [.ag [.v (.int .i64 y0), .e0]], false⟩, some ⟨2, 65, [.ag [.v (.int .i64 y1), .rf 2 0 c223.length c223.length]], false⟩, some ⟨1, 3, (c223.map cdI.enc), false⟩, some ⟨1, 36, [.sl 1 (y3.map (cdL 1 cdI).enc)], false⟩, none]⟩) (WkY.fr (by kernel_rfl)) (evening_meetings_k3_3_ok y0 y1 y3 y4 y5 y6 c186 v189 c222 v225 _ 0 c223 _ hr246)) ?_
      refine SemY.region ?_
      refine RunY.segF (n := 42) e_evening_meetings_k3_ok 2 [(0, .yl 4), (4, .sl 1 (v189.map cdI.enc)), (9, .sl 1 (y3.map (cdL 1 cdI).enc)), (10, .v (.int .i64 (y3.length : Int))), (11, .v (.int .i64 c186)), (15, .sl 1 (v189.map cdI.enc)), (16, .v (.int .i64 (v189.length : Int))), (17, .v (.int .i64 (wr .i64 (c222 + 1))))] [some ⟨2, 65, [.ag [.v (.int .i64 y0), .e0]], false⟩, some ⟨2, 65, [.ag [.v (.int .i64 y1), .rf 2 0 r246.length r246.length]], false⟩, some ⟨1, 3, (r246.map cdI.enc), false⟩, some ⟨1, 36, [.sl 1 (y3.map (cdL 1 cdI).enc)], false⟩, none] (by kernel_rfl) ?_
      refine RunY.done rfl ?_
      exact SemYN.wk (s1 := ⟨Fr 42 [(0, .yl 4), (4, .sl 1 (v189.map cdI.enc)), (9, .sl 1 (y3.map (cdL 1 cdI).enc)), (10, .v (.int .i64 (y3.length : Int))), (11, .v (.int .i64 c186)), (15, .sl 1 (v189.map cdI.enc)), (16, .v (.int .i64 (v189.length : Int))), (17, .v (.int .i64 (wr .i64 (c222 + 1))))], [some ⟨2, 65, [.ag [.v (.int .i64 y0), .e0]], false⟩, some ⟨2, 65, [.ag [.v (.int .i64 y1), .rf 2 0 r246.length r246.length]], false⟩, some ⟨1, 3, (r246.map cdI.enc), false⟩, some ⟨1, 36, [.sl 1 (y3.map (cdL 1 cdI).enc)], false⟩, none]⟩) (WkY.fr (by kernel_rfl)) (ih (wr .i64 (c222 + 1)) r246 h)
    · rw [if_f hb224] at h
      refine SemY.exit ?_
      have hq := Option.some.inj h; subst hq
      exact ⟨rfl, (WkY.fr (by kernel_rfl))⟩
set_option maxHeartbeats 4000000 in
set_option maxRecDepth 100000 in
theorem evening_meetings_k3_1_ok (y0 : Int) (y1 : Int) (y3 : (List (List Int))) (y4 : (List (List (List Int)))) (y5 : Int) (y6 : Int) : ∀ (f : Nat) (c186 : Int) (c187 : (List Int)) (r : ((List Int))), evening_meetings_k3_1 y0 y1 y3 y4 y5 y6 f c186 c187 = some r → SemYN e_evening_meetings_k3 (cx_evening_meetings_k3 y4 y5 y6) (pc cb_evening_meetings_k3 [1, 0, 0]) f ⟨Fr 42 [(0, .yl 4), (9, .sl 1 (y3.map (cdL 1 cdI).enc)), (10, .v (.int .i64 (y3.length : Int))), (11, .v (.int .i64 c186))], [some ⟨2, 65, [.ag [.v (.int .i64 y0), .e0]], false⟩, some ⟨2, 65, [.ag [.v (.int .i64 y1), .rf 2 0 c187.length c187.length]], false⟩, some ⟨1, 3, (c187.map cdI.enc), false⟩, some ⟨1, 36, [.sl 1 (y3.map (cdL 1 cdI).enc)], false⟩, none]⟩ (fun e s => e = (.exit 0) ∧ WkY e_evening_meetings_k3 s ⟨Fr 42 [], [some ⟨2, 65, [.ag [.v (.int .i64 y0), .e0]], false⟩, some ⟨2, 65, [.ag [.v (.int .i64 y1), .rf 2 0 r.length r.length]], false⟩, some ⟨1, 3, (r.map cdI.enc), false⟩, some ⟨1, 36, [.sl 1 (y3.map (cdL 1 cdI).enc)], false⟩, none]⟩) := by
  intro f
  induction f with
  | zero => intro c186 c187 r h; cases h
  | succ f ih0 =>
    intro c186 c187 r h
    have ih := fun (c186 : Int) (c187 : (List Int)) => ih0 c186 c187 r
    unfold evening_meetings_k3_1 at h
    refine SemYN.succ ?_
    refine SemY.seq ?_
    refine SemY.region ?_
    refine RunY.segF (n := 42) e_evening_meetings_k3_ok 1 [(0, .yl 4), (9, .sl 1 (y3.map (cdL 1 cdI).enc)), (10, .v (.int .i64 (y3.length : Int))), (11, .v (.int .i64 c186)), (12, .v (.bool (decide (c186 < (y3.length : Int)))))] [some ⟨2, 65, [.ag [.v (.int .i64 y0), .e0]], false⟩, some ⟨2, 65, [.ag [.v (.int .i64 y1), .rf 2 0 c187.length c187.length]], false⟩, some ⟨1, 3, (c187.map cdI.enc), false⟩, some ⟨1, 36, [.sl 1 (y3.map (cdL 1 cdI).enc)], false⟩, none] (by kernel_rfl) ?_
    refine RunY.done rfl (SemY.fr (l' := [(0, .yl 4), (9, .sl 1 (y3.map (cdL 1 cdI).enc)), (10, .v (.int .i64 (y3.length : Int))), (11, .v (.int .i64 c186)), (12, .v (.bool (decide (c186 < (y3.length : Int)))))]) (by kernel_rfl) ?_)
    refine SemY.seq ?_
    refine SemY.cond (b := (decide (c186 < (y3.length : Int)))) (by kernel_rfl) (fun hb188 => ?_) (fun hb188 => ?_)
    · rw [if_pos hb188] at h
      refine SemY.skip ?_
      refine SemY.seq ?_
      refine SemY.block ?_
      refine SemY.seq ?_
      refine SemY.region ?_
      obtain ⟨v189, hv189, h⟩ := Option.bind_eq_some_iff.1 h
      refine RunY.one e_evening_meetings_k3_ok 0 rfl (op_q (wantedA_none rfl) rfl (q_indexAddr (a := .sl 1 (y3.map (cdL 1 cdI).enc)) (b := .v (.int .i64 c186)) (by kernel_rfl) (by kernel_rfl) (ix_sl (e := (cdL 1 cdI).enc) (el := 29) (k := 1) (ki := .i64) (by kernel_rfl) (by kernel_rfl) hv189))) ?_
      refine RunY.segF (n := 42) e_evening_meetings_k3_ok 2 [(0, .yl 4), (4, .sl 1 (v189.map cdI.enc)), (9, .sl 1 (y3.map (cdL 1 cdI).enc)), (10, .v (.int .i64 (y3.length : Int))), (11, .v (.int .i64 c186))] [some ⟨2, 65, [.ag [.v (.int .i64 y0), .e0]], false⟩, some ⟨2, 65, [.ag [.v (.int .i64 y1), .rf 2 0 c187.length c187.length]], false⟩, some ⟨1, 3, (c187.map cdI.enc), false⟩, some ⟨1, 36, [.sl 1 (y3.map (cdL 1 cdI).enc)], false⟩, none] (by kernel_rfl) ?_
      refine RunY.done rfl (SemY.fr (l' := [(0, .yl 4), (4, .sl 1 (v189.map cdI.enc)), (9, .sl 1 (y3.map (cdL 1 cdI).enc)), (10, .v (.int .i64 (y3.length : Int))), (11, .v (.int .i64 c186))]) (by kernel_rfl) ?_)
      refine SemY.seq ?_
      refine SemY.region ?_
      refine RunY.segF (n := 42) e_evening_meetings_k3_ok 1 [(0, .yl 4), (4, .sl 1 (v189.map cdI.enc)), (9, .sl 1 (y3.map (cdL 1 cdI).enc)), (10, .v (.int .i64 (y3.length : Int))), (11, .v (.int .i64 c186)), (15, .sl 1 (v189.map cdI.enc))] [some ⟨2, 65, [.ag [.v (.int .i64 y0), .e0]], false⟩, some ⟨2, 65, [.ag [.v (.int .i64 y1), .rf 2 0 c187.length c187.length]], false⟩, some ⟨1, 3, (c187.map cdI.enc), false⟩, some ⟨1, 36, [.sl 1 (y3.map (cdL 1 cdI).enc)], false⟩, none] (by kernel_rfl) ?_
      refine RunY.one e_evening_meetings_k3_ok 0 rfl (op_q (wantedA_none rfl) rfl (q_len (a := .sl 1 (v189.map cdI.enc)) (by kernel_rfl) (len_sl (el := 3) (by kernel_rfl)))) ?_
      refine RunY.segF (n := 42) e_evening_meetings_k3_ok 1 [(0, .yl 4), (4, .sl 1 (v189.map cdI.enc)), (9, .sl 1 (y3.map (cdL 1 cdI).enc)), (10, .v (.int .i64 (y3.length : Int))), (11, .v (.int .i64 c186)), (15, .sl 1 (v189.map cdI.enc)), (16, .v (.int .i64 (v189.length : Int))), (17, .v (.int .i64 0))] [some ⟨2, 65, [.ag [.v (.int .i64 y0), .e0]], false⟩, some ⟨2, 65, [.ag [.v (.int .i64 y1), .rf 2 0 c187.length c187.length]], false⟩, some ⟨1, 3, (c187.map cdI.enc), false⟩, some ⟨1, 36, [.sl 1 (y3.map (cdL 1 cdI).enc)], false⟩, none] (by kernel_rfl) ?_
      refine RunY.done rfl (SemY.fr (l' := [(0, .yl 4), (4, .sl 1 (v189.map cdI.enc)), (9, .sl 1 (y3.map (cdL 1 cdI).enc)), (10, .v (.int .i64 (y3.length : Int))), (11, .v (.int .i64 c186)), (15, .sl 1 (v189.map cdI.enc)), (16, .v (.int .i64 (v189.length : Int))), (17, .v (.int .i64 0))]) (by kernel_rfl) ?_)
      refine SemY.block ?_
      obtain ⟨r248, hr248, h⟩ := Option.bind_eq_some_iff.1 h
      refine SemY.loop (n := 100000) ?_
      refine SemY.cutN (SemYN.wk (s1 := ⟨Fr 42 [(0, .yl 4), (4, .sl 1 (v189.map cdI.enc)), (9, .sl 1 (y3.map (cdL 1 cdI).enc)), (10, .v (.int .i64 (y3.length : Int))), (11, .v (.int .i64 c186)), (15, .sl 1 (v189.map cdI.enc)), (16, .v (.int .i64 (v189.length : Int))), (17, .v (.int .i64 0))], [some ⟨2, 65, [.ag [.v (.int .i64 y0), .e0]], false⟩, some ⟨2, 65, [.ag [.v (.int .i64 y1), .rf 2 0 c187.length c187.length]], false⟩, some ⟨1, 3, (c187.map cdI.enc), false⟩, some ⟨1, 36, [.sl 1 (y3.map (cdL 1 cdI).enc)], false⟩, none]⟩) (WkY.fr (by kernel_rfl)) (evening_meetings_k3_2_ok y0 y1 y3 y4 y5 y6 c186 v189 _ 0 c187 _ hr248)) ?_
      refine SemY.region ?_
      refine RunY.segF (n := 42) e_evening_meetings_k3_ok 2 [(0, .yl 4), (9, .sl 1 (y3.map (cdL 1 cdI).enc)), (10, .v (.int .i64 (y3.length : Int))), (11, .v (.int .i64 (wr .i64 (c186 + 1))))] [some ⟨2, 65, [.ag [.v (.int .i64 y0), .e0]], false⟩, some ⟨2, 65, [.ag [.v (.int .i64 y1), .rf 2 0 r248.length r248.length]], false⟩, some ⟨1, 3, (r248.map cdI.enc), false⟩, some ⟨1, 36, [.sl 1 (y3.map (cdL 1 cdI).enc)], false⟩, none] (by kernel_rfl) ?_
      refine RunY.done rfl ?_
      exact SemYN.wk (s1 := ⟨Fr 42 [(0, .yl 4), (9, .sl 1 (y3.map (cdL 1 cdI).enc)), (10, .v (.int .i64 (y3.length : Int))), (11, .v (.int .i64 (wr .i64 (c186 + 1))))], [some ⟨2, 65, [.ag [.v (.int .i64 y0), .e0]], false⟩, some ⟨2, 65, [.ag [.v (.int .i64 y1), .rf 2 0 r248.length r248.length]], false⟩, some ⟨1, 3, (r248.map cdI.enc), false⟩, some ⟨1, 36, [.sl 1 (y3.map (cdL 1 cdI).enc)], false⟩, none]⟩) (WkY.fr (by kernel_rfl)) (ih (wr .i64 (c186 + 1)) r248 h)
    · rw [if_f hb188] at h
      refine SemY.exit ?_
      have hq := Option.some.inj h; subst hq
      exact ⟨rfl, (WkY.fr (by kernel_rfl))⟩
set_option maxHeartbeats 4000000 in
set_option maxRecDepth 100000 in
theorem evening_meetings_k3_sem (y0 : Int) (y1 : Int) (y2 : (List Int)) (y3 : (List (List Int))) (y4 : (List (List (List Int)))) (y5 : Int) (y6 : Int) (r : (List Int)) (h : evening_meetings_k3 y0 y1 y2 y3 y4 y5 y6 = some r) : SemY e_evening_meetings_k3 (cx_evening_meetings_k3 y4 y5 y6) cb_evening_meetings_k3 ⟨Fr 42 (pairs0 0 [.yl 4, .pt 3 0 0]), [some ⟨2, 65, [.ag [.v (.int .i64 y0), .e0]], false⟩, some ⟨2, 65, [.ag [.v (.int .i64 y1), .rf 2 0 y2.length y2.length]], false⟩, some ⟨1, 3, (y2.map cdI.enc), false⟩, some ⟨1, 36, [.sl 1 (y3.map (cdL 1 cdI).enc)], false⟩, none]⟩ fun x s' => (x = .normal ∨ x = .ret) ∧ ∃ ys, resA e_evening_meetings_k3.P s'.fr s'.hp Tryd.f76.results.toList = some ys ∧ (retA ys = .tp [] ∧ s'.hp = [some ⟨2, 65, [.ag [.v (.int .i64 y0), .e0]], false⟩, some ⟨2, 65, [.ag [.v (.int .i64 y1), .rf 2 0 r.length r.length]], false⟩, some ⟨1, 3, (r.map cdI.enc), false⟩, some ⟨1, 36, [.sl 1 (y3.map (cdL 1 cdI).enc)], false⟩, none]) := by
  unfold evening_meetings_k3 at h
  refine SemY.seq ?_
  refine SemY.region ?_
  refine RunY.segF (n := 42) e_evening_meetings_k3_ok 1 [(0, .yl 4), (9, .sl 1 (y3.map (cdL 1 cdI).enc))] [some ⟨2, 65, [.ag [.v (.int .i64 y0), .e0]], false⟩, some ⟨2, 65, [.ag [.v (.int .i64 y1), .rf 2 0 y2.length y2.length]], false⟩, some ⟨1, 3, (y2.map cdI.enc), false⟩, some ⟨1, 36, [.sl 1 (y3.map (cdL 1 cdI).enc)], false⟩, none] (by kernel_rfl) ?_
  refine RunY.one e_evening_meetings_k3_ok 0 rfl (op_q (wantedA_none rfl) rfl (q_len (a := .sl 1 (y3.map (cdL 1 cdI).enc)) (by kernel_rfl) (len_sl (el := 29) (by kernel_rfl)))) ?_
  refine RunY.segF (n := 42) e_evening_meetings_k3_ok 1 [(0, .yl 4), (9, .sl 1 (y3.map (cdL 1 cdI).enc)), (10, .v (.int .i64 (y3.length : Int))), (11, .v (.int .i64 0))] [some ⟨2, 65, [.ag [.v (.int .i64 y0), .e0]], false⟩, some ⟨2, 65, [.ag [.v (.int .i64 y1), .rf 2 0 y2.length y2.length]], false⟩, some ⟨1, 3, (y2.map cdI.enc), false⟩, some ⟨1, 36, [.sl 1 (y3.map (cdL 1 cdI).enc)], false⟩, none] (by kernel_rfl) ?_
  refine RunY.done rfl (SemY.fr (l' := [(0, .yl 4), (9, .sl 1 (y3.map (cdL 1 cdI).enc)), (10, .v (.int .i64 (y3.length : Int))), (11, .v (.int .i64 0))]) (by kernel_rfl) ?_)
  refine SemY.block ?_
  obtain ⟨r250, hr250, h⟩ := Option.bind_eq_some_iff.1 h
  refine SemY.loop (n := 100000) ?_
  refine SemY.cutN (SemYN.wk (s1 := ⟨Fr 42 [(0, .yl 4), (9, .sl 1 (y3.map (cdL 1 cdI).enc)), (10, .v (.int .i64 (y3.length : Int))), (11, .v (.int .i64 0))], [some ⟨2, 65, [.ag [.v (.int .i64 y0), .e0]], false⟩, some ⟨2, 65, [.ag [.v (.int .i64 y1), .rf 2 0 y2.length y2.length]], false⟩, some ⟨1, 3, (y2.map cdI.enc), false⟩, some ⟨1, 36, [.sl 1 (y3.map (cdL 1 cdI).enc)], false⟩, none]⟩) (WkY.fr (by kernel_rfl)) (evening_meetings_k3_1_ok y0 y1 y3 y4 y5 y6 _ 0 y2 _ hr250)) ?_
  have hq := Option.some.inj h; subst hq
  exact ⟨.inl rfl, [], (by kernel_rfl), (by kernel_rfl), (by kernel_rfl)⟩
def evening_meetings_1 (x1 : (List (List (List Int)))) (v1 : Int × Int × (List Int)) : Nat → (List Int) → Int → Option (((List Int)))
  | 0, _, _ => none
  | f + 1, c13, c14 =>
    if (decide (c14 < (x1.length : Int))) = true then
    (idx x1 c14).bind fun v16 =>
    (evening_meetings_k2 0 v1.1 c13 v16).bind fun v17 =>
    (evening_meetings_k3 0 v1.1 c13 v17 x1 (x1.length : Int) c14).bind fun v18 =>
    evening_meetings_1 x1 v1 f v18 (wr .i64 (c14 + 1))
    else
    some c13
def evening_meetings (x0 : Int) (x1 : (List (List (List Int)))) : Option ((Int × (List Int))) :=
  (evening_meetings_k1 0 x0).bind fun v1 =>
  (evening_meetings_1 x1 v1 100000 v1.2.2 0).bind fun r20 =>
  some (v1.1, r20)
def cs_evening_meetings : Cs (Int × (List (List (List Int))) × Unit) := (csC cdI (csC (cdL 1 (cdL 1 (cdL 1 cdI))) csN))
def er_evening_meetings (r : (Int × (List Int))) : AV := (cdG2 cdI (cdL 1 cdI) (fun _ => rfl) (fun _ => rfl)).enc r
set_option maxHeartbeats 4000000 in
set_option maxRecDepth 100000 in
theorem evening_meetings_1_ok (x1 : (List (List (List Int)))) (v1 : Int × Int × (List Int)) : ∀ (f : Nat) (c13 : (List Int)) (c14 : Int) (r : ((List Int))), evening_meetings_1 x1 v1 f c13 c14 = some r → SemN e_evening_meetings ⟨none, false⟩ (pc cb_evening_meetings [1, 1, 0, 1, 0, 0]) f ⟨Fr 32 [(4, .pt 0 0 0), (5, .pt 1 0 0), (12, .sl 1 (x1.map (cdL 1 (cdL 1 cdI)).enc)), (13, .v (.int .i64 (x1.length : Int))), (14, .v (.int .i64 c14))], [some ⟨2, 65, [.ag [.v (.int .i64 0), .e0]], false⟩, some ⟨2, 65, [.ag [.v (.int .i64 v1.1), .rf 2 0 c13.length c13.length]], false⟩, some ⟨1, 3, (c13.map cdI.enc), false⟩]⟩ (fun e s => e = (.exit 0) ∧ Wk e_evening_meetings s ⟨Fr 32 [(4, .pt 0 0 0), (5, .pt 1 0 0)], [some ⟨2, 65, [.ag [.v (.int .i64 0), .e0]], false⟩, some ⟨2, 65, [.ag [.v (.int .i64 v1.1), .rf 2 0 r.length r.length]], false⟩, some ⟨1, 3, (r.map cdI.enc), false⟩]⟩) := by
  intro f
  induction f with
  | zero => intro c13 c14 r h; cases h
  | succ f ih0 =>
    intro c13 c14 r h
    have ih := fun (c13 : (List Int)) (c14 : Int) => ih0 c13 c14 r
    unfold evening_meetings_1 at h
    refine SemN.succ ?_
    refine Sem.seq ?_
    refine Sem.runS (s1 := ⟨Fr 32 [(4, .pt 0 0 0), (5, .pt 1 0 0), (12, .sl 1 (x1.map (cdL 1 (cdL 1 cdI)).enc)), (13, .v (.int .i64 (x1.length : Int))), (14, .v (.int .i64 c14)), (15, .v (.bool (decide (c14 < (x1.length : Int)))))], [some ⟨2, 65, [.ag [.v (.int .i64 0), .e0]], false⟩, some ⟨2, 65, [.ag [.v (.int .i64 v1.1), .rf 2 0 c13.length c13.length]], false⟩, some ⟨1, 3, (c13.map cdI.enc), false⟩]⟩) ?_ ?_
    · refine RunS.segF (n := 32) e_evening_meetings_ok 1 [(4, .pt 0 0 0), (5, .pt 1 0 0), (12, .sl 1 (x1.map (cdL 1 (cdL 1 cdI)).enc)), (13, .v (.int .i64 (x1.length : Int))), (14, .v (.int .i64 c14)), (15, .v (.bool (decide (c14 < (x1.length : Int)))))] [some ⟨2, 65, [.ag [.v (.int .i64 0), .e0]], false⟩, some ⟨2, 65, [.ag [.v (.int .i64 v1.1), .rf 2 0 c13.length c13.length]], false⟩, some ⟨1, 3, (c13.map cdI.enc), false⟩] (by kernel_rfl) ?_
      exact RunS.done rfl (Wk.s3 [0, 1, 2] ⟨⟨_, rfl, bu_d⟩, ⟨_, rfl, bu_d⟩, ⟨_, rfl, bu_own⟩, trivial⟩ ⟨lv, lv, lv, lv, lv, lv, trivial⟩)
    refine Sem.seq ?_
    refine Sem.cond (b := (decide (c14 < (x1.length : Int)))) (by kernel_rfl) (fun hb15 => ?_) (fun hb15 => ?_)
    · rw [if_pos hb15] at h
      refine Sem.skip ?_
      refine Sem.seq ?_
      refine Sem.block ?_
      refine Sem.seq ?_
      obtain ⟨v16, hv16, h⟩ := Option.bind_eq_some_iff.1 h
      refine Sem.runS (s1 := ⟨Fr 32 [(4, .pt 0 0 0), (5, .pt 1 0 0), (7, .sl 1 (v16.map (cdL 1 cdI).enc)), (12, .sl 1 (x1.map (cdL 1 (cdL 1 cdI)).enc)), (13, .v (.int .i64 (x1.length : Int))), (14, .v (.int .i64 c14))], [some ⟨2, 65, [.ag [.v (.int .i64 0), .e0]], false⟩, some ⟨2, 65, [.ag [.v (.int .i64 v1.1), .rf 2 0 c13.length c13.length]], false⟩, some ⟨1, 3, (c13.map cdI.enc), false⟩]⟩) ?_ ?_
      · refine RunS.one e_evening_meetings_ok 0 rfl (op_q (wantedA_none rfl) rfl (q_indexAddr (a := .sl 1 (x1.map (cdL 1 (cdL 1 cdI)).enc)) (b := .v (.int .i64 c14)) (by kernel_rfl) (by kernel_rfl) (ix_sl (e := (cdL 1 (cdL 1 cdI)).enc) (el := 36) (k := 1) (ki := .i64) (by kernel_rfl) (by kernel_rfl) hv16))) ?_
        refine RunS.segF (n := 32) e_evening_meetings_ok 2 [(4, .pt 0 0 0), (5, .pt 1 0 0), (7, .sl 1 (v16.map (cdL 1 cdI).enc)), (12, .sl 1 (x1.map (cdL 1 (cdL 1 cdI)).enc)), (13, .v (.int .i64 (x1.length : Int))), (14, .v (.int .i64 c14))] [some ⟨2, 65, [.ag [.v (.int .i64 0), .e0]], false⟩, some ⟨2, 65, [.ag [.v (.int .i64 v1.1), .rf 2 0 c13.length c13.length]], false⟩, some ⟨1, 3, (c13.map cdI.enc), false⟩] (by kernel_rfl) ?_
        exact RunS.done rfl (Wk.s3 [0, 1, 2] ⟨⟨_, rfl, bu_d⟩, ⟨_, rfl, bu_d⟩, ⟨_, rfl, bu_own⟩, trivial⟩ ⟨lv, lv, lv, lv, lv, lv, trivial⟩)
      refine Sem.seq ?_
      obtain ⟨v17, hv17, h⟩ := Option.bind_eq_some_iff.1 h
      refine Sem.runS (s1 := ⟨Fr 32 [(4, .pt 0 0 0), (5, .pt 1 0 0), (12, .sl 1 (x1.map (cdL 1 (cdL 1 cdI)).enc)), (13, .v (.int .i64 (x1.length : Int))), (14, .v (.int .i64 c14)), (19, .fn 76 [] [.pt 3 0 0])], [some ⟨2, 65, [.ag [.v (.int .i64 0), .e0]], false⟩, some ⟨2, 65, [.ag [.v (.int .i64 v1.1), .rf 2 0 c13.length c13.length]], false⟩, some ⟨1, 3, (c13.map cdI.enc), false⟩, some ⟨1, 36, [.sl 1 (v17.map (cdL 1 cdI).enc)], false⟩]⟩) ?_ ?_
      · refine RunS.segF (n := 32) e_evening_meetings_ok 1 [(4, .pt 0 0 0), (5, .pt 1 0 0), (12, .sl 1 (x1.map (cdL 1 (cdL 1 cdI)).enc)), (13, .v (.int .i64 (x1.length : Int))), (14, .v (.int .i64 c14)), (18, .sl 1 (v16.map (cdL 1 cdI).enc))] [some ⟨2, 65, [.ag [.v (.int .i64 0), .e0]], false⟩, some ⟨2, 65, [.ag [.v (.int .i64 v1.1), .rf 2 0 c13.length c13.length]], false⟩, some ⟨1, 3, (c13.map cdI.enc), false⟩] (by kernel_rfl) ?_
        refine RunS.inlY (fid := 67) (caps := []) (xs := [.sl 1 (v16.map (cdL 1 cdI).enc)]) (fn := Tryd.f67) (Out := fun x h' => x = .fn 76 [] [.pt 3 0 0] ∧ h' = [some ⟨2, 65, [.ag [.v (.int .i64 0), .e0]], false⟩, some ⟨2, 65, [.ag [.v (.int .i64 v1.1), .rf 2 0 c13.length c13.length]], false⟩, some ⟨1, 3, (c13.map cdI.enc), false⟩, some ⟨1, 36, [.sl 1 (v17.map (cdL 1 cdI).enc)], false⟩]) rfl rfl e_evening_meetings_k2_ok rfl rfl rfl (wantedA_none rfl) (by kernel_rfl) (by kernel_rfl) (by kernel_rfl) (by kernel_rfl) (by show 1 ≤ 4; decide) (evening_meetings_k2_sem 0 v1.1 c13 v16 _ hv17) ?_
        rintro x h' ⟨rfl, rfl⟩
        exact RunS.done rfl (Wk.s3 [0, 1, 2, 3] ⟨⟨_, rfl, bu_d⟩, ⟨_, rfl, bu_d⟩, ⟨_, rfl, bu_own⟩, ⟨_, rfl, bu_d⟩, trivial⟩ ⟨lv, lv, lv, lv, lv, lv, trivial⟩)
      refine Sem.block ?_
      obtain ⟨v18, hv18, h⟩ := Option.bind_eq_some_iff.1 h
      refine Sem.range (gid := 76) (caps := [.pt 3 0 0]) (fn := Tryd.f76) (Out := fun x h' => x = .tp [] ∧ h' = [some ⟨2, 65, [.ag [.v (.int .i64 0), .e0]], false⟩, some ⟨2, 65, [.ag [.v (.int .i64 v1.1), .rf 2 0 v18.length v18.length]], false⟩, some ⟨1, 3, (v18.map cdI.enc), false⟩, some ⟨1, 36, [.sl 1 (v17.map (cdL 1 cdI).enc)], false⟩, none]) rfl rfl e_evening_meetings_k3_ok rfl rfl rfl (by kernel_rfl) (by kernel_rfl) (by kernel_rfl) (by kernel_rfl) (by kernel_rfl) (by show 2 ≤ 42; decide) (evening_meetings_k3_sem 0 v1.1 c13 v17 x1 (x1.length : Int) c14 _ hv18) ?_
      rintro x h' ⟨-, rfl⟩
      refine Sem.runS (s1 := ⟨Fr 32 [(4, .pt 0 0 0), (5, .pt 1 0 0), (12, .sl 1 (x1.map (cdL 1 (cdL 1 cdI)).enc)), (13, .v (.int .i64 (x1.length : Int))), (14, .v (.int .i64 (wr .i64 (c14 + 1))))], [some ⟨2, 65, [.ag [.v (.int .i64 0), .e0]], false⟩, some ⟨2, 65, [.ag [.v (.int .i64 v1.1), .rf 2 0 v18.length v18.length]], false⟩, some ⟨1, 3, (v18.map cdI.enc), false⟩]⟩) ?_ ?_
      · refine RunS.segF (n := 32) e_evening_meetings_ok 2 [(4, .pt 0 0 0), (5, .pt 1 0 0), (12, .sl 1 (x1.map (cdL 1 (cdL 1 cdI)).enc)), (13, .v (.int .i64 (x1.length : Int))), (14, .v (.int .i64 (wr .i64 (c14 + 1))))] [some ⟨2, 65, [.ag [.v (.int .i64 0), .e0]], false⟩, some ⟨2, 65, [.ag [.v (.int .i64 v1.1), .rf 2 0 v18.length v18.length]], false⟩, some ⟨1, 3, (v18.map cdI.enc), false⟩, some ⟨1, 36, [.sl 1 (v17.map (cdL 1 cdI).enc)], false⟩, none] (by kernel_rfl) ?_
        exact RunS.done rfl (Wk.s3 [0, 1, 2] ⟨⟨_, rfl, bu_d⟩, ⟨_, rfl, bu_d⟩, ⟨_, rfl, bu_own⟩, trivial⟩ ⟨lv, lv, lv, lv, lv, trivial⟩)
      exact SemN.wk (s1 := ⟨Fr 32 [(4, .pt 0 0 0), (5, .pt 1 0 0), (12, .sl 1 (x1.map (cdL 1 (cdL 1 cdI)).enc)), (13, .v (.int .i64 (x1.length : Int))), (14, .v (.int .i64 (wr .i64 (c14 + 1))))], [some ⟨2, 65, [.ag [.v (.int .i64 0), .e0]], false⟩, some ⟨2, 65, [.ag [.v (.int .i64 v1.1), .rf 2 0 v18.length v18.length]], false⟩, some ⟨1, 3, (v18.map cdI.enc), false⟩]⟩) (Wk.s3 [0, 1, 2] ⟨⟨_, rfl, bu_d⟩, ⟨_, rfl, bu_d⟩, ⟨_, rfl, bu_own⟩, trivial⟩ ⟨lv, lv, lv, lv, lv, trivial⟩) (ih v18 (wr .i64 (c14 + 1)) h)
    · rw [if_f hb15] at h
      refine Sem.exit ?_
      have hq := Option.some.inj h; subst hq
      exact ⟨rfl, (Wk.s3 [0, 1, 2] ⟨⟨_, rfl, bu_d⟩, ⟨_, rfl, bu_d⟩, ⟨_, rfl, bu_own⟩, trivial⟩ ⟨lv, lv, trivial⟩)⟩
set_option maxHeartbeats 4000000 in
set_option maxRecDepth 100000 in
theorem evening_meetings_sem (x0 : Int) (x1 : (List (List (List Int)))) (r : (Int × (List Int))) (h : evening_meetings x0 x1 = some r) : Sem e_evening_meetings ⟨none, false⟩ cb_evening_meetings ⟨Fr 32 (pairs0 0 (cs_evening_meetings.enc (x0, x1, ()))), []⟩ fun e s' => (e = .normal ∨ e = .ret) ∧ ∃ xs, resA e_evening_meetings.P s'.fr s'.hp Tryd.f46.results.toList = some xs ∧ retA xs = er_evening_meetings r := by
  unfold evening_meetings at h
  refine Sem.wkQ (Sem.wk (s1 := ⟨Fr 32 [(0, .v (.int .i64 x0)), (1, .sl 1 (x1.map (cdL 1 (cdL 1 cdI)).enc))], []⟩) Wk.f1 ?_)
  refine Sem.seq ?_
  refine Sem.runS (s1 := ⟨Fr 32 [(0, .v (.int .i64 x0)), (1, .sl 1 (x1.map (cdL 1 (cdL 1 cdI)).enc)), (4, .pt 0 0 0)], [some ⟨2, 65, [.ag [.v (.int .i64 0), .e0]], false⟩]⟩) ?_ ?_
  · refine RunS.segF (n := 32) e_evening_meetings_ok 1 [(0, .v (.int .i64 x0)), (1, .sl 1 (x1.map (cdL 1 (cdL 1 cdI)).enc)), (4, .pt 0 0 0)] [some ⟨2, 65, [.ag [.v (.int .i64 0), .e0]], false⟩] (by kernel_rfl) ?_
    exact RunS.done rfl (Wk.s3 [0] ⟨⟨_, rfl, bu_d⟩, trivial⟩ ⟨lv, lv, lv, trivial⟩)
  refine Sem.seq ?_
  obtain ⟨v1, hv1, h⟩ := Option.bind_eq_some_iff.1 h
  refine Sem.runS (s1 := ⟨Fr 32 [(1, .sl 1 (x1.map (cdL 1 (cdL 1 cdI)).enc)), (4, .pt 0 0 0), (5, .pt 1 0 0)], [some ⟨2, 65, [.ag [.v (.int .i64 0), .e0]], false⟩, some ⟨2, 65, [.ag [.v (.int .i64 v1.1), .rf 2 0 v1.2.2.length v1.2.2.length]], false⟩, some ⟨1, 3, (v1.2.2.map cdI.enc), false⟩]⟩) ?_ ?_
  · refine RunS.segF (n := 32) e_evening_meetings_ok 1 [(1, .sl 1 (x1.map (cdL 1 (cdL 1 cdI)).enc)), (4, .pt 0 0 0), (10, .v (.int .i64 x0))] [some ⟨2, 65, [.ag [.v (.int .i64 0), .e0]], false⟩] (by kernel_rfl) ?_
    refine RunS.inlY (fid := 48) (caps := []) (xs := [.v (.int .i64 x0)]) (fn := Tryd.f48) (Out := fun x h' => x = .ag [.v (.int .i64 v1.1), .rf 2 0 v1.2.2.length v1.2.2.length] ∧ h' = [some ⟨2, 65, [.ag [.v (.int .i64 0), .e0]], false⟩, some ⟨2, 65, [.ag [.v (.int .i64 v1.2.1), .rf 2 0 v1.2.2.length v1.2.2.length]], false⟩, some ⟨1, 3, (v1.2.2.map cdI.enc), false⟩]) rfl rfl e_evening_meetings_k1_ok rfl rfl rfl (wantedA_none rfl) (by kernel_rfl) (by kernel_rfl) (by kernel_rfl) (by kernel_rfl) (by show 1 ≤ 9; decide) (evening_meetings_k1_sem 0 x0 _ hv1) ?_
    rintro x h' ⟨rfl, rfl⟩
    refine RunS.segF (n := 32) e_evening_meetings_ok 2 [(1, .sl 1 (x1.map (cdL 1 (cdL 1 cdI)).enc)), (4, .pt 0 0 0), (5, .pt 3 0 0)] [some ⟨2, 65, [.ag [.v (.int .i64 0), .e0]], false⟩, some ⟨2, 65, [.ag [.v (.int .i64 v1.2.1), .rf 2 0 v1.2.2.length v1.2.2.length]], false⟩, some ⟨1, 3, (v1.2.2.map cdI.enc), false⟩, some ⟨2, 65, [.ag [.v (.int .i64 v1.1), .rf 2 0 v1.2.2.length v1.2.2.length]], false⟩] (by kernel_rfl) ?_
    exact RunS.done rfl (Wk.s3 [0, 3, 2] ⟨⟨_, rfl, bu_d⟩, ⟨_, rfl, bu_d⟩, ⟨_, rfl, bu_own⟩, trivial⟩ ⟨lv, lv, lv, trivial⟩)
  refine Sem.seq ?_
  refine Sem.seq ?_
  refine Sem.runS (s1 := ⟨Fr 32 [(4, .pt 0 0 0), (5, .pt 1 0 0), (12, .sl 1 (x1.map (cdL 1 (cdL 1 cdI)).enc)), (13, .v (.int .i64 (x1.length : Int))), (14, .v (.int .i64 0))], [some ⟨2, 65, [.ag [.v (.int .i64 0), .e0]], false⟩, some ⟨2, 65, [.ag [.v (.int .i64 v1.1), .rf 2 0 v1.2.2.length v1.2.2.length]], false⟩, some ⟨1, 3, (v1.2.2.map cdI.enc), false⟩]⟩) ?_ ?_
  · refine RunS.segF (n := 32) e_evening_meetings_ok 1 [(4, .pt 0 0 0), (5, .pt 1 0 0), (12, .sl 1 (x1.map (cdL 1 (cdL 1 cdI)).enc))] [some ⟨2, 65, [.ag [.v (.int .i64 0), .e0]], false⟩, some ⟨2, 65, [.ag [.v (.int .i64 v1.1), .rf 2 0 v1.2.2.length v1.2.2.length]], false⟩, some ⟨1, 3, (v1.2.2.map cdI.enc), false⟩] (by kernel_rfl) ?_
    refine RunS.one e_evening_meetings_ok 0 rfl (op_q (wantedA_none rfl) rfl (q_len (a := .sl 1 (x1.map (cdL 1 (cdL 1 cdI)).enc)) (by kernel_rfl) (len_sl (el := 36) (by kernel_rfl)))) ?_
    refine RunS.segF (n := 32) e_evening_meetings_ok 1 [(4, .pt 0 0 0), (5, .pt 1 0 0), (12, .sl 1 (x1.map (cdL 1 (cdL 1 cdI)).enc)), (13, .v (.int .i64 (x1.length : Int))), (14, .v (.int .i64 0))] [some ⟨2, 65, [.ag [.v (.int .i64 0), .e0]], false⟩, some ⟨2, 65, [.ag [.v (.int .i64 v1.1), .rf 2 0 v1.2.2.length v1.2.2.length]], false⟩, some ⟨1, 3, (v1.2.2.map cdI.enc), false⟩] (by kernel_rfl) ?_
    exact RunS.done rfl (Wk.s3 [0, 1, 2] ⟨⟨_, rfl, bu_d⟩, ⟨_, rfl, bu_d⟩, ⟨_, rfl, bu_own⟩, trivial⟩ ⟨lv, lv, lv, lv, lv, trivial⟩)
  refine Sem.block ?_
  obtain ⟨r20, hr20, h⟩ := Option.bind_eq_some_iff.1 h
  refine Sem.loop (n := 100000) ?_
  refine Sem.cutN (SemN.wk (s1 := ⟨Fr 32 [(4, .pt 0 0 0), (5, .pt 1 0 0), (12, .sl 1 (x1.map (cdL 1 (cdL 1 cdI)).enc)), (13, .v (.int .i64 (x1.length : Int))), (14, .v (.int .i64 0))], [some ⟨2, 65, [.ag [.v (.int .i64 0), .e0]], false⟩, some ⟨2, 65, [.ag [.v (.int .i64 v1.1), .rf 2 0 v1.2.2.length v1.2.2.length]], false⟩, some ⟨1, 3, (v1.2.2.map cdI.enc), false⟩]⟩) (Wk.s3 [0, 1, 2] ⟨⟨_, rfl, bu_d⟩, ⟨_, rfl, bu_d⟩, ⟨_, rfl, bu_own⟩, trivial⟩ ⟨lv, lv, lv, lv, lv, trivial⟩) (evening_meetings_1_ok x1 v1 _ v1.2.2 0 _ hr20)) ?_
  refine Sem.seq ?_
  refine Sem.runS (s1 := ⟨Fr 32 [(4, .pt 0 0 0)], [some ⟨2, 65, [.ag [.v (.int .i64 v1.1), .rf 1 0 r20.length r20.length]], false⟩, some ⟨1, 3, (r20.map cdI.enc), false⟩]⟩) ?_ ?_
  · refine RunS.segF (n := 32) e_evening_meetings_ok 2 [(4, .pt 0 0 0)] [some ⟨2, 65, [.ag [.v (.int .i64 v1.1), .rf 2 0 r20.length r20.length]], false⟩, some ⟨2, 65, [.ag [.v (.int .i64 v1.1), .rf 2 0 r20.length r20.length]], false⟩, some ⟨1, 3, (r20.map cdI.enc), false⟩] (by kernel_rfl) ?_
    exact RunS.done rfl (Wk.s3 [0, 2] ⟨⟨_, rfl, bu_d⟩, ⟨_, rfl, bu_own⟩, trivial⟩ ⟨lv, trivial⟩)
  refine Sem.ret ?_
  have hq := Option.some.inj h; subst hq
  exact ⟨⟨Fr 32 [(4, .pt 0 0 0)], [some ⟨2, 65, [.ag [.v (.int .i64 v1.1), .sl 1 (r20.map cdI.enc)]], false⟩]⟩, (Wk.trans (s1 := ⟨Fr 32 [(4, .pt 0 0 0)], [some ⟨2, 65, [.ag [.v (.int .i64 v1.1), .sl 1 (r20.map cdI.enc)]], false⟩, none]⟩) (Wk.frzG2 1 (.inl (by kernel_rfl)) ⟨.inr (.inr ⟨_, _, _, _, rfl, rfl, ⟨(.inr ⟨_, _, rfl, rfl, ⟨.inl rfl, fz_rlT (c := cdI) (xs := r20) (t := 3) (by kernel_rfl), trivial⟩⟩), trivial⟩⟩), .inl rfl, trivial⟩ ⟨⟨.pt 0 0 0, (by kernel_rfl), (.inl (.inl rfl))⟩, trivial⟩) (Wk.s3 [0] ⟨⟨_, rfl, bu_d⟩, trivial⟩ ⟨lv, trivial⟩)), .inr rfl, [.ag [.v (.int .i64 v1.1), .sl 1 (r20.map cdI.enc)]], (by kernel_rfl), (by kernel_rfl)⟩
def t_evening_meetings : List AV → Option AV := told cs_evening_meetings (fun a => evening_meetings a.1 a.2.1) er_evening_meetings
theorem x_evening_meetings : XOk 46 t_evening_meetings := by
  refine EnvOk.x (E := e_evening_meetings) (contract_ok e_evening_meetings_ok (fn := Tryd.f46) (c := cb_evening_meetings) ?h1 ?h2 ⟨Tryd.call46⟩ cs_evening_meetings (fun a => evening_meetings a.1 a.2.1) er_evening_meetings (fun a => (by show 2 ≤ 32; decide)) ?h3 ?h4) rfl rfl
  case h1 => kernel_rfl
  case h2 => kernel_rfl
  case h3 => intro b; kernel_rfl
  case h4 => exact fun a b h => evening_meetings_sem a.1 a.2.1 b h
/- (trestle/evening.square[int]).rows -/
noncomputable def e_evening_square_int_rows : Env := (E0.withX 45 t_slices_Clone_L_int)
theorem e_evening_square_int_rows_ok : EnvOk e_evening_square_int_rows := (EnvOk.withX E0_ok x_slices_Clone_L_int.1 x_slices_Clone_L_int.2)
noncomputable def cb_evening_square_int_rows : Code := codeOf Tryd.f47
def evening_square_int_rows_1 (x0 : (Int × (List Int))) : Nat → (List (List Int)) → Int → Option (((List (List Int))))
  | 0, _, _ => none
  | f + 1, c1, c2 =>
    if (decide (c2 < x0.1)) = true then
    if (cutOk (wr .i64 (c2 * x0.1)) (wr .i64 ((wr .i64 (c2 + 1)) * x0.1)) x0.2.length) = true then
    (slices_Clone_L_int ((x0.2.take (wr .i64 ((wr .i64 (c2 + 1)) * x0.1)).toNat).drop (wr .i64 (c2 * x0.1)).toNat)).bind fun v5 =>
    if (capOk 24 (c1.length + 1)) = true then
    evening_square_int_rows_1 x0 f (c1 ++ [v5]) (wr .i64 (c2 + 1))
    else none
    else none
    else
    some c1
def evening_square_int_rows (x0 : (Int × (List Int))) : Option ((List (List Int))) :=
  (evening_square_int_rows_1 x0 100000 [] 0).bind fun r8 =>
  some r8
def cs_evening_square_int_rows : Cs ((Int × (List Int)) × Unit) := (csC (cdG2 cdI (cdL 1 cdI) (fun _ => rfl) (fun _ => rfl)) csN)
def er_evening_square_int_rows (r : (List (List Int))) : AV := (cdL 1 (cdL 1 cdI)).enc r
set_option maxHeartbeats 4000000 in
set_option maxRecDepth 100000 in
theorem evening_square_int_rows_1_ok (x0 : (Int × (List Int))) : ∀ (f : Nat) (c1 : (List (List Int))) (c2 : Int) (r : ((List (List Int)))), evening_square_int_rows_1 x0 f c1 c2 = some r → SemN e_evening_square_int_rows ⟨none, false⟩ (pc cb_evening_square_int_rows [1, 1, 0, 1, 0, 0]) f ⟨Fr 28 [(1, .pt 0 0 0), (3, hd 1 (c1.map (cdL 1 cdI).enc)), (6, .v (.int .i64 x0.1)), (7, .v (.int .i64 c2))], [some ⟨2, 65, [.ag [.v (.int .i64 x0.1), .sl 1 (x0.2.map cdI.enc)]], false⟩, mk 1 29 (c1.map (cdL 1 cdI).enc)]⟩ (fun e s => e = (.exit 0) ∧ Wk e_evening_square_int_rows s ⟨Fr 28 [(3, hd 0 (r.map (cdL 1 cdI).enc))], [mk 1 29 (r.map (cdL 1 cdI).enc)]⟩) := by
  intro f
  induction f with
  | zero => intro c1 c2 r h; cases h
  | succ f ih0 =>
    intro c1 c2 r h
    have ih := fun (c1 : (List (List Int))) (c2 : Int) => ih0 c1 c2 r
    unfold evening_square_int_rows_1 at h
    refine SemN.succ ?_
    refine Sem.seq ?_
    refine Sem.runS (s1 := ⟨Fr 28 [(1, .pt 0 0 0), (3, hd 1 (c1.map (cdL 1 cdI).enc)), (6, .v (.int .i64 x0.1)), (7, .v (.int .i64 c2)), (8, .v (.bool (decide (c2 < x0.1))))], [some ⟨2, 65, [.ag [.v (.int .i64 x0.1), .sl 1 (x0.2.map cdI.enc)]], false⟩, mk 1 29 (c1.map (cdL 1 cdI).enc)]⟩) ?_ ?_
    · refine RunS.segF (n := 28) e_evening_square_int_rows_ok 1 [(1, .pt 0 0 0), (3, hd 1 (c1.map (cdL 1 cdI).enc)), (6, .v (.int .i64 x0.1)), (7, .v (.int .i64 c2)), (8, .v (.bool (decide (c2 < x0.1))))] [some ⟨2, 65, [.ag [.v (.int .i64 x0.1), .sl 1 (x0.2.map cdI.enc)]], false⟩, mk 1 29 (c1.map (cdL 1 cdI).enc)] (by kernel_rfl) ?_
      exact RunS.done rfl (Wk.s3 [0, 1] ⟨⟨_, rfl, bu_d⟩, ⟨_, rfl, bu_mk⟩, trivial⟩ ⟨lv, lu_hd (b' := 1) (by kernel_rfl) (by kernel_rfl), lv, lv, lv, trivial⟩)
    refine Sem.seq ?_
    refine Sem.cond (b := (decide (c2 < x0.1))) (by kernel_rfl) (fun hb3 => ?_) (fun hb3 => ?_)
    · rw [if_pos hb3] at h
      refine Sem.skip ?_
      refine Sem.seq ?_
      refine Sem.block ?_
      refine Sem.seq ?_
      refine Sem.runS (s1 := ⟨Fr 28 [(1, .pt 0 0 0), (3, hd 1 (c1.map (cdL 1 cdI).enc)), (4, .v (.int .i64 c2)), (6, .v (.int .i64 x0.1)), (7, .v (.int .i64 c2))], [some ⟨2, 65, [.ag [.v (.int .i64 x0.1), .sl 1 (x0.2.map cdI.enc)]], false⟩, mk 1 29 (c1.map (cdL 1 cdI).enc)]⟩) ?_ ?_
      · refine RunS.segF (n := 28) e_evening_square_int_rows_ok 2 [(1, .pt 0 0 0), (3, hd 1 (c1.map (cdL 1 cdI).enc)), (4, .v (.int .i64 c2)), (6, .v (.int .i64 x0.1)), (7, .v (.int .i64 c2))] [some ⟨2, 65, [.ag [.v (.int .i64 x0.1), .sl 1 (x0.2.map cdI.enc)]], false⟩, mk 1 29 (c1.map (cdL 1 cdI).enc)] (by kernel_rfl) ?_
        exact RunS.done rfl (Wk.s3 [0, 1] ⟨⟨_, rfl, bu_d⟩, ⟨_, rfl, bu_mk⟩, trivial⟩ ⟨lv, lu_hd (b' := 1) (by kernel_rfl) (by kernel_rfl), lv, lv, lv, trivial⟩)
      by_cases hk4 : (cutOk (wr .i64 (c2 * x0.1)) (wr .i64 ((wr .i64 (c2 + 1)) * x0.1)) x0.2.length) = true
      case neg => rw [if_neg hk4] at h; cases h
      rw [if_pos hk4] at h
      obtain ⟨v5, hv5, h⟩ := Option.bind_eq_some_iff.1 h
      by_cases hk6 : (capOk 24 (c1.length + 1)) = true
      case neg => rw [if_neg hk6] at h; cases h
      rw [if_pos hk6] at h
      refine Sem.runS (s1 := ⟨Fr 28 [(1, .pt 0 0 0), (3, hd 1 ((c1 ++ [v5]).map (cdL 1 cdI).enc)), (6, .v (.int .i64 x0.1)), (7, .v (.int .i64 c2))], [some ⟨2, 65, [.ag [.v (.int .i64 x0.1), .sl 1 (x0.2.map cdI.enc)]], false⟩, mk 1 29 ((c1 ++ [v5]).map (cdL 1 cdI).enc)]⟩) ?_ ?_
      · refine RunS.segF (n := 28) e_evening_square_int_rows_ok 12 [(1, .pt 0 0 0), (6, .v (.int .i64 x0.1)), (7, .v (.int .i64 c2)), (10, hd 1 (c1.map (cdL 1 cdI).enc)), (12, .sl 1 (x0.2.map cdI.enc)), (16, .v (.int .i64 (wr .i64 (c2 * x0.1)))), (21, .v (.int .i64 (wr .i64 ((wr .i64 (c2 + 1)) * x0.1))))] [some ⟨2, 65, [.ag [.v (.int .i64 x0.1), .sl 1 (x0.2.map cdI.enc)]], false⟩, mk 1 29 (c1.map (cdL 1 cdI).enc)] (by kernel_rfl) ?_
        refine RunS.one e_evening_square_int_rows_ok 0 rfl (op_q (wantedA_none rfl) rfl (q_slice (a := .sl 1 (x0.2.map cdI.enc)) (l := (some (.v (.int .i64 (wr .i64 (c2 * x0.1)))))) (u := (some (.v (.int .i64 (wr .i64 ((wr .i64 (c2 + 1)) * x0.1)))))) (m := none) (by kernel_rfl) (by kernel_rfl) (by kernel_rfl) rfl (slice_sl (xs := x0.2) (e := cdI.enc) (k := 1) (el := 3) (lo := (wr .i64 (c2 * x0.1))) (hi := (wr .i64 ((wr .i64 (c2 + 1)) * x0.1))) (by kernel_rfl) (by kernel_rfl) (natB_i (cut_lo hk4)) (natB_i (cut_hi hk4)) hk4))) ?_
        refine RunS.call e_evening_square_int_rows_ok (fid := 45) (b := v5) (s := cs_slices_Clone_L_int) (F := fun a => slices_Clone_L_int a.1) (er := er_slices_Clone_L_int) (xs := [.sl 1 (((x0.2.take (wr .i64 ((wr .i64 (c2 + 1)) * x0.1)).toNat).drop (wr .i64 (c2 * x0.1)).toNat).map cdI.enc)]) (a := (((x0.2.take (wr .i64 ((wr .i64 (c2 + 1)) * x0.1)).toNat).drop (wr .i64 (c2 * x0.1)).toNat), ())) rfl (wantedA_none rfl) (by kernel_rfl) (by kernel_rfl) (by kernel_rfl) (by kernel_rfl) (Sns.cons (Sn.enc (c := (cdL 1 cdI)) (v := ((x0.2.take (wr .i64 ((wr .i64 (c2 + 1)) * x0.1)).toNat).drop (wr .i64 (c2 * x0.1)).toNat))) Sns.nil) (.inl (by kernel_rfl)) (by dsimp only; exact hv5) ?_
        refine RunS.segF (n := 28) e_evening_square_int_rows_ok 1 [(1, .pt 0 0 0), (6, .v (.int .i64 x0.1)), (7, .v (.int .i64 c2)), (10, hd 1 (c1.map (cdL 1 cdI).enc)), (24, hd 2 ([v5].map (cdL 1 cdI).enc))] [some ⟨2, 65, [.ag [.v (.int .i64 x0.1), .sl 1 (x0.2.map cdI.enc)]], false⟩, mk 1 29 (c1.map (cdL 1 cdI).enc), mk 1 29 ([v5].map (cdL 1 cdI).enc)] (by kernel_rfl) ?_
        refine RunS.one e_evening_square_int_rows_ok 0 rfl (op_w (wantedA_none rfl) rfl (by kernel_rfl) (by kernel_rfl) (w_append (a := hd 1 (c1.map (cdL 1 cdI).enc)) (b := hd 2 ([v5].map (cdL 1 cdI).enc)) (by kernel_rfl) (by kernel_rfl) (append_B (c := (cdL 1 cdI)) (xs := c1) (vs := [v5]) (k := 1) (bytes := 24) (el := 29) (by kernel_rfl) (by kernel_rfl) (elems_hd (t := 29) (by kernel_rfl)) (List.cons_ne_nil _ _) (by kernel_rfl) hk6))) ?_
        refine RunS.segF (n := 28) e_evening_square_int_rows_ok 1 [(1, .pt 0 0 0), (3, hd 3 ((c1 ++ [v5]).map (cdL 1 cdI).enc)), (6, .v (.int .i64 x0.1)), (7, .v (.int .i64 c2))] [some ⟨2, 65, [.ag [.v (.int .i64 x0.1), .sl 1 (x0.2.map cdI.enc)]], false⟩, none, mk 1 29 ([v5].map (cdL 1 cdI).enc), mk 1 29 ((c1 ++ [v5]).map (cdL 1 cdI).enc)] (by kernel_rfl) ?_
        exact RunS.done rfl (Wk.s3 [0, 3] ⟨⟨_, rfl, bu_d⟩, ⟨_, rfl, bu_mk⟩, trivial⟩ ⟨lv, lu_hd (b' := 3) (by kernel_rfl) (by kernel_rfl), lv, lv, trivial⟩)
      refine Sem.runS (s1 := ⟨Fr 28 [(1, .pt 0 0 0), (3, hd 1 ((c1 ++ [v5]).map (cdL 1 cdI).enc)), (6, .v (.int .i64 x0.1)), (7, .v (.int .i64 (wr .i64 (c2 + 1))))], [some ⟨2, 65, [.ag [.v (.int .i64 x0.1), .sl 1 (x0.2.map cdI.enc)]], false⟩, mk 1 29 ((c1 ++ [v5]).map (cdL 1 cdI).enc)]⟩) ?_ ?_
      · refine RunS.segF (n := 28) e_evening_square_int_rows_ok 2 [(1, .pt 0 0 0), (3, hd 1 ((c1 ++ [v5]).map (cdL 1 cdI).enc)), (6, .v (.int .i64 x0.1)), (7, .v (.int .i64 (wr .i64 (c2 + 1))))] [some ⟨2, 65, [.ag [.v (.int .i64 x0.1), .sl 1 (x0.2.map cdI.enc)]], false⟩, mk 1 29 ((c1 ++ [v5]).map (cdL 1 cdI).enc)] (by kernel_rfl) ?_
        exact RunS.done rfl (Wk.s3 [0, 1] ⟨⟨_, rfl, bu_d⟩, ⟨_, rfl, bu_mk⟩, trivial⟩ ⟨lv, lu_hd (b' := 1) (by kernel_rfl) (by kernel_rfl), lv, lv, trivial⟩)
      exact SemN.wk (s1 := ⟨Fr 28 [(1, .pt 0 0 0), (3, hd 1 ((c1 ++ [v5]).map (cdL 1 cdI).enc)), (6, .v (.int .i64 x0.1)), (7, .v (.int .i64 (wr .i64 (c2 + 1))))], [some ⟨2, 65, [.ag [.v (.int .i64 x0.1), .sl 1 (x0.2.map cdI.enc)]], false⟩, mk 1 29 ((c1 ++ [v5]).map (cdL 1 cdI).enc)]⟩) (Wk.s3 [0, 1] ⟨⟨_, rfl, bu_d⟩, ⟨_, rfl, bu_mk⟩, trivial⟩ ⟨lv, lu_hd (b' := 1) (by kernel_rfl) (by kernel_rfl), lv, lv, trivial⟩) (ih (c1 ++ [v5]) (wr .i64 (c2 + 1)) h)
    · rw [if_f hb3] at h
      refine Sem.exit ?_
      have hq := Option.some.inj h; subst hq
      exact ⟨rfl, (Wk.s3 [1] ⟨⟨_, rfl, bu_mk⟩, trivial⟩ ⟨lu_hd (b' := 1) (by kernel_rfl) (by kernel_rfl), trivial⟩)⟩
set_option maxHeartbeats 4000000 in
set_option maxRecDepth 100000 in
theorem evening_square_int_rows_sem (x0 : (Int × (List Int))) (r : (List (List Int))) (h : evening_square_int_rows x0 = some r) : Sem e_evening_square_int_rows ⟨none, false⟩ cb_evening_square_int_rows ⟨Fr 28 (pairs0 0 (cs_evening_square_int_rows.enc (x0, ()))), []⟩ fun e s' => (e = .normal ∨ e = .ret) ∧ ∃ xs, resA e_evening_square_int_rows.P s'.fr s'.hp Tryd.f47.results.toList = some xs ∧ retA xs = er_evening_square_int_rows r := by
  unfold evening_square_int_rows at h
  refine Sem.wkQ (Sem.wk (s1 := ⟨Fr 28 [(0, .ag [.v (.int .i64 x0.1), .sl 1 (x0.2.map cdI.enc)])], []⟩) Wk.f1 ?_)
  refine Sem.seq ?_
  refine Sem.runS (s1 := ⟨Fr 28 [(1, .pt 0 0 0)], [some ⟨2, 65, [.ag [.v (.int .i64 x0.1), .sl 1 (x0.2.map cdI.enc)]], false⟩]⟩) ?_ ?_
  · refine RunS.segF (n := 28) e_evening_square_int_rows_ok 2 [(1, .pt 0 0 0)] [some ⟨2, 65, [.ag [.v (.int .i64 x0.1), .sl 1 (x0.2.map cdI.enc)]], false⟩] (by kernel_rfl) ?_
    exact RunS.done rfl (Wk.s3 [0] ⟨⟨_, rfl, bu_d⟩, trivial⟩ ⟨lv, trivial⟩)
  refine Sem.seq ?_
  refine Sem.runS (s1 := ⟨Fr 28 [(1, .pt 0 0 0), (3, .e0)], [some ⟨2, 65, [.ag [.v (.int .i64 x0.1), .sl 1 (x0.2.map cdI.enc)]], false⟩]⟩) ?_ ?_
  · refine RunS.segF (n := 28) e_evening_square_int_rows_ok 1 [(1, .pt 0 0 0), (3, .e0)] [some ⟨2, 65, [.ag [.v (.int .i64 x0.1), .sl 1 (x0.2.map cdI.enc)]], false⟩] (by kernel_rfl) ?_
    exact RunS.done rfl (Wk.s3 [0] ⟨⟨_, rfl, bu_d⟩, trivial⟩ ⟨lv, lv, trivial⟩)
  refine Sem.seq ?_
  refine Sem.seq ?_
  refine Sem.runS (s1 := ⟨Fr 28 [(1, .pt 0 0 0), (3, .e0), (6, .v (.int .i64 x0.1)), (7, .v (.int .i64 0))], [some ⟨2, 65, [.ag [.v (.int .i64 x0.1), .sl 1 (x0.2.map cdI.enc)]], false⟩]⟩) ?_ ?_
  · refine RunS.segF (n := 28) e_evening_square_int_rows_ok 3 [(1, .pt 0 0 0), (3, .e0), (6, .v (.int .i64 x0.1)), (7, .v (.int .i64 0))] [some ⟨2, 65, [.ag [.v (.int .i64 x0.1), .sl 1 (x0.2.map cdI.enc)]], false⟩] (by kernel_rfl) ?_
    exact RunS.done rfl (Wk.s3 [0] ⟨⟨_, rfl, bu_d⟩, trivial⟩ ⟨lv, lv, lv, lv, trivial⟩)
  refine Sem.block ?_
  obtain ⟨r8, hr8, h⟩ := Option.bind_eq_some_iff.1 h
  refine Sem.loop (n := 100000) ?_
  refine Sem.cutN (SemN.wk (s1 := ⟨Fr 28 [(1, .pt 0 0 0), (3, hd 1 ([].map (cdL 1 cdI).enc)), (6, .v (.int .i64 x0.1)), (7, .v (.int .i64 0))], [some ⟨2, 65, [.ag [.v (.int .i64 x0.1), .sl 1 (x0.2.map cdI.enc)]], false⟩, mk 1 29 ([].map (cdL 1 cdI).enc)]⟩) (Wk.trans (s1 := ⟨Fr 28 [(1, .pt 0 0 0), (3, hd 1 ([].map (cdL 1 cdI).enc)), (6, .v (.int .i64 x0.1)), (7, .v (.int .i64 0))], [some ⟨2, 65, [.ag [.v (.int .i64 x0.1), .sl 1 (x0.2.map cdI.enc)]], false⟩, mk 1 29 ([].map (cdL 1 cdI).enc)]⟩) Wk.none (Wk.s3 [0, 1] ⟨⟨_, rfl, bu_d⟩, ⟨_, rfl, bu_none⟩, trivial⟩ ⟨lv, lv, lv, lv, trivial⟩)) (evening_square_int_rows_1_ok x0 _ [] 0 _ hr8)) ?_
  refine Sem.seq ?_
  refine Sem.runS (s1 := ⟨Fr 28 [(2, hd 0 (r8.map (cdL 1 cdI).enc))], [mk 1 29 (r8.map (cdL 1 cdI).enc)]⟩) ?_ ?_
  · refine RunS.segF (n := 28) e_evening_square_int_rows_ok 2 [(2, hd 0 (r8.map (cdL 1 cdI).enc))] [mk 1 29 (r8.map (cdL 1 cdI).enc)] (by kernel_rfl) ?_
    exact RunS.done rfl (Wk.s3 [0] ⟨⟨_, rfl, bu_mk⟩, trivial⟩ ⟨lu_hd (b' := 0) (by kernel_rfl) (by kernel_rfl), trivial⟩)
  refine Sem.ret ?_
  have hq := Option.some.inj h; subst hq
  exact ⟨⟨Fr 28 [(2, .sl 1 (r8.map (cdL 1 cdI).enc))], []⟩, (Wk.trans (s1 := ⟨Fr 28 [(2, .sl 1 (r8.map (cdL 1 cdI).enc))], [none]⟩) (Wk.frzG 0 (.inl (by kernel_rfl)) ⟨.inl rfl, trivial⟩ ⟨⟨hd 0 (r8.map (cdL 1 cdI).enc), (by kernel_rfl), fz_hd (t := 29) (by kernel_rfl) enc_ok⟩, trivial⟩) (Wk.s3 [] trivial ⟨lv, trivial⟩)), .inr rfl, [.sl 1 (r8.map (cdL 1 cdI).enc)], (by kernel_rfl), (by kernel_rfl)⟩
def t_evening_square_int_rows : List AV → Option AV := told cs_evening_square_int_rows (fun a => evening_square_int_rows a.1) er_evening_square_int_rows
theorem x_evening_square_int_rows : XOk 47 t_evening_square_int_rows := by
  refine EnvOk.x (E := e_evening_square_int_rows) (contract_ok e_evening_square_int_rows_ok (fn := Tryd.f47) (c := cb_evening_square_int_rows) ?h1 ?h2 ⟨Tryd.call47⟩ cs_evening_square_int_rows (fun a => evening_square_int_rows a.1) er_evening_square_int_rows (fun a => (by show 1 ≤ 28; decide)) ?h3 ?h4) rfl rfl
  case h1 => kernel_rfl
  case h2 => kernel_rfl
  case h3 => intro b; kernel_rfl
  case h4 => exact fun a b h => evening_square_int_rows_sem a.1 b h
/- trestle/evening.Meet -/
noncomputable def e_evening_Meet : Env := (((E0.withX 43 t_evening_valid).withX 46 t_evening_meetings).withX 47 t_evening_square_int_rows)
theorem e_evening_Meet_ok : EnvOk e_evening_Meet := (EnvOk.withX (EnvOk.withX (EnvOk.withX E0_ok x_evening_valid.1 x_evening_valid.2) x_evening_meetings.1 x_evening_meetings.2) x_evening_square_int_rows.1 x_evening_square_int_rows.2)
noncomputable def cb_evening_Meet : Code := codeOf Tryd.f14
def evening_Meet (x0 : Int) (x1 : (List (List (List Int)))) : Option ((List (List Int))) :=
  (evening_valid x0 x1).bind fun v1 =>
  if (!v1) = true then
  some []
  else
  (evening_meetings x0 x1).bind fun v3 =>
  (evening_square_int_rows (v3.1, v3.2)).bind fun v4 =>
  some v4
def cs_evening_Meet : Cs (Int × (List (List (List Int))) × Unit) := (csC cdI (csC (cdL 1 (cdL 1 (cdL 1 cdI))) csN))
def er_evening_Meet (r : (List (List Int))) : AV := (cdL 1 (cdL 1 cdI)).enc r
set_option maxHeartbeats 4000000 in
set_option maxRecDepth 100000 in
theorem evening_Meet_sem (x0 : Int) (x1 : (List (List (List Int)))) (r : (List (List Int))) (h : evening_Meet x0 x1 = some r) : Sem e_evening_Meet ⟨none, false⟩ cb_evening_Meet ⟨Fr 13 (pairs0 0 (cs_evening_Meet.enc (x0, x1, ()))), []⟩ fun e s' => (e = .normal ∨ e = .ret) ∧ ∃ xs, resA e_evening_Meet.P s'.fr s'.hp Tryd.f14.results.toList = some xs ∧ retA xs = er_evening_Meet r := by
  unfold evening_Meet at h
  refine Sem.wkQ (Sem.wk (s1 := ⟨Fr 13 [(0, .v (.int .i64 x0)), (1, .sl 1 (x1.map (cdL 1 (cdL 1 cdI)).enc))], []⟩) Wk.f1 ?_)
  refine Sem.seq ?_
  refine Sem.runS (s1 := ⟨Fr 13 [(0, .v (.int .i64 x0)), (1, .sl 1 (x1.map (cdL 1 (cdL 1 cdI)).enc))], []⟩) ?_ ?_
  · refine RunS.segF (n := 13) e_evening_Meet_ok 1 [(0, .v (.int .i64 x0)), (1, .sl 1 (x1.map (cdL 1 (cdL 1 cdI)).enc))] [] (by kernel_rfl) ?_
    exact RunS.done rfl Wk.f1
  refine Sem.seq ?_
  refine Sem.seq ?_
  obtain ⟨v1, hv1, h⟩ := Option.bind_eq_some_iff.1 h
  refine Sem.runS (s1 := ⟨Fr 13 [(0, .v (.int .i64 x0)), (1, .sl 1 (x1.map (cdL 1 (cdL 1 cdI)).enc)), (8, .v (.bool (!v1)))], []⟩) ?_ ?_
  · refine RunS.segF (n := 13) e_evening_Meet_ok 2 [(0, .v (.int .i64 x0)), (1, .sl 1 (x1.map (cdL 1 (cdL 1 cdI)).enc)), (5, .v (.int .i64 x0)), (6, .sl 1 (x1.map (cdL 1 (cdL 1 cdI)).enc))] [] (by kernel_rfl) ?_
    refine RunS.call e_evening_Meet_ok (fid := 43) (s := cs_evening_valid) (F := fun a => evening_valid a.1 a.2.1) (er := er_evening_valid) (xs := [.v (.int .i64 x0), .sl 1 (x1.map (cdL 1 (cdL 1 cdI)).enc)]) (a := (x0, x1, ())) rfl (wantedA_none rfl) (by kernel_rfl) (by kernel_rfl) (by kernel_rfl) (by kernel_rfl) (Sns.cons (Sn.enc (c := cdI) (v := x0)) (Sns.cons (Sn.enc (c := (cdL 1 (cdL 1 (cdL 1 cdI)))) (v := x1)) Sns.nil)) (.inl (by kernel_rfl)) hv1 ?_
    refine RunS.segF (n := 13) e_evening_Meet_ok 1 [(0, .v (.int .i64 x0)), (1, .sl 1 (x1.map (cdL 1 (cdL 1 cdI)).enc)), (8, .v (.bool (!v1)))] [] (by kernel_rfl) ?_
    exact RunS.done rfl Wk.f1
  refine Sem.cond (b := (!v1)) (by kernel_rfl) (fun hb2 => ?_) (fun hb2 => ?_)
  · rw [if_pos hb2] at h
    refine Sem.seq ?_
    refine Sem.runS (s1 := ⟨Fr 13 [(4, .e0)], []⟩) ?_ ?_
    · refine RunS.segF (n := 13) e_evening_Meet_ok 1 [(4, .e0)] [] (by kernel_rfl) ?_
      exact RunS.done rfl Wk.f1
    refine Sem.ret ?_
    have hq := Option.some.inj h; subst hq
    exact ⟨⟨Fr 13 [(4, .sl 1 ([].map (cdL 1 cdI).enc))], []⟩, (Wk.trans (s1 := ⟨Fr 13 [(4, .e0)], []⟩) Wk.f1 (Wk.trans (s1 := ⟨Fr 13 [(4, .e0)], [none]⟩) Wk.none (Wk.trans (s1 := ⟨Fr 13 [(4, .sl 1 ([].map (cdL 1 cdI).enc))], [none]⟩) (Wk.frzG 0 (.inr (by kernel_rfl)) ⟨.inl rfl, trivial⟩ ⟨⟨.e0, (by kernel_rfl), fz_e0⟩, trivial⟩) (Wk.s3 [] trivial ⟨lv, trivial⟩)))), .inr rfl, [.sl 1 ([].map (cdL 1 cdI).enc)], (by kernel_rfl), (by kernel_rfl)⟩
  · rw [if_f hb2] at h
    refine Sem.skip ?_
    refine Sem.seq ?_
    obtain ⟨v3, hv3, h⟩ := Option.bind_eq_some_iff.1 h
    obtain ⟨v4, hv4, h⟩ := Option.bind_eq_some_iff.1 h
    refine Sem.runS (s1 := ⟨Fr 13 [(4, .sl 1 (v4.map (cdL 1 cdI).enc))], []⟩) ?_ ?_
    · refine RunS.segF (n := 13) e_evening_Meet_ok 2 [(9, .v (.int .i64 x0)), (10, .sl 1 (x1.map (cdL 1 (cdL 1 cdI)).enc))] [] (by kernel_rfl) ?_
      refine RunS.call e_evening_Meet_ok (fid := 46) (s := cs_evening_meetings) (F := fun a => evening_meetings a.1 a.2.1) (er := er_evening_meetings) (xs := [.v (.int .i64 x0), .sl 1 (x1.map (cdL 1 (cdL 1 cdI)).enc)]) (a := (x0, x1, ())) rfl (wantedA_none rfl) (by kernel_rfl) (by kernel_rfl) (by kernel_rfl) (by kernel_rfl) (Sns.cons (Sn.enc (c := cdI) (v := x0)) (Sns.cons (Sn.enc (c := (cdL 1 (cdL 1 (cdL 1 cdI)))) (v := x1)) Sns.nil)) (.inl (by kernel_rfl)) hv3 ?_
      refine RunS.call e_evening_Meet_ok (fid := 47) (s := cs_evening_square_int_rows) (F := fun a => evening_square_int_rows a.1) (er := er_evening_square_int_rows) (xs := [.ag [.v (.int .i64 v3.1), .sl 1 (v3.2.map cdI.enc)]]) (a := ((v3.1, v3.2), ())) rfl (wantedA_none rfl) (by kernel_rfl) (by kernel_rfl) (by kernel_rfl) (by kernel_rfl) (Sns.cons (Sn.enc (c := (cdG2 cdI (cdL 1 cdI) (fun _ => rfl) (fun _ => rfl))) (v := (v3.1, v3.2))) Sns.nil) (.inl (by kernel_rfl)) hv4 ?_
      refine RunS.segF (n := 13) e_evening_Meet_ok 1 [(4, .sl 1 (v4.map (cdL 1 cdI).enc))] [] (by kernel_rfl) ?_
      exact RunS.done rfl Wk.f1
    refine Sem.ret ?_
    have hq := Option.some.inj h; subst hq
    exact ⟨⟨Fr 13 [(4, .sl 1 (v4.map (cdL 1 cdI).enc))], []⟩, Wk.f1, .inr rfl, [.sl 1 (v4.map (cdL 1 cdI).enc)], (by kernel_rfl), (by kernel_rfl)⟩
def t_evening_Meet : List AV → Option AV := told cs_evening_Meet (fun a => evening_Meet a.1 a.2.1) er_evening_Meet
theorem x_evening_Meet : XOk 14 t_evening_Meet := by
  refine EnvOk.x (E := e_evening_Meet) (contract_ok e_evening_Meet_ok (fn := Tryd.f14) (c := cb_evening_Meet) ?h1 ?h2 ⟨Tryd.call14⟩ cs_evening_Meet (fun a => evening_Meet a.1 a.2.1) er_evening_Meet (fun a => (by show 2 ≤ 13; decide)) ?h3 ?h4) rfl rfl
  case h1 => kernel_rfl
  case h2 => kernel_rfl
  case h3 => intro b; kernel_rfl
  case h4 => exact fun a b h => evening_Meet_sem a.1 a.2.1 b h
/- trestle/evening.Beside -/
noncomputable def e_evening_Beside : Env := ((E0.withX 43 t_evening_valid).withX 47 t_evening_square_int_rows)
theorem e_evening_Beside_ok : EnvOk e_evening_Beside := (EnvOk.withX (EnvOk.withX E0_ok x_evening_valid.1 x_evening_valid.2) x_evening_square_int_rows.1 x_evening_square_int_rows.2)
noncomputable def cb_evening_Beside : Code := codeOf Tryd.f15
noncomputable def e_evening_Beside_k1 : Env := E0
theorem e_evening_Beside_k1_ok : EnvOk e_evening_Beside_k1 := E0_ok
noncomputable def cb_evening_Beside_k1 : Code := codeOf Tryd.f48
def evening_Beside_k1 (y0 : Int) : Option (Int × Int × (List Int)) :=
  if (mkOk 8 (wr .i64 (y0 * y0))) = true then
  some (y0, y0, (List.replicate (wr .i64 (y0 * y0)).toNat (0 : Int)))
  else none
set_option maxHeartbeats 4000000 in
set_option maxRecDepth 100000 in
theorem evening_Beside_k1_sem (y0 : Int) (r : Int × Int × (List Int)) (h : evening_Beside_k1 y0 = some r) : SemY e_evening_Beside_k1 ⟨none, false⟩ cb_evening_Beside_k1 ⟨Fr 9 (pairs0 0 [.v (.int .i64 y0)]), []⟩ fun x s' => (x = .normal ∨ x = .ret) ∧ ∃ ys, resA e_evening_Beside_k1.P s'.fr s'.hp Tryd.f48.results.toList = some ys ∧ (retA ys = .ag [.v (.int .i64 r.1), .rf 1 0 r.2.2.length r.2.2.length] ∧ s'.hp = [some ⟨2, 65, [.ag [.v (.int .i64 r.2.1), .rf 1 0 r.2.2.length r.2.2.length]], false⟩, some ⟨1, 3, (r.2.2.map cdI.enc), false⟩]) := by
  unfold evening_Beside_k1 at h
  refine SemY.seq ?_
  refine SemY.region ?_
  refine RunY.segF (n := 9) e_evening_Beside_k1_ok 1 [(0, .v (.int .i64 y0)), (2, .pt 0 0 0)] [some ⟨2, 65, [.ag [.v (.int .i64 0), .e0]], false⟩] (by kernel_rfl) ?_
  refine RunY.done rfl (SemY.fr (l' := [(0, .v (.int .i64 y0)), (2, .pt 0 0 0)]) (by kernel_rfl) ?_)
  refine SemY.seq ?_
  refine SemY.region ?_
  refine RunY.segF (n := 9) e_evening_Beside_k1_ok 4 [(2, .pt 0 0 0), (3, .v (.int .i64 y0)), (6, .v (.int .i64 (wr .i64 (y0 * y0))))] [some ⟨2, 65, [.ag [.v (.int .i64 0), .e0]], false⟩] (by kernel_rfl) ?_
  by_cases hk1 : (mkOk 8 (wr .i64 (y0 * y0))) = true
  case neg => rw [if_neg hk1] at h; cases h
  rw [if_pos hk1] at h
  refine RunY.one e_evening_Beside_k1_ok 0 rfl (op_n (wantedA_none rfl) rfl (by kernel_rfl) (n_make (x := .v (.int .i64 (wr .i64 (y0 * y0)))) (y := .v (.int .i64 (wr .i64 (y0 * y0)))) (by kernel_rfl) (by kernel_rfl) (make_B (c := cdI) (z := (0 : Int)) (k := 1) (bytes := 8) (el := 3) (by kernel_rfl) (by kernel_rfl) hk1))) ?_
  refine RunY.segF (n := 9) e_evening_Beside_k1_ok 2 [(2, .pt 0 0 0)] [some ⟨2, 65, [.ag [.v (.int .i64 y0), .rf 1 0 (List.replicate (wr .i64 (y0 * y0)).toNat (0 : Int)).length (List.replicate (wr .i64 (y0 * y0)).toNat (0 : Int)).length]], false⟩, some ⟨1, 3, ((List.replicate (wr .i64 (y0 * y0)).toNat (0 : Int)).map cdI.enc), false⟩] (by kernel_rfl) ?_
  refine RunY.done rfl (SemY.fr (l' := [(2, .pt 0 0 0)]) (by kernel_rfl) ?_)
  refine SemY.ret ?_
  have hq := Option.some.inj h; subst hq
  exact ⟨.inr rfl, [.ag [.v (.int .i64 y0), .rf 1 0 (List.replicate (wr .i64 (y0 * y0)).toNat (0 : Int)).length (List.replicate (wr .i64 (y0 * y0)).toNat (0 : Int)).length]], (by kernel_rfl), (by kernel_rfl), (by kernel_rfl)⟩
noncomputable def e_evening_Beside_k2 : Env := E0
theorem e_evening_Beside_k2_ok : EnvOk e_evening_Beside_k2 := E0_ok
noncomputable def cb_evening_Beside_k2 : Code := codeOf Tryd.f49
def evening_Beside_k2 (y0 : Int) (y1 : (List Int)) (y2 : Int) (y3 : Int) (y4 : Int) : Option (Int) :=
  (idx y1 (wr .i64 ((wr .i64 (y3 * y2)) + y4))).bind fun v1 =>
  some y2
set_option maxHeartbeats 4000000 in
set_option maxRecDepth 100000 in
theorem evening_Beside_k2_sem (y0 : Int) (y1 : (List Int)) (y2 : Int) (y3 : Int) (y4 : Int) (r : Int) (h : evening_Beside_k2 y0 y1 y2 y3 y4 = some r) : SemY e_evening_Beside_k2 ⟨none, false⟩ cb_evening_Beside_k2 ⟨Fr 16 (pairs0 0 [.ag [.v (.int .i64 y2), .rf 1 0 y1.length y1.length], .v (.int .i64 y3), .v (.int .i64 y4)]), [some ⟨2, 65, [.ag [.v (.int .i64 y0), .rf 1 0 y1.length y1.length]], false⟩, some ⟨1, 3, (y1.map cdI.enc), false⟩]⟩ fun x s' => (x = .normal ∨ x = .ret) ∧ ∃ ys, resA e_evening_Beside_k2.P s'.fr s'.hp Tryd.f49.results.toList = some ys ∧ (retA ys = .pt 1 ((wr .i64 ((wr .i64 (y3 * y2)) + y4)).toNat) 0 ∧ s'.hp = [some ⟨2, 65, [.ag [.v (.int .i64 y0), .rf 1 0 y1.length y1.length]], false⟩, some ⟨1, 3, (y1.map cdI.enc), false⟩, some ⟨2, 65, [.ag [.v (.int .i64 r), .rf 1 0 y1.length y1.length]], false⟩]) := by
  unfold evening_Beside_k2 at h
  refine SemY.seq ?_
  refine SemY.region ?_
  refine RunY.segF (n := 16) e_evening_Beside_k2_ok 2 [(1, .v (.int .i64 y3)), (2, .v (.int .i64 y4)), (3, .pt 2 0 0)] [some ⟨2, 65, [.ag [.v (.int .i64 y0), .rf 1 0 y1.length y1.length]], false⟩, some ⟨1, 3, (y1.map cdI.enc), false⟩, some ⟨2, 65, [.ag [.v (.int .i64 y2), .rf 1 0 y1.length y1.length]], false⟩] (by kernel_rfl) ?_
  refine RunY.done rfl (SemY.fr (l' := [(1, .v (.int .i64 y3)), (2, .v (.int .i64 y4)), (3, .pt 2 0 0)]) (by kernel_rfl) ?_)
  refine SemY.seq ?_
  refine SemY.region ?_
  refine RunY.segF (n := 16) e_evening_Beside_k2_ok 8 [(8, .rf 1 0 y1.length y1.length), (14, .v (.int .i64 (wr .i64 ((wr .i64 (y3 * y2)) + y4))))] [some ⟨2, 65, [.ag [.v (.int .i64 y0), .rf 1 0 y1.length y1.length]], false⟩, some ⟨1, 3, (y1.map cdI.enc), false⟩, some ⟨2, 65, [.ag [.v (.int .i64 y2), .rf 1 0 y1.length y1.length]], false⟩] (by kernel_rfl) ?_
  obtain ⟨v1, hv1, h⟩ := Option.bind_eq_some_iff.1 h
  refine RunY.one e_evening_Beside_k2_ok 0 rfl (op_q (wantedA_none rfl) rfl (q_indexAddr (a := .rf 1 0 y1.length y1.length) (b := .v (.int .i64 (wr .i64 ((wr .i64 (y3 * y2)) + y4)))) (by kernel_rfl) (by kernel_rfl) (ix_rl (e := cdI.enc) (xs := y1) (t' := 3) (el := 3) (k := 1) (ki := .i64) (by kernel_rfl) (by kernel_rfl) (by kernel_rfl) hv1))) ?_
  refine RunY.segF (n := 16) e_evening_Beside_k2_ok 1 [(6, .pt 1 ((wr .i64 ((wr .i64 (y3 * y2)) + y4)).toNat) 0)] [some ⟨2, 65, [.ag [.v (.int .i64 y0), .rf 1 0 y1.length y1.length]], false⟩, some ⟨1, 3, (y1.map cdI.enc), false⟩, some ⟨2, 65, [.ag [.v (.int .i64 y2), .rf 1 0 y1.length y1.length]], false⟩] (by kernel_rfl) ?_
  refine RunY.done rfl (SemY.fr (l' := [(6, .pt 1 ((wr .i64 ((wr .i64 (y3 * y2)) + y4)).toNat) 0)]) (by kernel_rfl) ?_)
  refine SemY.ret ?_
  have hq := Option.some.inj h; subst hq
  exact ⟨.inr rfl, [.pt 1 ((wr .i64 ((wr .i64 (y3 * y2)) + y4)).toNat) 0], (by kernel_rfl), (by kernel_rfl), (by kernel_rfl)⟩
def evening_Beside_3 (x1 : (List (List (List Int)))) (c6 : Int) (v8 : (List (List Int))) (c11 : Int) (v13 : (List Int)) : Nat → Int → (List Int) → Int → Option ((Int × (List Int)))
  | 0, _, _, _ => none
  | f + 1, c14, c15, c16 =>
    if (decide (c16 < (v13.length : Int))) = true then
    (idx v13 c16).bind fun v18 =>
    if (v13.length : Int) = (0 : Int) then none else
    (idx v13 ((wr .i64 (c16 + 1)).tmod (v13.length : Int))).bind fun v20 =>
    (if (v18 == v20) = true then some (c14, c15, true) else if ((v13.length : Int) == 2) = true then some (c14, c15, (c16 == 1)) else some (c14, c15, false)).bind fun j24 =>
    if j24.2.2 = true then
    evening_Beside_3 x1 c6 v8 c11 v13 f j24.1 j24.2.1 (wr .i64 (c16 + 1))
    else
    (evening_Beside_k2 j24.1 j24.2.1 j24.1 v18 v20).bind fun v26 =>
    (idx j24.2.1 (wr .i64 ((wr .i64 (v18 * j24.1)) + v20))).bind fun v27 =>
    (evening_Beside_k2 j24.1 (j24.2.1.set ((wr .i64 ((wr .i64 (v18 * j24.1)) + v20)).toNat) (wr .i64 (v27 + 1))) j24.1 v20 v18).bind fun v28 =>
    (idx (j24.2.1.set ((wr .i64 ((wr .i64 (v18 * j24.1)) + v20)).toNat) (wr .i64 (v27 + 1))) (wr .i64 ((wr .i64 (v20 * j24.1)) + v18))).bind fun v29 =>
    evening_Beside_3 x1 c6 v8 c11 v13 f j24.1 ((j24.2.1.set ((wr .i64 ((wr .i64 (v18 * j24.1)) + v20)).toNat) (wr .i64 (v27 + 1))).set ((wr .i64 ((wr .i64 (v20 * j24.1)) + v18)).toNat) (wr .i64 (v29 + 1))) (wr .i64 (c16 + 1))
    else
    some (c14, c15)
def evening_Beside_2 (x1 : (List (List (List Int)))) (c6 : Int) (v8 : (List (List Int))) : Nat → Int → (List Int) → Int → Option ((Int × (List Int)))
  | 0, _, _, _ => none
  | f + 1, c9, c10, c11 =>
    if (decide (c11 < (v8.length : Int))) = true then
    (idx v8 c11).bind fun v13 =>
    (evening_Beside_3 x1 c6 v8 c11 v13 100000 c9 c10 0).bind fun r34 =>
    evening_Beside_2 x1 c6 v8 f r34.1 r34.2 (wr .i64 (c11 + 1))
    else
    some (c9, c10)
def evening_Beside_1 (x1 : (List (List (List Int)))) : Nat → Int → (List Int) → Int → Option ((Int × (List Int)))
  | 0, _, _, _ => none
  | f + 1, c4, c5, c6 =>
    if (decide (c6 < (x1.length : Int))) = true then
    (idx x1 c6).bind fun v8 =>
    (evening_Beside_2 x1 c6 v8 100000 c4 c5 0).bind fun r37 =>
    evening_Beside_1 x1 f r37.1 r37.2 (wr .i64 (c6 + 1))
    else
    some (c4, c5)
def evening_Beside (x0 : Int) (x1 : (List (List (List Int)))) : Option ((List (List Int))) :=
  (evening_valid x0 x1).bind fun v1 =>
  if (!v1) = true then
  some []
  else
  (evening_Beside_k1 x0).bind fun v3 =>
  (evening_Beside_1 x1 100000 v3.1 v3.2.2 0).bind fun r40 =>
  (evening_square_int_rows (r40.1, r40.2)).bind fun v41 =>
  some v41
def cs_evening_Beside : Cs (Int × (List (List (List Int))) × Unit) := (csC cdI (csC (cdL 1 (cdL 1 (cdL 1 cdI))) csN))
def er_evening_Beside (r : (List (List Int))) : AV := (cdL 1 (cdL 1 cdI)).enc r
set_option maxHeartbeats 4000000 in
set_option maxRecDepth 100000 in
theorem evening_Beside_3_ok (x1 : (List (List (List Int)))) (c6 : Int) (v8 : (List (List Int))) (c11 : Int) (v13 : (List Int)) : ∀ (f : Nat) (c14 : Int) (c15 : (List Int)) (c16 : Int) (r : (Int × (List Int))), evening_Beside_3 x1 c6 v8 c11 v13 f c14 c15 c16 = some r → SemN e_evening_Beside ⟨none, false⟩ (pc cb_evening_Beside [1, 1, 1, 0, 1, 0, 0, 1, 1, 0, 0, 1, 1, 0, 0, 1, 1, 0, 0, 1, 1, 0, 0]) f ⟨Fr 79 [(5, .pt 0 0 0), (9, .sl 1 (v13.map cdI.enc)), (19, .sl 1 (x1.map (cdL 1 (cdL 1 cdI)).enc)), (20, .v (.int .i64 (x1.length : Int))), (21, .v (.int .i64 c6)), (25, .sl 1 (v8.map (cdL 1 cdI).enc)), (26, .v (.int .i64 (v8.length : Int))), (27, .v (.int .i64 c11)), (31, .sl 1 (v13.map cdI.enc)), (32, .v (.int .i64 (v13.length : Int))), (33, .v (.int .i64 c16))], [some ⟨2, 65, [.ag [.v (.int .i64 c14), .rf 1 0 c15.length c15.length]], false⟩, some ⟨1, 3, (c15.map cdI.enc), false⟩]⟩ (fun e s => e = (.exit 4) ∧ Wk e_evening_Beside s ⟨Fr 79 [(5, .pt 0 0 0), (19, .sl 1 (x1.map (cdL 1 (cdL 1 cdI)).enc)), (20, .v (.int .i64 (x1.length : Int))), (21, .v (.int .i64 c6)), (25, .sl 1 (v8.map (cdL 1 cdI).enc)), (26, .v (.int .i64 (v8.length : Int))), (27, .v (.int .i64 c11))], [some ⟨2, 65, [.ag [.v (.int .i64 r.1), .rf 1 0 r.2.length r.2.length]], false⟩, some ⟨1, 3, (r.2.map cdI.enc), false⟩]⟩) := by
  intro f
  induction f with
  | zero => intro c14 c15 c16 r h; cases h
  | succ f ih0 =>
    intro c14 c15 c16 r h
    have ih := fun (c14 : Int) (c15 : (List Int)) (c16 : Int) => ih0 c14 c15 c16 r
    unfold evening_Beside_3 at h
    refine SemN.succ ?_
    refine Sem.seq ?_
    refine Sem.runS (s1 := ⟨Fr 79 [(5, .pt 0 0 0), (9, .sl 1 (v13.map cdI.enc)), (19, .sl 1 (x1.map (cdL 1 (cdL 1 cdI)).enc)), (20, .v (.int .i64 (x1.length : Int))), (21, .v (.int .i64 c6)), (25, .sl 1 (v8.map (cdL 1 cdI).enc)), (26, .v (.int .i64 (v8.length : Int))), (27, .v (.int .i64 c11)), (31, .sl 1 (v13.map cdI.enc)), (32, .v (.int .i64 (v13.length : Int))), (33, .v (.int .i64 c16)), (34, .v (.bool (decide (c16 < (v13.length : Int)))))], [some ⟨2, 65, [.ag [.v (.int .i64 c14), .rf 1 0 c15.length c15.length]], false⟩, some ⟨1, 3, (c15.map cdI.enc), false⟩]⟩) ?_ ?_
    · refine RunS.segF (n := 79) e_evening_Beside_ok 1 [(5, .pt 0 0 0), (9, .sl 1 (v13.map cdI.enc)), (19, .sl 1 (x1.map (cdL 1 (cdL 1 cdI)).enc)), (20, .v (.int .i64 (x1.length : Int))), (21, .v (.int .i64 c6)), (25, .sl 1 (v8.map (cdL 1 cdI).enc)), (26, .v (.int .i64 (v8.length : Int))), (27, .v (.int .i64 c11)), (31, .sl 1 (v13.map cdI.enc)), (32, .v (.int .i64 (v13.length : Int))), (33, .v (.int .i64 c16)), (34, .v (.bool (decide (c16 < (v13.length : Int)))))] [some ⟨2, 65, [.ag [.v (.int .i64 c14), .rf 1 0 c15.length c15.length]], false⟩, some ⟨1, 3, (c15.map cdI.enc), false⟩] (by kernel_rfl) ?_
      exact RunS.done rfl (Wk.s3 [0, 1] ⟨⟨_, rfl, bu_d⟩, ⟨_, rfl, bu_own⟩, trivial⟩ ⟨lv, lv, lv, lv, lv, lv, lv, lv, lv, lv, lv, lv, trivial⟩)
    refine Sem.seq ?_
    refine Sem.cond (b := (decide (c16 < (v13.length : Int)))) (by kernel_rfl) (fun hb17 => ?_) (fun hb17 => ?_)
    · rw [if_pos hb17] at h
      refine Sem.skip ?_
      refine Sem.seq ?_
      refine Sem.block ?_
      refine Sem.seq ?_
      obtain ⟨v18, hv18, h⟩ := Option.bind_eq_some_iff.1 h
      refine Sem.runS (s1 := ⟨Fr 79 [(5, .pt 0 0 0), (9, .sl 1 (v13.map cdI.enc)), (10, .v (.int .i64 c16)), (11, .v (.int .i64 v18)), (19, .sl 1 (x1.map (cdL 1 (cdL 1 cdI)).enc)), (20, .v (.int .i64 (x1.length : Int))), (21, .v (.int .i64 c6)), (25, .sl 1 (v8.map (cdL 1 cdI).enc)), (26, .v (.int .i64 (v8.length : Int))), (27, .v (.int .i64 c11)), (31, .sl 1 (v13.map cdI.enc)), (32, .v (.int .i64 (v13.length : Int))), (33, .v (.int .i64 c16))], [some ⟨2, 65, [.ag [.v (.int .i64 c14), .rf 1 0 c15.length c15.length]], false⟩, some ⟨1, 3, (c15.map cdI.enc), false⟩]⟩) ?_ ?_
      · refine RunS.segF (n := 79) e_evening_Beside_ok 1 [(5, .pt 0 0 0), (9, .sl 1 (v13.map cdI.enc)), (19, .sl 1 (x1.map (cdL 1 (cdL 1 cdI)).enc)), (20, .v (.int .i64 (x1.length : Int))), (21, .v (.int .i64 c6)), (25, .sl 1 (v8.map (cdL 1 cdI).enc)), (26, .v (.int .i64 (v8.length : Int))), (27, .v (.int .i64 c11)), (31, .sl 1 (v13.map cdI.enc)), (32, .v (.int .i64 (v13.length : Int))), (33, .v (.int .i64 c16)), (35, .v (.int .i64 c16))] [some ⟨2, 65, [.ag [.v (.int .i64 c14), .rf 1 0 c15.length c15.length]], false⟩, some ⟨1, 3, (c15.map cdI.enc), false⟩] (by kernel_rfl) ?_
        refine RunS.one e_evening_Beside_ok 0 rfl (op_q (wantedA_none rfl) rfl (q_indexAddr (a := .sl 1 (v13.map cdI.enc)) (b := .v (.int .i64 c16)) (by kernel_rfl) (by kernel_rfl) (ix_sl (e := cdI.enc) (el := 3) (k := 1) (ki := .i64) (by kernel_rfl) (by kernel_rfl) hv18))) ?_
        refine RunS.segF (n := 79) e_evening_Beside_ok 3 [(5, .pt 0 0 0), (9, .sl 1 (v13.map cdI.enc)), (10, .v (.int .i64 c16)), (11, .v (.int .i64 v18)), (19, .sl 1 (x1.map (cdL 1 (cdL 1 cdI)).enc)), (20, .v (.int .i64 (x1.length : Int))), (21, .v (.int .i64 c6)), (25, .sl 1 (v8.map (cdL 1 cdI).enc)), (26, .v (.int .i64 (v8.length : Int))), (27, .v (.int .i64 c11)), (31, .sl 1 (v13.map cdI.enc)), (32, .v (.int .i64 (v13.length : Int))), (33, .v (.int .i64 c16))] [some ⟨2, 65, [.ag [.v (.int .i64 c14), .rf 1 0 c15.length c15.length]], false⟩, some ⟨1, 3, (c15.map cdI.enc), false⟩] (by kernel_rfl) ?_
        exact RunS.done rfl (Wk.s3 [0, 1] ⟨⟨_, rfl, bu_d⟩, ⟨_, rfl, bu_own⟩, trivial⟩ ⟨lv, lv, lv, lv, lv, lv, lv, lv, lv, lv, lv, lv, lv, trivial⟩)
      refine Sem.seq ?_
      by_cases hz19 : (v13.length : Int) = (0 : Int)
      · rw [if_pos hz19] at h; cases h
      rw [if_neg hz19] at h
      obtain ⟨v20, hv20, h⟩ := Option.bind_eq_some_iff.1 h
      refine Sem.runS (s1 := ⟨Fr 79 [(5, .pt 0 0 0), (9, .sl 1 (v13.map cdI.enc)), (10, .v (.int .i64 c16)), (11, .v (.int .i64 v18)), (12, .v (.int .i64 v20)), (19, .sl 1 (x1.map (cdL 1 (cdL 1 cdI)).enc)), (20, .v (.int .i64 (x1.length : Int))), (21, .v (.int .i64 c6)), (25, .sl 1 (v8.map (cdL 1 cdI).enc)), (26, .v (.int .i64 (v8.length : Int))), (27, .v (.int .i64 c11)), (31, .sl 1 (v13.map cdI.enc)), (32, .v (.int .i64 (v13.length : Int))), (33, .v (.int .i64 c16))], [some ⟨2, 65, [.ag [.v (.int .i64 c14), .rf 1 0 c15.length c15.length]], false⟩, some ⟨1, 3, (c15.map cdI.enc), false⟩]⟩) ?_ ?_
      · refine RunS.segF (n := 79) e_evening_Beside_ok 4 [(5, .pt 0 0 0), (9, .sl 1 (v13.map cdI.enc)), (10, .v (.int .i64 c16)), (11, .v (.int .i64 v18)), (19, .sl 1 (x1.map (cdL 1 (cdL 1 cdI)).enc)), (20, .v (.int .i64 (x1.length : Int))), (21, .v (.int .i64 c6)), (25, .sl 1 (v8.map (cdL 1 cdI).enc)), (26, .v (.int .i64 (v8.length : Int))), (27, .v (.int .i64 c11)), (31, .sl 1 (v13.map cdI.enc)), (32, .v (.int .i64 (v13.length : Int))), (33, .v (.int .i64 c16)), (38, .sl 1 (v13.map cdI.enc)), (40, .v (.int .i64 (wr .i64 (c16 + 1)))), (41, .sl 1 (v13.map cdI.enc))] [some ⟨2, 65, [.ag [.v (.int .i64 c14), .rf 1 0 c15.length c15.length]], false⟩, some ⟨1, 3, (c15.map cdI.enc), false⟩] (by kernel_rfl) ?_
        refine RunS.one e_evening_Beside_ok 0 rfl (op_q (wantedA_none rfl) rfl (q_len (a := .sl 1 (v13.map cdI.enc)) (by kernel_rfl) (len_sl (el := 3) (by kernel_rfl)))) ?_
        refine RunS.one e_evening_Beside_ok 0 rfl (op_q (wantedA_none rfl) rfl (q_bin (a := .v (.int .i64 (wr .i64 (c16 + 1)))) (b := .v (.int .i64 (v13.length : Int))) (by kernel_rfl) (by kernel_rfl) (bin_rem hz19))) ?_
        refine RunS.one e_evening_Beside_ok 0 rfl (op_q (wantedA_none rfl) rfl (q_indexAddr (a := .sl 1 (v13.map cdI.enc)) (b := .v (.int .i64 ((wr .i64 (c16 + 1)).tmod (v13.length : Int)))) (by kernel_rfl) (by kernel_rfl) (ix_sl (e := cdI.enc) (el := 3) (k := 1) (ki := .i64) (by kernel_rfl) (by kernel_rfl) hv20))) ?_
        refine RunS.segF (n := 79) e_evening_Beside_ok 2 [(5, .pt 0 0 0), (9, .sl 1 (v13.map cdI.enc)), (10, .v (.int .i64 c16)), (11, .v (.int .i64 v18)), (12, .v (.int .i64 v20)), (19, .sl 1 (x1.map (cdL 1 (cdL 1 cdI)).enc)), (20, .v (.int .i64 (x1.length : Int))), (21, .v (.int .i64 c6)), (25, .sl 1 (v8.map (cdL 1 cdI).enc)), (26, .v (.int .i64 (v8.length : Int))), (27, .v (.int .i64 c11)), (31, .sl 1 (v13.map cdI.enc)), (32, .v (.int .i64 (v13.length : Int))), (33, .v (.int .i64 c16))] [some ⟨2, 65, [.ag [.v (.int .i64 c14), .rf 1 0 c15.length c15.length]], false⟩, some ⟨1, 3, (c15.map cdI.enc), false⟩] (by kernel_rfl) ?_
        exact RunS.done rfl (Wk.s3 [0, 1] ⟨⟨_, rfl, bu_d⟩, ⟨_, rfl, bu_own⟩, trivial⟩ ⟨lv, lv, lv, lv, lv, lv, lv, lv, lv, lv, lv, lv, lv, lv, trivial⟩)
      refine Sem.seq ?_
      refine Sem.seq ?_
      obtain ⟨j24, hj24, h⟩ := Option.bind_eq_some_iff.1 h
      refine Sem.runS (s1 := ⟨Fr 79 [(5, .pt 0 0 0), (9, .sl 1 (v13.map cdI.enc)), (11, .v (.int .i64 v18)), (12, .v (.int .i64 v20)), (19, .sl 1 (x1.map (cdL 1 (cdL 1 cdI)).enc)), (20, .v (.int .i64 (x1.length : Int))), (21, .v (.int .i64 c6)), (25, .sl 1 (v8.map (cdL 1 cdI).enc)), (26, .v (.int .i64 (v8.length : Int))), (27, .v (.int .i64 c11)), (31, .sl 1 (v13.map cdI.enc)), (32, .v (.int .i64 (v13.length : Int))), (33, .v (.int .i64 c16)), (57, .v (.bool j24.2.2))], [some ⟨2, 65, [.ag [.v (.int .i64 j24.1), .rf 1 0 j24.2.1.length j24.2.1.length]], false⟩, some ⟨1, 3, (j24.2.1.map cdI.enc), false⟩]⟩) ?_ ?_
      · refine RunS.segF (n := 79) e_evening_Beside_ok 4 [(5, .pt 0 0 0), (9, .sl 1 (v13.map cdI.enc)), (10, .v (.int .i64 c16)), (11, .v (.int .i64 v18)), (12, .v (.int .i64 v20)), (19, .sl 1 (x1.map (cdL 1 (cdL 1 cdI)).enc)), (20, .v (.int .i64 (x1.length : Int))), (21, .v (.int .i64 c6)), (25, .sl 1 (v8.map (cdL 1 cdI).enc)), (26, .v (.int .i64 (v8.length : Int))), (27, .v (.int .i64 c11)), (31, .sl 1 (v13.map cdI.enc)), (32, .v (.int .i64 (v13.length : Int))), (33, .v (.int .i64 c16)), (49, .v (.bool (v18 == v20)))] [some ⟨2, 65, [.ag [.v (.int .i64 c14), .rf 1 0 c15.length c15.length]], false⟩, some ⟨1, 3, (c15.map cdI.enc), false⟩] (by kernel_rfl) ?_
        rcases Bool.eq_false_or_eq_true (v18 == v20) with hc30 | hc30
        · rw [if_pos hc30] at hj24
          rw [hc30]
          refine RunS.segF (n := 79) e_evening_Beside_ok 8 [(5, .pt 0 0 0), (9, .sl 1 (v13.map cdI.enc)), (11, .v (.int .i64 v18)), (12, .v (.int .i64 v20)), (19, .sl 1 (x1.map (cdL 1 (cdL 1 cdI)).enc)), (20, .v (.int .i64 (x1.length : Int))), (21, .v (.int .i64 c6)), (25, .sl 1 (v8.map (cdL 1 cdI).enc)), (26, .v (.int .i64 (v8.length : Int))), (27, .v (.int .i64 c11)), (31, .sl 1 (v13.map cdI.enc)), (32, .v (.int .i64 (v13.length : Int))), (33, .v (.int .i64 c16)), (50, .tp []), (51, .tp []), (52, .tp []), (53, .tp []), (54, .tp []), (55, .tp []), (56, .tp []), (57, .v (.bool true))] [some ⟨2, 65, [.ag [.v (.int .i64 c14), .rf 1 0 c15.length c15.length]], false⟩, some ⟨1, 3, (c15.map cdI.enc), false⟩] (by kernel_rfl) ?_
          have hq := Option.some.inj hj24; subst hq
          exact RunS.done rfl (Wk.s3 [0, 1] ⟨⟨_, rfl, bu_d⟩, ⟨_, rfl, bu_own⟩, trivial⟩ ⟨lv, lv, lv, lv, lv, lv, lv, lv, lv, lv, lv, lv, lv, lv, trivial⟩)
        · rw [if_f hc30] at hj24
          rw [hc30]
          refine RunS.segF (n := 79) e_evening_Beside_ok 1 [(5, .pt 0 0 0), (9, .sl 1 (v13.map cdI.enc)), (10, .v (.int .i64 c16)), (11, .v (.int .i64 v18)), (12, .v (.int .i64 v20)), (19, .sl 1 (x1.map (cdL 1 (cdL 1 cdI)).enc)), (20, .v (.int .i64 (x1.length : Int))), (21, .v (.int .i64 c6)), (25, .sl 1 (v8.map (cdL 1 cdI).enc)), (26, .v (.int .i64 (v8.length : Int))), (27, .v (.int .i64 c11)), (31, .sl 1 (v13.map cdI.enc)), (32, .v (.int .i64 (v13.length : Int))), (33, .v (.int .i64 c16)), (49, .v (.bool false)), (50, .sl 1 (v13.map cdI.enc))] [some ⟨2, 65, [.ag [.v (.int .i64 c14), .rf 1 0 c15.length c15.length]], false⟩, some ⟨1, 3, (c15.map cdI.enc), false⟩] (by kernel_rfl) ?_
          refine RunS.one e_evening_Beside_ok 0 rfl (op_q (by kernel_rfl) rfl (q_len (a := .sl 1 (v13.map cdI.enc)) (by kernel_rfl) (len_sl (el := 3) (by kernel_rfl)))) ?_
          refine RunS.segF (n := 79) e_evening_Beside_ok 2 [(5, .pt 0 0 0), (9, .sl 1 (v13.map cdI.enc)), (10, .v (.int .i64 c16)), (11, .v (.int .i64 v18)), (12, .v (.int .i64 v20)), (19, .sl 1 (x1.map (cdL 1 (cdL 1 cdI)).enc)), (20, .v (.int .i64 (x1.length : Int))), (21, .v (.int .i64 c6)), (25, .sl 1 (v8.map (cdL 1 cdI).enc)), (26, .v (.int .i64 (v8.length : Int))), (27, .v (.int .i64 c11)), (31, .sl 1 (v13.map cdI.enc)), (32, .v (.int .i64 (v13.length : Int))), (33, .v (.int .i64 c16)), (49, .v (.bool false)), (50, .sl 1 (v13.map cdI.enc)), (51, .v (.int .i64 (v13.length : Int))), (52, .v (.bool ((v13.length : Int) == 2))), (53, .v (.bool ((v13.length : Int) == 2)))] [some ⟨2, 65, [.ag [.v (.int .i64 c14), .rf 1 0 c15.length c15.length]], false⟩, some ⟨1, 3, (c15.map cdI.enc), false⟩] (by kernel_rfl) ?_
          rcases Bool.eq_false_or_eq_true ((v13.length : Int) == 2) with hc31 | hc31
          · rw [if_pos hc31] at hj24
            rw [hc31]
            refine RunS.segF (n := 79) e_evening_Beside_ok 4 [(5, .pt 0 0 0), (9, .sl 1 (v13.map cdI.enc)), (11, .v (.int .i64 v18)), (12, .v (.int .i64 v20)), (19, .sl 1 (x1.map (cdL 1 (cdL 1 cdI)).enc)), (20, .v (.int .i64 (x1.length : Int))), (21, .v (.int .i64 c6)), (25, .sl 1 (v8.map (cdL 1 cdI).enc)), (26, .v (.int .i64 (v8.length : Int))), (27, .v (.int .i64 c11)), (31, .sl 1 (v13.map cdI.enc)), (32, .v (.int .i64 (v13.length : Int))), (33, .v (.int .i64 c16)), (50, .sl 1 (v13.map cdI.enc)), (51, .v (.int .i64 (v13.length : Int))), (52, .v (.bool true)), (53, .v (.bool true)), (54, .v (.int .i64 c16)), (55, .v (.bool (c16 == 1))), (56, .v (.bool (c16 == 1))), (57, .v (.bool (c16 == 1)))] [some ⟨2, 65, [.ag [.v (.int .i64 c14), .rf 1 0 c15.length c15.length]], false⟩, some ⟨1, 3, (c15.map cdI.enc), false⟩] (by kernel_rfl) ?_
            have hq := Option.some.inj hj24; subst hq
            exact RunS.done rfl (Wk.s3 [0, 1] ⟨⟨_, rfl, bu_d⟩, ⟨_, rfl, bu_own⟩, trivial⟩ ⟨lv, lv, lv, lv, lv, lv, lv, lv, lv, lv, lv, lv, lv, lv, trivial⟩)
          · rw [if_f hc31] at hj24
            rw [hc31]
            refine RunS.segF (n := 79) e_evening_Beside_ok 4 [(5, .pt 0 0 0), (9, .sl 1 (v13.map cdI.enc)), (11, .v (.int .i64 v18)), (12, .v (.int .i64 v20)), (19, .sl 1 (x1.map (cdL 1 (cdL 1 cdI)).enc)), (20, .v (.int .i64 (x1.length : Int))), (21, .v (.int .i64 c6)), (25, .sl 1 (v8.map (cdL 1 cdI).enc)), (26, .v (.int .i64 (v8.length : Int))), (27, .v (.int .i64 c11)), (31, .sl 1 (v13.map cdI.enc)), (32, .v (.int .i64 (v13.length : Int))), (33, .v (.int .i64 c16)), (50, .sl 1 (v13.map cdI.enc)), (51, .v (.int .i64 (v13.length : Int))), (52, .v (.bool false)), (53, .v (.bool false)), (54, .tp []), (55, .tp []), (56, .v (.bool false)), (57, .v (.bool false))] [some ⟨2, 65, [.ag [.v (.int .i64 c14), .rf 1 0 c15.length c15.length]], false⟩, some ⟨1, 3, (c15.map cdI.enc), false⟩] (by kernel_rfl) ?_
            have hq := Option.some.inj hj24; subst hq
            exact RunS.done rfl (Wk.s3 [0, 1] ⟨⟨_, rfl, bu_d⟩, ⟨_, rfl, bu_own⟩, trivial⟩ ⟨lv, lv, lv, lv, lv, lv, lv, lv, lv, lv, lv, lv, lv, lv, trivial⟩)
      refine Sem.cond (b := j24.2.2) (by kernel_rfl) (fun hb25 => ?_) (fun hb25 => ?_)
      · rw [if_pos hb25] at h
        refine Sem.exit ?_
        refine Sem.runS (s1 := ⟨Fr 79 [(5, .pt 0 0 0), (9, .sl 1 (v13.map cdI.enc)), (19, .sl 1 (x1.map (cdL 1 (cdL 1 cdI)).enc)), (20, .v (.int .i64 (x1.length : Int))), (21, .v (.int .i64 c6)), (25, .sl 1 (v8.map (cdL 1 cdI).enc)), (26, .v (.int .i64 (v8.length : Int))), (27, .v (.int .i64 c11)), (31, .sl 1 (v13.map cdI.enc)), (32, .v (.int .i64 (v13.length : Int))), (33, .v (.int .i64 (wr .i64 (c16 + 1))))], [some ⟨2, 65, [.ag [.v (.int .i64 j24.1), .rf 1 0 j24.2.1.length j24.2.1.length]], false⟩, some ⟨1, 3, (j24.2.1.map cdI.enc), false⟩]⟩) ?_ ?_
        · refine RunS.segF (n := 79) e_evening_Beside_ok 2 [(5, .pt 0 0 0), (9, .sl 1 (v13.map cdI.enc)), (19, .sl 1 (x1.map (cdL 1 (cdL 1 cdI)).enc)), (20, .v (.int .i64 (x1.length : Int))), (21, .v (.int .i64 c6)), (25, .sl 1 (v8.map (cdL 1 cdI).enc)), (26, .v (.int .i64 (v8.length : Int))), (27, .v (.int .i64 c11)), (31, .sl 1 (v13.map cdI.enc)), (32, .v (.int .i64 (v13.length : Int))), (33, .v (.int .i64 (wr .i64 (c16 + 1))))] [some ⟨2, 65, [.ag [.v (.int .i64 j24.1), .rf 1 0 j24.2.1.length j24.2.1.length]], false⟩, some ⟨1, 3, (j24.2.1.map cdI.enc), false⟩] (by kernel_rfl) ?_
          exact RunS.done rfl (Wk.s3 [0, 1] ⟨⟨_, rfl, bu_d⟩, ⟨_, rfl, bu_own⟩, trivial⟩ ⟨lv, lv, lv, lv, lv, lv, lv, lv, lv, lv, lv, trivial⟩)
        exact SemN.wk (s1 := ⟨Fr 79 [(5, .pt 0 0 0), (9, .sl 1 (v13.map cdI.enc)), (19, .sl 1 (x1.map (cdL 1 (cdL 1 cdI)).enc)), (20, .v (.int .i64 (x1.length : Int))), (21, .v (.int .i64 c6)), (25, .sl 1 (v8.map (cdL 1 cdI).enc)), (26, .v (.int .i64 (v8.length : Int))), (27, .v (.int .i64 c11)), (31, .sl 1 (v13.map cdI.enc)), (32, .v (.int .i64 (v13.length : Int))), (33, .v (.int .i64 (wr .i64 (c16 + 1))))], [some ⟨2, 65, [.ag [.v (.int .i64 j24.1), .rf 1 0 j24.2.1.length j24.2.1.length]], false⟩, some ⟨1, 3, (j24.2.1.map cdI.enc), false⟩]⟩) (Wk.s3 [0, 1] ⟨⟨_, rfl, bu_d⟩, ⟨_, rfl, bu_own⟩, trivial⟩ ⟨lv, lv, lv, lv, lv, lv, lv, lv, lv, lv, lv, trivial⟩) (ih j24.1 j24.2.1 (wr .i64 (c16 + 1)) h)
      · rw [if_f hb25] at h
        refine Sem.skip ?_
        refine Sem.seq ?_
        obtain ⟨v26, hv26, h⟩ := Option.bind_eq_some_iff.1 h
        obtain ⟨v27, hv27, h⟩ := Option.bind_eq_some_iff.1 h
        refine Sem.runS (s1 := ⟨Fr 79 [(5, .pt 0 0 0), (9, .sl 1 (v13.map cdI.enc)), (11, .v (.int .i64 v18)), (12, .v (.int .i64 v20)), (19, .sl 1 (x1.map (cdL 1 (cdL 1 cdI)).enc)), (20, .v (.int .i64 (x1.length : Int))), (21, .v (.int .i64 c6)), (25, .sl 1 (v8.map (cdL 1 cdI).enc)), (26, .v (.int .i64 (v8.length : Int))), (27, .v (.int .i64 c11)), (31, .sl 1 (v13.map cdI.enc)), (32, .v (.int .i64 (v13.length : Int))), (33, .v (.int .i64 c16))], [some ⟨2, 65, [.ag [.v (.int .i64 j24.1), .rf 1 0 (j24.2.1.set ((wr .i64 ((wr .i64 (v18 * j24.1)) + v20)).toNat) (wr .i64 (v27 + 1))).length (j24.2.1.set ((wr .i64 ((wr .i64 (v18 * j24.1)) + v20)).toNat) (wr .i64 (v27 + 1))).length]], false⟩, some ⟨1, 3, ((j24.2.1.set ((wr .i64 ((wr .i64 (v18 * j24.1)) + v20)).toNat) (wr .i64 (v27 + 1))).map cdI.enc), false⟩]⟩) ?_ ?_
        · refine RunS.segF (n := 79) e_evening_Beside_ok 3 [(5, .pt 0 0 0), (9, .sl 1 (v13.map cdI.enc)), (11, .v (.int .i64 v18)), (12, .v (.int .i64 v20)), (19, .sl 1 (x1.map (cdL 1 (cdL 1 cdI)).enc)), (20, .v (.int .i64 (x1.length : Int))), (21, .v (.int .i64 c6)), (25, .sl 1 (v8.map (cdL 1 cdI).enc)), (26, .v (.int .i64 (v8.length : Int))), (27, .v (.int .i64 c11)), (31, .sl 1 (v13.map cdI.enc)), (32, .v (.int .i64 (v13.length : Int))), (33, .v (.int .i64 c16)), (58, .ag [.v (.int .i64 j24.1), .rf 1 0 j24.2.1.length j24.2.1.length]), (59, .v (.int .i64 v18)), (60, .v (.int .i64 v20))] [some ⟨2, 65, [.ag [.v (.int .i64 j24.1), .rf 1 0 j24.2.1.length j24.2.1.length]], false⟩, some ⟨1, 3, (j24.2.1.map cdI.enc), false⟩] (by kernel_rfl) ?_
          refine RunS.inlY (fid := 49) (caps := []) (xs := [.ag [.v (.int .i64 j24.1), .rf 1 0 j24.2.1.length j24.2.1.length], .v (.int .i64 v18), .v (.int .i64 v20)]) (fn := Tryd.f49) (Out := fun x h' => x = .pt 1 ((wr .i64 ((wr .i64 (v18 * j24.1)) + v20)).toNat) 0 ∧ h' = [some ⟨2, 65, [.ag [.v (.int .i64 j24.1), .rf 1 0 j24.2.1.length j24.2.1.length]], false⟩, some ⟨1, 3, (j24.2.1.map cdI.enc), false⟩, some ⟨2, 65, [.ag [.v (.int .i64 v26), .rf 1 0 j24.2.1.length j24.2.1.length]], false⟩]) rfl rfl e_evening_Beside_k2_ok rfl rfl rfl (wantedA_none rfl) (by kernel_rfl) (by kernel_rfl) (by kernel_rfl) (by kernel_rfl) (by show 3 ≤ 16; decide) (evening_Beside_k2_sem j24.1 j24.2.1 j24.1 v18 v20 _ hv26) ?_
          rintro x h' ⟨rfl, rfl⟩
          refine RunS.segF (n := 79) e_evening_Beside_ok 1 [(5, .pt 0 0 0), (9, .sl 1 (v13.map cdI.enc)), (11, .v (.int .i64 v18)), (12, .v (.int .i64 v20)), (19, .sl 1 (x1.map (cdL 1 (cdL 1 cdI)).enc)), (20, .v (.int .i64 (x1.length : Int))), (21, .v (.int .i64 c6)), (25, .sl 1 (v8.map (cdL 1 cdI).enc)), (26, .v (.int .i64 (v8.length : Int))), (27, .v (.int .i64 c11)), (31, .sl 1 (v13.map cdI.enc)), (32, .v (.int .i64 (v13.length : Int))), (33, .v (.int .i64 c16)), (61, .pt 1 ((wr .i64 ((wr .i64 (v18 * j24.1)) + v20)).toNat) 0), (62, .pt 1 ((wr .i64 ((wr .i64 (v18 * j24.1)) + v20)).toNat) 0)] [some ⟨2, 65, [.ag [.v (.int .i64 j24.1), .rf 1 0 j24.2.1.length j24.2.1.length]], false⟩, some ⟨1, 3, (j24.2.1.map cdI.enc), false⟩, some ⟨2, 65, [.ag [.v (.int .i64 v26), .rf 1 0 j24.2.1.length j24.2.1.length]], false⟩] (by kernel_rfl) ?_
          refine RunS.one e_evening_Beside_ok 0 rfl (op_q (wantedA_none rfl) rfl (q_load (p := .pt 1 ((wr .i64 ((wr .i64 (v18 * j24.1)) + v20)).toNat) 0) (by kernel_rfl) (ld_blk (B := ⟨1, 3, (j24.2.1.map cdI.enc), false⟩) (m := 1) (g := false) (e := cdI.enc) (xs := j24.2.1) (by kernel_rfl) (by kernel_rfl) (by kernel_rfl) rfl (idx_at hv27).2 (by kernel_rfl)))) ?_
          refine RunS.segF (n := 79) e_evening_Beside_ok 2 [(5, .pt 0 0 0), (9, .sl 1 (v13.map cdI.enc)), (11, .v (.int .i64 v18)), (12, .v (.int .i64 v20)), (19, .sl 1 (x1.map (cdL 1 (cdL 1 cdI)).enc)), (20, .v (.int .i64 (x1.length : Int))), (21, .v (.int .i64 c6)), (25, .sl 1 (v8.map (cdL 1 cdI).enc)), (26, .v (.int .i64 (v8.length : Int))), (27, .v (.int .i64 c11)), (31, .sl 1 (v13.map cdI.enc)), (32, .v (.int .i64 (v13.length : Int))), (33, .v (.int .i64 c16)), (64, .v (.int .i64 (wr .i64 (v27 + 1)))), (65, .pt 1 ((wr .i64 ((wr .i64 (v18 * j24.1)) + v20)).toNat) 0)] [some ⟨2, 65, [.ag [.v (.int .i64 j24.1), .rf 1 0 j24.2.1.length j24.2.1.length]], false⟩, some ⟨1, 3, (j24.2.1.map cdI.enc), false⟩, some ⟨2, 65, [.ag [.v (.int .i64 v26), .rf 1 0 j24.2.1.length j24.2.1.length]], false⟩] (by kernel_rfl) ?_
          refine RunS.store e_evening_Beside_ok (y := .pt 1 ((wr .i64 ((wr .i64 (v18 * j24.1)) + v20)).toNat) 0) (z := .v (.int .i64 (wr .i64 (v27 + 1)))) rfl (wantedA_none rfl) (by kernel_rfl) (by kernel_rfl) (st_blk (t' := 3) (k := 1) (e := cdI.enc) (xs := j24.2.1) (v := v27) (v' := (wr .i64 (v27 + 1))) (by kernel_rfl) (idx_at hv27).2 (by kernel_rfl) (by kernel_rfl) (by kernel_rfl)) ?_
          exact RunS.done rfl (Wk.s3 [0, 1] ⟨⟨_, rfl, bu_c (by simp only [List.length_set]; kernel_rfl) (by kernel_rfl)⟩, ⟨_, rfl, bu_own⟩, trivial⟩ ⟨lv, lv, lv, lv, lv, lv, lv, lv, lv, lv, lv, lv, lv, trivial⟩)
        obtain ⟨v28, hv28, h⟩ := Option.bind_eq_some_iff.1 h
        obtain ⟨v29, hv29, h⟩ := Option.bind_eq_some_iff.1 h
        refine Sem.runS (s1 := ⟨Fr 79 [(5, .pt 0 0 0), (9, .sl 1 (v13.map cdI.enc)), (19, .sl 1 (x1.map (cdL 1 (cdL 1 cdI)).enc)), (20, .v (.int .i64 (x1.length : Int))), (21, .v (.int .i64 c6)), (25, .sl 1 (v8.map (cdL 1 cdI).enc)), (26, .v (.int .i64 (v8.length : Int))), (27, .v (.int .i64 c11)), (31, .sl 1 (v13.map cdI.enc)), (32, .v (.int .i64 (v13.length : Int))), (33, .v (.int .i64 c16))], [some ⟨2, 65, [.ag [.v (.int .i64 j24.1), .rf 1 0 ((j24.2.1.set ((wr .i64 ((wr .i64 (v18 * j24.1)) + v20)).toNat) (wr .i64 (v27 + 1))).set ((wr .i64 ((wr .i64 (v20 * j24.1)) + v18)).toNat) (wr .i64 (v29 + 1))).length ((j24.2.1.set ((wr .i64 ((wr .i64 (v18 * j24.1)) + v20)).toNat) (wr .i64 (v27 + 1))).set ((wr .i64 ((wr .i64 (v20 * j24.1)) + v18)).toNat) (wr .i64 (v29 + 1))).length]], false⟩, some ⟨1, 3, (((j24.2.1.set ((wr .i64 ((wr .i64 (v18 * j24.1)) + v20)).toNat) (wr .i64 (v27 + 1))).set ((wr .i64 ((wr .i64 (v20 * j24.1)) + v18)).toNat) (wr .i64 (v29 + 1))).map cdI.enc), false⟩]⟩) ?_ ?_
        · refine RunS.segF (n := 79) e_evening_Beside_ok 3 [(5, .pt 0 0 0), (9, .sl 1 (v13.map cdI.enc)), (19, .sl 1 (x1.map (cdL 1 (cdL 1 cdI)).enc)), (20, .v (.int .i64 (x1.length : Int))), (21, .v (.int .i64 c6)), (25, .sl 1 (v8.map (cdL 1 cdI).enc)), (26, .v (.int .i64 (v8.length : Int))), (27, .v (.int .i64 c11)), (31, .sl 1 (v13.map cdI.enc)), (32, .v (.int .i64 (v13.length : Int))), (33, .v (.int .i64 c16)), (66, .ag [.v (.int .i64 j24.1), .rf 1 0 (j24.2.1.set ((wr .i64 ((wr .i64 (v18 * j24.1)) + v20)).toNat) (wr .i64 (v27 + 1))).length (j24.2.1.set ((wr .i64 ((wr .i64 (v18 * j24.1)) + v20)).toNat) (wr .i64 (v27 + 1))).length]), (67, .v (.int .i64 v20)), (68, .v (.int .i64 v18))] [some ⟨2, 65, [.ag [.v (.int .i64 j24.1), .rf 1 0 (j24.2.1.set ((wr .i64 ((wr .i64 (v18 * j24.1)) + v20)).toNat) (wr .i64 (v27 + 1))).length (j24.2.1.set ((wr .i64 ((wr .i64 (v18 * j24.1)) + v20)).toNat) (wr .i64 (v27 + 1))).length]], false⟩, some ⟨1, 3, ((j24.2.1.set ((wr .i64 ((wr .i64 (v18 * j24.1)) + v20)).toNat) (wr .i64 (v27 + 1))).map cdI.enc), false⟩] (by kernel_rfl) ?_
          refine RunS.inlY (fid := 49) (caps := []) (xs := [.ag [.v (.int .i64 j24.1), .rf 1 0 (j24.2.1.set ((wr .i64 ((wr .i64 (v18 * j24.1)) + v20)).toNat) (wr .i64 (v27 + 1))).length (j24.2.1.set ((wr .i64 ((wr .i64 (v18 * j24.1)) + v20)).toNat) (wr .i64 (v27 + 1))).length], .v (.int .i64 v20), .v (.int .i64 v18)]) (fn := Tryd.f49) (Out := fun x h' => x = .pt 1 ((wr .i64 ((wr .i64 (v20 * j24.1)) + v18)).toNat) 0 ∧ h' = [some ⟨2, 65, [.ag [.v (.int .i64 j24.1), .rf 1 0 (j24.2.1.set ((wr .i64 ((wr .i64 (v18 * j24.1)) + v20)).toNat) (wr .i64 (v27 + 1))).length (j24.2.1.set ((wr .i64 ((wr .i64 (v18 * j24.1)) + v20)).toNat) (wr .i64 (v27 + 1))).length]], false⟩, some ⟨1, 3, ((j24.2.1.set ((wr .i64 ((wr .i64 (v18 * j24.1)) + v20)).toNat) (wr .i64 (v27 + 1))).map cdI.enc), false⟩, some ⟨2, 65, [.ag [.v (.int .i64 v28), .rf 1 0 (j24.2.1.set ((wr .i64 ((wr .i64 (v18 * j24.1)) + v20)).toNat) (wr .i64 (v27 + 1))).length (j24.2.1.set ((wr .i64 ((wr .i64 (v18 * j24.1)) + v20)).toNat) (wr .i64 (v27 + 1))).length]], false⟩]) rfl rfl e_evening_Beside_k2_ok rfl rfl rfl (wantedA_none rfl) (by kernel_rfl) (by kernel_rfl) (by kernel_rfl) (by kernel_rfl) (by show 3 ≤ 16; decide) (evening_Beside_k2_sem j24.1 (j24.2.1.set ((wr .i64 ((wr .i64 (v18 * j24.1)) + v20)).toNat) (wr .i64 (v27 + 1))) j24.1 v20 v18 _ hv28) ?_
          rintro x h' ⟨rfl, rfl⟩
          refine RunS.segF (n := 79) e_evening_Beside_ok 1 [(5, .pt 0 0 0), (9, .sl 1 (v13.map cdI.enc)), (19, .sl 1 (x1.map (cdL 1 (cdL 1 cdI)).enc)), (20, .v (.int .i64 (x1.length : Int))), (21, .v (.int .i64 c6)), (25, .sl 1 (v8.map (cdL 1 cdI).enc)), (26, .v (.int .i64 (v8.length : Int))), (27, .v (.int .i64 c11)), (31, .sl 1 (v13.map cdI.enc)), (32, .v (.int .i64 (v13.length : Int))), (33, .v (.int .i64 c16)), (69, .pt 1 ((wr .i64 ((wr .i64 (v20 * j24.1)) + v18)).toNat) 0), (70, .pt 1 ((wr .i64 ((wr .i64 (v20 * j24.1)) + v18)).toNat) 0)] [some ⟨2, 65, [.ag [.v (.int .i64 j24.1), .rf 1 0 (j24.2.1.set ((wr .i64 ((wr .i64 (v18 * j24.1)) + v20)).toNat) (wr .i64 (v27 + 1))).length (j24.2.1.set ((wr .i64 ((wr .i64 (v18 * j24.1)) + v20)).toNat) (wr .i64 (v27 + 1))).length]], false⟩, some ⟨1, 3, ((j24.2.1.set ((wr .i64 ((wr .i64 (v18 * j24.1)) + v20)).toNat) (wr .i64 (v27 + 1))).map cdI.enc), false⟩, some ⟨2, 65, [.ag [.v (.int .i64 v28), .rf 1 0 (j24.2.1.set ((wr .i64 ((wr .i64 (v18 * j24.1)) + v20)).toNat) (wr .i64 (v27 + 1))).length (j24.2.1.set ((wr .i64 ((wr .i64 (v18 * j24.1)) + v20)).toNat) (wr .i64 (v27 + 1))).length]], false⟩] (by kernel_rfl) ?_
          refine RunS.one e_evening_Beside_ok 0 rfl (op_q (wantedA_none rfl) rfl (q_load (p := .pt 1 ((wr .i64 ((wr .i64 (v20 * j24.1)) + v18)).toNat) 0) (by kernel_rfl) (ld_blk (B := ⟨1, 3, ((j24.2.1.set ((wr .i64 ((wr .i64 (v18 * j24.1)) + v20)).toNat) (wr .i64 (v27 + 1))).map cdI.enc), false⟩) (m := 1) (g := false) (e := cdI.enc) (xs := (j24.2.1.set ((wr .i64 ((wr .i64 (v18 * j24.1)) + v20)).toNat) (wr .i64 (v27 + 1)))) (by kernel_rfl) (by kernel_rfl) (by kernel_rfl) rfl (idx_at hv29).2 (by kernel_rfl)))) ?_
          refine RunS.segF (n := 79) e_evening_Beside_ok 2 [(5, .pt 0 0 0), (9, .sl 1 (v13.map cdI.enc)), (19, .sl 1 (x1.map (cdL 1 (cdL 1 cdI)).enc)), (20, .v (.int .i64 (x1.length : Int))), (21, .v (.int .i64 c6)), (25, .sl 1 (v8.map (cdL 1 cdI).enc)), (26, .v (.int .i64 (v8.length : Int))), (27, .v (.int .i64 c11)), (31, .sl 1 (v13.map cdI.enc)), (32, .v (.int .i64 (v13.length : Int))), (33, .v (.int .i64 c16)), (72, .v (.int .i64 (wr .i64 (v29 + 1)))), (73, .pt 1 ((wr .i64 ((wr .i64 (v20 * j24.1)) + v18)).toNat) 0)] [some ⟨2, 65, [.ag [.v (.int .i64 j24.1), .rf 1 0 (j24.2.1.set ((wr .i64 ((wr .i64 (v18 * j24.1)) + v20)).toNat) (wr .i64 (v27 + 1))).length (j24.2.1.set ((wr .i64 ((wr .i64 (v18 * j24.1)) + v20)).toNat) (wr .i64 (v27 + 1))).length]], false⟩, some ⟨1, 3, ((j24.2.1.set ((wr .i64 ((wr .i64 (v18 * j24.1)) + v20)).toNat) (wr .i64 (v27 + 1))).map cdI.enc), false⟩, some ⟨2, 65, [.ag [.v (.int .i64 v28), .rf 1 0 (j24.2.1.set ((wr .i64 ((wr .i64 (v18 * j24.1)) + v20)).toNat) (wr .i64 (v27 + 1))).length (j24.2.1.set ((wr .i64 ((wr .i64 (v18 * j24.1)) + v20)).toNat) (wr .i64 (v27 + 1))).length]], false⟩] (by kernel_rfl) ?_
          refine RunS.store e_evening_Beside_ok (y := .pt 1 ((wr .i64 ((wr .i64 (v20 * j24.1)) + v18)).toNat) 0) (z := .v (.int .i64 (wr .i64 (v29 + 1)))) rfl (wantedA_none rfl) (by kernel_rfl) (by kernel_rfl) (st_blk (t' := 3) (k := 1) (e := cdI.enc) (xs := (j24.2.1.set ((wr .i64 ((wr .i64 (v18 * j24.1)) + v20)).toNat) (wr .i64 (v27 + 1)))) (v := v29) (v' := (wr .i64 (v29 + 1))) (by kernel_rfl) (idx_at hv29).2 (by kernel_rfl) (by kernel_rfl) (by kernel_rfl)) ?_
          exact RunS.done rfl (Wk.s3 [0, 1] ⟨⟨_, rfl, bu_c (by simp only [List.length_set]; kernel_rfl) (by kernel_rfl)⟩, ⟨_, rfl, bu_own⟩, trivial⟩ ⟨lv, lv, lv, lv, lv, lv, lv, lv, lv, lv, lv, trivial⟩)
        refine Sem.runS (s1 := ⟨Fr 79 [(5, .pt 0 0 0), (9, .sl 1 (v13.map cdI.enc)), (19, .sl 1 (x1.map (cdL 1 (cdL 1 cdI)).enc)), (20, .v (.int .i64 (x1.length : Int))), (21, .v (.int .i64 c6)), (25, .sl 1 (v8.map (cdL 1 cdI).enc)), (26, .v (.int .i64 (v8.length : Int))), (27, .v (.int .i64 c11)), (31, .sl 1 (v13.map cdI.enc)), (32, .v (.int .i64 (v13.length : Int))), (33, .v (.int .i64 (wr .i64 (c16 + 1))))], [some ⟨2, 65, [.ag [.v (.int .i64 j24.1), .rf 1 0 ((j24.2.1.set ((wr .i64 ((wr .i64 (v18 * j24.1)) + v20)).toNat) (wr .i64 (v27 + 1))).set ((wr .i64 ((wr .i64 (v20 * j24.1)) + v18)).toNat) (wr .i64 (v29 + 1))).length ((j24.2.1.set ((wr .i64 ((wr .i64 (v18 * j24.1)) + v20)).toNat) (wr .i64 (v27 + 1))).set ((wr .i64 ((wr .i64 (v20 * j24.1)) + v18)).toNat) (wr .i64 (v29 + 1))).length]], false⟩, some ⟨1, 3, (((j24.2.1.set ((wr .i64 ((wr .i64 (v18 * j24.1)) + v20)).toNat) (wr .i64 (v27 + 1))).set ((wr .i64 ((wr .i64 (v20 * j24.1)) + v18)).toNat) (wr .i64 (v29 + 1))).map cdI.enc), false⟩]⟩) ?_ ?_
        · refine RunS.segF (n := 79) e_evening_Beside_ok 2 [(5, .pt 0 0 0), (9, .sl 1 (v13.map cdI.enc)), (19, .sl 1 (x1.map (cdL 1 (cdL 1 cdI)).enc)), (20, .v (.int .i64 (x1.length : Int))), (21, .v (.int .i64 c6)), (25, .sl 1 (v8.map (cdL 1 cdI).enc)), (26, .v (.int .i64 (v8.length : Int))), (27, .v (.int .i64 c11)), (31, .sl 1 (v13.map cdI.enc)), (32, .v (.int .i64 (v13.length : Int))), (33, .v (.int .i64 (wr .i64 (c16 + 1))))] [some ⟨2, 65, [.ag [.v (.int .i64 j24.1), .rf 1 0 ((j24.2.1.set ((wr .i64 ((wr .i64 (v18 * j24.1)) + v20)).toNat) (wr .i64 (v27 + 1))).set ((wr .i64 ((wr .i64 (v20 * j24.1)) + v18)).toNat) (wr .i64 (v29 + 1))).length ((j24.2.1.set ((wr .i64 ((wr .i64 (v18 * j24.1)) + v20)).toNat) (wr .i64 (v27 + 1))).set ((wr .i64 ((wr .i64 (v20 * j24.1)) + v18)).toNat) (wr .i64 (v29 + 1))).length]], false⟩, some ⟨1, 3, (((j24.2.1.set ((wr .i64 ((wr .i64 (v18 * j24.1)) + v20)).toNat) (wr .i64 (v27 + 1))).set ((wr .i64 ((wr .i64 (v20 * j24.1)) + v18)).toNat) (wr .i64 (v29 + 1))).map cdI.enc), false⟩] (by kernel_rfl) ?_
          exact RunS.done rfl (Wk.s3 [0, 1] ⟨⟨_, rfl, bu_d⟩, ⟨_, rfl, bu_own⟩, trivial⟩ ⟨lv, lv, lv, lv, lv, lv, lv, lv, lv, lv, lv, trivial⟩)
        exact SemN.wk (s1 := ⟨Fr 79 [(5, .pt 0 0 0), (9, .sl 1 (v13.map cdI.enc)), (19, .sl 1 (x1.map (cdL 1 (cdL 1 cdI)).enc)), (20, .v (.int .i64 (x1.length : Int))), (21, .v (.int .i64 c6)), (25, .sl 1 (v8.map (cdL 1 cdI).enc)), (26, .v (.int .i64 (v8.length : Int))), (27, .v (.int .i64 c11)), (31, .sl 1 (v13.map cdI.enc)), (32, .v (.int .i64 (v13.length : Int))), (33, .v (.int .i64 (wr .i64 (c16 + 1))))], [some ⟨2, 65, [.ag [.v (.int .i64 j24.1), .rf 1 0 ((j24.2.1.set ((wr .i64 ((wr .i64 (v18 * j24.1)) + v20)).toNat) (wr .i64 (v27 + 1))).set ((wr .i64 ((wr .i64 (v20 * j24.1)) + v18)).toNat) (wr .i64 (v29 + 1))).length ((j24.2.1.set ((wr .i64 ((wr .i64 (v18 * j24.1)) + v20)).toNat) (wr .i64 (v27 + 1))).set ((wr .i64 ((wr .i64 (v20 * j24.1)) + v18)).toNat) (wr .i64 (v29 + 1))).length]], false⟩, some ⟨1, 3, (((j24.2.1.set ((wr .i64 ((wr .i64 (v18 * j24.1)) + v20)).toNat) (wr .i64 (v27 + 1))).set ((wr .i64 ((wr .i64 (v20 * j24.1)) + v18)).toNat) (wr .i64 (v29 + 1))).map cdI.enc), false⟩]⟩) (Wk.s3 [0, 1] ⟨⟨_, rfl, bu_d⟩, ⟨_, rfl, bu_own⟩, trivial⟩ ⟨lv, lv, lv, lv, lv, lv, lv, lv, lv, lv, lv, trivial⟩) (ih j24.1 ((j24.2.1.set ((wr .i64 ((wr .i64 (v18 * j24.1)) + v20)).toNat) (wr .i64 (v27 + 1))).set ((wr .i64 ((wr .i64 (v20 * j24.1)) + v18)).toNat) (wr .i64 (v29 + 1))) (wr .i64 (c16 + 1)) h)
    · rw [if_f hb17] at h
      refine Sem.exit ?_
      have hq := Option.some.inj h; subst hq
      exact ⟨rfl, (Wk.s3 [0, 1] ⟨⟨_, rfl, bu_d⟩, ⟨_, rfl, bu_own⟩, trivial⟩ ⟨lv, lv, lv, lv, lv, lv, lv, trivial⟩)⟩
set_option maxHeartbeats 4000000 in
set_option maxRecDepth 100000 in
theorem evening_Beside_2_ok (x1 : (List (List (List Int)))) (c6 : Int) (v8 : (List (List Int))) : ∀ (f : Nat) (c9 : Int) (c10 : (List Int)) (c11 : Int) (r : (Int × (List Int))), evening_Beside_2 x1 c6 v8 f c9 c10 c11 = some r → SemN e_evening_Beside ⟨none, false⟩ (pc cb_evening_Beside [1, 1, 1, 0, 1, 0, 0, 1, 1, 0, 0, 1, 1, 0, 0]) f ⟨Fr 79 [(5, .pt 0 0 0), (19, .sl 1 (x1.map (cdL 1 (cdL 1 cdI)).enc)), (20, .v (.int .i64 (x1.length : Int))), (21, .v (.int .i64 c6)), (25, .sl 1 (v8.map (cdL 1 cdI).enc)), (26, .v (.int .i64 (v8.length : Int))), (27, .v (.int .i64 c11))], [some ⟨2, 65, [.ag [.v (.int .i64 c9), .rf 1 0 c10.length c10.length]], false⟩, some ⟨1, 3, (c10.map cdI.enc), false⟩]⟩ (fun e s => e = (.exit 2) ∧ Wk e_evening_Beside s ⟨Fr 79 [(5, .pt 0 0 0), (19, .sl 1 (x1.map (cdL 1 (cdL 1 cdI)).enc)), (20, .v (.int .i64 (x1.length : Int))), (21, .v (.int .i64 c6))], [some ⟨2, 65, [.ag [.v (.int .i64 r.1), .rf 1 0 r.2.length r.2.length]], false⟩, some ⟨1, 3, (r.2.map cdI.enc), false⟩]⟩) := by
  intro f
  induction f with
  | zero => intro c9 c10 c11 r h; cases h
  | succ f ih0 =>
    intro c9 c10 c11 r h
    have ih := fun (c9 : Int) (c10 : (List Int)) (c11 : Int) => ih0 c9 c10 c11 r
    unfold evening_Beside_2 at h
    refine SemN.succ ?_
    refine Sem.seq ?_
    refine Sem.runS (s1 := ⟨Fr 79 [(5, .pt 0 0 0), (19, .sl 1 (x1.map (cdL 1 (cdL 1 cdI)).enc)), (20, .v (.int .i64 (x1.length : Int))), (21, .v (.int .i64 c6)), (25, .sl 1 (v8.map (cdL 1 cdI).enc)), (26, .v (.int .i64 (v8.length : Int))), (27, .v (.int .i64 c11)), (28, .v (.bool (decide (c11 < (v8.length : Int)))))], [some ⟨2, 65, [.ag [.v (.int .i64 c9), .rf 1 0 c10.length c10.length]], false⟩, some ⟨1, 3, (c10.map cdI.enc), false⟩]⟩) ?_ ?_
    · refine RunS.segF (n := 79) e_evening_Beside_ok 1 [(5, .pt 0 0 0), (19, .sl 1 (x1.map (cdL 1 (cdL 1 cdI)).enc)), (20, .v (.int .i64 (x1.length : Int))), (21, .v (.int .i64 c6)), (25, .sl 1 (v8.map (cdL 1 cdI).enc)), (26, .v (.int .i64 (v8.length : Int))), (27, .v (.int .i64 c11)), (28, .v (.bool (decide (c11 < (v8.length : Int)))))] [some ⟨2, 65, [.ag [.v (.int .i64 c9), .rf 1 0 c10.length c10.length]], false⟩, some ⟨1, 3, (c10.map cdI.enc), false⟩] (by kernel_rfl) ?_
      exact RunS.done rfl (Wk.s3 [0, 1] ⟨⟨_, rfl, bu_d⟩, ⟨_, rfl, bu_own⟩, trivial⟩ ⟨lv, lv, lv, lv, lv, lv, lv, lv, trivial⟩)
    refine Sem.seq ?_
    refine Sem.cond (b := (decide (c11 < (v8.length : Int)))) (by kernel_rfl) (fun hb12 => ?_) (fun hb12 => ?_)
    · rw [if_pos hb12] at h
      refine Sem.skip ?_
      refine Sem.seq ?_
      refine Sem.block ?_
      refine Sem.seq ?_
      obtain ⟨v13, hv13, h⟩ := Option.bind_eq_some_iff.1 h
      refine Sem.runS (s1 := ⟨Fr 79 [(5, .pt 0 0 0), (9, .sl 1 (v13.map cdI.enc)), (19, .sl 1 (x1.map (cdL 1 (cdL 1 cdI)).enc)), (20, .v (.int .i64 (x1.length : Int))), (21, .v (.int .i64 c6)), (25, .sl 1 (v8.map (cdL 1 cdI).enc)), (26, .v (.int .i64 (v8.length : Int))), (27, .v (.int .i64 c11))], [some ⟨2, 65, [.ag [.v (.int .i64 c9), .rf 1 0 c10.length c10.length]], false⟩, some ⟨1, 3, (c10.map cdI.enc), false⟩]⟩) ?_ ?_
      · refine RunS.one e_evening_Beside_ok 0 rfl (op_q (wantedA_none rfl) rfl (q_indexAddr (a := .sl 1 (v8.map (cdL 1 cdI).enc)) (b := .v (.int .i64 c11)) (by kernel_rfl) (by kernel_rfl) (ix_sl (e := (cdL 1 cdI).enc) (el := 29) (k := 1) (ki := .i64) (by kernel_rfl) (by kernel_rfl) hv13))) ?_
        refine RunS.segF (n := 79) e_evening_Beside_ok 2 [(5, .pt 0 0 0), (9, .sl 1 (v13.map cdI.enc)), (19, .sl 1 (x1.map (cdL 1 (cdL 1 cdI)).enc)), (20, .v (.int .i64 (x1.length : Int))), (21, .v (.int .i64 c6)), (25, .sl 1 (v8.map (cdL 1 cdI).enc)), (26, .v (.int .i64 (v8.length : Int))), (27, .v (.int .i64 c11))] [some ⟨2, 65, [.ag [.v (.int .i64 c9), .rf 1 0 c10.length c10.length]], false⟩, some ⟨1, 3, (c10.map cdI.enc), false⟩] (by kernel_rfl) ?_
        exact RunS.done rfl (Wk.s3 [0, 1] ⟨⟨_, rfl, bu_d⟩, ⟨_, rfl, bu_own⟩, trivial⟩ ⟨lv, lv, lv, lv, lv, lv, lv, lv, trivial⟩)
      refine Sem.seq ?_
      refine Sem.runS (s1 := ⟨Fr 79 [(5, .pt 0 0 0), (9, .sl 1 (v13.map cdI.enc)), (19, .sl 1 (x1.map (cdL 1 (cdL 1 cdI)).enc)), (20, .v (.int .i64 (x1.length : Int))), (21, .v (.int .i64 c6)), (25, .sl 1 (v8.map (cdL 1 cdI).enc)), (26, .v (.int .i64 (v8.length : Int))), (27, .v (.int .i64 c11)), (31, .sl 1 (v13.map cdI.enc)), (32, .v (.int .i64 (v13.length : Int))), (33, .v (.int .i64 0))], [some ⟨2, 65, [.ag [.v (.int .i64 c9), .rf 1 0 c10.length c10.length]], false⟩, some ⟨1, 3, (c10.map cdI.enc), false⟩]⟩) ?_ ?_
      · refine RunS.segF (n := 79) e_evening_Beside_ok 1 [(5, .pt 0 0 0), (9, .sl 1 (v13.map cdI.enc)), (19, .sl 1 (x1.map (cdL 1 (cdL 1 cdI)).enc)), (20, .v (.int .i64 (x1.length : Int))), (21, .v (.int .i64 c6)), (25, .sl 1 (v8.map (cdL 1 cdI).enc)), (26, .v (.int .i64 (v8.length : Int))), (27, .v (.int .i64 c11)), (31, .sl 1 (v13.map cdI.enc))] [some ⟨2, 65, [.ag [.v (.int .i64 c9), .rf 1 0 c10.length c10.length]], false⟩, some ⟨1, 3, (c10.map cdI.enc), false⟩] (by kernel_rfl) ?_
        refine RunS.one e_evening_Beside_ok 0 rfl (op_q (wantedA_none rfl) rfl (q_len (a := .sl 1 (v13.map cdI.enc)) (by kernel_rfl) (len_sl (el := 3) (by kernel_rfl)))) ?_
        refine RunS.segF (n := 79) e_evening_Beside_ok 1 [(5, .pt 0 0 0), (9, .sl 1 (v13.map cdI.enc)), (19, .sl 1 (x1.map (cdL 1 (cdL 1 cdI)).enc)), (20, .v (.int .i64 (x1.length : Int))), (21, .v (.int .i64 c6)), (25, .sl 1 (v8.map (cdL 1 cdI).enc)), (26, .v (.int .i64 (v8.length : Int))), (27, .v (.int .i64 c11)), (31, .sl 1 (v13.map cdI.enc)), (32, .v (.int .i64 (v13.length : Int))), (33, .v (.int .i64 0))] [some ⟨2, 65, [.ag [.v (.int .i64 c9), .rf 1 0 c10.length c10.length]], false⟩, some ⟨1, 3, (c10.map cdI.enc), false⟩] (by kernel_rfl) ?_
        exact RunS.done rfl (Wk.s3 [0, 1] ⟨⟨_, rfl, bu_d⟩, ⟨_, rfl, bu_own⟩, trivial⟩ ⟨lv, lv, lv, lv, lv, lv, lv, lv, lv, lv, lv, trivial⟩)
      refine Sem.block ?_
      obtain ⟨r34, hr34, h⟩ := Option.bind_eq_some_iff.1 h
      refine Sem.loop (n := 100000) ?_
      refine Sem.cutN (SemN.wk (s1 := ⟨Fr 79 [(5, .pt 0 0 0), (9, .sl 1 (v13.map cdI.enc)), (19, .sl 1 (x1.map (cdL 1 (cdL 1 cdI)).enc)), (20, .v (.int .i64 (x1.length : Int))), (21, .v (.int .i64 c6)), (25, .sl 1 (v8.map (cdL 1 cdI).enc)), (26, .v (.int .i64 (v8.length : Int))), (27, .v (.int .i64 c11)), (31, .sl 1 (v13.map cdI.enc)), (32, .v (.int .i64 (v13.length : Int))), (33, .v (.int .i64 0))], [some ⟨2, 65, [.ag [.v (.int .i64 c9), .rf 1 0 c10.length c10.length]], false⟩, some ⟨1, 3, (c10.map cdI.enc), false⟩]⟩) (Wk.s3 [0, 1] ⟨⟨_, rfl, bu_d⟩, ⟨_, rfl, bu_own⟩, trivial⟩ ⟨lv, lv, lv, lv, lv, lv, lv, lv, lv, lv, lv, trivial⟩) (evening_Beside_3_ok x1 c6 v8 c11 v13 _ c9 c10 0 _ hr34)) ?_
      refine Sem.runS (s1 := ⟨Fr 79 [(5, .pt 0 0 0), (19, .sl 1 (x1.map (cdL 1 (cdL 1 cdI)).enc)), (20, .v (.int .i64 (x1.length : Int))), (21, .v (.int .i64 c6)), (25, .sl 1 (v8.map (cdL 1 cdI).enc)), (26, .v (.int .i64 (v8.length : Int))), (27, .v (.int .i64 (wr .i64 (c11 + 1))))], [some ⟨2, 65, [.ag [.v (.int .i64 r34.1), .rf 1 0 r34.2.length r34.2.length]], false⟩, some ⟨1, 3, (r34.2.map cdI.enc), false⟩]⟩) ?_ ?_
      · refine RunS.segF (n := 79) e_evening_Beside_ok 2 [(5, .pt 0 0 0), (19, .sl 1 (x1.map (cdL 1 (cdL 1 cdI)).enc)), (20, .v (.int .i64 (x1.length : Int))), (21, .v (.int .i64 c6)), (25, .sl 1 (v8.map (cdL 1 cdI).enc)), (26, .v (.int .i64 (v8.length : Int))), (27, .v (.int .i64 (wr .i64 (c11 + 1))))] [some ⟨2, 65, [.ag [.v (.int .i64 r34.1), .rf 1 0 r34.2.length r34.2.length]], false⟩, some ⟨1, 3, (r34.2.map cdI.enc), false⟩] (by kernel_rfl) ?_
        exact RunS.done rfl (Wk.s3 [0, 1] ⟨⟨_, rfl, bu_d⟩, ⟨_, rfl, bu_own⟩, trivial⟩ ⟨lv, lv, lv, lv, lv, lv, lv, trivial⟩)
      exact SemN.wk (s1 := ⟨Fr 79 [(5, .pt 0 0 0), (19, .sl 1 (x1.map (cdL 1 (cdL 1 cdI)).enc)), (20, .v (.int .i64 (x1.length : Int))), (21, .v (.int .i64 c6)), (25, .sl 1 (v8.map (cdL 1 cdI).enc)), (26, .v (.int .i64 (v8.length : Int))), (27, .v (.int .i64 (wr .i64 (c11 + 1))))], [some ⟨2, 65, [.ag [.v (.int .i64 r34.1), .rf 1 0 r34.2.length r34.2.length]], false⟩, some ⟨1, 3, (r34.2.map cdI.enc), false⟩]⟩) (Wk.s3 [0, 1] ⟨⟨_, rfl, bu_d⟩, ⟨_, rfl, bu_own⟩, trivial⟩ ⟨lv, lv, lv, lv, lv, lv, lv, trivial⟩) (ih r34.1 r34.2 (wr .i64 (c11 + 1)) h)
    · rw [if_f hb12] at h
      refine Sem.exit ?_
      have hq := Option.some.inj h; subst hq
      exact ⟨rfl, (Wk.s3 [0, 1] ⟨⟨_, rfl, bu_d⟩, ⟨_, rfl, bu_own⟩, trivial⟩ ⟨lv, lv, lv, lv, trivial⟩)⟩
set_option maxHeartbeats 4000000 in
set_option maxRecDepth 100000 in
theorem evening_Beside_1_ok (x1 : (List (List (List Int)))) : ∀ (f : Nat) (c4 : Int) (c5 : (List Int)) (c6 : Int) (r : (Int × (List Int))), evening_Beside_1 x1 f c4 c5 c6 = some r → SemN e_evening_Beside ⟨none, false⟩ (pc cb_evening_Beside [1, 1, 1, 0, 1, 0, 0]) f ⟨Fr 79 [(5, .pt 0 0 0), (19, .sl 1 (x1.map (cdL 1 (cdL 1 cdI)).enc)), (20, .v (.int .i64 (x1.length : Int))), (21, .v (.int .i64 c6))], [some ⟨2, 65, [.ag [.v (.int .i64 c4), .rf 1 0 c5.length c5.length]], false⟩, some ⟨1, 3, (c5.map cdI.enc), false⟩]⟩ (fun e s => e = (.exit 0) ∧ Wk e_evening_Beside s ⟨Fr 79 [(5, .pt 0 0 0)], [some ⟨2, 65, [.ag [.v (.int .i64 r.1), .rf 1 0 r.2.length r.2.length]], false⟩, some ⟨1, 3, (r.2.map cdI.enc), false⟩]⟩) := by
  intro f
  induction f with
  | zero => intro c4 c5 c6 r h; cases h
  | succ f ih0 =>
    intro c4 c5 c6 r h
    have ih := fun (c4 : Int) (c5 : (List Int)) (c6 : Int) => ih0 c4 c5 c6 r
    unfold evening_Beside_1 at h
    refine SemN.succ ?_
    refine Sem.seq ?_
    refine Sem.runS (s1 := ⟨Fr 79 [(5, .pt 0 0 0), (19, .sl 1 (x1.map (cdL 1 (cdL 1 cdI)).enc)), (20, .v (.int .i64 (x1.length : Int))), (21, .v (.int .i64 c6)), (22, .v (.bool (decide (c6 < (x1.length : Int)))))], [some ⟨2, 65, [.ag [.v (.int .i64 c4), .rf 1 0 c5.length c5.length]], false⟩, some ⟨1, 3, (c5.map cdI.enc), false⟩]⟩) ?_ ?_
    · refine RunS.segF (n := 79) e_evening_Beside_ok 1 [(5, .pt 0 0 0), (19, .sl 1 (x1.map (cdL 1 (cdL 1 cdI)).enc)), (20, .v (.int .i64 (x1.length : Int))), (21, .v (.int .i64 c6)), (22, .v (.bool (decide (c6 < (x1.length : Int)))))] [some ⟨2, 65, [.ag [.v (.int .i64 c4), .rf 1 0 c5.length c5.length]], false⟩, some ⟨1, 3, (c5.map cdI.enc), false⟩] (by kernel_rfl) ?_
      exact RunS.done rfl (Wk.s3 [0, 1] ⟨⟨_, rfl, bu_d⟩, ⟨_, rfl, bu_own⟩, trivial⟩ ⟨lv, lv, lv, lv, lv, trivial⟩)
    refine Sem.seq ?_
    refine Sem.cond (b := (decide (c6 < (x1.length : Int)))) (by kernel_rfl) (fun hb7 => ?_) (fun hb7 => ?_)
    · rw [if_pos hb7] at h
      refine Sem.skip ?_
      refine Sem.seq ?_
      refine Sem.block ?_
      refine Sem.seq ?_
      obtain ⟨v8, hv8, h⟩ := Option.bind_eq_some_iff.1 h
      refine Sem.runS (s1 := ⟨Fr 79 [(5, .pt 0 0 0), (7, .sl 1 (v8.map (cdL 1 cdI).enc)), (19, .sl 1 (x1.map (cdL 1 (cdL 1 cdI)).enc)), (20, .v (.int .i64 (x1.length : Int))), (21, .v (.int .i64 c6))], [some ⟨2, 65, [.ag [.v (.int .i64 c4), .rf 1 0 c5.length c5.length]], false⟩, some ⟨1, 3, (c5.map cdI.enc), false⟩]⟩) ?_ ?_
      · refine RunS.one e_evening_Beside_ok 0 rfl (op_q (wantedA_none rfl) rfl (q_indexAddr (a := .sl 1 (x1.map (cdL 1 (cdL 1 cdI)).enc)) (b := .v (.int .i64 c6)) (by kernel_rfl) (by kernel_rfl) (ix_sl (e := (cdL 1 (cdL 1 cdI)).enc) (el := 36) (k := 1) (ki := .i64) (by kernel_rfl) (by kernel_rfl) hv8))) ?_
        refine RunS.segF (n := 79) e_evening_Beside_ok 2 [(5, .pt 0 0 0), (7, .sl 1 (v8.map (cdL 1 cdI).enc)), (19, .sl 1 (x1.map (cdL 1 (cdL 1 cdI)).enc)), (20, .v (.int .i64 (x1.length : Int))), (21, .v (.int .i64 c6))] [some ⟨2, 65, [.ag [.v (.int .i64 c4), .rf 1 0 c5.length c5.length]], false⟩, some ⟨1, 3, (c5.map cdI.enc), false⟩] (by kernel_rfl) ?_
        exact RunS.done rfl (Wk.s3 [0, 1] ⟨⟨_, rfl, bu_d⟩, ⟨_, rfl, bu_own⟩, trivial⟩ ⟨lv, lv, lv, lv, lv, trivial⟩)
      refine Sem.seq ?_
      refine Sem.runS (s1 := ⟨Fr 79 [(5, .pt 0 0 0), (19, .sl 1 (x1.map (cdL 1 (cdL 1 cdI)).enc)), (20, .v (.int .i64 (x1.length : Int))), (21, .v (.int .i64 c6)), (25, .sl 1 (v8.map (cdL 1 cdI).enc)), (26, .v (.int .i64 (v8.length : Int))), (27, .v (.int .i64 0))], [some ⟨2, 65, [.ag [.v (.int .i64 c4), .rf 1 0 c5.length c5.length]], false⟩, some ⟨1, 3, (c5.map cdI.enc), false⟩]⟩) ?_ ?_
      · refine RunS.segF (n := 79) e_evening_Beside_ok 1 [(5, .pt 0 0 0), (19, .sl 1 (x1.map (cdL 1 (cdL 1 cdI)).enc)), (20, .v (.int .i64 (x1.length : Int))), (21, .v (.int .i64 c6)), (25, .sl 1 (v8.map (cdL 1 cdI).enc))] [some ⟨2, 65, [.ag [.v (.int .i64 c4), .rf 1 0 c5.length c5.length]], false⟩, some ⟨1, 3, (c5.map cdI.enc), false⟩] (by kernel_rfl) ?_
        refine RunS.one e_evening_Beside_ok 0 rfl (op_q (wantedA_none rfl) rfl (q_len (a := .sl 1 (v8.map (cdL 1 cdI).enc)) (by kernel_rfl) (len_sl (el := 29) (by kernel_rfl)))) ?_
        refine RunS.segF (n := 79) e_evening_Beside_ok 1 [(5, .pt 0 0 0), (19, .sl 1 (x1.map (cdL 1 (cdL 1 cdI)).enc)), (20, .v (.int .i64 (x1.length : Int))), (21, .v (.int .i64 c6)), (25, .sl 1 (v8.map (cdL 1 cdI).enc)), (26, .v (.int .i64 (v8.length : Int))), (27, .v (.int .i64 0))] [some ⟨2, 65, [.ag [.v (.int .i64 c4), .rf 1 0 c5.length c5.length]], false⟩, some ⟨1, 3, (c5.map cdI.enc), false⟩] (by kernel_rfl) ?_
        exact RunS.done rfl (Wk.s3 [0, 1] ⟨⟨_, rfl, bu_d⟩, ⟨_, rfl, bu_own⟩, trivial⟩ ⟨lv, lv, lv, lv, lv, lv, lv, trivial⟩)
      refine Sem.block ?_
      obtain ⟨r37, hr37, h⟩ := Option.bind_eq_some_iff.1 h
      refine Sem.loop (n := 100000) ?_
      refine Sem.cutN (SemN.wk (s1 := ⟨Fr 79 [(5, .pt 0 0 0), (19, .sl 1 (x1.map (cdL 1 (cdL 1 cdI)).enc)), (20, .v (.int .i64 (x1.length : Int))), (21, .v (.int .i64 c6)), (25, .sl 1 (v8.map (cdL 1 cdI).enc)), (26, .v (.int .i64 (v8.length : Int))), (27, .v (.int .i64 0))], [some ⟨2, 65, [.ag [.v (.int .i64 c4), .rf 1 0 c5.length c5.length]], false⟩, some ⟨1, 3, (c5.map cdI.enc), false⟩]⟩) (Wk.s3 [0, 1] ⟨⟨_, rfl, bu_d⟩, ⟨_, rfl, bu_own⟩, trivial⟩ ⟨lv, lv, lv, lv, lv, lv, lv, trivial⟩) (evening_Beside_2_ok x1 c6 v8 _ c4 c5 0 _ hr37)) ?_
      refine Sem.runS (s1 := ⟨Fr 79 [(5, .pt 0 0 0), (19, .sl 1 (x1.map (cdL 1 (cdL 1 cdI)).enc)), (20, .v (.int .i64 (x1.length : Int))), (21, .v (.int .i64 (wr .i64 (c6 + 1))))], [some ⟨2, 65, [.ag [.v (.int .i64 r37.1), .rf 1 0 r37.2.length r37.2.length]], false⟩, some ⟨1, 3, (r37.2.map cdI.enc), false⟩]⟩) ?_ ?_
      · refine RunS.segF (n := 79) e_evening_Beside_ok 2 [(5, .pt 0 0 0), (19, .sl 1 (x1.map (cdL 1 (cdL 1 cdI)).enc)), (20, .v (.int .i64 (x1.length : Int))), (21, .v (.int .i64 (wr .i64 (c6 + 1))))] [some ⟨2, 65, [.ag [.v (.int .i64 r37.1), .rf 1 0 r37.2.length r37.2.length]], false⟩, some ⟨1, 3, (r37.2.map cdI.enc), false⟩] (by kernel_rfl) ?_
        exact RunS.done rfl (Wk.s3 [0, 1] ⟨⟨_, rfl, bu_d⟩, ⟨_, rfl, bu_own⟩, trivial⟩ ⟨lv, lv, lv, lv, trivial⟩)
      exact SemN.wk (s1 := ⟨Fr 79 [(5, .pt 0 0 0), (19, .sl 1 (x1.map (cdL 1 (cdL 1 cdI)).enc)), (20, .v (.int .i64 (x1.length : Int))), (21, .v (.int .i64 (wr .i64 (c6 + 1))))], [some ⟨2, 65, [.ag [.v (.int .i64 r37.1), .rf 1 0 r37.2.length r37.2.length]], false⟩, some ⟨1, 3, (r37.2.map cdI.enc), false⟩]⟩) (Wk.s3 [0, 1] ⟨⟨_, rfl, bu_d⟩, ⟨_, rfl, bu_own⟩, trivial⟩ ⟨lv, lv, lv, lv, trivial⟩) (ih r37.1 r37.2 (wr .i64 (c6 + 1)) h)
    · rw [if_f hb7] at h
      refine Sem.exit ?_
      have hq := Option.some.inj h; subst hq
      exact ⟨rfl, (Wk.s3 [0, 1] ⟨⟨_, rfl, bu_d⟩, ⟨_, rfl, bu_own⟩, trivial⟩ ⟨lv, trivial⟩)⟩
set_option maxHeartbeats 4000000 in
set_option maxRecDepth 100000 in
theorem evening_Beside_sem (x0 : Int) (x1 : (List (List (List Int)))) (r : (List (List Int))) (h : evening_Beside x0 x1 = some r) : Sem e_evening_Beside ⟨none, false⟩ cb_evening_Beside ⟨Fr 79 (pairs0 0 (cs_evening_Beside.enc (x0, x1, ()))), []⟩ fun e s' => (e = .normal ∨ e = .ret) ∧ ∃ xs, resA e_evening_Beside.P s'.fr s'.hp Tryd.f15.results.toList = some xs ∧ retA xs = er_evening_Beside r := by
  unfold evening_Beside at h
  refine Sem.wkQ (Sem.wk (s1 := ⟨Fr 79 [(0, .v (.int .i64 x0)), (1, .sl 1 (x1.map (cdL 1 (cdL 1 cdI)).enc))], []⟩) Wk.f1 ?_)
  refine Sem.seq ?_
  refine Sem.runS (s1 := ⟨Fr 79 [(0, .v (.int .i64 x0)), (1, .sl 1 (x1.map (cdL 1 (cdL 1 cdI)).enc))], []⟩) ?_ ?_
  · refine RunS.segF (n := 79) e_evening_Beside_ok 1 [(0, .v (.int .i64 x0)), (1, .sl 1 (x1.map (cdL 1 (cdL 1 cdI)).enc))] [] (by kernel_rfl) ?_
    exact RunS.done rfl Wk.f1
  refine Sem.seq ?_
  refine Sem.seq ?_
  obtain ⟨v1, hv1, h⟩ := Option.bind_eq_some_iff.1 h
  refine Sem.runS (s1 := ⟨Fr 79 [(0, .v (.int .i64 x0)), (1, .sl 1 (x1.map (cdL 1 (cdL 1 cdI)).enc)), (16, .v (.bool (!v1)))], []⟩) ?_ ?_
  · refine RunS.segF (n := 79) e_evening_Beside_ok 2 [(0, .v (.int .i64 x0)), (1, .sl 1 (x1.map (cdL 1 (cdL 1 cdI)).enc)), (13, .v (.int .i64 x0)), (14, .sl 1 (x1.map (cdL 1 (cdL 1 cdI)).enc))] [] (by kernel_rfl) ?_
    refine RunS.call e_evening_Beside_ok (fid := 43) (s := cs_evening_valid) (F := fun a => evening_valid a.1 a.2.1) (er := er_evening_valid) (xs := [.v (.int .i64 x0), .sl 1 (x1.map (cdL 1 (cdL 1 cdI)).enc)]) (a := (x0, x1, ())) rfl (wantedA_none rfl) (by kernel_rfl) (by kernel_rfl) (by kernel_rfl) (by kernel_rfl) (Sns.cons (Sn.enc (c := cdI) (v := x0)) (Sns.cons (Sn.enc (c := (cdL 1 (cdL 1 (cdL 1 cdI)))) (v := x1)) Sns.nil)) (.inl (by kernel_rfl)) hv1 ?_
    refine RunS.segF (n := 79) e_evening_Beside_ok 1 [(0, .v (.int .i64 x0)), (1, .sl 1 (x1.map (cdL 1 (cdL 1 cdI)).enc)), (16, .v (.bool (!v1)))] [] (by kernel_rfl) ?_
    exact RunS.done rfl Wk.f1
  refine Sem.cond (b := (!v1)) (by kernel_rfl) (fun hb2 => ?_) (fun hb2 => ?_)
  · rw [if_pos hb2] at h
    refine Sem.seq ?_
    refine Sem.runS (s1 := ⟨Fr 79 [(4, .e0)], []⟩) ?_ ?_
    · refine RunS.segF (n := 79) e_evening_Beside_ok 1 [(4, .e0)] [] (by kernel_rfl) ?_
      exact RunS.done rfl Wk.f1
    refine Sem.ret ?_
    have hq := Option.some.inj h; subst hq
    exact ⟨⟨Fr 79 [(4, .sl 1 ([].map (cdL 1 cdI).enc))], []⟩, (Wk.trans (s1 := ⟨Fr 79 [(4, .e0)], []⟩) Wk.f1 (Wk.trans (s1 := ⟨Fr 79 [(4, .e0)], [none]⟩) Wk.none (Wk.trans (s1 := ⟨Fr 79 [(4, .sl 1 ([].map (cdL 1 cdI).enc))], [none]⟩) (Wk.frzG 0 (.inr (by kernel_rfl)) ⟨.inl rfl, trivial⟩ ⟨⟨.e0, (by kernel_rfl), fz_e0⟩, trivial⟩) (Wk.s3 [] trivial ⟨lv, trivial⟩)))), .inr rfl, [.sl 1 ([].map (cdL 1 cdI).enc)], (by kernel_rfl), (by kernel_rfl)⟩
  · rw [if_f hb2] at h
    refine Sem.skip ?_
    refine Sem.seq ?_
    obtain ⟨v3, hv3, h⟩ := Option.bind_eq_some_iff.1 h
    refine Sem.runS (s1 := ⟨Fr 79 [(1, .sl 1 (x1.map (cdL 1 (cdL 1 cdI)).enc)), (5, .pt 0 0 0)], [some ⟨2, 65, [.ag [.v (.int .i64 v3.1), .rf 1 0 v3.2.2.length v3.2.2.length]], false⟩, some ⟨1, 3, (v3.2.2.map cdI.enc), false⟩]⟩) ?_ ?_
    · refine RunS.segF (n := 79) e_evening_Beside_ok 1 [(1, .sl 1 (x1.map (cdL 1 (cdL 1 cdI)).enc)), (17, .v (.int .i64 x0))] [] (by kernel_rfl) ?_
      refine RunS.inlY (fid := 48) (caps := []) (xs := [.v (.int .i64 x0)]) (fn := Tryd.f48) (Out := fun x h' => x = .ag [.v (.int .i64 v3.1), .rf 1 0 v3.2.2.length v3.2.2.length] ∧ h' = [some ⟨2, 65, [.ag [.v (.int .i64 v3.2.1), .rf 1 0 v3.2.2.length v3.2.2.length]], false⟩, some ⟨1, 3, (v3.2.2.map cdI.enc), false⟩]) rfl rfl e_evening_Beside_k1_ok rfl rfl rfl (wantedA_none rfl) (by kernel_rfl) (by kernel_rfl) (by kernel_rfl) (by kernel_rfl) (by show 1 ≤ 9; decide) (evening_Beside_k1_sem x0 _ hv3) ?_
      rintro x h' ⟨rfl, rfl⟩
      refine RunS.segF (n := 79) e_evening_Beside_ok 2 [(1, .sl 1 (x1.map (cdL 1 (cdL 1 cdI)).enc)), (5, .pt 2 0 0)] [some ⟨2, 65, [.ag [.v (.int .i64 v3.2.1), .rf 1 0 v3.2.2.length v3.2.2.length]], false⟩, some ⟨1, 3, (v3.2.2.map cdI.enc), false⟩, some ⟨2, 65, [.ag [.v (.int .i64 v3.1), .rf 1 0 v3.2.2.length v3.2.2.length]], false⟩] (by kernel_rfl) ?_
      exact RunS.done rfl (Wk.s3 [2, 1] ⟨⟨_, rfl, bu_d⟩, ⟨_, rfl, bu_own⟩, trivial⟩ ⟨lv, lv, trivial⟩)
    refine Sem.seq ?_
    refine Sem.seq ?_
    refine Sem.runS (s1 := ⟨Fr 79 [(5, .pt 0 0 0), (19, .sl 1 (x1.map (cdL 1 (cdL 1 cdI)).enc)), (20, .v (.int .i64 (x1.length : Int))), (21, .v (.int .i64 0))], [some ⟨2, 65, [.ag [.v (.int .i64 v3.1), .rf 1 0 v3.2.2.length v3.2.2.length]], false⟩, some ⟨1, 3, (v3.2.2.map cdI.enc), false⟩]⟩) ?_ ?_
    · refine RunS.segF (n := 79) e_evening_Beside_ok 1 [(5, .pt 0 0 0), (19, .sl 1 (x1.map (cdL 1 (cdL 1 cdI)).enc))] [some ⟨2, 65, [.ag [.v (.int .i64 v3.1), .rf 1 0 v3.2.2.length v3.2.2.length]], false⟩, some ⟨1, 3, (v3.2.2.map cdI.enc), false⟩] (by kernel_rfl) ?_
      refine RunS.one e_evening_Beside_ok 0 rfl (op_q (wantedA_none rfl) rfl (q_len (a := .sl 1 (x1.map (cdL 1 (cdL 1 cdI)).enc)) (by kernel_rfl) (len_sl (el := 36) (by kernel_rfl)))) ?_
      refine RunS.segF (n := 79) e_evening_Beside_ok 1 [(5, .pt 0 0 0), (19, .sl 1 (x1.map (cdL 1 (cdL 1 cdI)).enc)), (20, .v (.int .i64 (x1.length : Int))), (21, .v (.int .i64 0))] [some ⟨2, 65, [.ag [.v (.int .i64 v3.1), .rf 1 0 v3.2.2.length v3.2.2.length]], false⟩, some ⟨1, 3, (v3.2.2.map cdI.enc), false⟩] (by kernel_rfl) ?_
      exact RunS.done rfl (Wk.s3 [0, 1] ⟨⟨_, rfl, bu_d⟩, ⟨_, rfl, bu_own⟩, trivial⟩ ⟨lv, lv, lv, lv, trivial⟩)
    refine Sem.block ?_
    obtain ⟨r40, hr40, h⟩ := Option.bind_eq_some_iff.1 h
    refine Sem.loop (n := 100000) ?_
    refine Sem.cutN (SemN.wk (s1 := ⟨Fr 79 [(5, .pt 0 0 0), (19, .sl 1 (x1.map (cdL 1 (cdL 1 cdI)).enc)), (20, .v (.int .i64 (x1.length : Int))), (21, .v (.int .i64 0))], [some ⟨2, 65, [.ag [.v (.int .i64 v3.1), .rf 1 0 v3.2.2.length v3.2.2.length]], false⟩, some ⟨1, 3, (v3.2.2.map cdI.enc), false⟩]⟩) (Wk.s3 [0, 1] ⟨⟨_, rfl, bu_d⟩, ⟨_, rfl, bu_own⟩, trivial⟩ ⟨lv, lv, lv, lv, trivial⟩) (evening_Beside_1_ok x1 _ v3.1 v3.2.2 0 _ hr40)) ?_
    refine Sem.seq ?_
    obtain ⟨v41, hv41, h⟩ := Option.bind_eq_some_iff.1 h
    refine Sem.runS (s1 := ⟨Fr 79 [(4, .sl 1 (v41.map (cdL 1 cdI).enc))], []⟩) ?_ ?_
    · refine RunS.segF (n := 79) e_evening_Beside_ok 1 [(77, .ag [.v (.int .i64 r40.1), .rf 1 0 r40.2.length r40.2.length])] [some ⟨2, 65, [.ag [.v (.int .i64 r40.1), .rf 1 0 r40.2.length r40.2.length]], false⟩, some ⟨1, 3, (r40.2.map cdI.enc), false⟩] (by kernel_rfl) ?_
      refine RunS.wk (s1 := ⟨Fr 79 [(77, .ag [.v (.int .i64 r40.1), .sl 1 (r40.2.map cdI.enc)])], [some ⟨2, 65, [.ag [.v (.int .i64 r40.1), .sl 1 (r40.2.map cdI.enc)]], false⟩, none]⟩) (Wk.frzG2 1 (.inl (by kernel_rfl)) ⟨.inr (.inr ⟨_, _, _, _, rfl, rfl, ⟨(.inr ⟨_, _, rfl, rfl, ⟨.inl rfl, fz_rlT (c := cdI) (xs := r40.2) (t := 3) (by kernel_rfl), trivial⟩⟩), trivial⟩⟩), .inl rfl, trivial⟩ ⟨⟨.ag [.v (.int .i64 r40.1), .rf 1 0 r40.2.length r40.2.length], (by kernel_rfl), (.inr ⟨_, _, rfl, rfl, ⟨.inl rfl, fz_rlT (c := cdI) (xs := r40.2) (t := 3) (by kernel_rfl), trivial⟩⟩)⟩, trivial⟩) ?_
      refine RunS.call e_evening_Beside_ok (fid := 47) (s := cs_evening_square_int_rows) (F := fun a => evening_square_int_rows a.1) (er := er_evening_square_int_rows) (xs := [.ag [.v (.int .i64 r40.1), .sl 1 (r40.2.map cdI.enc)]]) (a := ((r40.1, r40.2), ())) rfl (wantedA_none rfl) (by kernel_rfl) (by kernel_rfl) (by kernel_rfl) (by kernel_rfl) (Sns.cons (Sn.enc (c := (cdG2 cdI (cdL 1 cdI) (fun _ => rfl) (fun _ => rfl))) (v := (r40.1, r40.2))) Sns.nil) (.inl (by kernel_rfl)) hv41 ?_
      refine RunS.segF (n := 79) e_evening_Beside_ok 1 [(4, .sl 1 (v41.map (cdL 1 cdI).enc))] [some ⟨2, 65, [.ag [.v (.int .i64 r40.1), .sl 1 (r40.2.map cdI.enc)]], false⟩, none] (by kernel_rfl) ?_
      exact RunS.done rfl (Wk.s3 [] trivial ⟨lv, trivial⟩)
    refine Sem.ret ?_
    have hq := Option.some.inj h; subst hq
    exact ⟨⟨Fr 79 [(4, .sl 1 (v41.map (cdL 1 cdI).enc))], []⟩, Wk.f1, .inr rfl, [.sl 1 (v41.map (cdL 1 cdI).enc)], (by kernel_rfl), (by kernel_rfl)⟩
def t_evening_Beside : List AV → Option AV := told cs_evening_Beside (fun a => evening_Beside a.1 a.2.1) er_evening_Beside
theorem x_evening_Beside : XOk 15 t_evening_Beside := by
  refine EnvOk.x (E := e_evening_Beside) (contract_ok e_evening_Beside_ok (fn := Tryd.f15) (c := cb_evening_Beside) ?h1 ?h2 ⟨Tryd.call15⟩ cs_evening_Beside (fun a => evening_Beside a.1 a.2.1) er_evening_Beside (fun a => (by show 2 ≤ 79; decide)) ?h3 ?h4) rfl rfl
  case h1 => kernel_rfl
  case h2 => kernel_rfl
  case h3 => intro b; kernel_rfl
  case h4 => exact fun a b h => evening_Beside_sem a.1 a.2.1 b h
/- slices.Index[[]int,int] -/
noncomputable def e_slices_Index_L_int : Env := E0
theorem e_slices_Index_L_int_ok : EnvOk e_slices_Index_L_int := E0_ok
noncomputable def cb_slices_Index_L_int : Code := codeOf Tryd.f68
def slices_Index_L_int_1 (x0 : (List Int)) (x1 : Int) : Nat → Int → Option ((Unit) ⊕ (Int))
  | 0, _ => none
  | f + 1, c1 =>
    if (decide (c1 < (x0.length : Int))) = true then
    (idx x0 c1).bind fun v3 =>
    if (x1 == v3) = true then
    some (.inr c1)
    else
    slices_Index_L_int_1 x0 x1 f (wr .i64 (c1 + 1))
    else
    some (.inl ())
def slices_Index_L_int (x0 : (List Int)) (x1 : Int) : Option (Int) :=
  (slices_Index_L_int_1 x0 x1 100000 0).bind fun r6 =>
  match r6 with
  | (.inl w7) =>
    some (-1)
  | (.inr w8) =>
    some w8
def cs_slices_Index_L_int : Cs ((List Int) × Int × Unit) := (csC (cdL 1 cdI) (csC cdI csN))
def er_slices_Index_L_int (r : Int) : AV := cdI.enc r
set_option maxHeartbeats 4000000 in
set_option maxRecDepth 100000 in
theorem slices_Index_L_int_1_ok (x0 : (List Int)) (x1 : Int) : ∀ (f : Nat) (c1 : Int) (r : (Unit) ⊕ (Int)), slices_Index_L_int_1 x0 x1 f c1 = some r → SemN e_slices_Index_L_int ⟨none, false⟩ (pc cb_slices_Index_L_int [1, 0, 1, 0, 0]) f ⟨Fr 19 [(0, .sl 1 (x0.map cdI.enc)), (1, .v (.int .i64 x1)), (7, .v (.int .i64 (x0.length : Int))), (8, .v (.int .i64 c1))], []⟩ (fun e s => match r with
  | (.inl w) => e = (.exit 0) ∧ Wk e_slices_Index_L_int s ⟨Fr 19 [], []⟩
  | (.inr w) => e = .ret ∧ Wk e_slices_Index_L_int s ⟨Fr 19 [(4, .v (.int .i64 w))], []⟩) := by
  intro f
  induction f with
  | zero => intro c1 r h; cases h
  | succ f ih0 =>
    intro c1 r h
    have ih := fun (c1 : Int) => ih0 c1 r
    unfold slices_Index_L_int_1 at h
    refine SemN.succ ?_
    refine Sem.seq ?_
    refine Sem.runS (s1 := ⟨Fr 19 [(0, .sl 1 (x0.map cdI.enc)), (1, .v (.int .i64 x1)), (7, .v (.int .i64 (x0.length : Int))), (8, .v (.int .i64 c1)), (9, .v (.bool (decide (c1 < (x0.length : Int)))))], []⟩) ?_ ?_
    · refine RunS.segF (n := 19) e_slices_Index_L_int_ok 1 [(0, .sl 1 (x0.map cdI.enc)), (1, .v (.int .i64 x1)), (7, .v (.int .i64 (x0.length : Int))), (8, .v (.int .i64 c1)), (9, .v (.bool (decide (c1 < (x0.length : Int)))))] [] (by kernel_rfl) ?_
      exact RunS.done rfl Wk.f1
    refine Sem.seq ?_
    refine Sem.cond (b := (decide (c1 < (x0.length : Int)))) (by kernel_rfl) (fun hb2 => ?_) (fun hb2 => ?_)
    · rw [if_pos hb2] at h
      refine Sem.skip ?_
      refine Sem.seq ?_
      refine Sem.block ?_
      refine Sem.seq ?_
      refine Sem.runS (s1 := ⟨Fr 19 [(0, .sl 1 (x0.map cdI.enc)), (1, .v (.int .i64 x1)), (5, .v (.int .i64 c1)), (7, .v (.int .i64 (x0.length : Int))), (8, .v (.int .i64 c1))], []⟩) ?_ ?_
      · refine RunS.segF (n := 19) e_slices_Index_L_int_ok 2 [(0, .sl 1 (x0.map cdI.enc)), (1, .v (.int .i64 x1)), (5, .v (.int .i64 c1)), (7, .v (.int .i64 (x0.length : Int))), (8, .v (.int .i64 c1))] [] (by kernel_rfl) ?_
        exact RunS.done rfl Wk.f1
      refine Sem.seq ?_
      obtain ⟨v3, hv3, h⟩ := Option.bind_eq_some_iff.1 h
      refine Sem.runS (s1 := ⟨Fr 19 [(0, .sl 1 (x0.map cdI.enc)), (1, .v (.int .i64 x1)), (5, .v (.int .i64 c1)), (7, .v (.int .i64 (x0.length : Int))), (8, .v (.int .i64 c1)), (16, .v (.bool (x1 == v3)))], []⟩) ?_ ?_
      · refine RunS.segF (n := 19) e_slices_Index_L_int_ok 3 [(0, .sl 1 (x0.map cdI.enc)), (1, .v (.int .i64 x1)), (5, .v (.int .i64 c1)), (7, .v (.int .i64 (x0.length : Int))), (8, .v (.int .i64 c1)), (11, .v (.int .i64 x1)), (12, .sl 1 (x0.map cdI.enc)), (13, .v (.int .i64 c1))] [] (by kernel_rfl) ?_
        refine RunS.one e_slices_Index_L_int_ok 0 rfl (op_q (wantedA_none rfl) rfl (q_indexAddr (a := .sl 1 (x0.map cdI.enc)) (b := .v (.int .i64 c1)) (by kernel_rfl) (by kernel_rfl) (ix_sl (e := cdI.enc) (el := 3) (k := 1) (ki := .i64) (by kernel_rfl) (by kernel_rfl) hv3))) ?_
        refine RunS.segF (n := 19) e_slices_Index_L_int_ok 2 [(0, .sl 1 (x0.map cdI.enc)), (1, .v (.int .i64 x1)), (5, .v (.int .i64 c1)), (7, .v (.int .i64 (x0.length : Int))), (8, .v (.int .i64 c1)), (16, .v (.bool (x1 == v3)))] [] (by kernel_rfl) ?_
        exact RunS.done rfl Wk.f1
      refine Sem.cond (b := (x1 == v3)) (by kernel_rfl) (fun hb4 => ?_) (fun hb4 => ?_)
      · rw [if_pos hb4] at h
        refine Sem.seq ?_
        refine Sem.runS (s1 := ⟨Fr 19 [(4, .v (.int .i64 c1))], []⟩) ?_ ?_
        · refine RunS.segF (n := 19) e_slices_Index_L_int_ok 2 [(4, .v (.int .i64 c1))] [] (by kernel_rfl) ?_
          exact RunS.done rfl Wk.f1
        refine Sem.ret ?_
        have hq := Option.some.inj h; subst hq
        exact ⟨rfl, Wk.f1⟩
      · rw [if_f hb4] at h
        refine Sem.skip ?_
        refine Sem.runS (s1 := ⟨Fr 19 [(0, .sl 1 (x0.map cdI.enc)), (1, .v (.int .i64 x1)), (7, .v (.int .i64 (x0.length : Int))), (8, .v (.int .i64 (wr .i64 (c1 + 1))))], []⟩) ?_ ?_
        · refine RunS.segF (n := 19) e_slices_Index_L_int_ok 2 [(0, .sl 1 (x0.map cdI.enc)), (1, .v (.int .i64 x1)), (7, .v (.int .i64 (x0.length : Int))), (8, .v (.int .i64 (wr .i64 (c1 + 1))))] [] (by kernel_rfl) ?_
          exact RunS.done rfl Wk.f1
        exact SemN.wk (s1 := ⟨Fr 19 [(0, .sl 1 (x0.map cdI.enc)), (1, .v (.int .i64 x1)), (7, .v (.int .i64 (x0.length : Int))), (8, .v (.int .i64 (wr .i64 (c1 + 1))))], []⟩) Wk.f1 (ih (wr .i64 (c1 + 1)) h)
    · rw [if_f hb2] at h
      refine Sem.exit ?_
      have hq := Option.some.inj h; subst hq
      exact ⟨rfl, Wk.f1⟩
set_option maxHeartbeats 4000000 in
set_option maxRecDepth 100000 in
theorem slices_Index_L_int_sem (x0 : (List Int)) (x1 : Int) (r : Int) (h : slices_Index_L_int x0 x1 = some r) : Sem e_slices_Index_L_int ⟨none, false⟩ cb_slices_Index_L_int ⟨Fr 19 (pairs0 0 (cs_slices_Index_L_int.enc (x0, x1, ()))), []⟩ fun e s' => (e = .normal ∨ e = .ret) ∧ ∃ xs, resA e_slices_Index_L_int.P s'.fr s'.hp Tryd.f68.results.toList = some xs ∧ retA xs = er_slices_Index_L_int r := by
  unfold slices_Index_L_int at h
  refine Sem.wkQ (Sem.wk (s1 := ⟨Fr 19 [(0, .sl 1 (x0.map cdI.enc)), (1, .v (.int .i64 x1))], []⟩) Wk.f1 ?_)
  refine Sem.seq ?_
  refine Sem.runS (s1 := ⟨Fr 19 [(0, .sl 1 (x0.map cdI.enc)), (1, .v (.int .i64 x1))], []⟩) ?_ ?_
  · refine RunS.segF (n := 19) e_slices_Index_L_int_ok 1 [(0, .sl 1 (x0.map cdI.enc)), (1, .v (.int .i64 x1))] [] (by kernel_rfl) ?_
    exact RunS.done rfl Wk.f1
  refine Sem.seq ?_
  refine Sem.seq ?_
  refine Sem.runS (s1 := ⟨Fr 19 [(0, .sl 1 (x0.map cdI.enc)), (1, .v (.int .i64 x1)), (7, .v (.int .i64 (x0.length : Int))), (8, .v (.int .i64 0))], []⟩) ?_ ?_
  · refine RunS.segF (n := 19) e_slices_Index_L_int_ok 1 [(0, .sl 1 (x0.map cdI.enc)), (1, .v (.int .i64 x1)), (6, .sl 1 (x0.map cdI.enc))] [] (by kernel_rfl) ?_
    refine RunS.one e_slices_Index_L_int_ok 0 rfl (op_q (wantedA_none rfl) rfl (q_len (a := .sl 1 (x0.map cdI.enc)) (by kernel_rfl) (len_sl (el := 3) (by kernel_rfl)))) ?_
    refine RunS.segF (n := 19) e_slices_Index_L_int_ok 1 [(0, .sl 1 (x0.map cdI.enc)), (1, .v (.int .i64 x1)), (7, .v (.int .i64 (x0.length : Int))), (8, .v (.int .i64 0))] [] (by kernel_rfl) ?_
    exact RunS.done rfl Wk.f1
  refine Sem.block ?_
  obtain ⟨r6, hr6, h⟩ := Option.bind_eq_some_iff.1 h
  refine Sem.loop (n := 100000) ?_
  rcases r6 with w7 | w8
  · try dsimp only at h
    refine Sem.cutN (SemN.wk (s1 := ⟨Fr 19 [(0, .sl 1 (x0.map cdI.enc)), (1, .v (.int .i64 x1)), (7, .v (.int .i64 (x0.length : Int))), (8, .v (.int .i64 0))], []⟩) Wk.f1 (slices_Index_L_int_1_ok x0 x1 _ 0 _ hr6)) ?_
    refine Sem.seq ?_
    refine Sem.runS (s1 := ⟨Fr 19 [(4, .v (.int .i64 (-1)))], []⟩) ?_ ?_
    · refine RunS.segF (n := 19) e_slices_Index_L_int_ok 1 [(4, .v (.int .i64 (-1)))] [] (by kernel_rfl) ?_
      exact RunS.done rfl Wk.f1
    refine Sem.ret ?_
    have hq := Option.some.inj h; subst hq
    exact ⟨⟨Fr 19 [(4, .v (.int .i64 (-1)))], []⟩, Wk.f1, .inr rfl, [.v (.int .i64 (-1))], (by kernel_rfl), (by kernel_rfl)⟩
  · try dsimp only at h
    refine Sem.cutN (SemN.wk (s1 := ⟨Fr 19 [(0, .sl 1 (x0.map cdI.enc)), (1, .v (.int .i64 x1)), (7, .v (.int .i64 (x0.length : Int))), (8, .v (.int .i64 0))], []⟩) Wk.f1 (slices_Index_L_int_1_ok x0 x1 _ 0 _ hr6)) ?_
    have hq := Option.some.inj h; subst hq
    exact ⟨⟨Fr 19 [(4, .v (.int .i64 w8))], []⟩, Wk.f1, .inr rfl, [.v (.int .i64 w8)], (by kernel_rfl), (by kernel_rfl)⟩
def t_slices_Index_L_int : List AV → Option AV := told cs_slices_Index_L_int (fun a => slices_Index_L_int a.1 a.2.1) er_slices_Index_L_int
theorem x_slices_Index_L_int : XOk 68 t_slices_Index_L_int := by
  refine EnvOk.x (E := e_slices_Index_L_int) (contract_ok e_slices_Index_L_int_ok (fn := Tryd.f68) (c := cb_slices_Index_L_int) ?h1 ?h2 ⟨Tryd.call68⟩ cs_slices_Index_L_int (fun a => slices_Index_L_int a.1 a.2.1) er_slices_Index_L_int (fun a => (by show 2 ≤ 19; decide)) ?h3 ?h4) rfl rfl
  case h1 => kernel_rfl
  case h2 => kernel_rfl
  case h3 => intro b; kernel_rfl
  case h4 => exact fun a b h => slices_Index_L_int_sem a.1 a.2.1 b h
/- slices.Contains[[]int,int] -/
noncomputable def e_slices_Contains_L_int : Env := (E0.withX 68 t_slices_Index_L_int)
theorem e_slices_Contains_L_int_ok : EnvOk e_slices_Contains_L_int := (EnvOk.withX E0_ok x_slices_Index_L_int.1 x_slices_Index_L_int.2)
noncomputable def cb_slices_Contains_L_int : Code := codeOf Tryd.f50
def slices_Contains_L_int (x0 : (List Int)) (x1 : Int) : Option (Bool) :=
  (slices_Index_L_int x0 x1).bind fun v1 =>
  some (decide (v1 ≥ 0))
def cs_slices_Contains_L_int : Cs ((List Int) × Int × Unit) := (csC (cdL 1 cdI) (csC cdI csN))
def er_slices_Contains_L_int (r : Bool) : AV := cdB.enc r
set_option maxHeartbeats 4000000 in
set_option maxRecDepth 100000 in
theorem slices_Contains_L_int_sem (x0 : (List Int)) (x1 : Int) (r : Bool) (h : slices_Contains_L_int x0 x1 = some r) : Sem e_slices_Contains_L_int ⟨none, false⟩ cb_slices_Contains_L_int ⟨Fr 9 (pairs0 0 (cs_slices_Contains_L_int.enc (x0, x1, ()))), []⟩ fun e s' => (e = .normal ∨ e = .ret) ∧ ∃ xs, resA e_slices_Contains_L_int.P s'.fr s'.hp Tryd.f50.results.toList = some xs ∧ retA xs = er_slices_Contains_L_int r := by
  unfold slices_Contains_L_int at h
  refine Sem.wkQ (Sem.wk (s1 := ⟨Fr 9 [(0, .sl 1 (x0.map cdI.enc)), (1, .v (.int .i64 x1))], []⟩) Wk.f1 ?_)
  refine Sem.seq ?_
  refine Sem.runS (s1 := ⟨Fr 9 [(0, .sl 1 (x0.map cdI.enc)), (1, .v (.int .i64 x1))], []⟩) ?_ ?_
  · refine RunS.segF (n := 9) e_slices_Contains_L_int_ok 1 [(0, .sl 1 (x0.map cdI.enc)), (1, .v (.int .i64 x1))] [] (by kernel_rfl) ?_
    exact RunS.done rfl Wk.f1
  refine Sem.seq ?_
  obtain ⟨v1, hv1, h⟩ := Option.bind_eq_some_iff.1 h
  refine Sem.runS (s1 := ⟨Fr 9 [(4, .v (.bool (decide (v1 ≥ 0))))], []⟩) ?_ ?_
  · refine RunS.segF (n := 9) e_slices_Contains_L_int_ok 2 [(5, .sl 1 (x0.map cdI.enc)), (6, .v (.int .i64 x1))] [] (by kernel_rfl) ?_
    refine RunS.call e_slices_Contains_L_int_ok (fid := 68) (s := cs_slices_Index_L_int) (F := fun a => slices_Index_L_int a.1 a.2.1) (er := er_slices_Index_L_int) (xs := [.sl 1 (x0.map cdI.enc), .v (.int .i64 x1)]) (a := (x0, x1, ())) rfl (wantedA_none rfl) (by kernel_rfl) (by kernel_rfl) (by kernel_rfl) (by kernel_rfl) (Sns.cons (Sn.enc (c := (cdL 1 cdI)) (v := x0)) (Sns.cons (Sn.enc (c := cdI) (v := x1)) Sns.nil)) (.inl (by kernel_rfl)) hv1 ?_
    refine RunS.segF (n := 9) e_slices_Contains_L_int_ok 2 [(4, .v (.bool (decide (v1 ≥ 0))))] [] (by kernel_rfl) ?_
    exact RunS.done rfl Wk.f1
  refine Sem.ret ?_
  have hq := Option.some.inj h; subst hq
  exact ⟨⟨Fr 9 [(4, .v (.bool (decide (v1 ≥ 0))))], []⟩, Wk.f1, .inr rfl, [.v (.bool (decide (v1 ≥ 0)))], (by kernel_rfl), (by kernel_rfl)⟩
def t_slices_Contains_L_int : List AV → Option AV := told cs_slices_Contains_L_int (fun a => slices_Contains_L_int a.1 a.2.1) er_slices_Contains_L_int
theorem x_slices_Contains_L_int : XOk 50 t_slices_Contains_L_int := by
  refine EnvOk.x (E := e_slices_Contains_L_int) (contract_ok e_slices_Contains_L_int_ok (fn := Tryd.f50) (c := cb_slices_Contains_L_int) ?h1 ?h2 ⟨Tryd.call50⟩ cs_slices_Contains_L_int (fun a => slices_Contains_L_int a.1 a.2.1) er_slices_Contains_L_int (fun a => (by show 2 ≤ 9; decide)) ?h3 ?h4) rfl rfl
  case h1 => kernel_rfl
  case h2 => kernel_rfl
  case h3 => intro b; kernel_rfl
  case h4 => exact fun a b h => slices_Contains_L_int_sem a.1 a.2.1 b h
/- trestle/evening.Together -/
noncomputable def e_evening_Together : Env := ((E0.withX 43 t_evening_valid).withX 50 t_slices_Contains_L_int)
theorem e_evening_Together_ok : EnvOk e_evening_Together := (EnvOk.withX (EnvOk.withX E0_ok x_evening_valid.1 x_evening_valid.2) x_slices_Contains_L_int.1 x_slices_Contains_L_int.2)
noncomputable def cb_evening_Together : Code := codeOf Tryd.f16
def evening_Together_j3 (x1 : (List (List (List Int)))) (x2 : Int) (x3 : Int) (c6 : Int) (v8 : (List (List Int))) (c10 : Int) (j17 : (List Int) × Bool) : Option (((List Int))) :=
  if j17.2 = true then
  if (capOk 8 (j17.1.length + 1)) = true then
  some (j17.1 ++ [c6])
  else none
  else
  some j17.1
def evening_Together_2 (x1 : (List (List (List Int)))) (x2 : Int) (x3 : Int) (c6 : Int) (v8 : (List (List Int))) : Nat → (List Int) → Int → Option (((List Int)))
  | 0, _, _ => none
  | f + 1, c9, c10 =>
    if (decide (c10 < (v8.length : Int))) = true then
    (idx v8 c10).bind fun v12 =>
    (slices_Contains_L_int v12 x2).bind fun v13 =>
    (if v13 = true then (slices_Contains_L_int v12 x3).bind fun v14 =>
    some (c9, v14) else some (c9, false)).bind fun j17 =>
    (evening_Together_j3 x1 x2 x3 c6 v8 c10 j17).bind fun r21 =>
    evening_Together_2 x1 x2 x3 c6 v8 f r21 (wr .i64 (c10 + 1))
    else
    some c9
def evening_Together_1 (x1 : (List (List (List Int)))) (x2 : Int) (x3 : Int) : Nat → (List Int) → Int → Option (((List Int)))
  | 0, _, _ => none
  | f + 1, c5, c6 =>
    if (decide (c6 < (x1.length : Int))) = true then
    (idx x1 c6).bind fun v8 =>
    (evening_Together_2 x1 x2 x3 c6 v8 100000 c5 0).bind fun r24 =>
    evening_Together_1 x1 x2 x3 f r24 (wr .i64 (c6 + 1))
    else
    some c5
def evening_Together (x0 : Int) (x1 : (List (List (List Int)))) (x2 : Int) (x3 : Int) : Option ((List Int)) :=
  (evening_valid x0 x1).bind fun v1 =>
  (if (!v1) = true then some true else some (x2 == x3)).bind fun j3 =>
  if j3 = true then
  some []
  else
  (evening_Together_1 x1 x2 x3 100000 [] 0).bind fun r26 =>
  some r26
def cs_evening_Together : Cs (Int × (List (List (List Int))) × Int × Int × Unit) := (csC cdI (csC (cdL 1 (cdL 1 (cdL 1 cdI))) (csC cdI (csC cdI csN))))
def er_evening_Together (r : (List Int)) : AV := (cdL 1 cdI).enc r
set_option maxHeartbeats 4000000 in
set_option maxRecDepth 100000 in
theorem evening_Together_j3_ok (x1 : (List (List (List Int)))) (x2 : Int) (x3 : Int) (c6 : Int) (v8 : (List (List Int))) (c10 : Int) (j17 : (List Int) × Bool) (r : ((List Int))) (h : evening_Together_j3 x1 x2 x3 c6 v8 c10 j17 = some r) : Sem e_evening_Together ⟨none, false⟩ (pc cb_evening_Together [1, 1, 1, 0, 1, 0, 0, 1, 1, 0, 0, 1, 1, 0, 0, 1, 1, 0, 0, 1, 1]) ⟨Fr 51 [(2, .v (.int .i64 x2)), (3, .v (.int .i64 x3)), (9, hd 0 (j17.1.map cdI.enc)), (10, .v (.int .i64 c6)), (23, .sl 1 (x1.map (cdL 1 (cdL 1 cdI)).enc)), (24, .v (.int .i64 (x1.length : Int))), (25, .v (.int .i64 c6)), (30, .sl 1 (v8.map (cdL 1 cdI).enc)), (31, .v (.int .i64 (v8.length : Int))), (32, .v (.int .i64 c10)), (43, .v (.bool j17.2))], [mk 1 3 (j17.1.map cdI.enc)]⟩ (fun e s => e = .normal ∧ Wk e_evening_Together s ⟨Fr 51 [(2, .v (.int .i64 x2)), (3, .v (.int .i64 x3)), (9, hd 0 (r.map cdI.enc)), (10, .v (.int .i64 c6)), (23, .sl 1 (x1.map (cdL 1 (cdL 1 cdI)).enc)), (24, .v (.int .i64 (x1.length : Int))), (25, .v (.int .i64 c6)), (30, .sl 1 (v8.map (cdL 1 cdI).enc)), (31, .v (.int .i64 (v8.length : Int))), (32, .v (.int .i64 c10))], [mk 1 3 (r.map cdI.enc)]⟩) := by
  unfold evening_Together_j3 at h
  refine Sem.cond (b := j17.2) (by kernel_rfl) (fun hb18 => ?_) (fun hb18 => ?_)
  · rw [if_pos hb18] at h
    by_cases hk19 : (capOk 8 (j17.1.length + 1)) = true
    case neg => rw [if_neg hk19] at h; cases h
    rw [if_pos hk19] at h
    refine Sem.runS (s1 := ⟨Fr 51 [(2, .v (.int .i64 x2)), (3, .v (.int .i64 x3)), (9, hd 0 ((j17.1 ++ [c6]).map cdI.enc)), (10, .v (.int .i64 c6)), (23, .sl 1 (x1.map (cdL 1 (cdL 1 cdI)).enc)), (24, .v (.int .i64 (x1.length : Int))), (25, .v (.int .i64 c6)), (30, .sl 1 (v8.map (cdL 1 cdI).enc)), (31, .v (.int .i64 (v8.length : Int))), (32, .v (.int .i64 c10))], [mk 1 3 ((j17.1 ++ [c6]).map cdI.enc)]⟩) ?_ ?_
    · refine RunS.segF (n := 51) e_evening_Together_ok 3 [(2, .v (.int .i64 x2)), (3, .v (.int .i64 x3)), (10, .v (.int .i64 c6)), (23, .sl 1 (x1.map (cdL 1 (cdL 1 cdI)).enc)), (24, .v (.int .i64 (x1.length : Int))), (25, .v (.int .i64 c6)), (30, .sl 1 (v8.map (cdL 1 cdI).enc)), (31, .v (.int .i64 (v8.length : Int))), (32, .v (.int .i64 c10)), (44, hd 0 (j17.1.map cdI.enc)), (46, hd 1 ([c6].map cdI.enc))] [mk 1 3 (j17.1.map cdI.enc), mk 1 3 ([c6].map cdI.enc)] (by kernel_rfl) ?_
      refine RunS.one e_evening_Together_ok 0 rfl (op_w (wantedA_none rfl) rfl (by kernel_rfl) (by kernel_rfl) (w_append (a := hd 0 (j17.1.map cdI.enc)) (b := hd 1 ([c6].map cdI.enc)) (by kernel_rfl) (by kernel_rfl) (append_B (c := cdI) (xs := j17.1) (vs := [c6]) (k := 1) (bytes := 8) (el := 3) (by kernel_rfl) (by kernel_rfl) (elems_hd (t := 3) (by kernel_rfl)) (List.cons_ne_nil _ _) (by kernel_rfl) hk19))) ?_
      refine RunS.segF (n := 51) e_evening_Together_ok 1 [(2, .v (.int .i64 x2)), (3, .v (.int .i64 x3)), (9, hd 2 ((j17.1 ++ [c6]).map cdI.enc)), (10, .v (.int .i64 c6)), (23, .sl 1 (x1.map (cdL 1 (cdL 1 cdI)).enc)), (24, .v (.int .i64 (x1.length : Int))), (25, .v (.int .i64 c6)), (30, .sl 1 (v8.map (cdL 1 cdI).enc)), (31, .v (.int .i64 (v8.length : Int))), (32, .v (.int .i64 c10))] [none, mk 1 3 ([c6].map cdI.enc), mk 1 3 ((j17.1 ++ [c6]).map cdI.enc)] (by kernel_rfl) ?_
      exact RunS.done rfl (Wk.s3 [2] ⟨⟨_, rfl, bu_mk⟩, trivial⟩ ⟨lv, lv, lu_hd (b' := 2) (by kernel_rfl) (by kernel_rfl), lv, lv, lv, lv, lv, lv, lv, trivial⟩)
    have hq := Option.some.inj h; subst hq
    exact ⟨rfl, (Wk.s3 [0] ⟨⟨_, rfl, bu_mk⟩, trivial⟩ ⟨lv, lv, lu_hd (b' := 0) (by kernel_rfl) (by kernel_rfl), lv, lv, lv, lv, lv, lv, lv, trivial⟩)⟩
  · rw [if_f hb18] at h
    refine Sem.skip ?_
    have hq := Option.some.inj h; subst hq
    exact ⟨rfl, (Wk.s3 [0] ⟨⟨_, rfl, bu_mk⟩, trivial⟩ ⟨lv, lv, lu_hd (b' := 0) (by kernel_rfl) (by kernel_rfl), lv, lv, lv, lv, lv, lv, lv, trivial⟩)⟩
set_option maxHeartbeats 4000000 in
set_option maxRecDepth 100000 in
theorem evening_Together_2_ok (x1 : (List (List (List Int)))) (x2 : Int) (x3 : Int) (c6 : Int) (v8 : (List (List Int))) : ∀ (f : Nat) (c9 : (List Int)) (c10 : Int) (r : ((List Int))), evening_Together_2 x1 x2 x3 c6 v8 f c9 c10 = some r → SemN e_evening_Together ⟨none, false⟩ (pc cb_evening_Together [1, 1, 1, 0, 1, 0, 0, 1, 1, 0, 0, 1, 1, 0, 0]) f ⟨Fr 51 [(2, .v (.int .i64 x2)), (3, .v (.int .i64 x3)), (9, hd 0 (c9.map cdI.enc)), (10, .v (.int .i64 c6)), (23, .sl 1 (x1.map (cdL 1 (cdL 1 cdI)).enc)), (24, .v (.int .i64 (x1.length : Int))), (25, .v (.int .i64 c6)), (30, .sl 1 (v8.map (cdL 1 cdI).enc)), (31, .v (.int .i64 (v8.length : Int))), (32, .v (.int .i64 c10))], [mk 1 3 (c9.map cdI.enc)]⟩ (fun e s => e = (.exit 2) ∧ Wk e_evening_Together s ⟨Fr 51 [(2, .v (.int .i64 x2)), (3, .v (.int .i64 x3)), (9, hd 0 (r.map cdI.enc)), (23, .sl 1 (x1.map (cdL 1 (cdL 1 cdI)).enc)), (24, .v (.int .i64 (x1.length : Int))), (25, .v (.int .i64 c6))], [mk 1 3 (r.map cdI.enc)]⟩) := by
  intro f
  induction f with
  | zero => intro c9 c10 r h; cases h
  | succ f ih0 =>
    intro c9 c10 r h
    have ih := fun (c9 : (List Int)) (c10 : Int) => ih0 c9 c10 r
    unfold evening_Together_2 at h
    refine SemN.succ ?_
    refine Sem.seq ?_
    refine Sem.runS (s1 := ⟨Fr 51 [(2, .v (.int .i64 x2)), (3, .v (.int .i64 x3)), (9, hd 0 (c9.map cdI.enc)), (10, .v (.int .i64 c6)), (23, .sl 1 (x1.map (cdL 1 (cdL 1 cdI)).enc)), (24, .v (.int .i64 (x1.length : Int))), (25, .v (.int .i64 c6)), (30, .sl 1 (v8.map (cdL 1 cdI).enc)), (31, .v (.int .i64 (v8.length : Int))), (32, .v (.int .i64 c10)), (33, .v (.bool (decide (c10 < (v8.length : Int)))))], [mk 1 3 (c9.map cdI.enc)]⟩) ?_ ?_
    · refine RunS.segF (n := 51) e_evening_Together_ok 1 [(2, .v (.int .i64 x2)), (3, .v (.int .i64 x3)), (9, hd 0 (c9.map cdI.enc)), (10, .v (.int .i64 c6)), (23, .sl 1 (x1.map (cdL 1 (cdL 1 cdI)).enc)), (24, .v (.int .i64 (x1.length : Int))), (25, .v (.int .i64 c6)), (30, .sl 1 (v8.map (cdL 1 cdI).enc)), (31, .v (.int .i64 (v8.length : Int))), (32, .v (.int .i64 c10)), (33, .v (.bool (decide (c10 < (v8.length : Int)))))] [mk 1 3 (c9.map cdI.enc)] (by kernel_rfl) ?_
      exact RunS.done rfl (Wk.s3 [0] ⟨⟨_, rfl, bu_mk⟩, trivial⟩ ⟨lv, lv, lu_hd (b' := 0) (by kernel_rfl) (by kernel_rfl), lv, lv, lv, lv, lv, lv, lv, lv, trivial⟩)
    refine Sem.seq ?_
    refine Sem.cond (b := (decide (c10 < (v8.length : Int)))) (by kernel_rfl) (fun hb11 => ?_) (fun hb11 => ?_)
    · rw [if_pos hb11] at h
      refine Sem.skip ?_
      refine Sem.seq ?_
      refine Sem.block ?_
      refine Sem.seq ?_
      obtain ⟨v12, hv12, h⟩ := Option.bind_eq_some_iff.1 h
      refine Sem.runS (s1 := ⟨Fr 51 [(2, .v (.int .i64 x2)), (3, .v (.int .i64 x3)), (9, hd 0 (c9.map cdI.enc)), (10, .v (.int .i64 c6)), (13, .sl 1 (v12.map cdI.enc)), (23, .sl 1 (x1.map (cdL 1 (cdL 1 cdI)).enc)), (24, .v (.int .i64 (x1.length : Int))), (25, .v (.int .i64 c6)), (30, .sl 1 (v8.map (cdL 1 cdI).enc)), (31, .v (.int .i64 (v8.length : Int))), (32, .v (.int .i64 c10))], [mk 1 3 (c9.map cdI.enc)]⟩) ?_ ?_
      · refine RunS.one e_evening_Together_ok 0 rfl (op_q (wantedA_none rfl) rfl (q_indexAddr (a := .sl 1 (v8.map (cdL 1 cdI).enc)) (b := .v (.int .i64 c10)) (by kernel_rfl) (by kernel_rfl) (ix_sl (e := (cdL 1 cdI).enc) (el := 29) (k := 1) (ki := .i64) (by kernel_rfl) (by kernel_rfl) hv12))) ?_
        refine RunS.segF (n := 51) e_evening_Together_ok 2 [(2, .v (.int .i64 x2)), (3, .v (.int .i64 x3)), (9, hd 0 (c9.map cdI.enc)), (10, .v (.int .i64 c6)), (13, .sl 1 (v12.map cdI.enc)), (23, .sl 1 (x1.map (cdL 1 (cdL 1 cdI)).enc)), (24, .v (.int .i64 (x1.length : Int))), (25, .v (.int .i64 c6)), (30, .sl 1 (v8.map (cdL 1 cdI).enc)), (31, .v (.int .i64 (v8.length : Int))), (32, .v (.int .i64 c10))] [mk 1 3 (c9.map cdI.enc)] (by kernel_rfl) ?_
        exact RunS.done rfl (Wk.s3 [0] ⟨⟨_, rfl, bu_mk⟩, trivial⟩ ⟨lv, lv, lu_hd (b' := 0) (by kernel_rfl) (by kernel_rfl), lv, lv, lv, lv, lv, lv, lv, lv, trivial⟩)
      refine Sem.seq ?_
      obtain ⟨v13, hv13, h⟩ := Option.bind_eq_some_iff.1 h
      obtain ⟨j17, hj17, h⟩ := Option.bind_eq_some_iff.1 h
      refine Sem.runS (s1 := ⟨Fr 51 [(2, .v (.int .i64 x2)), (3, .v (.int .i64 x3)), (9, hd 0 (j17.1.map cdI.enc)), (10, .v (.int .i64 c6)), (23, .sl 1 (x1.map (cdL 1 (cdL 1 cdI)).enc)), (24, .v (.int .i64 (x1.length : Int))), (25, .v (.int .i64 c6)), (30, .sl 1 (v8.map (cdL 1 cdI).enc)), (31, .v (.int .i64 (v8.length : Int))), (32, .v (.int .i64 c10)), (43, .v (.bool j17.2))], [mk 1 3 (j17.1.map cdI.enc)]⟩) ?_ ?_
      · refine RunS.segF (n := 51) e_evening_Together_ok 2 [(2, .v (.int .i64 x2)), (3, .v (.int .i64 x3)), (9, hd 0 (c9.map cdI.enc)), (10, .v (.int .i64 c6)), (13, .sl 1 (v12.map cdI.enc)), (23, .sl 1 (x1.map (cdL 1 (cdL 1 cdI)).enc)), (24, .v (.int .i64 (x1.length : Int))), (25, .v (.int .i64 c6)), (30, .sl 1 (v8.map (cdL 1 cdI).enc)), (31, .v (.int .i64 (v8.length : Int))), (32, .v (.int .i64 c10)), (36, .sl 1 (v12.map cdI.enc)), (37, .v (.int .i64 x2))] [mk 1 3 (c9.map cdI.enc)] (by kernel_rfl) ?_
        refine RunS.call e_evening_Together_ok (fid := 50) (s := cs_slices_Contains_L_int) (F := fun a => slices_Contains_L_int a.1 a.2.1) (er := er_slices_Contains_L_int) (xs := [.sl 1 (v12.map cdI.enc), .v (.int .i64 x2)]) (a := (v12, x2, ())) rfl (wantedA_none rfl) (by kernel_rfl) (by kernel_rfl) (by kernel_rfl) (by kernel_rfl) (Sns.cons (Sn.enc (c := (cdL 1 cdI)) (v := v12)) (Sns.cons (Sn.enc (c := cdI) (v := x2)) Sns.nil)) (.inl (by kernel_rfl)) hv13 ?_
        refine RunS.segF (n := 51) e_evening_Together_ok 1 [(2, .v (.int .i64 x2)), (3, .v (.int .i64 x3)), (9, hd 0 (c9.map cdI.enc)), (10, .v (.int .i64 c6)), (13, .sl 1 (v12.map cdI.enc)), (23, .sl 1 (x1.map (cdL 1 (cdL 1 cdI)).enc)), (24, .v (.int .i64 (x1.length : Int))), (25, .v (.int .i64 c6)), (30, .sl 1 (v8.map (cdL 1 cdI).enc)), (31, .v (.int .i64 (v8.length : Int))), (32, .v (.int .i64 c10)), (39, .v (.bool v13))] [mk 1 3 (c9.map cdI.enc)] (by kernel_rfl) ?_
        rcases Bool.eq_false_or_eq_true v13 with hc22 | hc22
        · rw [if_pos hc22] at hj17
          rw [hc22]
          refine RunS.segF (n := 51) e_evening_Together_ok 2 [(2, .v (.int .i64 x2)), (3, .v (.int .i64 x3)), (9, hd 0 (c9.map cdI.enc)), (10, .v (.int .i64 c6)), (23, .sl 1 (x1.map (cdL 1 (cdL 1 cdI)).enc)), (24, .v (.int .i64 (x1.length : Int))), (25, .v (.int .i64 c6)), (30, .sl 1 (v8.map (cdL 1 cdI).enc)), (31, .v (.int .i64 (v8.length : Int))), (32, .v (.int .i64 c10)), (39, .v (.bool true)), (40, .sl 1 (v12.map cdI.enc)), (41, .v (.int .i64 x3))] [mk 1 3 (c9.map cdI.enc)] (by kernel_rfl) ?_
          obtain ⟨v14, hv14, hj17⟩ := Option.bind_eq_some_iff.1 hj17
          refine RunS.call e_evening_Together_ok (fid := 50) (s := cs_slices_Contains_L_int) (F := fun a => slices_Contains_L_int a.1 a.2.1) (er := er_slices_Contains_L_int) (xs := [.sl 1 (v12.map cdI.enc), .v (.int .i64 x3)]) (a := (v12, x3, ())) rfl (by kernel_rfl) (by kernel_rfl) (by kernel_rfl) (by kernel_rfl) (by kernel_rfl) (Sns.cons (Sn.enc (c := (cdL 1 cdI)) (v := v12)) (Sns.cons (Sn.enc (c := cdI) (v := x3)) Sns.nil)) (.inl (by kernel_rfl)) hv14 ?_
          refine RunS.segF (n := 51) e_evening_Together_ok 1 [(2, .v (.int .i64 x2)), (3, .v (.int .i64 x3)), (9, hd 0 (c9.map cdI.enc)), (10, .v (.int .i64 c6)), (23, .sl 1 (x1.map (cdL 1 (cdL 1 cdI)).enc)), (24, .v (.int .i64 (x1.length : Int))), (25, .v (.int .i64 c6)), (30, .sl 1 (v8.map (cdL 1 cdI).enc)), (31, .v (.int .i64 (v8.length : Int))), (32, .v (.int .i64 c10)), (40, .sl 1 (v12.map cdI.enc)), (41, .v (.int .i64 x3)), (42, .v (.bool v14)), (43, .v (.bool v14))] [mk 1 3 (c9.map cdI.enc)] (by kernel_rfl) ?_
          have hq := Option.some.inj hj17; subst hq
          exact RunS.done rfl (Wk.s3 [0] ⟨⟨_, rfl, bu_mk⟩, trivial⟩ ⟨lv, lv, lu_hd (b' := 0) (by kernel_rfl) (by kernel_rfl), lv, lv, lv, lv, lv, lv, lv, lv, trivial⟩)
        · rw [if_f hc22] at hj17
          rw [hc22]
          refine RunS.segF (n := 51) e_evening_Together_ok 4 [(2, .v (.int .i64 x2)), (3, .v (.int .i64 x3)), (9, hd 0 (c9.map cdI.enc)), (10, .v (.int .i64 c6)), (23, .sl 1 (x1.map (cdL 1 (cdL 1 cdI)).enc)), (24, .v (.int .i64 (x1.length : Int))), (25, .v (.int .i64 c6)), (30, .sl 1 (v8.map (cdL 1 cdI).enc)), (31, .v (.int .i64 (v8.length : Int))), (32, .v (.int .i64 c10)), (40, .tp []), (41, .tp []), (42, .tp []), (43, .v (.bool false))] [mk 1 3 (c9.map cdI.enc)] (by kernel_rfl) ?_
          have hq := Option.some.inj hj17; subst hq
          exact RunS.done rfl (Wk.s3 [0] ⟨⟨_, rfl, bu_mk⟩, trivial⟩ ⟨lv, lv, lu_hd (b' := 0) (by kernel_rfl) (by kernel_rfl), lv, lv, lv, lv, lv, lv, lv, lv, trivial⟩)
      obtain ⟨r21, hr21, h⟩ := Option.bind_eq_some_iff.1 h
      refine Sem.cut (evening_Together_j3_ok x1 x2 x3 c6 v8 c10 j17 _ hr21) ?_
      refine Sem.runS (s1 := ⟨Fr 51 [(2, .v (.int .i64 x2)), (3, .v (.int .i64 x3)), (9, hd 0 (r21.map cdI.enc)), (10, .v (.int .i64 c6)), (23, .sl 1 (x1.map (cdL 1 (cdL 1 cdI)).enc)), (24, .v (.int .i64 (x1.length : Int))), (25, .v (.int .i64 c6)), (30, .sl 1 (v8.map (cdL 1 cdI).enc)), (31, .v (.int .i64 (v8.length : Int))), (32, .v (.int .i64 (wr .i64 (c10 + 1))))], [mk 1 3 (r21.map cdI.enc)]⟩) ?_ ?_
      · refine RunS.segF (n := 51) e_evening_Together_ok 2 [(2, .v (.int .i64 x2)), (3, .v (.int .i64 x3)), (9, hd 0 (r21.map cdI.enc)), (10, .v (.int .i64 c6)), (23, .sl 1 (x1.map (cdL 1 (cdL 1 cdI)).enc)), (24, .v (.int .i64 (x1.length : Int))), (25, .v (.int .i64 c6)), (30, .sl 1 (v8.map (cdL 1 cdI).enc)), (31, .v (.int .i64 (v8.length : Int))), (32, .v (.int .i64 (wr .i64 (c10 + 1))))] [mk 1 3 (r21.map cdI.enc)] (by kernel_rfl) ?_
        exact RunS.done rfl (Wk.s3 [0] ⟨⟨_, rfl, bu_mk⟩, trivial⟩ ⟨lv, lv, lu_hd (b' := 0) (by kernel_rfl) (by kernel_rfl), lv, lv, lv, lv, lv, lv, lv, trivial⟩)
      exact SemN.wk (s1 := ⟨Fr 51 [(2, .v (.int .i64 x2)), (3, .v (.int .i64 x3)), (9, hd 0 (r21.map cdI.enc)), (10, .v (.int .i64 c6)), (23, .sl 1 (x1.map (cdL 1 (cdL 1 cdI)).enc)), (24, .v (.int .i64 (x1.length : Int))), (25, .v (.int .i64 c6)), (30, .sl 1 (v8.map (cdL 1 cdI).enc)), (31, .v (.int .i64 (v8.length : Int))), (32, .v (.int .i64 (wr .i64 (c10 + 1))))], [mk 1 3 (r21.map cdI.enc)]⟩) (Wk.s3 [0] ⟨⟨_, rfl, bu_mk⟩, trivial⟩ ⟨lv, lv, lu_hd (b' := 0) (by kernel_rfl) (by kernel_rfl), lv, lv, lv, lv, lv, lv, lv, trivial⟩) (ih r21 (wr .i64 (c10 + 1)) h)
    · rw [if_f hb11] at h
      refine Sem.exit ?_
      have hq := Option.some.inj h; subst hq
      exact ⟨rfl, (Wk.s3 [0] ⟨⟨_, rfl, bu_mk⟩, trivial⟩ ⟨lv, lv, lu_hd (b' := 0) (by kernel_rfl) (by kernel_rfl), lv, lv, lv, trivial⟩)⟩
set_option maxHeartbeats 4000000 in
set_option maxRecDepth 100000 in
theorem evening_Together_1_ok (x1 : (List (List (List Int)))) (x2 : Int) (x3 : Int) : ∀ (f : Nat) (c5 : (List Int)) (c6 : Int) (r : ((List Int))), evening_Together_1 x1 x2 x3 f c5 c6 = some r → SemN e_evening_Together ⟨none, false⟩ (pc cb_evening_Together [1, 1, 1, 0, 1, 0, 0]) f ⟨Fr 51 [(2, .v (.int .i64 x2)), (3, .v (.int .i64 x3)), (9, hd 0 (c5.map cdI.enc)), (23, .sl 1 (x1.map (cdL 1 (cdL 1 cdI)).enc)), (24, .v (.int .i64 (x1.length : Int))), (25, .v (.int .i64 c6))], [mk 1 3 (c5.map cdI.enc)]⟩ (fun e s => e = (.exit 0) ∧ Wk e_evening_Together s ⟨Fr 51 [(9, hd 0 (r.map cdI.enc))], [mk 1 3 (r.map cdI.enc)]⟩) := by
  intro f
  induction f with
  | zero => intro c5 c6 r h; cases h
  | succ f ih0 =>
    intro c5 c6 r h
    have ih := fun (c5 : (List Int)) (c6 : Int) => ih0 c5 c6 r
    unfold evening_Together_1 at h
    refine SemN.succ ?_
    refine Sem.seq ?_
    refine Sem.runS (s1 := ⟨Fr 51 [(2, .v (.int .i64 x2)), (3, .v (.int .i64 x3)), (9, hd 0 (c5.map cdI.enc)), (23, .sl 1 (x1.map (cdL 1 (cdL 1 cdI)).enc)), (24, .v (.int .i64 (x1.length : Int))), (25, .v (.int .i64 c6)), (26, .v (.bool (decide (c6 < (x1.length : Int)))))], [mk 1 3 (c5.map cdI.enc)]⟩) ?_ ?_
    · refine RunS.segF (n := 51) e_evening_Together_ok 1 [(2, .v (.int .i64 x2)), (3, .v (.int .i64 x3)), (9, hd 0 (c5.map cdI.enc)), (23, .sl 1 (x1.map (cdL 1 (cdL 1 cdI)).enc)), (24, .v (.int .i64 (x1.length : Int))), (25, .v (.int .i64 c6)), (26, .v (.bool (decide (c6 < (x1.length : Int)))))] [mk 1 3 (c5.map cdI.enc)] (by kernel_rfl) ?_
      exact RunS.done rfl (Wk.s3 [0] ⟨⟨_, rfl, bu_mk⟩, trivial⟩ ⟨lv, lv, lu_hd (b' := 0) (by kernel_rfl) (by kernel_rfl), lv, lv, lv, lv, trivial⟩)
    refine Sem.seq ?_
    refine Sem.cond (b := (decide (c6 < (x1.length : Int)))) (by kernel_rfl) (fun hb7 => ?_) (fun hb7 => ?_)
    · rw [if_pos hb7] at h
      refine Sem.skip ?_
      refine Sem.seq ?_
      refine Sem.block ?_
      refine Sem.seq ?_
      obtain ⟨v8, hv8, h⟩ := Option.bind_eq_some_iff.1 h
      refine Sem.runS (s1 := ⟨Fr 51 [(2, .v (.int .i64 x2)), (3, .v (.int .i64 x3)), (9, hd 0 (c5.map cdI.enc)), (10, .v (.int .i64 c6)), (11, .sl 1 (v8.map (cdL 1 cdI).enc)), (23, .sl 1 (x1.map (cdL 1 (cdL 1 cdI)).enc)), (24, .v (.int .i64 (x1.length : Int))), (25, .v (.int .i64 c6))], [mk 1 3 (c5.map cdI.enc)]⟩) ?_ ?_
      · refine RunS.segF (n := 51) e_evening_Together_ok 1 [(2, .v (.int .i64 x2)), (3, .v (.int .i64 x3)), (9, hd 0 (c5.map cdI.enc)), (23, .sl 1 (x1.map (cdL 1 (cdL 1 cdI)).enc)), (24, .v (.int .i64 (x1.length : Int))), (25, .v (.int .i64 c6)), (27, .v (.int .i64 c6))] [mk 1 3 (c5.map cdI.enc)] (by kernel_rfl) ?_
        refine RunS.one e_evening_Together_ok 0 rfl (op_q (wantedA_none rfl) rfl (q_indexAddr (a := .sl 1 (x1.map (cdL 1 (cdL 1 cdI)).enc)) (b := .v (.int .i64 c6)) (by kernel_rfl) (by kernel_rfl) (ix_sl (e := (cdL 1 (cdL 1 cdI)).enc) (el := 36) (k := 1) (ki := .i64) (by kernel_rfl) (by kernel_rfl) hv8))) ?_
        refine RunS.segF (n := 51) e_evening_Together_ok 3 [(2, .v (.int .i64 x2)), (3, .v (.int .i64 x3)), (9, hd 0 (c5.map cdI.enc)), (10, .v (.int .i64 c6)), (11, .sl 1 (v8.map (cdL 1 cdI).enc)), (23, .sl 1 (x1.map (cdL 1 (cdL 1 cdI)).enc)), (24, .v (.int .i64 (x1.length : Int))), (25, .v (.int .i64 c6))] [mk 1 3 (c5.map cdI.enc)] (by kernel_rfl) ?_
        exact RunS.done rfl (Wk.s3 [0] ⟨⟨_, rfl, bu_mk⟩, trivial⟩ ⟨lv, lv, lu_hd (b' := 0) (by kernel_rfl) (by kernel_rfl), lv, lv, lv, lv, lv, trivial⟩)
      refine Sem.seq ?_
      refine Sem.runS (s1 := ⟨Fr 51 [(2, .v (.int .i64 x2)), (3, .v (.int .i64 x3)), (9, hd 0 (c5.map cdI.enc)), (10, .v (.int .i64 c6)), (23, .sl 1 (x1.map (cdL 1 (cdL 1 cdI)).enc)), (24, .v (.int .i64 (x1.length : Int))), (25, .v (.int .i64 c6)), (30, .sl 1 (v8.map (cdL 1 cdI).enc)), (31, .v (.int .i64 (v8.length : Int))), (32, .v (.int .i64 0))], [mk 1 3 (c5.map cdI.enc)]⟩) ?_ ?_
      · refine RunS.segF (n := 51) e_evening_Together_ok 1 [(2, .v (.int .i64 x2)), (3, .v (.int .i64 x3)), (9, hd 0 (c5.map cdI.enc)), (10, .v (.int .i64 c6)), (23, .sl 1 (x1.map (cdL 1 (cdL 1 cdI)).enc)), (24, .v (.int .i64 (x1.length : Int))), (25, .v (.int .i64 c6)), (30, .sl 1 (v8.map (cdL 1 cdI).enc))] [mk 1 3 (c5.map cdI.enc)] (by kernel_rfl) ?_
        refine RunS.one e_evening_Together_ok 0 rfl (op_q (wantedA_none rfl) rfl (q_len (a := .sl 1 (v8.map (cdL 1 cdI).enc)) (by kernel_rfl) (len_sl (el := 29) (by kernel_rfl)))) ?_
        refine RunS.segF (n := 51) e_evening_Together_ok 1 [(2, .v (.int .i64 x2)), (3, .v (.int .i64 x3)), (9, hd 0 (c5.map cdI.enc)), (10, .v (.int .i64 c6)), (23, .sl 1 (x1.map (cdL 1 (cdL 1 cdI)).enc)), (24, .v (.int .i64 (x1.length : Int))), (25, .v (.int .i64 c6)), (30, .sl 1 (v8.map (cdL 1 cdI).enc)), (31, .v (.int .i64 (v8.length : Int))), (32, .v (.int .i64 0))] [mk 1 3 (c5.map cdI.enc)] (by kernel_rfl) ?_
        exact RunS.done rfl (Wk.s3 [0] ⟨⟨_, rfl, bu_mk⟩, trivial⟩ ⟨lv, lv, lu_hd (b' := 0) (by kernel_rfl) (by kernel_rfl), lv, lv, lv, lv, lv, lv, lv, trivial⟩)
      refine Sem.block ?_
      obtain ⟨r24, hr24, h⟩ := Option.bind_eq_some_iff.1 h
      refine Sem.loop (n := 100000) ?_
      refine Sem.cutN (SemN.wk (s1 := ⟨Fr 51 [(2, .v (.int .i64 x2)), (3, .v (.int .i64 x3)), (9, hd 0 (c5.map cdI.enc)), (10, .v (.int .i64 c6)), (23, .sl 1 (x1.map (cdL 1 (cdL 1 cdI)).enc)), (24, .v (.int .i64 (x1.length : Int))), (25, .v (.int .i64 c6)), (30, .sl 1 (v8.map (cdL 1 cdI).enc)), (31, .v (.int .i64 (v8.length : Int))), (32, .v (.int .i64 0))], [mk 1 3 (c5.map cdI.enc)]⟩) (Wk.s3 [0] ⟨⟨_, rfl, bu_mk⟩, trivial⟩ ⟨lv, lv, lu_hd (b' := 0) (by kernel_rfl) (by kernel_rfl), lv, lv, lv, lv, lv, lv, lv, trivial⟩) (evening_Together_2_ok x1 x2 x3 c6 v8 _ c5 0 _ hr24)) ?_
      refine Sem.runS (s1 := ⟨Fr 51 [(2, .v (.int .i64 x2)), (3, .v (.int .i64 x3)), (9, hd 0 (r24.map cdI.enc)), (23, .sl 1 (x1.map (cdL 1 (cdL 1 cdI)).enc)), (24, .v (.int .i64 (x1.length : Int))), (25, .v (.int .i64 (wr .i64 (c6 + 1))))], [mk 1 3 (r24.map cdI.enc)]⟩) ?_ ?_
      · refine RunS.segF (n := 51) e_evening_Together_ok 2 [(2, .v (.int .i64 x2)), (3, .v (.int .i64 x3)), (9, hd 0 (r24.map cdI.enc)), (23, .sl 1 (x1.map (cdL 1 (cdL 1 cdI)).enc)), (24, .v (.int .i64 (x1.length : Int))), (25, .v (.int .i64 (wr .i64 (c6 + 1))))] [mk 1 3 (r24.map cdI.enc)] (by kernel_rfl) ?_
        exact RunS.done rfl (Wk.s3 [0] ⟨⟨_, rfl, bu_mk⟩, trivial⟩ ⟨lv, lv, lu_hd (b' := 0) (by kernel_rfl) (by kernel_rfl), lv, lv, lv, trivial⟩)
      exact SemN.wk (s1 := ⟨Fr 51 [(2, .v (.int .i64 x2)), (3, .v (.int .i64 x3)), (9, hd 0 (r24.map cdI.enc)), (23, .sl 1 (x1.map (cdL 1 (cdL 1 cdI)).enc)), (24, .v (.int .i64 (x1.length : Int))), (25, .v (.int .i64 (wr .i64 (c6 + 1))))], [mk 1 3 (r24.map cdI.enc)]⟩) (Wk.s3 [0] ⟨⟨_, rfl, bu_mk⟩, trivial⟩ ⟨lv, lv, lu_hd (b' := 0) (by kernel_rfl) (by kernel_rfl), lv, lv, lv, trivial⟩) (ih r24 (wr .i64 (c6 + 1)) h)
    · rw [if_f hb7] at h
      refine Sem.exit ?_
      have hq := Option.some.inj h; subst hq
      exact ⟨rfl, (Wk.s3 [0] ⟨⟨_, rfl, bu_mk⟩, trivial⟩ ⟨lu_hd (b' := 0) (by kernel_rfl) (by kernel_rfl), trivial⟩)⟩
set_option maxHeartbeats 4000000 in
set_option maxRecDepth 100000 in
theorem evening_Together_sem (x0 : Int) (x1 : (List (List (List Int)))) (x2 : Int) (x3 : Int) (r : (List Int)) (h : evening_Together x0 x1 x2 x3 = some r) : Sem e_evening_Together ⟨none, false⟩ cb_evening_Together ⟨Fr 51 (pairs0 0 (cs_evening_Together.enc (x0, x1, x2, x3, ()))), []⟩ fun e s' => (e = .normal ∨ e = .ret) ∧ ∃ xs, resA e_evening_Together.P s'.fr s'.hp Tryd.f16.results.toList = some xs ∧ retA xs = er_evening_Together r := by
  unfold evening_Together at h
  refine Sem.wkQ (Sem.wk (s1 := ⟨Fr 51 [(0, .v (.int .i64 x0)), (1, .sl 1 (x1.map (cdL 1 (cdL 1 cdI)).enc)), (2, .v (.int .i64 x2)), (3, .v (.int .i64 x3))], []⟩) Wk.f1 ?_)
  refine Sem.seq ?_
  refine Sem.runS (s1 := ⟨Fr 51 [(0, .v (.int .i64 x0)), (1, .sl 1 (x1.map (cdL 1 (cdL 1 cdI)).enc)), (2, .v (.int .i64 x2)), (3, .v (.int .i64 x3))], []⟩) ?_ ?_
  · refine RunS.segF (n := 51) e_evening_Together_ok 1 [(0, .v (.int .i64 x0)), (1, .sl 1 (x1.map (cdL 1 (cdL 1 cdI)).enc)), (2, .v (.int .i64 x2)), (3, .v (.int .i64 x3))] [] (by kernel_rfl) ?_
    exact RunS.done rfl Wk.f1
  refine Sem.seq ?_
  refine Sem.seq ?_
  obtain ⟨v1, hv1, h⟩ := Option.bind_eq_some_iff.1 h
  obtain ⟨j3, hj3, h⟩ := Option.bind_eq_some_iff.1 h
  refine Sem.runS (s1 := ⟨Fr 51 [(1, .sl 1 (x1.map (cdL 1 (cdL 1 cdI)).enc)), (2, .v (.int .i64 x2)), (3, .v (.int .i64 x3)), (22, .v (.bool j3))], []⟩) ?_ ?_
  · refine RunS.segF (n := 51) e_evening_Together_ok 2 [(1, .sl 1 (x1.map (cdL 1 (cdL 1 cdI)).enc)), (2, .v (.int .i64 x2)), (3, .v (.int .i64 x3)), (14, .v (.int .i64 x0)), (15, .sl 1 (x1.map (cdL 1 (cdL 1 cdI)).enc))] [] (by kernel_rfl) ?_
    refine RunS.call e_evening_Together_ok (fid := 43) (s := cs_evening_valid) (F := fun a => evening_valid a.1 a.2.1) (er := er_evening_valid) (xs := [.v (.int .i64 x0), .sl 1 (x1.map (cdL 1 (cdL 1 cdI)).enc)]) (a := (x0, x1, ())) rfl (wantedA_none rfl) (by kernel_rfl) (by kernel_rfl) (by kernel_rfl) (by kernel_rfl) (Sns.cons (Sn.enc (c := cdI) (v := x0)) (Sns.cons (Sn.enc (c := (cdL 1 (cdL 1 (cdL 1 cdI)))) (v := x1)) Sns.nil)) (.inl (by kernel_rfl)) hv1 ?_
    refine RunS.segF (n := 51) e_evening_Together_ok 2 [(1, .sl 1 (x1.map (cdL 1 (cdL 1 cdI)).enc)), (2, .v (.int .i64 x2)), (3, .v (.int .i64 x3)), (18, .v (.bool (!v1)))] [] (by kernel_rfl) ?_
    rcases Bool.eq_false_or_eq_true (!v1) with hc27 | hc27
    · rw [if_pos hc27] at hj3
      rw [hc27]
      refine RunS.segF (n := 51) e_evening_Together_ok 4 [(1, .sl 1 (x1.map (cdL 1 (cdL 1 cdI)).enc)), (2, .v (.int .i64 x2)), (3, .v (.int .i64 x3)), (22, .v (.bool true))] [] (by kernel_rfl) ?_
      have hq := Option.some.inj hj3; subst hq
      exact RunS.done rfl Wk.f1
    · rw [if_f hc27] at hj3
      rw [hc27]
      refine RunS.segF (n := 51) e_evening_Together_ok 4 [(1, .sl 1 (x1.map (cdL 1 (cdL 1 cdI)).enc)), (2, .v (.int .i64 x2)), (3, .v (.int .i64 x3)), (22, .v (.bool (x2 == x3)))] [] (by kernel_rfl) ?_
      have hq := Option.some.inj hj3; subst hq
      exact RunS.done rfl Wk.f1
  refine Sem.cond (b := j3) (by kernel_rfl) (fun hb4 => ?_) (fun hb4 => ?_)
  · rw [if_pos hb4] at h
    refine Sem.seq ?_
    refine Sem.runS (s1 := ⟨Fr 51 [(8, .e0)], []⟩) ?_ ?_
    · refine RunS.segF (n := 51) e_evening_Together_ok 1 [(8, .e0)] [] (by kernel_rfl) ?_
      exact RunS.done rfl Wk.f1
    refine Sem.ret ?_
    have hq := Option.some.inj h; subst hq
    exact ⟨⟨Fr 51 [(8, .sl 1 ([].map cdI.enc))], []⟩, (Wk.trans (s1 := ⟨Fr 51 [(8, .e0)], []⟩) Wk.f1 (Wk.trans (s1 := ⟨Fr 51 [(8, .e0)], [none]⟩) Wk.none (Wk.trans (s1 := ⟨Fr 51 [(8, .sl 1 ([].map cdI.enc))], [none]⟩) (Wk.frzG 0 (.inr (by kernel_rfl)) ⟨.inl rfl, trivial⟩ ⟨⟨.e0, (by kernel_rfl), fz_e0⟩, trivial⟩) (Wk.s3 [] trivial ⟨lv, trivial⟩)))), .inr rfl, [.sl 1 ([].map cdI.enc)], (by kernel_rfl), (by kernel_rfl)⟩
  · rw [if_f hb4] at h
    refine Sem.skip ?_
    refine Sem.seq ?_
    refine Sem.runS (s1 := ⟨Fr 51 [(1, .sl 1 (x1.map (cdL 1 (cdL 1 cdI)).enc)), (2, .v (.int .i64 x2)), (3, .v (.int .i64 x3)), (9, .e0)], []⟩) ?_ ?_
    · refine RunS.segF (n := 51) e_evening_Together_ok 1 [(1, .sl 1 (x1.map (cdL 1 (cdL 1 cdI)).enc)), (2, .v (.int .i64 x2)), (3, .v (.int .i64 x3)), (9, .e0)] [] (by kernel_rfl) ?_
      exact RunS.done rfl Wk.f1
    refine Sem.seq ?_
    refine Sem.seq ?_
    refine Sem.runS (s1 := ⟨Fr 51 [(2, .v (.int .i64 x2)), (3, .v (.int .i64 x3)), (9, .e0), (23, .sl 1 (x1.map (cdL 1 (cdL 1 cdI)).enc)), (24, .v (.int .i64 (x1.length : Int))), (25, .v (.int .i64 0))], []⟩) ?_ ?_
    · refine RunS.segF (n := 51) e_evening_Together_ok 1 [(2, .v (.int .i64 x2)), (3, .v (.int .i64 x3)), (9, .e0), (23, .sl 1 (x1.map (cdL 1 (cdL 1 cdI)).enc))] [] (by kernel_rfl) ?_
      refine RunS.one e_evening_Together_ok 0 rfl (op_q (wantedA_none rfl) rfl (q_len (a := .sl 1 (x1.map (cdL 1 (cdL 1 cdI)).enc)) (by kernel_rfl) (len_sl (el := 36) (by kernel_rfl)))) ?_
      refine RunS.segF (n := 51) e_evening_Together_ok 1 [(2, .v (.int .i64 x2)), (3, .v (.int .i64 x3)), (9, .e0), (23, .sl 1 (x1.map (cdL 1 (cdL 1 cdI)).enc)), (24, .v (.int .i64 (x1.length : Int))), (25, .v (.int .i64 0))] [] (by kernel_rfl) ?_
      exact RunS.done rfl Wk.f1
    refine Sem.block ?_
    obtain ⟨r26, hr26, h⟩ := Option.bind_eq_some_iff.1 h
    refine Sem.loop (n := 100000) ?_
    refine Sem.cutN (SemN.wk (s1 := ⟨Fr 51 [(2, .v (.int .i64 x2)), (3, .v (.int .i64 x3)), (9, hd 0 ([].map cdI.enc)), (23, .sl 1 (x1.map (cdL 1 (cdL 1 cdI)).enc)), (24, .v (.int .i64 (x1.length : Int))), (25, .v (.int .i64 0))], [mk 1 3 ([].map cdI.enc)]⟩) (Wk.trans (s1 := ⟨Fr 51 [(2, .v (.int .i64 x2)), (3, .v (.int .i64 x3)), (9, hd 0 ([].map cdI.enc)), (23, .sl 1 (x1.map (cdL 1 (cdL 1 cdI)).enc)), (24, .v (.int .i64 (x1.length : Int))), (25, .v (.int .i64 0))], [mk 1 3 ([].map cdI.enc)]⟩) Wk.none (Wk.s3 [0] ⟨⟨_, rfl, bu_none⟩, trivial⟩ ⟨lv, lv, lv, lv, lv, lv, trivial⟩)) (evening_Together_1_ok x1 x2 x3 _ [] 0 _ hr26)) ?_
    refine Sem.seq ?_
    refine Sem.runS (s1 := ⟨Fr 51 [(8, hd 0 (r26.map cdI.enc))], [mk 1 3 (r26.map cdI.enc)]⟩) ?_ ?_
    · refine RunS.segF (n := 51) e_evening_Together_ok 2 [(8, hd 0 (r26.map cdI.enc))] [mk 1 3 (r26.map cdI.enc)] (by kernel_rfl) ?_
      exact RunS.done rfl (Wk.s3 [0] ⟨⟨_, rfl, bu_mk⟩, trivial⟩ ⟨lu_hd (b' := 0) (by kernel_rfl) (by kernel_rfl), trivial⟩)
    refine Sem.ret ?_
    have hq := Option.some.inj h; subst hq
    exact ⟨⟨Fr 51 [(8, .sl 1 (r26.map cdI.enc))], []⟩, (Wk.trans (s1 := ⟨Fr 51 [(8, .sl 1 (r26.map cdI.enc))], [none]⟩) (Wk.frzG 0 (.inl (by kernel_rfl)) ⟨.inl rfl, trivial⟩ ⟨⟨hd 0 (r26.map cdI.enc), (by kernel_rfl), fz_hd (t := 3) (by kernel_rfl) enc_ok⟩, trivial⟩) (Wk.s3 [] trivial ⟨lv, trivial⟩)), .inr rfl, [.sl 1 (r26.map cdI.enc)], (by kernel_rfl), (by kernel_rfl)⟩
def t_evening_Together : List AV → Option AV := told cs_evening_Together (fun a => evening_Together a.1 a.2.1 a.2.2.1 a.2.2.2.1) er_evening_Together
theorem x_evening_Together : XOk 16 t_evening_Together := by
  refine EnvOk.x (E := e_evening_Together) (contract_ok e_evening_Together_ok (fn := Tryd.f16) (c := cb_evening_Together) ?h1 ?h2 ⟨Tryd.call16⟩ cs_evening_Together (fun a => evening_Together a.1 a.2.1 a.2.2.1 a.2.2.2.1) er_evening_Together (fun a => (by show 4 ≤ 51; decide)) ?h3 ?h4) rfl rfl
  case h1 => kernel_rfl
  case h2 => kernel_rfl
  case h3 => intro b; kernel_rfl
  case h4 => exact fun a b h => evening_Together_sem a.1 a.2.1 a.2.2.1 a.2.2.2.1 b h
theorem ty3 : Ty Tryd.prog 3 (.int .i64) 1 8 (.int .i64 0) := ⟨by kernel_rfl, by kernel_rfl⟩
noncomputable def fs7 : Array Field := match Tryd.prog.underlying 7 with | some (.struct fs) => fs | _ => #[]
theorem ty29 : Ty Tryd.prog 29 (.slice 3) 1 24 (.slice none 0 0) := ⟨by kernel_rfl, by kernel_rfl⟩
noncomputable def fs65 : Array Field := match Tryd.prog.underlying 65 with | some (.struct fs) => fs | _ => #[]
theorem ty65 : Ty Tryd.prog 65 (.struct fs65) 2 32 (.agg #[.int .i64 0, .slice none 0 0]) := ⟨by kernel_rfl, by kernel_rfl⟩
end Go.Proofs.YtnmkejapogklmaaDoor
namespace Go.Proofs.YtnmkejapogklmaaDoor
/-! ## Fields -/
theorem mul_bd {a b A B : Int} (h0 : 0 ≤ a) (h1 : a ≤ A) (h2 : 0 ≤ b) (h3 : b ≤ B) : 0 ≤ a * b ∧ a * b ≤ A * B :=
  ⟨Int.mul_nonneg h0 h2, Int.mul_le_mul h1 h3 h2 (by omega)⟩
/-! ## Products -/
/-! ## The reference's fields -/
section guards
variable {P : Program} {Q : Exit → Act → World → Prop} {F : Frm} {l : List (Nat × Value)} {w : World} {ops : Array Oper} {rest : List Oper}
end guards
section rules
variable {P : Program} {Q : Exit → Act → World → Prop} {F : Frm} {l : List (Nat × Value)} {w : World} {ops : Array Oper} {rest : List Oper}
variable {X : List Oper → Frm → List (Nat × Value) → World → Prop} [inst : Runs P X]
variable {d : Nat} {ty t T e : TypeId} {pos : String} {af : Array Edge} {x y : Operand} {ds dT : TypeDesc} {sz by_ sT bT : Nat} {z zT : Value}
end rules
set_option linter.unusedSimpArgs false
set_option linter.unusedVariables false
set_option linter.unusedSimpArgs false
set_option linter.unusedVariables false
set_option linter.unusedSimpArgs false
set_option linter.unusedVariables false
set_option maxRecDepth 100000 in
theorem atZ_ok (n x y : Int) (a0 : Addr) (L c : Nat) (w : World) (hn : 0 ≤ n ∧ n ≤ 64) (hx : 0 ≤ x ∧ x < n) (hy : 0 ≤ y ∧ y < n) (hl : x * n + y < (L : Int)) : Ret Tryd.prog 49 #[.agg #[.int .i64 n, .slice (some a0) L c], .int .i64 x, .int .i64 y] w fun v w' => w.grownBy w' none ∧ v = .pointer (some (Addr.add a0 ((x * n + y).toNat * 1))) := by
  refine ret_in Tryd.func49 rfl rfl rfl ?_
  have pw := pu_refl w
  have h1 := mul_bd hx.1 (show x ≤ n - 1 by omega) hn.1 (Int.le_refl n)
  rw [Int.sub_mul, Int.one_mul] at h1
  have h2 := mul_bd hn.1 hn.2 hn.1 hn.2
  refine wc_seq ?_
  refine wc_region ?_
  refine wl_boxG (cs := [.int .i64 (n), .slice (some a0) L c]) rfl rfl ?_
  intro w2 g1 hg3 hs4 hb5 hn6
  have pw := pu_trans pw hn6
  refine wl_v (st_assign (v := .pointer none) rfl) rfl rfl rfl ?_
  refine wl_nil ?_
  refine wq_then ?_
  refine wc_seq ?_
  refine wc_region ?_
  refine wl_v (st_fieldAddr ty65 (ft := 29) (off := 1) (by kernel_rfl) ty29 rfl) rfl rfl rfl ?_
  refine wl_v (st_load (v := .slice (some a0) L c) ty29 rfl rfl (Bk.cell hb5 (i := 1) rfl)) rfl rfl rfl ?_
  refine wl_v (st_move (v := .int .i64 (x)) rfl) rfl rfl rfl ?_
  refine wl_v (st_fieldAddr ty65 (ft := 3) (off := 0) (by kernel_rfl) ty3 rfl) rfl rfl rfl ?_
  refine wl_v (st_load (v := .int .i64 (n)) ty3 rfl rfl (Bk.cell hb5 (i := 0) rfl)) rfl rfl rfl ?_
  refine wl_v (st_mul rfl rfl (by omega) (by omega)) rfl rfl rfl ?_
  refine wl_v (st_move (v := .int .i64 (y)) rfl) rfl rfl rfl ?_
  refine wl_v (st_add rfl rfl (by omega) (by omega)) rfl rfl rfl ?_
  refine wl_v (st_indexAddr ((x * n) + y).toNat ty29 ty3 rfl rfl (by omega) (by omega)) rfl rfl rfl ?_
  refine wl_v (st_assign (v := .pointer (some (Addr.add a0 (((x * n) + y).toNat * 1)))) rfl) rfl rfl rfl ?_
  refine wl_nil ?_
  refine wq_then ?_
  refine wc_ret ?_
  refine wq_ret1 (v := .pointer (some (Addr.add a0 (((x * n) + y).toNat * 1)))) rfl rfl rfl ?_
  exact ⟨pw, rfl⟩
/-- What is told of a function that only looks: the frozen memory is that of before. -/
def POk (f : FuncId) (g : List AV → Option AV) : Prop := Callable E0.P f ∧ ∀ xs x, g xs = some x → ∀ w Z us, (∀ c, Z c → c < w.heap.size) → VRs w Z [] xs us → Ret E0.P f us.toArray w fun v w' => w.grownBy w' none ∧ VR w' Z [] x v
theorem vr_nil {w : World} {Z : Nat → Prop} {R : List RI} {x : AV} {v : Value} (hv : VR w Z [] x v) (hnx : noRf x = true) : VR w Z R x v := by
  cases hv with
  | v h => exact .v h
  | st h hn => exact .st h hn
  | e0 => exact .e0
  | sl hn hl hc hm ha hx => exact .sl hn hl hc hm ha hx
  | pe hs h3 h1 hu hx => exact .pe hs h3 h1 hu hx
  | _ => simp [noRf] at hnx
section
variable {E : Env} {ops : Array Oper} {rest rest' : List Oper} {K : St → Prop} {n n0 k : Nat} {l : List (Nat × AV)} {hp : Hp}
theorem RunDS.peek (hP : E.P = E0.P) {α β : Type} {s : Cs α} {F : α → Option β} {er : β → AV} {u : α} {v : β} {fid : FuncId} (hX : POk fid (told s F er)) {d : Nat} {f : Operand} {args : Array Operand} {tys : Array TypeId} {ty : TypeId} {pos : String} {af : Array Edge} {g : Option (Nat × Bool)} (hr : rest = ⟨some d, .call ⟨.value f, args, tys⟩, ty, pos, af, g⟩ :: rest') (hw : wantedA ops (Fr n l) ⟨some d, .call ⟨.value f, args, tys⟩, ty, pos, af, g⟩ = some true)
    (hf : opA E (Fr n l) f = some (.fn fid [] [])) (ha : opds (opA E (Fr n l)) args.toList = some (s.enc u)) (hnx : noRf (er v) = true) (hF : F u = some v) (kk : RunDS E ops n0 (k + 1) rest' ⟨Fr n ((d, er v) :: l), hp⟩ K) : RunDS E ops n0 k rest ⟨Fr n l, hp⟩ K := by
  subst hr
  intro base Q w0 Z R0 h0 a w R hh0 hn0 hT sr hgr st hpre hTk hlen hops q
  have hok : ops[k]? = some ⟨some d, .call ⟨.value f, args, tys⟩, ty, pos, af, g⟩ := by have := hops 0; simpa using this.symm
  have hops' : ∀ j, rest'[j]? = ops[k + 1 + j]? := fun j => by have := hops (j + 1); simpa [Nat.add_assoc, Nat.add_comm 1 j] using this
  have hlen' : k + 1 + rest'.length = ops.size := by simp at hlen ⊢; omega
  have hTk' : tailAt ops = tailGo rest' (k + 1) := by
    rw [hTk]
    conv => lhs; unfold tailGo; rw [if_neg (by simp [isW])]
  refine ⟨fun _ => hgr, ?_⟩
  rw [if_pos (wantedA_eq sr hw)]
  have hq : isQ (.call ⟨.value f, args, tys⟩ : Op) = false := rfl
  rw [if_pos (by simp [hok, hq])]
  have hρ : ∀ o x, opA E (Fr n l) o = some x → VR w Z R x (a.eval o) := fun o x e => opA_vr sr o x e
  have hva : a.eval f = .func (.func fid) #[] #[] := by
    have := hρ _ _ hf
    generalize a.eval f = vf at this
    cases this with
    | fn hl hl' hx hy =>
      rename_i u1 u2
      have e1 : u1 = [] := by simpa using hl
      have e2 : u2 = [] := by simpa using hl'
      subst e1 e2; rfl
  have hcl : Callable E.P fid := hP ▸ hX.1
  unfold Lw
  rw [run_call (uf := []) (uc := []) rfl hva rfl hcl w]
  simp only [List.nil_append, List.append_nil]
  have hret := hX.2 (s.enc u) (er v) (told_enc hF) w Z _ sr.hh.zlt (noRfs_vr (s.nr u) (opds_vr hρ ha))
  rw [← hP] at hret
  refine Ret.mono hret fun v w' ⟨hg1, hv⟩ => ?_
  have stp : Step w Z R hp w' Z R hp := ⟨hg1.os, hg1.tape, hg1.output, hg1.size, fun c hc _ => hg1.block c hc (by simp), fun _ h => .inl h, fun _ h => h, fun _ h => .inl h, fun _ _ h => h⟩
  have hh' : HR w' Z R hp := sr.hh.keep hg1.size (fun c hc => hg1.block c hc (by simp))
  have sr' : SR E base w' Z R ⟨Fr n l, hp⟩ a := sr.step hh' stp
  exact kk base Q w0 Z R0 h0 _ w' R hh0 hn0 hT (by have := sr'.put (d := some d) (vr_nil hv hnx); rwa [putA_Fr] at this) (pu_trans hgr hg1) (st.trans stp) hpre hTk' hlen' hops' q
end
end Go.Proofs.YtnmkejapogklmaaDoor
