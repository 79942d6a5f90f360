/- Proved: the tied card of the statement EveningChecks, with no condition of its own: for all inputs that the row reads, the law returns true and its arguments read as before. -/
import Derived.Test.YthofgamegondnaaDoorEveningChecksM1
import Derived.Test.YthofgamegondnaaDoorEveningChecksM2
import Derived.Test.YthofgamegondnaaDoorEveningChecksM3
import Derived.Test.YthofgamegondnaaDoorEveningChecksM4
import Derived.Test.YthofgamegondnaaDoorEveningChecksM5
namespace Go.Proofs.YthofgamegondnaaDoor
open Go.RowKit
/- trestle/trestleref09.MostEvenings -/
noncomputable def e_ref09_MostEvenings : Env := ((E0.withX 70 t_ref09_Fit).withX 73 t_ref09_met)
theorem e_ref09_MostEvenings_ok : EnvOk e_ref09_MostEvenings := (EnvOk.withX (EnvOk.withX E0_ok x_ref09_Fit.1 x_ref09_Fit.2) x_ref09_met.1 x_ref09_met.2)
def ref09_MostEvenings_1 (x0 : Int) (x1 : (List Int)) (x2 : Int) : Nat → Int → Option ((Int))
  | 0, _ => none
  | f + 1, c5 =>
    (if (decide (c5 < 64)) = true then (ref09_met x1).bind fun v6 =>
    (ref09_met [x0]).bind fun v7 =>
    some (decide ((wr .i64 ((wr .i64 (c5 + 1)) * v6)) ≤ (wr .i64 ((mnI x2 64) * v7)))) else some false).bind fun j9 =>
    if j9 = true then
    ref09_MostEvenings_1 x0 x1 x2 f (wr .i64 (c5 + 1))
    else
    some c5
def ref09_MostEvenings (x0 : Int) (x1 : (List Int)) (x2 : Int) : Option (Int) :=
  (ref09_Fit x0 x1).bind fun v1 =>
  (if (!v1) = true then some true else some (decide (x2 < 0))).bind fun j3 =>
  if j3 = true then
  some 0
  else
  (ref09_MostEvenings_1 x0 x1 x2 100000 0).bind fun r13 =>
  some r13
def cs_ref09_MostEvenings : Cs (Int × (List Int) × Int × Unit) := (csC cdI (csC (cdL 1 cdI) (csC cdI csN)))
def er_ref09_MostEvenings (r : Int) : AV := cdI.enc r
noncomputable def cb_ref09_MostEvenings : Code := codeOf Tryd.f34
set_option maxRecDepth 100000 in
theorem ref09_MostEvenings_1_ok (x0 : Int) (x1 : (List Int)) (x2 : Int) : ∀ (f : Nat) (c5 : Int) (r : (Int)), ref09_MostEvenings_1 x0 x1 x2 f c5 = some r → SemN e_ref09_MostEvenings ⟨none, false⟩ (pc cb_ref09_MostEvenings [1, 1, 1, 0, 0, 0]) f ⟨Fr 35 [(0, .v (.int .i64 x0)), (1, .sl 1 (x1.map cdI.enc)), (2, .v (.int .i64 x2)), (7, .v (.int .i64 c5))], []⟩ (fun e s => e = (.exit 0) ∧ Wk e_ref09_MostEvenings s ⟨Fr 35 [(7, .v (.int .i64 r))], []⟩) := by
  intro f
  induction f with
  | zero => intro c5 r h; cases h
  | succ f ih0 =>
    intro c5 r h
    have ih := fun (c5 : Int) => ih0 c5 r
    unfold ref09_MostEvenings_1 at h
    refine SemN.succ ?_
    refine Sem.seq ?_
    refine Sem.seq ?_
    obtain ⟨j9, hj9, h⟩ := Option.bind_eq_some_iff.1 h
    refine Sem.runS (s1 := ⟨Fr 35 [(0, .v (.int .i64 x0)), (1, .sl 1 (x1.map cdI.enc)), (2, .v (.int .i64 x2)), (7, .v (.int .i64 c5)), (31, .v (.bool j9))], []⟩) ?_ ?_
    · refine RunS.seg e_ref09_MostEvenings_ok 3 (s1 := ⟨Fr 35 [(0, .v (.int .i64 x0)), (1, .sl 1 (x1.map cdI.enc)), (2, .v (.int .i64 x2)), (7, .v (.int .i64 c5)), (16, .v (.int .i64 c5)), (17, .v (.bool (decide (c5 < 64)))), (18, .v (.bool (decide (c5 < 64))))], []⟩) (by kernel_rfl) ?_
      rcases Bool.eq_false_or_eq_true (decide (c5 < 64)) with hc12 | hc12
      · rw [if_pos hc12] at hj9
        rw [hc12]
        refine RunS.seg e_ref09_MostEvenings_ok 3 (s1 := ⟨Fr 35 [(0, .v (.int .i64 x0)), (1, .sl 1 (x1.map cdI.enc)), (2, .v (.int .i64 x2)), (7, .v (.int .i64 c5)), (16, .v (.int .i64 c5)), (17, .v (.bool true)), (18, .v (.bool true)), (19, .v (.int .i64 c5)), (20, .v (.int .i64 (wr .i64 (c5 + 1)))), (21, .sl 1 (x1.map cdI.enc))], []⟩) (by kernel_rfl) ?_
        obtain ⟨v6, hv6, hj9⟩ := Option.bind_eq_some_iff.1 hj9
        refine RunS.call e_ref09_MostEvenings_ok (fid := 73) (s := cs_ref09_met) (F := fun a => ref09_met a.1) (er := er_ref09_met) (xs := [.sl 1 (x1.map cdI.enc)]) (a := (x1, ())) rfl (by kernel_rfl) (by kernel_rfl) (by kernel_rfl) (by kernel_rfl) (by kernel_rfl) (Sns.cons (Sn.enc (c := (cdL 1 cdI)) (v := x1)) Sns.nil) (.inl (by kernel_rfl)) hv6 ?_
        refine RunS.seg e_ref09_MostEvenings_ok 5 (s1 := ⟨Fr 35 [(0, .v (.int .i64 x0)), (1, .sl 1 (x1.map cdI.enc)), (2, .v (.int .i64 x2)), (7, .v (.int .i64 c5)), (16, .v (.int .i64 c5)), (17, .v (.bool true)), (18, .v (.bool true)), (19, .v (.int .i64 c5)), (20, .v (.int .i64 (wr .i64 (c5 + 1)))), (21, .sl 1 (x1.map cdI.enc)), (22, .v (.int .i64 v6)), (23, .v (.int .i64 (wr .i64 ((wr .i64 (c5 + 1)) * v6)))), (24, .v (.int .i64 x2)), (25, .v (.int .i64 (mnI x2 64))), (26, .v (.int .i64 x0)), (27, hd 0 ([x0].map cdI.enc))], [mk 1 3 ([x0].map cdI.enc)]⟩) (by kernel_rfl) ?_
        obtain ⟨v7, hv7, hj9⟩ := Option.bind_eq_some_iff.1 hj9
        refine RunS.call e_ref09_MostEvenings_ok (fid := 73) (s := cs_ref09_met) (F := fun a => ref09_met a.1) (er := er_ref09_met) (xs := [hd 0 ([x0].map cdI.enc)]) (a := ([x0], ())) rfl (by kernel_rfl) (by kernel_rfl) (by kernel_rfl) (by kernel_rfl) (by kernel_rfl) (Sns.cons (Sn.hd (c := cdI) (xs := [x0]) (t := 3) (by kernel_rfl) n1_I) Sns.nil) (.inr (by kernel_rfl)) hv7 ?_
        refine RunS.seg e_ref09_MostEvenings_ok 3 (s1 := ⟨Fr 35 [(0, .v (.int .i64 x0)), (1, .sl 1 (x1.map cdI.enc)), (2, .v (.int .i64 x2)), (7, .v (.int .i64 c5)), (16, .v (.int .i64 c5)), (17, .v (.bool true)), (18, .v (.bool true)), (19, .v (.int .i64 c5)), (20, .v (.int .i64 (wr .i64 (c5 + 1)))), (21, .sl 1 (x1.map cdI.enc)), (22, .v (.int .i64 v6)), (23, .v (.int .i64 (wr .i64 ((wr .i64 (c5 + 1)) * v6)))), (24, .v (.int .i64 x2)), (25, .v (.int .i64 (mnI x2 64))), (26, .v (.int .i64 x0)), (27, hd 0 ([x0].map cdI.enc)), (28, .v (.int .i64 v7)), (29, .v (.int .i64 (wr .i64 ((mnI x2 64) * v7)))), (30, .v (.bool (decide ((wr .i64 ((wr .i64 (c5 + 1)) * v6)) ≤ (wr .i64 ((mnI x2 64) * v7)))))), (31, .v (.bool (decide ((wr .i64 ((wr .i64 (c5 + 1)) * v6)) ≤ (wr .i64 ((mnI x2 64) * v7))))))], [mk 1 3 ([x0].map cdI.enc)]⟩) (by kernel_rfl) ?_
        have hq := Option.some.inj hj9; subst hq
        exact RunS.done rfl (Wk.sel2 [] (by kernel_rfl) (by kernel_rfl) (by kernel_rfl) trivial ⟨lu (by kernel_rfl) (by kernel_rfl), lu (by kernel_rfl) (by kernel_rfl), lu (by kernel_rfl) (by kernel_rfl), lu (by kernel_rfl) (by kernel_rfl), lu (by kernel_rfl) (by kernel_rfl), trivial⟩)
      · rw [if_f hc12] at hj9
        rw [hc12]
        refine RunS.seg e_ref09_MostEvenings_ok 13 (s1 := ⟨Fr 35 [(0, .v (.int .i64 x0)), (1, .sl 1 (x1.map cdI.enc)), (2, .v (.int .i64 x2)), (7, .v (.int .i64 c5)), (16, .v (.int .i64 c5)), (17, .v (.bool false)), (18, .v (.bool false)), (19, .tp []), (20, .tp []), (21, .tp []), (22, .tp []), (23, .tp []), (24, .tp []), (25, .tp []), (26, .tp []), (27, .tp []), (28, .tp []), (29, .tp []), (30, .tp []), (31, .v (.bool false))], []⟩) (by kernel_rfl) ?_
        have hq := Option.some.inj hj9; subst hq
        exact RunS.done rfl (Wk.fr (by kernel_rfl))
    refine Sem.cond (b := j9) (by kernel_rfl) (fun hb10 => ?_) (fun hb10 => ?_)
    · rw [if_pos hb10] at h
      refine Sem.skip ?_
      refine Sem.block ?_
      refine Sem.runS (s1 := ⟨Fr 35 [(0, .v (.int .i64 x0)), (1, .sl 1 (x1.map cdI.enc)), (2, .v (.int .i64 x2)), (7, .v (.int .i64 (wr .i64 (c5 + 1))))], []⟩) ?_ ?_
      · refine RunS.seg e_ref09_MostEvenings_ok 3 (s1 := ⟨Fr 35 [(0, .v (.int .i64 x0)), (1, .sl 1 (x1.map cdI.enc)), (2, .v (.int .i64 x2)), (7, .v (.int .i64 (wr .i64 (c5 + 1)))), (31, .v (.bool j9)), (32, .v (.int .i64 c5)), (33, .v (.int .i64 (wr .i64 (c5 + 1))))], []⟩) (by kernel_rfl) ?_
        exact RunS.done rfl (Wk.fr (by kernel_rfl))
      exact SemN.wk (s1 := ⟨Fr 35 [(0, .v (.int .i64 x0)), (1, .sl 1 (x1.map cdI.enc)), (2, .v (.int .i64 x2)), (7, .v (.int .i64 (wr .i64 (c5 + 1))))], []⟩) (Wk.fr (by kernel_rfl)) (ih (wr .i64 (c5 + 1)) h)
    · rw [if_f hb10] at h
      refine Sem.exit ?_
      have hq := Option.some.inj h; subst hq
      exact ⟨rfl, (Wk.fr (by kernel_rfl))⟩
set_option maxRecDepth 100000 in
theorem ref09_MostEvenings_sem (x0 : Int) (x1 : (List Int)) (x2 : Int) (r : Int) (h : ref09_MostEvenings x0 x1 x2 = some r) : Sem e_ref09_MostEvenings ⟨none, false⟩ cb_ref09_MostEvenings ⟨Fr 35 (pairs0 0 (cs_ref09_MostEvenings.enc (x0, x1, x2, ()))), []⟩ fun e s' => (e = .normal ∨ e = .ret) ∧ ∃ xs, resA e_ref09_MostEvenings.P s'.fr s'.hp Tryd.f34.results.toList = some xs ∧ retA xs = er_ref09_MostEvenings r := by
  unfold ref09_MostEvenings at h
  refine Sem.wkQ (Sem.wk (s1 := ⟨Fr 35 [(0, .v (.int .i64 x0)), (1, .sl 1 (x1.map cdI.enc)), (2, .v (.int .i64 x2))], []⟩) (Wk.fr (by kernel_rfl)) ?_)
  refine Sem.seq ?_
  refine Sem.runS (s1 := ⟨Fr 35 [(0, .v (.int .i64 x0)), (1, .sl 1 (x1.map cdI.enc)), (2, .v (.int .i64 x2))], []⟩) ?_ ?_
  · refine RunS.seg e_ref09_MostEvenings_ok 1 (s1 := ⟨Fr 35 [(0, .v (.int .i64 x0)), (1, .sl 1 (x1.map cdI.enc)), (2, .v (.int .i64 x2)), (6, .v (.int .i64 0))], []⟩) (by kernel_rfl) ?_
    exact RunS.done rfl (Wk.fr (by kernel_rfl))
  refine Sem.seq ?_
  refine Sem.seq ?_
  obtain ⟨v1, hv1, h⟩ := Option.bind_eq_some_iff.1 h
  obtain ⟨j3, hj3, h⟩ := Option.bind_eq_some_iff.1 h
  refine Sem.runS (s1 := ⟨Fr 35 [(0, .v (.int .i64 x0)), (1, .sl 1 (x1.map cdI.enc)), (2, .v (.int .i64 x2)), (15, .v (.bool j3))], []⟩) ?_ ?_
  · refine RunS.seg e_ref09_MostEvenings_ok 2 (s1 := ⟨Fr 35 [(0, .v (.int .i64 x0)), (1, .sl 1 (x1.map cdI.enc)), (2, .v (.int .i64 x2)), (8, .v (.int .i64 x0)), (9, .sl 1 (x1.map cdI.enc))], []⟩) (by kernel_rfl) ?_
    refine RunS.call e_ref09_MostEvenings_ok (fid := 70) (s := cs_ref09_Fit) (F := fun a => ref09_Fit a.1 a.2.1) (er := er_ref09_Fit) (xs := [.v (.int .i64 x0), .sl 1 (x1.map cdI.enc)]) (a := (x0, x1, ())) rfl (wantedA_none rfl) (by kernel_rfl) (by kernel_rfl) (by kernel_rfl) (by kernel_rfl) (Sns.cons (Sn.enc (c := cdI) (v := x0)) (Sns.cons (Sn.enc (c := (cdL 1 cdI)) (v := x1)) Sns.nil)) (.inl (by kernel_rfl)) hv1 ?_
    refine RunS.seg e_ref09_MostEvenings_ok 2 (s1 := ⟨Fr 35 [(0, .v (.int .i64 x0)), (1, .sl 1 (x1.map cdI.enc)), (2, .v (.int .i64 x2)), (8, .v (.int .i64 x0)), (9, .sl 1 (x1.map cdI.enc)), (10, .v (.bool v1)), (11, .v (.bool (!v1))), (12, .v (.bool (!v1)))], []⟩) (by kernel_rfl) ?_
    rcases Bool.eq_false_or_eq_true (!v1) with hc14 | hc14
    · rw [if_pos hc14] at hj3
      rw [hc14]
      refine RunS.seg e_ref09_MostEvenings_ok 3 (s1 := ⟨Fr 35 [(0, .v (.int .i64 x0)), (1, .sl 1 (x1.map cdI.enc)), (2, .v (.int .i64 x2)), (8, .v (.int .i64 x0)), (9, .sl 1 (x1.map cdI.enc)), (10, .v (.bool v1)), (11, .v (.bool true)), (12, .v (.bool true)), (13, .tp []), (14, .tp []), (15, .v (.bool true))], []⟩) (by kernel_rfl) ?_
      have hq := Option.some.inj hj3; subst hq
      exact RunS.done rfl (Wk.fr (by kernel_rfl))
    · rw [if_f hc14] at hj3
      rw [hc14]
      refine RunS.seg e_ref09_MostEvenings_ok 3 (s1 := ⟨Fr 35 [(0, .v (.int .i64 x0)), (1, .sl 1 (x1.map cdI.enc)), (2, .v (.int .i64 x2)), (8, .v (.int .i64 x0)), (9, .sl 1 (x1.map cdI.enc)), (10, .v (.bool v1)), (11, .v (.bool false)), (12, .v (.bool false)), (13, .v (.int .i64 x2)), (14, .v (.bool (decide (x2 < 0)))), (15, .v (.bool (decide (x2 < 0))))], []⟩) (by kernel_rfl) ?_
      have hq := Option.some.inj hj3; subst hq
      exact RunS.done rfl (Wk.fr (by kernel_rfl))
  refine Sem.cond (b := j3) (by kernel_rfl) (fun hb4 => ?_) (fun hb4 => ?_)
  · rw [if_pos hb4] at h
    refine Sem.seq ?_
    refine Sem.runS (s1 := ⟨Fr 35 [(6, .v (.int .i64 0))], []⟩) ?_ ?_
    · refine RunS.seg e_ref09_MostEvenings_ok 1 (s1 := ⟨Fr 35 [(0, .v (.int .i64 x0)), (1, .sl 1 (x1.map cdI.enc)), (2, .v (.int .i64 x2)), (6, .v (.int .i64 0)), (15, .v (.bool j3))], []⟩) (by kernel_rfl) ?_
      exact RunS.done rfl (Wk.fr (by kernel_rfl))
    refine Sem.ret ?_
    have hq := Option.some.inj h; subst hq
    exact ⟨⟨Fr 35 [(6, .v (.int .i64 0))], []⟩, (Wk.fr (by kernel_rfl)), .inr rfl, [.v (.int .i64 0)], (by kernel_rfl), (by kernel_rfl)⟩
  · rw [if_f hb4] at h
    refine Sem.skip ?_
    refine Sem.seq ?_
    refine Sem.runS (s1 := ⟨Fr 35 [(0, .v (.int .i64 x0)), (1, .sl 1 (x1.map cdI.enc)), (2, .v (.int .i64 x2)), (7, .v (.int .i64 0))], []⟩) ?_ ?_
    · refine RunS.seg e_ref09_MostEvenings_ok 1 (s1 := ⟨Fr 35 [(0, .v (.int .i64 x0)), (1, .sl 1 (x1.map cdI.enc)), (2, .v (.int .i64 x2)), (7, .v (.int .i64 0)), (15, .v (.bool j3))], []⟩) (by kernel_rfl) ?_
      exact RunS.done rfl (Wk.fr (by kernel_rfl))
    refine Sem.seq ?_
    refine Sem.block ?_
    obtain ⟨r13, hr13, h⟩ := Option.bind_eq_some_iff.1 h
    refine Sem.loop (n := 100000) ?_
    refine Sem.cutN (SemN.wk (s1 := ⟨Fr 35 [(0, .v (.int .i64 x0)), (1, .sl 1 (x1.map cdI.enc)), (2, .v (.int .i64 x2)), (7, .v (.int .i64 0))], []⟩) (Wk.fr (by kernel_rfl)) (ref09_MostEvenings_1_ok x0 x1 x2 _ 0 _ hr13)) ?_
    refine Sem.seq ?_
    refine Sem.runS (s1 := ⟨Fr 35 [(6, .v (.int .i64 r13))], []⟩) ?_ ?_
    · refine RunS.seg e_ref09_MostEvenings_ok 2 (s1 := ⟨Fr 35 [(6, .v (.int .i64 r13)), (7, .v (.int .i64 r13)), (34, .v (.int .i64 r13))], []⟩) (by kernel_rfl) ?_
      exact RunS.done rfl (Wk.fr (by kernel_rfl))
    refine Sem.ret ?_
    have hq := Option.some.inj h; subst hq
    exact ⟨⟨Fr 35 [(6, .v (.int .i64 r13))], []⟩, (Wk.fr (by kernel_rfl)), .inr rfl, [.v (.int .i64 r13)], (by kernel_rfl), (by kernel_rfl)⟩
def t_ref09_MostEvenings : List AV → Option AV := told cs_ref09_MostEvenings (fun a => ref09_MostEvenings a.1 a.2.1 a.2.2.1) er_ref09_MostEvenings
theorem x_ref09_MostEvenings : XOk 34 t_ref09_MostEvenings := by
  refine EnvOk.x (E := e_ref09_MostEvenings) (contract_ok e_ref09_MostEvenings_ok (fn := Tryd.f34) (c := cb_ref09_MostEvenings) ?h1 ?h2 ⟨Tryd.call34⟩ cs_ref09_MostEvenings (fun a => ref09_MostEvenings a.1 a.2.1 a.2.2.1) er_ref09_MostEvenings (fun a => (by show 3 ≤ 35; decide)) ?h3 ?h4) rfl rfl
  case h1 => kernel_rfl
  case h2 => kernel_rfl
  case h3 => intro b; kernel_rfl
  case h4 => exact fun a b h => ref09_MostEvenings_sem a.1 a.2.1 a.2.2.1 b h
end Go.Proofs.YthofgamegondnaaDoor

namespace Go.Proofs.YthofgamegondnaaDoor
open Go.RowKit
/- trestle/trestlelaw09.EveningBounds -/
noncomputable def e_law09_EveningBounds : Env := (((((((E0.withX 16 t_law09_awake).withX 27 t_slices_Clone_L_int).withX 31 t_evening_LeastMost).withX 32 t_ref09_LeastMost).withX 33 t_evening_MostEvenings).withX 34 t_ref09_MostEvenings).withX 30 t_slices_Equal_L_int)
theorem e_law09_EveningBounds_ok : EnvOk e_law09_EveningBounds := (EnvOk.withX (EnvOk.withX (EnvOk.withX (EnvOk.withX (EnvOk.withX (EnvOk.withX (EnvOk.withX E0_ok x_law09_awake.1 x_law09_awake.2) x_slices_Clone_L_int.1 x_slices_Clone_L_int.2) x_evening_LeastMost.1 x_evening_LeastMost.2) x_ref09_LeastMost.1 x_ref09_LeastMost.2) x_evening_MostEvenings.1 x_evening_MostEvenings.2) x_ref09_MostEvenings.1 x_ref09_MostEvenings.2) x_slices_Equal_L_int.1 x_slices_Equal_L_int.2)
def law09_EveningBounds (x0 : Int) (x1 : (List Int)) (x2 : Int) (x3 : Int) : Option (Bool) :=
  if (decide ((x1.length : Int) > 70)) = true then
  law09_awake.bind fun v2 =>
  some v2
  else
  (slices_Clone_L_int x1).bind fun v3 =>
  (evening_LeastMost x0 v3 x2).bind fun v4 =>
  (ref09_LeastMost x0 x1 x2).bind fun v5 =>
  (if (v4 == v5) = true then (evening_MostEvenings x0 v3 x3).bind fun v6 =>
  (ref09_MostEvenings x0 x1 x3).bind fun v7 =>
  if (v6 == v7) = true then (slices_Equal_L_int v3 x1).bind fun v8 =>
  if v8 = true then law09_awake.bind fun v9 =>
  some v9 else some false else some false else some false).bind fun j11 =>
  some j11
def cs_law09_EveningBounds : Cs (Int × (List Int) × Int × Int × Unit) := (csC cdI (csC (cdL 1 cdI) (csC cdI (csC cdI csN))))
def er_law09_EveningBounds (r : Bool) : AV := cdB.enc r
noncomputable def cb_law09_EveningBounds : Code := codeOf Tryd.f7
set_option maxRecDepth 100000 in
theorem law09_EveningBounds_sem (x0 : Int) (x1 : (List Int)) (x2 : Int) (x3 : Int) (r : Bool) (h : law09_EveningBounds x0 x1 x2 x3 = some r) : Sem e_law09_EveningBounds ⟨none, false⟩ cb_law09_EveningBounds ⟨Fr 44 (pairs0 0 (cs_law09_EveningBounds.enc (x0, x1, x2, x3, ()))), []⟩ fun e s' => (e = .normal ∨ e = .ret) ∧ ∃ xs, resA e_law09_EveningBounds.P s'.fr s'.hp Tryd.f7.results.toList = some xs ∧ retA xs = er_law09_EveningBounds r := by
  unfold law09_EveningBounds at h
  refine Sem.wkQ (Sem.wk (s1 := ⟨Fr 44 [(0, .v (.int .i64 x0)), (1, .sl 1 (x1.map cdI.enc)), (2, .v (.int .i64 x2)), (3, .v (.int .i64 x3))], []⟩) (Wk.fr (by kernel_rfl)) ?_)
  refine Sem.seq ?_
  refine Sem.runS (s1 := ⟨Fr 44 [(0, .v (.int .i64 x0)), (1, .sl 1 (x1.map cdI.enc)), (2, .v (.int .i64 x2)), (3, .v (.int .i64 x3))], []⟩) ?_ ?_
  · refine RunS.seg e_law09_EveningBounds_ok 1 (s1 := ⟨Fr 44 [(0, .v (.int .i64 x0)), (1, .sl 1 (x1.map cdI.enc)), (2, .v (.int .i64 x2)), (3, .v (.int .i64 x3)), (8, .v (.bool false))], []⟩) (by kernel_rfl) ?_
    exact RunS.done rfl (Wk.fr (by kernel_rfl))
  refine Sem.seq ?_
  refine Sem.seq ?_
  refine Sem.runS (s1 := ⟨Fr 44 [(0, .v (.int .i64 x0)), (1, .sl 1 (x1.map cdI.enc)), (2, .v (.int .i64 x2)), (3, .v (.int .i64 x3)), (12, .v (.bool (decide ((x1.length : Int) > 70))))], []⟩) ?_ ?_
  · refine RunS.seg e_law09_EveningBounds_ok 1 (s1 := ⟨Fr 44 [(0, .v (.int .i64 x0)), (1, .sl 1 (x1.map cdI.enc)), (2, .v (.int .i64 x2)), (3, .v (.int .i64 x3)), (10, .sl 1 (x1.map cdI.enc))], []⟩) (by kernel_rfl) ?_
    refine RunS.one e_law09_EveningBounds_ok 0 rfl (op_q (wantedA_none rfl) rfl (q_len (a := .sl 1 (x1.map cdI.enc)) (by kernel_rfl) (len_sl (el := 3) (by kernel_rfl)))) ?_
    refine RunS.seg e_law09_EveningBounds_ok 1 (s1 := ⟨Fr 44 [(0, .v (.int .i64 x0)), (1, .sl 1 (x1.map cdI.enc)), (2, .v (.int .i64 x2)), (3, .v (.int .i64 x3)), (10, .sl 1 (x1.map cdI.enc)), (11, .v (.int .i64 (x1.length : Int))), (12, .v (.bool (decide ((x1.length : Int) > 70))))], []⟩) (by kernel_rfl) ?_
    exact RunS.done rfl (Wk.fr (by kernel_rfl))
  refine Sem.cond (b := (decide ((x1.length : Int) > 70))) (by kernel_rfl) (fun hb1 => ?_) (fun hb1 => ?_)
  · rw [if_pos hb1] at h
    refine Sem.seq ?_
    obtain ⟨v2, hv2, h⟩ := Option.bind_eq_some_iff.1 h
    refine Sem.runS (s1 := ⟨Fr 44 [(8, .v (.bool v2))], []⟩) ?_ ?_
    · refine RunS.call e_law09_EveningBounds_ok (fid := 16) (s := cs_law09_awake) (F := fun a => law09_awake ) (er := er_law09_awake) (xs := []) (a := (())) rfl (wantedA_none rfl) (by kernel_rfl) (by kernel_rfl) (by kernel_rfl) (by kernel_rfl) Sns.nil (.inl (by kernel_rfl)) hv2 ?_
      refine RunS.seg e_law09_EveningBounds_ok 1 (s1 := ⟨Fr 44 [(0, .v (.int .i64 x0)), (1, .sl 1 (x1.map cdI.enc)), (2, .v (.int .i64 x2)), (3, .v (.int .i64 x3)), (8, .v (.bool v2)), (12, .v (.bool (decide ((x1.length : Int) > 70)))), (13, .v (.bool v2))], []⟩) (by kernel_rfl) ?_
      exact RunS.done rfl (Wk.fr (by kernel_rfl))
    refine Sem.ret ?_
    have hq := Option.some.inj h; subst hq
    exact ⟨⟨Fr 44 [(8, .v (.bool v2))], []⟩, (Wk.fr (by kernel_rfl)), .inr rfl, [.v (.bool v2)], (by kernel_rfl), (by kernel_rfl)⟩
  · rw [if_f hb1] at h
    refine Sem.skip ?_
    refine Sem.seq ?_
    obtain ⟨v3, hv3, h⟩ := Option.bind_eq_some_iff.1 h
    refine Sem.runS (s1 := ⟨Fr 44 [(0, .v (.int .i64 x0)), (1, .sl 1 (x1.map cdI.enc)), (2, .v (.int .i64 x2)), (3, .v (.int .i64 x3)), (9, .sl 1 (v3.map cdI.enc))], []⟩) ?_ ?_
    · refine RunS.seg e_law09_EveningBounds_ok 1 (s1 := ⟨Fr 44 [(0, .v (.int .i64 x0)), (1, .sl 1 (x1.map cdI.enc)), (2, .v (.int .i64 x2)), (3, .v (.int .i64 x3)), (12, .v (.bool (decide ((x1.length : Int) > 70)))), (14, .sl 1 (x1.map cdI.enc))], []⟩) (by kernel_rfl) ?_
      refine RunS.call e_law09_EveningBounds_ok (fid := 27) (s := cs_slices_Clone_L_int) (F := fun a => slices_Clone_L_int a.1) (er := er_slices_Clone_L_int) (xs := [.sl 1 (x1.map cdI.enc)]) (a := (x1, ())) rfl (wantedA_none rfl) (by kernel_rfl) (by kernel_rfl) (by kernel_rfl) (by kernel_rfl) (Sns.cons (Sn.enc (c := (cdL 1 cdI)) (v := x1)) Sns.nil) (.inl (by kernel_rfl)) hv3 ?_
      refine RunS.seg e_law09_EveningBounds_ok 1 (s1 := ⟨Fr 44 [(0, .v (.int .i64 x0)), (1, .sl 1 (x1.map cdI.enc)), (2, .v (.int .i64 x2)), (3, .v (.int .i64 x3)), (9, .sl 1 (v3.map cdI.enc)), (12, .v (.bool (decide ((x1.length : Int) > 70)))), (14, .sl 1 (x1.map cdI.enc)), (15, .sl 1 (v3.map cdI.enc))], []⟩) (by kernel_rfl) ?_
      exact RunS.done rfl (Wk.fr (by kernel_rfl))
    refine Sem.seq ?_
    obtain ⟨v4, hv4, h⟩ := Option.bind_eq_some_iff.1 h
    obtain ⟨v5, hv5, h⟩ := Option.bind_eq_some_iff.1 h
    obtain ⟨j11, hj11, h⟩ := Option.bind_eq_some_iff.1 h
    refine Sem.runS (s1 := ⟨Fr 44 [(8, .v (.bool j11))], []⟩) ?_ ?_
    · refine RunS.seg e_law09_EveningBounds_ok 3 (s1 := ⟨Fr 44 [(0, .v (.int .i64 x0)), (1, .sl 1 (x1.map cdI.enc)), (2, .v (.int .i64 x2)), (3, .v (.int .i64 x3)), (9, .sl 1 (v3.map cdI.enc)), (16, .v (.int .i64 x0)), (17, .sl 1 (v3.map cdI.enc)), (18, .v (.int .i64 x2))], []⟩) (by kernel_rfl) ?_
      refine RunS.call e_law09_EveningBounds_ok (fid := 31) (s := cs_evening_LeastMost) (F := fun a => evening_LeastMost a.1 a.2.1 a.2.2.1) (er := er_evening_LeastMost) (xs := [.v (.int .i64 x0), .sl 1 (v3.map cdI.enc), .v (.int .i64 x2)]) (a := (x0, v3, x2, ())) rfl (wantedA_none rfl) (by kernel_rfl) (by kernel_rfl) (by kernel_rfl) (by kernel_rfl) (Sns.cons (Sn.enc (c := cdI) (v := x0)) (Sns.cons (Sn.enc (c := (cdL 1 cdI)) (v := v3)) (Sns.cons (Sn.enc (c := cdI) (v := x2)) Sns.nil))) (.inl (by kernel_rfl)) hv4 ?_
      refine RunS.seg e_law09_EveningBounds_ok 3 (s1 := ⟨Fr 44 [(0, .v (.int .i64 x0)), (1, .sl 1 (x1.map cdI.enc)), (2, .v (.int .i64 x2)), (3, .v (.int .i64 x3)), (9, .sl 1 (v3.map cdI.enc)), (16, .v (.int .i64 x0)), (17, .sl 1 (v3.map cdI.enc)), (18, .v (.int .i64 x2)), (19, .v (.int .i64 v4)), (20, .v (.int .i64 x0)), (21, .sl 1 (x1.map cdI.enc)), (22, .v (.int .i64 x2))], []⟩) (by kernel_rfl) ?_
      refine RunS.call e_law09_EveningBounds_ok (fid := 32) (s := cs_ref09_LeastMost) (F := fun a => ref09_LeastMost a.1 a.2.1 a.2.2.1) (er := er_ref09_LeastMost) (xs := [.v (.int .i64 x0), .sl 1 (x1.map cdI.enc), .v (.int .i64 x2)]) (a := (x0, x1, x2, ())) rfl (wantedA_none rfl) (by kernel_rfl) (by kernel_rfl) (by kernel_rfl) (by kernel_rfl) (Sns.cons (Sn.enc (c := cdI) (v := x0)) (Sns.cons (Sn.enc (c := (cdL 1 cdI)) (v := x1)) (Sns.cons (Sn.enc (c := cdI) (v := x2)) Sns.nil))) (.inl (by kernel_rfl)) hv5 ?_
      refine RunS.seg e_law09_EveningBounds_ok 2 (s1 := ⟨Fr 44 [(0, .v (.int .i64 x0)), (1, .sl 1 (x1.map cdI.enc)), (2, .v (.int .i64 x2)), (3, .v (.int .i64 x3)), (9, .sl 1 (v3.map cdI.enc)), (16, .v (.int .i64 x0)), (17, .sl 1 (v3.map cdI.enc)), (18, .v (.int .i64 x2)), (19, .v (.int .i64 v4)), (20, .v (.int .i64 x0)), (21, .sl 1 (x1.map cdI.enc)), (22, .v (.int .i64 x2)), (23, .v (.int .i64 v5)), (24, .v (.bool (v4 == v5))), (25, .v (.bool (v4 == v5)))], []⟩) (by kernel_rfl) ?_
      rcases Bool.eq_false_or_eq_true (v4 == v5) with hc12 | hc12
      · rw [if_pos hc12] at hj11
        rw [hc12]
        refine RunS.seg e_law09_EveningBounds_ok 3 (s1 := ⟨Fr 44 [(0, .v (.int .i64 x0)), (1, .sl 1 (x1.map cdI.enc)), (2, .v (.int .i64 x2)), (3, .v (.int .i64 x3)), (9, .sl 1 (v3.map cdI.enc)), (16, .v (.int .i64 x0)), (17, .sl 1 (v3.map cdI.enc)), (18, .v (.int .i64 x2)), (19, .v (.int .i64 v4)), (20, .v (.int .i64 x0)), (21, .sl 1 (x1.map cdI.enc)), (22, .v (.int .i64 x2)), (23, .v (.int .i64 v5)), (24, .v (.bool true)), (25, .v (.bool true)), (26, .v (.int .i64 x0)), (27, .sl 1 (v3.map cdI.enc)), (28, .v (.int .i64 x3))], []⟩) (by kernel_rfl) ?_
        obtain ⟨v6, hv6, hj11⟩ := Option.bind_eq_some_iff.1 hj11
        refine RunS.call e_law09_EveningBounds_ok (fid := 33) (s := cs_evening_MostEvenings) (F := fun a => evening_MostEvenings a.1 a.2.1 a.2.2.1) (er := er_evening_MostEvenings) (xs := [.v (.int .i64 x0), .sl 1 (v3.map cdI.enc), .v (.int .i64 x3)]) (a := (x0, v3, x3, ())) rfl (by kernel_rfl) (by kernel_rfl) (by kernel_rfl) (by kernel_rfl) (by kernel_rfl) (Sns.cons (Sn.enc (c := cdI) (v := x0)) (Sns.cons (Sn.enc (c := (cdL 1 cdI)) (v := v3)) (Sns.cons (Sn.enc (c := cdI) (v := x3)) Sns.nil))) (.inl (by kernel_rfl)) hv6 ?_
        refine RunS.seg e_law09_EveningBounds_ok 3 (s1 := ⟨Fr 44 [(0, .v (.int .i64 x0)), (1, .sl 1 (x1.map cdI.enc)), (2, .v (.int .i64 x2)), (3, .v (.int .i64 x3)), (9, .sl 1 (v3.map cdI.enc)), (16, .v (.int .i64 x0)), (17, .sl 1 (v3.map cdI.enc)), (18, .v (.int .i64 x2)), (19, .v (.int .i64 v4)), (20, .v (.int .i64 x0)), (21, .sl 1 (x1.map cdI.enc)), (22, .v (.int .i64 x2)), (23, .v (.int .i64 v5)), (24, .v (.bool true)), (25, .v (.bool true)), (26, .v (.int .i64 x0)), (27, .sl 1 (v3.map cdI.enc)), (28, .v (.int .i64 x3)), (29, .v (.int .i64 v6)), (30, .v (.int .i64 x0)), (31, .sl 1 (x1.map cdI.enc)), (32, .v (.int .i64 x3))], []⟩) (by kernel_rfl) ?_
        obtain ⟨v7, hv7, hj11⟩ := Option.bind_eq_some_iff.1 hj11
        refine RunS.call e_law09_EveningBounds_ok (fid := 34) (s := cs_ref09_MostEvenings) (F := fun a => ref09_MostEvenings a.1 a.2.1 a.2.2.1) (er := er_ref09_MostEvenings) (xs := [.v (.int .i64 x0), .sl 1 (x1.map cdI.enc), .v (.int .i64 x3)]) (a := (x0, x1, x3, ())) rfl (by kernel_rfl) (by kernel_rfl) (by kernel_rfl) (by kernel_rfl) (by kernel_rfl) (Sns.cons (Sn.enc (c := cdI) (v := x0)) (Sns.cons (Sn.enc (c := (cdL 1 cdI)) (v := x1)) (Sns.cons (Sn.enc (c := cdI) (v := x3)) Sns.nil))) (.inl (by kernel_rfl)) hv7 ?_
        refine RunS.seg e_law09_EveningBounds_ok 3 (s1 := ⟨Fr 44 [(0, .v (.int .i64 x0)), (1, .sl 1 (x1.map cdI.enc)), (2, .v (.int .i64 x2)), (3, .v (.int .i64 x3)), (9, .sl 1 (v3.map cdI.enc)), (16, .v (.int .i64 x0)), (17, .sl 1 (v3.map cdI.enc)), (18, .v (.int .i64 x2)), (19, .v (.int .i64 v4)), (20, .v (.int .i64 x0)), (21, .sl 1 (x1.map cdI.enc)), (22, .v (.int .i64 x2)), (23, .v (.int .i64 v5)), (24, .v (.bool true)), (25, .v (.bool true)), (26, .v (.int .i64 x0)), (27, .sl 1 (v3.map cdI.enc)), (28, .v (.int .i64 x3)), (29, .v (.int .i64 v6)), (30, .v (.int .i64 x0)), (31, .sl 1 (x1.map cdI.enc)), (32, .v (.int .i64 x3)), (33, .v (.int .i64 v7)), (34, .v (.bool (v6 == v7))), (35, .v (.bool (v6 == v7))), (36, .v (.bool (v6 == v7)))], []⟩) (by kernel_rfl) ?_
        rcases Bool.eq_false_or_eq_true (v6 == v7) with hc13 | hc13
        · rw [if_pos hc13] at hj11
          rw [hc13]
          refine RunS.seg e_law09_EveningBounds_ok 2 (s1 := ⟨Fr 44 [(0, .v (.int .i64 x0)), (1, .sl 1 (x1.map cdI.enc)), (2, .v (.int .i64 x2)), (3, .v (.int .i64 x3)), (9, .sl 1 (v3.map cdI.enc)), (16, .v (.int .i64 x0)), (17, .sl 1 (v3.map cdI.enc)), (18, .v (.int .i64 x2)), (19, .v (.int .i64 v4)), (20, .v (.int .i64 x0)), (21, .sl 1 (x1.map cdI.enc)), (22, .v (.int .i64 x2)), (23, .v (.int .i64 v5)), (24, .v (.bool true)), (25, .v (.bool true)), (26, .v (.int .i64 x0)), (27, .sl 1 (v3.map cdI.enc)), (28, .v (.int .i64 x3)), (29, .v (.int .i64 v6)), (30, .v (.int .i64 x0)), (31, .sl 1 (x1.map cdI.enc)), (32, .v (.int .i64 x3)), (33, .v (.int .i64 v7)), (34, .v (.bool true)), (35, .v (.bool true)), (36, .v (.bool true)), (37, .sl 1 (v3.map cdI.enc)), (38, .sl 1 (x1.map cdI.enc))], []⟩) (by kernel_rfl) ?_
          obtain ⟨v8, hv8, hj11⟩ := Option.bind_eq_some_iff.1 hj11
          refine RunS.call e_law09_EveningBounds_ok (fid := 30) (s := cs_slices_Equal_L_int) (F := fun a => slices_Equal_L_int a.1 a.2.1) (er := er_slices_Equal_L_int) (xs := [.sl 1 (v3.map cdI.enc), .sl 1 (x1.map cdI.enc)]) (a := (v3, x1, ())) rfl (by kernel_rfl) (by kernel_rfl) (by kernel_rfl) (by kernel_rfl) (by kernel_rfl) (Sns.cons (Sn.enc (c := (cdL 1 cdI)) (v := v3)) (Sns.cons (Sn.enc (c := (cdL 1 cdI)) (v := x1)) Sns.nil)) (.inl (by kernel_rfl)) hv8 ?_
          refine RunS.seg e_law09_EveningBounds_ok 2 (s1 := ⟨Fr 44 [(0, .v (.int .i64 x0)), (1, .sl 1 (x1.map cdI.enc)), (2, .v (.int .i64 x2)), (3, .v (.int .i64 x3)), (9, .sl 1 (v3.map cdI.enc)), (16, .v (.int .i64 x0)), (17, .sl 1 (v3.map cdI.enc)), (18, .v (.int .i64 x2)), (19, .v (.int .i64 v4)), (20, .v (.int .i64 x0)), (21, .sl 1 (x1.map cdI.enc)), (22, .v (.int .i64 x2)), (23, .v (.int .i64 v5)), (24, .v (.bool true)), (25, .v (.bool true)), (26, .v (.int .i64 x0)), (27, .sl 1 (v3.map cdI.enc)), (28, .v (.int .i64 x3)), (29, .v (.int .i64 v6)), (30, .v (.int .i64 x0)), (31, .sl 1 (x1.map cdI.enc)), (32, .v (.int .i64 x3)), (33, .v (.int .i64 v7)), (34, .v (.bool true)), (35, .v (.bool true)), (36, .v (.bool true)), (37, .sl 1 (v3.map cdI.enc)), (38, .sl 1 (x1.map cdI.enc)), (39, .v (.bool v8)), (40, .v (.bool v8)), (41, .v (.bool v8))], []⟩) (by kernel_rfl) ?_
          rcases Bool.eq_false_or_eq_true v8 with hc14 | hc14
          · rw [if_pos hc14] at hj11
            rw [hc14]
            obtain ⟨v9, hv9, hj11⟩ := Option.bind_eq_some_iff.1 hj11
            refine RunS.call e_law09_EveningBounds_ok (fid := 16) (s := cs_law09_awake) (F := fun a => law09_awake ) (er := er_law09_awake) (xs := []) (a := (())) rfl (by kernel_rfl) (by kernel_rfl) (by kernel_rfl) (by kernel_rfl) (by kernel_rfl) Sns.nil (.inl (by kernel_rfl)) hv9 ?_
            refine RunS.seg e_law09_EveningBounds_ok 2 (s1 := ⟨Fr 44 [(0, .v (.int .i64 x0)), (1, .sl 1 (x1.map cdI.enc)), (2, .v (.int .i64 x2)), (3, .v (.int .i64 x3)), (8, .v (.bool v9)), (9, .sl 1 (v3.map cdI.enc)), (16, .v (.int .i64 x0)), (17, .sl 1 (v3.map cdI.enc)), (18, .v (.int .i64 x2)), (19, .v (.int .i64 v4)), (20, .v (.int .i64 x0)), (21, .sl 1 (x1.map cdI.enc)), (22, .v (.int .i64 x2)), (23, .v (.int .i64 v5)), (24, .v (.bool true)), (25, .v (.bool true)), (26, .v (.int .i64 x0)), (27, .sl 1 (v3.map cdI.enc)), (28, .v (.int .i64 x3)), (29, .v (.int .i64 v6)), (30, .v (.int .i64 x0)), (31, .sl 1 (x1.map cdI.enc)), (32, .v (.int .i64 x3)), (33, .v (.int .i64 v7)), (34, .v (.bool true)), (35, .v (.bool true)), (36, .v (.bool true)), (37, .sl 1 (v3.map cdI.enc)), (38, .sl 1 (x1.map cdI.enc)), (39, .v (.bool true)), (40, .v (.bool true)), (41, .v (.bool true)), (42, .v (.bool v9)), (43, .v (.bool v9))], []⟩) (by kernel_rfl) ?_
            have hq := Option.some.inj hj11; subst hq
            exact RunS.done rfl (Wk.fr (by kernel_rfl))
          · rw [if_f hc14] at hj11
            rw [hc14]
            refine RunS.seg e_law09_EveningBounds_ok 3 (s1 := ⟨Fr 44 [(0, .v (.int .i64 x0)), (1, .sl 1 (x1.map cdI.enc)), (2, .v (.int .i64 x2)), (3, .v (.int .i64 x3)), (8, .v (.bool false)), (9, .sl 1 (v3.map cdI.enc)), (16, .v (.int .i64 x0)), (17, .sl 1 (v3.map cdI.enc)), (18, .v (.int .i64 x2)), (19, .v (.int .i64 v4)), (20, .v (.int .i64 x0)), (21, .sl 1 (x1.map cdI.enc)), (22, .v (.int .i64 x2)), (23, .v (.int .i64 v5)), (24, .v (.bool true)), (25, .v (.bool true)), (26, .v (.int .i64 x0)), (27, .sl 1 (v3.map cdI.enc)), (28, .v (.int .i64 x3)), (29, .v (.int .i64 v6)), (30, .v (.int .i64 x0)), (31, .sl 1 (x1.map cdI.enc)), (32, .v (.int .i64 x3)), (33, .v (.int .i64 v7)), (34, .v (.bool true)), (35, .v (.bool true)), (36, .v (.bool true)), (37, .sl 1 (v3.map cdI.enc)), (38, .sl 1 (x1.map cdI.enc)), (39, .v (.bool false)), (40, .v (.bool false)), (41, .v (.bool false)), (42, .tp []), (43, .v (.bool false))], []⟩) (by kernel_rfl) ?_
            have hq := Option.some.inj hj11; subst hq
            exact RunS.done rfl (Wk.fr (by kernel_rfl))
        · rw [if_f hc13] at hj11
          rw [hc13]
          refine RunS.seg e_law09_EveningBounds_ok 8 (s1 := ⟨Fr 44 [(0, .v (.int .i64 x0)), (1, .sl 1 (x1.map cdI.enc)), (2, .v (.int .i64 x2)), (3, .v (.int .i64 x3)), (8, .v (.bool false)), (9, .sl 1 (v3.map cdI.enc)), (16, .v (.int .i64 x0)), (17, .sl 1 (v3.map cdI.enc)), (18, .v (.int .i64 x2)), (19, .v (.int .i64 v4)), (20, .v (.int .i64 x0)), (21, .sl 1 (x1.map cdI.enc)), (22, .v (.int .i64 x2)), (23, .v (.int .i64 v5)), (24, .v (.bool true)), (25, .v (.bool true)), (26, .v (.int .i64 x0)), (27, .sl 1 (v3.map cdI.enc)), (28, .v (.int .i64 x3)), (29, .v (.int .i64 v6)), (30, .v (.int .i64 x0)), (31, .sl 1 (x1.map cdI.enc)), (32, .v (.int .i64 x3)), (33, .v (.int .i64 v7)), (34, .v (.bool false)), (35, .v (.bool false)), (36, .v (.bool false)), (37, .tp []), (38, .tp []), (39, .tp []), (40, .v (.bool false)), (41, .v (.bool false)), (42, .tp []), (43, .v (.bool false))], []⟩) (by kernel_rfl) ?_
          have hq := Option.some.inj hj11; subst hq
          exact RunS.done rfl (Wk.fr (by kernel_rfl))
      · rw [if_f hc12] at hj11
        rw [hc12]
        refine RunS.seg e_law09_EveningBounds_ok 19 (s1 := ⟨Fr 44 [(0, .v (.int .i64 x0)), (1, .sl 1 (x1.map cdI.enc)), (2, .v (.int .i64 x2)), (3, .v (.int .i64 x3)), (8, .v (.bool false)), (9, .sl 1 (v3.map cdI.enc)), (16, .v (.int .i64 x0)), (17, .sl 1 (v3.map cdI.enc)), (18, .v (.int .i64 x2)), (19, .v (.int .i64 v4)), (20, .v (.int .i64 x0)), (21, .sl 1 (x1.map cdI.enc)), (22, .v (.int .i64 x2)), (23, .v (.int .i64 v5)), (24, .v (.bool false)), (25, .v (.bool false)), (26, .tp []), (27, .tp []), (28, .tp []), (29, .tp []), (30, .tp []), (31, .tp []), (32, .tp []), (33, .tp []), (34, .tp []), (35, .v (.bool false)), (36, .v (.bool false)), (37, .tp []), (38, .tp []), (39, .tp []), (40, .v (.bool false)), (41, .v (.bool false)), (42, .tp []), (43, .v (.bool false))], []⟩) (by kernel_rfl) ?_
        have hq := Option.some.inj hj11; subst hq
        exact RunS.done rfl (Wk.fr (by kernel_rfl))
    refine Sem.ret ?_
    have hq := Option.some.inj h; subst hq
    exact ⟨⟨Fr 44 [(8, .v (.bool j11))], []⟩, (Wk.fr (by kernel_rfl)), .inr rfl, [.v (.bool j11)], (by kernel_rfl), (by kernel_rfl)⟩
def t_law09_EveningBounds : List AV → Option AV := told cs_law09_EveningBounds (fun a => law09_EveningBounds a.1 a.2.1 a.2.2.1 a.2.2.2.1) er_law09_EveningBounds
theorem x_law09_EveningBounds : XOk 7 t_law09_EveningBounds := by
  refine EnvOk.x (E := e_law09_EveningBounds) (contract_ok e_law09_EveningBounds_ok (fn := Tryd.f7) (c := cb_law09_EveningBounds) ?h1 ?h2 ⟨Tryd.call7⟩ cs_law09_EveningBounds (fun a => law09_EveningBounds a.1 a.2.1 a.2.2.1 a.2.2.2.1) er_law09_EveningBounds (fun a => (by show 4 ≤ 44; decide)) ?h3 ?h4) rfl rfl
  case h1 => kernel_rfl
  case h2 => kernel_rfl
  case h3 => intro b; kernel_rfl
  case h4 => exact fun a b h => law09_EveningBounds_sem a.1 a.2.1 a.2.2.1 a.2.2.2.1 b h
end Go.Proofs.YthofgamegondnaaDoor

namespace Go.Proofs.YthofgamegondnaaDoor
open Go.RowKit
def sumL : List Int → Int
  | [] => 0
  | v :: r => v + sumL r
/-- Do sizes fit? -/
def fitP (n : Int) (xs : List Int) : Bool := xs.all (fun v => decide (1 ≤ v)) && decide (sumL xs = n) && decide (1 ≤ n) && decide (n ≤ 64)
def fitL : Int → List Int → Int ⊕ Bool
  | c, [] => .inl c
  | c, v :: r => if v < 1 ∨ v > c then .inr false else fitL (c - v) r
theorem fit_1 (n : Int) (xs : List Int) (hxs : xs.length ≤ 1000) : ∀ (r pre : List Int) (c : Int) (f : Nat), xs = pre ++ r → r.length < f → -9223372036854775808 ≤ c → c ≤ 9223372036854775807 → evening_fit_1 n xs f c pre.length = some (fitL c r)
  | [], pre, c, f + 1, h, _, _, _ => by
    subst h
    unfold evening_fit_1
    rw [nlt_len]
    rfl
  | v :: r, pre, c, f + 1, h, hf, h1, h2 => by
    subst h
    unfold evening_fit_1
    rw [if_pos (lt_len pre v r), idx_app]
    simp only [Option.bind_some]
    rw [wr_snoc pre v r (by omega)]
    unfold fitL
    by_cases ha : v < 1
    · simp [ha]
    · by_cases hb : v > c
      · simp [ha, hb]
      · simp only [ha, hb, decide_false, Bool.false_eq_true, if_false, Option.bind_some, false_or]
        rw [wr_i (by omega) (by omega)]
        rw [snoc_app]
        exact fit_1 n _ (by rw [← snoc_app]; exact hxs) r (pre ++ [v]) (c - v) f rfl (by simp at hf; omega) (by omega) (by omega)
theorem fitL_eq : ∀ (xs : List Int) (c : Int), (∃ d, fitL c xs = .inl d ∧ d = c - sumL xs ∧ (xs.all fun v => decide (1 ≤ v)) = true ∧ (0 ≤ c → 0 ≤ d)) ∨ (fitL c xs = .inr false ∧ ((xs.all fun v => decide (1 ≤ v)) = true → c < sumL xs))
  | [], c => .inl ⟨c, rfl, by simp [sumL], rfl, fun h => h⟩
  | v :: r, c => by
    unfold fitL
    by_cases hv : v < 1 ∨ v > c
    · rw [if_pos hv]
      refine .inr ⟨rfl, fun h => ?_⟩
      simp only [List.all_cons, Bool.and_eq_true, decide_eq_true_eq] at h
      have : ∀ (l : List Int), (l.all fun v => decide (1 ≤ v)) = true → 0 ≤ sumL l := by
        intro l
        induction l with
        | nil => intro _; simp [sumL]
        | cons a l ih => intro h; simp only [List.all_cons, Bool.and_eq_true, decide_eq_true_eq] at h; have := ih h.2; simp only [sumL]; omega
      have := this r h.2
      simp only [sumL]
      omega
    · rw [if_neg hv]
      rcases fitL_eq r (c - v) with ⟨d, h1, h2, h3, h4⟩ | ⟨h1, h2⟩
      · refine .inl ⟨d, h1, by simp only [sumL]; omega, ?_, fun h => h4 (by omega)⟩
        simp only [List.all_cons, Bool.and_eq_true, decide_eq_true_eq]
        exact ⟨by omega, h3⟩
      · refine .inr ⟨h1, fun h => ?_⟩
        simp only [List.all_cons, Bool.and_eq_true, decide_eq_true_eq] at h
        have := h2 h.2
        simp only [sumL]
        omega
theorem evening_fit_eq (n : Int) (hn : in64 n) (xs : List Int) (hxs : xs.length ≤ 1000) : evening_fit n xs = some (fitP n xs) := by
  unfold evening_fit
  rw [show (0 : Int) = (([] : List Int).length : Int) from rfl, fit_1 n xs hxs xs [] n 100000 rfl (by omega) hn.1 hn.2]
  simp only [Option.bind_some]
  rcases fitL_eq xs n with ⟨d, h1, h2, h3, h4⟩ | ⟨h1, h2⟩
  · rw [h1]
    simp only [evening_guests, Option.bind_some]
    unfold fitP
    rw [h3]
    by_cases ha : 1 ≤ n
    · by_cases hb : n ≤ 64
      · have : (d == 0) = decide (sumL xs = n) := by
          by_cases hd : d = 0
          · rw [hd]; simp; omega
          · have : ¬ sumL xs = n := by omega
            simp [this, hd]
        simp [ha, hb, this]
      · simp [ha, hb]
    · simp [ha]
  · rw [h1]
    simp only [Option.bind_some]
    unfold fitP
    cases hall : xs.all (fun v => decide (1 ≤ v)) with
    | false => simp
    | true => have := h2 hall; have : ¬ sumL xs = n := by omega
              simp [this]

def fitR : Int → List Int → Int ⊕ Bool
  | c, [] => .inl c
  | c, v :: r => if v < 1 ∨ v > 64 ∨ c > 64 then .inr false else fitR (c + v) r
theorem Fit_1 (n : Int) (xs : List Int) (hxs : xs.length ≤ 1000) : ∀ (r pre : List Int) (c : Int) (f : Nat), xs = pre ++ r → r.length < f → 0 ≤ c → ref09_Fit_1 n xs f c pre.length = some (fitR c r)
  | [], pre, c, f + 1, h, _, _ => by
    subst h
    unfold ref09_Fit_1
    rw [nlt_len]
    rfl
  | v :: r, pre, c, f + 1, h, hf, h1 => by
    subst h
    unfold ref09_Fit_1
    rw [if_pos (lt_len pre v r), idx_app]
    simp only [Option.bind_some]
    rw [wr_snoc pre v r (by omega)]
    unfold fitR
    by_cases ha : v < 1
    · simp [ha]
    · by_cases hb : v > 64
      · simp [ha, hb]
      · by_cases hc : c > 64
        · simp [ha, hb, hc]
        · simp only [ha, hb, hc, decide_false, Bool.false_eq_true, if_false, Option.bind_some, false_or]
          rw [wr_i (by omega) (by omega)]
          rw [snoc_app]
          exact Fit_1 n _ (by rw [← snoc_app]; exact hxs) r (pre ++ [v]) (c + v) f rfl (by simp at hf; omega) (by omega)
theorem sum_nn : ∀ (l : List Int), (l.all fun v => decide (1 ≤ v)) = true → 0 ≤ sumL l
  | [], _ => by simp [sumL]
  | a :: l, h => by
    simp only [List.all_cons, Bool.and_eq_true, decide_eq_true_eq] at h
    have := sum_nn l h.2
    simp only [sumL]; omega
theorem fitR_eq : ∀ (xs : List Int) (c : Int), 0 ≤ c → (∃ d, fitR c xs = .inl d ∧ d = c + sumL xs ∧ (xs.all fun v => decide (1 ≤ v)) = true) ∨ (fitR c xs = .inr false ∧ ((xs.all fun v => decide (1 ≤ v)) = true → 64 < c + sumL xs))
  | [], c, _ => .inl ⟨c, rfl, by simp [sumL], rfl⟩
  | v :: r, c, h0 => by
    unfold fitR
    by_cases hv : v < 1 ∨ v > 64 ∨ c > 64
    · rw [if_pos hv]
      refine .inr ⟨rfl, fun h => ?_⟩
      simp only [List.all_cons, Bool.and_eq_true, decide_eq_true_eq] at h
      have := sum_nn r h.2
      simp only [sumL]
      omega
    · rw [if_neg hv]
      rcases fitR_eq r (c + v) (by omega) with ⟨d, h1, h2, h3⟩ | ⟨h1, h2⟩
      · refine .inl ⟨d, h1, by simp only [sumL]; omega, ?_⟩
        simp only [List.all_cons, Bool.and_eq_true, decide_eq_true_eq]
        exact ⟨by omega, h3⟩
      · refine .inr ⟨h1, fun h => ?_⟩
        simp only [List.all_cons, Bool.and_eq_true, decide_eq_true_eq] at h
        have := h2 h.2
        simp only [sumL]
        omega
theorem ref09_Fit_eq (n : Int) (xs : List Int) (hxs : xs.length ≤ 1000) : ref09_Fit n xs = some (fitP n xs) := by
  unfold ref09_Fit
  have e0 := Fit_1 n xs hxs xs [] 0 100000 rfl (by omega) (by omega)
  rw [show ((([] : List Int).length : Nat) : Int) = 0 from rfl] at e0
  rw [e0]
  simp only [Option.bind_some]
  rcases fitR_eq xs 0 (by omega) with ⟨d, h1, h2, h3⟩ | ⟨h1, h2⟩
  · rw [h1]
    unfold fitP
    rw [h3]
    by_cases ha : 1 ≤ n
    · by_cases hb : n ≤ 64
      · have : (d == n) = decide (sumL xs = n) := by
          by_cases hd : d = n
          · rw [hd]; simp; omega
          · have : ¬ sumL xs = n := by omega
            simp [this, hd]
        simp [ha, hb, this]
      · simp [ha, hb]
    · simp [ha]
  · rw [h1]
    unfold fitP
    cases hall : xs.all (fun v => decide (1 ≤ v)) with
    | false => simp
    | true =>
      have := h2 hall
      by_cases hs : sumL xs = n
      · have : ¬ n ≤ 64 := by omega
        simp [hs, this]
      · simp [hs]

/-- How many pairs sit at a table. -/
def tri (v : Int) : Int := v * (v - 1) / 2
theorem tri2 (v : Int) : 2 * tri v = v * (v - 1) := by
  have : v * (v - 1) % 2 = 0 := by
    rcases (by omega : v % 2 = 0 ∨ v % 2 = 1) with h | h
    · rw [Int.mul_emod, h]; simp
    · have : (v - 1) % 2 = 0 := by omega
      rw [Int.mul_emod, this]; simp
  unfold tri
  omega
theorem tri_nn {v : Int} (h : 1 ≤ v) : 0 ≤ tri v := by
  have h1 := tri2 v
  have : 0 ≤ v * (v - 1) := Int.mul_nonneg (by omega) (by omega)
  omega
theorem tri_le {v : Int} (h : 1 ≤ v) (h2 : v ≤ 64) : tri v ≤ 2016 := by
  have h1 := tri2 v
  have h3 : v * (v - 1) ≤ 64 * 63 := Int.mul_le_mul h2 (by omega) (by omega) (by omega)
  omega
def metP : List Int → Int
  | [] => 0
  | v :: r => tri v + metP r
def okS (xs : List Int) : Prop := ∀ v ∈ xs, 1 ≤ v ∧ v ≤ 64
theorem met_1 (xs : List Int) (hxs : xs.length ≤ 1000) (hok : okS xs) : ∀ (r pre : List Int) (c : Int) (f : Nat), xs = pre ++ r → r.length < f → 0 ≤ c → c ≤ 2016 * (pre.length : Int) → evening_met_1 xs f c pre.length = some (c + metP r)
  | [], pre, c, f + 1, h, _, _, _ => by
    subst h
    unfold evening_met_1
    rw [nlt_len]
    simp [metP]
  | v :: r, pre, c, f + 1, h, hf, h1, h2 => by
    subst h
    unfold evening_met_1
    rw [if_pos (lt_len pre v r), idx_app]
    simp only [Option.bind_some]
    rw [wr_snoc pre v r (by omega)]
    obtain ⟨hv1, hv2⟩ := hok v (by simp)
    have ht := tri2 v
    have ht1 := tri_nn hv1
    have ht2 := tri_le hv1 hv2
    rw [wr_i (n := v - 1) (by omega) (by omega), wr_i (n := v * (v - 1)) (by omega) (by omega), tdiv2 _ (by omega), show v * (v - 1) / 2 = tri v from rfl, wr_i (n := tri v) (by omega) (by omega)]
    simp at hxs
    rw [wr_i (n := c + tri v) (by omega) (by omega), snoc_app, met_1 _ (by simp; omega) (by rw [← snoc_app]; exact hok) r (pre ++ [v]) (c + tri v) f rfl (by simp at hf; omega) (by omega) (by simp; omega)]
    simp only [metP]
    rw [Int.add_assoc]
theorem evening_met_eq (xs : List Int) (hxs : xs.length ≤ 1000) (hok : okS xs) : evening_met xs = some (metP xs) := by
  unfold evening_met
  have := met_1 xs hxs hok xs [] 0 100000 rfl (by omega) (by omega) (by simp)
  rw [show ((([] : List Int).length : Nat) : Int) = 0 from rfl, Int.zero_add] at this
  rw [this]
  rfl
theorem rmet_2 (xs : List Int) (i v : Int) (hv : idx xs i = some v) (hv2 : v ≤ 64) (M : Int) (hM : M ≤ 10000000) : ∀ (k : Nat) (c j : Int) (f : Nat), (k : Int) = v - j → k < f → 1 ≤ j → 0 ≤ c → c ≤ M - 64 * (k : Int) → ∃ q, ref09_met_2 xs i f c j = some q ∧ 2 * q = 2 * c + v * (v - 1) - j * (j - 1)
  | 0, c, j, f + 1, hk, _, _, _, _ => by
    have : j = v := by omega
    subst this
    refine ⟨c, ?_, by omega⟩
    unfold ref09_met_2
    rw [hv]
    simp
  | k + 1, c, j, f + 1, hk, hf, hj, hc, hc2 => by
    have hlt : j < v := by omega
    obtain ⟨q, h1, h2⟩ := rmet_2 xs i v hv hv2 M hM k (c + j) (j + 1) f (by omega) (by omega) (by omega) (by omega) (by omega)
    refine ⟨q, ?_, ?_⟩
    · unfold ref09_met_2
      rw [hv]
      simp only [Option.bind_some]
      rw [if_pos (by simpa using hlt), wr_i (by omega) (by omega), wr_i (by omega) (by omega)]
      exact h1
    · have e1 : (j + 1) * (j + 1 - 1) = j * (j - 1) + 2 * j := by
        rw [show j + 1 - 1 = j by omega, Int.mul_sub, Int.add_mul]; omega
      rw [h2, e1]; omega
theorem rmet_1 (xs : List Int) (hxs : xs.length ≤ 1000) (hok : okS xs) : ∀ (r pre : List Int) (c : Int) (f : Nat), xs = pre ++ r → r.length < f → 0 ≤ c → c ≤ 2016 * (pre.length : Int) → ref09_met_1 xs f c pre.length = some (c + metP r)
  | [], pre, c, f + 1, h, _, _, _ => by
    subst h
    unfold ref09_met_1
    rw [nlt_len]
    simp [metP]
  | v :: r, pre, c, f + 1, h, hf, h1, h2 => by
    subst h
    unfold ref09_met_1
    rw [if_pos (lt_len pre v r)]
    obtain ⟨hv1, hv2⟩ := hok v (by simp)
    have ht := tri2 v
    have ht1 := tri_nn hv1
    have ht2 := tri_le hv1 hv2
    have hl : (pre ++ v :: r).length = pre.length + (r.length + 1) := by simp
    rw [hl] at hxs
    obtain ⟨q, q1, q2⟩ := rmet_2 (pre ++ v :: r) pre.length v (idx_app pre v r) hv2 10000000 (by omega) (v - 1).toNat c 1 100000 (by omega) (by omega) (by omega) h1 (by omega)
    have hq : q = c + tri v := by omega
    rw [q1, hq]
    simp only [Option.bind_some]
    rw [wr_snoc pre v r (by omega), snoc_app, rmet_1 _ (by simp; omega) (by rw [← snoc_app]; exact hok) r (pre ++ [v]) (c + tri v) f rfl (by simp at hf; omega) (by omega) (by simp; omega)]
    simp only [metP]
    rw [Int.add_assoc]
theorem ref09_met_eq (xs : List Int) (hxs : xs.length ≤ 1000) (hok : okS xs) : ref09_met xs = some (metP xs) := by
  unfold ref09_met
  have := rmet_1 xs hxs hok xs [] 0 100000 rfl (by omega) (by omega) (by simp)
  rw [show ((([] : List Int).length : Nat) : Int) = 0 from rfl, Int.zero_add] at this
  rw [this]
  rfl
theorem fitP_inv {n : Int} {xs : List Int} (h : fitP n xs = true) : okS xs ∧ sumL xs = n ∧ 1 ≤ n ∧ n ≤ 64 := by
  simp only [fitP, Bool.and_eq_true, decide_eq_true_eq] at h
  obtain ⟨⟨⟨h1, h2⟩, h3⟩, h4⟩ := h
  refine ⟨?_, h2, h3, h4⟩
  have : ∀ (l : List Int), (l.all fun v => decide (1 ≤ v)) = true → ∀ v ∈ l, 1 ≤ v ∧ v ≤ sumL l := by
    intro l
    induction l with
    | nil => intro _ v hv; cases hv
    | cons a l ih =>
      intro h v hv
      have hn := sum_nn l (by simp only [List.all_cons, Bool.and_eq_true] at h; exact h.2)
      simp only [List.all_cons, Bool.and_eq_true, decide_eq_true_eq] at h
      rcases List.mem_cons.1 hv with rfl | hv
      · simp only [sumL]; omega
      · have := ih h.2 v hv; simp only [sumL]; omega
  intro v hv
  have := this xs h1 v hv
  omega
theorem metP_nn : ∀ {xs : List Int}, okS xs → 0 ≤ metP xs
  | [], _ => by simp [metP]
  | v :: r, h => by
    have h1 := tri_nn (h v (by simp)).1
    have h2 := metP_nn (xs := r) fun v hv => h v (by simp [hv])
    simp only [metP]; omega
theorem metP_le : ∀ {xs : List Int}, okS xs → metP xs ≤ tri (sumL xs) ∧ 0 ≤ sumL xs
  | [], _ => by simp [metP, sumL, tri]
  | v :: r, h => by
    obtain ⟨h1, h2⟩ := metP_le (xs := r) fun v hv => h v (by simp [hv])
    have hv := (h v (by simp)).1
    simp only [metP, sumL]
    have a1 := tri2 v
    have a2 := tri2 (sumL r)
    have a3 := tri2 (v + sumL r)
    have a4 : 0 ≤ v * sumL r := Int.mul_nonneg (by omega) h2
    have e : (v + sumL r) * (v + sumL r - 1) = v * (v - 1) + sumL r * (sumL r - 1) + 2 * (v * sumL r) := by
      rw [Int.mul_sub, Int.mul_sub, Int.mul_sub, Int.mul_add, Int.add_mul, Int.add_mul, Int.mul_comm (sumL r) v]
      omega
    omega
/-- The reference's search of the least number. -/
theorem lm_1 (n e A T p : Int) (hT : ref09_met [n] = some T) (h0 : 0 ≤ p) (hp64 : p ≤ 64) (hT0 : 0 ≤ T) (hT1 : T ≤ 2016) (v : Int) (hA : wr .i64 ((mnI e 64) * v) = A) (hlo : ∀ c, 0 ≤ c → c < p → c * T < A) (hhi : A ≤ p * T) : ∀ (k : Nat) (c : Int) (f : Nat), (k : Int) = p - c → k < f → 0 ≤ c → ref09_LeastMost_1 n e v f c = some p
  | 0, c, f + 1, hk, _, hc => by
    have : c = p := by omega
    subst this
    unfold ref09_LeastMost_1
    rw [hT]
    simp only [Option.bind_some]
    have h1 : c * T ≤ 64 * 2016 := Int.mul_le_mul hp64 hT1 hT0 (by omega)
    have h2 : 0 ≤ c * T := Int.mul_nonneg hc hT0
    rw [hA, wr_i (by omega) (by omega), if_neg (by simp; omega)]
  | k + 1, c, f + 1, hk, hf, hc => by
    unfold ref09_LeastMost_1
    rw [hT]
    simp only [Option.bind_some]
    have h1 : c * T ≤ 64 * 2016 := Int.mul_le_mul (by omega) hT1 hT0 (by omega)
    have h2 : 0 ≤ c * T := Int.mul_nonneg hc hT0
    have h3 := hlo c hc (by omega)
    rw [hA, wr_i (by omega) (by omega), if_pos (by simpa using h3), wr_i (by omega) (by omega)]
    exact lm_1 n e A T p hT h0 hp64 hT0 hT1 v hA hlo hhi k (c + 1) f (by omega) (by omega) (by omega)
theorem mn_le (a b : Int) : mnI a b ≤ a ∧ mnI a b ≤ b ∧ (mnI a b = a ∨ mnI a b = b) := by
  unfold mnI; split <;> omega
theorem leastMost_agree (n : Int) (hn : in64 n) (xs : List Int) (hxs : xs.length ≤ 1000) (e : Int) : ∃ r, evening_LeastMost n xs e = some r ∧ ref09_LeastMost n xs e = some r := by
  unfold evening_LeastMost ref09_LeastMost
  rw [evening_fit_eq n hn xs hxs, ref09_Fit_eq n xs hxs]
  simp only [Option.bind_some]
  cases hf : fitP n xs with
  | false => exact ⟨0, by simp, by simp⟩
  | true =>
    obtain ⟨hok, hs, hn1, hn2⟩ := fitP_inv hf
    by_cases he : e < 1
    · exact ⟨0, by simp [he], by simp [he]⟩
    · rw [evening_met_eq xs hxs hok, ref09_met_eq xs hxs hok]
      simp only [Bool.not_true, Bool.false_eq_true, if_false, he, decide_false, Option.bind_some]
      have hm0 := metP_nn hok
      have hmt := (metP_le hok).1
      rw [hs] at hmt
      have ht := tri2 n
      have ht0 := tri_nn hn1
      have ht1 := tri_le hn1 hn2
      have hT : ref09_met [n] = some (tri n) := by
        rw [ref09_met_eq [n] (by simp) (by intro v hv; simp at hv; omega)]
        simp [metP]
      have hmn := mn_le e 64
      have hmn0 : 1 ≤ mnI e 64 := by omega
      have hA0 : 0 ≤ mnI e 64 * metP xs := Int.mul_nonneg (by omega) hm0
      have hA1 : mnI e 64 * metP xs ≤ 64 * tri n := Int.mul_le_mul hmn.2.1 hmt hm0 (by omega)
      have hA : wr .i64 (mnI e 64 * metP xs) = mnI e 64 * metP xs := wr_i (by omega) (by omega)
      by_cases hz : metP xs = 0
      · refine ⟨0, by simp [hz], ?_⟩
        rw [lm_1 n e _ (tri n) 0 hT (by omega) (by omega) ht0 ht1 (metP xs) hA (fun c h1 h2 => by omega) (by rw [hz]; simp) 0 0 100000 (by simp) (by omega) (by omega)]
        rfl
      · have hz' : (metP xs == 0) = false := by simpa using hz
        have hTp : 1 ≤ tri n := by omega
        generalize hAd : mnI e 64 * metP xs = A at *
        generalize hTd : tri n = T at *
        have hAp : 1 ≤ A := by
          have : 1 * 1 ≤ mnI e 64 * metP xs := Int.mul_le_mul hmn0 (by omega) (by omega) (by omega)
          omega
        have d1 := Int.mul_ediv_add_emod (A + T - 1) T
        have d2 := Int.emod_nonneg (A + T - 1) (show T ≠ 0 by omega)
        have d3 := Int.emod_lt_of_pos (A + T - 1) (show 0 < T by omega)
        generalize hpd : (A + T - 1) / T = p at d1
        generalize hrd : (A + T - 1) % T = q at d1 d2 d3
        have hTp1 : T * p = p * T := Int.mul_comm T p
        have hp0 : 0 ≤ p := by rw [← hpd]; exact Int.ediv_nonneg (by omega) (by omega)
        have hp64 : p ≤ 64 := by
          rw [← hpd]
          have : (A + T - 1) / T < 65 := Int.ediv_lt_of_lt_mul (by omega) (by omega)
          omega
        refine ⟨p, ?_, ?_⟩
        · simp only [hz', Bool.false_eq_true, if_false]
          have w1 : wr .i64 (n * wr .i64 (n - 1)) = n * (n - 1) := by
            rw [wr_i (n := n - 1) (by omega) (by omega), wr_i (by omega) (by omega)]
          have w2 : wr .i64 ((n * (n - 1)).tdiv 2) = T := by
            rw [tdiv2 _ (by omega), show n * (n - 1) / 2 = tri n from rfl, hTd, wr_i (by omega) (by omega)]
          rw [w1, w2, hA, if_neg (by omega), wr_i (n := A + T) (by omega) (by omega), wr_i (n := A + T - 1) (by omega) (by omega), Int.tdiv_eq_ediv_of_nonneg (by omega), hpd, wr_i (by omega) (by omega)]
        · rw [lm_1 n e A T p hT hp0 hp64 (by omega) (by omega) (metP xs) (by rw [hAd]; exact hA) (fun c h1 h2 => ?_) (by omega) p.toNat 0 100000 (by omega) (by omega) (by omega)]
          · rfl
          · have : c * T ≤ (p - 1) * T := Int.mul_le_mul_of_nonneg_right (by omega) (by omega)
            rw [Int.sub_mul] at this
            omega
theorem me_1 (n o B T : Int) (xs : List Int) (m : Int) (p : Int) (hm : ref09_met xs = some m) (hT : ref09_met [n] = some T) (hB : wr .i64 ((mnI o 64) * T) = B) (hm0 : 0 ≤ m) (hm1 : m ≤ 2016) (hp0 : 0 ≤ p) (hp : p ≤ 64) (hlo : ∀ c, 0 ≤ c → c < p → (c + 1) * m ≤ B) (hhi : p = 64 ∨ B < (p + 1) * m) : ∀ (k : Nat) (c : Int) (f : Nat), (k : Int) = p - c → k < f → 0 ≤ c → ref09_MostEvenings_1 n xs o f c = some p
  | 0, c, f + 1, hk, _, hc => by
    have : c = p := by omega
    subst this
    unfold ref09_MostEvenings_1
    rw [hm, hT]
    simp only [Option.bind_some]
    by_cases h64 : c < 64
    · have h1 : (c + 1) * m ≤ 64 * 2016 := Int.mul_le_mul (by omega) hm1 hm0 (by omega)
      have h2 : 0 ≤ (c + 1) * m := Int.mul_nonneg (by omega) hm0
      rw [if_pos (by simpa using h64), hB, wr_i (n := c + 1) (by omega) (by omega), wr_i (by omega) (by omega)]
      simp only [Option.bind_some]
      rw [if_neg (by simp; omega)]
    · rw [if_neg (by simpa using h64)]
      simp
  | k + 1, c, f + 1, hk, hf, hc => by
    unfold ref09_MostEvenings_1
    rw [hm, hT]
    simp only [Option.bind_some]
    have h1 : (c + 1) * m ≤ 64 * 2016 := Int.mul_le_mul (by omega) hm1 hm0 (by omega)
    have h2 : 0 ≤ (c + 1) * m := Int.mul_nonneg (by omega) hm0
    have h3 := hlo c hc (by omega)
    rw [if_pos (by simp; omega), hB, wr_i (n := c + 1) (by omega) (by omega), wr_i (n := (c + 1) * m) (by omega) (by omega)]
    simp only [Option.bind_some]
    rw [if_pos (by simpa using h3)]
    exact me_1 n o B T xs m p hm hT hB hm0 hm1 hp0 hp hlo hhi k (c + 1) f (by omega) (by omega) (by omega)
theorem mostEvenings_agree (n : Int) (hn : in64 n) (xs : List Int) (hxs : xs.length ≤ 1000) (o : Int) : ∃ r, evening_MostEvenings n xs o = some r ∧ ref09_MostEvenings n xs o = some r := by
  unfold evening_MostEvenings ref09_MostEvenings
  rw [evening_fit_eq n hn xs hxs, ref09_Fit_eq n xs hxs]
  simp only [Option.bind_some]
  cases hf : fitP n xs with
  | false => exact ⟨0, by simp, by simp⟩
  | true =>
    obtain ⟨hok, hs, hn1, hn2⟩ := fitP_inv hf
    by_cases he : o < 0
    · exact ⟨0, by simp [he], by simp [he]⟩
    · rw [evening_met_eq xs hxs hok]
      simp only [Bool.not_true, Bool.false_eq_true, if_false, he, decide_false, Option.bind_some]
      have hm0 := metP_nn hok
      have hmt := (metP_le hok).1
      rw [hs] at hmt
      have ht := tri2 n
      have ht0 := tri_nn hn1
      have ht1 := tri_le hn1 hn2
      have hm := ref09_met_eq xs hxs hok
      have hT : ref09_met [n] = some (tri n) := by
        rw [ref09_met_eq [n] (by simp) (by intro v hv; simp at hv; omega)]
        simp [metP]
      have hmn := mn_le o 64
      have hmn0 : 0 ≤ mnI o 64 := by omega
      have hB0 : 0 ≤ mnI o 64 * tri n := Int.mul_nonneg hmn0 ht0
      have hB1 : mnI o 64 * tri n ≤ 64 * tri n := Int.mul_le_mul hmn.2.1 (by omega) ht0 (by omega)
      have hB : wr .i64 (mnI o 64 * tri n) = mnI o 64 * tri n := wr_i (by omega) (by omega)
      by_cases hz : metP xs = 0
      · refine ⟨64, by simp [hz], ?_⟩
        rw [me_1 n o _ (tri n) xs 0 64 (by rw [hm, hz]) hT hB (by omega) (by omega) (by omega) (by omega) (fun c _ _ => by simpa using hB0) (.inl rfl) 64 0 100000 (by simp) (by omega) (by omega)]
        rfl
      · have hz' : (metP xs == 0) = false := by simpa using hz
        have w1 : wr .i64 (n * wr .i64 (n - 1)) = n * (n - 1) := by
          rw [wr_i (n := n - 1) (by omega) (by omega), wr_i (by omega) (by omega)]
        have w2 : wr .i64 ((n * (n - 1)).tdiv 2) = tri n := by
          rw [tdiv2 _ (by omega), show n * (n - 1) / 2 = tri n from rfl, wr_i (by omega) (by omega)]
        generalize hBd : mnI o 64 * tri n = B at *
        generalize hmd : metP xs = m at *
        have d1 := Int.mul_ediv_add_emod B m
        have d2 := Int.emod_nonneg B (show m ≠ 0 by omega)
        have d3 := Int.emod_lt_of_pos B (show 0 < m by omega)
        have hq0 : 0 ≤ B / m := Int.ediv_nonneg hB0 (by omega)
        have hqB : B / m ≤ B := Int.ediv_le_self m hB0
        generalize hqd : B / m = q at *
        have hmq : m * q = q * m := Int.mul_comm m q
        have hp := mn_le 64 q
        refine ⟨mnI 64 q, ?_, ?_⟩
        · simp only [hz', Bool.false_eq_true, if_false]
          rw [w1, w2, hBd, hB, if_neg (by omega), Int.tdiv_eq_ediv_of_nonneg hB0, hqd, wr_i (by omega) (by omega)]
        · generalize hpd : mnI 64 q = p at hp ⊢
          have hlo : ∀ c, 0 ≤ c → c < p → (c + 1) * m ≤ B := fun c h1 h2 => by
            have : (c + 1) * m ≤ q * m := Int.mul_le_mul_of_nonneg_right (by omega) hm0
            omega
          have hhi : p = 64 ∨ B < (p + 1) * m := by
            rcases hp.2.2 with h | h
            · exact .inl h
            · refine .inr ?_
              subst h
              rw [Int.add_mul]; omega
          rw [me_1 n o B (tri n) xs m p hm hT (by rw [hBd]; exact hB) hm0 (by omega) (by omega) (by omega) hlo hhi p.toNat 0 100000 (by omega) (by omega) (by omega)]
          rfl
theorem equal_1 (xs : List Int) (hxs : xs.length ≤ 1000000) : ∀ (r pre : List Int) (f : Nat), xs = pre ++ r → r.length < f → slices_Equal_L_int_1 xs xs f pre.length = some (.inl ())
  | [], pre, f + 1, h, _ => by
    subst h
    unfold slices_Equal_L_int_1
    rw [nlt_len]
    rfl
  | v :: r, pre, f + 1, h, hf => by
    subst h
    unfold slices_Equal_L_int_1
    rw [if_pos (lt_len pre v r), idx_app]
    simp only [Option.bind_some]
    rw [wr_snoc pre v r (by omega)]
    simp only [bne_self_eq_false, Bool.false_eq_true, if_false]
    rw [snoc_app]
    exact equal_1 _ (by rw [← snoc_app]; exact hxs) r (pre ++ [v]) f rfl (by simp at hf; omega)
theorem equal_self (xs : List Int) (hxs : xs.length ≤ 50000) : slices_Equal_L_int xs xs = some true := by
  unfold slices_Equal_L_int
  have := equal_1 xs (by omega) xs [] 100000 rfl (by omega)
  simp only [bne_self_eq_false, Bool.false_eq_true, if_false]
  rw [show ((0 : Int)) = (([] : List Int).length : Int) from rfl, this]
  rfl
theorem clone_self (xs : List Int) (hxs : xs.length ≤ 50000) : slices_Clone_L_int xs = some xs := by
  unfold slices_Clone_L_int
  rw [if_pos (capOk_le (by omega) (by omega))]
theorem bounds_law (n : Int) (hn : in64 n) (xs : List Int) (e o : Int) : law09_EveningBounds n xs e o = some true := by
  unfold law09_EveningBounds
  by_cases h : (xs.length : Int) > 70
  · rw [if_pos (by simpa using h)]; rfl
  · rw [if_neg (by simpa using h)]
    obtain ⟨r1, a1, a2⟩ := leastMost_agree n hn xs (by omega) e
    obtain ⟨r2, b1, b2⟩ := mostEvenings_agree n hn xs (by omega) o
    rw [clone_self xs (by omega)]
    simp only [Option.bind_some, a1, a2, b1, b2, equal_self xs (by omega), beq_self_eq_true, if_true]
    rfl
end Go.Proofs.YthofgamegondnaaDoor

namespace Go.Proofs.YthofgamegondnaaDoor
open Go.RowKit
/-- How often a number sits on an evening. -/
theorem times_2 (ev : List (List Int)) (x c2 : Int) (t : List Int) (ht : idx ev c2 = some t) (hl : t.length ≤ 50000) : ∀ (r pre : List Int) (f : Nat) (c : Int), t = pre ++ r → r.length < f → 0 ≤ c → c + r.length ≤ 1000000 → ref09_times_2 ev x c2 f c pre.length = some (c + (r.count x : Int))
  | [], pre, f + 1, c, h, _, _, _ => by
    unfold ref09_times_2
    rw [ht]
    subst h
    simp only [Option.bind_some]
    rw [nlt_len]
    simp
  | v :: r, pre, f + 1, c, h, hf, h0, h1 => by
    unfold ref09_times_2
    rw [ht]
    simp only [List.length_cons] at h1
    by_cases hv : v = x
    · have ih := times_2 ev x c2 t ht hl r (pre ++ [v]) f (c + 1) (by rw [h]; simp) (by simp at hf; omega) (by omega) (by omega)
      subst h hv
      simp only [Option.bind_some]
      rw [if_pos (lt_len pre v r), idx_app]
      simp only [Option.bind_some, ref09_times_j3, beq_self_eq_true, if_true]
      rw [wr_snoc pre v r (by omega), wr_i (by omega) (by omega), ih, List.count_cons_self]
      congr 1; omega
    · have ih := times_2 ev x c2 t ht hl r (pre ++ [v]) f c (by rw [h]; simp) (by simp at hf; omega) (by omega) (by omega)
      have hb : (v == x) = false := by simpa using hv
      subst h
      simp only [Option.bind_some]
      rw [if_pos (lt_len pre v r), idx_app]
      simp only [Option.bind_some, ref09_times_j3, hb, Bool.false_eq_true, if_false]
      rw [wr_snoc pre v r (by omega), ih, List.count_cons_of_ne hv]
theorem len_mem {α : Type} : ∀ {ev : List (List α)} {t : List α}, t ∈ ev → t.length ≤ ev.flatten.length
  | a :: ev, t, h => by
    simp only [List.flatten_cons, List.length_append]
    rcases List.mem_cons.1 h with rfl | h
    · omega
    · have := len_mem h; omega
theorem times_eq (ev : List (List Int)) (x : Int) (hl : ev.length ≤ 50000) (hfl : ev.flatten.length ≤ 50000) : ref09_times ev x = some (ev.flatten.count x : Int) := by
  unfold ref09_times
  have hm : ∀ t ∈ ev, t.length ≤ 50000 := fun t ht => by
    have := len_mem ht; omega
  have key : ∀ (r pre : List (List Int)) (f : Nat) (c : Int), ev = pre ++ r → r.length < f → 0 ≤ c → c + r.flatten.length ≤ 50000 → ref09_times_1 ev x f c pre.length = some (c + (r.flatten.count x : Int)) := by
    intro r
    induction r with
    | nil =>
      intro pre f c h hf h0 h1
      obtain ⟨f, rfl⟩ : ∃ g, f = g + 1 := ⟨f - 1, by simp at hf; omega⟩
      subst h
      unfold ref09_times_1
      rw [nlt_len]
      simp
    | cons t r ih =>
      intro pre f c h hf h0 h1
      obtain ⟨f, rfl⟩ : ∃ g, f = g + 1 := ⟨f - 1, by simp at hf; omega⟩
      have ht := hm t (by rw [h]; simp)
      subst h
      unfold ref09_times_1
      rw [if_pos (lt_len pre t r)]
      simp only [List.flatten_cons, List.length_append] at h1
      have hc : (t.count x) ≤ t.length := List.count_le_length
      have h2 := times_2 (pre ++ t :: r) x pre.length t (idx_app pre t r) (by omega) t [] 100000 c rfl (by omega) h0 (by omega)
      rw [show ((([] : List Int).length : Nat) : Int) = 0 from rfl] at h2
      rw [h2]
      simp only [Option.bind_some]
      simp at hl
      rw [wr_snoc pre t r (by simp; omega), ih (pre ++ [t]) f _ (by simp) (by simp at hf; omega) (by omega) (by omega)]
      simp only [List.flatten_cons, List.count_append]
      congr 1; omega
  have := key ev [] 100000 0 rfl (by omega) (by omega) (by omega)
  rw [show ((([] : List (List Int)).length : Nat) : Int) = 0 from rfl, Int.zero_add] at this
  rw [this]
  rfl

/-- Is the shape of an evening wrong? -/
def sbad (sizes : List Int) : List (List Int) → Int → Bool
  | [], _ => false
  | t :: r, i => ((t.length : Int) == 0) || (decide ((sizes.length : Int) > 0) && (match idx sizes i with | some v => ((t.length : Int) != v) | none => false)) || sbad sizes r (i + 1)
abbrev CSt := Int × Bool × Bool × List Bool
def stepC (n : Int) (s : CSt) (v : Int) : CSt := if v < 0 ∨ v ≥ n then (s.1, s.2.1, true, s.2.2.2) else ((if (s.2.2.2)[v.toNat]?.getD false then s.1 else s.1 + 1), s.2.1 || (s.2.2.2)[v.toNat]?.getD false, s.2.2.1, s.2.2.2.set v.toNat true)
theorem stepC_len (n : Int) (s : CSt) (v : Int) : (stepC n s v).2.2.2.length = s.2.2.2.length := by
  unfold stepC; split <;> simp
theorem stepC_le (n : Int) (s : CSt) (v : Int) : (stepC n s v).1 ≤ s.1 + 1 ∧ s.1 ≤ (stepC n s v).1 := by
  unfold stepC; split
  · show s.1 ≤ s.1 + 1 ∧ s.1 ≤ s.1; omega
  · simp only; split <;> omega
theorem check_2 (n : Int) (sizes : List Int) (ev : List (List Int)) (c9 : Int) (hn0 : 0 ≤ n) : ∀ (r pre : List Int) (s : CSt) (f : Nat) (t : List Int), t = pre ++ r → t.length ≤ 50000 → r.length < f → s.2.2.2.length = n.toNat → 0 ≤ s.1 → s.1 ≤ 1000000 + (pre.length : Int) → evening_check_2 n sizes ev c9 t f s.1 s.2.1 s.2.2.1 s.2.2.2 pre.length = some (r.foldl (stepC n) s)
  | [], pre, s, f + 1, t, ht, _, _, _, _, _ => by
    subst ht
    unfold evening_check_2
    rw [nlt_len]
    rfl
  | v :: r, pre, s, f + 1, t, ht, hl, hf, hs, h0, h1 => by
    obtain ⟨m, tw, un, seen⟩ := s
    simp only at hs h0 h1 ⊢
    have ih := check_2 n sizes ev c9 hn0 r (pre ++ [v]) (stepC n (m, tw, un, seen) v) f t (by rw [ht]; simp) hl (by simp at hf; omega) (by rw [stepC_len]; exact hs) (by have := (stepC_le n (m, tw, un, seen) v).2; simp only at this; omega) (by have := (stepC_le n (m, tw, un, seen) v).1; simp only at this; simp; omega)
    subst ht
    unfold evening_check_2
    rw [if_pos (lt_len pre v r), idx_app]
    simp only [Option.bind_some]
    rw [wr_snoc pre v r (by omega)]
    rw [List.foldl_cons]
    by_cases hv : v < 0 ∨ v ≥ n
    · have hst : stepC n (m, tw, un, seen) v = (m, tw, true, seen) := by unfold stepC; rw [if_pos hv]
      rw [hst] at ih ⊢
      by_cases hv0 : v < 0
      · simp only [hv0, decide_true, if_true, Option.bind_some]
        exact ih
      · have : v ≥ n := by omega
        simp only [hv0, this, decide_false, decide_true, Bool.false_eq_true, if_false, if_true, Option.bind_some]
        exact ih
    · have hv0 : ¬ v < 0 := by omega
      have hv1 : ¬ v ≥ n := by omega
      have hlt : v.toNat < seen.length := by omega
      have hidx : idx seen v = some (seen[v.toNat]'hlt) := by
        unfold idx; rw [if_pos (by omega)]; exact List.getElem?_eq_getElem hlt
      have hg : seen[v.toNat]?.getD false = seen[v.toNat]'hlt := by rw [List.getElem?_eq_getElem hlt]; rfl
      have hst : stepC n (m, tw, un, seen) v = ((if (seen[v.toNat]'hlt) then m else m + 1), tw || (seen[v.toNat]'hlt), un, seen.set v.toNat true) := by
        unfold stepC; rw [if_neg hv]; simp only [hg]
      rw [hst] at ih ⊢
      have hm1 : wr .i64 (m + 1) = m + 1 := wr_i (by omega) (by simp at hl; omega)
      simp only [hv0, hv1, decide_false, Bool.false_eq_true, if_false, Option.bind_some, hidx, evening_check_j3]
      cases htw : tw <;> cases hse : seen[v.toNat]'hlt <;> simp only [htw, hse, Bool.false_eq_true, if_false, if_true, Option.bind_some, Bool.not_true, Bool.not_false, hidx, hm1, Bool.or_true, Bool.or_false] at ih ⊢ <;> exact ih
theorem shape_j (sizes : List Int) (ev : List (List Int)) (t : List Int) (i : Nat) (hs : (sizes.length : Int) > 0 → i < sizes.length) {β : Type} (b : β) : (if ((t.length : Int) == 0) = true then some (b, true) else if (decide ((sizes.length : Int) > 0)) = true then (idx sizes i).bind fun v12 => some (b, ((t.length : Int) != v12)) else some (b, false)) = some (b, ((t.length : Int) == 0) || (decide ((sizes.length : Int) > 0) && (match idx sizes i with | some v => ((t.length : Int) != v) | none => false))) := by
  cases h1 : ((t.length : Int) == 0) with
  | true => simp
  | false =>
    by_cases h2 : (sizes.length : Int) > 0
    · have := hs h2
      rw [idx_lt this]
      have h3 : 0 < sizes.length := by omega
      simp [h3]
    · have h3 : ¬ 0 < sizes.length := by omega
      simp [h3]
theorem check_1 (n : Int) (sizes : List Int) (ev : List (List Int)) (hn0 : 0 ≤ n) (hl : ev.length ≤ 50000) (hsz : (sizes.length : Int) > 0 → sizes.length = ev.length) : ∀ (r pre : List (List Int)) (s : CSt) (f : Nat), ev = pre ++ r → r.length < f → s.2.2.2.length = n.toNat → 0 ≤ s.1 → s.1 + r.flatten.length ≤ 50000 → evening_check_1 n sizes ev f s.1 s.2.1 s.2.2.1 s.2.2.2 pre.length = some (if sbad sizes r pre.length then .inr 2 else let q := r.flatten.foldl (stepC n) s; .inl (q.1, q.2.1, q.2.2.1))
  | [], pre, s, f + 1, h, _, _, _, _ => by
    subst h
    unfold evening_check_1
    rw [nlt_len]
    rfl
  | t :: r, pre, s, f + 1, h, hf, hs, h0, h1 => by
    obtain ⟨m, tw, un, seen⟩ := s
    simp only at hs h0 h1 ⊢
    subst h
    unfold evening_check_1
    rw [if_pos (lt_len pre t r), idx_app]
    simp only [Option.bind_some]
    rw [shape_j sizes (pre ++ t :: r) t pre.length (fun h => by rw [hsz h]; simp)]
    simp only [Option.bind_some]
    simp only [List.flatten_cons, List.length_append] at h1
    cases hb : (((t.length : Int) == 0) || (decide ((sizes.length : Int) > 0) && (match idx sizes (pre.length : Int) with | some v => ((t.length : Int) != v) | none => false))) with
    | true =>
      simp only [sbad, hb, Bool.true_or, if_true]
    | false =>
      simp only [sbad, hb, Bool.false_or, Bool.false_eq_true, if_false]
      have h2 := check_2 n sizes (pre ++ t :: r) pre.length hn0 t [] (m, tw, un, seen) 100000 t rfl (by omega) (by omega) hs h0 (by simp; omega)
      rw [show ((([] : List Int).length : Nat) : Int) = 0 from rfl] at h2
      simp only at h2
      rw [h2]
      simp only [Option.bind_some]
      have hfold : ∀ (l : List Int) (s : CSt), (l.foldl (stepC n) s).2.2.2.length = s.2.2.2.length ∧ (l.foldl (stepC n) s).1 ≤ s.1 + l.length ∧ s.1 ≤ (l.foldl (stepC n) s).1 := by
        intro l
        induction l with
        | nil => intro s; simp
        | cons a l ih =>
          intro s
          obtain ⟨a1, a2, a3⟩ := ih (stepC n s a)
          have := stepC_le n s a
          rw [List.foldl_cons]
          refine ⟨a1.trans (stepC_len n s a), ?_, ?_⟩
          · simp; omega
          · omega
      obtain ⟨a1, a2, a3⟩ := hfold t (m, tw, un, seen)
      simp only at a1 a2 a3
      rw [wr_snoc pre t r (by omega), check_1 n sizes (pre ++ t :: r) hn0 hl hsz r (pre ++ [t]) (t.foldl (stepC n) (m, tw, un, seen)) f (by simp) (by simp at hf; omega) (by omega) (by omega) (by omega)]
      rw [← snoc_len]
      simp only [List.flatten_cons, List.foldl_append]
end Go.Proofs.YthofgamegondnaaDoor

namespace Go.Proofs.YthofgamegondnaaDoor
open Go.RowKit
def badV (n v : Int) : Bool := decide (v < 0 ∨ v ≥ n)
theorem un_eq (n : Int) : ∀ (L : List Int) (s : CSt), (L.foldl (stepC n) s).2.2.1 = (s.2.2.1 || L.any (badV n))
  | [], s => by simp
  | v :: L, s => by
    rw [List.foldl_cons, un_eq n L, List.any_cons]
    by_cases hv : v < 0 ∨ v ≥ n
    · have hb : badV n v = true := by simp only [badV, decide_eq_true_eq]; exact hv
      have hs : (stepC n s v).2.2.1 = true := by unfold stepC; rw [if_pos hv]
      rw [hb, hs]; simp
    · have hb : badV n v = false := by simp only [badV, decide_eq_false_iff_not]; exact hv
      have hs : (stepC n s v).2.2.1 = s.2.2.1 := by unfold stepC; rw [if_neg hv]
      rw [hb, hs]; simp
structure InvC (N : Nat) (P : List Int) (s : CSt) : Prop where
  len : s.2.2.2.length = N
  seen : ∀ k, k < N → s.2.2.2[k]?.getD false = decide ((k : Int) ∈ P)
  tw : s.2.1 = true ↔ ∃ x, 2 ≤ P.count x
  many : s.1 = (s.2.2.2.count true : Int)
theorem count_set : ∀ (l : List Bool) (k : Nat), k < l.length → ((l.set k true).count true : Int) = l.count true + (if l[k]?.getD false then 0 else 1)
  | [], k, h => by simp at h
  | b :: l, 0, _ => by cases b <;> simp
  | b :: l, k + 1, h => by
    have := count_set l k (by simpa using h)
    simp only [List.set_cons_succ, List.getElem?_cons_succ]
    cases b
    · simpa using this
    · simp only [List.count_cons_self]; push_cast; omega
theorem InvC.step {n : Int} {P : List Int} {s : CSt} (i : InvC n.toNat P s) {v : Int} (h0 : 0 ≤ v) (h1 : v < n) : InvC n.toNat (P ++ [v]) (stepC n s v) := by
  obtain ⟨m, tw, un, seen⟩ := s
  obtain ⟨i1, i2, i3, i4⟩ := i
  simp only at i1 i2 i3 i4
  have hst : stepC n (m, tw, un, seen) v = ((if seen[v.toNat]?.getD false then m else m + 1), tw || seen[v.toNat]?.getD false, un, seen.set v.toNat true) := by
    unfold stepC; rw [if_neg (by omega)]
  have hlt : v.toNat < seen.length := by clear i3; omega
  have hv := i2 v.toNat (by clear i3; omega)
  have hvv : ((v.toNat : Nat) : Int) = v := by clear i3; omega
  rw [hvv] at hv
  rw [hst]
  refine ⟨by simpa using i1, fun k hk => ?_, ?_, ?_⟩
  · simp only [List.getElem?_set]
    by_cases hkv : v.toNat = k
    · subst hkv
      simp [hlt, hvv]
    · rw [if_neg hkv, i2 k hk]
      have : ¬ (k : Int) = v := by clear i3; omega
      simp [this]
  · simp only [Bool.or_eq_true, i3, hv, decide_eq_true_eq]
    clear i3 i4
    constructor
    · rintro (⟨x, hx⟩ | hm)
      · exact ⟨x, by rw [List.count_append]; omega⟩
      · exact ⟨v, by rw [List.count_append]; have := List.count_pos_iff.2 hm; have e : [v].count v = 1 := (by simp); omega⟩
    · rintro ⟨x, hx⟩
      rw [List.count_append] at hx
      by_cases hxv : v = x
      · subst hxv
        have e : [v].count v = 1 := by simp
        rw [e] at hx
        exact .inr (List.count_pos_iff.1 (by omega))
      · rw [List.count_cons_of_ne hxv] at hx
        exact .inl ⟨x, by simpa using hx⟩
  · simp only
    rw [count_set seen v.toNat hlt, i4]
    split <;> simp
theorem inv_all {n : Int} : ∀ (L P : List Int) (s : CSt), InvC n.toNat P s → (∀ v ∈ L, 0 ≤ v ∧ v < n) → InvC n.toNat (P ++ L) (L.foldl (stepC n) s)
  | [], P, s, h, _ => by simpa using h
  | v :: L, P, s, h, hv => by
    obtain ⟨h0, h1⟩ := hv v (by simp)
    have := inv_all L (P ++ [v]) (stepC n s v) (h.step h0 h1) fun w hw => hv w (by simp [hw])
    simpa using this
theorem inv_0 (N : Nat) : InvC N [] (0, false, false, List.replicate N false) := by
  refine ⟨by simp, fun k hk => by simp [hk], by simp, ?_⟩
  simp [List.count_replicate]
theorem count_true_lt : ∀ (l : List Bool), l.count true ≤ l.length ∧ (l.count true < l.length ↔ ∃ k, k < l.length ∧ l[k]?.getD false = false)
  | [] => by simp
  | b :: l => by
    obtain ⟨h1, h2⟩ := count_true_lt l
    cases b with
    | false =>
      refine ⟨by simp; omega, ?_⟩
      simp only [List.count_cons_of_ne (show (false : Bool) ≠ true by decide), List.length_cons]
      exact ⟨fun _ => ⟨0, by omega, rfl⟩, fun _ => by omega⟩
    | true =>
      refine ⟨by simp; omega, ?_⟩
      simp only [List.count_cons_self, List.length_cons, Nat.add_lt_add_iff_right, h2]
      constructor
      · rintro ⟨k, a, b⟩; exact ⟨k + 1, by omega, by simpa using b⟩
      · rintro ⟨k, a, b⟩
        cases k with
        | zero => simp at b
        | succ k => exact ⟨k, by omega, by simpa using b⟩
/-- Some number of a stretch. -/
def anyN (p : Int → Bool) : Nat → Int → Bool
  | 0, _ => false
  | k + 1, i => p i || anyN p k (i + 1)
theorem anyN_iff (p : Int → Bool) : ∀ (k : Nat) (i : Int), anyN p k i = true ↔ ∃ x, i ≤ x ∧ x < i + k ∧ p x = true
  | 0, i => by simp [anyN]; intro x h1 h2; omega
  | k + 1, i => by
    simp only [anyN, Bool.or_eq_true, anyN_iff p k]
    constructor
    · rintro (h | ⟨x, h1, h2, h3⟩)
      · exact ⟨i, by omega, by omega, h⟩
      · exact ⟨x, by omega, by omega, h3⟩
    · rintro ⟨x, h1, h2, h3⟩
      by_cases hx : x = i
      · subst hx; exact .inl h3
      · exact .inr ⟨x, by omega, by omega, h3⟩
/-- What an evening's check answers. -/
def chk (n : Int) (sizes : List Int) (ev : List (List Int)) : Int :=
  if (decide ((sizes.length : Int) > 0) && ((sizes.length : Int) != (ev.length : Int))) = true then 2 else
  if sbad sizes ev 0 then 2 else
  if ev.flatten.any (badV n) then 6 else
  if anyN (fun x => decide ((ev.flatten.count x : Int) > 1)) n.toNat 0 then 5 else
  if anyN (fun x => ((ev.flatten.count x : Int) == 0)) n.toNat 0 then 2 else 0
theorem evening_check_eq (n : Int) (hn0 : 0 ≤ n) (hn : n ≤ 64) (sizes : List Int) (ev : List (List Int)) (hl : ev.length ≤ 50000) (hf : ev.flatten.length ≤ 50000) : evening_check n sizes ev = some (chk n sizes ev) := by
  unfold evening_check chk
  by_cases hs : (decide ((sizes.length : Int) > 0) && ((sizes.length : Int) != (ev.length : Int))) = true
  · rw [if_pos hs]
    simp only [Bool.and_eq_true, decide_eq_true_eq] at hs
    rw [if_pos (by simpa using hs.1)]
    simp only [Option.bind_some, hs.2, if_true]
  · rw [if_neg hs]
    have hsz : (sizes.length : Int) > 0 → sizes.length = ev.length := fun h => by
      simp only [Bool.and_eq_true, decide_eq_true_eq, not_and, Bool.not_eq_true, bne_eq_false_iff_eq] at hs
      have := hs h; omega
    have e1 : (if (decide ((sizes.length : Int) > 0)) = true then some ((sizes.length : Int) != (ev.length : Int)) else some false) = some false := by
      by_cases h : (sizes.length : Int) > 0
      · have := hsz h; simp [this]
      · have h' : ¬ 0 < sizes.length := by omega
        simp [h']
    rw [e1]
    simp only [Option.bind_some, Bool.false_eq_true, if_false]
    have hmk : mkOk 1 n = true := by
      simp only [mkOk, Bool.and_eq_true, decide_eq_true_eq]; omega
    rw [if_pos hmk]
    have h1 := check_1 n sizes ev hn0 hl hsz ev [] (0, false, false, List.replicate n.toNat false) 100000 rfl (by omega) (by simp) (by simp) (by simp only; omega)
    rw [show ((([] : List (List Int)).length : Nat) : Int) = 0 from rfl] at h1
    simp only at h1
    rw [h1]
    simp only [Option.bind_some]
    cases hb : sbad sizes ev 0 with
    | true => simp
    | false =>
      simp only [Bool.false_eq_true, if_false]
      rw [un_eq]
      simp only [Bool.false_or]
      cases hu : ev.flatten.any (badV n) with
      | true => simp
      | false =>
        simp only [Bool.false_eq_true, if_false]
        have hval : ∀ v ∈ ev.flatten, 0 ≤ v ∧ v < n := fun v hv => by
          have := List.any_eq_false.1 hu v hv
          simp only [badV, decide_eq_true_eq] at this
          omega
        obtain ⟨j1, j2, j3, j4⟩ := inv_all ev.flatten [] _ (inv_0 n.toNat) hval
        rw [List.nil_append] at j2 j3
        generalize ev.flatten.foldl (stepC n) (0, false, false, List.replicate n.toNat false) = q at *
        have t1 : q.2.1 = anyN (fun x => decide ((ev.flatten.count x : Int) > 1)) n.toNat 0 := by
          rw [Bool.eq_iff_iff, j3, anyN_iff]
          constructor
          · rintro ⟨x, hx⟩
            have := hval x (List.count_pos_iff.1 (by omega))
            exact ⟨x, by omega, by omega, by simp; omega⟩
          · rintro ⟨x, _, _, hx⟩
            simp at hx
            exact ⟨x, by omega⟩
        have t2 : decide (q.1 < n) = anyN (fun x => ((ev.flatten.count x : Int) == 0)) n.toNat 0 := by
          rw [Bool.eq_iff_iff, anyN_iff, decide_eq_true_eq, j4]
          have hc := count_true_lt q.2.2.2
          rw [j1] at hc
          constructor
          · intro h
            obtain ⟨k, k1, k2⟩ := hc.2.1 (by omega)
            rw [j2 k k1] at k2
            have hm : ¬ (k : Int) ∈ ev.flatten := by simpa using k2
            exact ⟨k, by omega, by omega, by rw [List.count_eq_zero.2 hm]; rfl⟩
          · rintro ⟨x, h1, h2, h3⟩
            have h3 : ev.flatten.count x = 0 := by simpa using h3
            have hm := List.count_eq_zero.1 h3
            have := hc.2.2 ⟨x.toNat, by omega, by rw [j2 _ (by omega), show ((x.toNat : Nat) : Int) = x by omega]; simpa using hm⟩
            omega
        rw [t1, t2]
        cases anyN (fun x => decide ((ev.flatten.count x : Int) > 1)) n.toNat 0 <;> cases anyN (fun x => ((ev.flatten.count x : Int) == 0)) n.toNat 0 <;> simp
theorem shape_r (sizes : List Int) (t : List Int) (i : Nat) (hs : (sizes.length : Int) > 0 → i < sizes.length) : (if ((t.length : Int) == 0) = true then some true else if (decide ((sizes.length : Int) > 0)) = true then (idx sizes i).bind fun v7 => some (v7 != (t.length : Int)) else some false) = some (((t.length : Int) == 0) || (decide ((sizes.length : Int) > 0) && (match idx sizes i with | some v => ((t.length : Int) != v) | none => false))) := by
  cases h1 : ((t.length : Int) == 0) with
  | true => simp
  | false =>
    by_cases h2 : (sizes.length : Int) > 0
    · have := hs h2
      rw [idx_lt this]
      have h3 : 0 < sizes.length := by omega
      simp [h3, bne_comm]
    · have h3 : ¬ 0 < sizes.length := by omega
      simp [h3]
theorem or_if {c : Int} (X Y : Bool) : (if X = true then some (Sum.inr c) else some (if Y = true then Sum.inr c else Sum.inl ())) = some (if (X || Y) = true then Sum.inr c else Sum.inl ()) := by
  cases X <;> simp
theorem rCheck_1 (n : Int) (sizes : List Int) (ev : List (List Int)) (hl : ev.length ≤ 50000) (hsz : (sizes.length : Int) > 0 → sizes.length = ev.length) : ∀ (r pre : List (List Int)) (f : Nat), ev = pre ++ r → r.length < f → ref09_CheckEvening_1 n sizes ev f pre.length = some (if sbad sizes r pre.length then .inr 2 else .inl ())
  | [], pre, f + 1, h, _ => by
    subst h
    unfold ref09_CheckEvening_1
    rw [nlt_len]
    rfl
  | t :: r, pre, f + 1, h, hf => by
    have ih := rCheck_1 n sizes ev hl hsz r (pre ++ [t]) f (by rw [h]; simp) (by simp at hf; omega)
    subst h
    unfold ref09_CheckEvening_1
    rw [if_pos (lt_len pre t r), idx_app]
    simp only [Option.bind_some]
    rw [wr_snoc pre t r (by omega), ih, ← snoc_len, shape_r sizes t pre.length (fun h => by rw [hsz h]; simp)]
    simp only [Option.bind_some, sbad]
    exact or_if _ _
theorem rCheck_3 (n : Int) (ev : List (List Int)) (c : Int) (t : List Int) (ht : idx ev c = some t) (hl : t.length ≤ 50000) : ∀ (r pre : List Int) (f : Nat), t = pre ++ r → r.length < f → ref09_CheckEvening_3 n ev c f pre.length = some (if r.any (badV n) then .inr 6 else .inl ())
  | [], pre, f + 1, h, _ => by
    unfold ref09_CheckEvening_3
    rw [ht]
    subst h
    simp only [Option.bind_some]
    rw [nlt_len]
    rfl
  | v :: r, pre, f + 1, h, hf => by
    have ih := rCheck_3 n ev c t ht hl r (pre ++ [v]) f (by rw [h]; simp) (by simp at hf; omega)
    unfold ref09_CheckEvening_3
    rw [ht]
    subst h
    simp only [Option.bind_some]
    rw [if_pos (lt_len pre v r), idx_app]
    simp only [Option.bind_some]
    rw [wr_snoc pre v r (by omega), ih]
    simp only [List.any_cons, badV]
    by_cases h1 : v < 0
    · simp [h1]
    · by_cases h2 : v ≥ n
      · simp [h1, h2]
      · simp [h1, h2]
theorem rCheck_2 (n : Int) (ev : List (List Int)) (hl : ev.length ≤ 50000) (hm : ∀ t ∈ ev, t.length ≤ 50000) : ∀ (r pre : List (List Int)) (f : Nat), ev = pre ++ r → r.length < f → ref09_CheckEvening_2 n ev f pre.length = some (if r.flatten.any (badV n) then .inr 6 else .inl ())
  | [], pre, f + 1, h, _ => by
    subst h
    unfold ref09_CheckEvening_2
    rw [nlt_len]
    rfl
  | t :: r, pre, f + 1, h, hf => by
    have ih := rCheck_2 n ev hl hm r (pre ++ [t]) f (by rw [h]; simp) (by simp at hf; omega)
    have ht := hm t (by rw [h]; simp)
    subst h
    unfold ref09_CheckEvening_2
    rw [if_pos (lt_len pre t r)]
    have h3 := rCheck_3 n (pre ++ t :: r) pre.length t (idx_app pre t r) ht t [] 100000 rfl (by omega)
    rw [show ((([] : List Int).length : Nat) : Int) = 0 from rfl] at h3
    rw [h3]
    simp only [Option.bind_some, List.flatten_cons, List.any_append]
    cases t.any (badV n) with
    | true => simp
    | false =>
      simp only [Bool.false_eq_true, if_false, Bool.false_or]
      rw [wr_snoc pre t r (by omega), ih]
theorem rCheck_45 (n : Int) (hn : n ≤ 64) (ev : List (List Int)) (hl : ev.length ≤ 50000) (hf : ev.flatten.length ≤ 50000) :
    (∀ (k : Nat) (i : Int) (f : Nat), (k : Int) = n - i → 0 ≤ i → k < f → ref09_CheckEvening_4 n ev f i = some (if anyN (fun x => decide ((ev.flatten.count x : Int) > 1)) k i then .inr 5 else .inl ())) ∧
    (∀ (k : Nat) (i : Int) (f : Nat), (k : Int) = n - i → 0 ≤ i → k < f → ref09_CheckEvening_5 n ev f i = some (if anyN (fun x => ((ev.flatten.count x : Int) == 0)) k i then .inr 2 else .inl ())) := by
  constructor
  · intro k
    induction k with
    | zero =>
      intro i f hk hi hf'
      obtain ⟨f, rfl⟩ : ∃ g, f = g + 1 := ⟨f - 1, by omega⟩
      unfold ref09_CheckEvening_4
      rw [if_neg (by simp; omega)]
      rfl
    | succ k ih =>
      intro i f hk hi hf'
      obtain ⟨f, rfl⟩ : ∃ g, f = g + 1 := ⟨f - 1, by omega⟩
      unfold ref09_CheckEvening_4
      rw [if_pos (by simp; omega), times_eq ev i hl hf]
      simp only [Option.bind_some, anyN]
      rw [wr_i (by omega) (by omega), ih (i + 1) f (by omega) (by omega) (by omega)]
      exact or_if _ _
  · intro k
    induction k with
    | zero =>
      intro i f hk hi hf'
      obtain ⟨f, rfl⟩ : ∃ g, f = g + 1 := ⟨f - 1, by omega⟩
      unfold ref09_CheckEvening_5
      rw [if_neg (by simp; omega)]
      rfl
    | succ k ih =>
      intro i f hk hi hf'
      obtain ⟨f, rfl⟩ : ∃ g, f = g + 1 := ⟨f - 1, by omega⟩
      unfold ref09_CheckEvening_5
      rw [if_pos (by simp; omega), times_eq ev i hl hf]
      simp only [Option.bind_some, anyN]
      rw [wr_i (by omega) (by omega), ih (i + 1) f (by omega) (by omega) (by omega)]
      exact or_if _ _
theorem ref09_CheckEvening_eq (n : Int) (hn0 : 0 ≤ n) (hn : n ≤ 64) (sizes : List Int) (ev : List (List Int)) (hl : ev.length ≤ 50000) (hf : ev.flatten.length ≤ 50000) : ref09_CheckEvening n sizes ev = some (chk n sizes ev) := by
  unfold ref09_CheckEvening chk
  by_cases hs : (decide ((sizes.length : Int) > 0) && ((sizes.length : Int) != (ev.length : Int))) = true
  · rw [if_pos hs]
    simp only [Bool.and_eq_true, decide_eq_true_eq] at hs
    rw [if_pos (by simpa using hs.1)]
    simp only [Option.bind_some, hs.2, if_true]
  · rw [if_neg hs]
    have hsz : (sizes.length : Int) > 0 → sizes.length = ev.length := fun h => by
      simp only [Bool.and_eq_true, decide_eq_true_eq, not_and, Bool.not_eq_true, bne_eq_false_iff_eq] at hs
      have := hs h; omega
    have e1 : (if (decide ((sizes.length : Int) > 0)) = true then some ((sizes.length : Int) != (ev.length : Int)) else some false) = some false := by
      by_cases h : (sizes.length : Int) > 0
      · have := hsz h; simp [this]
      · have h' : ¬ 0 < sizes.length := by omega
        simp [h']
    rw [e1]
    simp only [Option.bind_some, Bool.false_eq_true, if_false]
    have hm : ∀ t ∈ ev, t.length ≤ 50000 := fun t ht => by
      have := len_mem ht; omega
    have h1 := rCheck_1 n sizes ev hl hsz ev [] 100000 rfl (by omega)
    have h2 := rCheck_2 n ev hl hm ev [] 100000 rfl (by omega)
    rw [show ((([] : List (List Int)).length : Nat) : Int) = 0 from rfl] at h1 h2
    obtain ⟨h4, h5⟩ := rCheck_45 n hn ev hl hf
    have h4 := h4 n.toNat 0 100000 (by omega) (by omega) (by omega)
    have h5 := h5 n.toNat 0 100000 (by omega) (by omega) (by omega)
    rw [h1]
    simp only [Option.bind_some]
    cases sbad sizes ev 0 with
    | true => simp
    | false =>
      simp only [Bool.false_eq_true, if_false]
      rw [h2]
      simp only [Option.bind_some]
      cases ev.flatten.any (badV n) with
      | true => simp
      | false =>
        simp only [Bool.false_eq_true, if_false]
        rw [h4]
        simp only [Option.bind_some]
        cases anyN (fun x => decide ((ev.flatten.count x : Int) > 1)) n.toNat 0 with
        | true => simp
        | false =>
          simp only [Bool.false_eq_true, if_false]
          rw [h5]
          simp only [Option.bind_some]
          cases anyN (fun x => ((ev.flatten.count x : Int) == 0)) n.toNat 0 <;> simp
end Go.Proofs.YthofgamegondnaaDoor

namespace Go.Proofs.YthofgamegondnaaDoor
open Go.RowKit
/-- Few numbers. -/
structure FewS (s : List (List (List Int))) (most : Nat) : Prop where
  evs : s.length ≤ 70
  tabs : ∀ ev ∈ s, ev.length ≤ 12
  nums : s.flatten.flatten.length ≤ most
structure ShortS (s : List (List (List Int))) : Prop where
  evs : s.length ≤ 140737488355328
  tabs : ∀ ev ∈ s, ev.length ≤ 140737488355328 ∧ ∀ t ∈ ev, t.length ≤ 140737488355328
theorem few_2 (s : List (List (List Int))) (most : Nat) (hm : most ≤ 1000) (c3 : Int) (ev : List (List Int)) (he : ev.length ≤ 12) (hs : ∀ t ∈ ev, t.length ≤ 140737488355328) : ∀ (r pre : List (List Int)) (f : Nat) (c : Nat), ev = pre ++ r → r.length < f → c ≤ most → (∃ q, law09_Few_2 s most c3 ev f c pre.length = some q ∧ ((q = .inr false) ∨ (q = .inl ((c + r.flatten.length : Nat) : Int) ∧ c + r.flatten.length ≤ most)))
  | [], pre, f + 1, c, h, _, hc => by
    subst h
    unfold law09_Few_2
    rw [nlt_len]
    exact ⟨_, rfl, .inr ⟨by simp, by simpa using hc⟩⟩
  | t :: r, pre, f + 1, c, h, hf, hc => by
    have ht := hs t (by rw [h]; simp)
    by_cases hgt : c + t.length ≤ most
    · obtain ⟨q, h1, h2⟩ := few_2 s most hm c3 ev he hs r (pre ++ [t]) f (c + t.length) (by rw [h]; simp) (by simp at hf; omega) hgt
      refine ⟨q, ?_, ?_⟩
      · subst h
        unfold law09_Few_2
        rw [if_pos (lt_len pre t r), idx_app]
        simp only [Option.bind_some]
        rw [wr_snoc pre t r (by omega), wr_i (by omega) (by omega), if_neg (by simp; omega)]
        rw [← h1]
        congr 1
      · rcases h2 with h2 | ⟨h2, h3⟩
        · exact .inl h2
        · refine .inr ⟨?_, ?_⟩
          · rw [h2]; simp; omega
          · simp; simp at h3; omega
    · refine ⟨.inr false, ?_, .inl rfl⟩
      subst h
      unfold law09_Few_2
      rw [if_pos (lt_len pre t r), idx_app]
      simp only [Option.bind_some]
      rw [wr_i (by omega) (by omega), if_pos (by simp; omega)]
theorem few_1 (s : List (List (List Int))) (most : Nat) (hm : most ≤ 1000) (h70 : s.length ≤ 70) (hs : ShortS s) : ∀ (r pre : List (List (List Int))) (f : Nat) (c : Nat), s = pre ++ r → r.length < f → c ≤ most → (∃ q, law09_Few_1 s most f c pre.length = some q ∧ ((q = .inr false) ∨ (q = .inl () ∧ c + r.flatten.flatten.length ≤ most ∧ ∀ ev ∈ r, ev.length ≤ 12)))
  | [], pre, f + 1, c, h, _, hc => by
    subst h
    unfold law09_Few_1
    rw [nlt_len]
    exact ⟨_, rfl, .inr ⟨rfl, by simpa using hc, fun ev he => by cases he⟩⟩
  | ev :: r, pre, f + 1, c, h, hf, hc => by
    by_cases h12 : ev.length ≤ 12
    · obtain ⟨q, a1, a2⟩ := few_2 s most hm pre.length ev h12 (hs.tabs ev (by rw [h]; simp)).2 ev [] 100000 c rfl (by omega) hc
      rw [show ((([] : List (List Int)).length : Nat) : Int) = 0 from rfl] at a1
      rcases a2 with rfl | ⟨rfl, a3⟩
      · refine ⟨.inr false, ?_, .inl rfl⟩
        subst h
        unfold law09_Few_1
        rw [if_pos (lt_len pre ev r), idx_app]
        simp only [Option.bind_some]
        rw [if_neg (by simp; omega), a1]
        rfl
      · obtain ⟨q, h1, h2⟩ := few_1 s most hm h70 hs r (pre ++ [ev]) f (c + ev.flatten.length) (by rw [h]; simp) (by simp at hf; omega) a3
        refine ⟨q, ?_, ?_⟩
        · subst h
          unfold law09_Few_1
          rw [if_pos (lt_len pre ev r), idx_app]
          simp only [Option.bind_some]
          rw [if_neg (by simp; omega), a1]
          simp only [Option.bind_some]
          rw [wr_snoc pre ev r (by omega)]
          exact h1
        · rcases h2 with h2 | ⟨h2, h3, h4⟩
          · exact .inl h2
          · refine .inr ⟨h2, ?_, fun e he => ?_⟩
            · rw [List.flatten_cons, List.flatten_append, List.length_append]; omega
            · rcases List.mem_cons.1 he with rfl | he
              · exact h12
              · exact h4 e he
    · refine ⟨.inr false, ?_, .inl rfl⟩
      subst h
      unfold law09_Few_1
      rw [if_pos (lt_len pre ev r), idx_app]
      simp only [Option.bind_some]
      rw [if_pos (by simp; omega)]
theorem few_eq (s : List (List (List Int))) (most : Nat) (hm : most ≤ 1000) (hs : ShortS s) : ∃ b, law09_Few s most = some b ∧ (b = true → FewS s most) := by
  unfold law09_Few
  by_cases h70 : s.length ≤ 70
  · rw [if_neg (by simp; omega)]
    obtain ⟨q, h1, h2⟩ := few_1 s most hm h70 hs s [] 100000 0 rfl (by omega) (by omega)
    rw [show ((([] : List (List (List Int))).length : Nat) : Int) = 0 from rfl] at h1
    rw [show ((0 : Nat) : Int) = 0 from rfl] at h1
    rw [h1]
    rcases h2 with rfl | ⟨rfl, h3, h4⟩
    · exact ⟨false, rfl, fun h => by cases h⟩
    · exact ⟨true, rfl, fun _ => ⟨h70, h4, by omega⟩⟩
  · rw [if_pos (by simp; omega)]
    exact ⟨false, rfl, fun h => by cases h⟩

theorem copy_2 (s c1 : List (List (List Int))) (c2 : Int) (ev : List (List Int)) (he : ev.length ≤ 50000) (hs : ∀ t ∈ ev, t.length ≤ 50000) : ∀ (r pre : List (List Int)) (f : Nat), ev = pre ++ r → r.length < f → law09_Copy_2 s c1 c2 ev f pre pre.length = some ev
  | [], pre, f + 1, h, _ => by
    subst h
    unfold law09_Copy_2
    rw [nlt_len]
    simp
  | t :: r, pre, f + 1, h, hf => by
    have ht := hs t (by rw [h]; simp)
    have ih := copy_2 s c1 c2 ev he hs r (pre ++ [t]) f (by rw [h]; simp) (by simp at hf; omega)
    subst h
    have hcut : cutOk 0 (t.length : Int) (t ++ [(-9 : Int)]).length = true := by
      simp only [cutOk, Bool.and_eq_true, decide_eq_true_eq, List.length_append, List.length_singleton]; omega
    simp only [List.length_append, List.length_cons] at he
    unfold law09_Copy_2
    rw [if_pos (lt_len pre t r), idx_app]
    simp only [Option.bind_some]
    rw [if_pos (capOk_le (by omega) (by omega)), if_pos (capOk_le (by omega) (by omega)), if_pos hcut, if_pos (capOk_le (by omega) (by omega)), wr_snoc pre t r (by simp; omega)]
    rw [show (t ++ [(-9 : Int)]).take ((t.length : Int)).toNat = t by simp]
    exact ih
theorem copy_1 (s : List (List (List Int))) (he : s.length ≤ 50000) (hs : ∀ ev ∈ s, ev.length ≤ 50000 ∧ ∀ t ∈ ev, t.length ≤ 50000) : ∀ (r pre : List (List (List Int))) (f : Nat), s = pre ++ r → r.length < f → law09_Copy_1 s f pre pre.length = some s
  | [], pre, f + 1, h, _ => by
    subst h
    unfold law09_Copy_1
    rw [nlt_len]
    simp
  | ev :: r, pre, f + 1, h, hf => by
    obtain ⟨h1, h2⟩ := hs ev (by rw [h]; simp)
    have ih := copy_1 s he hs r (pre ++ [ev]) f (by rw [h]; simp) (by simp at hf; omega)
    have h3 := copy_2 s pre pre.length ev h1 h2 ev [] 100000 rfl (by omega)
    rw [show ((([] : List (List Int)).length : Nat) : Int) = 0 from rfl] at h3
    subst h
    simp only [List.length_append, List.length_cons] at he
    unfold law09_Copy_1
    rw [if_pos (lt_len pre ev r), idx_app]
    simp only [Option.bind_some]
    rw [h3]
    simp only [Option.bind_some]
    rw [if_pos (capOk_le (by omega) (by omega)), wr_snoc pre ev r (by simp; omega)]
    exact ih
theorem copy_eq (s : List (List (List Int))) (he : s.length ≤ 50000) (hs : ∀ ev ∈ s, ev.length ≤ 50000 ∧ ∀ t ∈ ev, t.length ≤ 50000) : law09_Copy s = some s := by
  unfold law09_Copy
  have := copy_1 s he hs s [] 100000 rfl (by omega)
  rw [show ((([] : List (List (List Int))).length : Nat) : Int) = 0 from rfl] at this
  rw [this]; rfl
theorem sameInts_1 (xs : List Int) (hxs : xs.length ≤ 50000) : ∀ (r pre : List Int) (f : Nat), xs = pre ++ r → r.length < f → kit_SameInts_1 xs xs f pre.length = some (.inl ())
  | [], pre, f + 1, h, _ => by
    subst h
    unfold kit_SameInts_1
    rw [nlt_len]
    rfl
  | v :: r, pre, f + 1, h, hf => by
    have ih := sameInts_1 xs hxs r (pre ++ [v]) f (by rw [h]; simp) (by simp at hf; omega)
    subst h
    unfold kit_SameInts_1
    rw [if_pos (lt_len pre v r), idx_app]
    simp only [Option.bind_some]
    rw [wr_snoc pre v r (by omega)]
    simp only [bne_self_eq_false, Bool.false_eq_true, if_false]
    exact ih
theorem sameInts_self (xs : List Int) (hxs : xs.length ≤ 50000) : kit_SameInts xs xs = some true := by
  unfold kit_SameInts
  have := sameInts_1 xs hxs xs [] 100000 rfl (by omega)
  rw [show ((([] : List Int).length : Nat) : Int) = 0 from rfl] at this
  simp only [bne_self_eq_false, Bool.false_eq_true, if_false]
  rw [this]; rfl
theorem sameLists_1 (xs : List (List Int)) (hxs : xs.length ≤ 50000) (hs : ∀ t ∈ xs, t.length ≤ 50000) : ∀ (r pre : List (List Int)) (f : Nat), xs = pre ++ r → r.length < f → kit_SameLists_1 xs xs f pre.length = some (.inl ())
  | [], pre, f + 1, h, _ => by
    subst h
    unfold kit_SameLists_1
    rw [nlt_len]
    rfl
  | v :: r, pre, f + 1, h, hf => by
    have hv := hs v (by rw [h]; simp)
    have ih := sameLists_1 xs hxs hs r (pre ++ [v]) f (by rw [h]; simp) (by simp at hf; omega)
    subst h
    unfold kit_SameLists_1
    rw [if_pos (lt_len pre v r), idx_app]
    simp only [Option.bind_some]
    rw [sameInts_self v hv]
    simp only [Option.bind_some]
    rw [wr_snoc pre v r (by omega)]
    simp only [Bool.not_true, Bool.false_eq_true, if_false]
    exact ih
theorem sameLists_self (xs : List (List Int)) (hxs : xs.length ≤ 50000) (hs : ∀ t ∈ xs, t.length ≤ 50000) : kit_SameLists xs xs = some true := by
  unfold kit_SameLists
  have := sameLists_1 xs hxs hs xs [] 100000 rfl (by omega)
  rw [show ((([] : List (List Int)).length : Nat) : Int) = 0 from rfl] at this
  simp only [bne_self_eq_false, Bool.false_eq_true, if_false]
  rw [this]; rfl
theorem equalFunc_1 (xs : List (List (List Int))) (hxs : xs.length ≤ 50000) (hs : ∀ ev ∈ xs, ev.length ≤ 50000 ∧ ∀ t ∈ ev, t.length ≤ 50000) : ∀ (r pre : List (List (List Int))) (f : Nat), xs = pre ++ r → r.length < f → slices_EqualFunc_LLL_LLL_LL_LL__law09_Same_1_1 xs xs f pre.length = some (.inl ())
  | [], pre, f + 1, h, _ => by
    subst h
    unfold slices_EqualFunc_LLL_LLL_LL_LL__law09_Same_1_1
    rw [nlt_len]
    rfl
  | v :: r, pre, f + 1, h, hf => by
    obtain ⟨h1, h2⟩ := hs v (by rw [h]; simp)
    have ih := equalFunc_1 xs hxs hs r (pre ++ [v]) f (by rw [h]; simp) (by simp at hf; omega)
    subst h
    unfold slices_EqualFunc_LLL_LLL_LL_LL__law09_Same_1_1
    rw [if_pos (lt_len pre v r), idx_app]
    simp only [Option.bind_some, law09_Same_1]
    rw [sameLists_self v h1 h2]
    simp only [Option.bind_some]
    rw [wr_snoc pre v r (by omega)]
    simp only [Bool.not_true, Bool.false_eq_true, if_false]
    exact ih
theorem same_self (xs : List (List (List Int))) (hxs : xs.length ≤ 50000) (hs : ∀ ev ∈ xs, ev.length ≤ 50000 ∧ ∀ t ∈ ev, t.length ≤ 50000) : law09_Same xs xs = some true := by
  unfold law09_Same slices_EqualFunc_LLL_LLL_LL_LL__law09_Same_1
  have := equalFunc_1 xs hxs hs xs [] 100000 rfl (by omega)
  rw [show ((([] : List (List (List Int))).length : Nat) : Int) = 0 from rfl] at this
  simp only [bne_self_eq_false, Bool.false_eq_true, if_false]
  rw [this]; rfl
theorem flat_mem {α : Type} : ∀ {s : List (List (List α))} {ev : List (List α)}, ev ∈ s → ev.flatten.length ≤ s.flatten.flatten.length
  | a :: s, ev, h => by
    simp only [List.flatten_cons, List.flatten_append, List.length_append]
    rcases List.mem_cons.1 h with rfl | h
    · omega
    · have := flat_mem h; omega
theorem FewS.lens {s : List (List (List Int))} {most : Nat} (h : FewS s most) (hm : most ≤ 1000) : s.length ≤ 50000 ∧ ∀ ev ∈ s, (ev.length ≤ 50000 ∧ ev.flatten.length ≤ 50000 ∧ ∀ t ∈ ev, t.length ≤ 50000) := by
  refine ⟨by have := h.evs; omega, fun ev he => ?_⟩
  have h1 := h.tabs ev he
  have h2 := flat_mem he
  have h3 := h.nums
  refine ⟨by omega, by omega, fun t ht => ?_⟩
  have := len_mem ht
  omega
/-- The schedule's check, told by that of its evenings. -/
def chkS (n : Int) (sizes : List Int) : List (List (List Int)) → Int → Int × Int
  | [], _ => (0, 0)
  | ev :: r, i => if chk n sizes ev != 0 then (i, chk n sizes ev) else chkS n sizes r (i + 1)
def chkAll (n : Int) (sizes : List Int) (s : List (List (List Int))) : Int × Int :=
  if (decide (n < 1) || decide (n > 64) || (decide ((sizes.length : Int) > 0) && !fitP n sizes)) = true then (0, 90) else if s.length > 64 then (0, 7) else chkS n sizes s 0
theorem check_loop (n : Int) (hn0 : 0 ≤ n) (hn : n ≤ 64) (sizes : List Int) (s : List (List (List Int))) (hs : s.length ≤ 50000) (hl : ∀ ev ∈ s, ev.length ≤ 50000 ∧ ev.flatten.length ≤ 50000) : ∀ (r pre : List (List (List Int))) (f : Nat), s = pre ++ r → r.length < f →
    (∃ q, evening_Check_1 n sizes s f pre.length = some q ∧ ref09_Check_1 n sizes s f pre.length = some q ∧ (match q with | .inl _ => chkS n sizes r pre.length = (0, 0) | .inr w => chkS n sizes r pre.length = w))
  | [], pre, f + 1, h, _ => by
    subst h
    refine ⟨.inl (), ?_, ?_, rfl⟩
    · unfold evening_Check_1; rw [nlt_len]; rfl
    · unfold ref09_Check_1; rw [nlt_len]; rfl
  | ev :: r, pre, f + 1, h, hf => by
    obtain ⟨h1, h2⟩ := hl ev (by rw [h]; simp)
    obtain ⟨q, a1, a2, a3⟩ := check_loop n hn0 hn sizes s hs hl r (pre ++ [ev]) f (by rw [h]; simp) (by simp at hf; omega)
    have e1 := evening_check_eq n hn0 hn sizes ev h1 h2
    have e2 := ref09_CheckEvening_eq n hn0 hn sizes ev h1 h2
    rw [← snoc_len] at a3
    cases hc : (chk n sizes ev != 0) with
    | true =>
      refine ⟨.inr ((pre.length : Int), chk n sizes ev), ?_, ?_, by simp [chkS, hc]⟩
      · subst h
        unfold evening_Check_1
        rw [if_pos (lt_len pre ev r), idx_app]
        simp only [Option.bind_some]
        rw [e1]
        simp only [Option.bind_some, hc, if_true]
      · subst h
        unfold ref09_Check_1
        rw [if_pos (lt_len pre ev r), idx_app]
        simp only [Option.bind_some]
        rw [e2]
        simp only [Option.bind_some, hc, if_true]
    | false =>
      refine ⟨q, ?_, ?_, ?_⟩
      · subst h
        unfold evening_Check_1
        rw [if_pos (lt_len pre ev r), idx_app]
        simp only [Option.bind_some]
        rw [e1]
        simp only [Option.bind_some, hc, Bool.false_eq_true, if_false]
        rw [wr_snoc pre ev r (by omega)]
        exact a1
      · subst h
        unfold ref09_Check_1
        rw [if_pos (lt_len pre ev r), idx_app]
        simp only [Option.bind_some]
        rw [e2]
        simp only [Option.bind_some, hc, Bool.false_eq_true, if_false]
        rw [wr_snoc pre ev r (by omega)]
        exact a2
      · simp only [chkS, hc, Bool.false_eq_true, if_false]
        exact a3
theorem check_both (n : Int) (hn : in64 n) (sizes : List Int) (hsz : sizes.length ≤ 1000) (s : List (List (List Int))) (hs : s.length ≤ 50000) (hl : ∀ ev ∈ s, ev.length ≤ 50000 ∧ ev.flatten.length ≤ 50000) : evening_Check n sizes s = some (chkAll n sizes s) ∧ ref09_Check n sizes s = some (chkAll n sizes s) := by
  have hg : evening_guests n = some (decide (1 ≤ n) && decide (n ≤ 64)) := by
    unfold evening_guests
    by_cases h : 1 ≤ n
    · simp [h]
    · simp [h]
  unfold evening_Check ref09_Check chkAll
  rw [hg, evening_fit_eq n hn sizes hsz, ref09_Fit_eq n sizes hsz]
  simp only [Option.bind_some]
  by_cases h1 : n < 1
  · have h1' : ¬ 1 ≤ n := by omega
    simp [h1, h1']
  · by_cases h2 : n > 64
    · have h2' : ¬ n ≤ 64 := by omega
      simp [h1, h2, h2']
    · have h1' : 1 ≤ n := by omega
      have h2' : n ≤ 64 := by omega
      simp only [h1, h2, h1', h2', decide_true, decide_false, Bool.and_self, Bool.not_true, Bool.false_eq_true, if_false, Bool.false_or]
      by_cases h3 : (sizes.length : Int) > 0
      · cases hf : fitP n sizes with
        | false =>
          have h3' : 0 < sizes.length := by omega
          simp [h3']
        | true =>
          simp only [h3, decide_true, if_true, Bool.not_true, Option.bind_some, Bool.and_false, Bool.false_eq_true, if_false]
          by_cases h4 : s.length > 64
          · have h4' : decide ((s.length : Int) > 64) = true := by simp; omega
            simp only [h4', h4, if_true, and_self]
          · have h4' : decide ((s.length : Int) > 64) = false := by simp; omega
            simp only [h4', h4, if_false, Bool.false_eq_true]
            obtain ⟨q, a1, a2, a3⟩ := check_loop n (by omega) h2' sizes s hs hl s [] 100000 rfl (by omega)
            rw [show ((([] : List (List (List Int))).length : Nat) : Int) = 0 from rfl] at a1 a2 a3
            rw [a1, a2]
            cases q with
            | inl w => simp only at a3; simp [a3]
            | inr w => simp only at a3; simp [a3]
      · simp only [h3, decide_false, Bool.false_eq_true, if_false, Option.bind_some, Bool.false_and]
        by_cases h4 : s.length > 64
        · have h4' : decide ((s.length : Int) > 64) = true := by simp; omega
          simp only [h4', h4, if_true, and_self]
        · have h4' : decide ((s.length : Int) > 64) = false := by simp; omega
          simp only [h4', h4, if_false, Bool.false_eq_true]
          obtain ⟨q, a1, a2, a3⟩ := check_loop n (by omega) h2' sizes s hs hl s [] 100000 rfl (by omega)
          rw [show ((([] : List (List (List Int))).length : Nat) : Int) = 0 from rfl] at a1 a2 a3
          rw [a1, a2]
          cases q with
          | inl w => simp only at a3; simp [a3]
          | inr w => simp only at a3; simp [a3]
theorem checks_law (n : Int) (hn : in64 n) (sizes : List Int) (s : List (List (List Int))) (hs : ShortS s) : law09_EveningChecks n sizes s = some true := by
  unfold law09_EveningChecks
  by_cases h : (sizes.length : Int) > 20
  · simp [h, law09_awake]
  · obtain ⟨b, hb, hb2⟩ := few_eq s 400 (by omega) hs
    rw [show ((400 : Nat) : Int) = 400 from rfl] at hb
    rw [hb]
    simp only [h, decide_false, Bool.false_eq_true, if_false, Option.bind_some]
    cases b with
    | false => simp [law09_awake]
    | true =>
      have hf := hb2 rfl
      obtain ⟨l1, l2⟩ := hf.lens (by omega)
      obtain ⟨c1, c2⟩ := check_both n hn sizes (by omega) s l1 (fun ev he => ⟨(l2 ev he).1, (l2 ev he).2.1⟩)
      have hl : ∀ ev ∈ s, ev.length ≤ 50000 ∧ ∀ t ∈ ev, t.length ≤ 50000 := fun ev he => ⟨(l2 ev he).1, (l2 ev he).2.2⟩
      rw [copy_eq s l1 hl, clone_self sizes (by omega)]
      simp only [Bool.not_true, Bool.false_eq_true, if_false, Option.bind_some, c1, c2, beq_self_eq_true, if_true, same_self s l1 hl, equal_self sizes (by omega)]
      rfl
end Go.Proofs.YthofgamegondnaaDoor

namespace Go.Proofs.YthofgamegondnaaDoor.eveningChecks
open Go.ChangeShapes Go.WideShapes Go.ChangeAt Go.RowKit
theorem law_ret (a0 : Int) (a1 : (List Int)) (a2 : (List (List (List Int)))) (h : law09_EveningChecks a0 a1 a2 = some true) {w : World} {v0 v1 v2 : Value} (h0 : VR w (fun c => c < w.heap.size) [] (cdI.enc a0) v0) (h1 : VR w (fun c => c < w.heap.size) [] ((cdL 1 cdI).enc a1) v1) (h2 : VR w (fun c => c < w.heap.size) [] ((cdL 1 (cdL 1 (cdL 1 cdI))).enc a2) v2) : Ret Tryd.prog 6 #[v0, v1, v2] w fun v w' => v = .bool true ∧ w.grownBy w' none :=
  Ret.mono (x_law09_EveningChecks.2 (cs_law09_EveningChecks.enc (a0, a1, a2, ())) (er_law09_EveningChecks true) (told_enc (s := cs_law09_EveningChecks) (a := (a0, a1, a2, ())) h) w (fun c => c < w.heap.size) [v0, v1, v2] (fun c hc => hc) (fun g x h => by cases h) (.cons h0 (.cons h1 (.cons h2 .nil)))) fun v w' h => ⟨h.2.v_inv, h.1⟩
set_option maxRecDepth 100000 in
theorem contract (H : Type) (enc : TypeId × Value → H) (W : World) (base : Nat) (args : Array Value) (ds gs : List (DataW H)) (before : List MemPlace)
    (hval : ∀ (j : Nat) t v, Tryd.f6.params[j]? = some t → args[j]? = some v → Value.okWide Tryd.prog W .any base t v)
    (hW : DataW.Whole enc Tryd.prog Tryd.f6.params.toList Rows.eveningChecksSpec.vars false W args.toList ds gs before)
    (hsz : (DataW.weightsEach Tryd.prog (Tryd.f6.params.toList ++ (OpenSpec.ofChange Rows.eveningChecksSpec).bare.plain.varTypes Tryd.prog) (ds ++ gs)).all (· ≤ reachBytes) = true) :
    Calls Tryd.prog 6 args W fun e W' => ∃ v, e = .returned v ∧ Rows.eveningChecksSpec.post enc Tryd.prog Tryd.f6 false true false false W args v W' := by
  have hW' := hW
  obtain ⟨p, q, hA0, hV, rfl, hfz, hnd⟩ := hW
  have hA : DataW.TrodAll enc Tryd.prog W 0 (fun _ => true) true Tryd.f6.params.toList args.toList ds p := hA0
  have hpar : Tryd.f6.params = #[3, 24, 29] := by kernel_rfl
  rw [hpar] at hA hval
  obtain ⟨v0, vs0, d0, ds0, p0, q0, hargs, rfl, rfl, h0, r0⟩ := trodAll_cons hA
  obtain ⟨v1, vs1, d1, ds1, p1, q1, rfl, rfl, rfl, h1, r1⟩ := trodAll_cons r0
  obtain ⟨v2, vs2, d2, ds2, p2, q2, rfl, rfl, rfl, h2, r2⟩ := trodAll_cons r1
  obtain ⟨rfl, rfl, rfl⟩ := trodAll_nil r2
  obtain rfl : args = #[v0, v1, v2] := by apply Array.ext'; simpa using hargs
  obtain ⟨a0, k0, g0⟩ := rd_arg (rd_int64 (by kernel_rfl : Tryd.prog.underlying 3 = some (.int .i64))) (one_int (by kernel_rfl : Tryd.prog.underlying 3 = some (.int .i64)) (hval 0 3 v0 rfl rfl)) h0 hsz (j := 0) (by kernel_rfl) rfl
  obtain ⟨a1, k1, g1⟩ := rd_arg (rd_slice (by kernel_rfl : Tryd.prog.underlying 24 = some (.slice 3)) (by kernel_rfl) (by kernel_rfl) (rd_int64 (by kernel_rfl : Tryd.prog.underlying 3 = some (.int .i64)))) (one_slice (by kernel_rfl : Tryd.prog.underlying 24 = some (.slice 3)) (hval 1 24 v1 rfl rfl)) h1 hsz (j := 1) (by kernel_rfl) rfl
  obtain ⟨a2, k2, g2⟩ := rd_arg (rd_slice (by kernel_rfl : Tryd.prog.underlying 29 = some (.slice 49)) (by kernel_rfl) (by kernel_rfl) (rd_slice (by kernel_rfl : Tryd.prog.underlying 49 = some (.slice 24)) (by kernel_rfl) (by kernel_rfl) (rd_slice (by kernel_rfl : Tryd.prog.underlying 24 = some (.slice 3)) (by kernel_rfl) (by kernel_rfl) (rd_int64 (by kernel_rfl : Tryd.prog.underlying 3 = some (.int .i64)))))) (one_slice (by kernel_rfl : Tryd.prog.underlying 29 = some (.slice 49)) (hval 2 29 v2 rfl rfl)) h2 hsz (j := 2) (by kernel_rfl) rfl
  have hc := law_ret a0 a1 a2 (checks_law a0 g0 a1 a2 ⟨g2.1, fun ev he => ⟨(g2.2 ev he).1, fun t ht => ((g2.2 ev he).2 t ht).1⟩⟩) k0 k1 k2
  unfold Ret at hc
  refine hc.mono fun e W' he => ?_
  cases e with
  | returned v =>
    obtain ⟨rfl, hg⟩ := he
    exact ⟨_, rfl, post_true laidOut (fun t ht => ⟨mem_of_laid (fun t => Tryd.prog.readableRec t) (by kernel_rfl) ht, of_decide_eq_true (mem_of_laid (fun t => decide (t < Tryd.prog.types.size)) (by kernel_rfl) ht)⟩) hW' rfl (by kernel_rfl) (by kernel_rfl : Tryd.prog.underlying 4 = some .bool) rfl hg⟩
  | panicked c => exact he.elim
  | outgrown => exact he.elim
theorem laid_met (os : Os) : laidMet Tryd.prog Rows.eveningChecksRow.laid ((laidWorld os).forCall (fun _ _ => 0) ⟨#[], #[Value.int .i64 0, Value.slice none 0 0, Value.slice none 0 0], []⟩).memory :=
  laidMet_of_run' 8 (by kernel_rfl) (by kernel_rfl)
theorem reads (os : Os) {H : Type} (enc : TypeId × Value → H) : ∃ places, DataW.whole enc Tryd.prog ((laidWorld os).forCall (fun _ _ => 0) ⟨#[], #[Value.int .i64 0, Value.slice none 0 0, Value.slice none 0 0], []⟩).memory Tryd.f6.params.toList Rows.eveningChecksSpec.vars false #[Value.int .i64 0, Value.slice none 0 0, Value.slice none 0 0].toList 8 = some ([.lit (.int .i64 0), .nil, .nil], [], places) :=
  ⟨[], by kernel_rfl⟩
set_option maxRecDepth 100000 in
theorem lifted (os : Os) (started : os.Started) (H : Type) (enc : TypeId × Value → H) (F : Stop.Interp) :
    ReturnsInHanded {} Tryd.checked os 6 .any ((OpenSpec.ofChange Rows.eveningChecksSpec).preRow enc Tryd.prog Tryd.f6 Rows.eveningChecksRow.domain false Rows.eveningChecksRow.laid) (((OpenSpec.ofChange Rows.eveningChecksSpec).at F).post enc Tryd.prog Tryd.f6 false true false false) := by
  obtain ⟨places, hx⟩ := reads os enc
  refine returnsInHanded_of_row (C := Tryd.checked) (s := OpenSpec.ofChange Rows.eveningChecksSpec) ownKnob0 started (by kernel_rfl) Tryd.func6
    (witness_row_at (enc := enc) (C := Tryd.checked) false (laidWorld os) #[Value.int .i64 0, Value.slice none 0 0, Value.slice none 0 0] rfl (by kernel_rfl) (by kernel_rfl) (by kernel_rfl)
      (OpenSpec.preRow_of_cond 8 hx (by kernel_rfl) (fun k hk => by cases hk) (by kernel_rfl) (laid_met os))) ?_
  intro W base args ds gs before hval hW _ _ hsz _ _ _
  exact contract H enc W base args ds gs before hval hW hsz
theorem said : Rows.EveningChecksSaid :=
  OpenClaim.holds_of_cond 6 Tryd.f6 rfl rfl rfl rfl rfl rfl rfl ⟨rfl, rfl, rfl, rfl, rfl⟩ rfl rfl rfl rfl rfl (by kernel_rfl) Tryd.func6 (by kernel_rfl)
    (of_decide_eq_true (by kernel_rfl)) (by unfold Func.isWrapper; first | (rw [if_pos (by decide +kernel)]; kernel_rfl) | (rw [if_neg (by decide +kernel)]; exact ⟨rfl, rfl⟩))
    (fun os started H enc _ F => by rw [OpenClaim.pre_eq_preRow]; exact lifted os started H enc F)
theorem plain (f : FuncId) (fn : Func) (hf : Tryd.pinned.checked.prog.funcNamed "trestle/trestlelaw09.EveningChecks" = some f) (hfn : Tryd.pinned.checked.prog.funcs[f]? = some fn) :
    false = Tryd.pinned.checked.prog.looks [] ∧ ∀ (j : Nat) t, fn.params[j]? = some t → Tryd.pinned.checked.prog.wantsStandIn t = false := by
  obtain rfl : f = 6 := Option.some.inj ((show Tryd.prog.funcNamed "trestle/trestlelaw09.EveningChecks" = some 6 by kernel_rfl).symm.trans hf) |>.symm
  obtain rfl : fn = Tryd.f6 := (Option.some.inj (Tryd.func6.symm.trans hfn)).symm
  refine ⟨by kernel_rfl, fun j t ht => ?_⟩
  have hm : t ∈ Tryd.f6.params.toList := by simpa using Array.mem_of_getElem? ht
  exact (show Tryd.prog.wantsStandIn t = false from Bool.not_eq_true' _ |>.mp (mem_of_laid (fun t => !Tryd.prog.wantsStandIn t) (by kernel_rfl) hm))
theorem card : Rows.EveningChecksCardSaid :=
  Claim7.holds_tied_plain_at .later [] _ _ _ _ said (fun _ h => by cases h) (by kernel_rfl) (fun _ h => by cases h) eveningChecks_row_tie rfl ⟨rfl, rfl⟩ (by kernel_rfl) rfl plain (by kernel_rfl)
end Go.Proofs.YthofgamegondnaaDoor.eveningChecks
