/- A function of plain data that the program's function 7 computes. By a program of mine. -/
import Derived.Test.YthofgamegondnaaDoorCx
import Derived.Test.YthofgamegondnaaDoorKit
import Derived.Test.YthofgamegondnaaDoorF31
import Derived.Test.YthofgamegondnaaDoorF32
import Derived.Test.YthofgamegondnaaDoorF33
import Derived.Test.YthofgamegondnaaDoorF34
import Derived.Test.YthofgamegondnaaDoorF30
namespace Go.Proofs.YthofgamegondnaaDoor
open Go.RowKit
/- trestle/trestlelaw09.EveningBounds -/
noncomputable def e_law09_EveningBounds : Env := (((((((E0.withX 16 t_law09_awake).withX 27 t_slices_Clone_L_int).withX 31 t_evening_LeastMost).withX 32 t_ref09_LeastMost).withX 33 t_evening_MostEvenings).withX 34 t_ref09_MostEvenings).withX 30 t_slices_Equal_L_int)
theorem e_law09_EveningBounds_ok : EnvOk e_law09_EveningBounds := (EnvOk.withX (EnvOk.withX (EnvOk.withX (EnvOk.withX (EnvOk.withX (EnvOk.withX (EnvOk.withX E0_ok x_law09_awake.1 x_law09_awake.2) x_slices_Clone_L_int.1 x_slices_Clone_L_int.2) x_evening_LeastMost.1 x_evening_LeastMost.2) x_ref09_LeastMost.1 x_ref09_LeastMost.2) x_evening_MostEvenings.1 x_evening_MostEvenings.2) x_ref09_MostEvenings.1 x_ref09_MostEvenings.2) x_slices_Equal_L_int.1 x_slices_Equal_L_int.2)
def law09_EveningBounds (x0 : Int) (x1 : (List Int)) (x2 : Int) (x3 : Int) : Option (Bool) :=
  if (decide ((x1.length : Int) > 70)) = true then
  law09_awake.bind fun v2 =>
  some v2
  else
  (slices_Clone_L_int x1).bind fun v3 =>
  (evening_LeastMost x0 v3 x2).bind fun v4 =>
  (ref09_LeastMost x0 x1 x2).bind fun v5 =>
  (if (v4 == v5) = true then (evening_MostEvenings x0 v3 x3).bind fun v6 =>
  (ref09_MostEvenings x0 x1 x3).bind fun v7 =>
  if (v6 == v7) = true then (slices_Equal_L_int v3 x1).bind fun v8 =>
  if v8 = true then law09_awake.bind fun v9 =>
  some v9 else some false else some false else some false).bind fun j11 =>
  some j11
def cs_law09_EveningBounds : Cs (Int × (List Int) × Int × Int × Unit) := (csC cdI (csC (cdL 1 cdI) (csC cdI (csC cdI csN))))
def er_law09_EveningBounds (r : Bool) : AV := cdB.enc r
noncomputable def cb_law09_EveningBounds : Code := codeOf Tryd.f7
set_option maxRecDepth 100000 in
theorem law09_EveningBounds_sem (x0 : Int) (x1 : (List Int)) (x2 : Int) (x3 : Int) (r : Bool) (h : law09_EveningBounds x0 x1 x2 x3 = some r) : Sem e_law09_EveningBounds ⟨none, false⟩ cb_law09_EveningBounds ⟨Fr 44 (pairs0 0 (cs_law09_EveningBounds.enc (x0, x1, x2, x3, ()))), []⟩ fun e s' => (e = .normal ∨ e = .ret) ∧ ∃ xs, resA e_law09_EveningBounds.P s'.fr s'.hp Tryd.f7.results.toList = some xs ∧ retA xs = er_law09_EveningBounds r := by
  unfold law09_EveningBounds at h
  refine Sem.wkQ (Sem.wk (s1 := ⟨Fr 44 [(0, .v (.int .i64 x0)), (1, .sl 1 (x1.map cdI.enc)), (2, .v (.int .i64 x2)), (3, .v (.int .i64 x3))], []⟩) (Wk.fr (by kernel_rfl)) ?_)
  refine Sem.seq ?_
  refine Sem.runS (s1 := ⟨Fr 44 [(0, .v (.int .i64 x0)), (1, .sl 1 (x1.map cdI.enc)), (2, .v (.int .i64 x2)), (3, .v (.int .i64 x3))], []⟩) ?_ ?_
  · refine RunS.seg e_law09_EveningBounds_ok 1 (s1 := ⟨Fr 44 [(0, .v (.int .i64 x0)), (1, .sl 1 (x1.map cdI.enc)), (2, .v (.int .i64 x2)), (3, .v (.int .i64 x3)), (8, .v (.bool false))], []⟩) (by kernel_rfl) ?_
    exact RunS.done rfl (Wk.fr (by kernel_rfl))
  refine Sem.seq ?_
  refine Sem.seq ?_
  refine Sem.runS (s1 := ⟨Fr 44 [(0, .v (.int .i64 x0)), (1, .sl 1 (x1.map cdI.enc)), (2, .v (.int .i64 x2)), (3, .v (.int .i64 x3)), (12, .v (.bool (decide ((x1.length : Int) > 70))))], []⟩) ?_ ?_
  · refine RunS.seg e_law09_EveningBounds_ok 1 (s1 := ⟨Fr 44 [(0, .v (.int .i64 x0)), (1, .sl 1 (x1.map cdI.enc)), (2, .v (.int .i64 x2)), (3, .v (.int .i64 x3)), (10, .sl 1 (x1.map cdI.enc))], []⟩) (by kernel_rfl) ?_
    refine RunS.one e_law09_EveningBounds_ok 0 rfl (op_q (wantedA_none rfl) rfl (q_len (a := .sl 1 (x1.map cdI.enc)) (by kernel_rfl) (len_sl (el := 3) (by kernel_rfl)))) ?_
    refine RunS.seg e_law09_EveningBounds_ok 1 (s1 := ⟨Fr 44 [(0, .v (.int .i64 x0)), (1, .sl 1 (x1.map cdI.enc)), (2, .v (.int .i64 x2)), (3, .v (.int .i64 x3)), (10, .sl 1 (x1.map cdI.enc)), (11, .v (.int .i64 (x1.length : Int))), (12, .v (.bool (decide ((x1.length : Int) > 70))))], []⟩) (by kernel_rfl) ?_
    exact RunS.done rfl (Wk.fr (by kernel_rfl))
  refine Sem.cond (b := (decide ((x1.length : Int) > 70))) (by kernel_rfl) (fun hb1 => ?_) (fun hb1 => ?_)
  · rw [if_pos hb1] at h
    refine Sem.seq ?_
    obtain ⟨v2, hv2, h⟩ := Option.bind_eq_some_iff.1 h
    refine Sem.runS (s1 := ⟨Fr 44 [(8, .v (.bool v2))], []⟩) ?_ ?_
    · refine RunS.call e_law09_EveningBounds_ok (fid := 16) (s := cs_law09_awake) (F := fun a => law09_awake ) (er := er_law09_awake) (xs := []) (a := (())) rfl (wantedA_none rfl) (by kernel_rfl) (by kernel_rfl) (by kernel_rfl) (by kernel_rfl) Sns.nil (.inl (by kernel_rfl)) hv2 ?_
      refine RunS.seg e_law09_EveningBounds_ok 1 (s1 := ⟨Fr 44 [(0, .v (.int .i64 x0)), (1, .sl 1 (x1.map cdI.enc)), (2, .v (.int .i64 x2)), (3, .v (.int .i64 x3)), (8, .v (.bool v2)), (12, .v (.bool (decide ((x1.length : Int) > 70)))), (13, .v (.bool v2))], []⟩) (by kernel_rfl) ?_
      exact RunS.done rfl (Wk.fr (by kernel_rfl))
    refine Sem.ret ?_
    have hq := Option.some.inj h; subst hq
    exact ⟨⟨Fr 44 [(8, .v (.bool v2))], []⟩, (Wk.fr (by kernel_rfl)), .inr rfl, [.v (.bool v2)], (by kernel_rfl), (by kernel_rfl)⟩
  · rw [if_f hb1] at h
    refine Sem.skip ?_
    refine Sem.seq ?_
    obtain ⟨v3, hv3, h⟩ := Option.bind_eq_some_iff.1 h
    refine Sem.runS (s1 := ⟨Fr 44 [(0, .v (.int .i64 x0)), (1, .sl 1 (x1.map cdI.enc)), (2, .v (.int .i64 x2)), (3, .v (.int .i64 x3)), (9, .sl 1 (v3.map cdI.enc))], []⟩) ?_ ?_
    · refine RunS.seg e_law09_EveningBounds_ok 1 (s1 := ⟨Fr 44 [(0, .v (.int .i64 x0)), (1, .sl 1 (x1.map cdI.enc)), (2, .v (.int .i64 x2)), (3, .v (.int .i64 x3)), (12, .v (.bool (decide ((x1.length : Int) > 70)))), (14, .sl 1 (x1.map cdI.enc))], []⟩) (by kernel_rfl) ?_
      refine RunS.call e_law09_EveningBounds_ok (fid := 27) (s := cs_slices_Clone_L_int) (F := fun a => slices_Clone_L_int a.1) (er := er_slices_Clone_L_int) (xs := [.sl 1 (x1.map cdI.enc)]) (a := (x1, ())) rfl (wantedA_none rfl) (by kernel_rfl) (by kernel_rfl) (by kernel_rfl) (by kernel_rfl) (Sns.cons (Sn.enc (c := (cdL 1 cdI)) (v := x1)) Sns.nil) (.inl (by kernel_rfl)) hv3 ?_
      refine RunS.seg e_law09_EveningBounds_ok 1 (s1 := ⟨Fr 44 [(0, .v (.int .i64 x0)), (1, .sl 1 (x1.map cdI.enc)), (2, .v (.int .i64 x2)), (3, .v (.int .i64 x3)), (9, .sl 1 (v3.map cdI.enc)), (12, .v (.bool (decide ((x1.length : Int) > 70)))), (14, .sl 1 (x1.map cdI.enc)), (15, .sl 1 (v3.map cdI.enc))], []⟩) (by kernel_rfl) ?_
      exact RunS.done rfl (Wk.fr (by kernel_rfl))
    refine Sem.seq ?_
    obtain ⟨v4, hv4, h⟩ := Option.bind_eq_some_iff.1 h
    obtain ⟨v5, hv5, h⟩ := Option.bind_eq_some_iff.1 h
    obtain ⟨j11, hj11, h⟩ := Option.bind_eq_some_iff.1 h
    refine Sem.runS (s1 := ⟨Fr 44 [(8, .v (.bool j11))], []⟩) ?_ ?_
    · refine RunS.seg e_law09_EveningBounds_ok 3 (s1 := ⟨Fr 44 [(0, .v (.int .i64 x0)), (1, .sl 1 (x1.map cdI.enc)), (2, .v (.int .i64 x2)), (3, .v (.int .i64 x3)), (9, .sl 1 (v3.map cdI.enc)), (16, .v (.int .i64 x0)), (17, .sl 1 (v3.map cdI.enc)), (18, .v (.int .i64 x2))], []⟩) (by kernel_rfl) ?_
      refine RunS.call e_law09_EveningBounds_ok (fid := 31) (s := cs_evening_LeastMost) (F := fun a => evening_LeastMost a.1 a.2.1 a.2.2.1) (er := er_evening_LeastMost) (xs := [.v (.int .i64 x0), .sl 1 (v3.map cdI.enc), .v (.int .i64 x2)]) (a := (x0, v3, x2, ())) rfl (wantedA_none rfl) (by kernel_rfl) (by kernel_rfl) (by kernel_rfl) (by kernel_rfl) (Sns.cons (Sn.enc (c := cdI) (v := x0)) (Sns.cons (Sn.enc (c := (cdL 1 cdI)) (v := v3)) (Sns.cons (Sn.enc (c := cdI) (v := x2)) Sns.nil))) (.inl (by kernel_rfl)) hv4 ?_
      refine RunS.seg e_law09_EveningBounds_ok 3 (s1 := ⟨Fr 44 [(0, .v (.int .i64 x0)), (1, .sl 1 (x1.map cdI.enc)), (2, .v (.int .i64 x2)), (3, .v (.int .i64 x3)), (9, .sl 1 (v3.map cdI.enc)), (16, .v (.int .i64 x0)), (17, .sl 1 (v3.map cdI.enc)), (18, .v (.int .i64 x2)), (19, .v (.int .i64 v4)), (20, .v (.int .i64 x0)), (21, .sl 1 (x1.map cdI.enc)), (22, .v (.int .i64 x2))], []⟩) (by kernel_rfl) ?_
      refine RunS.call e_law09_EveningBounds_ok (fid := 32) (s := cs_ref09_LeastMost) (F := fun a => ref09_LeastMost a.1 a.2.1 a.2.2.1) (er := er_ref09_LeastMost) (xs := [.v (.int .i64 x0), .sl 1 (x1.map cdI.enc), .v (.int .i64 x2)]) (a := (x0, x1, x2, ())) rfl (wantedA_none rfl) (by kernel_rfl) (by kernel_rfl) (by kernel_rfl) (by kernel_rfl) (Sns.cons (Sn.enc (c := cdI) (v := x0)) (Sns.cons (Sn.enc (c := (cdL 1 cdI)) (v := x1)) (Sns.cons (Sn.enc (c := cdI) (v := x2)) Sns.nil))) (.inl (by kernel_rfl)) hv5 ?_
      refine RunS.seg e_law09_EveningBounds_ok 2 (s1 := ⟨Fr 44 [(0, .v (.int .i64 x0)), (1, .sl 1 (x1.map cdI.enc)), (2, .v (.int .i64 x2)), (3, .v (.int .i64 x3)), (9, .sl 1 (v3.map cdI.enc)), (16, .v (.int .i64 x0)), (17, .sl 1 (v3.map cdI.enc)), (18, .v (.int .i64 x2)), (19, .v (.int .i64 v4)), (20, .v (.int .i64 x0)), (21, .sl 1 (x1.map cdI.enc)), (22, .v (.int .i64 x2)), (23, .v (.int .i64 v5)), (24, .v (.bool (v4 == v5))), (25, .v (.bool (v4 == v5)))], []⟩) (by kernel_rfl) ?_
      rcases Bool.eq_false_or_eq_true (v4 == v5) with hc12 | hc12
      · rw [if_pos hc12] at hj11
        rw [hc12]
        refine RunS.seg e_law09_EveningBounds_ok 3 (s1 := ⟨Fr 44 [(0, .v (.int .i64 x0)), (1, .sl 1 (x1.map cdI.enc)), (2, .v (.int .i64 x2)), (3, .v (.int .i64 x3)), (9, .sl 1 (v3.map cdI.enc)), (16, .v (.int .i64 x0)), (17, .sl 1 (v3.map cdI.enc)), (18, .v (.int .i64 x2)), (19, .v (.int .i64 v4)), (20, .v (.int .i64 x0)), (21, .sl 1 (x1.map cdI.enc)), (22, .v (.int .i64 x2)), (23, .v (.int .i64 v5)), (24, .v (.bool true)), (25, .v (.bool true)), (26, .v (.int .i64 x0)), (27, .sl 1 (v3.map cdI.enc)), (28, .v (.int .i64 x3))], []⟩) (by kernel_rfl) ?_
        obtain ⟨v6, hv6, hj11⟩ := Option.bind_eq_some_iff.1 hj11
        refine RunS.call e_law09_EveningBounds_ok (fid := 33) (s := cs_evening_MostEvenings) (F := fun a => evening_MostEvenings a.1 a.2.1 a.2.2.1) (er := er_evening_MostEvenings) (xs := [.v (.int .i64 x0), .sl 1 (v3.map cdI.enc), .v (.int .i64 x3)]) (a := (x0, v3, x3, ())) rfl (by kernel_rfl) (by kernel_rfl) (by kernel_rfl) (by kernel_rfl) (by kernel_rfl) (Sns.cons (Sn.enc (c := cdI) (v := x0)) (Sns.cons (Sn.enc (c := (cdL 1 cdI)) (v := v3)) (Sns.cons (Sn.enc (c := cdI) (v := x3)) Sns.nil))) (.inl (by kernel_rfl)) hv6 ?_
        refine RunS.seg e_law09_EveningBounds_ok 3 (s1 := ⟨Fr 44 [(0, .v (.int .i64 x0)), (1, .sl 1 (x1.map cdI.enc)), (2, .v (.int .i64 x2)), (3, .v (.int .i64 x3)), (9, .sl 1 (v3.map cdI.enc)), (16, .v (.int .i64 x0)), (17, .sl 1 (v3.map cdI.enc)), (18, .v (.int .i64 x2)), (19, .v (.int .i64 v4)), (20, .v (.int .i64 x0)), (21, .sl 1 (x1.map cdI.enc)), (22, .v (.int .i64 x2)), (23, .v (.int .i64 v5)), (24, .v (.bool true)), (25, .v (.bool true)), (26, .v (.int .i64 x0)), (27, .sl 1 (v3.map cdI.enc)), (28, .v (.int .i64 x3)), (29, .v (.int .i64 v6)), (30, .v (.int .i64 x0)), (31, .sl 1 (x1.map cdI.enc)), (32, .v (.int .i64 x3))], []⟩) (by kernel_rfl) ?_
        obtain ⟨v7, hv7, hj11⟩ := Option.bind_eq_some_iff.1 hj11
        refine RunS.call e_law09_EveningBounds_ok (fid := 34) (s := cs_ref09_MostEvenings) (F := fun a => ref09_MostEvenings a.1 a.2.1 a.2.2.1) (er := er_ref09_MostEvenings) (xs := [.v (.int .i64 x0), .sl 1 (x1.map cdI.enc), .v (.int .i64 x3)]) (a := (x0, x1, x3, ())) rfl (by kernel_rfl) (by kernel_rfl) (by kernel_rfl) (by kernel_rfl) (by kernel_rfl) (Sns.cons (Sn.enc (c := cdI) (v := x0)) (Sns.cons (Sn.enc (c := (cdL 1 cdI)) (v := x1)) (Sns.cons (Sn.enc (c := cdI) (v := x3)) Sns.nil))) (.inl (by kernel_rfl)) hv7 ?_
        refine RunS.seg e_law09_EveningBounds_ok 3 (s1 := ⟨Fr 44 [(0, .v (.int .i64 x0)), (1, .sl 1 (x1.map cdI.enc)), (2, .v (.int .i64 x2)), (3, .v (.int .i64 x3)), (9, .sl 1 (v3.map cdI.enc)), (16, .v (.int .i64 x0)), (17, .sl 1 (v3.map cdI.enc)), (18, .v (.int .i64 x2)), (19, .v (.int .i64 v4)), (20, .v (.int .i64 x0)), (21, .sl 1 (x1.map cdI.enc)), (22, .v (.int .i64 x2)), (23, .v (.int .i64 v5)), (24, .v (.bool true)), (25, .v (.bool true)), (26, .v (.int .i64 x0)), (27, .sl 1 (v3.map cdI.enc)), (28, .v (.int .i64 x3)), (29, .v (.int .i64 v6)), (30, .v (.int .i64 x0)), (31, .sl 1 (x1.map cdI.enc)), (32, .v (.int .i64 x3)), (33, .v (.int .i64 v7)), (34, .v (.bool (v6 == v7))), (35, .v (.bool (v6 == v7))), (36, .v (.bool (v6 == v7)))], []⟩) (by kernel_rfl) ?_
        rcases Bool.eq_false_or_eq_true (v6 == v7) with hc13 | hc13
        · rw [if_pos hc13] at hj11
          rw [hc13]
          refine RunS.seg e_law09_EveningBounds_ok 2 (s1 := ⟨Fr 44 [(0, .v (.int .i64 x0)), (1, .sl 1 (x1.map cdI.enc)), (2, .v (.int .i64 x2)), (3, .v (.int .i64 x3)), (9, .sl 1 (v3.map cdI.enc)), (16, .v (.int .i64 x0)), (17, .sl 1 (v3.map cdI.enc)), (18, .v (.int .i64 x2)), (19, .v (.int .i64 v4)), (20, .v (.int .i64 x0)), (21, .sl 1 (x1.map cdI.enc)), (22, .v (.int .i64 x2)), (23, .v (.int .i64 v5)), (24, .v (.bool true)), (25, .v (.bool true)), (26, .v (.int .i64 x0)), (27, .sl 1 (v3.map cdI.enc)), (28, .v (.int .i64 x3)), (29, .v (.int .i64 v6)), (30, .v (.int .i64 x0)), (31, .sl 1 (x1.map cdI.enc)), (32, .v (.int .i64 x3)), (33, .v (.int .i64 v7)), (34, .v (.bool true)), (35, .v (.bool true)), (36, .v (.bool true)), (37, .sl 1 (v3.map cdI.enc)), (38, .sl 1 (x1.map cdI.enc))], []⟩) (by kernel_rfl) ?_
          obtain ⟨v8, hv8, hj11⟩ := Option.bind_eq_some_iff.1 hj11
          refine RunS.call e_law09_EveningBounds_ok (fid := 30) (s := cs_slices_Equal_L_int) (F := fun a => slices_Equal_L_int a.1 a.2.1) (er := er_slices_Equal_L_int) (xs := [.sl 1 (v3.map cdI.enc), .sl 1 (x1.map cdI.enc)]) (a := (v3, x1, ())) rfl (by kernel_rfl) (by kernel_rfl) (by kernel_rfl) (by kernel_rfl) (by kernel_rfl) (Sns.cons (Sn.enc (c := (cdL 1 cdI)) (v := v3)) (Sns.cons (Sn.enc (c := (cdL 1 cdI)) (v := x1)) Sns.nil)) (.inl (by kernel_rfl)) hv8 ?_
          refine RunS.seg e_law09_EveningBounds_ok 2 (s1 := ⟨Fr 44 [(0, .v (.int .i64 x0)), (1, .sl 1 (x1.map cdI.enc)), (2, .v (.int .i64 x2)), (3, .v (.int .i64 x3)), (9, .sl 1 (v3.map cdI.enc)), (16, .v (.int .i64 x0)), (17, .sl 1 (v3.map cdI.enc)), (18, .v (.int .i64 x2)), (19, .v (.int .i64 v4)), (20, .v (.int .i64 x0)), (21, .sl 1 (x1.map cdI.enc)), (22, .v (.int .i64 x2)), (23, .v (.int .i64 v5)), (24, .v (.bool true)), (25, .v (.bool true)), (26, .v (.int .i64 x0)), (27, .sl 1 (v3.map cdI.enc)), (28, .v (.int .i64 x3)), (29, .v (.int .i64 v6)), (30, .v (.int .i64 x0)), (31, .sl 1 (x1.map cdI.enc)), (32, .v (.int .i64 x3)), (33, .v (.int .i64 v7)), (34, .v (.bool true)), (35, .v (.bool true)), (36, .v (.bool true)), (37, .sl 1 (v3.map cdI.enc)), (38, .sl 1 (x1.map cdI.enc)), (39, .v (.bool v8)), (40, .v (.bool v8)), (41, .v (.bool v8))], []⟩) (by kernel_rfl) ?_
          rcases Bool.eq_false_or_eq_true v8 with hc14 | hc14
          · rw [if_pos hc14] at hj11
            rw [hc14]
            obtain ⟨v9, hv9, hj11⟩ := Option.bind_eq_some_iff.1 hj11
            refine RunS.call e_law09_EveningBounds_ok (fid := 16) (s := cs_law09_awake) (F := fun a => law09_awake ) (er := er_law09_awake) (xs := []) (a := (())) rfl (by kernel_rfl) (by kernel_rfl) (by kernel_rfl) (by kernel_rfl) (by kernel_rfl) Sns.nil (.inl (by kernel_rfl)) hv9 ?_
            refine RunS.seg e_law09_EveningBounds_ok 2 (s1 := ⟨Fr 44 [(0, .v (.int .i64 x0)), (1, .sl 1 (x1.map cdI.enc)), (2, .v (.int .i64 x2)), (3, .v (.int .i64 x3)), (8, .v (.bool v9)), (9, .sl 1 (v3.map cdI.enc)), (16, .v (.int .i64 x0)), (17, .sl 1 (v3.map cdI.enc)), (18, .v (.int .i64 x2)), (19, .v (.int .i64 v4)), (20, .v (.int .i64 x0)), (21, .sl 1 (x1.map cdI.enc)), (22, .v (.int .i64 x2)), (23, .v (.int .i64 v5)), (24, .v (.bool true)), (25, .v (.bool true)), (26, .v (.int .i64 x0)), (27, .sl 1 (v3.map cdI.enc)), (28, .v (.int .i64 x3)), (29, .v (.int .i64 v6)), (30, .v (.int .i64 x0)), (31, .sl 1 (x1.map cdI.enc)), (32, .v (.int .i64 x3)), (33, .v (.int .i64 v7)), (34, .v (.bool true)), (35, .v (.bool true)), (36, .v (.bool true)), (37, .sl 1 (v3.map cdI.enc)), (38, .sl 1 (x1.map cdI.enc)), (39, .v (.bool true)), (40, .v (.bool true)), (41, .v (.bool true)), (42, .v (.bool v9)), (43, .v (.bool v9))], []⟩) (by kernel_rfl) ?_
            have hq := Option.some.inj hj11; subst hq
            exact RunS.done rfl (Wk.fr (by kernel_rfl))
          · rw [if_f hc14] at hj11
            rw [hc14]
            refine RunS.seg e_law09_EveningBounds_ok 3 (s1 := ⟨Fr 44 [(0, .v (.int .i64 x0)), (1, .sl 1 (x1.map cdI.enc)), (2, .v (.int .i64 x2)), (3, .v (.int .i64 x3)), (8, .v (.bool false)), (9, .sl 1 (v3.map cdI.enc)), (16, .v (.int .i64 x0)), (17, .sl 1 (v3.map cdI.enc)), (18, .v (.int .i64 x2)), (19, .v (.int .i64 v4)), (20, .v (.int .i64 x0)), (21, .sl 1 (x1.map cdI.enc)), (22, .v (.int .i64 x2)), (23, .v (.int .i64 v5)), (24, .v (.bool true)), (25, .v (.bool true)), (26, .v (.int .i64 x0)), (27, .sl 1 (v3.map cdI.enc)), (28, .v (.int .i64 x3)), (29, .v (.int .i64 v6)), (30, .v (.int .i64 x0)), (31, .sl 1 (x1.map cdI.enc)), (32, .v (.int .i64 x3)), (33, .v (.int .i64 v7)), (34, .v (.bool true)), (35, .v (.bool true)), (36, .v (.bool true)), (37, .sl 1 (v3.map cdI.enc)), (38, .sl 1 (x1.map cdI.enc)), (39, .v (.bool false)), (40, .v (.bool false)), (41, .v (.bool false)), (42, .tp []), (43, .v (.bool false))], []⟩) (by kernel_rfl) ?_
            have hq := Option.some.inj hj11; subst hq
            exact RunS.done rfl (Wk.fr (by kernel_rfl))
        · rw [if_f hc13] at hj11
          rw [hc13]
          refine RunS.seg e_law09_EveningBounds_ok 8 (s1 := ⟨Fr 44 [(0, .v (.int .i64 x0)), (1, .sl 1 (x1.map cdI.enc)), (2, .v (.int .i64 x2)), (3, .v (.int .i64 x3)), (8, .v (.bool false)), (9, .sl 1 (v3.map cdI.enc)), (16, .v (.int .i64 x0)), (17, .sl 1 (v3.map cdI.enc)), (18, .v (.int .i64 x2)), (19, .v (.int .i64 v4)), (20, .v (.int .i64 x0)), (21, .sl 1 (x1.map cdI.enc)), (22, .v (.int .i64 x2)), (23, .v (.int .i64 v5)), (24, .v (.bool true)), (25, .v (.bool true)), (26, .v (.int .i64 x0)), (27, .sl 1 (v3.map cdI.enc)), (28, .v (.int .i64 x3)), (29, .v (.int .i64 v6)), (30, .v (.int .i64 x0)), (31, .sl 1 (x1.map cdI.enc)), (32, .v (.int .i64 x3)), (33, .v (.int .i64 v7)), (34, .v (.bool false)), (35, .v (.bool false)), (36, .v (.bool false)), (37, .tp []), (38, .tp []), (39, .tp []), (40, .v (.bool false)), (41, .v (.bool false)), (42, .tp []), (43, .v (.bool false))], []⟩) (by kernel_rfl) ?_
          have hq := Option.some.inj hj11; subst hq
          exact RunS.done rfl (Wk.fr (by kernel_rfl))
      · rw [if_f hc12] at hj11
        rw [hc12]
        refine RunS.seg e_law09_EveningBounds_ok 19 (s1 := ⟨Fr 44 [(0, .v (.int .i64 x0)), (1, .sl 1 (x1.map cdI.enc)), (2, .v (.int .i64 x2)), (3, .v (.int .i64 x3)), (8, .v (.bool false)), (9, .sl 1 (v3.map cdI.enc)), (16, .v (.int .i64 x0)), (17, .sl 1 (v3.map cdI.enc)), (18, .v (.int .i64 x2)), (19, .v (.int .i64 v4)), (20, .v (.int .i64 x0)), (21, .sl 1 (x1.map cdI.enc)), (22, .v (.int .i64 x2)), (23, .v (.int .i64 v5)), (24, .v (.bool false)), (25, .v (.bool false)), (26, .tp []), (27, .tp []), (28, .tp []), (29, .tp []), (30, .tp []), (31, .tp []), (32, .tp []), (33, .tp []), (34, .tp []), (35, .v (.bool false)), (36, .v (.bool false)), (37, .tp []), (38, .tp []), (39, .tp []), (40, .v (.bool false)), (41, .v (.bool false)), (42, .tp []), (43, .v (.bool false))], []⟩) (by kernel_rfl) ?_
        have hq := Option.some.inj hj11; subst hq
        exact RunS.done rfl (Wk.fr (by kernel_rfl))
    refine Sem.ret ?_
    have hq := Option.some.inj h; subst hq
    exact ⟨⟨Fr 44 [(8, .v (.bool j11))], []⟩, (Wk.fr (by kernel_rfl)), .inr rfl, [.v (.bool j11)], (by kernel_rfl), (by kernel_rfl)⟩
def t_law09_EveningBounds : List AV → Option AV := told cs_law09_EveningBounds (fun a => law09_EveningBounds a.1 a.2.1 a.2.2.1 a.2.2.2.1) er_law09_EveningBounds
theorem x_law09_EveningBounds : XOk 7 t_law09_EveningBounds := by
  refine EnvOk.x (E := e_law09_EveningBounds) (contract_ok e_law09_EveningBounds_ok (fn := Tryd.f7) (c := cb_law09_EveningBounds) ?h1 ?h2 ⟨Tryd.call7⟩ cs_law09_EveningBounds (fun a => law09_EveningBounds a.1 a.2.1 a.2.2.1 a.2.2.2.1) er_law09_EveningBounds (fun a => (by show 4 ≤ 44; decide)) ?h3 ?h4) rfl rfl
  case h1 => kernel_rfl
  case h2 => kernel_rfl
  case h3 => intro b; kernel_rfl
  case h4 => exact fun a b h => law09_EveningBounds_sem a.1 a.2.1 a.2.2.1 a.2.2.2.1 b h
end Go.Proofs.YthofgamegondnaaDoor
