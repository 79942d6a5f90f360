/- A function of plain data that the program's function 33 computes. By a program of mine. -/
import Derived.Test.YthofgamegondnaaDoorCx
import Derived.Test.YthofgamegondnaaDoorF68
import Derived.Test.YthofgamegondnaaDoorF72
namespace Go.Proofs.YthofgamegondnaaDoor
open Go.RowKit
/- trestle/evening.MostEvenings -/
noncomputable def e_evening_MostEvenings : Env := ((E0.withX 68 t_evening_fit).withX 72 t_evening_met)
theorem e_evening_MostEvenings_ok : EnvOk e_evening_MostEvenings := (EnvOk.withX (EnvOk.withX E0_ok x_evening_fit.1 x_evening_fit.2) x_evening_met.1 x_evening_met.2)
def evening_MostEvenings (x0 : Int) (x1 : (List Int)) (x2 : Int) : Option (Int) :=
  (evening_fit x0 x1).bind fun v1 =>
  (if (!v1) = true then some true else some (decide (x2 < 0))).bind fun j3 =>
  if j3 = true then
  some 0
  else
  (evening_met x1).bind fun v5 =>
  if (v5 == 0) = true then
  some 64
  else
  (evening_met x1).bind fun v7 =>
  if v7 = (0 : Int) then none else
  some (mnI 64 (wr .i64 ((wr .i64 ((mnI x2 64) * (wr .i64 ((wr .i64 (x0 * (wr .i64 (x0 - 1)))).tdiv 2)))).tdiv v7)))
def cs_evening_MostEvenings : Cs (Int × (List Int) × Int × Unit) := (csC cdI (csC (cdL 1 cdI) (csC cdI csN)))
def er_evening_MostEvenings (r : Int) : AV := cdI.enc r
noncomputable def cb_evening_MostEvenings : Code := codeOf Tryd.f33
set_option maxRecDepth 100000 in
theorem evening_MostEvenings_sem (x0 : Int) (x1 : (List Int)) (x2 : Int) (r : Int) (h : evening_MostEvenings x0 x1 x2 = some r) : Sem e_evening_MostEvenings ⟨none, false⟩ cb_evening_MostEvenings ⟨Fr 30 (pairs0 0 (cs_evening_MostEvenings.enc (x0, x1, x2, ()))), []⟩ fun e s' => (e = .normal ∨ e = .ret) ∧ ∃ xs, resA e_evening_MostEvenings.P s'.fr s'.hp Tryd.f33.results.toList = some xs ∧ retA xs = er_evening_MostEvenings r := by
  unfold evening_MostEvenings at h
  refine Sem.wkQ (Sem.wk (s1 := ⟨Fr 30 [(0, .v (.int .i64 x0)), (1, .sl 1 (x1.map cdI.enc)), (2, .v (.int .i64 x2))], []⟩) (Wk.fr (by kernel_rfl)) ?_)
  refine Sem.seq ?_
  refine Sem.runS (s1 := ⟨Fr 30 [(0, .v (.int .i64 x0)), (1, .sl 1 (x1.map cdI.enc)), (2, .v (.int .i64 x2))], []⟩) ?_ ?_
  · refine RunS.seg e_evening_MostEvenings_ok 1 (s1 := ⟨Fr 30 [(0, .v (.int .i64 x0)), (1, .sl 1 (x1.map cdI.enc)), (2, .v (.int .i64 x2)), (6, .v (.int .i64 0))], []⟩) (by kernel_rfl) ?_
    exact RunS.done rfl (Wk.fr (by kernel_rfl))
  refine Sem.seq ?_
  refine Sem.seq ?_
  obtain ⟨v1, hv1, h⟩ := Option.bind_eq_some_iff.1 h
  obtain ⟨j3, hj3, h⟩ := Option.bind_eq_some_iff.1 h
  refine Sem.runS (s1 := ⟨Fr 30 [(0, .v (.int .i64 x0)), (1, .sl 1 (x1.map cdI.enc)), (2, .v (.int .i64 x2)), (14, .v (.bool j3))], []⟩) ?_ ?_
  · refine RunS.seg e_evening_MostEvenings_ok 2 (s1 := ⟨Fr 30 [(0, .v (.int .i64 x0)), (1, .sl 1 (x1.map cdI.enc)), (2, .v (.int .i64 x2)), (7, .v (.int .i64 x0)), (8, .sl 1 (x1.map cdI.enc))], []⟩) (by kernel_rfl) ?_
    refine RunS.call e_evening_MostEvenings_ok (fid := 68) (s := cs_evening_fit) (F := fun a => evening_fit a.1 a.2.1) (er := er_evening_fit) (xs := [.v (.int .i64 x0), .sl 1 (x1.map cdI.enc)]) (a := (x0, x1, ())) rfl (wantedA_none rfl) (by kernel_rfl) (by kernel_rfl) (by kernel_rfl) (by kernel_rfl) (Sns.cons (Sn.enc (c := cdI) (v := x0)) (Sns.cons (Sn.enc (c := (cdL 1 cdI)) (v := x1)) Sns.nil)) (.inl (by kernel_rfl)) hv1 ?_
    refine RunS.seg e_evening_MostEvenings_ok 2 (s1 := ⟨Fr 30 [(0, .v (.int .i64 x0)), (1, .sl 1 (x1.map cdI.enc)), (2, .v (.int .i64 x2)), (7, .v (.int .i64 x0)), (8, .sl 1 (x1.map cdI.enc)), (9, .v (.bool v1)), (10, .v (.bool (!v1))), (11, .v (.bool (!v1)))], []⟩) (by kernel_rfl) ?_
    rcases Bool.eq_false_or_eq_true (!v1) with hc9 | hc9
    · rw [if_pos hc9] at hj3
      rw [hc9]
      refine RunS.seg e_evening_MostEvenings_ok 3 (s1 := ⟨Fr 30 [(0, .v (.int .i64 x0)), (1, .sl 1 (x1.map cdI.enc)), (2, .v (.int .i64 x2)), (7, .v (.int .i64 x0)), (8, .sl 1 (x1.map cdI.enc)), (9, .v (.bool v1)), (10, .v (.bool true)), (11, .v (.bool true)), (12, .tp []), (13, .tp []), (14, .v (.bool true))], []⟩) (by kernel_rfl) ?_
      have hq := Option.some.inj hj3; subst hq
      exact RunS.done rfl (Wk.fr (by kernel_rfl))
    · rw [if_f hc9] at hj3
      rw [hc9]
      refine RunS.seg e_evening_MostEvenings_ok 3 (s1 := ⟨Fr 30 [(0, .v (.int .i64 x0)), (1, .sl 1 (x1.map cdI.enc)), (2, .v (.int .i64 x2)), (7, .v (.int .i64 x0)), (8, .sl 1 (x1.map cdI.enc)), (9, .v (.bool v1)), (10, .v (.bool false)), (11, .v (.bool false)), (12, .v (.int .i64 x2)), (13, .v (.bool (decide (x2 < 0)))), (14, .v (.bool (decide (x2 < 0))))], []⟩) (by kernel_rfl) ?_
      have hq := Option.some.inj hj3; subst hq
      exact RunS.done rfl (Wk.fr (by kernel_rfl))
  refine Sem.cond (b := j3) (by kernel_rfl) (fun hb4 => ?_) (fun hb4 => ?_)
  · rw [if_pos hb4] at h
    refine Sem.seq ?_
    refine Sem.runS (s1 := ⟨Fr 30 [(6, .v (.int .i64 0))], []⟩) ?_ ?_
    · refine RunS.seg e_evening_MostEvenings_ok 1 (s1 := ⟨Fr 30 [(0, .v (.int .i64 x0)), (1, .sl 1 (x1.map cdI.enc)), (2, .v (.int .i64 x2)), (6, .v (.int .i64 0)), (14, .v (.bool j3))], []⟩) (by kernel_rfl) ?_
      exact RunS.done rfl (Wk.fr (by kernel_rfl))
    refine Sem.ret ?_
    have hq := Option.some.inj h; subst hq
    exact ⟨⟨Fr 30 [(6, .v (.int .i64 0))], []⟩, (Wk.fr (by kernel_rfl)), .inr rfl, [.v (.int .i64 0)], (by kernel_rfl), (by kernel_rfl)⟩
  · rw [if_f hb4] at h
    refine Sem.skip ?_
    refine Sem.seq ?_
    refine Sem.seq ?_
    obtain ⟨v5, hv5, h⟩ := Option.bind_eq_some_iff.1 h
    refine Sem.runS (s1 := ⟨Fr 30 [(0, .v (.int .i64 x0)), (1, .sl 1 (x1.map cdI.enc)), (2, .v (.int .i64 x2)), (17, .v (.bool (v5 == 0)))], []⟩) ?_ ?_
    · refine RunS.seg e_evening_MostEvenings_ok 1 (s1 := ⟨Fr 30 [(0, .v (.int .i64 x0)), (1, .sl 1 (x1.map cdI.enc)), (2, .v (.int .i64 x2)), (14, .v (.bool j3)), (15, .sl 1 (x1.map cdI.enc))], []⟩) (by kernel_rfl) ?_
      refine RunS.call e_evening_MostEvenings_ok (fid := 72) (s := cs_evening_met) (F := fun a => evening_met a.1) (er := er_evening_met) (xs := [.sl 1 (x1.map cdI.enc)]) (a := (x1, ())) rfl (wantedA_none rfl) (by kernel_rfl) (by kernel_rfl) (by kernel_rfl) (by kernel_rfl) (Sns.cons (Sn.enc (c := (cdL 1 cdI)) (v := x1)) Sns.nil) (.inl (by kernel_rfl)) hv5 ?_
      refine RunS.seg e_evening_MostEvenings_ok 1 (s1 := ⟨Fr 30 [(0, .v (.int .i64 x0)), (1, .sl 1 (x1.map cdI.enc)), (2, .v (.int .i64 x2)), (14, .v (.bool j3)), (15, .sl 1 (x1.map cdI.enc)), (16, .v (.int .i64 v5)), (17, .v (.bool (v5 == 0)))], []⟩) (by kernel_rfl) ?_
      exact RunS.done rfl (Wk.fr (by kernel_rfl))
    refine Sem.cond (b := (v5 == 0)) (by kernel_rfl) (fun hb6 => ?_) (fun hb6 => ?_)
    · rw [if_pos hb6] at h
      refine Sem.seq ?_
      refine Sem.runS (s1 := ⟨Fr 30 [(6, .v (.int .i64 64))], []⟩) ?_ ?_
      · refine RunS.seg e_evening_MostEvenings_ok 1 (s1 := ⟨Fr 30 [(0, .v (.int .i64 x0)), (1, .sl 1 (x1.map cdI.enc)), (2, .v (.int .i64 x2)), (6, .v (.int .i64 64)), (17, .v (.bool (v5 == 0)))], []⟩) (by kernel_rfl) ?_
        exact RunS.done rfl (Wk.fr (by kernel_rfl))
      refine Sem.ret ?_
      have hq := Option.some.inj h; subst hq
      exact ⟨⟨Fr 30 [(6, .v (.int .i64 64))], []⟩, (Wk.fr (by kernel_rfl)), .inr rfl, [.v (.int .i64 64)], (by kernel_rfl), (by kernel_rfl)⟩
    · rw [if_f hb6] at h
      refine Sem.skip ?_
      refine Sem.seq ?_
      obtain ⟨v7, hv7, h⟩ := Option.bind_eq_some_iff.1 h
      by_cases hz8 : v7 = (0 : Int)
      · rw [if_pos hz8] at h; cases h
      rw [if_neg hz8] at h
      refine Sem.runS (s1 := ⟨Fr 30 [(6, .v (.int .i64 (mnI 64 (wr .i64 ((wr .i64 ((mnI x2 64) * (wr .i64 ((wr .i64 (x0 * (wr .i64 (x0 - 1)))).tdiv 2)))).tdiv v7)))))], []⟩) ?_ ?_
      · refine RunS.seg e_evening_MostEvenings_ok 9 (s1 := ⟨Fr 30 [(0, .v (.int .i64 x0)), (1, .sl 1 (x1.map cdI.enc)), (2, .v (.int .i64 x2)), (17, .v (.bool (v5 == 0))), (18, .v (.int .i64 x2)), (19, .v (.int .i64 (mnI x2 64))), (20, .v (.int .i64 x0)), (21, .v (.int .i64 x0)), (22, .v (.int .i64 (wr .i64 (x0 - 1)))), (23, .v (.int .i64 (wr .i64 (x0 * (wr .i64 (x0 - 1)))))), (24, .v (.int .i64 (wr .i64 ((wr .i64 (x0 * (wr .i64 (x0 - 1)))).tdiv 2)))), (25, .v (.int .i64 (wr .i64 ((mnI x2 64) * (wr .i64 ((wr .i64 (x0 * (wr .i64 (x0 - 1)))).tdiv 2)))))), (26, .sl 1 (x1.map cdI.enc))], []⟩) (by kernel_rfl) ?_
        refine RunS.call e_evening_MostEvenings_ok (fid := 72) (s := cs_evening_met) (F := fun a => evening_met a.1) (er := er_evening_met) (xs := [.sl 1 (x1.map cdI.enc)]) (a := (x1, ())) rfl (wantedA_none rfl) (by kernel_rfl) (by kernel_rfl) (by kernel_rfl) (by kernel_rfl) (Sns.cons (Sn.enc (c := (cdL 1 cdI)) (v := x1)) Sns.nil) (.inl (by kernel_rfl)) hv7 ?_
        refine RunS.one e_evening_MostEvenings_ok 0 rfl (op_q (wantedA_none rfl) rfl (q_bin (a := .v (.int .i64 (wr .i64 ((mnI x2 64) * (wr .i64 ((wr .i64 (x0 * (wr .i64 (x0 - 1)))).tdiv 2)))))) (b := .v (.int .i64 v7)) (by kernel_rfl) (by kernel_rfl) (bin_quo hz8))) ?_
        refine RunS.seg e_evening_MostEvenings_ok 2 (s1 := ⟨Fr 30 [(0, .v (.int .i64 x0)), (1, .sl 1 (x1.map cdI.enc)), (2, .v (.int .i64 x2)), (6, .v (.int .i64 (mnI 64 (wr .i64 ((wr .i64 ((mnI x2 64) * (wr .i64 ((wr .i64 (x0 * (wr .i64 (x0 - 1)))).tdiv 2)))).tdiv v7))))), (17, .v (.bool (v5 == 0))), (18, .v (.int .i64 x2)), (19, .v (.int .i64 (mnI x2 64))), (20, .v (.int .i64 x0)), (21, .v (.int .i64 x0)), (22, .v (.int .i64 (wr .i64 (x0 - 1)))), (23, .v (.int .i64 (wr .i64 (x0 * (wr .i64 (x0 - 1)))))), (24, .v (.int .i64 (wr .i64 ((wr .i64 (x0 * (wr .i64 (x0 - 1)))).tdiv 2)))), (25, .v (.int .i64 (wr .i64 ((mnI x2 64) * (wr .i64 ((wr .i64 (x0 * (wr .i64 (x0 - 1)))).tdiv 2)))))), (26, .sl 1 (x1.map cdI.enc)), (27, .v (.int .i64 v7)), (28, .v (.int .i64 (wr .i64 ((wr .i64 ((mnI x2 64) * (wr .i64 ((wr .i64 (x0 * (wr .i64 (x0 - 1)))).tdiv 2)))).tdiv v7)))), (29, .v (.int .i64 (mnI 64 (wr .i64 ((wr .i64 ((mnI x2 64) * (wr .i64 ((wr .i64 (x0 * (wr .i64 (x0 - 1)))).tdiv 2)))).tdiv v7)))))], []⟩) (by kernel_rfl) ?_
        exact RunS.done rfl (Wk.fr (by kernel_rfl))
      refine Sem.ret ?_
      have hq := Option.some.inj h; subst hq
      exact ⟨⟨Fr 30 [(6, .v (.int .i64 (mnI 64 (wr .i64 ((wr .i64 ((mnI x2 64) * (wr .i64 ((wr .i64 (x0 * (wr .i64 (x0 - 1)))).tdiv 2)))).tdiv v7)))))], []⟩, (Wk.fr (by kernel_rfl)), .inr rfl, [.v (.int .i64 (mnI 64 (wr .i64 ((wr .i64 ((mnI x2 64) * (wr .i64 ((wr .i64 (x0 * (wr .i64 (x0 - 1)))).tdiv 2)))).tdiv v7))))], (by kernel_rfl), (by kernel_rfl)⟩
def t_evening_MostEvenings : List AV → Option AV := told cs_evening_MostEvenings (fun a => evening_MostEvenings a.1 a.2.1 a.2.2.1) er_evening_MostEvenings
theorem x_evening_MostEvenings : XOk 33 t_evening_MostEvenings := by
  refine EnvOk.x (E := e_evening_MostEvenings) (contract_ok e_evening_MostEvenings_ok (fn := Tryd.f33) (c := cb_evening_MostEvenings) ?h1 ?h2 ⟨Tryd.call33⟩ cs_evening_MostEvenings (fun a => evening_MostEvenings a.1 a.2.1 a.2.2.1) er_evening_MostEvenings (fun a => (by show 3 ≤ 30; decide)) ?h3 ?h4) rfl rfl
  case h1 => kernel_rfl
  case h2 => kernel_rfl
  case h3 => intro b; kernel_rfl
  case h4 => exact fun a b h => evening_MostEvenings_sem a.1 a.2.1 a.2.2.1 b h
end Go.Proofs.YthofgamegondnaaDoor
