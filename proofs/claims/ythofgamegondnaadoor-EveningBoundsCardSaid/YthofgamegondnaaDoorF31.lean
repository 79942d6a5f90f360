/- A function of plain data that the program's function 31 computes. By a program of mine. -/
import Derived.Test.YthofgamegondnaaDoorCx
import Derived.Test.YthofgamegondnaaDoorF68
import Derived.Test.YthofgamegondnaaDoorF72
namespace Go.Proofs.YthofgamegondnaaDoor
open Go.RowKit
/- trestle/evening.LeastMost -/
noncomputable def e_evening_LeastMost : Env := ((E0.withX 68 t_evening_fit).withX 72 t_evening_met)
theorem e_evening_LeastMost_ok : EnvOk e_evening_LeastMost := (EnvOk.withX (EnvOk.withX E0_ok x_evening_fit.1 x_evening_fit.2) x_evening_met.1 x_evening_met.2)
def evening_LeastMost (x0 : Int) (x1 : (List Int)) (x2 : Int) : Option (Int) :=
  (evening_fit x0 x1).bind fun v1 =>
  (if (!v1) = true then some true else if (decide (x2 < 1)) = true then some true else (evening_met x1).bind fun v2 =>
  some (v2 == 0)).bind fun j4 =>
  if j4 = true then
  some 0
  else
  (evening_met x1).bind fun v6 =>
  if (wr .i64 ((wr .i64 (x0 * (wr .i64 (x0 - 1)))).tdiv 2)) = (0 : Int) then none else
  some (wr .i64 ((wr .i64 ((wr .i64 ((wr .i64 ((mnI x2 64) * v6)) + (wr .i64 ((wr .i64 (x0 * (wr .i64 (x0 - 1)))).tdiv 2)))) - 1)).tdiv (wr .i64 ((wr .i64 (x0 * (wr .i64 (x0 - 1)))).tdiv 2))))
def cs_evening_LeastMost : Cs (Int × (List Int) × Int × Unit) := (csC cdI (csC (cdL 1 cdI) (csC cdI csN)))
def er_evening_LeastMost (r : Int) : AV := cdI.enc r
noncomputable def cb_evening_LeastMost : Code := codeOf Tryd.f31
set_option maxRecDepth 100000 in
theorem evening_LeastMost_sem (x0 : Int) (x1 : (List Int)) (x2 : Int) (r : Int) (h : evening_LeastMost x0 x1 x2 = some r) : Sem e_evening_LeastMost ⟨none, false⟩ cb_evening_LeastMost ⟨Fr 36 (pairs0 0 (cs_evening_LeastMost.enc (x0, x1, x2, ()))), []⟩ fun e s' => (e = .normal ∨ e = .ret) ∧ ∃ xs, resA e_evening_LeastMost.P s'.fr s'.hp Tryd.f31.results.toList = some xs ∧ retA xs = er_evening_LeastMost r := by
  unfold evening_LeastMost at h
  refine Sem.wkQ (Sem.wk (s1 := ⟨Fr 36 [(0, .v (.int .i64 x0)), (1, .sl 1 (x1.map cdI.enc)), (2, .v (.int .i64 x2))], []⟩) (Wk.fr (by kernel_rfl)) ?_)
  refine Sem.seq ?_
  refine Sem.runS (s1 := ⟨Fr 36 [(0, .v (.int .i64 x0)), (1, .sl 1 (x1.map cdI.enc)), (2, .v (.int .i64 x2))], []⟩) ?_ ?_
  · refine RunS.seg e_evening_LeastMost_ok 1 (s1 := ⟨Fr 36 [(0, .v (.int .i64 x0)), (1, .sl 1 (x1.map cdI.enc)), (2, .v (.int .i64 x2)), (6, .v (.int .i64 0))], []⟩) (by kernel_rfl) ?_
    exact RunS.done rfl (Wk.fr (by kernel_rfl))
  refine Sem.seq ?_
  refine Sem.seq ?_
  obtain ⟨v1, hv1, h⟩ := Option.bind_eq_some_iff.1 h
  obtain ⟨j4, hj4, h⟩ := Option.bind_eq_some_iff.1 h
  refine Sem.runS (s1 := ⟨Fr 36 [(0, .v (.int .i64 x0)), (1, .sl 1 (x1.map cdI.enc)), (2, .v (.int .i64 x2)), (20, .v (.bool j4))], []⟩) ?_ ?_
  · refine RunS.seg e_evening_LeastMost_ok 2 (s1 := ⟨Fr 36 [(0, .v (.int .i64 x0)), (1, .sl 1 (x1.map cdI.enc)), (2, .v (.int .i64 x2)), (8, .v (.int .i64 x0)), (9, .sl 1 (x1.map cdI.enc))], []⟩) (by kernel_rfl) ?_
    refine RunS.call e_evening_LeastMost_ok (fid := 68) (s := cs_evening_fit) (F := fun a => evening_fit a.1 a.2.1) (er := er_evening_fit) (xs := [.v (.int .i64 x0), .sl 1 (x1.map cdI.enc)]) (a := (x0, x1, ())) rfl (wantedA_none rfl) (by kernel_rfl) (by kernel_rfl) (by kernel_rfl) (by kernel_rfl) (Sns.cons (Sn.enc (c := cdI) (v := x0)) (Sns.cons (Sn.enc (c := (cdL 1 cdI)) (v := x1)) Sns.nil)) (.inl (by kernel_rfl)) hv1 ?_
    refine RunS.seg e_evening_LeastMost_ok 2 (s1 := ⟨Fr 36 [(0, .v (.int .i64 x0)), (1, .sl 1 (x1.map cdI.enc)), (2, .v (.int .i64 x2)), (8, .v (.int .i64 x0)), (9, .sl 1 (x1.map cdI.enc)), (10, .v (.bool v1)), (11, .v (.bool (!v1))), (12, .v (.bool (!v1)))], []⟩) (by kernel_rfl) ?_
    rcases Bool.eq_false_or_eq_true (!v1) with hc8 | hc8
    · rw [if_pos hc8] at hj4
      rw [hc8]
      refine RunS.seg e_evening_LeastMost_ok 8 (s1 := ⟨Fr 36 [(0, .v (.int .i64 x0)), (1, .sl 1 (x1.map cdI.enc)), (2, .v (.int .i64 x2)), (8, .v (.int .i64 x0)), (9, .sl 1 (x1.map cdI.enc)), (10, .v (.bool v1)), (11, .v (.bool true)), (12, .v (.bool true)), (13, .tp []), (14, .tp []), (15, .v (.bool true)), (16, .v (.bool true)), (17, .tp []), (18, .tp []), (19, .tp []), (20, .v (.bool true))], []⟩) (by kernel_rfl) ?_
      have hq := Option.some.inj hj4; subst hq
      exact RunS.done rfl (Wk.fr (by kernel_rfl))
    · rw [if_f hc8] at hj4
      rw [hc8]
      refine RunS.seg e_evening_LeastMost_ok 4 (s1 := ⟨Fr 36 [(0, .v (.int .i64 x0)), (1, .sl 1 (x1.map cdI.enc)), (2, .v (.int .i64 x2)), (8, .v (.int .i64 x0)), (9, .sl 1 (x1.map cdI.enc)), (10, .v (.bool v1)), (11, .v (.bool false)), (12, .v (.bool false)), (13, .v (.int .i64 x2)), (14, .v (.bool (decide (x2 < 1)))), (15, .v (.bool (decide (x2 < 1)))), (16, .v (.bool (decide (x2 < 1))))], []⟩) (by kernel_rfl) ?_
      rcases Bool.eq_false_or_eq_true (decide (x2 < 1)) with hc9 | hc9
      · rw [if_pos hc9] at hj4
        rw [hc9]
        refine RunS.seg e_evening_LeastMost_ok 4 (s1 := ⟨Fr 36 [(0, .v (.int .i64 x0)), (1, .sl 1 (x1.map cdI.enc)), (2, .v (.int .i64 x2)), (8, .v (.int .i64 x0)), (9, .sl 1 (x1.map cdI.enc)), (10, .v (.bool v1)), (11, .v (.bool false)), (12, .v (.bool false)), (13, .v (.int .i64 x2)), (14, .v (.bool true)), (15, .v (.bool true)), (16, .v (.bool true)), (17, .tp []), (18, .tp []), (19, .tp []), (20, .v (.bool true))], []⟩) (by kernel_rfl) ?_
        have hq := Option.some.inj hj4; subst hq
        exact RunS.done rfl (Wk.fr (by kernel_rfl))
      · rw [if_f hc9] at hj4
        rw [hc9]
        refine RunS.seg e_evening_LeastMost_ok 1 (s1 := ⟨Fr 36 [(0, .v (.int .i64 x0)), (1, .sl 1 (x1.map cdI.enc)), (2, .v (.int .i64 x2)), (8, .v (.int .i64 x0)), (9, .sl 1 (x1.map cdI.enc)), (10, .v (.bool v1)), (11, .v (.bool false)), (12, .v (.bool false)), (13, .v (.int .i64 x2)), (14, .v (.bool false)), (15, .v (.bool false)), (16, .v (.bool false)), (17, .sl 1 (x1.map cdI.enc))], []⟩) (by kernel_rfl) ?_
        obtain ⟨v2, hv2, hj4⟩ := Option.bind_eq_some_iff.1 hj4
        refine RunS.call e_evening_LeastMost_ok (fid := 72) (s := cs_evening_met) (F := fun a => evening_met a.1) (er := er_evening_met) (xs := [.sl 1 (x1.map cdI.enc)]) (a := (x1, ())) rfl (by kernel_rfl) (by kernel_rfl) (by kernel_rfl) (by kernel_rfl) (by kernel_rfl) (Sns.cons (Sn.enc (c := (cdL 1 cdI)) (v := x1)) Sns.nil) (.inl (by kernel_rfl)) hv2 ?_
        refine RunS.seg e_evening_LeastMost_ok 2 (s1 := ⟨Fr 36 [(0, .v (.int .i64 x0)), (1, .sl 1 (x1.map cdI.enc)), (2, .v (.int .i64 x2)), (8, .v (.int .i64 x0)), (9, .sl 1 (x1.map cdI.enc)), (10, .v (.bool v1)), (11, .v (.bool false)), (12, .v (.bool false)), (13, .v (.int .i64 x2)), (14, .v (.bool false)), (15, .v (.bool false)), (16, .v (.bool false)), (17, .sl 1 (x1.map cdI.enc)), (18, .v (.int .i64 v2)), (19, .v (.bool (v2 == 0))), (20, .v (.bool (v2 == 0)))], []⟩) (by kernel_rfl) ?_
        have hq := Option.some.inj hj4; subst hq
        exact RunS.done rfl (Wk.fr (by kernel_rfl))
  refine Sem.cond (b := j4) (by kernel_rfl) (fun hb5 => ?_) (fun hb5 => ?_)
  · rw [if_pos hb5] at h
    refine Sem.seq ?_
    refine Sem.runS (s1 := ⟨Fr 36 [(6, .v (.int .i64 0))], []⟩) ?_ ?_
    · refine RunS.seg e_evening_LeastMost_ok 1 (s1 := ⟨Fr 36 [(0, .v (.int .i64 x0)), (1, .sl 1 (x1.map cdI.enc)), (2, .v (.int .i64 x2)), (6, .v (.int .i64 0)), (20, .v (.bool j4))], []⟩) (by kernel_rfl) ?_
      exact RunS.done rfl (Wk.fr (by kernel_rfl))
    refine Sem.ret ?_
    have hq := Option.some.inj h; subst hq
    exact ⟨⟨Fr 36 [(6, .v (.int .i64 0))], []⟩, (Wk.fr (by kernel_rfl)), .inr rfl, [.v (.int .i64 0)], (by kernel_rfl), (by kernel_rfl)⟩
  · rw [if_f hb5] at h
    refine Sem.skip ?_
    refine Sem.seq ?_
    refine Sem.runS (s1 := ⟨Fr 36 [(1, .sl 1 (x1.map cdI.enc)), (2, .v (.int .i64 x2)), (7, .v (.int .i64 (wr .i64 ((wr .i64 (x0 * (wr .i64 (x0 - 1)))).tdiv 2))))], []⟩) ?_ ?_
    · refine RunS.seg e_evening_LeastMost_ok 6 (s1 := ⟨Fr 36 [(0, .v (.int .i64 x0)), (1, .sl 1 (x1.map cdI.enc)), (2, .v (.int .i64 x2)), (7, .v (.int .i64 (wr .i64 ((wr .i64 (x0 * (wr .i64 (x0 - 1)))).tdiv 2)))), (20, .v (.bool j4)), (21, .v (.int .i64 x0)), (22, .v (.int .i64 x0)), (23, .v (.int .i64 (wr .i64 (x0 - 1)))), (24, .v (.int .i64 (wr .i64 (x0 * (wr .i64 (x0 - 1)))))), (25, .v (.int .i64 (wr .i64 ((wr .i64 (x0 * (wr .i64 (x0 - 1)))).tdiv 2))))], []⟩) (by kernel_rfl) ?_
      exact RunS.done rfl (Wk.fr (by kernel_rfl))
    refine Sem.seq ?_
    obtain ⟨v6, hv6, h⟩ := Option.bind_eq_some_iff.1 h
    by_cases hz7 : (wr .i64 ((wr .i64 (x0 * (wr .i64 (x0 - 1)))).tdiv 2)) = (0 : Int)
    · rw [if_pos hz7] at h; cases h
    rw [if_neg hz7] at h
    refine Sem.runS (s1 := ⟨Fr 36 [(6, .v (.int .i64 (wr .i64 ((wr .i64 ((wr .i64 ((wr .i64 ((mnI x2 64) * v6)) + (wr .i64 ((wr .i64 (x0 * (wr .i64 (x0 - 1)))).tdiv 2)))) - 1)).tdiv (wr .i64 ((wr .i64 (x0 * (wr .i64 (x0 - 1)))).tdiv 2))))))], []⟩) ?_ ?_
    · refine RunS.seg e_evening_LeastMost_ok 3 (s1 := ⟨Fr 36 [(1, .sl 1 (x1.map cdI.enc)), (2, .v (.int .i64 x2)), (7, .v (.int .i64 (wr .i64 ((wr .i64 (x0 * (wr .i64 (x0 - 1)))).tdiv 2)))), (26, .v (.int .i64 x2)), (27, .v (.int .i64 (mnI x2 64))), (28, .sl 1 (x1.map cdI.enc))], []⟩) (by kernel_rfl) ?_
      refine RunS.call e_evening_LeastMost_ok (fid := 72) (s := cs_evening_met) (F := fun a => evening_met a.1) (er := er_evening_met) (xs := [.sl 1 (x1.map cdI.enc)]) (a := (x1, ())) rfl (wantedA_none rfl) (by kernel_rfl) (by kernel_rfl) (by kernel_rfl) (by kernel_rfl) (Sns.cons (Sn.enc (c := (cdL 1 cdI)) (v := x1)) Sns.nil) (.inl (by kernel_rfl)) hv6 ?_
      refine RunS.seg e_evening_LeastMost_ok 5 (s1 := ⟨Fr 36 [(1, .sl 1 (x1.map cdI.enc)), (2, .v (.int .i64 x2)), (7, .v (.int .i64 (wr .i64 ((wr .i64 (x0 * (wr .i64 (x0 - 1)))).tdiv 2)))), (26, .v (.int .i64 x2)), (27, .v (.int .i64 (mnI x2 64))), (28, .sl 1 (x1.map cdI.enc)), (29, .v (.int .i64 v6)), (30, .v (.int .i64 (wr .i64 ((mnI x2 64) * v6)))), (31, .v (.int .i64 (wr .i64 ((wr .i64 (x0 * (wr .i64 (x0 - 1)))).tdiv 2)))), (32, .v (.int .i64 (wr .i64 ((wr .i64 ((mnI x2 64) * v6)) + (wr .i64 ((wr .i64 (x0 * (wr .i64 (x0 - 1)))).tdiv 2)))))), (33, .v (.int .i64 (wr .i64 ((wr .i64 ((wr .i64 ((mnI x2 64) * v6)) + (wr .i64 ((wr .i64 (x0 * (wr .i64 (x0 - 1)))).tdiv 2)))) - 1)))), (34, .v (.int .i64 (wr .i64 ((wr .i64 (x0 * (wr .i64 (x0 - 1)))).tdiv 2))))], []⟩) (by kernel_rfl) ?_
      refine RunS.one e_evening_LeastMost_ok 0 rfl (op_q (wantedA_none rfl) rfl (q_bin (a := .v (.int .i64 (wr .i64 ((wr .i64 ((wr .i64 ((mnI x2 64) * v6)) + (wr .i64 ((wr .i64 (x0 * (wr .i64 (x0 - 1)))).tdiv 2)))) - 1)))) (b := .v (.int .i64 (wr .i64 ((wr .i64 (x0 * (wr .i64 (x0 - 1)))).tdiv 2)))) (by kernel_rfl) (by kernel_rfl) (bin_quo hz7))) ?_
      refine RunS.seg e_evening_LeastMost_ok 1 (s1 := ⟨Fr 36 [(1, .sl 1 (x1.map cdI.enc)), (2, .v (.int .i64 x2)), (6, .v (.int .i64 (wr .i64 ((wr .i64 ((wr .i64 ((wr .i64 ((mnI x2 64) * v6)) + (wr .i64 ((wr .i64 (x0 * (wr .i64 (x0 - 1)))).tdiv 2)))) - 1)).tdiv (wr .i64 ((wr .i64 (x0 * (wr .i64 (x0 - 1)))).tdiv 2)))))), (7, .v (.int .i64 (wr .i64 ((wr .i64 (x0 * (wr .i64 (x0 - 1)))).tdiv 2)))), (26, .v (.int .i64 x2)), (27, .v (.int .i64 (mnI x2 64))), (28, .sl 1 (x1.map cdI.enc)), (29, .v (.int .i64 v6)), (30, .v (.int .i64 (wr .i64 ((mnI x2 64) * v6)))), (31, .v (.int .i64 (wr .i64 ((wr .i64 (x0 * (wr .i64 (x0 - 1)))).tdiv 2)))), (32, .v (.int .i64 (wr .i64 ((wr .i64 ((mnI x2 64) * v6)) + (wr .i64 ((wr .i64 (x0 * (wr .i64 (x0 - 1)))).tdiv 2)))))), (33, .v (.int .i64 (wr .i64 ((wr .i64 ((wr .i64 ((mnI x2 64) * v6)) + (wr .i64 ((wr .i64 (x0 * (wr .i64 (x0 - 1)))).tdiv 2)))) - 1)))), (34, .v (.int .i64 (wr .i64 ((wr .i64 (x0 * (wr .i64 (x0 - 1)))).tdiv 2)))), (35, .v (.int .i64 (wr .i64 ((wr .i64 ((wr .i64 ((wr .i64 ((mnI x2 64) * v6)) + (wr .i64 ((wr .i64 (x0 * (wr .i64 (x0 - 1)))).tdiv 2)))) - 1)).tdiv (wr .i64 ((wr .i64 (x0 * (wr .i64 (x0 - 1)))).tdiv 2))))))], []⟩) (by kernel_rfl) ?_
      exact RunS.done rfl (Wk.fr (by kernel_rfl))
    refine Sem.ret ?_
    have hq := Option.some.inj h; subst hq
    exact ⟨⟨Fr 36 [(6, .v (.int .i64 (wr .i64 ((wr .i64 ((wr .i64 ((wr .i64 ((mnI x2 64) * v6)) + (wr .i64 ((wr .i64 (x0 * (wr .i64 (x0 - 1)))).tdiv 2)))) - 1)).tdiv (wr .i64 ((wr .i64 (x0 * (wr .i64 (x0 - 1)))).tdiv 2))))))], []⟩, (Wk.fr (by kernel_rfl)), .inr rfl, [.v (.int .i64 (wr .i64 ((wr .i64 ((wr .i64 ((wr .i64 ((mnI x2 64) * v6)) + (wr .i64 ((wr .i64 (x0 * (wr .i64 (x0 - 1)))).tdiv 2)))) - 1)).tdiv (wr .i64 ((wr .i64 (x0 * (wr .i64 (x0 - 1)))).tdiv 2)))))], (by kernel_rfl), (by kernel_rfl)⟩
def t_evening_LeastMost : List AV → Option AV := told cs_evening_LeastMost (fun a => evening_LeastMost a.1 a.2.1 a.2.2.1) er_evening_LeastMost
theorem x_evening_LeastMost : XOk 31 t_evening_LeastMost := by
  refine EnvOk.x (E := e_evening_LeastMost) (contract_ok e_evening_LeastMost_ok (fn := Tryd.f31) (c := cb_evening_LeastMost) ?h1 ?h2 ⟨Tryd.call31⟩ cs_evening_LeastMost (fun a => evening_LeastMost a.1 a.2.1 a.2.2.1) er_evening_LeastMost (fun a => (by show 3 ≤ 36; decide)) ?h3 ?h4) rfl rfl
  case h1 => kernel_rfl
  case h2 => kernel_rfl
  case h3 => intro b; kernel_rfl
  case h4 => exact fun a b h => evening_LeastMost_sem a.1 a.2.1 a.2.2.1 b h
end Go.Proofs.YthofgamegondnaaDoor
