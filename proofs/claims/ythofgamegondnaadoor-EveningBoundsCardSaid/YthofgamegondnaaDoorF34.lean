/- A function of plain data that the program's function 34 computes. By a program of mine. -/
import Derived.Test.YthofgamegondnaaDoorCx
import Derived.Test.YthofgamegondnaaDoorF70
import Derived.Test.YthofgamegondnaaDoorF73
namespace Go.Proofs.YthofgamegondnaaDoor
open Go.RowKit
/- trestle/trestleref09.MostEvenings -/
noncomputable def e_ref09_MostEvenings : Env := ((E0.withX 70 t_ref09_Fit).withX 73 t_ref09_met)
theorem e_ref09_MostEvenings_ok : EnvOk e_ref09_MostEvenings := (EnvOk.withX (EnvOk.withX E0_ok x_ref09_Fit.1 x_ref09_Fit.2) x_ref09_met.1 x_ref09_met.2)
def ref09_MostEvenings_1 (x0 : Int) (x1 : (List Int)) (x2 : Int) : Nat → Int → Option ((Int))
  | 0, _ => none
  | f + 1, c5 =>
    (if (decide (c5 < 64)) = true then (ref09_met x1).bind fun v6 =>
    (ref09_met [x0]).bind fun v7 =>
    some (decide ((wr .i64 ((wr .i64 (c5 + 1)) * v6)) ≤ (wr .i64 ((mnI x2 64) * v7)))) else some false).bind fun j9 =>
    if j9 = true then
    ref09_MostEvenings_1 x0 x1 x2 f (wr .i64 (c5 + 1))
    else
    some c5
def ref09_MostEvenings (x0 : Int) (x1 : (List Int)) (x2 : Int) : Option (Int) :=
  (ref09_Fit x0 x1).bind fun v1 =>
  (if (!v1) = true then some true else some (decide (x2 < 0))).bind fun j3 =>
  if j3 = true then
  some 0
  else
  (ref09_MostEvenings_1 x0 x1 x2 100000 0).bind fun r13 =>
  some r13
def cs_ref09_MostEvenings : Cs (Int × (List Int) × Int × Unit) := (csC cdI (csC (cdL 1 cdI) (csC cdI csN)))
def er_ref09_MostEvenings (r : Int) : AV := cdI.enc r
noncomputable def cb_ref09_MostEvenings : Code := codeOf Tryd.f34
set_option maxRecDepth 100000 in
theorem ref09_MostEvenings_1_ok (x0 : Int) (x1 : (List Int)) (x2 : Int) : ∀ (f : Nat) (c5 : Int) (r : (Int)), ref09_MostEvenings_1 x0 x1 x2 f c5 = some r → SemN e_ref09_MostEvenings ⟨none, false⟩ (pc cb_ref09_MostEvenings [1, 1, 1, 0, 0, 0]) f ⟨Fr 35 [(0, .v (.int .i64 x0)), (1, .sl 1 (x1.map cdI.enc)), (2, .v (.int .i64 x2)), (7, .v (.int .i64 c5))], []⟩ (fun e s => e = (.exit 0) ∧ Wk e_ref09_MostEvenings s ⟨Fr 35 [(7, .v (.int .i64 r))], []⟩) := by
  intro f
  induction f with
  | zero => intro c5 r h; cases h
  | succ f ih0 =>
    intro c5 r h
    have ih := fun (c5 : Int) => ih0 c5 r
    unfold ref09_MostEvenings_1 at h
    refine SemN.succ ?_
    refine Sem.seq ?_
    refine Sem.seq ?_
    obtain ⟨j9, hj9, h⟩ := Option.bind_eq_some_iff.1 h
    refine Sem.runS (s1 := ⟨Fr 35 [(0, .v (.int .i64 x0)), (1, .sl 1 (x1.map cdI.enc)), (2, .v (.int .i64 x2)), (7, .v (.int .i64 c5)), (31, .v (.bool j9))], []⟩) ?_ ?_
    · refine RunS.seg e_ref09_MostEvenings_ok 3 (s1 := ⟨Fr 35 [(0, .v (.int .i64 x0)), (1, .sl 1 (x1.map cdI.enc)), (2, .v (.int .i64 x2)), (7, .v (.int .i64 c5)), (16, .v (.int .i64 c5)), (17, .v (.bool (decide (c5 < 64)))), (18, .v (.bool (decide (c5 < 64))))], []⟩) (by kernel_rfl) ?_
      rcases Bool.eq_false_or_eq_true (decide (c5 < 64)) with hc12 | hc12
      · rw [if_pos hc12] at hj9
        rw [hc12]
        refine RunS.seg e_ref09_MostEvenings_ok 3 (s1 := ⟨Fr 35 [(0, .v (.int .i64 x0)), (1, .sl 1 (x1.map cdI.enc)), (2, .v (.int .i64 x2)), (7, .v (.int .i64 c5)), (16, .v (.int .i64 c5)), (17, .v (.bool true)), (18, .v (.bool true)), (19, .v (.int .i64 c5)), (20, .v (.int .i64 (wr .i64 (c5 + 1)))), (21, .sl 1 (x1.map cdI.enc))], []⟩) (by kernel_rfl) ?_
        obtain ⟨v6, hv6, hj9⟩ := Option.bind_eq_some_iff.1 hj9
        refine RunS.call e_ref09_MostEvenings_ok (fid := 73) (s := cs_ref09_met) (F := fun a => ref09_met a.1) (er := er_ref09_met) (xs := [.sl 1 (x1.map cdI.enc)]) (a := (x1, ())) rfl (by kernel_rfl) (by kernel_rfl) (by kernel_rfl) (by kernel_rfl) (by kernel_rfl) (Sns.cons (Sn.enc (c := (cdL 1 cdI)) (v := x1)) Sns.nil) (.inl (by kernel_rfl)) hv6 ?_
        refine RunS.seg e_ref09_MostEvenings_ok 5 (s1 := ⟨Fr 35 [(0, .v (.int .i64 x0)), (1, .sl 1 (x1.map cdI.enc)), (2, .v (.int .i64 x2)), (7, .v (.int .i64 c5)), (16, .v (.int .i64 c5)), (17, .v (.bool true)), (18, .v (.bool true)), (19, .v (.int .i64 c5)), (20, .v (.int .i64 (wr .i64 (c5 + 1)))), (21, .sl 1 (x1.map cdI.enc)), (22, .v (.int .i64 v6)), (23, .v (.int .i64 (wr .i64 ((wr .i64 (c5 + 1)) * v6)))), (24, .v (.int .i64 x2)), (25, .v (.int .i64 (mnI x2 64))), (26, .v (.int .i64 x0)), (27, hd 0 ([x0].map cdI.enc))], [mk 1 3 ([x0].map cdI.enc)]⟩) (by kernel_rfl) ?_
        obtain ⟨v7, hv7, hj9⟩ := Option.bind_eq_some_iff.1 hj9
        refine RunS.call e_ref09_MostEvenings_ok (fid := 73) (s := cs_ref09_met) (F := fun a => ref09_met a.1) (er := er_ref09_met) (xs := [hd 0 ([x0].map cdI.enc)]) (a := ([x0], ())) rfl (by kernel_rfl) (by kernel_rfl) (by kernel_rfl) (by kernel_rfl) (by kernel_rfl) (Sns.cons (Sn.hd (c := cdI) (xs := [x0]) (t := 3) (by kernel_rfl) n1_I) Sns.nil) (.inr (by kernel_rfl)) hv7 ?_
        refine RunS.seg e_ref09_MostEvenings_ok 3 (s1 := ⟨Fr 35 [(0, .v (.int .i64 x0)), (1, .sl 1 (x1.map cdI.enc)), (2, .v (.int .i64 x2)), (7, .v (.int .i64 c5)), (16, .v (.int .i64 c5)), (17, .v (.bool true)), (18, .v (.bool true)), (19, .v (.int .i64 c5)), (20, .v (.int .i64 (wr .i64 (c5 + 1)))), (21, .sl 1 (x1.map cdI.enc)), (22, .v (.int .i64 v6)), (23, .v (.int .i64 (wr .i64 ((wr .i64 (c5 + 1)) * v6)))), (24, .v (.int .i64 x2)), (25, .v (.int .i64 (mnI x2 64))), (26, .v (.int .i64 x0)), (27, hd 0 ([x0].map cdI.enc)), (28, .v (.int .i64 v7)), (29, .v (.int .i64 (wr .i64 ((mnI x2 64) * v7)))), (30, .v (.bool (decide ((wr .i64 ((wr .i64 (c5 + 1)) * v6)) ≤ (wr .i64 ((mnI x2 64) * v7)))))), (31, .v (.bool (decide ((wr .i64 ((wr .i64 (c5 + 1)) * v6)) ≤ (wr .i64 ((mnI x2 64) * v7))))))], [mk 1 3 ([x0].map cdI.enc)]⟩) (by kernel_rfl) ?_
        have hq := Option.some.inj hj9; subst hq
        exact RunS.done rfl (Wk.sel2 [] (by kernel_rfl) (by kernel_rfl) (by kernel_rfl) trivial ⟨lu (by kernel_rfl) (by kernel_rfl), lu (by kernel_rfl) (by kernel_rfl), lu (by kernel_rfl) (by kernel_rfl), lu (by kernel_rfl) (by kernel_rfl), lu (by kernel_rfl) (by kernel_rfl), trivial⟩)
      · rw [if_f hc12] at hj9
        rw [hc12]
        refine RunS.seg e_ref09_MostEvenings_ok 13 (s1 := ⟨Fr 35 [(0, .v (.int .i64 x0)), (1, .sl 1 (x1.map cdI.enc)), (2, .v (.int .i64 x2)), (7, .v (.int .i64 c5)), (16, .v (.int .i64 c5)), (17, .v (.bool false)), (18, .v (.bool false)), (19, .tp []), (20, .tp []), (21, .tp []), (22, .tp []), (23, .tp []), (24, .tp []), (25, .tp []), (26, .tp []), (27, .tp []), (28, .tp []), (29, .tp []), (30, .tp []), (31, .v (.bool false))], []⟩) (by kernel_rfl) ?_
        have hq := Option.some.inj hj9; subst hq
        exact RunS.done rfl (Wk.fr (by kernel_rfl))
    refine Sem.cond (b := j9) (by kernel_rfl) (fun hb10 => ?_) (fun hb10 => ?_)
    · rw [if_pos hb10] at h
      refine Sem.skip ?_
      refine Sem.block ?_
      refine Sem.runS (s1 := ⟨Fr 35 [(0, .v (.int .i64 x0)), (1, .sl 1 (x1.map cdI.enc)), (2, .v (.int .i64 x2)), (7, .v (.int .i64 (wr .i64 (c5 + 1))))], []⟩) ?_ ?_
      · refine RunS.seg e_ref09_MostEvenings_ok 3 (s1 := ⟨Fr 35 [(0, .v (.int .i64 x0)), (1, .sl 1 (x1.map cdI.enc)), (2, .v (.int .i64 x2)), (7, .v (.int .i64 (wr .i64 (c5 + 1)))), (31, .v (.bool j9)), (32, .v (.int .i64 c5)), (33, .v (.int .i64 (wr .i64 (c5 + 1))))], []⟩) (by kernel_rfl) ?_
        exact RunS.done rfl (Wk.fr (by kernel_rfl))
      exact SemN.wk (s1 := ⟨Fr 35 [(0, .v (.int .i64 x0)), (1, .sl 1 (x1.map cdI.enc)), (2, .v (.int .i64 x2)), (7, .v (.int .i64 (wr .i64 (c5 + 1))))], []⟩) (Wk.fr (by kernel_rfl)) (ih (wr .i64 (c5 + 1)) h)
    · rw [if_f hb10] at h
      refine Sem.exit ?_
      have hq := Option.some.inj h; subst hq
      exact ⟨rfl, (Wk.fr (by kernel_rfl))⟩
set_option maxRecDepth 100000 in
theorem ref09_MostEvenings_sem (x0 : Int) (x1 : (List Int)) (x2 : Int) (r : Int) (h : ref09_MostEvenings x0 x1 x2 = some r) : Sem e_ref09_MostEvenings ⟨none, false⟩ cb_ref09_MostEvenings ⟨Fr 35 (pairs0 0 (cs_ref09_MostEvenings.enc (x0, x1, x2, ()))), []⟩ fun e s' => (e = .normal ∨ e = .ret) ∧ ∃ xs, resA e_ref09_MostEvenings.P s'.fr s'.hp Tryd.f34.results.toList = some xs ∧ retA xs = er_ref09_MostEvenings r := by
  unfold ref09_MostEvenings at h
  refine Sem.wkQ (Sem.wk (s1 := ⟨Fr 35 [(0, .v (.int .i64 x0)), (1, .sl 1 (x1.map cdI.enc)), (2, .v (.int .i64 x2))], []⟩) (Wk.fr (by kernel_rfl)) ?_)
  refine Sem.seq ?_
  refine Sem.runS (s1 := ⟨Fr 35 [(0, .v (.int .i64 x0)), (1, .sl 1 (x1.map cdI.enc)), (2, .v (.int .i64 x2))], []⟩) ?_ ?_
  · refine RunS.seg e_ref09_MostEvenings_ok 1 (s1 := ⟨Fr 35 [(0, .v (.int .i64 x0)), (1, .sl 1 (x1.map cdI.enc)), (2, .v (.int .i64 x2)), (6, .v (.int .i64 0))], []⟩) (by kernel_rfl) ?_
    exact RunS.done rfl (Wk.fr (by kernel_rfl))
  refine Sem.seq ?_
  refine Sem.seq ?_
  obtain ⟨v1, hv1, h⟩ := Option.bind_eq_some_iff.1 h
  obtain ⟨j3, hj3, h⟩ := Option.bind_eq_some_iff.1 h
  refine Sem.runS (s1 := ⟨Fr 35 [(0, .v (.int .i64 x0)), (1, .sl 1 (x1.map cdI.enc)), (2, .v (.int .i64 x2)), (15, .v (.bool j3))], []⟩) ?_ ?_
  · refine RunS.seg e_ref09_MostEvenings_ok 2 (s1 := ⟨Fr 35 [(0, .v (.int .i64 x0)), (1, .sl 1 (x1.map cdI.enc)), (2, .v (.int .i64 x2)), (8, .v (.int .i64 x0)), (9, .sl 1 (x1.map cdI.enc))], []⟩) (by kernel_rfl) ?_
    refine RunS.call e_ref09_MostEvenings_ok (fid := 70) (s := cs_ref09_Fit) (F := fun a => ref09_Fit a.1 a.2.1) (er := er_ref09_Fit) (xs := [.v (.int .i64 x0), .sl 1 (x1.map cdI.enc)]) (a := (x0, x1, ())) rfl (wantedA_none rfl) (by kernel_rfl) (by kernel_rfl) (by kernel_rfl) (by kernel_rfl) (Sns.cons (Sn.enc (c := cdI) (v := x0)) (Sns.cons (Sn.enc (c := (cdL 1 cdI)) (v := x1)) Sns.nil)) (.inl (by kernel_rfl)) hv1 ?_
    refine RunS.seg e_ref09_MostEvenings_ok 2 (s1 := ⟨Fr 35 [(0, .v (.int .i64 x0)), (1, .sl 1 (x1.map cdI.enc)), (2, .v (.int .i64 x2)), (8, .v (.int .i64 x0)), (9, .sl 1 (x1.map cdI.enc)), (10, .v (.bool v1)), (11, .v (.bool (!v1))), (12, .v (.bool (!v1)))], []⟩) (by kernel_rfl) ?_
    rcases Bool.eq_false_or_eq_true (!v1) with hc14 | hc14
    · rw [if_pos hc14] at hj3
      rw [hc14]
      refine RunS.seg e_ref09_MostEvenings_ok 3 (s1 := ⟨Fr 35 [(0, .v (.int .i64 x0)), (1, .sl 1 (x1.map cdI.enc)), (2, .v (.int .i64 x2)), (8, .v (.int .i64 x0)), (9, .sl 1 (x1.map cdI.enc)), (10, .v (.bool v1)), (11, .v (.bool true)), (12, .v (.bool true)), (13, .tp []), (14, .tp []), (15, .v (.bool true))], []⟩) (by kernel_rfl) ?_
      have hq := Option.some.inj hj3; subst hq
      exact RunS.done rfl (Wk.fr (by kernel_rfl))
    · rw [if_f hc14] at hj3
      rw [hc14]
      refine RunS.seg e_ref09_MostEvenings_ok 3 (s1 := ⟨Fr 35 [(0, .v (.int .i64 x0)), (1, .sl 1 (x1.map cdI.enc)), (2, .v (.int .i64 x2)), (8, .v (.int .i64 x0)), (9, .sl 1 (x1.map cdI.enc)), (10, .v (.bool v1)), (11, .v (.bool false)), (12, .v (.bool false)), (13, .v (.int .i64 x2)), (14, .v (.bool (decide (x2 < 0)))), (15, .v (.bool (decide (x2 < 0))))], []⟩) (by kernel_rfl) ?_
      have hq := Option.some.inj hj3; subst hq
      exact RunS.done rfl (Wk.fr (by kernel_rfl))
  refine Sem.cond (b := j3) (by kernel_rfl) (fun hb4 => ?_) (fun hb4 => ?_)
  · rw [if_pos hb4] at h
    refine Sem.seq ?_
    refine Sem.runS (s1 := ⟨Fr 35 [(6, .v (.int .i64 0))], []⟩) ?_ ?_
    · refine RunS.seg e_ref09_MostEvenings_ok 1 (s1 := ⟨Fr 35 [(0, .v (.int .i64 x0)), (1, .sl 1 (x1.map cdI.enc)), (2, .v (.int .i64 x2)), (6, .v (.int .i64 0)), (15, .v (.bool j3))], []⟩) (by kernel_rfl) ?_
      exact RunS.done rfl (Wk.fr (by kernel_rfl))
    refine Sem.ret ?_
    have hq := Option.some.inj h; subst hq
    exact ⟨⟨Fr 35 [(6, .v (.int .i64 0))], []⟩, (Wk.fr (by kernel_rfl)), .inr rfl, [.v (.int .i64 0)], (by kernel_rfl), (by kernel_rfl)⟩
  · rw [if_f hb4] at h
    refine Sem.skip ?_
    refine Sem.seq ?_
    refine Sem.runS (s1 := ⟨Fr 35 [(0, .v (.int .i64 x0)), (1, .sl 1 (x1.map cdI.enc)), (2, .v (.int .i64 x2)), (7, .v (.int .i64 0))], []⟩) ?_ ?_
    · refine RunS.seg e_ref09_MostEvenings_ok 1 (s1 := ⟨Fr 35 [(0, .v (.int .i64 x0)), (1, .sl 1 (x1.map cdI.enc)), (2, .v (.int .i64 x2)), (7, .v (.int .i64 0)), (15, .v (.bool j3))], []⟩) (by kernel_rfl) ?_
      exact RunS.done rfl (Wk.fr (by kernel_rfl))
    refine Sem.seq ?_
    refine Sem.block ?_
    obtain ⟨r13, hr13, h⟩ := Option.bind_eq_some_iff.1 h
    refine Sem.loop (n := 100000) ?_
    refine Sem.cutN (SemN.wk (s1 := ⟨Fr 35 [(0, .v (.int .i64 x0)), (1, .sl 1 (x1.map cdI.enc)), (2, .v (.int .i64 x2)), (7, .v (.int .i64 0))], []⟩) (Wk.fr (by kernel_rfl)) (ref09_MostEvenings_1_ok x0 x1 x2 _ 0 _ hr13)) ?_
    refine Sem.seq ?_
    refine Sem.runS (s1 := ⟨Fr 35 [(6, .v (.int .i64 r13))], []⟩) ?_ ?_
    · refine RunS.seg e_ref09_MostEvenings_ok 2 (s1 := ⟨Fr 35 [(6, .v (.int .i64 r13)), (7, .v (.int .i64 r13)), (34, .v (.int .i64 r13))], []⟩) (by kernel_rfl) ?_
      exact RunS.done rfl (Wk.fr (by kernel_rfl))
    refine Sem.ret ?_
    have hq := Option.some.inj h; subst hq
    exact ⟨⟨Fr 35 [(6, .v (.int .i64 r13))], []⟩, (Wk.fr (by kernel_rfl)), .inr rfl, [.v (.int .i64 r13)], (by kernel_rfl), (by kernel_rfl)⟩
def t_ref09_MostEvenings : List AV → Option AV := told cs_ref09_MostEvenings (fun a => ref09_MostEvenings a.1 a.2.1 a.2.2.1) er_ref09_MostEvenings
theorem x_ref09_MostEvenings : XOk 34 t_ref09_MostEvenings := by
  refine EnvOk.x (E := e_ref09_MostEvenings) (contract_ok e_ref09_MostEvenings_ok (fn := Tryd.f34) (c := cb_ref09_MostEvenings) ?h1 ?h2 ⟨Tryd.call34⟩ cs_ref09_MostEvenings (fun a => ref09_MostEvenings a.1 a.2.1 a.2.2.1) er_ref09_MostEvenings (fun a => (by show 3 ≤ 35; decide)) ?h3 ?h4) rfl rfl
  case h1 => kernel_rfl
  case h2 => kernel_rfl
  case h3 => intro b; kernel_rfl
  case h4 => exact fun a b h => ref09_MostEvenings_sem a.1 a.2.1 a.2.2.1 b h
end Go.Proofs.YthofgamegondnaaDoor
