/- A function of plain data that the program's function 32 computes. By a program of mine. -/
import Derived.Test.YthofgamegondnaaDoorCx
import Derived.Test.YthofgamegondnaaDoorF70
import Derived.Test.YthofgamegondnaaDoorF73
namespace Go.Proofs.YthofgamegondnaaDoor
open Go.RowKit
/- trestle/trestleref09.LeastMost -/
noncomputable def e_ref09_LeastMost : Env := ((E0.withX 70 t_ref09_Fit).withX 73 t_ref09_met)
theorem e_ref09_LeastMost_ok : EnvOk e_ref09_LeastMost := (EnvOk.withX (EnvOk.withX E0_ok x_ref09_Fit.1 x_ref09_Fit.2) x_ref09_met.1 x_ref09_met.2)
def ref09_LeastMost_1 (x0 : Int) (x2 : Int) (v5 : Int) : Nat → Int → Option ((Int))
  | 0, _ => none
  | f + 1, c6 =>
    (ref09_met [x0]).bind fun v7 =>
    if (decide ((wr .i64 (c6 * v7)) < (wr .i64 ((mnI x2 64) * v5)))) = true then
    ref09_LeastMost_1 x0 x2 v5 f (wr .i64 (c6 + 1))
    else
    some c6
def ref09_LeastMost (x0 : Int) (x1 : (List Int)) (x2 : Int) : Option (Int) :=
  (ref09_Fit x0 x1).bind fun v1 =>
  (if (!v1) = true then some true else some (decide (x2 < 1))).bind fun j3 =>
  if j3 = true then
  some 0
  else
  (ref09_met x1).bind fun v5 =>
  (ref09_LeastMost_1 x0 x2 v5 100000 0).bind fun r10 =>
  some r10
def cs_ref09_LeastMost : Cs (Int × (List Int) × Int × Unit) := (csC cdI (csC (cdL 1 cdI) (csC cdI csN)))
def er_ref09_LeastMost (r : Int) : AV := cdI.enc r
noncomputable def cb_ref09_LeastMost : Code := codeOf Tryd.f32
set_option maxRecDepth 100000 in
theorem ref09_LeastMost_1_ok (x0 : Int) (x2 : Int) (v5 : Int) : ∀ (f : Nat) (c6 : Int) (r : (Int)), ref09_LeastMost_1 x0 x2 v5 f c6 = some r → SemN e_ref09_LeastMost ⟨none, false⟩ (pc cb_ref09_LeastMost [1, 1, 1, 1, 0, 0, 0]) f ⟨Fr 32 [(0, .v (.int .i64 x0)), (7, .v (.int .i64 (wr .i64 ((mnI x2 64) * v5)))), (8, .v (.int .i64 c6))], []⟩ (fun e s => e = (.exit 0) ∧ Wk e_ref09_LeastMost s ⟨Fr 32 [(8, .v (.int .i64 r))], []⟩) := by
  intro f
  induction f with
  | zero => intro c6 r h; cases h
  | succ f ih0 =>
    intro c6 r h
    have ih := fun (c6 : Int) => ih0 c6 r
    unfold ref09_LeastMost_1 at h
    refine SemN.succ ?_
    refine Sem.seq ?_
    refine Sem.seq ?_
    obtain ⟨v7, hv7, h⟩ := Option.bind_eq_some_iff.1 h
    refine Sem.runS (s1 := ⟨Fr 32 [(0, .v (.int .i64 x0)), (7, .v (.int .i64 (wr .i64 ((mnI x2 64) * v5)))), (8, .v (.int .i64 c6)), (28, .v (.bool (decide ((wr .i64 (c6 * v7)) < (wr .i64 ((mnI x2 64) * v5))))))], []⟩) ?_ ?_
    · refine RunS.seg e_ref09_LeastMost_ok 3 (s1 := ⟨Fr 32 [(0, .v (.int .i64 x0)), (7, .v (.int .i64 (wr .i64 ((mnI x2 64) * v5)))), (8, .v (.int .i64 c6)), (22, .v (.int .i64 c6)), (23, .v (.int .i64 x0)), (24, hd 0 ([x0].map cdI.enc))], [mk 1 3 ([x0].map cdI.enc)]⟩) (by kernel_rfl) ?_
      refine RunS.call e_ref09_LeastMost_ok (fid := 73) (s := cs_ref09_met) (F := fun a => ref09_met a.1) (er := er_ref09_met) (xs := [hd 0 ([x0].map cdI.enc)]) (a := ([x0], ())) rfl (wantedA_none rfl) (by kernel_rfl) (by kernel_rfl) (by kernel_rfl) (by kernel_rfl) (Sns.cons (Sn.hd (c := cdI) (xs := [x0]) (t := 3) (by kernel_rfl) n1_I) Sns.nil) (.inr (by kernel_rfl)) hv7 ?_
      refine RunS.seg e_ref09_LeastMost_ok 3 (s1 := ⟨Fr 32 [(0, .v (.int .i64 x0)), (7, .v (.int .i64 (wr .i64 ((mnI x2 64) * v5)))), (8, .v (.int .i64 c6)), (22, .v (.int .i64 c6)), (23, .v (.int .i64 x0)), (24, hd 0 ([x0].map cdI.enc)), (25, .v (.int .i64 v7)), (26, .v (.int .i64 (wr .i64 (c6 * v7)))), (27, .v (.int .i64 (wr .i64 ((mnI x2 64) * v5)))), (28, .v (.bool (decide ((wr .i64 (c6 * v7)) < (wr .i64 ((mnI x2 64) * v5))))))], [mk 1 3 ([x0].map cdI.enc)]⟩) (by kernel_rfl) ?_
      exact RunS.done rfl (Wk.sel2 [] (by kernel_rfl) (by kernel_rfl) (by kernel_rfl) trivial ⟨lu (by kernel_rfl) (by kernel_rfl), lu (by kernel_rfl) (by kernel_rfl), lu (by kernel_rfl) (by kernel_rfl), lu (by kernel_rfl) (by kernel_rfl), trivial⟩)
    refine Sem.cond (b := (decide ((wr .i64 (c6 * v7)) < (wr .i64 ((mnI x2 64) * v5))))) (by kernel_rfl) (fun hb8 => ?_) (fun hb8 => ?_)
    · rw [if_pos hb8] at h
      refine Sem.skip ?_
      refine Sem.block ?_
      refine Sem.runS (s1 := ⟨Fr 32 [(0, .v (.int .i64 x0)), (7, .v (.int .i64 (wr .i64 ((mnI x2 64) * v5)))), (8, .v (.int .i64 (wr .i64 (c6 + 1))))], []⟩) ?_ ?_
      · refine RunS.seg e_ref09_LeastMost_ok 3 (s1 := ⟨Fr 32 [(0, .v (.int .i64 x0)), (7, .v (.int .i64 (wr .i64 ((mnI x2 64) * v5)))), (8, .v (.int .i64 (wr .i64 (c6 + 1)))), (28, .v (.bool (decide ((wr .i64 (c6 * v7)) < (wr .i64 ((mnI x2 64) * v5)))))), (29, .v (.int .i64 c6)), (30, .v (.int .i64 (wr .i64 (c6 + 1))))], []⟩) (by kernel_rfl) ?_
        exact RunS.done rfl (Wk.fr (by kernel_rfl))
      exact SemN.wk (s1 := ⟨Fr 32 [(0, .v (.int .i64 x0)), (7, .v (.int .i64 (wr .i64 ((mnI x2 64) * v5)))), (8, .v (.int .i64 (wr .i64 (c6 + 1))))], []⟩) (Wk.fr (by kernel_rfl)) (ih (wr .i64 (c6 + 1)) h)
    · rw [if_f hb8] at h
      refine Sem.exit ?_
      have hq := Option.some.inj h; subst hq
      exact ⟨rfl, (Wk.fr (by kernel_rfl))⟩
set_option maxRecDepth 100000 in
theorem ref09_LeastMost_sem (x0 : Int) (x1 : (List Int)) (x2 : Int) (r : Int) (h : ref09_LeastMost x0 x1 x2 = some r) : Sem e_ref09_LeastMost ⟨none, false⟩ cb_ref09_LeastMost ⟨Fr 32 (pairs0 0 (cs_ref09_LeastMost.enc (x0, x1, x2, ()))), []⟩ fun e s' => (e = .normal ∨ e = .ret) ∧ ∃ xs, resA e_ref09_LeastMost.P s'.fr s'.hp Tryd.f32.results.toList = some xs ∧ retA xs = er_ref09_LeastMost r := by
  unfold ref09_LeastMost at h
  refine Sem.wkQ (Sem.wk (s1 := ⟨Fr 32 [(0, .v (.int .i64 x0)), (1, .sl 1 (x1.map cdI.enc)), (2, .v (.int .i64 x2))], []⟩) (Wk.fr (by kernel_rfl)) ?_)
  refine Sem.seq ?_
  refine Sem.runS (s1 := ⟨Fr 32 [(0, .v (.int .i64 x0)), (1, .sl 1 (x1.map cdI.enc)), (2, .v (.int .i64 x2))], []⟩) ?_ ?_
  · refine RunS.seg e_ref09_LeastMost_ok 1 (s1 := ⟨Fr 32 [(0, .v (.int .i64 x0)), (1, .sl 1 (x1.map cdI.enc)), (2, .v (.int .i64 x2)), (6, .v (.int .i64 0))], []⟩) (by kernel_rfl) ?_
    exact RunS.done rfl (Wk.fr (by kernel_rfl))
  refine Sem.seq ?_
  refine Sem.seq ?_
  obtain ⟨v1, hv1, h⟩ := Option.bind_eq_some_iff.1 h
  obtain ⟨j3, hj3, h⟩ := Option.bind_eq_some_iff.1 h
  refine Sem.runS (s1 := ⟨Fr 32 [(0, .v (.int .i64 x0)), (1, .sl 1 (x1.map cdI.enc)), (2, .v (.int .i64 x2)), (16, .v (.bool j3))], []⟩) ?_ ?_
  · refine RunS.seg e_ref09_LeastMost_ok 2 (s1 := ⟨Fr 32 [(0, .v (.int .i64 x0)), (1, .sl 1 (x1.map cdI.enc)), (2, .v (.int .i64 x2)), (9, .v (.int .i64 x0)), (10, .sl 1 (x1.map cdI.enc))], []⟩) (by kernel_rfl) ?_
    refine RunS.call e_ref09_LeastMost_ok (fid := 70) (s := cs_ref09_Fit) (F := fun a => ref09_Fit a.1 a.2.1) (er := er_ref09_Fit) (xs := [.v (.int .i64 x0), .sl 1 (x1.map cdI.enc)]) (a := (x0, x1, ())) rfl (wantedA_none rfl) (by kernel_rfl) (by kernel_rfl) (by kernel_rfl) (by kernel_rfl) (Sns.cons (Sn.enc (c := cdI) (v := x0)) (Sns.cons (Sn.enc (c := (cdL 1 cdI)) (v := x1)) Sns.nil)) (.inl (by kernel_rfl)) hv1 ?_
    refine RunS.seg e_ref09_LeastMost_ok 2 (s1 := ⟨Fr 32 [(0, .v (.int .i64 x0)), (1, .sl 1 (x1.map cdI.enc)), (2, .v (.int .i64 x2)), (9, .v (.int .i64 x0)), (10, .sl 1 (x1.map cdI.enc)), (11, .v (.bool v1)), (12, .v (.bool (!v1))), (13, .v (.bool (!v1)))], []⟩) (by kernel_rfl) ?_
    rcases Bool.eq_false_or_eq_true (!v1) with hc11 | hc11
    · rw [if_pos hc11] at hj3
      rw [hc11]
      refine RunS.seg e_ref09_LeastMost_ok 3 (s1 := ⟨Fr 32 [(0, .v (.int .i64 x0)), (1, .sl 1 (x1.map cdI.enc)), (2, .v (.int .i64 x2)), (9, .v (.int .i64 x0)), (10, .sl 1 (x1.map cdI.enc)), (11, .v (.bool v1)), (12, .v (.bool true)), (13, .v (.bool true)), (14, .tp []), (15, .tp []), (16, .v (.bool true))], []⟩) (by kernel_rfl) ?_
      have hq := Option.some.inj hj3; subst hq
      exact RunS.done rfl (Wk.fr (by kernel_rfl))
    · rw [if_f hc11] at hj3
      rw [hc11]
      refine RunS.seg e_ref09_LeastMost_ok 3 (s1 := ⟨Fr 32 [(0, .v (.int .i64 x0)), (1, .sl 1 (x1.map cdI.enc)), (2, .v (.int .i64 x2)), (9, .v (.int .i64 x0)), (10, .sl 1 (x1.map cdI.enc)), (11, .v (.bool v1)), (12, .v (.bool false)), (13, .v (.bool false)), (14, .v (.int .i64 x2)), (15, .v (.bool (decide (x2 < 1)))), (16, .v (.bool (decide (x2 < 1))))], []⟩) (by kernel_rfl) ?_
      have hq := Option.some.inj hj3; subst hq
      exact RunS.done rfl (Wk.fr (by kernel_rfl))
  refine Sem.cond (b := j3) (by kernel_rfl) (fun hb4 => ?_) (fun hb4 => ?_)
  · rw [if_pos hb4] at h
    refine Sem.seq ?_
    refine Sem.runS (s1 := ⟨Fr 32 [(6, .v (.int .i64 0))], []⟩) ?_ ?_
    · refine RunS.seg e_ref09_LeastMost_ok 1 (s1 := ⟨Fr 32 [(0, .v (.int .i64 x0)), (1, .sl 1 (x1.map cdI.enc)), (2, .v (.int .i64 x2)), (6, .v (.int .i64 0)), (16, .v (.bool j3))], []⟩) (by kernel_rfl) ?_
      exact RunS.done rfl (Wk.fr (by kernel_rfl))
    refine Sem.ret ?_
    have hq := Option.some.inj h; subst hq
    exact ⟨⟨Fr 32 [(6, .v (.int .i64 0))], []⟩, (Wk.fr (by kernel_rfl)), .inr rfl, [.v (.int .i64 0)], (by kernel_rfl), (by kernel_rfl)⟩
  · rw [if_f hb4] at h
    refine Sem.skip ?_
    refine Sem.seq ?_
    obtain ⟨v5, hv5, h⟩ := Option.bind_eq_some_iff.1 h
    refine Sem.runS (s1 := ⟨Fr 32 [(0, .v (.int .i64 x0)), (7, .v (.int .i64 (wr .i64 ((mnI x2 64) * v5))))], []⟩) ?_ ?_
    · refine RunS.seg e_ref09_LeastMost_ok 3 (s1 := ⟨Fr 32 [(0, .v (.int .i64 x0)), (1, .sl 1 (x1.map cdI.enc)), (2, .v (.int .i64 x2)), (16, .v (.bool j3)), (17, .v (.int .i64 x2)), (18, .v (.int .i64 (mnI x2 64))), (19, .sl 1 (x1.map cdI.enc))], []⟩) (by kernel_rfl) ?_
      refine RunS.call e_ref09_LeastMost_ok (fid := 73) (s := cs_ref09_met) (F := fun a => ref09_met a.1) (er := er_ref09_met) (xs := [.sl 1 (x1.map cdI.enc)]) (a := (x1, ())) rfl (wantedA_none rfl) (by kernel_rfl) (by kernel_rfl) (by kernel_rfl) (by kernel_rfl) (Sns.cons (Sn.enc (c := (cdL 1 cdI)) (v := x1)) Sns.nil) (.inl (by kernel_rfl)) hv5 ?_
      refine RunS.seg e_ref09_LeastMost_ok 2 (s1 := ⟨Fr 32 [(0, .v (.int .i64 x0)), (1, .sl 1 (x1.map cdI.enc)), (2, .v (.int .i64 x2)), (7, .v (.int .i64 (wr .i64 ((mnI x2 64) * v5)))), (16, .v (.bool j3)), (17, .v (.int .i64 x2)), (18, .v (.int .i64 (mnI x2 64))), (19, .sl 1 (x1.map cdI.enc)), (20, .v (.int .i64 v5)), (21, .v (.int .i64 (wr .i64 ((mnI x2 64) * v5))))], []⟩) (by kernel_rfl) ?_
      exact RunS.done rfl (Wk.fr (by kernel_rfl))
    refine Sem.seq ?_
    refine Sem.runS (s1 := ⟨Fr 32 [(0, .v (.int .i64 x0)), (7, .v (.int .i64 (wr .i64 ((mnI x2 64) * v5)))), (8, .v (.int .i64 0))], []⟩) ?_ ?_
    · refine RunS.seg e_ref09_LeastMost_ok 1 (s1 := ⟨Fr 32 [(0, .v (.int .i64 x0)), (7, .v (.int .i64 (wr .i64 ((mnI x2 64) * v5)))), (8, .v (.int .i64 0))], []⟩) (by kernel_rfl) ?_
      exact RunS.done rfl (Wk.fr (by kernel_rfl))
    refine Sem.seq ?_
    refine Sem.block ?_
    obtain ⟨r10, hr10, h⟩ := Option.bind_eq_some_iff.1 h
    refine Sem.loop (n := 100000) ?_
    refine Sem.cutN (SemN.wk (s1 := ⟨Fr 32 [(0, .v (.int .i64 x0)), (7, .v (.int .i64 (wr .i64 ((mnI x2 64) * v5)))), (8, .v (.int .i64 0))], []⟩) (Wk.fr (by kernel_rfl)) (ref09_LeastMost_1_ok x0 x2 v5 _ 0 _ hr10)) ?_
    refine Sem.seq ?_
    refine Sem.runS (s1 := ⟨Fr 32 [(6, .v (.int .i64 r10))], []⟩) ?_ ?_
    · refine RunS.seg e_ref09_LeastMost_ok 2 (s1 := ⟨Fr 32 [(6, .v (.int .i64 r10)), (8, .v (.int .i64 r10)), (31, .v (.int .i64 r10))], []⟩) (by kernel_rfl) ?_
      exact RunS.done rfl (Wk.fr (by kernel_rfl))
    refine Sem.ret ?_
    have hq := Option.some.inj h; subst hq
    exact ⟨⟨Fr 32 [(6, .v (.int .i64 r10))], []⟩, (Wk.fr (by kernel_rfl)), .inr rfl, [.v (.int .i64 r10)], (by kernel_rfl), (by kernel_rfl)⟩
def t_ref09_LeastMost : List AV → Option AV := told cs_ref09_LeastMost (fun a => ref09_LeastMost a.1 a.2.1 a.2.2.1) er_ref09_LeastMost
theorem x_ref09_LeastMost : XOk 32 t_ref09_LeastMost := by
  refine EnvOk.x (E := e_ref09_LeastMost) (contract_ok e_ref09_LeastMost_ok (fn := Tryd.f32) (c := cb_ref09_LeastMost) ?h1 ?h2 ⟨Tryd.call32⟩ cs_ref09_LeastMost (fun a => ref09_LeastMost a.1 a.2.1 a.2.2.1) er_ref09_LeastMost (fun a => (by show 3 ≤ 32; decide)) ?h3 ?h4) rfl rfl
  case h1 => kernel_rfl
  case h2 => kernel_rfl
  case h3 => intro b; kernel_rfl
  case h4 => exact fun a b h => ref09_LeastMost_sem a.1 a.2.1 a.2.2.1 b h
end Go.Proofs.YthofgamegondnaaDoor
