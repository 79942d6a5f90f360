/- Proved: the tied card of the statement EveningRings, with no condition of its own: for every uint8 value the check of the rings answers true. -/
import Derived.Test.YthofgamegondnaaDoorEveningRingsM1
import Derived.Test.YthofgamegondnaaDoorEveningRingsM2
import Derived.Test.YthofgamegondnaaDoorEveningRingsM3
import Derived.Test.YthofgamegondnaaDoorEveningRingsM4
import Derived.Test.YthofgamegondnaaDoorEveningRingsM5
namespace Go.Proofs.YthofgamegondnaaDoor
open Go.RowKit
/- trestle/evening.LeastMost -/
noncomputable def e_evening_LeastMost : Env := ((E0.withX 68 t_evening_fit).withX 72 t_evening_met)
theorem e_evening_LeastMost_ok : EnvOk e_evening_LeastMost := (EnvOk.withX (EnvOk.withX E0_ok x_evening_fit.1 x_evening_fit.2) x_evening_met.1 x_evening_met.2)
noncomputable def cb_evening_LeastMost : Code := codeOf Tryd.f31
def evening_LeastMost (x0 : Int) (x1 : (List Int)) (x2 : Int) : Option (Int) :=
  (evening_fit x0 x1).bind fun v1 =>
  (if (!v1) = true then some true else if (decide (x2 < 1)) = true then some true else (evening_met x1).bind fun v2 =>
  some (v2 == 0)).bind fun j4 =>
  if j4 = true then
  some 0
  else
  (evening_met x1).bind fun v6 =>
  if (wr .i64 ((wr .i64 (x0 * (wr .i64 (x0 - 1)))).tdiv 2)) = (0 : Int) then none else
  some (wr .i64 ((wr .i64 ((wr .i64 ((wr .i64 ((mnI x2 64) * v6)) + (wr .i64 ((wr .i64 (x0 * (wr .i64 (x0 - 1)))).tdiv 2)))) - 1)).tdiv (wr .i64 ((wr .i64 (x0 * (wr .i64 (x0 - 1)))).tdiv 2))))
def cs_evening_LeastMost : Cs (Int × (List Int) × Int × Unit) := (csC cdI (csC (cdL 1 cdI) (csC cdI csN)))
def er_evening_LeastMost (r : Int) : AV := cdI.enc r
set_option maxHeartbeats 4000000 in
set_option maxRecDepth 100000 in
theorem evening_LeastMost_sem (x0 : Int) (x1 : (List Int)) (x2 : Int) (r : Int) (h : evening_LeastMost x0 x1 x2 = some r) : Sem e_evening_LeastMost ⟨none, false⟩ cb_evening_LeastMost ⟨Fr 36 (pairs0 0 (cs_evening_LeastMost.enc (x0, x1, x2, ()))), []⟩ fun e s' => (e = .normal ∨ e = .ret) ∧ ∃ xs, resA e_evening_LeastMost.P s'.fr s'.hp Tryd.f31.results.toList = some xs ∧ retA xs = er_evening_LeastMost r := by
  unfold evening_LeastMost at h
  refine Sem.wkQ (Sem.wk (s1 := ⟨Fr 36 [(0, .v (.int .i64 x0)), (1, .sl 1 (x1.map cdI.enc)), (2, .v (.int .i64 x2))], []⟩) (Wk.fr (by kernel_rfl)) ?_)
  refine Sem.seq ?_
  refine Sem.runS (s1 := ⟨Fr 36 [(0, .v (.int .i64 x0)), (1, .sl 1 (x1.map cdI.enc)), (2, .v (.int .i64 x2))], []⟩) ?_ ?_
  · refine RunS.segF (n := 36) e_evening_LeastMost_ok 1 [(0, .v (.int .i64 x0)), (1, .sl 1 (x1.map cdI.enc)), (2, .v (.int .i64 x2))] [] (by kernel_rfl) ?_
    exact RunS.done rfl (Wk.fr (by kernel_rfl))
  refine Sem.seq ?_
  refine Sem.seq ?_
  obtain ⟨v1, hv1, h⟩ := Option.bind_eq_some_iff.1 h
  obtain ⟨j4, hj4, h⟩ := Option.bind_eq_some_iff.1 h
  refine Sem.runS (s1 := ⟨Fr 36 [(0, .v (.int .i64 x0)), (1, .sl 1 (x1.map cdI.enc)), (2, .v (.int .i64 x2)), (20, .v (.bool j4))], []⟩) ?_ ?_
  · refine RunS.segF (n := 36) e_evening_LeastMost_ok 2 [(0, .v (.int .i64 x0)), (1, .sl 1 (x1.map cdI.enc)), (2, .v (.int .i64 x2)), (8, .v (.int .i64 x0)), (9, .sl 1 (x1.map cdI.enc))] [] (by kernel_rfl) ?_
    refine RunS.call e_evening_LeastMost_ok (fid := 68) (s := cs_evening_fit) (F := fun a => evening_fit a.1 a.2.1) (er := er_evening_fit) (xs := [.v (.int .i64 x0), .sl 1 (x1.map cdI.enc)]) (a := (x0, x1, ())) rfl (wantedA_none rfl) (by kernel_rfl) (by kernel_rfl) (by kernel_rfl) (by kernel_rfl) (Sns.cons (Sn.enc (c := cdI) (v := x0)) (Sns.cons (Sn.enc (c := (cdL 1 cdI)) (v := x1)) Sns.nil)) (.inl (by kernel_rfl)) hv1 ?_
    refine RunS.segF (n := 36) e_evening_LeastMost_ok 2 [(0, .v (.int .i64 x0)), (1, .sl 1 (x1.map cdI.enc)), (2, .v (.int .i64 x2)), (12, .v (.bool (!v1)))] [] (by kernel_rfl) ?_
    rcases Bool.eq_false_or_eq_true (!v1) with hc8 | hc8
    · rw [if_pos hc8] at hj4
      rw [hc8]
      refine RunS.segF (n := 36) e_evening_LeastMost_ok 8 [(0, .v (.int .i64 x0)), (1, .sl 1 (x1.map cdI.enc)), (2, .v (.int .i64 x2)), (20, .v (.bool true))] [] (by kernel_rfl) ?_
      have hq := Option.some.inj hj4; subst hq
      exact RunS.done rfl (Wk.fr (by kernel_rfl))
    · rw [if_f hc8] at hj4
      rw [hc8]
      refine RunS.segF (n := 36) e_evening_LeastMost_ok 4 [(0, .v (.int .i64 x0)), (1, .sl 1 (x1.map cdI.enc)), (2, .v (.int .i64 x2)), (16, .v (.bool (decide (x2 < 1))))] [] (by kernel_rfl) ?_
      rcases Bool.eq_false_or_eq_true (decide (x2 < 1)) with hc9 | hc9
      · rw [if_pos hc9] at hj4
        rw [hc9]
        refine RunS.segF (n := 36) e_evening_LeastMost_ok 4 [(0, .v (.int .i64 x0)), (1, .sl 1 (x1.map cdI.enc)), (2, .v (.int .i64 x2)), (20, .v (.bool true))] [] (by kernel_rfl) ?_
        have hq := Option.some.inj hj4; subst hq
        exact RunS.done rfl (Wk.fr (by kernel_rfl))
      · rw [if_f hc9] at hj4
        rw [hc9]
        refine RunS.segF (n := 36) e_evening_LeastMost_ok 1 [(0, .v (.int .i64 x0)), (1, .sl 1 (x1.map cdI.enc)), (2, .v (.int .i64 x2)), (16, .v (.bool false)), (17, .sl 1 (x1.map cdI.enc))] [] (by kernel_rfl) ?_
        obtain ⟨v2, hv2, hj4⟩ := Option.bind_eq_some_iff.1 hj4
        refine RunS.call e_evening_LeastMost_ok (fid := 72) (s := cs_evening_met) (F := fun a => evening_met a.1) (er := er_evening_met) (xs := [.sl 1 (x1.map cdI.enc)]) (a := (x1, ())) rfl (by kernel_rfl) (by kernel_rfl) (by kernel_rfl) (by kernel_rfl) (by kernel_rfl) (Sns.cons (Sn.enc (c := (cdL 1 cdI)) (v := x1)) Sns.nil) (.inl (by kernel_rfl)) hv2 ?_
        refine RunS.segF (n := 36) e_evening_LeastMost_ok 2 [(0, .v (.int .i64 x0)), (1, .sl 1 (x1.map cdI.enc)), (2, .v (.int .i64 x2)), (20, .v (.bool (v2 == 0)))] [] (by kernel_rfl) ?_
        have hq := Option.some.inj hj4; subst hq
        exact RunS.done rfl (Wk.fr (by kernel_rfl))
  refine Sem.cond (b := j4) (by kernel_rfl) (fun hb5 => ?_) (fun hb5 => ?_)
  · rw [if_pos hb5] at h
    refine Sem.seq ?_
    refine Sem.runS (s1 := ⟨Fr 36 [(6, .v (.int .i64 0))], []⟩) ?_ ?_
    · refine RunS.segF (n := 36) e_evening_LeastMost_ok 1 [(6, .v (.int .i64 0))] [] (by kernel_rfl) ?_
      exact RunS.done rfl (Wk.fr (by kernel_rfl))
    refine Sem.ret ?_
    have hq := Option.some.inj h; subst hq
    exact ⟨⟨Fr 36 [(6, .v (.int .i64 0))], []⟩, (Wk.fr (by kernel_rfl)), .inr rfl, [.v (.int .i64 0)], (by kernel_rfl), (by kernel_rfl)⟩
  · rw [if_f hb5] at h
    refine Sem.skip ?_
    refine Sem.seq ?_
    refine Sem.runS (s1 := ⟨Fr 36 [(1, .sl 1 (x1.map cdI.enc)), (2, .v (.int .i64 x2)), (7, .v (.int .i64 (wr .i64 ((wr .i64 (x0 * (wr .i64 (x0 - 1)))).tdiv 2))))], []⟩) ?_ ?_
    · refine RunS.segF (n := 36) e_evening_LeastMost_ok 6 [(1, .sl 1 (x1.map cdI.enc)), (2, .v (.int .i64 x2)), (7, .v (.int .i64 (wr .i64 ((wr .i64 (x0 * (wr .i64 (x0 - 1)))).tdiv 2))))] [] (by kernel_rfl) ?_
      exact RunS.done rfl (Wk.fr (by kernel_rfl))
    refine Sem.seq ?_
    obtain ⟨v6, hv6, h⟩ := Option.bind_eq_some_iff.1 h
    by_cases hz7 : (wr .i64 ((wr .i64 (x0 * (wr .i64 (x0 - 1)))).tdiv 2)) = (0 : Int)
    · rw [if_pos hz7] at h; cases h
    rw [if_neg hz7] at h
    refine Sem.runS (s1 := ⟨Fr 36 [(6, .v (.int .i64 (wr .i64 ((wr .i64 ((wr .i64 ((wr .i64 ((mnI x2 64) * v6)) + (wr .i64 ((wr .i64 (x0 * (wr .i64 (x0 - 1)))).tdiv 2)))) - 1)).tdiv (wr .i64 ((wr .i64 (x0 * (wr .i64 (x0 - 1)))).tdiv 2))))))], []⟩) ?_ ?_
    · refine RunS.segF (n := 36) e_evening_LeastMost_ok 3 [(7, .v (.int .i64 (wr .i64 ((wr .i64 (x0 * (wr .i64 (x0 - 1)))).tdiv 2)))), (27, .v (.int .i64 (mnI x2 64))), (28, .sl 1 (x1.map cdI.enc))] [] (by kernel_rfl) ?_
      refine RunS.call e_evening_LeastMost_ok (fid := 72) (s := cs_evening_met) (F := fun a => evening_met a.1) (er := er_evening_met) (xs := [.sl 1 (x1.map cdI.enc)]) (a := (x1, ())) rfl (wantedA_none rfl) (by kernel_rfl) (by kernel_rfl) (by kernel_rfl) (by kernel_rfl) (Sns.cons (Sn.enc (c := (cdL 1 cdI)) (v := x1)) Sns.nil) (.inl (by kernel_rfl)) hv6 ?_
      refine RunS.segF (n := 36) e_evening_LeastMost_ok 5 [(33, .v (.int .i64 (wr .i64 ((wr .i64 ((wr .i64 ((mnI x2 64) * v6)) + (wr .i64 ((wr .i64 (x0 * (wr .i64 (x0 - 1)))).tdiv 2)))) - 1)))), (34, .v (.int .i64 (wr .i64 ((wr .i64 (x0 * (wr .i64 (x0 - 1)))).tdiv 2))))] [] (by kernel_rfl) ?_
      refine RunS.one e_evening_LeastMost_ok 0 rfl (op_q (wantedA_none rfl) rfl (q_bin (a := .v (.int .i64 (wr .i64 ((wr .i64 ((wr .i64 ((mnI x2 64) * v6)) + (wr .i64 ((wr .i64 (x0 * (wr .i64 (x0 - 1)))).tdiv 2)))) - 1)))) (b := .v (.int .i64 (wr .i64 ((wr .i64 (x0 * (wr .i64 (x0 - 1)))).tdiv 2)))) (by kernel_rfl) (by kernel_rfl) (bin_quo hz7))) ?_
      refine RunS.segF (n := 36) e_evening_LeastMost_ok 1 [(6, .v (.int .i64 (wr .i64 ((wr .i64 ((wr .i64 ((wr .i64 ((mnI x2 64) * v6)) + (wr .i64 ((wr .i64 (x0 * (wr .i64 (x0 - 1)))).tdiv 2)))) - 1)).tdiv (wr .i64 ((wr .i64 (x0 * (wr .i64 (x0 - 1)))).tdiv 2))))))] [] (by kernel_rfl) ?_
      exact RunS.done rfl (Wk.fr (by kernel_rfl))
    refine Sem.ret ?_
    have hq := Option.some.inj h; subst hq
    exact ⟨⟨Fr 36 [(6, .v (.int .i64 (wr .i64 ((wr .i64 ((wr .i64 ((wr .i64 ((mnI x2 64) * v6)) + (wr .i64 ((wr .i64 (x0 * (wr .i64 (x0 - 1)))).tdiv 2)))) - 1)).tdiv (wr .i64 ((wr .i64 (x0 * (wr .i64 (x0 - 1)))).tdiv 2))))))], []⟩, (Wk.fr (by kernel_rfl)), .inr rfl, [.v (.int .i64 (wr .i64 ((wr .i64 ((wr .i64 ((wr .i64 ((mnI x2 64) * v6)) + (wr .i64 ((wr .i64 (x0 * (wr .i64 (x0 - 1)))).tdiv 2)))) - 1)).tdiv (wr .i64 ((wr .i64 (x0 * (wr .i64 (x0 - 1)))).tdiv 2)))))], (by kernel_rfl), (by kernel_rfl)⟩
def t_evening_LeastMost : List AV → Option AV := told cs_evening_LeastMost (fun a => evening_LeastMost a.1 a.2.1 a.2.2.1) er_evening_LeastMost
theorem x_evening_LeastMost : XOk 31 t_evening_LeastMost := by
  refine EnvOk.x (E := e_evening_LeastMost) (contract_ok e_evening_LeastMost_ok (fn := Tryd.f31) (c := cb_evening_LeastMost) ?h1 ?h2 ⟨Tryd.call31⟩ cs_evening_LeastMost (fun a => evening_LeastMost a.1 a.2.1 a.2.2.1) er_evening_LeastMost (fun a => (by show 3 ≤ 36; decide)) ?h3 ?h4) rfl rfl
  case h1 => kernel_rfl
  case h2 => kernel_rfl
  case h3 => intro b; kernel_rfl
  case h4 => exact fun a b h => evening_LeastMost_sem a.1 a.2.1 a.2.2.1 b h
end Go.Proofs.YthofgamegondnaaDoor

namespace Go.Proofs.YthofgamegondnaaDoor
open Go.RowKit
/- trestle/trestleref09.met -/
noncomputable def e_ref09_met : Env := E0
theorem e_ref09_met_ok : EnvOk e_ref09_met := E0_ok
noncomputable def cb_ref09_met : Code := codeOf Tryd.f73
def ref09_met_2 (x0 : (List Int)) (c2 : Int) : Nat → Int → Int → Option ((Int))
  | 0, _, _ => none
  | f + 1, c4, c5 =>
    (idx x0 c2).bind fun v6 =>
    if (decide (c5 < v6)) = true then
    ref09_met_2 x0 c2 f (wr .i64 (c4 + c5)) (wr .i64 (c5 + 1))
    else
    some c4
def ref09_met_1 (x0 : (List Int)) : Nat → Int → Int → Option ((Int))
  | 0, _, _ => none
  | f + 1, c1, c2 =>
    if (decide (c2 < (x0.length : Int))) = true then
    (ref09_met_2 x0 c2 100000 c1 1).bind fun r9 =>
    ref09_met_1 x0 f r9 (wr .i64 (c2 + 1))
    else
    some c1
def ref09_met (x0 : (List Int)) : Option (Int) :=
  (ref09_met_1 x0 100000 0 0).bind fun r11 =>
  some r11
def cs_ref09_met : Cs ((List Int) × Unit) := (csC (cdL 1 cdI) csN)
def er_ref09_met (r : Int) : AV := cdI.enc r
set_option maxHeartbeats 4000000 in
set_option maxRecDepth 100000 in
theorem ref09_met_2_ok (x0 : (List Int)) (c2 : Int) : ∀ (f : Nat) (c4 : Int) (c5 : Int) (r : (Int)), ref09_met_2 x0 c2 f c4 c5 = some r → SemN e_ref09_met ⟨none, false⟩ (pc cb_ref09_met [1, 1, 0, 1, 0, 0, 1, 0, 0, 1, 0, 0]) f ⟨Fr 24 [(0, .sl 1 (x0.map cdI.enc)), (3, .v (.int .i64 c4)), (4, .v (.int .i64 c2)), (5, .v (.int .i64 c5))], []⟩ (fun e s => e = (.exit 2) ∧ Wk e_ref09_met s ⟨Fr 24 [(0, .sl 1 (x0.map cdI.enc)), (3, .v (.int .i64 r)), (4, .v (.int .i64 c2))], []⟩) := by
  intro f
  induction f with
  | zero => intro c4 c5 r h; cases h
  | succ f ih0 =>
    intro c4 c5 r h
    have ih := fun (c4 : Int) (c5 : Int) => ih0 c4 c5 r
    unfold ref09_met_2 at h
    refine SemN.succ ?_
    refine Sem.seq ?_
    refine Sem.seq ?_
    obtain ⟨v6, hv6, h⟩ := Option.bind_eq_some_iff.1 h
    refine Sem.runS (s1 := ⟨Fr 24 [(0, .sl 1 (x0.map cdI.enc)), (3, .v (.int .i64 c4)), (4, .v (.int .i64 c2)), (5, .v (.int .i64 c5)), (17, .v (.bool (decide (c5 < v6))))], []⟩) ?_ ?_
    · refine RunS.segF (n := 24) e_ref09_met_ok 3 [(0, .sl 1 (x0.map cdI.enc)), (3, .v (.int .i64 c4)), (4, .v (.int .i64 c2)), (5, .v (.int .i64 c5)), (12, .v (.int .i64 c5)), (13, .sl 1 (x0.map cdI.enc)), (14, .v (.int .i64 c2))] [] (by kernel_rfl) ?_
      refine RunS.one e_ref09_met_ok 0 rfl (op_q (wantedA_none rfl) rfl (q_indexAddr (a := .sl 1 (x0.map cdI.enc)) (b := .v (.int .i64 c2)) (by kernel_rfl) (by kernel_rfl) (ix_sl (e := cdI.enc) (el := 3) (k := 1) (ki := .i64) (by kernel_rfl) (by kernel_rfl) hv6))) ?_
      refine RunS.segF (n := 24) e_ref09_met_ok 2 [(0, .sl 1 (x0.map cdI.enc)), (3, .v (.int .i64 c4)), (4, .v (.int .i64 c2)), (5, .v (.int .i64 c5)), (17, .v (.bool (decide (c5 < v6))))] [] (by kernel_rfl) ?_
      exact RunS.done rfl (Wk.fr (by kernel_rfl))
    refine Sem.cond (b := (decide (c5 < v6))) (by kernel_rfl) (fun hb7 => ?_) (fun hb7 => ?_)
    · rw [if_pos hb7] at h
      refine Sem.skip ?_
      refine Sem.seq ?_
      refine Sem.block ?_
      refine Sem.runS (s1 := ⟨Fr 24 [(0, .sl 1 (x0.map cdI.enc)), (3, .v (.int .i64 (wr .i64 (c4 + c5)))), (4, .v (.int .i64 c2)), (5, .v (.int .i64 c5))], []⟩) ?_ ?_
      · refine RunS.segF (n := 24) e_ref09_met_ok 4 [(0, .sl 1 (x0.map cdI.enc)), (3, .v (.int .i64 (wr .i64 (c4 + c5)))), (4, .v (.int .i64 c2)), (5, .v (.int .i64 c5))] [] (by kernel_rfl) ?_
        exact RunS.done rfl (Wk.fr (by kernel_rfl))
      refine Sem.runS (s1 := ⟨Fr 24 [(0, .sl 1 (x0.map cdI.enc)), (3, .v (.int .i64 (wr .i64 (c4 + c5)))), (4, .v (.int .i64 c2)), (5, .v (.int .i64 (wr .i64 (c5 + 1))))], []⟩) ?_ ?_
      · refine RunS.segF (n := 24) e_ref09_met_ok 3 [(0, .sl 1 (x0.map cdI.enc)), (3, .v (.int .i64 (wr .i64 (c4 + c5)))), (4, .v (.int .i64 c2)), (5, .v (.int .i64 (wr .i64 (c5 + 1))))] [] (by kernel_rfl) ?_
        exact RunS.done rfl (Wk.fr (by kernel_rfl))
      exact SemN.wk (s1 := ⟨Fr 24 [(0, .sl 1 (x0.map cdI.enc)), (3, .v (.int .i64 (wr .i64 (c4 + c5)))), (4, .v (.int .i64 c2)), (5, .v (.int .i64 (wr .i64 (c5 + 1))))], []⟩) (Wk.fr (by kernel_rfl)) (ih (wr .i64 (c4 + c5)) (wr .i64 (c5 + 1)) h)
    · rw [if_f hb7] at h
      refine Sem.exit ?_
      have hq := Option.some.inj h; subst hq
      exact ⟨rfl, (Wk.fr (by kernel_rfl))⟩
set_option maxHeartbeats 4000000 in
set_option maxRecDepth 100000 in
theorem ref09_met_1_ok (x0 : (List Int)) : ∀ (f : Nat) (c1 : Int) (c2 : Int) (r : (Int)), ref09_met_1 x0 f c1 c2 = some r → SemN e_ref09_met ⟨none, false⟩ (pc cb_ref09_met [1, 1, 0, 1, 0, 0]) f ⟨Fr 24 [(0, .sl 1 (x0.map cdI.enc)), (3, .v (.int .i64 c1)), (4, .v (.int .i64 c2))], []⟩ (fun e s => e = (.exit 0) ∧ Wk e_ref09_met s ⟨Fr 24 [(3, .v (.int .i64 r))], []⟩) := by
  intro f
  induction f with
  | zero => intro c1 c2 r h; cases h
  | succ f ih0 =>
    intro c1 c2 r h
    have ih := fun (c1 : Int) (c2 : Int) => ih0 c1 c2 r
    unfold ref09_met_1 at h
    refine SemN.succ ?_
    refine Sem.seq ?_
    refine Sem.seq ?_
    refine Sem.runS (s1 := ⟨Fr 24 [(0, .sl 1 (x0.map cdI.enc)), (3, .v (.int .i64 c1)), (4, .v (.int .i64 c2)), (9, .v (.bool (decide (c2 < (x0.length : Int)))))], []⟩) ?_ ?_
    · refine RunS.segF (n := 24) e_ref09_met_ok 2 [(0, .sl 1 (x0.map cdI.enc)), (3, .v (.int .i64 c1)), (4, .v (.int .i64 c2)), (6, .v (.int .i64 c2)), (7, .sl 1 (x0.map cdI.enc))] [] (by kernel_rfl) ?_
      refine RunS.one e_ref09_met_ok 0 rfl (op_q (wantedA_none rfl) rfl (q_len (a := .sl 1 (x0.map cdI.enc)) (by kernel_rfl) (len_sl (el := 3) (by kernel_rfl)))) ?_
      refine RunS.segF (n := 24) e_ref09_met_ok 1 [(0, .sl 1 (x0.map cdI.enc)), (3, .v (.int .i64 c1)), (4, .v (.int .i64 c2)), (9, .v (.bool (decide (c2 < (x0.length : Int)))))] [] (by kernel_rfl) ?_
      exact RunS.done rfl (Wk.fr (by kernel_rfl))
    refine Sem.cond (b := (decide (c2 < (x0.length : Int)))) (by kernel_rfl) (fun hb3 => ?_) (fun hb3 => ?_)
    · rw [if_pos hb3] at h
      refine Sem.skip ?_
      refine Sem.seq ?_
      refine Sem.block ?_
      refine Sem.seq ?_
      refine Sem.runS (s1 := ⟨Fr 24 [(0, .sl 1 (x0.map cdI.enc)), (3, .v (.int .i64 c1)), (4, .v (.int .i64 c2)), (5, .v (.int .i64 1))], []⟩) ?_ ?_
      · refine RunS.segF (n := 24) e_ref09_met_ok 1 [(0, .sl 1 (x0.map cdI.enc)), (3, .v (.int .i64 c1)), (4, .v (.int .i64 c2)), (5, .v (.int .i64 1))] [] (by kernel_rfl) ?_
        exact RunS.done rfl (Wk.fr (by kernel_rfl))
      refine Sem.block ?_
      obtain ⟨r9, hr9, h⟩ := Option.bind_eq_some_iff.1 h
      refine Sem.loop (n := 100000) ?_
      refine Sem.cutN (SemN.wk (s1 := ⟨Fr 24 [(0, .sl 1 (x0.map cdI.enc)), (3, .v (.int .i64 c1)), (4, .v (.int .i64 c2)), (5, .v (.int .i64 1))], []⟩) (Wk.fr (by kernel_rfl)) (ref09_met_2_ok x0 c2 _ c1 1 _ hr9)) ?_
      refine Sem.runS (s1 := ⟨Fr 24 [(0, .sl 1 (x0.map cdI.enc)), (3, .v (.int .i64 r9)), (4, .v (.int .i64 (wr .i64 (c2 + 1))))], []⟩) ?_ ?_
      · refine RunS.segF (n := 24) e_ref09_met_ok 3 [(0, .sl 1 (x0.map cdI.enc)), (3, .v (.int .i64 r9)), (4, .v (.int .i64 (wr .i64 (c2 + 1))))] [] (by kernel_rfl) ?_
        exact RunS.done rfl (Wk.fr (by kernel_rfl))
      exact SemN.wk (s1 := ⟨Fr 24 [(0, .sl 1 (x0.map cdI.enc)), (3, .v (.int .i64 r9)), (4, .v (.int .i64 (wr .i64 (c2 + 1))))], []⟩) (Wk.fr (by kernel_rfl)) (ih r9 (wr .i64 (c2 + 1)) h)
    · rw [if_f hb3] at h
      refine Sem.exit ?_
      have hq := Option.some.inj h; subst hq
      exact ⟨rfl, (Wk.fr (by kernel_rfl))⟩
set_option maxHeartbeats 4000000 in
set_option maxRecDepth 100000 in
theorem ref09_met_sem (x0 : (List Int)) (r : Int) (h : ref09_met x0 = some r) : Sem e_ref09_met ⟨none, false⟩ cb_ref09_met ⟨Fr 24 (pairs0 0 (cs_ref09_met.enc (x0, ()))), []⟩ fun e s' => (e = .normal ∨ e = .ret) ∧ ∃ xs, resA e_ref09_met.P s'.fr s'.hp Tryd.f73.results.toList = some xs ∧ retA xs = er_ref09_met r := by
  unfold ref09_met at h
  refine Sem.wkQ (Sem.wk (s1 := ⟨Fr 24 [(0, .sl 1 (x0.map cdI.enc))], []⟩) (Wk.fr (by kernel_rfl)) ?_)
  refine Sem.seq ?_
  refine Sem.runS (s1 := ⟨Fr 24 [(0, .sl 1 (x0.map cdI.enc))], []⟩) ?_ ?_
  · refine RunS.segF (n := 24) e_ref09_met_ok 1 [(0, .sl 1 (x0.map cdI.enc))] [] (by kernel_rfl) ?_
    exact RunS.done rfl (Wk.fr (by kernel_rfl))
  refine Sem.seq ?_
  refine Sem.runS (s1 := ⟨Fr 24 [(0, .sl 1 (x0.map cdI.enc)), (3, .v (.int .i64 0))], []⟩) ?_ ?_
  · refine RunS.segF (n := 24) e_ref09_met_ok 1 [(0, .sl 1 (x0.map cdI.enc)), (3, .v (.int .i64 0))] [] (by kernel_rfl) ?_
    exact RunS.done rfl (Wk.fr (by kernel_rfl))
  refine Sem.seq ?_
  refine Sem.seq ?_
  refine Sem.runS (s1 := ⟨Fr 24 [(0, .sl 1 (x0.map cdI.enc)), (3, .v (.int .i64 0)), (4, .v (.int .i64 0))], []⟩) ?_ ?_
  · refine RunS.segF (n := 24) e_ref09_met_ok 1 [(0, .sl 1 (x0.map cdI.enc)), (3, .v (.int .i64 0)), (4, .v (.int .i64 0))] [] (by kernel_rfl) ?_
    exact RunS.done rfl (Wk.fr (by kernel_rfl))
  refine Sem.block ?_
  obtain ⟨r11, hr11, h⟩ := Option.bind_eq_some_iff.1 h
  refine Sem.loop (n := 100000) ?_
  refine Sem.cutN (SemN.wk (s1 := ⟨Fr 24 [(0, .sl 1 (x0.map cdI.enc)), (3, .v (.int .i64 0)), (4, .v (.int .i64 0))], []⟩) (Wk.fr (by kernel_rfl)) (ref09_met_1_ok x0 _ 0 0 _ hr11)) ?_
  refine Sem.seq ?_
  refine Sem.runS (s1 := ⟨Fr 24 [(2, .v (.int .i64 r11))], []⟩) ?_ ?_
  · refine RunS.segF (n := 24) e_ref09_met_ok 2 [(2, .v (.int .i64 r11))] [] (by kernel_rfl) ?_
    exact RunS.done rfl (Wk.fr (by kernel_rfl))
  refine Sem.ret ?_
  have hq := Option.some.inj h; subst hq
  exact ⟨⟨Fr 24 [(2, .v (.int .i64 r11))], []⟩, (Wk.fr (by kernel_rfl)), .inr rfl, [.v (.int .i64 r11)], (by kernel_rfl), (by kernel_rfl)⟩
def t_ref09_met : List AV → Option AV := told cs_ref09_met (fun a => ref09_met a.1) er_ref09_met
theorem x_ref09_met : XOk 73 t_ref09_met := by
  refine EnvOk.x (E := e_ref09_met) (contract_ok e_ref09_met_ok (fn := Tryd.f73) (c := cb_ref09_met) ?h1 ?h2 ⟨Tryd.call73⟩ cs_ref09_met (fun a => ref09_met a.1) er_ref09_met (fun a => (by show 1 ≤ 24; decide)) ?h3 ?h4) rfl rfl
  case h1 => kernel_rfl
  case h2 => kernel_rfl
  case h3 => intro b; kernel_rfl
  case h4 => exact fun a b h => ref09_met_sem a.1 b h
end Go.Proofs.YthofgamegondnaaDoor

namespace Go.Proofs.YthofgamegondnaaDoor
open Go.RowKit
/- trestle/trestleref09.LeastMost -/
noncomputable def e_ref09_LeastMost : Env := ((E0.withX 70 t_ref09_Fit).withX 73 t_ref09_met)
theorem e_ref09_LeastMost_ok : EnvOk e_ref09_LeastMost := (EnvOk.withX (EnvOk.withX E0_ok x_ref09_Fit.1 x_ref09_Fit.2) x_ref09_met.1 x_ref09_met.2)
noncomputable def cb_ref09_LeastMost : Code := codeOf Tryd.f32
def ref09_LeastMost_1 (x0 : Int) (x2 : Int) (v5 : Int) : Nat → Int → Option ((Int))
  | 0, _ => none
  | f + 1, c6 =>
    (ref09_met [x0]).bind fun v7 =>
    if (decide ((wr .i64 (c6 * v7)) < (wr .i64 ((mnI x2 64) * v5)))) = true then
    ref09_LeastMost_1 x0 x2 v5 f (wr .i64 (c6 + 1))
    else
    some c6
def ref09_LeastMost (x0 : Int) (x1 : (List Int)) (x2 : Int) : Option (Int) :=
  (ref09_Fit x0 x1).bind fun v1 =>
  (if (!v1) = true then some true else some (decide (x2 < 1))).bind fun j3 =>
  if j3 = true then
  some 0
  else
  (ref09_met x1).bind fun v5 =>
  (ref09_LeastMost_1 x0 x2 v5 100000 0).bind fun r10 =>
  some r10
def cs_ref09_LeastMost : Cs (Int × (List Int) × Int × Unit) := (csC cdI (csC (cdL 1 cdI) (csC cdI csN)))
def er_ref09_LeastMost (r : Int) : AV := cdI.enc r
set_option maxHeartbeats 4000000 in
set_option maxRecDepth 100000 in
theorem ref09_LeastMost_1_ok (x0 : Int) (x2 : Int) (v5 : Int) : ∀ (f : Nat) (c6 : Int) (r : (Int)), ref09_LeastMost_1 x0 x2 v5 f c6 = some r → SemN e_ref09_LeastMost ⟨none, false⟩ (pc cb_ref09_LeastMost [1, 1, 1, 1, 0, 0, 0]) f ⟨Fr 32 [(0, .v (.int .i64 x0)), (7, .v (.int .i64 (wr .i64 ((mnI x2 64) * v5)))), (8, .v (.int .i64 c6))], []⟩ (fun e s => e = (.exit 0) ∧ Wk e_ref09_LeastMost s ⟨Fr 32 [(8, .v (.int .i64 r))], []⟩) := by
  intro f
  induction f with
  | zero => intro c6 r h; cases h
  | succ f ih0 =>
    intro c6 r h
    have ih := fun (c6 : Int) => ih0 c6 r
    unfold ref09_LeastMost_1 at h
    refine SemN.succ ?_
    refine Sem.seq ?_
    refine Sem.seq ?_
    obtain ⟨v7, hv7, h⟩ := Option.bind_eq_some_iff.1 h
    refine Sem.runS (s1 := ⟨Fr 32 [(0, .v (.int .i64 x0)), (7, .v (.int .i64 (wr .i64 ((mnI x2 64) * v5)))), (8, .v (.int .i64 c6)), (28, .v (.bool (decide ((wr .i64 (c6 * v7)) < (wr .i64 ((mnI x2 64) * v5))))))], []⟩) ?_ ?_
    · refine RunS.segF (n := 32) e_ref09_LeastMost_ok 3 [(0, .v (.int .i64 x0)), (7, .v (.int .i64 (wr .i64 ((mnI x2 64) * v5)))), (8, .v (.int .i64 c6)), (22, .v (.int .i64 c6)), (24, hd 0 ([x0].map cdI.enc))] [mk 1 3 ([x0].map cdI.enc)] (by kernel_rfl) ?_
      refine RunS.call e_ref09_LeastMost_ok (fid := 73) (s := cs_ref09_met) (F := fun a => ref09_met a.1) (er := er_ref09_met) (xs := [hd 0 ([x0].map cdI.enc)]) (a := ([x0], ())) rfl (wantedA_none rfl) (by kernel_rfl) (by kernel_rfl) (by kernel_rfl) (by kernel_rfl) (Sns.cons (Sn.hd (c := cdI) (xs := [x0]) (t := 3) (by kernel_rfl) n1_I) Sns.nil) (.inr (by kernel_rfl)) hv7 ?_
      refine RunS.segF (n := 32) e_ref09_LeastMost_ok 3 [(0, .v (.int .i64 x0)), (7, .v (.int .i64 (wr .i64 ((mnI x2 64) * v5)))), (8, .v (.int .i64 c6)), (28, .v (.bool (decide ((wr .i64 (c6 * v7)) < (wr .i64 ((mnI x2 64) * v5))))))] [mk 1 3 ([x0].map cdI.enc)] (by kernel_rfl) ?_
      exact RunS.done rfl (Wk.sel2 [] (by kernel_rfl) (by kernel_rfl) (by kernel_rfl) trivial ⟨lu (by kernel_rfl) (by kernel_rfl), lu (by kernel_rfl) (by kernel_rfl), lu (by kernel_rfl) (by kernel_rfl), lu (by kernel_rfl) (by kernel_rfl), trivial⟩)
    refine Sem.cond (b := (decide ((wr .i64 (c6 * v7)) < (wr .i64 ((mnI x2 64) * v5))))) (by kernel_rfl) (fun hb8 => ?_) (fun hb8 => ?_)
    · rw [if_pos hb8] at h
      refine Sem.skip ?_
      refine Sem.block ?_
      refine Sem.runS (s1 := ⟨Fr 32 [(0, .v (.int .i64 x0)), (7, .v (.int .i64 (wr .i64 ((mnI x2 64) * v5)))), (8, .v (.int .i64 (wr .i64 (c6 + 1))))], []⟩) ?_ ?_
      · refine RunS.segF (n := 32) e_ref09_LeastMost_ok 3 [(0, .v (.int .i64 x0)), (7, .v (.int .i64 (wr .i64 ((mnI x2 64) * v5)))), (8, .v (.int .i64 (wr .i64 (c6 + 1))))] [] (by kernel_rfl) ?_
        exact RunS.done rfl (Wk.fr (by kernel_rfl))
      exact SemN.wk (s1 := ⟨Fr 32 [(0, .v (.int .i64 x0)), (7, .v (.int .i64 (wr .i64 ((mnI x2 64) * v5)))), (8, .v (.int .i64 (wr .i64 (c6 + 1))))], []⟩) (Wk.fr (by kernel_rfl)) (ih (wr .i64 (c6 + 1)) h)
    · rw [if_f hb8] at h
      refine Sem.exit ?_
      have hq := Option.some.inj h; subst hq
      exact ⟨rfl, (Wk.fr (by kernel_rfl))⟩
set_option maxHeartbeats 4000000 in
set_option maxRecDepth 100000 in
theorem ref09_LeastMost_sem (x0 : Int) (x1 : (List Int)) (x2 : Int) (r : Int) (h : ref09_LeastMost x0 x1 x2 = some r) : Sem e_ref09_LeastMost ⟨none, false⟩ cb_ref09_LeastMost ⟨Fr 32 (pairs0 0 (cs_ref09_LeastMost.enc (x0, x1, x2, ()))), []⟩ fun e s' => (e = .normal ∨ e = .ret) ∧ ∃ xs, resA e_ref09_LeastMost.P s'.fr s'.hp Tryd.f32.results.toList = some xs ∧ retA xs = er_ref09_LeastMost r := by
  unfold ref09_LeastMost at h
  refine Sem.wkQ (Sem.wk (s1 := ⟨Fr 32 [(0, .v (.int .i64 x0)), (1, .sl 1 (x1.map cdI.enc)), (2, .v (.int .i64 x2))], []⟩) (Wk.fr (by kernel_rfl)) ?_)
  refine Sem.seq ?_
  refine Sem.runS (s1 := ⟨Fr 32 [(0, .v (.int .i64 x0)), (1, .sl 1 (x1.map cdI.enc)), (2, .v (.int .i64 x2))], []⟩) ?_ ?_
  · refine RunS.segF (n := 32) e_ref09_LeastMost_ok 1 [(0, .v (.int .i64 x0)), (1, .sl 1 (x1.map cdI.enc)), (2, .v (.int .i64 x2))] [] (by kernel_rfl) ?_
    exact RunS.done rfl (Wk.fr (by kernel_rfl))
  refine Sem.seq ?_
  refine Sem.seq ?_
  obtain ⟨v1, hv1, h⟩ := Option.bind_eq_some_iff.1 h
  obtain ⟨j3, hj3, h⟩ := Option.bind_eq_some_iff.1 h
  refine Sem.runS (s1 := ⟨Fr 32 [(0, .v (.int .i64 x0)), (1, .sl 1 (x1.map cdI.enc)), (2, .v (.int .i64 x2)), (16, .v (.bool j3))], []⟩) ?_ ?_
  · refine RunS.segF (n := 32) e_ref09_LeastMost_ok 2 [(0, .v (.int .i64 x0)), (1, .sl 1 (x1.map cdI.enc)), (2, .v (.int .i64 x2)), (9, .v (.int .i64 x0)), (10, .sl 1 (x1.map cdI.enc))] [] (by kernel_rfl) ?_
    refine RunS.call e_ref09_LeastMost_ok (fid := 70) (s := cs_ref09_Fit) (F := fun a => ref09_Fit a.1 a.2.1) (er := er_ref09_Fit) (xs := [.v (.int .i64 x0), .sl 1 (x1.map cdI.enc)]) (a := (x0, x1, ())) rfl (wantedA_none rfl) (by kernel_rfl) (by kernel_rfl) (by kernel_rfl) (by kernel_rfl) (Sns.cons (Sn.enc (c := cdI) (v := x0)) (Sns.cons (Sn.enc (c := (cdL 1 cdI)) (v := x1)) Sns.nil)) (.inl (by kernel_rfl)) hv1 ?_
    refine RunS.segF (n := 32) e_ref09_LeastMost_ok 2 [(0, .v (.int .i64 x0)), (1, .sl 1 (x1.map cdI.enc)), (2, .v (.int .i64 x2)), (13, .v (.bool (!v1)))] [] (by kernel_rfl) ?_
    rcases Bool.eq_false_or_eq_true (!v1) with hc11 | hc11
    · rw [if_pos hc11] at hj3
      rw [hc11]
      refine RunS.segF (n := 32) e_ref09_LeastMost_ok 3 [(0, .v (.int .i64 x0)), (1, .sl 1 (x1.map cdI.enc)), (2, .v (.int .i64 x2)), (16, .v (.bool true))] [] (by kernel_rfl) ?_
      have hq := Option.some.inj hj3; subst hq
      exact RunS.done rfl (Wk.fr (by kernel_rfl))
    · rw [if_f hc11] at hj3
      rw [hc11]
      refine RunS.segF (n := 32) e_ref09_LeastMost_ok 3 [(0, .v (.int .i64 x0)), (1, .sl 1 (x1.map cdI.enc)), (2, .v (.int .i64 x2)), (16, .v (.bool (decide (x2 < 1))))] [] (by kernel_rfl) ?_
      have hq := Option.some.inj hj3; subst hq
      exact RunS.done rfl (Wk.fr (by kernel_rfl))
  refine Sem.cond (b := j3) (by kernel_rfl) (fun hb4 => ?_) (fun hb4 => ?_)
  · rw [if_pos hb4] at h
    refine Sem.seq ?_
    refine Sem.runS (s1 := ⟨Fr 32 [(6, .v (.int .i64 0))], []⟩) ?_ ?_
    · refine RunS.segF (n := 32) e_ref09_LeastMost_ok 1 [(6, .v (.int .i64 0))] [] (by kernel_rfl) ?_
      exact RunS.done rfl (Wk.fr (by kernel_rfl))
    refine Sem.ret ?_
    have hq := Option.some.inj h; subst hq
    exact ⟨⟨Fr 32 [(6, .v (.int .i64 0))], []⟩, (Wk.fr (by kernel_rfl)), .inr rfl, [.v (.int .i64 0)], (by kernel_rfl), (by kernel_rfl)⟩
  · rw [if_f hb4] at h
    refine Sem.skip ?_
    refine Sem.seq ?_
    obtain ⟨v5, hv5, h⟩ := Option.bind_eq_some_iff.1 h
    refine Sem.runS (s1 := ⟨Fr 32 [(0, .v (.int .i64 x0)), (7, .v (.int .i64 (wr .i64 ((mnI x2 64) * v5))))], []⟩) ?_ ?_
    · refine RunS.segF (n := 32) e_ref09_LeastMost_ok 3 [(0, .v (.int .i64 x0)), (18, .v (.int .i64 (mnI x2 64))), (19, .sl 1 (x1.map cdI.enc))] [] (by kernel_rfl) ?_
      refine RunS.call e_ref09_LeastMost_ok (fid := 73) (s := cs_ref09_met) (F := fun a => ref09_met a.1) (er := er_ref09_met) (xs := [.sl 1 (x1.map cdI.enc)]) (a := (x1, ())) rfl (wantedA_none rfl) (by kernel_rfl) (by kernel_rfl) (by kernel_rfl) (by kernel_rfl) (Sns.cons (Sn.enc (c := (cdL 1 cdI)) (v := x1)) Sns.nil) (.inl (by kernel_rfl)) hv5 ?_
      refine RunS.segF (n := 32) e_ref09_LeastMost_ok 2 [(0, .v (.int .i64 x0)), (7, .v (.int .i64 (wr .i64 ((mnI x2 64) * v5))))] [] (by kernel_rfl) ?_
      exact RunS.done rfl (Wk.fr (by kernel_rfl))
    refine Sem.seq ?_
    refine Sem.runS (s1 := ⟨Fr 32 [(0, .v (.int .i64 x0)), (7, .v (.int .i64 (wr .i64 ((mnI x2 64) * v5)))), (8, .v (.int .i64 0))], []⟩) ?_ ?_
    · refine RunS.segF (n := 32) e_ref09_LeastMost_ok 1 [(0, .v (.int .i64 x0)), (7, .v (.int .i64 (wr .i64 ((mnI x2 64) * v5)))), (8, .v (.int .i64 0))] [] (by kernel_rfl) ?_
      exact RunS.done rfl (Wk.fr (by kernel_rfl))
    refine Sem.seq ?_
    refine Sem.block ?_
    obtain ⟨r10, hr10, h⟩ := Option.bind_eq_some_iff.1 h
    refine Sem.loop (n := 100000) ?_
    refine Sem.cutN (SemN.wk (s1 := ⟨Fr 32 [(0, .v (.int .i64 x0)), (7, .v (.int .i64 (wr .i64 ((mnI x2 64) * v5)))), (8, .v (.int .i64 0))], []⟩) (Wk.fr (by kernel_rfl)) (ref09_LeastMost_1_ok x0 x2 v5 _ 0 _ hr10)) ?_
    refine Sem.seq ?_
    refine Sem.runS (s1 := ⟨Fr 32 [(6, .v (.int .i64 r10))], []⟩) ?_ ?_
    · refine RunS.segF (n := 32) e_ref09_LeastMost_ok 2 [(6, .v (.int .i64 r10))] [] (by kernel_rfl) ?_
      exact RunS.done rfl (Wk.fr (by kernel_rfl))
    refine Sem.ret ?_
    have hq := Option.some.inj h; subst hq
    exact ⟨⟨Fr 32 [(6, .v (.int .i64 r10))], []⟩, (Wk.fr (by kernel_rfl)), .inr rfl, [.v (.int .i64 r10)], (by kernel_rfl), (by kernel_rfl)⟩
def t_ref09_LeastMost : List AV → Option AV := told cs_ref09_LeastMost (fun a => ref09_LeastMost a.1 a.2.1 a.2.2.1) er_ref09_LeastMost
theorem x_ref09_LeastMost : XOk 32 t_ref09_LeastMost := by
  refine EnvOk.x (E := e_ref09_LeastMost) (contract_ok e_ref09_LeastMost_ok (fn := Tryd.f32) (c := cb_ref09_LeastMost) ?h1 ?h2 ⟨Tryd.call32⟩ cs_ref09_LeastMost (fun a => ref09_LeastMost a.1 a.2.1 a.2.2.1) er_ref09_LeastMost (fun a => (by show 3 ≤ 32; decide)) ?h3 ?h4) rfl rfl
  case h1 => kernel_rfl
  case h2 => kernel_rfl
  case h3 => intro b; kernel_rfl
  case h4 => exact fun a b h => ref09_LeastMost_sem a.1 a.2.1 a.2.2.1 b h
end Go.Proofs.YthofgamegondnaaDoor

namespace Go.Proofs.YthofgamegondnaaDoor
open Go.RowKit
/- trestle/evening.MostEvenings -/
noncomputable def e_evening_MostEvenings : Env := ((E0.withX 68 t_evening_fit).withX 72 t_evening_met)
theorem e_evening_MostEvenings_ok : EnvOk e_evening_MostEvenings := (EnvOk.withX (EnvOk.withX E0_ok x_evening_fit.1 x_evening_fit.2) x_evening_met.1 x_evening_met.2)
noncomputable def cb_evening_MostEvenings : Code := codeOf Tryd.f33
def evening_MostEvenings (x0 : Int) (x1 : (List Int)) (x2 : Int) : Option (Int) :=
  (evening_fit x0 x1).bind fun v1 =>
  (if (!v1) = true then some true else some (decide (x2 < 0))).bind fun j3 =>
  if j3 = true then
  some 0
  else
  (evening_met x1).bind fun v5 =>
  if (v5 == 0) = true then
  some 64
  else
  (evening_met x1).bind fun v7 =>
  if v7 = (0 : Int) then none else
  some (mnI 64 (wr .i64 ((wr .i64 ((mnI x2 64) * (wr .i64 ((wr .i64 (x0 * (wr .i64 (x0 - 1)))).tdiv 2)))).tdiv v7)))
def cs_evening_MostEvenings : Cs (Int × (List Int) × Int × Unit) := (csC cdI (csC (cdL 1 cdI) (csC cdI csN)))
def er_evening_MostEvenings (r : Int) : AV := cdI.enc r
set_option maxHeartbeats 4000000 in
set_option maxRecDepth 100000 in
theorem evening_MostEvenings_sem (x0 : Int) (x1 : (List Int)) (x2 : Int) (r : Int) (h : evening_MostEvenings x0 x1 x2 = some r) : Sem e_evening_MostEvenings ⟨none, false⟩ cb_evening_MostEvenings ⟨Fr 30 (pairs0 0 (cs_evening_MostEvenings.enc (x0, x1, x2, ()))), []⟩ fun e s' => (e = .normal ∨ e = .ret) ∧ ∃ xs, resA e_evening_MostEvenings.P s'.fr s'.hp Tryd.f33.results.toList = some xs ∧ retA xs = er_evening_MostEvenings r := by
  unfold evening_MostEvenings at h
  refine Sem.wkQ (Sem.wk (s1 := ⟨Fr 30 [(0, .v (.int .i64 x0)), (1, .sl 1 (x1.map cdI.enc)), (2, .v (.int .i64 x2))], []⟩) (Wk.fr (by kernel_rfl)) ?_)
  refine Sem.seq ?_
  refine Sem.runS (s1 := ⟨Fr 30 [(0, .v (.int .i64 x0)), (1, .sl 1 (x1.map cdI.enc)), (2, .v (.int .i64 x2))], []⟩) ?_ ?_
  · refine RunS.segF (n := 30) e_evening_MostEvenings_ok 1 [(0, .v (.int .i64 x0)), (1, .sl 1 (x1.map cdI.enc)), (2, .v (.int .i64 x2))] [] (by kernel_rfl) ?_
    exact RunS.done rfl (Wk.fr (by kernel_rfl))
  refine Sem.seq ?_
  refine Sem.seq ?_
  obtain ⟨v1, hv1, h⟩ := Option.bind_eq_some_iff.1 h
  obtain ⟨j3, hj3, h⟩ := Option.bind_eq_some_iff.1 h
  refine Sem.runS (s1 := ⟨Fr 30 [(0, .v (.int .i64 x0)), (1, .sl 1 (x1.map cdI.enc)), (2, .v (.int .i64 x2)), (14, .v (.bool j3))], []⟩) ?_ ?_
  · refine RunS.segF (n := 30) e_evening_MostEvenings_ok 2 [(0, .v (.int .i64 x0)), (1, .sl 1 (x1.map cdI.enc)), (2, .v (.int .i64 x2)), (7, .v (.int .i64 x0)), (8, .sl 1 (x1.map cdI.enc))] [] (by kernel_rfl) ?_
    refine RunS.call e_evening_MostEvenings_ok (fid := 68) (s := cs_evening_fit) (F := fun a => evening_fit a.1 a.2.1) (er := er_evening_fit) (xs := [.v (.int .i64 x0), .sl 1 (x1.map cdI.enc)]) (a := (x0, x1, ())) rfl (wantedA_none rfl) (by kernel_rfl) (by kernel_rfl) (by kernel_rfl) (by kernel_rfl) (Sns.cons (Sn.enc (c := cdI) (v := x0)) (Sns.cons (Sn.enc (c := (cdL 1 cdI)) (v := x1)) Sns.nil)) (.inl (by kernel_rfl)) hv1 ?_
    refine RunS.segF (n := 30) e_evening_MostEvenings_ok 2 [(0, .v (.int .i64 x0)), (1, .sl 1 (x1.map cdI.enc)), (2, .v (.int .i64 x2)), (11, .v (.bool (!v1)))] [] (by kernel_rfl) ?_
    rcases Bool.eq_false_or_eq_true (!v1) with hc9 | hc9
    · rw [if_pos hc9] at hj3
      rw [hc9]
      refine RunS.segF (n := 30) e_evening_MostEvenings_ok 3 [(0, .v (.int .i64 x0)), (1, .sl 1 (x1.map cdI.enc)), (2, .v (.int .i64 x2)), (14, .v (.bool true))] [] (by kernel_rfl) ?_
      have hq := Option.some.inj hj3; subst hq
      exact RunS.done rfl (Wk.fr (by kernel_rfl))
    · rw [if_f hc9] at hj3
      rw [hc9]
      refine RunS.segF (n := 30) e_evening_MostEvenings_ok 3 [(0, .v (.int .i64 x0)), (1, .sl 1 (x1.map cdI.enc)), (2, .v (.int .i64 x2)), (14, .v (.bool (decide (x2 < 0))))] [] (by kernel_rfl) ?_
      have hq := Option.some.inj hj3; subst hq
      exact RunS.done rfl (Wk.fr (by kernel_rfl))
  refine Sem.cond (b := j3) (by kernel_rfl) (fun hb4 => ?_) (fun hb4 => ?_)
  · rw [if_pos hb4] at h
    refine Sem.seq ?_
    refine Sem.runS (s1 := ⟨Fr 30 [(6, .v (.int .i64 0))], []⟩) ?_ ?_
    · refine RunS.segF (n := 30) e_evening_MostEvenings_ok 1 [(6, .v (.int .i64 0))] [] (by kernel_rfl) ?_
      exact RunS.done rfl (Wk.fr (by kernel_rfl))
    refine Sem.ret ?_
    have hq := Option.some.inj h; subst hq
    exact ⟨⟨Fr 30 [(6, .v (.int .i64 0))], []⟩, (Wk.fr (by kernel_rfl)), .inr rfl, [.v (.int .i64 0)], (by kernel_rfl), (by kernel_rfl)⟩
  · rw [if_f hb4] at h
    refine Sem.skip ?_
    refine Sem.seq ?_
    refine Sem.seq ?_
    obtain ⟨v5, hv5, h⟩ := Option.bind_eq_some_iff.1 h
    refine Sem.runS (s1 := ⟨Fr 30 [(0, .v (.int .i64 x0)), (1, .sl 1 (x1.map cdI.enc)), (2, .v (.int .i64 x2)), (17, .v (.bool (v5 == 0)))], []⟩) ?_ ?_
    · refine RunS.segF (n := 30) e_evening_MostEvenings_ok 1 [(0, .v (.int .i64 x0)), (1, .sl 1 (x1.map cdI.enc)), (2, .v (.int .i64 x2)), (15, .sl 1 (x1.map cdI.enc))] [] (by kernel_rfl) ?_
      refine RunS.call e_evening_MostEvenings_ok (fid := 72) (s := cs_evening_met) (F := fun a => evening_met a.1) (er := er_evening_met) (xs := [.sl 1 (x1.map cdI.enc)]) (a := (x1, ())) rfl (wantedA_none rfl) (by kernel_rfl) (by kernel_rfl) (by kernel_rfl) (by kernel_rfl) (Sns.cons (Sn.enc (c := (cdL 1 cdI)) (v := x1)) Sns.nil) (.inl (by kernel_rfl)) hv5 ?_
      refine RunS.segF (n := 30) e_evening_MostEvenings_ok 1 [(0, .v (.int .i64 x0)), (1, .sl 1 (x1.map cdI.enc)), (2, .v (.int .i64 x2)), (17, .v (.bool (v5 == 0)))] [] (by kernel_rfl) ?_
      exact RunS.done rfl (Wk.fr (by kernel_rfl))
    refine Sem.cond (b := (v5 == 0)) (by kernel_rfl) (fun hb6 => ?_) (fun hb6 => ?_)
    · rw [if_pos hb6] at h
      refine Sem.seq ?_
      refine Sem.runS (s1 := ⟨Fr 30 [(6, .v (.int .i64 64))], []⟩) ?_ ?_
      · refine RunS.segF (n := 30) e_evening_MostEvenings_ok 1 [(6, .v (.int .i64 64))] [] (by kernel_rfl) ?_
        exact RunS.done rfl (Wk.fr (by kernel_rfl))
      refine Sem.ret ?_
      have hq := Option.some.inj h; subst hq
      exact ⟨⟨Fr 30 [(6, .v (.int .i64 64))], []⟩, (Wk.fr (by kernel_rfl)), .inr rfl, [.v (.int .i64 64)], (by kernel_rfl), (by kernel_rfl)⟩
    · rw [if_f hb6] at h
      refine Sem.skip ?_
      refine Sem.seq ?_
      obtain ⟨v7, hv7, h⟩ := Option.bind_eq_some_iff.1 h
      by_cases hz8 : v7 = (0 : Int)
      · rw [if_pos hz8] at h; cases h
      rw [if_neg hz8] at h
      refine Sem.runS (s1 := ⟨Fr 30 [(6, .v (.int .i64 (mnI 64 (wr .i64 ((wr .i64 ((mnI x2 64) * (wr .i64 ((wr .i64 (x0 * (wr .i64 (x0 - 1)))).tdiv 2)))).tdiv v7)))))], []⟩) ?_ ?_
      · refine RunS.segF (n := 30) e_evening_MostEvenings_ok 9 [(25, .v (.int .i64 (wr .i64 ((mnI x2 64) * (wr .i64 ((wr .i64 (x0 * (wr .i64 (x0 - 1)))).tdiv 2)))))), (26, .sl 1 (x1.map cdI.enc))] [] (by kernel_rfl) ?_
        refine RunS.call e_evening_MostEvenings_ok (fid := 72) (s := cs_evening_met) (F := fun a => evening_met a.1) (er := er_evening_met) (xs := [.sl 1 (x1.map cdI.enc)]) (a := (x1, ())) rfl (wantedA_none rfl) (by kernel_rfl) (by kernel_rfl) (by kernel_rfl) (by kernel_rfl) (Sns.cons (Sn.enc (c := (cdL 1 cdI)) (v := x1)) Sns.nil) (.inl (by kernel_rfl)) hv7 ?_
        refine RunS.one e_evening_MostEvenings_ok 0 rfl (op_q (wantedA_none rfl) rfl (q_bin (a := .v (.int .i64 (wr .i64 ((mnI x2 64) * (wr .i64 ((wr .i64 (x0 * (wr .i64 (x0 - 1)))).tdiv 2)))))) (b := .v (.int .i64 v7)) (by kernel_rfl) (by kernel_rfl) (bin_quo hz8))) ?_
        refine RunS.segF (n := 30) e_evening_MostEvenings_ok 2 [(6, .v (.int .i64 (mnI 64 (wr .i64 ((wr .i64 ((mnI x2 64) * (wr .i64 ((wr .i64 (x0 * (wr .i64 (x0 - 1)))).tdiv 2)))).tdiv v7)))))] [] (by kernel_rfl) ?_
        exact RunS.done rfl (Wk.fr (by kernel_rfl))
      refine Sem.ret ?_
      have hq := Option.some.inj h; subst hq
      exact ⟨⟨Fr 30 [(6, .v (.int .i64 (mnI 64 (wr .i64 ((wr .i64 ((mnI x2 64) * (wr .i64 ((wr .i64 (x0 * (wr .i64 (x0 - 1)))).tdiv 2)))).tdiv v7)))))], []⟩, (Wk.fr (by kernel_rfl)), .inr rfl, [.v (.int .i64 (mnI 64 (wr .i64 ((wr .i64 ((mnI x2 64) * (wr .i64 ((wr .i64 (x0 * (wr .i64 (x0 - 1)))).tdiv 2)))).tdiv v7))))], (by kernel_rfl), (by kernel_rfl)⟩
def t_evening_MostEvenings : List AV → Option AV := told cs_evening_MostEvenings (fun a => evening_MostEvenings a.1 a.2.1 a.2.2.1) er_evening_MostEvenings
theorem x_evening_MostEvenings : XOk 33 t_evening_MostEvenings := by
  refine EnvOk.x (E := e_evening_MostEvenings) (contract_ok e_evening_MostEvenings_ok (fn := Tryd.f33) (c := cb_evening_MostEvenings) ?h1 ?h2 ⟨Tryd.call33⟩ cs_evening_MostEvenings (fun a => evening_MostEvenings a.1 a.2.1 a.2.2.1) er_evening_MostEvenings (fun a => (by show 3 ≤ 30; decide)) ?h3 ?h4) rfl rfl
  case h1 => kernel_rfl
  case h2 => kernel_rfl
  case h3 => intro b; kernel_rfl
  case h4 => exact fun a b h => evening_MostEvenings_sem a.1 a.2.1 a.2.2.1 b h
end Go.Proofs.YthofgamegondnaaDoor

namespace Go.Proofs.YthofgamegondnaaDoor
open Go.RowKit
/- trestle/trestleref09.MostEvenings -/
noncomputable def e_ref09_MostEvenings : Env := ((E0.withX 70 t_ref09_Fit).withX 73 t_ref09_met)
theorem e_ref09_MostEvenings_ok : EnvOk e_ref09_MostEvenings := (EnvOk.withX (EnvOk.withX E0_ok x_ref09_Fit.1 x_ref09_Fit.2) x_ref09_met.1 x_ref09_met.2)
noncomputable def cb_ref09_MostEvenings : Code := codeOf Tryd.f34
def ref09_MostEvenings_1 (x0 : Int) (x1 : (List Int)) (x2 : Int) : Nat → Int → Option ((Int))
  | 0, _ => none
  | f + 1, c5 =>
    (if (decide (c5 < 64)) = true then (ref09_met x1).bind fun v6 =>
    (ref09_met [x0]).bind fun v7 =>
    some (decide ((wr .i64 ((wr .i64 (c5 + 1)) * v6)) ≤ (wr .i64 ((mnI x2 64) * v7)))) else some false).bind fun j9 =>
    if j9 = true then
    ref09_MostEvenings_1 x0 x1 x2 f (wr .i64 (c5 + 1))
    else
    some c5
def ref09_MostEvenings (x0 : Int) (x1 : (List Int)) (x2 : Int) : Option (Int) :=
  (ref09_Fit x0 x1).bind fun v1 =>
  (if (!v1) = true then some true else some (decide (x2 < 0))).bind fun j3 =>
  if j3 = true then
  some 0
  else
  (ref09_MostEvenings_1 x0 x1 x2 100000 0).bind fun r13 =>
  some r13
def cs_ref09_MostEvenings : Cs (Int × (List Int) × Int × Unit) := (csC cdI (csC (cdL 1 cdI) (csC cdI csN)))
def er_ref09_MostEvenings (r : Int) : AV := cdI.enc r
set_option maxHeartbeats 4000000 in
set_option maxRecDepth 100000 in
theorem ref09_MostEvenings_1_ok (x0 : Int) (x1 : (List Int)) (x2 : Int) : ∀ (f : Nat) (c5 : Int) (r : (Int)), ref09_MostEvenings_1 x0 x1 x2 f c5 = some r → SemN e_ref09_MostEvenings ⟨none, false⟩ (pc cb_ref09_MostEvenings [1, 1, 1, 0, 0, 0]) f ⟨Fr 35 [(0, .v (.int .i64 x0)), (1, .sl 1 (x1.map cdI.enc)), (2, .v (.int .i64 x2)), (7, .v (.int .i64 c5))], []⟩ (fun e s => e = (.exit 0) ∧ Wk e_ref09_MostEvenings s ⟨Fr 35 [(7, .v (.int .i64 r))], []⟩) := by
  intro f
  induction f with
  | zero => intro c5 r h; cases h
  | succ f ih0 =>
    intro c5 r h
    have ih := fun (c5 : Int) => ih0 c5 r
    unfold ref09_MostEvenings_1 at h
    refine SemN.succ ?_
    refine Sem.seq ?_
    refine Sem.seq ?_
    obtain ⟨j9, hj9, h⟩ := Option.bind_eq_some_iff.1 h
    refine Sem.runS (s1 := ⟨Fr 35 [(0, .v (.int .i64 x0)), (1, .sl 1 (x1.map cdI.enc)), (2, .v (.int .i64 x2)), (7, .v (.int .i64 c5)), (31, .v (.bool j9))], []⟩) ?_ ?_
    · refine RunS.segF (n := 35) e_ref09_MostEvenings_ok 3 [(0, .v (.int .i64 x0)), (1, .sl 1 (x1.map cdI.enc)), (2, .v (.int .i64 x2)), (7, .v (.int .i64 c5)), (18, .v (.bool (decide (c5 < 64))))] [] (by kernel_rfl) ?_
      rcases Bool.eq_false_or_eq_true (decide (c5 < 64)) with hc12 | hc12
      · rw [if_pos hc12] at hj9
        rw [hc12]
        refine RunS.segF (n := 35) e_ref09_MostEvenings_ok 3 [(0, .v (.int .i64 x0)), (1, .sl 1 (x1.map cdI.enc)), (2, .v (.int .i64 x2)), (7, .v (.int .i64 c5)), (18, .v (.bool true)), (19, .v (.int .i64 c5)), (20, .v (.int .i64 (wr .i64 (c5 + 1)))), (21, .sl 1 (x1.map cdI.enc))] [] (by kernel_rfl) ?_
        obtain ⟨v6, hv6, hj9⟩ := Option.bind_eq_some_iff.1 hj9
        refine RunS.call e_ref09_MostEvenings_ok (fid := 73) (s := cs_ref09_met) (F := fun a => ref09_met a.1) (er := er_ref09_met) (xs := [.sl 1 (x1.map cdI.enc)]) (a := (x1, ())) rfl (by kernel_rfl) (by kernel_rfl) (by kernel_rfl) (by kernel_rfl) (by kernel_rfl) (Sns.cons (Sn.enc (c := (cdL 1 cdI)) (v := x1)) Sns.nil) (.inl (by kernel_rfl)) hv6 ?_
        refine RunS.segF (n := 35) e_ref09_MostEvenings_ok 5 [(0, .v (.int .i64 x0)), (1, .sl 1 (x1.map cdI.enc)), (2, .v (.int .i64 x2)), (7, .v (.int .i64 c5)), (18, .v (.bool true)), (19, .v (.int .i64 c5)), (20, .v (.int .i64 (wr .i64 (c5 + 1)))), (21, .sl 1 (x1.map cdI.enc)), (22, .v (.int .i64 v6)), (23, .v (.int .i64 (wr .i64 ((wr .i64 (c5 + 1)) * v6)))), (24, .v (.int .i64 x2)), (25, .v (.int .i64 (mnI x2 64))), (26, .v (.int .i64 x0)), (27, hd 0 ([x0].map cdI.enc))] [mk 1 3 ([x0].map cdI.enc)] (by kernel_rfl) ?_
        obtain ⟨v7, hv7, hj9⟩ := Option.bind_eq_some_iff.1 hj9
        refine RunS.call e_ref09_MostEvenings_ok (fid := 73) (s := cs_ref09_met) (F := fun a => ref09_met a.1) (er := er_ref09_met) (xs := [hd 0 ([x0].map cdI.enc)]) (a := ([x0], ())) rfl (by kernel_rfl) (by kernel_rfl) (by kernel_rfl) (by kernel_rfl) (by kernel_rfl) (Sns.cons (Sn.hd (c := cdI) (xs := [x0]) (t := 3) (by kernel_rfl) n1_I) Sns.nil) (.inr (by kernel_rfl)) hv7 ?_
        refine RunS.segF (n := 35) e_ref09_MostEvenings_ok 3 [(0, .v (.int .i64 x0)), (1, .sl 1 (x1.map cdI.enc)), (2, .v (.int .i64 x2)), (7, .v (.int .i64 c5)), (19, .v (.int .i64 c5)), (20, .v (.int .i64 (wr .i64 (c5 + 1)))), (21, .sl 1 (x1.map cdI.enc)), (22, .v (.int .i64 v6)), (23, .v (.int .i64 (wr .i64 ((wr .i64 (c5 + 1)) * v6)))), (24, .v (.int .i64 x2)), (25, .v (.int .i64 (mnI x2 64))), (26, .v (.int .i64 x0)), (27, hd 0 ([x0].map cdI.enc)), (28, .v (.int .i64 v7)), (29, .v (.int .i64 (wr .i64 ((mnI x2 64) * v7)))), (30, .v (.bool (decide ((wr .i64 ((wr .i64 (c5 + 1)) * v6)) ≤ (wr .i64 ((mnI x2 64) * v7)))))), (31, .v (.bool (decide ((wr .i64 ((wr .i64 (c5 + 1)) * v6)) ≤ (wr .i64 ((mnI x2 64) * v7))))))] [mk 1 3 ([x0].map cdI.enc)] (by kernel_rfl) ?_
        have hq := Option.some.inj hj9; subst hq
        exact RunS.done rfl (Wk.sel2 [] (by kernel_rfl) (by kernel_rfl) (by kernel_rfl) trivial ⟨lu (by kernel_rfl) (by kernel_rfl), lu (by kernel_rfl) (by kernel_rfl), lu (by kernel_rfl) (by kernel_rfl), lu (by kernel_rfl) (by kernel_rfl), lu (by kernel_rfl) (by kernel_rfl), trivial⟩)
      · rw [if_f hc12] at hj9
        rw [hc12]
        refine RunS.segF (n := 35) e_ref09_MostEvenings_ok 13 [(0, .v (.int .i64 x0)), (1, .sl 1 (x1.map cdI.enc)), (2, .v (.int .i64 x2)), (7, .v (.int .i64 c5)), (19, .tp []), (20, .tp []), (21, .tp []), (22, .tp []), (23, .tp []), (24, .tp []), (25, .tp []), (26, .tp []), (27, .tp []), (28, .tp []), (29, .tp []), (30, .tp []), (31, .v (.bool false))] [] (by kernel_rfl) ?_
        have hq := Option.some.inj hj9; subst hq
        exact RunS.done rfl (Wk.fr (by kernel_rfl))
    refine Sem.cond (b := j9) (by kernel_rfl) (fun hb10 => ?_) (fun hb10 => ?_)
    · rw [if_pos hb10] at h
      refine Sem.skip ?_
      refine Sem.block ?_
      refine Sem.runS (s1 := ⟨Fr 35 [(0, .v (.int .i64 x0)), (1, .sl 1 (x1.map cdI.enc)), (2, .v (.int .i64 x2)), (7, .v (.int .i64 (wr .i64 (c5 + 1))))], []⟩) ?_ ?_
      · refine RunS.segF (n := 35) e_ref09_MostEvenings_ok 3 [(0, .v (.int .i64 x0)), (1, .sl 1 (x1.map cdI.enc)), (2, .v (.int .i64 x2)), (7, .v (.int .i64 (wr .i64 (c5 + 1))))] [] (by kernel_rfl) ?_
        exact RunS.done rfl (Wk.fr (by kernel_rfl))
      exact SemN.wk (s1 := ⟨Fr 35 [(0, .v (.int .i64 x0)), (1, .sl 1 (x1.map cdI.enc)), (2, .v (.int .i64 x2)), (7, .v (.int .i64 (wr .i64 (c5 + 1))))], []⟩) (Wk.fr (by kernel_rfl)) (ih (wr .i64 (c5 + 1)) h)
    · rw [if_f hb10] at h
      refine Sem.exit ?_
      have hq := Option.some.inj h; subst hq
      exact ⟨rfl, (Wk.fr (by kernel_rfl))⟩
set_option maxHeartbeats 4000000 in
set_option maxRecDepth 100000 in
theorem ref09_MostEvenings_sem (x0 : Int) (x1 : (List Int)) (x2 : Int) (r : Int) (h : ref09_MostEvenings x0 x1 x2 = some r) : Sem e_ref09_MostEvenings ⟨none, false⟩ cb_ref09_MostEvenings ⟨Fr 35 (pairs0 0 (cs_ref09_MostEvenings.enc (x0, x1, x2, ()))), []⟩ fun e s' => (e = .normal ∨ e = .ret) ∧ ∃ xs, resA e_ref09_MostEvenings.P s'.fr s'.hp Tryd.f34.results.toList = some xs ∧ retA xs = er_ref09_MostEvenings r := by
  unfold ref09_MostEvenings at h
  refine Sem.wkQ (Sem.wk (s1 := ⟨Fr 35 [(0, .v (.int .i64 x0)), (1, .sl 1 (x1.map cdI.enc)), (2, .v (.int .i64 x2))], []⟩) (Wk.fr (by kernel_rfl)) ?_)
  refine Sem.seq ?_
  refine Sem.runS (s1 := ⟨Fr 35 [(0, .v (.int .i64 x0)), (1, .sl 1 (x1.map cdI.enc)), (2, .v (.int .i64 x2))], []⟩) ?_ ?_
  · refine RunS.segF (n := 35) e_ref09_MostEvenings_ok 1 [(0, .v (.int .i64 x0)), (1, .sl 1 (x1.map cdI.enc)), (2, .v (.int .i64 x2))] [] (by kernel_rfl) ?_
    exact RunS.done rfl (Wk.fr (by kernel_rfl))
  refine Sem.seq ?_
  refine Sem.seq ?_
  obtain ⟨v1, hv1, h⟩ := Option.bind_eq_some_iff.1 h
  obtain ⟨j3, hj3, h⟩ := Option.bind_eq_some_iff.1 h
  refine Sem.runS (s1 := ⟨Fr 35 [(0, .v (.int .i64 x0)), (1, .sl 1 (x1.map cdI.enc)), (2, .v (.int .i64 x2)), (15, .v (.bool j3))], []⟩) ?_ ?_
  · refine RunS.segF (n := 35) e_ref09_MostEvenings_ok 2 [(0, .v (.int .i64 x0)), (1, .sl 1 (x1.map cdI.enc)), (2, .v (.int .i64 x2)), (8, .v (.int .i64 x0)), (9, .sl 1 (x1.map cdI.enc))] [] (by kernel_rfl) ?_
    refine RunS.call e_ref09_MostEvenings_ok (fid := 70) (s := cs_ref09_Fit) (F := fun a => ref09_Fit a.1 a.2.1) (er := er_ref09_Fit) (xs := [.v (.int .i64 x0), .sl 1 (x1.map cdI.enc)]) (a := (x0, x1, ())) rfl (wantedA_none rfl) (by kernel_rfl) (by kernel_rfl) (by kernel_rfl) (by kernel_rfl) (Sns.cons (Sn.enc (c := cdI) (v := x0)) (Sns.cons (Sn.enc (c := (cdL 1 cdI)) (v := x1)) Sns.nil)) (.inl (by kernel_rfl)) hv1 ?_
    refine RunS.segF (n := 35) e_ref09_MostEvenings_ok 2 [(0, .v (.int .i64 x0)), (1, .sl 1 (x1.map cdI.enc)), (2, .v (.int .i64 x2)), (12, .v (.bool (!v1)))] [] (by kernel_rfl) ?_
    rcases Bool.eq_false_or_eq_true (!v1) with hc14 | hc14
    · rw [if_pos hc14] at hj3
      rw [hc14]
      refine RunS.segF (n := 35) e_ref09_MostEvenings_ok 3 [(0, .v (.int .i64 x0)), (1, .sl 1 (x1.map cdI.enc)), (2, .v (.int .i64 x2)), (15, .v (.bool true))] [] (by kernel_rfl) ?_
      have hq := Option.some.inj hj3; subst hq
      exact RunS.done rfl (Wk.fr (by kernel_rfl))
    · rw [if_f hc14] at hj3
      rw [hc14]
      refine RunS.segF (n := 35) e_ref09_MostEvenings_ok 3 [(0, .v (.int .i64 x0)), (1, .sl 1 (x1.map cdI.enc)), (2, .v (.int .i64 x2)), (15, .v (.bool (decide (x2 < 0))))] [] (by kernel_rfl) ?_
      have hq := Option.some.inj hj3; subst hq
      exact RunS.done rfl (Wk.fr (by kernel_rfl))
  refine Sem.cond (b := j3) (by kernel_rfl) (fun hb4 => ?_) (fun hb4 => ?_)
  · rw [if_pos hb4] at h
    refine Sem.seq ?_
    refine Sem.runS (s1 := ⟨Fr 35 [(6, .v (.int .i64 0))], []⟩) ?_ ?_
    · refine RunS.segF (n := 35) e_ref09_MostEvenings_ok 1 [(6, .v (.int .i64 0))] [] (by kernel_rfl) ?_
      exact RunS.done rfl (Wk.fr (by kernel_rfl))
    refine Sem.ret ?_
    have hq := Option.some.inj h; subst hq
    exact ⟨⟨Fr 35 [(6, .v (.int .i64 0))], []⟩, (Wk.fr (by kernel_rfl)), .inr rfl, [.v (.int .i64 0)], (by kernel_rfl), (by kernel_rfl)⟩
  · rw [if_f hb4] at h
    refine Sem.skip ?_
    refine Sem.seq ?_
    refine Sem.runS (s1 := ⟨Fr 35 [(0, .v (.int .i64 x0)), (1, .sl 1 (x1.map cdI.enc)), (2, .v (.int .i64 x2)), (7, .v (.int .i64 0))], []⟩) ?_ ?_
    · refine RunS.segF (n := 35) e_ref09_MostEvenings_ok 1 [(0, .v (.int .i64 x0)), (1, .sl 1 (x1.map cdI.enc)), (2, .v (.int .i64 x2)), (7, .v (.int .i64 0))] [] (by kernel_rfl) ?_
      exact RunS.done rfl (Wk.fr (by kernel_rfl))
    refine Sem.seq ?_
    refine Sem.block ?_
    obtain ⟨r13, hr13, h⟩ := Option.bind_eq_some_iff.1 h
    refine Sem.loop (n := 100000) ?_
    refine Sem.cutN (SemN.wk (s1 := ⟨Fr 35 [(0, .v (.int .i64 x0)), (1, .sl 1 (x1.map cdI.enc)), (2, .v (.int .i64 x2)), (7, .v (.int .i64 0))], []⟩) (Wk.fr (by kernel_rfl)) (ref09_MostEvenings_1_ok x0 x1 x2 _ 0 _ hr13)) ?_
    refine Sem.seq ?_
    refine Sem.runS (s1 := ⟨Fr 35 [(6, .v (.int .i64 r13))], []⟩) ?_ ?_
    · refine RunS.segF (n := 35) e_ref09_MostEvenings_ok 2 [(6, .v (.int .i64 r13))] [] (by kernel_rfl) ?_
      exact RunS.done rfl (Wk.fr (by kernel_rfl))
    refine Sem.ret ?_
    have hq := Option.some.inj h; subst hq
    exact ⟨⟨Fr 35 [(6, .v (.int .i64 r13))], []⟩, (Wk.fr (by kernel_rfl)), .inr rfl, [.v (.int .i64 r13)], (by kernel_rfl), (by kernel_rfl)⟩
def t_ref09_MostEvenings : List AV → Option AV := told cs_ref09_MostEvenings (fun a => ref09_MostEvenings a.1 a.2.1 a.2.2.1) er_ref09_MostEvenings
theorem x_ref09_MostEvenings : XOk 34 t_ref09_MostEvenings := by
  refine EnvOk.x (E := e_ref09_MostEvenings) (contract_ok e_ref09_MostEvenings_ok (fn := Tryd.f34) (c := cb_ref09_MostEvenings) ?h1 ?h2 ⟨Tryd.call34⟩ cs_ref09_MostEvenings (fun a => ref09_MostEvenings a.1 a.2.1 a.2.2.1) er_ref09_MostEvenings (fun a => (by show 3 ≤ 35; decide)) ?h3 ?h4) rfl rfl
  case h1 => kernel_rfl
  case h2 => kernel_rfl
  case h3 => intro b; kernel_rfl
  case h4 => exact fun a b h => ref09_MostEvenings_sem a.1 a.2.1 a.2.2.1 b h
end Go.Proofs.YthofgamegondnaaDoor

namespace Go.Proofs.YthofgamegondnaaDoor
open Go.RowKit
/- slices.Equal[[]int,int] -/
noncomputable def e_slices_Equal_L_int : Env := E0
theorem e_slices_Equal_L_int_ok : EnvOk e_slices_Equal_L_int := E0_ok
noncomputable def cb_slices_Equal_L_int : Code := codeOf Tryd.f30
def slices_Equal_L_int_1 (x0 : (List Int)) (x1 : (List Int)) : Nat → Int → Option ((Unit) ⊕ (Bool))
  | 0, _ => none
  | f + 1, c2 =>
    if (decide (c2 < (x0.length : Int))) = true then
    (idx x0 c2).bind fun v4 =>
    (idx x1 c2).bind fun v5 =>
    if (v4 != v5) = true then
    some (.inr false)
    else
    slices_Equal_L_int_1 x0 x1 f (wr .i64 (c2 + 1))
    else
    some (.inl ())
def slices_Equal_L_int (x0 : (List Int)) (x1 : (List Int)) : Option (Bool) :=
  if ((x0.length : Int) != (x1.length : Int)) = true then
  some false
  else
  (slices_Equal_L_int_1 x0 x1 100000 0).bind fun r8 =>
  match r8 with
  | (.inl w9) =>
    some true
  | (.inr w10) =>
    some w10
def cs_slices_Equal_L_int : Cs ((List Int) × (List Int) × Unit) := (csC (cdL 1 cdI) (csC (cdL 1 cdI) csN))
def er_slices_Equal_L_int (r : Bool) : AV := cdB.enc r
set_option maxHeartbeats 4000000 in
set_option maxRecDepth 100000 in
theorem slices_Equal_L_int_1_ok (x0 : (List Int)) (x1 : (List Int)) : ∀ (f : Nat) (c2 : Int) (r : (Unit) ⊕ (Bool)), slices_Equal_L_int_1 x0 x1 f c2 = some r → SemN e_slices_Equal_L_int ⟨none, false⟩ (pc cb_slices_Equal_L_int [1, 1, 0, 1, 0, 0]) f ⟨Fr 26 [(0, .sl 1 (x0.map cdI.enc)), (1, .sl 1 (x1.map cdI.enc)), (12, .v (.int .i64 (x0.length : Int))), (13, .v (.int .i64 c2))], []⟩ (fun e s => match r with
  | (.inl w) => e = (.exit 0) ∧ Wk e_slices_Equal_L_int s ⟨Fr 26 [], []⟩
  | (.inr w) => e = .ret ∧ Wk e_slices_Equal_L_int s ⟨Fr 26 [(4, .v (.bool w))], []⟩) := by
  intro f
  induction f with
  | zero => intro c2 r h; cases h
  | succ f ih0 =>
    intro c2 r h
    have ih := fun (c2 : Int) => ih0 c2 r
    unfold slices_Equal_L_int_1 at h
    refine SemN.succ ?_
    refine Sem.seq ?_
    refine Sem.runS (s1 := ⟨Fr 26 [(0, .sl 1 (x0.map cdI.enc)), (1, .sl 1 (x1.map cdI.enc)), (12, .v (.int .i64 (x0.length : Int))), (13, .v (.int .i64 c2)), (14, .v (.bool (decide (c2 < (x0.length : Int)))))], []⟩) ?_ ?_
    · refine RunS.segF (n := 26) e_slices_Equal_L_int_ok 1 [(0, .sl 1 (x0.map cdI.enc)), (1, .sl 1 (x1.map cdI.enc)), (12, .v (.int .i64 (x0.length : Int))), (13, .v (.int .i64 c2)), (14, .v (.bool (decide (c2 < (x0.length : Int)))))] [] (by kernel_rfl) ?_
      exact RunS.done rfl (Wk.fr (by kernel_rfl))
    refine Sem.seq ?_
    refine Sem.cond (b := (decide (c2 < (x0.length : Int)))) (by kernel_rfl) (fun hb3 => ?_) (fun hb3 => ?_)
    · rw [if_pos hb3] at h
      refine Sem.skip ?_
      refine Sem.seq ?_
      refine Sem.block ?_
      refine Sem.seq ?_
      refine Sem.runS (s1 := ⟨Fr 26 [(0, .sl 1 (x0.map cdI.enc)), (1, .sl 1 (x1.map cdI.enc)), (5, .v (.int .i64 c2)), (12, .v (.int .i64 (x0.length : Int))), (13, .v (.int .i64 c2))], []⟩) ?_ ?_
      · refine RunS.segF (n := 26) e_slices_Equal_L_int_ok 2 [(0, .sl 1 (x0.map cdI.enc)), (1, .sl 1 (x1.map cdI.enc)), (5, .v (.int .i64 c2)), (12, .v (.int .i64 (x0.length : Int))), (13, .v (.int .i64 c2))] [] (by kernel_rfl) ?_
        exact RunS.done rfl (Wk.fr (by kernel_rfl))
      refine Sem.seq ?_
      obtain ⟨v4, hv4, h⟩ := Option.bind_eq_some_iff.1 h
      obtain ⟨v5, hv5, h⟩ := Option.bind_eq_some_iff.1 h
      refine Sem.runDS e_slices_Equal_L_int_ok (s1 := ⟨Fr 26 [(0, .sl 1 (x0.map cdI.enc)), (1, .sl 1 (x1.map cdI.enc)), (12, .v (.int .i64 (x0.length : Int))), (13, .v (.int .i64 c2)), (24, .v (.bool (v4 != v5)))], []⟩) (by kernel_rfl) ?_ ?_
      · refine RunDS.segF (n := 26) e_slices_Equal_L_int_ok 2 [(0, .sl 1 (x0.map cdI.enc)), (1, .sl 1 (x1.map cdI.enc)), (5, .v (.int .i64 c2)), (12, .v (.int .i64 (x0.length : Int))), (13, .v (.int .i64 c2)), (16, .sl 1 (x0.map cdI.enc)), (17, .v (.int .i64 c2))] [] (by kernel_rfl) (by kernel_rfl) ?_
        refine RunDS.one e_slices_Equal_L_int_ok rfl (by kernel_rfl) (opd_q (by kernel_rfl) (wantedA_none rfl) rfl (q_indexAddr (a := .sl 1 (x0.map cdI.enc)) (b := .v (.int .i64 c2)) (by kernel_rfl) (by kernel_rfl) (ix_sl (e := cdI.enc) (el := 3) (k := 1) (ki := .i64) (by kernel_rfl) (by kernel_rfl) hv4)) (by kernel_rfl)) ?_
        refine RunDS.segF (n := 26) e_slices_Equal_L_int_ok 3 [(0, .sl 1 (x0.map cdI.enc)), (1, .sl 1 (x1.map cdI.enc)), (12, .v (.int .i64 (x0.length : Int))), (13, .v (.int .i64 c2)), (19, .v (.int .i64 v4)), (20, .sl 1 (x1.map cdI.enc)), (21, .v (.int .i64 c2))] [] (by kernel_rfl) (by kernel_rfl) ?_
        refine RunDS.one e_slices_Equal_L_int_ok rfl (by kernel_rfl) (opd_q (by kernel_rfl) (wantedA_none rfl) rfl (q_indexAddr (a := .sl 1 (x1.map cdI.enc)) (b := .v (.int .i64 c2)) (by kernel_rfl) (by kernel_rfl) (ix_sl (e := cdI.enc) (el := 3) (k := 1) (ki := .i64) (by kernel_rfl) (by kernel_rfl) hv5)) (by kernel_rfl)) ?_
        refine RunDS.segF (n := 26) e_slices_Equal_L_int_ok 2 [(0, .sl 1 (x0.map cdI.enc)), (1, .sl 1 (x1.map cdI.enc)), (12, .v (.int .i64 (x0.length : Int))), (13, .v (.int .i64 c2)), (24, .v (.bool (v4 != v5)))] [] (by kernel_rfl) (by kernel_rfl) ?_
        exact RunDS.done rfl (Wk.fr (by kernel_rfl))
      refine Sem.cond (b := (v4 != v5)) (by kernel_rfl) (fun hb6 => ?_) (fun hb6 => ?_)
      · rw [if_pos hb6] at h
        refine Sem.seq ?_
        refine Sem.runS (s1 := ⟨Fr 26 [(4, .v (.bool false))], []⟩) ?_ ?_
        · refine RunS.segF (n := 26) e_slices_Equal_L_int_ok 1 [(4, .v (.bool false))] [] (by kernel_rfl) ?_
          exact RunS.done rfl (Wk.fr (by kernel_rfl))
        refine Sem.ret ?_
        have hq := Option.some.inj h; subst hq
        exact ⟨rfl, (Wk.fr (by kernel_rfl))⟩
      · rw [if_f hb6] at h
        refine Sem.skip ?_
        refine Sem.runS (s1 := ⟨Fr 26 [(0, .sl 1 (x0.map cdI.enc)), (1, .sl 1 (x1.map cdI.enc)), (12, .v (.int .i64 (x0.length : Int))), (13, .v (.int .i64 (wr .i64 (c2 + 1))))], []⟩) ?_ ?_
        · refine RunS.segF (n := 26) e_slices_Equal_L_int_ok 2 [(0, .sl 1 (x0.map cdI.enc)), (1, .sl 1 (x1.map cdI.enc)), (12, .v (.int .i64 (x0.length : Int))), (13, .v (.int .i64 (wr .i64 (c2 + 1))))] [] (by kernel_rfl) ?_
          exact RunS.done rfl (Wk.fr (by kernel_rfl))
        exact SemN.wk (s1 := ⟨Fr 26 [(0, .sl 1 (x0.map cdI.enc)), (1, .sl 1 (x1.map cdI.enc)), (12, .v (.int .i64 (x0.length : Int))), (13, .v (.int .i64 (wr .i64 (c2 + 1))))], []⟩) (Wk.fr (by kernel_rfl)) (ih (wr .i64 (c2 + 1)) h)
    · rw [if_f hb3] at h
      refine Sem.exit ?_
      have hq := Option.some.inj h; subst hq
      exact ⟨rfl, (Wk.fr (by kernel_rfl))⟩
set_option maxHeartbeats 4000000 in
set_option maxRecDepth 100000 in
theorem slices_Equal_L_int_sem (x0 : (List Int)) (x1 : (List Int)) (r : Bool) (h : slices_Equal_L_int x0 x1 = some r) : Sem e_slices_Equal_L_int ⟨none, false⟩ cb_slices_Equal_L_int ⟨Fr 26 (pairs0 0 (cs_slices_Equal_L_int.enc (x0, x1, ()))), []⟩ fun e s' => (e = .normal ∨ e = .ret) ∧ ∃ xs, resA e_slices_Equal_L_int.P s'.fr s'.hp Tryd.f30.results.toList = some xs ∧ retA xs = er_slices_Equal_L_int r := by
  unfold slices_Equal_L_int at h
  refine Sem.wkQ (Sem.wk (s1 := ⟨Fr 26 [(0, .sl 1 (x0.map cdI.enc)), (1, .sl 1 (x1.map cdI.enc))], []⟩) (Wk.fr (by kernel_rfl)) ?_)
  refine Sem.seq ?_
  refine Sem.runS (s1 := ⟨Fr 26 [(0, .sl 1 (x0.map cdI.enc)), (1, .sl 1 (x1.map cdI.enc))], []⟩) ?_ ?_
  · refine RunS.segF (n := 26) e_slices_Equal_L_int_ok 1 [(0, .sl 1 (x0.map cdI.enc)), (1, .sl 1 (x1.map cdI.enc))] [] (by kernel_rfl) ?_
    exact RunS.done rfl (Wk.fr (by kernel_rfl))
  refine Sem.seq ?_
  refine Sem.seq ?_
  refine Sem.runS (s1 := ⟨Fr 26 [(0, .sl 1 (x0.map cdI.enc)), (1, .sl 1 (x1.map cdI.enc)), (10, .v (.bool ((x0.length : Int) != (x1.length : Int))))], []⟩) ?_ ?_
  · refine RunS.segF (n := 26) e_slices_Equal_L_int_ok 1 [(0, .sl 1 (x0.map cdI.enc)), (1, .sl 1 (x1.map cdI.enc)), (6, .sl 1 (x0.map cdI.enc))] [] (by kernel_rfl) ?_
    refine RunS.one e_slices_Equal_L_int_ok 0 rfl (op_q (wantedA_none rfl) rfl (q_len (a := .sl 1 (x0.map cdI.enc)) (by kernel_rfl) (len_sl (el := 3) (by kernel_rfl)))) ?_
    refine RunS.segF (n := 26) e_slices_Equal_L_int_ok 1 [(0, .sl 1 (x0.map cdI.enc)), (1, .sl 1 (x1.map cdI.enc)), (7, .v (.int .i64 (x0.length : Int))), (8, .sl 1 (x1.map cdI.enc))] [] (by kernel_rfl) ?_
    refine RunS.one e_slices_Equal_L_int_ok 0 rfl (op_q (wantedA_none rfl) rfl (q_len (a := .sl 1 (x1.map cdI.enc)) (by kernel_rfl) (len_sl (el := 3) (by kernel_rfl)))) ?_
    refine RunS.segF (n := 26) e_slices_Equal_L_int_ok 1 [(0, .sl 1 (x0.map cdI.enc)), (1, .sl 1 (x1.map cdI.enc)), (10, .v (.bool ((x0.length : Int) != (x1.length : Int))))] [] (by kernel_rfl) ?_
    exact RunS.done rfl (Wk.fr (by kernel_rfl))
  refine Sem.cond (b := ((x0.length : Int) != (x1.length : Int))) (by kernel_rfl) (fun hb1 => ?_) (fun hb1 => ?_)
  · rw [if_pos hb1] at h
    refine Sem.seq ?_
    refine Sem.runS (s1 := ⟨Fr 26 [(4, .v (.bool false))], []⟩) ?_ ?_
    · refine RunS.segF (n := 26) e_slices_Equal_L_int_ok 1 [(4, .v (.bool false))] [] (by kernel_rfl) ?_
      exact RunS.done rfl (Wk.fr (by kernel_rfl))
    refine Sem.ret ?_
    have hq := Option.some.inj h; subst hq
    exact ⟨⟨Fr 26 [(4, .v (.bool false))], []⟩, (Wk.fr (by kernel_rfl)), .inr rfl, [.v (.bool false)], (by kernel_rfl), (by kernel_rfl)⟩
  · rw [if_f hb1] at h
    refine Sem.skip ?_
    refine Sem.seq ?_
    refine Sem.seq ?_
    refine Sem.runS (s1 := ⟨Fr 26 [(0, .sl 1 (x0.map cdI.enc)), (1, .sl 1 (x1.map cdI.enc)), (12, .v (.int .i64 (x0.length : Int))), (13, .v (.int .i64 0))], []⟩) ?_ ?_
    · refine RunS.segF (n := 26) e_slices_Equal_L_int_ok 1 [(0, .sl 1 (x0.map cdI.enc)), (1, .sl 1 (x1.map cdI.enc)), (11, .sl 1 (x0.map cdI.enc))] [] (by kernel_rfl) ?_
      refine RunS.one e_slices_Equal_L_int_ok 0 rfl (op_q (wantedA_none rfl) rfl (q_len (a := .sl 1 (x0.map cdI.enc)) (by kernel_rfl) (len_sl (el := 3) (by kernel_rfl)))) ?_
      refine RunS.segF (n := 26) e_slices_Equal_L_int_ok 1 [(0, .sl 1 (x0.map cdI.enc)), (1, .sl 1 (x1.map cdI.enc)), (12, .v (.int .i64 (x0.length : Int))), (13, .v (.int .i64 0))] [] (by kernel_rfl) ?_
      exact RunS.done rfl (Wk.fr (by kernel_rfl))
    refine Sem.block ?_
    obtain ⟨r8, hr8, h⟩ := Option.bind_eq_some_iff.1 h
    refine Sem.loop (n := 100000) ?_
    rcases r8 with w9 | w10
    · try dsimp only at h
      refine Sem.cutN (SemN.wk (s1 := ⟨Fr 26 [(0, .sl 1 (x0.map cdI.enc)), (1, .sl 1 (x1.map cdI.enc)), (12, .v (.int .i64 (x0.length : Int))), (13, .v (.int .i64 0))], []⟩) (Wk.fr (by kernel_rfl)) (slices_Equal_L_int_1_ok x0 x1 _ 0 _ hr8)) ?_
      refine Sem.seq ?_
      refine Sem.runS (s1 := ⟨Fr 26 [(4, .v (.bool true))], []⟩) ?_ ?_
      · refine RunS.segF (n := 26) e_slices_Equal_L_int_ok 1 [(4, .v (.bool true))] [] (by kernel_rfl) ?_
        exact RunS.done rfl (Wk.fr (by kernel_rfl))
      refine Sem.ret ?_
      have hq := Option.some.inj h; subst hq
      exact ⟨⟨Fr 26 [(4, .v (.bool true))], []⟩, (Wk.fr (by kernel_rfl)), .inr rfl, [.v (.bool true)], (by kernel_rfl), (by kernel_rfl)⟩
    · try dsimp only at h
      refine Sem.cutN (SemN.wk (s1 := ⟨Fr 26 [(0, .sl 1 (x0.map cdI.enc)), (1, .sl 1 (x1.map cdI.enc)), (12, .v (.int .i64 (x0.length : Int))), (13, .v (.int .i64 0))], []⟩) (Wk.fr (by kernel_rfl)) (slices_Equal_L_int_1_ok x0 x1 _ 0 _ hr8)) ?_
      have hq := Option.some.inj h; subst hq
      exact ⟨⟨Fr 26 [(4, .v (.bool w10))], []⟩, (Wk.fr (by kernel_rfl)), .inr rfl, [.v (.bool w10)], (by kernel_rfl), (by kernel_rfl)⟩
def t_slices_Equal_L_int : List AV → Option AV := told cs_slices_Equal_L_int (fun a => slices_Equal_L_int a.1 a.2.1) er_slices_Equal_L_int
theorem x_slices_Equal_L_int : XOk 30 t_slices_Equal_L_int := by
  refine EnvOk.x (E := e_slices_Equal_L_int) (contract_ok e_slices_Equal_L_int_ok (fn := Tryd.f30) (c := cb_slices_Equal_L_int) ?h1 ?h2 ⟨Tryd.call30⟩ cs_slices_Equal_L_int (fun a => slices_Equal_L_int a.1 a.2.1) er_slices_Equal_L_int (fun a => (by show 2 ≤ 26; decide)) ?h3 ?h4) rfl rfl
  case h1 => kernel_rfl
  case h2 => kernel_rfl
  case h3 => intro b; kernel_rfl
  case h4 => exact fun a b h => slices_Equal_L_int_sem a.1 a.2.1 b h
end Go.Proofs.YthofgamegondnaaDoor

namespace Go.Proofs.YthofgamegondnaaDoor
open Go.RowKit
/- trestle/trestlelaw09.EveningBounds -/
noncomputable def e_law09_EveningBounds : Env := (((((((E0.withX 16 t_law09_awake).withX 27 t_slices_Clone_L_int).withX 31 t_evening_LeastMost).withX 32 t_ref09_LeastMost).withX 33 t_evening_MostEvenings).withX 34 t_ref09_MostEvenings).withX 30 t_slices_Equal_L_int)
theorem e_law09_EveningBounds_ok : EnvOk e_law09_EveningBounds := (EnvOk.withX (EnvOk.withX (EnvOk.withX (EnvOk.withX (EnvOk.withX (EnvOk.withX (EnvOk.withX E0_ok x_law09_awake.1 x_law09_awake.2) x_slices_Clone_L_int.1 x_slices_Clone_L_int.2) x_evening_LeastMost.1 x_evening_LeastMost.2) x_ref09_LeastMost.1 x_ref09_LeastMost.2) x_evening_MostEvenings.1 x_evening_MostEvenings.2) x_ref09_MostEvenings.1 x_ref09_MostEvenings.2) x_slices_Equal_L_int.1 x_slices_Equal_L_int.2)
noncomputable def cb_law09_EveningBounds : Code := codeOf Tryd.f7
def law09_EveningBounds (x0 : Int) (x1 : (List Int)) (x2 : Int) (x3 : Int) : Option (Bool) :=
  if (decide ((x1.length : Int) > 70)) = true then
  law09_awake.bind fun v2 =>
  some v2
  else
  (slices_Clone_L_int x1).bind fun v3 =>
  (evening_LeastMost x0 v3 x2).bind fun v4 =>
  (ref09_LeastMost x0 x1 x2).bind fun v5 =>
  (if (v4 == v5) = true then (evening_MostEvenings x0 v3 x3).bind fun v6 =>
  (ref09_MostEvenings x0 x1 x3).bind fun v7 =>
  if (v6 == v7) = true then (slices_Equal_L_int v3 x1).bind fun v8 =>
  if v8 = true then law09_awake.bind fun v9 =>
  some v9 else some false else some false else some false).bind fun j11 =>
  some j11
def cs_law09_EveningBounds : Cs (Int × (List Int) × Int × Int × Unit) := (csC cdI (csC (cdL 1 cdI) (csC cdI (csC cdI csN))))
def er_law09_EveningBounds (r : Bool) : AV := cdB.enc r
set_option maxHeartbeats 4000000 in
set_option maxRecDepth 100000 in
theorem law09_EveningBounds_sem (x0 : Int) (x1 : (List Int)) (x2 : Int) (x3 : Int) (r : Bool) (h : law09_EveningBounds x0 x1 x2 x3 = some r) : Sem e_law09_EveningBounds ⟨none, false⟩ cb_law09_EveningBounds ⟨Fr 44 (pairs0 0 (cs_law09_EveningBounds.enc (x0, x1, x2, x3, ()))), []⟩ fun e s' => (e = .normal ∨ e = .ret) ∧ ∃ xs, resA e_law09_EveningBounds.P s'.fr s'.hp Tryd.f7.results.toList = some xs ∧ retA xs = er_law09_EveningBounds r := by
  unfold law09_EveningBounds at h
  refine Sem.wkQ (Sem.wk (s1 := ⟨Fr 44 [(0, .v (.int .i64 x0)), (1, .sl 1 (x1.map cdI.enc)), (2, .v (.int .i64 x2)), (3, .v (.int .i64 x3))], []⟩) (Wk.fr (by kernel_rfl)) ?_)
  refine Sem.seq ?_
  refine Sem.runS (s1 := ⟨Fr 44 [(0, .v (.int .i64 x0)), (1, .sl 1 (x1.map cdI.enc)), (2, .v (.int .i64 x2)), (3, .v (.int .i64 x3))], []⟩) ?_ ?_
  · refine RunS.segF (n := 44) e_law09_EveningBounds_ok 1 [(0, .v (.int .i64 x0)), (1, .sl 1 (x1.map cdI.enc)), (2, .v (.int .i64 x2)), (3, .v (.int .i64 x3))] [] (by kernel_rfl) ?_
    exact RunS.done rfl (Wk.fr (by kernel_rfl))
  refine Sem.seq ?_
  refine Sem.seq ?_
  refine Sem.runS (s1 := ⟨Fr 44 [(0, .v (.int .i64 x0)), (1, .sl 1 (x1.map cdI.enc)), (2, .v (.int .i64 x2)), (3, .v (.int .i64 x3)), (12, .v (.bool (decide ((x1.length : Int) > 70))))], []⟩) ?_ ?_
  · refine RunS.segF (n := 44) e_law09_EveningBounds_ok 1 [(0, .v (.int .i64 x0)), (1, .sl 1 (x1.map cdI.enc)), (2, .v (.int .i64 x2)), (3, .v (.int .i64 x3)), (10, .sl 1 (x1.map cdI.enc))] [] (by kernel_rfl) ?_
    refine RunS.one e_law09_EveningBounds_ok 0 rfl (op_q (wantedA_none rfl) rfl (q_len (a := .sl 1 (x1.map cdI.enc)) (by kernel_rfl) (len_sl (el := 3) (by kernel_rfl)))) ?_
    refine RunS.segF (n := 44) e_law09_EveningBounds_ok 1 [(0, .v (.int .i64 x0)), (1, .sl 1 (x1.map cdI.enc)), (2, .v (.int .i64 x2)), (3, .v (.int .i64 x3)), (12, .v (.bool (decide ((x1.length : Int) > 70))))] [] (by kernel_rfl) ?_
    exact RunS.done rfl (Wk.fr (by kernel_rfl))
  refine Sem.cond (b := (decide ((x1.length : Int) > 70))) (by kernel_rfl) (fun hb1 => ?_) (fun hb1 => ?_)
  · rw [if_pos hb1] at h
    refine Sem.seq ?_
    obtain ⟨v2, hv2, h⟩ := Option.bind_eq_some_iff.1 h
    refine Sem.runS (s1 := ⟨Fr 44 [(8, .v (.bool v2))], []⟩) ?_ ?_
    · refine RunS.call e_law09_EveningBounds_ok (fid := 16) (s := cs_law09_awake) (F := fun a => law09_awake ) (er := er_law09_awake) (xs := []) (a := (())) rfl (wantedA_none rfl) (by kernel_rfl) (by kernel_rfl) (by kernel_rfl) (by kernel_rfl) Sns.nil (.inl (by kernel_rfl)) hv2 ?_
      refine RunS.segF (n := 44) e_law09_EveningBounds_ok 1 [(8, .v (.bool v2))] [] (by kernel_rfl) ?_
      exact RunS.done rfl (Wk.fr (by kernel_rfl))
    refine Sem.ret ?_
    have hq := Option.some.inj h; subst hq
    exact ⟨⟨Fr 44 [(8, .v (.bool v2))], []⟩, (Wk.fr (by kernel_rfl)), .inr rfl, [.v (.bool v2)], (by kernel_rfl), (by kernel_rfl)⟩
  · rw [if_f hb1] at h
    refine Sem.skip ?_
    refine Sem.seq ?_
    obtain ⟨v3, hv3, h⟩ := Option.bind_eq_some_iff.1 h
    refine Sem.runS (s1 := ⟨Fr 44 [(0, .v (.int .i64 x0)), (1, .sl 1 (x1.map cdI.enc)), (2, .v (.int .i64 x2)), (3, .v (.int .i64 x3)), (9, .sl 1 (v3.map cdI.enc))], []⟩) ?_ ?_
    · refine RunS.segF (n := 44) e_law09_EveningBounds_ok 1 [(0, .v (.int .i64 x0)), (1, .sl 1 (x1.map cdI.enc)), (2, .v (.int .i64 x2)), (3, .v (.int .i64 x3)), (14, .sl 1 (x1.map cdI.enc))] [] (by kernel_rfl) ?_
      refine RunS.call e_law09_EveningBounds_ok (fid := 27) (s := cs_slices_Clone_L_int) (F := fun a => slices_Clone_L_int a.1) (er := er_slices_Clone_L_int) (xs := [.sl 1 (x1.map cdI.enc)]) (a := (x1, ())) rfl (wantedA_none rfl) (by kernel_rfl) (by kernel_rfl) (by kernel_rfl) (by kernel_rfl) (Sns.cons (Sn.enc (c := (cdL 1 cdI)) (v := x1)) Sns.nil) (.inl (by kernel_rfl)) hv3 ?_
      refine RunS.segF (n := 44) e_law09_EveningBounds_ok 1 [(0, .v (.int .i64 x0)), (1, .sl 1 (x1.map cdI.enc)), (2, .v (.int .i64 x2)), (3, .v (.int .i64 x3)), (9, .sl 1 (v3.map cdI.enc))] [] (by kernel_rfl) ?_
      exact RunS.done rfl (Wk.fr (by kernel_rfl))
    refine Sem.seq ?_
    obtain ⟨v4, hv4, h⟩ := Option.bind_eq_some_iff.1 h
    obtain ⟨v5, hv5, h⟩ := Option.bind_eq_some_iff.1 h
    obtain ⟨j11, hj11, h⟩ := Option.bind_eq_some_iff.1 h
    refine Sem.runS (s1 := ⟨Fr 44 [(8, .v (.bool j11))], []⟩) ?_ ?_
    · refine RunS.segF (n := 44) e_law09_EveningBounds_ok 3 [(0, .v (.int .i64 x0)), (1, .sl 1 (x1.map cdI.enc)), (2, .v (.int .i64 x2)), (3, .v (.int .i64 x3)), (9, .sl 1 (v3.map cdI.enc)), (16, .v (.int .i64 x0)), (17, .sl 1 (v3.map cdI.enc)), (18, .v (.int .i64 x2))] [] (by kernel_rfl) ?_
      refine RunS.call e_law09_EveningBounds_ok (fid := 31) (s := cs_evening_LeastMost) (F := fun a => evening_LeastMost a.1 a.2.1 a.2.2.1) (er := er_evening_LeastMost) (xs := [.v (.int .i64 x0), .sl 1 (v3.map cdI.enc), .v (.int .i64 x2)]) (a := (x0, v3, x2, ())) rfl (wantedA_none rfl) (by kernel_rfl) (by kernel_rfl) (by kernel_rfl) (by kernel_rfl) (Sns.cons (Sn.enc (c := cdI) (v := x0)) (Sns.cons (Sn.enc (c := (cdL 1 cdI)) (v := v3)) (Sns.cons (Sn.enc (c := cdI) (v := x2)) Sns.nil))) (.inl (by kernel_rfl)) hv4 ?_
      refine RunS.segF (n := 44) e_law09_EveningBounds_ok 3 [(0, .v (.int .i64 x0)), (1, .sl 1 (x1.map cdI.enc)), (3, .v (.int .i64 x3)), (9, .sl 1 (v3.map cdI.enc)), (19, .v (.int .i64 v4)), (20, .v (.int .i64 x0)), (21, .sl 1 (x1.map cdI.enc)), (22, .v (.int .i64 x2))] [] (by kernel_rfl) ?_
      refine RunS.call e_law09_EveningBounds_ok (fid := 32) (s := cs_ref09_LeastMost) (F := fun a => ref09_LeastMost a.1 a.2.1 a.2.2.1) (er := er_ref09_LeastMost) (xs := [.v (.int .i64 x0), .sl 1 (x1.map cdI.enc), .v (.int .i64 x2)]) (a := (x0, x1, x2, ())) rfl (wantedA_none rfl) (by kernel_rfl) (by kernel_rfl) (by kernel_rfl) (by kernel_rfl) (Sns.cons (Sn.enc (c := cdI) (v := x0)) (Sns.cons (Sn.enc (c := (cdL 1 cdI)) (v := x1)) (Sns.cons (Sn.enc (c := cdI) (v := x2)) Sns.nil))) (.inl (by kernel_rfl)) hv5 ?_
      refine RunS.segF (n := 44) e_law09_EveningBounds_ok 2 [(0, .v (.int .i64 x0)), (1, .sl 1 (x1.map cdI.enc)), (3, .v (.int .i64 x3)), (9, .sl 1 (v3.map cdI.enc)), (25, .v (.bool (v4 == v5)))] [] (by kernel_rfl) ?_
      rcases Bool.eq_false_or_eq_true (v4 == v5) with hc12 | hc12
      · rw [if_pos hc12] at hj11
        rw [hc12]
        refine RunS.segF (n := 44) e_law09_EveningBounds_ok 3 [(0, .v (.int .i64 x0)), (1, .sl 1 (x1.map cdI.enc)), (3, .v (.int .i64 x3)), (9, .sl 1 (v3.map cdI.enc)), (25, .v (.bool true)), (26, .v (.int .i64 x0)), (27, .sl 1 (v3.map cdI.enc)), (28, .v (.int .i64 x3))] [] (by kernel_rfl) ?_
        obtain ⟨v6, hv6, hj11⟩ := Option.bind_eq_some_iff.1 hj11
        refine RunS.call e_law09_EveningBounds_ok (fid := 33) (s := cs_evening_MostEvenings) (F := fun a => evening_MostEvenings a.1 a.2.1 a.2.2.1) (er := er_evening_MostEvenings) (xs := [.v (.int .i64 x0), .sl 1 (v3.map cdI.enc), .v (.int .i64 x3)]) (a := (x0, v3, x3, ())) rfl (by kernel_rfl) (by kernel_rfl) (by kernel_rfl) (by kernel_rfl) (by kernel_rfl) (Sns.cons (Sn.enc (c := cdI) (v := x0)) (Sns.cons (Sn.enc (c := (cdL 1 cdI)) (v := v3)) (Sns.cons (Sn.enc (c := cdI) (v := x3)) Sns.nil))) (.inl (by kernel_rfl)) hv6 ?_
        refine RunS.segF (n := 44) e_law09_EveningBounds_ok 3 [(1, .sl 1 (x1.map cdI.enc)), (9, .sl 1 (v3.map cdI.enc)), (25, .v (.bool true)), (29, .v (.int .i64 v6)), (30, .v (.int .i64 x0)), (31, .sl 1 (x1.map cdI.enc)), (32, .v (.int .i64 x3))] [] (by kernel_rfl) ?_
        obtain ⟨v7, hv7, hj11⟩ := Option.bind_eq_some_iff.1 hj11
        refine RunS.call e_law09_EveningBounds_ok (fid := 34) (s := cs_ref09_MostEvenings) (F := fun a => ref09_MostEvenings a.1 a.2.1 a.2.2.1) (er := er_ref09_MostEvenings) (xs := [.v (.int .i64 x0), .sl 1 (x1.map cdI.enc), .v (.int .i64 x3)]) (a := (x0, x1, x3, ())) rfl (by kernel_rfl) (by kernel_rfl) (by kernel_rfl) (by kernel_rfl) (by kernel_rfl) (Sns.cons (Sn.enc (c := cdI) (v := x0)) (Sns.cons (Sn.enc (c := (cdL 1 cdI)) (v := x1)) (Sns.cons (Sn.enc (c := cdI) (v := x3)) Sns.nil))) (.inl (by kernel_rfl)) hv7 ?_
        refine RunS.segF (n := 44) e_law09_EveningBounds_ok 3 [(1, .sl 1 (x1.map cdI.enc)), (9, .sl 1 (v3.map cdI.enc)), (36, .v (.bool (v6 == v7)))] [] (by kernel_rfl) ?_
        rcases Bool.eq_false_or_eq_true (v6 == v7) with hc13 | hc13
        · rw [if_pos hc13] at hj11
          rw [hc13]
          refine RunS.segF (n := 44) e_law09_EveningBounds_ok 2 [(36, .v (.bool true)), (37, .sl 1 (v3.map cdI.enc)), (38, .sl 1 (x1.map cdI.enc))] [] (by kernel_rfl) ?_
          obtain ⟨v8, hv8, hj11⟩ := Option.bind_eq_some_iff.1 hj11
          refine RunS.call e_law09_EveningBounds_ok (fid := 30) (s := cs_slices_Equal_L_int) (F := fun a => slices_Equal_L_int a.1 a.2.1) (er := er_slices_Equal_L_int) (xs := [.sl 1 (v3.map cdI.enc), .sl 1 (x1.map cdI.enc)]) (a := (v3, x1, ())) rfl (by kernel_rfl) (by kernel_rfl) (by kernel_rfl) (by kernel_rfl) (by kernel_rfl) (Sns.cons (Sn.enc (c := (cdL 1 cdI)) (v := v3)) (Sns.cons (Sn.enc (c := (cdL 1 cdI)) (v := x1)) Sns.nil)) (.inl (by kernel_rfl)) hv8 ?_
          refine RunS.segF (n := 44) e_law09_EveningBounds_ok 2 [(41, .v (.bool v8))] [] (by kernel_rfl) ?_
          rcases Bool.eq_false_or_eq_true v8 with hc14 | hc14
          · rw [if_pos hc14] at hj11
            rw [hc14]
            obtain ⟨v9, hv9, hj11⟩ := Option.bind_eq_some_iff.1 hj11
            refine RunS.call e_law09_EveningBounds_ok (fid := 16) (s := cs_law09_awake) (F := fun a => law09_awake ) (er := er_law09_awake) (xs := []) (a := (())) rfl (by kernel_rfl) (by kernel_rfl) (by kernel_rfl) (by kernel_rfl) (by kernel_rfl) Sns.nil (.inl (by kernel_rfl)) hv9 ?_
            refine RunS.segF (n := 44) e_law09_EveningBounds_ok 2 [(8, .v (.bool v9))] [] (by kernel_rfl) ?_
            have hq := Option.some.inj hj11; subst hq
            exact RunS.done rfl (Wk.fr (by kernel_rfl))
          · rw [if_f hc14] at hj11
            rw [hc14]
            refine RunS.segF (n := 44) e_law09_EveningBounds_ok 3 [(8, .v (.bool false))] [] (by kernel_rfl) ?_
            have hq := Option.some.inj hj11; subst hq
            exact RunS.done rfl (Wk.fr (by kernel_rfl))
        · rw [if_f hc13] at hj11
          rw [hc13]
          refine RunS.segF (n := 44) e_law09_EveningBounds_ok 8 [(8, .v (.bool false))] [] (by kernel_rfl) ?_
          have hq := Option.some.inj hj11; subst hq
          exact RunS.done rfl (Wk.fr (by kernel_rfl))
      · rw [if_f hc12] at hj11
        rw [hc12]
        refine RunS.segF (n := 44) e_law09_EveningBounds_ok 19 [(8, .v (.bool false))] [] (by kernel_rfl) ?_
        have hq := Option.some.inj hj11; subst hq
        exact RunS.done rfl (Wk.fr (by kernel_rfl))
    refine Sem.ret ?_
    have hq := Option.some.inj h; subst hq
    exact ⟨⟨Fr 44 [(8, .v (.bool j11))], []⟩, (Wk.fr (by kernel_rfl)), .inr rfl, [.v (.bool j11)], (by kernel_rfl), (by kernel_rfl)⟩
def t_law09_EveningBounds : List AV → Option AV := told cs_law09_EveningBounds (fun a => law09_EveningBounds a.1 a.2.1 a.2.2.1 a.2.2.2.1) er_law09_EveningBounds
theorem x_law09_EveningBounds : XOk 7 t_law09_EveningBounds := by
  refine EnvOk.x (E := e_law09_EveningBounds) (contract_ok e_law09_EveningBounds_ok (fn := Tryd.f7) (c := cb_law09_EveningBounds) ?h1 ?h2 ⟨Tryd.call7⟩ cs_law09_EveningBounds (fun a => law09_EveningBounds a.1 a.2.1 a.2.2.1 a.2.2.2.1) er_law09_EveningBounds (fun a => (by show 4 ≤ 44; decide)) ?h3 ?h4) rfl rfl
  case h1 => kernel_rfl
  case h2 => kernel_rfl
  case h3 => intro b; kernel_rfl
  case h4 => exact fun a b h => law09_EveningBounds_sem a.1 a.2.1 a.2.2.1 a.2.2.2.1 b h
end Go.Proofs.YthofgamegondnaaDoor

namespace Go.Proofs.YthofgamegondnaaDoor
open Go.RowKit
def sumL : List Int → Int
  | [] => 0
  | v :: r => v + sumL r
/-- Do sizes fit? -/
def fitP (n : Int) (xs : List Int) : Bool := xs.all (fun v => decide (1 ≤ v)) && decide (sumL xs = n) && decide (1 ≤ n) && decide (n ≤ 64)
def fitL : Int → List Int → Int ⊕ Bool
  | c, [] => .inl c
  | c, v :: r => if v < 1 ∨ v > c then .inr false else fitL (c - v) r
theorem fit_1 (n : Int) (xs : List Int) (hxs : xs.length ≤ 1000) : ∀ (r pre : List Int) (c : Int) (f : Nat), xs = pre ++ r → r.length < f → -9223372036854775808 ≤ c → c ≤ 9223372036854775807 → evening_fit_1 n xs f c pre.length = some (fitL c r)
  | [], pre, c, f + 1, h, _, _, _ => by
    subst h
    unfold evening_fit_1
    rw [nlt_len]
    rfl
  | v :: r, pre, c, f + 1, h, hf, h1, h2 => by
    subst h
    unfold evening_fit_1
    rw [if_pos (lt_len pre v r), idx_app]
    simp only [Option.bind_some]
    rw [wr_snoc pre v r (by omega)]
    unfold fitL
    by_cases ha : v < 1
    · simp [ha]
    · by_cases hb : v > c
      · simp [ha, hb]
      · simp only [ha, hb, decide_false, Bool.false_eq_true, if_false, Option.bind_some, false_or]
        rw [wr_i (by omega) (by omega)]
        rw [snoc_app]
        exact fit_1 n _ (by rw [← snoc_app]; exact hxs) r (pre ++ [v]) (c - v) f rfl (by simp at hf; omega) (by omega) (by omega)
theorem fitL_eq : ∀ (xs : List Int) (c : Int), (∃ d, fitL c xs = .inl d ∧ d = c - sumL xs ∧ (xs.all fun v => decide (1 ≤ v)) = true ∧ (0 ≤ c → 0 ≤ d)) ∨ (fitL c xs = .inr false ∧ ((xs.all fun v => decide (1 ≤ v)) = true → c < sumL xs))
  | [], c => .inl ⟨c, rfl, by simp [sumL], rfl, fun h => h⟩
  | v :: r, c => by
    unfold fitL
    by_cases hv : v < 1 ∨ v > c
    · rw [if_pos hv]
      refine .inr ⟨rfl, fun h => ?_⟩
      simp only [List.all_cons, Bool.and_eq_true, decide_eq_true_eq] at h
      have : ∀ (l : List Int), (l.all fun v => decide (1 ≤ v)) = true → 0 ≤ sumL l := by
        intro l
        induction l with
        | nil => intro _; simp [sumL]
        | cons a l ih => intro h; simp only [List.all_cons, Bool.and_eq_true, decide_eq_true_eq] at h; have := ih h.2; simp only [sumL]; omega
      have := this r h.2
      simp only [sumL]
      omega
    · rw [if_neg hv]
      rcases fitL_eq r (c - v) with ⟨d, h1, h2, h3, h4⟩ | ⟨h1, h2⟩
      · refine .inl ⟨d, h1, by simp only [sumL]; omega, ?_, fun h => h4 (by omega)⟩
        simp only [List.all_cons, Bool.and_eq_true, decide_eq_true_eq]
        exact ⟨by omega, h3⟩
      · refine .inr ⟨h1, fun h => ?_⟩
        simp only [List.all_cons, Bool.and_eq_true, decide_eq_true_eq] at h
        have := h2 h.2
        simp only [sumL]
        omega
theorem evening_fit_eq (n : Int) (hn : in64 n) (xs : List Int) (hxs : xs.length ≤ 1000) : evening_fit n xs = some (fitP n xs) := by
  unfold evening_fit
  rw [show (0 : Int) = (([] : List Int).length : Int) from rfl, fit_1 n xs hxs xs [] n 100000 rfl (by omega) hn.1 hn.2]
  simp only [Option.bind_some]
  rcases fitL_eq xs n with ⟨d, h1, h2, h3, h4⟩ | ⟨h1, h2⟩
  · rw [h1]
    simp only [evening_guests, Option.bind_some]
    unfold fitP
    rw [h3]
    by_cases ha : 1 ≤ n
    · by_cases hb : n ≤ 64
      · have : (d == 0) = decide (sumL xs = n) := by
          by_cases hd : d = 0
          · rw [hd]; simp; omega
          · have : ¬ sumL xs = n := by omega
            simp [this, hd]
        simp [ha, hb, this]
      · simp [ha, hb]
    · simp [ha]
  · rw [h1]
    simp only [Option.bind_some]
    unfold fitP
    cases hall : xs.all (fun v => decide (1 ≤ v)) with
    | false => simp
    | true => have := h2 hall; have : ¬ sumL xs = n := by omega
              simp [this]

def fitR : Int → List Int → Int ⊕ Bool
  | c, [] => .inl c
  | c, v :: r => if v < 1 ∨ v > 64 ∨ c > 64 then .inr false else fitR (c + v) r
theorem Fit_1 (n : Int) (xs : List Int) (hxs : xs.length ≤ 1000) : ∀ (r pre : List Int) (c : Int) (f : Nat), xs = pre ++ r → r.length < f → 0 ≤ c → ref09_Fit_1 n xs f c pre.length = some (fitR c r)
  | [], pre, c, f + 1, h, _, _ => by
    subst h
    unfold ref09_Fit_1
    rw [nlt_len]
    rfl
  | v :: r, pre, c, f + 1, h, hf, h1 => by
    subst h
    unfold ref09_Fit_1
    rw [if_pos (lt_len pre v r), idx_app]
    simp only [Option.bind_some]
    rw [wr_snoc pre v r (by omega)]
    unfold fitR
    by_cases ha : v < 1
    · simp [ha]
    · by_cases hb : v > 64
      · simp [ha, hb]
      · by_cases hc : c > 64
        · simp [ha, hb, hc]
        · simp only [ha, hb, hc, decide_false, Bool.false_eq_true, if_false, Option.bind_some, false_or]
          rw [wr_i (by omega) (by omega)]
          rw [snoc_app]
          exact Fit_1 n _ (by rw [← snoc_app]; exact hxs) r (pre ++ [v]) (c + v) f rfl (by simp at hf; omega) (by omega)
theorem sum_nn : ∀ (l : List Int), (l.all fun v => decide (1 ≤ v)) = true → 0 ≤ sumL l
  | [], _ => by simp [sumL]
  | a :: l, h => by
    simp only [List.all_cons, Bool.and_eq_true, decide_eq_true_eq] at h
    have := sum_nn l h.2
    simp only [sumL]; omega
theorem fitR_eq : ∀ (xs : List Int) (c : Int), 0 ≤ c → (∃ d, fitR c xs = .inl d ∧ d = c + sumL xs ∧ (xs.all fun v => decide (1 ≤ v)) = true) ∨ (fitR c xs = .inr false ∧ ((xs.all fun v => decide (1 ≤ v)) = true → 64 < c + sumL xs))
  | [], c, _ => .inl ⟨c, rfl, by simp [sumL], rfl⟩
  | v :: r, c, h0 => by
    unfold fitR
    by_cases hv : v < 1 ∨ v > 64 ∨ c > 64
    · rw [if_pos hv]
      refine .inr ⟨rfl, fun h => ?_⟩
      simp only [List.all_cons, Bool.and_eq_true, decide_eq_true_eq] at h
      have := sum_nn r h.2
      simp only [sumL]
      omega
    · rw [if_neg hv]
      rcases fitR_eq r (c + v) (by omega) with ⟨d, h1, h2, h3⟩ | ⟨h1, h2⟩
      · refine .inl ⟨d, h1, by simp only [sumL]; omega, ?_⟩
        simp only [List.all_cons, Bool.and_eq_true, decide_eq_true_eq]
        exact ⟨by omega, h3⟩
      · refine .inr ⟨h1, fun h => ?_⟩
        simp only [List.all_cons, Bool.and_eq_true, decide_eq_true_eq] at h
        have := h2 h.2
        simp only [sumL]
        omega
theorem ref09_Fit_eq (n : Int) (xs : List Int) (hxs : xs.length ≤ 1000) : ref09_Fit n xs = some (fitP n xs) := by
  unfold ref09_Fit
  have e0 := Fit_1 n xs hxs xs [] 0 100000 rfl (by omega) (by omega)
  rw [show ((([] : List Int).length : Nat) : Int) = 0 from rfl] at e0
  rw [e0]
  simp only [Option.bind_some]
  rcases fitR_eq xs 0 (by omega) with ⟨d, h1, h2, h3⟩ | ⟨h1, h2⟩
  · rw [h1]
    unfold fitP
    rw [h3]
    by_cases ha : 1 ≤ n
    · by_cases hb : n ≤ 64
      · have : (d == n) = decide (sumL xs = n) := by
          by_cases hd : d = n
          · rw [hd]; simp; omega
          · have : ¬ sumL xs = n := by omega
            simp [this, hd]
        simp [ha, hb, this]
      · simp [ha, hb]
    · simp [ha]
  · rw [h1]
    unfold fitP
    cases hall : xs.all (fun v => decide (1 ≤ v)) with
    | false => simp
    | true =>
      have := h2 hall
      by_cases hs : sumL xs = n
      · have : ¬ n ≤ 64 := by omega
        simp [hs, this]
      · simp [hs]

/-- How many pairs sit at a table. -/
def tri (v : Int) : Int := v * (v - 1) / 2
theorem tri2 (v : Int) : 2 * tri v = v * (v - 1) := by
  have : v * (v - 1) % 2 = 0 := by
    rcases (by omega : v % 2 = 0 ∨ v % 2 = 1) with h | h
    · rw [Int.mul_emod, h]; simp
    · have : (v - 1) % 2 = 0 := by omega
      rw [Int.mul_emod, this]; simp
  unfold tri
  omega
theorem tri_nn {v : Int} (h : 1 ≤ v) : 0 ≤ tri v := by
  have h1 := tri2 v
  have : 0 ≤ v * (v - 1) := Int.mul_nonneg (by omega) (by omega)
  omega
theorem tri_le {v : Int} (h : 1 ≤ v) (h2 : v ≤ 64) : tri v ≤ 2016 := by
  have h1 := tri2 v
  have h3 : v * (v - 1) ≤ 64 * 63 := Int.mul_le_mul h2 (by omega) (by omega) (by omega)
  omega
def metP : List Int → Int
  | [] => 0
  | v :: r => tri v + metP r
def okS (xs : List Int) : Prop := ∀ v ∈ xs, 1 ≤ v ∧ v ≤ 64
theorem met_1 (xs : List Int) (hxs : xs.length ≤ 1000) (hok : okS xs) : ∀ (r pre : List Int) (c : Int) (f : Nat), xs = pre ++ r → r.length < f → 0 ≤ c → c ≤ 2016 * (pre.length : Int) → evening_met_1 xs f c pre.length = some (c + metP r)
  | [], pre, c, f + 1, h, _, _, _ => by
    subst h
    unfold evening_met_1
    rw [nlt_len]
    simp [metP]
  | v :: r, pre, c, f + 1, h, hf, h1, h2 => by
    subst h
    unfold evening_met_1
    rw [if_pos (lt_len pre v r), idx_app]
    simp only [Option.bind_some]
    rw [wr_snoc pre v r (by omega)]
    obtain ⟨hv1, hv2⟩ := hok v (by simp)
    have ht := tri2 v
    have ht1 := tri_nn hv1
    have ht2 := tri_le hv1 hv2
    rw [wr_i (n := v - 1) (by omega) (by omega), wr_i (n := v * (v - 1)) (by omega) (by omega), tdiv2 _ (by omega), show v * (v - 1) / 2 = tri v from rfl, wr_i (n := tri v) (by omega) (by omega)]
    simp at hxs
    rw [wr_i (n := c + tri v) (by omega) (by omega), snoc_app, met_1 _ (by simp; omega) (by rw [← snoc_app]; exact hok) r (pre ++ [v]) (c + tri v) f rfl (by simp at hf; omega) (by omega) (by simp; omega)]
    simp only [metP]
    rw [Int.add_assoc]
theorem evening_met_eq (xs : List Int) (hxs : xs.length ≤ 1000) (hok : okS xs) : evening_met xs = some (metP xs) := by
  unfold evening_met
  have := met_1 xs hxs hok xs [] 0 100000 rfl (by omega) (by omega) (by simp)
  rw [show ((([] : List Int).length : Nat) : Int) = 0 from rfl, Int.zero_add] at this
  rw [this]
  rfl
theorem rmet_2 (xs : List Int) (i v : Int) (hv : idx xs i = some v) (hv2 : v ≤ 64) (M : Int) (hM : M ≤ 10000000) : ∀ (k : Nat) (c j : Int) (f : Nat), (k : Int) = v - j → k < f → 1 ≤ j → 0 ≤ c → c ≤ M - 64 * (k : Int) → ∃ q, ref09_met_2 xs i f c j = some q ∧ 2 * q = 2 * c + v * (v - 1) - j * (j - 1)
  | 0, c, j, f + 1, hk, _, _, _, _ => by
    have : j = v := by omega
    subst this
    refine ⟨c, ?_, by omega⟩
    unfold ref09_met_2
    rw [hv]
    simp
  | k + 1, c, j, f + 1, hk, hf, hj, hc, hc2 => by
    have hlt : j < v := by omega
    obtain ⟨q, h1, h2⟩ := rmet_2 xs i v hv hv2 M hM k (c + j) (j + 1) f (by omega) (by omega) (by omega) (by omega) (by omega)
    refine ⟨q, ?_, ?_⟩
    · unfold ref09_met_2
      rw [hv]
      simp only [Option.bind_some]
      rw [if_pos (by simpa using hlt), wr_i (by omega) (by omega), wr_i (by omega) (by omega)]
      exact h1
    · have e1 : (j + 1) * (j + 1 - 1) = j * (j - 1) + 2 * j := by
        rw [show j + 1 - 1 = j by omega, Int.mul_sub, Int.add_mul]; omega
      rw [h2, e1]; omega
theorem rmet_1 (xs : List Int) (hxs : xs.length ≤ 1000) (hok : okS xs) : ∀ (r pre : List Int) (c : Int) (f : Nat), xs = pre ++ r → r.length < f → 0 ≤ c → c ≤ 2016 * (pre.length : Int) → ref09_met_1 xs f c pre.length = some (c + metP r)
  | [], pre, c, f + 1, h, _, _, _ => by
    subst h
    unfold ref09_met_1
    rw [nlt_len]
    simp [metP]
  | v :: r, pre, c, f + 1, h, hf, h1, h2 => by
    subst h
    unfold ref09_met_1
    rw [if_pos (lt_len pre v r)]
    obtain ⟨hv1, hv2⟩ := hok v (by simp)
    have ht := tri2 v
    have ht1 := tri_nn hv1
    have ht2 := tri_le hv1 hv2
    have hl : (pre ++ v :: r).length = pre.length + (r.length + 1) := by simp
    rw [hl] at hxs
    obtain ⟨q, q1, q2⟩ := rmet_2 (pre ++ v :: r) pre.length v (idx_app pre v r) hv2 10000000 (by omega) (v - 1).toNat c 1 100000 (by omega) (by omega) (by omega) h1 (by omega)
    have hq : q = c + tri v := by omega
    rw [q1, hq]
    simp only [Option.bind_some]
    rw [wr_snoc pre v r (by omega), snoc_app, rmet_1 _ (by simp; omega) (by rw [← snoc_app]; exact hok) r (pre ++ [v]) (c + tri v) f rfl (by simp at hf; omega) (by omega) (by simp; omega)]
    simp only [metP]
    rw [Int.add_assoc]
theorem ref09_met_eq (xs : List Int) (hxs : xs.length ≤ 1000) (hok : okS xs) : ref09_met xs = some (metP xs) := by
  unfold ref09_met
  have := rmet_1 xs hxs hok xs [] 0 100000 rfl (by omega) (by omega) (by simp)
  rw [show ((([] : List Int).length : Nat) : Int) = 0 from rfl, Int.zero_add] at this
  rw [this]
  rfl
theorem fitP_inv {n : Int} {xs : List Int} (h : fitP n xs = true) : okS xs ∧ sumL xs = n ∧ 1 ≤ n ∧ n ≤ 64 := by
  simp only [fitP, Bool.and_eq_true, decide_eq_true_eq] at h
  obtain ⟨⟨⟨h1, h2⟩, h3⟩, h4⟩ := h
  refine ⟨?_, h2, h3, h4⟩
  have : ∀ (l : List Int), (l.all fun v => decide (1 ≤ v)) = true → ∀ v ∈ l, 1 ≤ v ∧ v ≤ sumL l := by
    intro l
    induction l with
    | nil => intro _ v hv; cases hv
    | cons a l ih =>
      intro h v hv
      have hn := sum_nn l (by simp only [List.all_cons, Bool.and_eq_true] at h; exact h.2)
      simp only [List.all_cons, Bool.and_eq_true, decide_eq_true_eq] at h
      rcases List.mem_cons.1 hv with rfl | hv
      · simp only [sumL]; omega
      · have := ih h.2 v hv; simp only [sumL]; omega
  intro v hv
  have := this xs h1 v hv
  omega
theorem metP_nn : ∀ {xs : List Int}, okS xs → 0 ≤ metP xs
  | [], _ => by simp [metP]
  | v :: r, h => by
    have h1 := tri_nn (h v (by simp)).1
    have h2 := metP_nn (xs := r) fun v hv => h v (by simp [hv])
    simp only [metP]; omega
theorem metP_le : ∀ {xs : List Int}, okS xs → metP xs ≤ tri (sumL xs) ∧ 0 ≤ sumL xs
  | [], _ => by simp [metP, sumL, tri]
  | v :: r, h => by
    obtain ⟨h1, h2⟩ := metP_le (xs := r) fun v hv => h v (by simp [hv])
    have hv := (h v (by simp)).1
    simp only [metP, sumL]
    have a1 := tri2 v
    have a2 := tri2 (sumL r)
    have a3 := tri2 (v + sumL r)
    have a4 : 0 ≤ v * sumL r := Int.mul_nonneg (by omega) h2
    have e : (v + sumL r) * (v + sumL r - 1) = v * (v - 1) + sumL r * (sumL r - 1) + 2 * (v * sumL r) := by
      rw [Int.mul_sub, Int.mul_sub, Int.mul_sub, Int.mul_add, Int.add_mul, Int.add_mul, Int.mul_comm (sumL r) v]
      omega
    omega
/-- The reference's search of the least number. -/
theorem lm_1 (n e A T p : Int) (hT : ref09_met [n] = some T) (h0 : 0 ≤ p) (hp64 : p ≤ 64) (hT0 : 0 ≤ T) (hT1 : T ≤ 2016) (v : Int) (hA : wr .i64 ((mnI e 64) * v) = A) (hlo : ∀ c, 0 ≤ c → c < p → c * T < A) (hhi : A ≤ p * T) : ∀ (k : Nat) (c : Int) (f : Nat), (k : Int) = p - c → k < f → 0 ≤ c → ref09_LeastMost_1 n e v f c = some p
  | 0, c, f + 1, hk, _, hc => by
    have : c = p := by omega
    subst this
    unfold ref09_LeastMost_1
    rw [hT]
    simp only [Option.bind_some]
    have h1 : c * T ≤ 64 * 2016 := Int.mul_le_mul hp64 hT1 hT0 (by omega)
    have h2 : 0 ≤ c * T := Int.mul_nonneg hc hT0
    rw [hA, wr_i (by omega) (by omega), if_neg (by simp; omega)]
  | k + 1, c, f + 1, hk, hf, hc => by
    unfold ref09_LeastMost_1
    rw [hT]
    simp only [Option.bind_some]
    have h1 : c * T ≤ 64 * 2016 := Int.mul_le_mul (by omega) hT1 hT0 (by omega)
    have h2 : 0 ≤ c * T := Int.mul_nonneg hc hT0
    have h3 := hlo c hc (by omega)
    rw [hA, wr_i (by omega) (by omega), if_pos (by simpa using h3), wr_i (by omega) (by omega)]
    exact lm_1 n e A T p hT h0 hp64 hT0 hT1 v hA hlo hhi k (c + 1) f (by omega) (by omega) (by omega)
theorem mn_le (a b : Int) : mnI a b ≤ a ∧ mnI a b ≤ b ∧ (mnI a b = a ∨ mnI a b = b) := by
  unfold mnI; split <;> omega
theorem leastMost_agree (n : Int) (hn : in64 n) (xs : List Int) (hxs : xs.length ≤ 1000) (e : Int) : ∃ r, evening_LeastMost n xs e = some r ∧ ref09_LeastMost n xs e = some r := by
  unfold evening_LeastMost ref09_LeastMost
  rw [evening_fit_eq n hn xs hxs, ref09_Fit_eq n xs hxs]
  simp only [Option.bind_some]
  cases hf : fitP n xs with
  | false => exact ⟨0, by simp, by simp⟩
  | true =>
    obtain ⟨hok, hs, hn1, hn2⟩ := fitP_inv hf
    by_cases he : e < 1
    · exact ⟨0, by simp [he], by simp [he]⟩
    · rw [evening_met_eq xs hxs hok, ref09_met_eq xs hxs hok]
      simp only [Bool.not_true, Bool.false_eq_true, if_false, he, decide_false, Option.bind_some]
      have hm0 := metP_nn hok
      have hmt := (metP_le hok).1
      rw [hs] at hmt
      have ht := tri2 n
      have ht0 := tri_nn hn1
      have ht1 := tri_le hn1 hn2
      have hT : ref09_met [n] = some (tri n) := by
        rw [ref09_met_eq [n] (by simp) (by intro v hv; simp at hv; omega)]
        simp [metP]
      have hmn := mn_le e 64
      have hmn0 : 1 ≤ mnI e 64 := by omega
      have hA0 : 0 ≤ mnI e 64 * metP xs := Int.mul_nonneg (by omega) hm0
      have hA1 : mnI e 64 * metP xs ≤ 64 * tri n := Int.mul_le_mul hmn.2.1 hmt hm0 (by omega)
      have hA : wr .i64 (mnI e 64 * metP xs) = mnI e 64 * metP xs := wr_i (by omega) (by omega)
      by_cases hz : metP xs = 0
      · refine ⟨0, by simp [hz], ?_⟩
        rw [lm_1 n e _ (tri n) 0 hT (by omega) (by omega) ht0 ht1 (metP xs) hA (fun c h1 h2 => by omega) (by rw [hz]; simp) 0 0 100000 (by simp) (by omega) (by omega)]
        rfl
      · have hz' : (metP xs == 0) = false := by simpa using hz
        have hTp : 1 ≤ tri n := by omega
        generalize hAd : mnI e 64 * metP xs = A at *
        generalize hTd : tri n = T at *
        have hAp : 1 ≤ A := by
          have : 1 * 1 ≤ mnI e 64 * metP xs := Int.mul_le_mul hmn0 (by omega) (by omega) (by omega)
          omega
        have d1 := Int.mul_ediv_add_emod (A + T - 1) T
        have d2 := Int.emod_nonneg (A + T - 1) (show T ≠ 0 by omega)
        have d3 := Int.emod_lt_of_pos (A + T - 1) (show 0 < T by omega)
        generalize hpd : (A + T - 1) / T = p at d1
        generalize hrd : (A + T - 1) % T = q at d1 d2 d3
        have hTp1 : T * p = p * T := Int.mul_comm T p
        have hp0 : 0 ≤ p := by rw [← hpd]; exact Int.ediv_nonneg (by omega) (by omega)
        have hp64 : p ≤ 64 := by
          rw [← hpd]
          have : (A + T - 1) / T < 65 := Int.ediv_lt_of_lt_mul (by omega) (by omega)
          omega
        refine ⟨p, ?_, ?_⟩
        · simp only [hz', Bool.false_eq_true, if_false]
          have w1 : wr .i64 (n * wr .i64 (n - 1)) = n * (n - 1) := by
            rw [wr_i (n := n - 1) (by omega) (by omega), wr_i (by omega) (by omega)]
          have w2 : wr .i64 ((n * (n - 1)).tdiv 2) = T := by
            rw [tdiv2 _ (by omega), show n * (n - 1) / 2 = tri n from rfl, hTd, wr_i (by omega) (by omega)]
          rw [w1, w2, hA, if_neg (by omega), wr_i (n := A + T) (by omega) (by omega), wr_i (n := A + T - 1) (by omega) (by omega), Int.tdiv_eq_ediv_of_nonneg (by omega), hpd, wr_i (by omega) (by omega)]
        · rw [lm_1 n e A T p hT hp0 hp64 (by omega) (by omega) (metP xs) (by rw [hAd]; exact hA) (fun c h1 h2 => ?_) (by omega) p.toNat 0 100000 (by omega) (by omega) (by omega)]
          · rfl
          · have : c * T ≤ (p - 1) * T := Int.mul_le_mul_of_nonneg_right (by omega) (by omega)
            rw [Int.sub_mul] at this
            omega
theorem me_1 (n o B T : Int) (xs : List Int) (m : Int) (p : Int) (hm : ref09_met xs = some m) (hT : ref09_met [n] = some T) (hB : wr .i64 ((mnI o 64) * T) = B) (hm0 : 0 ≤ m) (hm1 : m ≤ 2016) (hp0 : 0 ≤ p) (hp : p ≤ 64) (hlo : ∀ c, 0 ≤ c → c < p → (c + 1) * m ≤ B) (hhi : p = 64 ∨ B < (p + 1) * m) : ∀ (k : Nat) (c : Int) (f : Nat), (k : Int) = p - c → k < f → 0 ≤ c → ref09_MostEvenings_1 n xs o f c = some p
  | 0, c, f + 1, hk, _, hc => by
    have : c = p := by omega
    subst this
    unfold ref09_MostEvenings_1
    rw [hm, hT]
    simp only [Option.bind_some]
    by_cases h64 : c < 64
    · have h1 : (c + 1) * m ≤ 64 * 2016 := Int.mul_le_mul (by omega) hm1 hm0 (by omega)
      have h2 : 0 ≤ (c + 1) * m := Int.mul_nonneg (by omega) hm0
      rw [if_pos (by simpa using h64), hB, wr_i (n := c + 1) (by omega) (by omega), wr_i (by omega) (by omega)]
      simp only [Option.bind_some]
      rw [if_neg (by simp; omega)]
    · rw [if_neg (by simpa using h64)]
      simp
  | k + 1, c, f + 1, hk, hf, hc => by
    unfold ref09_MostEvenings_1
    rw [hm, hT]
    simp only [Option.bind_some]
    have h1 : (c + 1) * m ≤ 64 * 2016 := Int.mul_le_mul (by omega) hm1 hm0 (by omega)
    have h2 : 0 ≤ (c + 1) * m := Int.mul_nonneg (by omega) hm0
    have h3 := hlo c hc (by omega)
    rw [if_pos (by simp; omega), hB, wr_i (n := c + 1) (by omega) (by omega), wr_i (n := (c + 1) * m) (by omega) (by omega)]
    simp only [Option.bind_some]
    rw [if_pos (by simpa using h3)]
    exact me_1 n o B T xs m p hm hT hB hm0 hm1 hp0 hp hlo hhi k (c + 1) f (by omega) (by omega) (by omega)
theorem mostEvenings_agree (n : Int) (hn : in64 n) (xs : List Int) (hxs : xs.length ≤ 1000) (o : Int) : ∃ r, evening_MostEvenings n xs o = some r ∧ ref09_MostEvenings n xs o = some r := by
  unfold evening_MostEvenings ref09_MostEvenings
  rw [evening_fit_eq n hn xs hxs, ref09_Fit_eq n xs hxs]
  simp only [Option.bind_some]
  cases hf : fitP n xs with
  | false => exact ⟨0, by simp, by simp⟩
  | true =>
    obtain ⟨hok, hs, hn1, hn2⟩ := fitP_inv hf
    by_cases he : o < 0
    · exact ⟨0, by simp [he], by simp [he]⟩
    · rw [evening_met_eq xs hxs hok]
      simp only [Bool.not_true, Bool.false_eq_true, if_false, he, decide_false, Option.bind_some]
      have hm0 := metP_nn hok
      have hmt := (metP_le hok).1
      rw [hs] at hmt
      have ht := tri2 n
      have ht0 := tri_nn hn1
      have ht1 := tri_le hn1 hn2
      have hm := ref09_met_eq xs hxs hok
      have hT : ref09_met [n] = some (tri n) := by
        rw [ref09_met_eq [n] (by simp) (by intro v hv; simp at hv; omega)]
        simp [metP]
      have hmn := mn_le o 64
      have hmn0 : 0 ≤ mnI o 64 := by omega
      have hB0 : 0 ≤ mnI o 64 * tri n := Int.mul_nonneg hmn0 ht0
      have hB1 : mnI o 64 * tri n ≤ 64 * tri n := Int.mul_le_mul hmn.2.1 (by omega) ht0 (by omega)
      have hB : wr .i64 (mnI o 64 * tri n) = mnI o 64 * tri n := wr_i (by omega) (by omega)
      by_cases hz : metP xs = 0
      · refine ⟨64, by simp [hz], ?_⟩
        rw [me_1 n o _ (tri n) xs 0 64 (by rw [hm, hz]) hT hB (by omega) (by omega) (by omega) (by omega) (fun c _ _ => by simpa using hB0) (.inl rfl) 64 0 100000 (by simp) (by omega) (by omega)]
        rfl
      · have hz' : (metP xs == 0) = false := by simpa using hz
        have w1 : wr .i64 (n * wr .i64 (n - 1)) = n * (n - 1) := by
          rw [wr_i (n := n - 1) (by omega) (by omega), wr_i (by omega) (by omega)]
        have w2 : wr .i64 ((n * (n - 1)).tdiv 2) = tri n := by
          rw [tdiv2 _ (by omega), show n * (n - 1) / 2 = tri n from rfl, wr_i (by omega) (by omega)]
        generalize hBd : mnI o 64 * tri n = B at *
        generalize hmd : metP xs = m at *
        have d1 := Int.mul_ediv_add_emod B m
        have d2 := Int.emod_nonneg B (show m ≠ 0 by omega)
        have d3 := Int.emod_lt_of_pos B (show 0 < m by omega)
        have hq0 : 0 ≤ B / m := Int.ediv_nonneg hB0 (by omega)
        have hqB : B / m ≤ B := Int.ediv_le_self m hB0
        generalize hqd : B / m = q at *
        have hmq : m * q = q * m := Int.mul_comm m q
        have hp := mn_le 64 q
        refine ⟨mnI 64 q, ?_, ?_⟩
        · simp only [hz', Bool.false_eq_true, if_false]
          rw [w1, w2, hBd, hB, if_neg (by omega), Int.tdiv_eq_ediv_of_nonneg hB0, hqd, wr_i (by omega) (by omega)]
        · generalize hpd : mnI 64 q = p at hp ⊢
          have hlo : ∀ c, 0 ≤ c → c < p → (c + 1) * m ≤ B := fun c h1 h2 => by
            have : (c + 1) * m ≤ q * m := Int.mul_le_mul_of_nonneg_right (by omega) hm0
            omega
          have hhi : p = 64 ∨ B < (p + 1) * m := by
            rcases hp.2.2 with h | h
            · exact .inl h
            · refine .inr ?_
              subst h
              rw [Int.add_mul]; omega
          rw [me_1 n o B (tri n) xs m p hm hT (by rw [hBd]; exact hB) hm0 (by omega) (by omega) (by omega) hlo hhi p.toNat 0 100000 (by omega) (by omega) (by omega)]
          rfl
theorem equal_1 (xs : List Int) (hxs : xs.length ≤ 1000000) : ∀ (r pre : List Int) (f : Nat), xs = pre ++ r → r.length < f → slices_Equal_L_int_1 xs xs f pre.length = some (.inl ())
  | [], pre, f + 1, h, _ => by
    subst h
    unfold slices_Equal_L_int_1
    rw [nlt_len]
    rfl
  | v :: r, pre, f + 1, h, hf => by
    subst h
    unfold slices_Equal_L_int_1
    rw [if_pos (lt_len pre v r), idx_app]
    simp only [Option.bind_some]
    rw [wr_snoc pre v r (by omega)]
    simp only [bne_self_eq_false, Bool.false_eq_true, if_false]
    rw [snoc_app]
    exact equal_1 _ (by rw [← snoc_app]; exact hxs) r (pre ++ [v]) f rfl (by simp at hf; omega)
theorem equal_self (xs : List Int) (hxs : xs.length ≤ 50000) : slices_Equal_L_int xs xs = some true := by
  unfold slices_Equal_L_int
  have := equal_1 xs (by omega) xs [] 100000 rfl (by omega)
  simp only [bne_self_eq_false, Bool.false_eq_true, if_false]
  rw [show ((0 : Int)) = (([] : List Int).length : Int) from rfl, this]
  rfl
theorem clone_self (xs : List Int) (hxs : xs.length ≤ 50000) : slices_Clone_L_int xs = some xs := by
  unfold slices_Clone_L_int
  rw [if_pos (capOk_le (by omega) (by omega))]
theorem bounds_law (n : Int) (hn : in64 n) (xs : List Int) (e o : Int) : law09_EveningBounds n xs e o = some true := by
  unfold law09_EveningBounds
  by_cases h : (xs.length : Int) > 70
  · rw [if_pos (by simpa using h)]; rfl
  · rw [if_neg (by simpa using h)]
    obtain ⟨r1, a1, a2⟩ := leastMost_agree n hn xs (by omega) e
    obtain ⟨r2, b1, b2⟩ := mostEvenings_agree n hn xs (by omega) o
    rw [clone_self xs (by omega)]
    simp only [Option.bind_some, a1, a2, b1, b2, equal_self xs (by omega), beq_self_eq_true, if_true]
    rfl
end Go.Proofs.YthofgamegondnaaDoor

namespace Go.Proofs.YthofgamegondnaaDoor
open Go.RowKit
/-- How often a number sits on an evening. -/
theorem times_2 (ev : List (List Int)) (x c2 : Int) (t : List Int) (ht : idx ev c2 = some t) (hl : t.length ≤ 50000) : ∀ (r pre : List Int) (f : Nat) (c : Int), t = pre ++ r → r.length < f → 0 ≤ c → c + r.length ≤ 1000000 → ref09_times_2 ev x c2 f c pre.length = some (c + (r.count x : Int))
  | [], pre, f + 1, c, h, _, _, _ => by
    unfold ref09_times_2
    rw [ht]
    subst h
    simp only [Option.bind_some]
    rw [nlt_len]
    simp
  | v :: r, pre, f + 1, c, h, hf, h0, h1 => by
    unfold ref09_times_2
    rw [ht]
    simp only [List.length_cons] at h1
    by_cases hv : v = x
    · have ih := times_2 ev x c2 t ht hl r (pre ++ [v]) f (c + 1) (by rw [h]; simp) (by simp at hf; omega) (by omega) (by omega)
      subst h hv
      simp only [Option.bind_some]
      rw [if_pos (lt_len pre v r), idx_app]
      simp only [Option.bind_some, ref09_times_j3, beq_self_eq_true, if_true]
      rw [wr_snoc pre v r (by omega), wr_i (by omega) (by omega), ih, List.count_cons_self]
      congr 1; omega
    · have ih := times_2 ev x c2 t ht hl r (pre ++ [v]) f c (by rw [h]; simp) (by simp at hf; omega) (by omega) (by omega)
      have hb : (v == x) = false := by simpa using hv
      subst h
      simp only [Option.bind_some]
      rw [if_pos (lt_len pre v r), idx_app]
      simp only [Option.bind_some, ref09_times_j3, hb, Bool.false_eq_true, if_false]
      rw [wr_snoc pre v r (by omega), ih, List.count_cons_of_ne hv]
theorem len_mem {α : Type} : ∀ {ev : List (List α)} {t : List α}, t ∈ ev → t.length ≤ ev.flatten.length
  | a :: ev, t, h => by
    simp only [List.flatten_cons, List.length_append]
    rcases List.mem_cons.1 h with rfl | h
    · omega
    · have := len_mem h; omega
theorem times_eq (ev : List (List Int)) (x : Int) (hl : ev.length ≤ 50000) (hfl : ev.flatten.length ≤ 50000) : ref09_times ev x = some (ev.flatten.count x : Int) := by
  unfold ref09_times
  have hm : ∀ t ∈ ev, t.length ≤ 50000 := fun t ht => by
    have := len_mem ht; omega
  have key : ∀ (r pre : List (List Int)) (f : Nat) (c : Int), ev = pre ++ r → r.length < f → 0 ≤ c → c + r.flatten.length ≤ 50000 → ref09_times_1 ev x f c pre.length = some (c + (r.flatten.count x : Int)) := by
    intro r
    induction r with
    | nil =>
      intro pre f c h hf h0 h1
      obtain ⟨f, rfl⟩ : ∃ g, f = g + 1 := ⟨f - 1, by simp at hf; omega⟩
      subst h
      unfold ref09_times_1
      rw [nlt_len]
      simp
    | cons t r ih =>
      intro pre f c h hf h0 h1
      obtain ⟨f, rfl⟩ : ∃ g, f = g + 1 := ⟨f - 1, by simp at hf; omega⟩
      have ht := hm t (by rw [h]; simp)
      subst h
      unfold ref09_times_1
      rw [if_pos (lt_len pre t r)]
      simp only [List.flatten_cons, List.length_append] at h1
      have hc : (t.count x) ≤ t.length := List.count_le_length
      have h2 := times_2 (pre ++ t :: r) x pre.length t (idx_app pre t r) (by omega) t [] 100000 c rfl (by omega) h0 (by omega)
      rw [show ((([] : List Int).length : Nat) : Int) = 0 from rfl] at h2
      rw [h2]
      simp only [Option.bind_some]
      simp at hl
      rw [wr_snoc pre t r (by simp; omega), ih (pre ++ [t]) f _ (by simp) (by simp at hf; omega) (by omega) (by omega)]
      simp only [List.flatten_cons, List.count_append]
      congr 1; omega
  have := key ev [] 100000 0 rfl (by omega) (by omega) (by omega)
  rw [show ((([] : List (List Int)).length : Nat) : Int) = 0 from rfl, Int.zero_add] at this
  rw [this]
  rfl

/-- Is the shape of an evening wrong? -/
def sbad (sizes : List Int) : List (List Int) → Int → Bool
  | [], _ => false
  | t :: r, i => ((t.length : Int) == 0) || (decide ((sizes.length : Int) > 0) && (match idx sizes i with | some v => ((t.length : Int) != v) | none => false)) || sbad sizes r (i + 1)
abbrev CSt := Int × Bool × Bool × List Bool
def stepC (n : Int) (s : CSt) (v : Int) : CSt := if v < 0 ∨ v ≥ n then (s.1, s.2.1, true, s.2.2.2) else ((if (s.2.2.2)[v.toNat]?.getD false then s.1 else s.1 + 1), s.2.1 || (s.2.2.2)[v.toNat]?.getD false, s.2.2.1, s.2.2.2.set v.toNat true)
theorem stepC_len (n : Int) (s : CSt) (v : Int) : (stepC n s v).2.2.2.length = s.2.2.2.length := by
  unfold stepC; split <;> simp
theorem stepC_le (n : Int) (s : CSt) (v : Int) : (stepC n s v).1 ≤ s.1 + 1 ∧ s.1 ≤ (stepC n s v).1 := by
  unfold stepC; split
  · show s.1 ≤ s.1 + 1 ∧ s.1 ≤ s.1; omega
  · simp only; split <;> omega
theorem check_2 (n : Int) (sizes : List Int) (ev : List (List Int)) (c9 : Int) (hn0 : 0 ≤ n) : ∀ (r pre : List Int) (s : CSt) (f : Nat) (t : List Int), t = pre ++ r → t.length ≤ 50000 → r.length < f → s.2.2.2.length = n.toNat → 0 ≤ s.1 → s.1 ≤ 1000000 + (pre.length : Int) → evening_check_2 n sizes ev c9 t f s.1 s.2.1 s.2.2.1 s.2.2.2 pre.length = some (r.foldl (stepC n) s)
  | [], pre, s, f + 1, t, ht, _, _, _, _, _ => by
    subst ht
    unfold evening_check_2
    rw [nlt_len]
    rfl
  | v :: r, pre, s, f + 1, t, ht, hl, hf, hs, h0, h1 => by
    obtain ⟨m, tw, un, seen⟩ := s
    simp only at hs h0 h1 ⊢
    have ih := check_2 n sizes ev c9 hn0 r (pre ++ [v]) (stepC n (m, tw, un, seen) v) f t (by rw [ht]; simp) hl (by simp at hf; omega) (by rw [stepC_len]; exact hs) (by have := (stepC_le n (m, tw, un, seen) v).2; simp only at this; omega) (by have := (stepC_le n (m, tw, un, seen) v).1; simp only at this; simp; omega)
    subst ht
    unfold evening_check_2
    rw [if_pos (lt_len pre v r), idx_app]
    simp only [Option.bind_some]
    rw [wr_snoc pre v r (by omega)]
    rw [List.foldl_cons]
    by_cases hv : v < 0 ∨ v ≥ n
    · have hst : stepC n (m, tw, un, seen) v = (m, tw, true, seen) := by unfold stepC; rw [if_pos hv]
      rw [hst] at ih ⊢
      by_cases hv0 : v < 0
      · simp only [hv0, decide_true, if_true, Option.bind_some]
        exact ih
      · have : v ≥ n := by omega
        simp only [hv0, this, decide_false, decide_true, Bool.false_eq_true, if_false, if_true, Option.bind_some]
        exact ih
    · have hv0 : ¬ v < 0 := by omega
      have hv1 : ¬ v ≥ n := by omega
      have hlt : v.toNat < seen.length := by omega
      have hidx : idx seen v = some (seen[v.toNat]'hlt) := by
        unfold idx; rw [if_pos (by omega)]; exact List.getElem?_eq_getElem hlt
      have hg : seen[v.toNat]?.getD false = seen[v.toNat]'hlt := by rw [List.getElem?_eq_getElem hlt]; rfl
      have hst : stepC n (m, tw, un, seen) v = ((if (seen[v.toNat]'hlt) then m else m + 1), tw || (seen[v.toNat]'hlt), un, seen.set v.toNat true) := by
        unfold stepC; rw [if_neg hv]; simp only [hg]
      rw [hst] at ih ⊢
      have hm1 : wr .i64 (m + 1) = m + 1 := wr_i (by omega) (by simp at hl; omega)
      simp only [hv0, hv1, decide_false, Bool.false_eq_true, if_false, Option.bind_some, hidx, evening_check_j3]
      cases htw : tw <;> cases hse : seen[v.toNat]'hlt <;> simp only [htw, hse, Bool.false_eq_true, if_false, if_true, Option.bind_some, Bool.not_true, Bool.not_false, hidx, hm1, Bool.or_true, Bool.or_false] at ih ⊢ <;> exact ih
theorem shape_j (sizes : List Int) (ev : List (List Int)) (t : List Int) (i : Nat) (hs : (sizes.length : Int) > 0 → i < sizes.length) {β : Type} (b : β) : (if ((t.length : Int) == 0) = true then some (b, true) else if (decide ((sizes.length : Int) > 0)) = true then (idx sizes i).bind fun v12 => some (b, ((t.length : Int) != v12)) else some (b, false)) = some (b, ((t.length : Int) == 0) || (decide ((sizes.length : Int) > 0) && (match idx sizes i with | some v => ((t.length : Int) != v) | none => false))) := by
  cases h1 : ((t.length : Int) == 0) with
  | true => simp
  | false =>
    by_cases h2 : (sizes.length : Int) > 0
    · have := hs h2
      rw [idx_lt this]
      have h3 : 0 < sizes.length := by omega
      simp [h3]
    · have h3 : ¬ 0 < sizes.length := by omega
      simp [h3]
theorem check_1 (n : Int) (sizes : List Int) (ev : List (List Int)) (hn0 : 0 ≤ n) (hl : ev.length ≤ 50000) (hsz : (sizes.length : Int) > 0 → sizes.length = ev.length) : ∀ (r pre : List (List Int)) (s : CSt) (f : Nat), ev = pre ++ r → r.length < f → s.2.2.2.length = n.toNat → 0 ≤ s.1 → s.1 + r.flatten.length ≤ 50000 → evening_check_1 n sizes ev f s.1 s.2.1 s.2.2.1 s.2.2.2 pre.length = some (if sbad sizes r pre.length then .inr 2 else let q := r.flatten.foldl (stepC n) s; .inl (q.1, q.2.1, q.2.2.1))
  | [], pre, s, f + 1, h, _, _, _, _ => by
    subst h
    unfold evening_check_1
    rw [nlt_len]
    rfl
  | t :: r, pre, s, f + 1, h, hf, hs, h0, h1 => by
    obtain ⟨m, tw, un, seen⟩ := s
    simp only at hs h0 h1 ⊢
    subst h
    unfold evening_check_1
    rw [if_pos (lt_len pre t r), idx_app]
    simp only [Option.bind_some]
    rw [shape_j sizes (pre ++ t :: r) t pre.length (fun h => by rw [hsz h]; simp)]
    simp only [Option.bind_some]
    simp only [List.flatten_cons, List.length_append] at h1
    cases hb : (((t.length : Int) == 0) || (decide ((sizes.length : Int) > 0) && (match idx sizes (pre.length : Int) with | some v => ((t.length : Int) != v) | none => false))) with
    | true =>
      simp only [sbad, hb, Bool.true_or, if_true]
    | false =>
      simp only [sbad, hb, Bool.false_or, Bool.false_eq_true, if_false]
      have h2 := check_2 n sizes (pre ++ t :: r) pre.length hn0 t [] (m, tw, un, seen) 100000 t rfl (by omega) (by omega) hs h0 (by simp; omega)
      rw [show ((([] : List Int).length : Nat) : Int) = 0 from rfl] at h2
      simp only at h2
      rw [h2]
      simp only [Option.bind_some]
      have hfold : ∀ (l : List Int) (s : CSt), (l.foldl (stepC n) s).2.2.2.length = s.2.2.2.length ∧ (l.foldl (stepC n) s).1 ≤ s.1 + l.length ∧ s.1 ≤ (l.foldl (stepC n) s).1 := by
        intro l
        induction l with
        | nil => intro s; simp
        | cons a l ih =>
          intro s
          obtain ⟨a1, a2, a3⟩ := ih (stepC n s a)
          have := stepC_le n s a
          rw [List.foldl_cons]
          refine ⟨a1.trans (stepC_len n s a), ?_, ?_⟩
          · simp; omega
          · omega
      obtain ⟨a1, a2, a3⟩ := hfold t (m, tw, un, seen)
      simp only at a1 a2 a3
      rw [wr_snoc pre t r (by omega), check_1 n sizes (pre ++ t :: r) hn0 hl hsz r (pre ++ [t]) (t.foldl (stepC n) (m, tw, un, seen)) f (by simp) (by simp at hf; omega) (by omega) (by omega) (by omega)]
      rw [← snoc_len]
      simp only [List.flatten_cons, List.foldl_append]
end Go.Proofs.YthofgamegondnaaDoor

namespace Go.Proofs.YthofgamegondnaaDoor
open Go.RowKit
def badV (n v : Int) : Bool := decide (v < 0 ∨ v ≥ n)
theorem un_eq (n : Int) : ∀ (L : List Int) (s : CSt), (L.foldl (stepC n) s).2.2.1 = (s.2.2.1 || L.any (badV n))
  | [], s => by simp
  | v :: L, s => by
    rw [List.foldl_cons, un_eq n L, List.any_cons]
    by_cases hv : v < 0 ∨ v ≥ n
    · have hb : badV n v = true := by simp only [badV, decide_eq_true_eq]; exact hv
      have hs : (stepC n s v).2.2.1 = true := by unfold stepC; rw [if_pos hv]
      rw [hb, hs]; simp
    · have hb : badV n v = false := by simp only [badV, decide_eq_false_iff_not]; exact hv
      have hs : (stepC n s v).2.2.1 = s.2.2.1 := by unfold stepC; rw [if_neg hv]
      rw [hb, hs]; simp
structure InvC (N : Nat) (P : List Int) (s : CSt) : Prop where
  len : s.2.2.2.length = N
  seen : ∀ k, k < N → s.2.2.2[k]?.getD false = decide ((k : Int) ∈ P)
  tw : s.2.1 = true ↔ ∃ x, 2 ≤ P.count x
  many : s.1 = (s.2.2.2.count true : Int)
theorem count_set : ∀ (l : List Bool) (k : Nat), k < l.length → ((l.set k true).count true : Int) = l.count true + (if l[k]?.getD false then 0 else 1)
  | [], k, h => by simp at h
  | b :: l, 0, _ => by cases b <;> simp
  | b :: l, k + 1, h => by
    have := count_set l k (by simpa using h)
    simp only [List.set_cons_succ, List.getElem?_cons_succ]
    cases b
    · simpa using this
    · simp only [List.count_cons_self]; push_cast; omega
theorem InvC.step {n : Int} {P : List Int} {s : CSt} (i : InvC n.toNat P s) {v : Int} (h0 : 0 ≤ v) (h1 : v < n) : InvC n.toNat (P ++ [v]) (stepC n s v) := by
  obtain ⟨m, tw, un, seen⟩ := s
  obtain ⟨i1, i2, i3, i4⟩ := i
  simp only at i1 i2 i3 i4
  have hst : stepC n (m, tw, un, seen) v = ((if seen[v.toNat]?.getD false then m else m + 1), tw || seen[v.toNat]?.getD false, un, seen.set v.toNat true) := by
    unfold stepC; rw [if_neg (by omega)]
  have hlt : v.toNat < seen.length := by clear i3; omega
  have hv := i2 v.toNat (by clear i3; omega)
  have hvv : ((v.toNat : Nat) : Int) = v := by clear i3; omega
  rw [hvv] at hv
  rw [hst]
  refine ⟨by simpa using i1, fun k hk => ?_, ?_, ?_⟩
  · simp only [List.getElem?_set]
    by_cases hkv : v.toNat = k
    · subst hkv
      simp [hlt, hvv]
    · rw [if_neg hkv, i2 k hk]
      have : ¬ (k : Int) = v := by clear i3; omega
      simp [this]
  · simp only [Bool.or_eq_true, i3, hv, decide_eq_true_eq]
    clear i3 i4
    constructor
    · rintro (⟨x, hx⟩ | hm)
      · exact ⟨x, by rw [List.count_append]; omega⟩
      · exact ⟨v, by rw [List.count_append]; have := List.count_pos_iff.2 hm; have e : [v].count v = 1 := (by simp); omega⟩
    · rintro ⟨x, hx⟩
      rw [List.count_append] at hx
      by_cases hxv : v = x
      · subst hxv
        have e : [v].count v = 1 := by simp
        rw [e] at hx
        exact .inr (List.count_pos_iff.1 (by omega))
      · rw [List.count_cons_of_ne hxv] at hx
        exact .inl ⟨x, by simpa using hx⟩
  · simp only
    rw [count_set seen v.toNat hlt, i4]
    split <;> simp
theorem inv_all {n : Int} : ∀ (L P : List Int) (s : CSt), InvC n.toNat P s → (∀ v ∈ L, 0 ≤ v ∧ v < n) → InvC n.toNat (P ++ L) (L.foldl (stepC n) s)
  | [], P, s, h, _ => by simpa using h
  | v :: L, P, s, h, hv => by
    obtain ⟨h0, h1⟩ := hv v (by simp)
    have := inv_all L (P ++ [v]) (stepC n s v) (h.step h0 h1) fun w hw => hv w (by simp [hw])
    simpa using this
theorem inv_0 (N : Nat) : InvC N [] (0, false, false, List.replicate N false) := by
  refine ⟨by simp, fun k hk => by simp [hk], by simp, ?_⟩
  simp [List.count_replicate]
theorem count_true_lt : ∀ (l : List Bool), l.count true ≤ l.length ∧ (l.count true < l.length ↔ ∃ k, k < l.length ∧ l[k]?.getD false = false)
  | [] => by simp
  | b :: l => by
    obtain ⟨h1, h2⟩ := count_true_lt l
    cases b with
    | false =>
      refine ⟨by simp; omega, ?_⟩
      simp only [List.count_cons_of_ne (show (false : Bool) ≠ true by decide), List.length_cons]
      exact ⟨fun _ => ⟨0, by omega, rfl⟩, fun _ => by omega⟩
    | true =>
      refine ⟨by simp; omega, ?_⟩
      simp only [List.count_cons_self, List.length_cons, Nat.add_lt_add_iff_right, h2]
      constructor
      · rintro ⟨k, a, b⟩; exact ⟨k + 1, by omega, by simpa using b⟩
      · rintro ⟨k, a, b⟩
        cases k with
        | zero => simp at b
        | succ k => exact ⟨k, by omega, by simpa using b⟩
/-- Some number of a stretch. -/
def anyN (p : Int → Bool) : Nat → Int → Bool
  | 0, _ => false
  | k + 1, i => p i || anyN p k (i + 1)
theorem anyN_iff (p : Int → Bool) : ∀ (k : Nat) (i : Int), anyN p k i = true ↔ ∃ x, i ≤ x ∧ x < i + k ∧ p x = true
  | 0, i => by simp [anyN]; intro x h1 h2; omega
  | k + 1, i => by
    simp only [anyN, Bool.or_eq_true, anyN_iff p k]
    constructor
    · rintro (h | ⟨x, h1, h2, h3⟩)
      · exact ⟨i, by omega, by omega, h⟩
      · exact ⟨x, by omega, by omega, h3⟩
    · rintro ⟨x, h1, h2, h3⟩
      by_cases hx : x = i
      · subst hx; exact .inl h3
      · exact .inr ⟨x, by omega, by omega, h3⟩
/-- What an evening's check answers. -/
def chk (n : Int) (sizes : List Int) (ev : List (List Int)) : Int :=
  if (decide ((sizes.length : Int) > 0) && ((sizes.length : Int) != (ev.length : Int))) = true then 2 else
  if sbad sizes ev 0 then 2 else
  if ev.flatten.any (badV n) then 6 else
  if anyN (fun x => decide ((ev.flatten.count x : Int) > 1)) n.toNat 0 then 5 else
  if anyN (fun x => ((ev.flatten.count x : Int) == 0)) n.toNat 0 then 2 else 0
theorem evening_check_eq (n : Int) (hn0 : 0 ≤ n) (hn : n ≤ 64) (sizes : List Int) (ev : List (List Int)) (hl : ev.length ≤ 50000) (hf : ev.flatten.length ≤ 50000) : evening_check n sizes ev = some (chk n sizes ev) := by
  unfold evening_check chk
  by_cases hs : (decide ((sizes.length : Int) > 0) && ((sizes.length : Int) != (ev.length : Int))) = true
  · rw [if_pos hs]
    simp only [Bool.and_eq_true, decide_eq_true_eq] at hs
    rw [if_pos (by simpa using hs.1)]
    simp only [Option.bind_some, hs.2, if_true]
  · rw [if_neg hs]
    have hsz : (sizes.length : Int) > 0 → sizes.length = ev.length := fun h => by
      simp only [Bool.and_eq_true, decide_eq_true_eq, not_and, Bool.not_eq_true, bne_eq_false_iff_eq] at hs
      have := hs h; omega
    have e1 : (if (decide ((sizes.length : Int) > 0)) = true then some ((sizes.length : Int) != (ev.length : Int)) else some false) = some false := by
      by_cases h : (sizes.length : Int) > 0
      · have := hsz h; simp [this]
      · have h' : ¬ 0 < sizes.length := by omega
        simp [h']
    rw [e1]
    simp only [Option.bind_some, Bool.false_eq_true, if_false]
    have hmk : mkOk 1 n = true := by
      simp only [mkOk, Bool.and_eq_true, decide_eq_true_eq]; omega
    rw [if_pos hmk]
    have h1 := check_1 n sizes ev hn0 hl hsz ev [] (0, false, false, List.replicate n.toNat false) 100000 rfl (by omega) (by simp) (by simp) (by simp only; omega)
    rw [show ((([] : List (List Int)).length : Nat) : Int) = 0 from rfl] at h1
    simp only at h1
    rw [h1]
    simp only [Option.bind_some]
    cases hb : sbad sizes ev 0 with
    | true => simp
    | false =>
      simp only [Bool.false_eq_true, if_false]
      rw [un_eq]
      simp only [Bool.false_or]
      cases hu : ev.flatten.any (badV n) with
      | true => simp
      | false =>
        simp only [Bool.false_eq_true, if_false]
        have hval : ∀ v ∈ ev.flatten, 0 ≤ v ∧ v < n := fun v hv => by
          have := List.any_eq_false.1 hu v hv
          simp only [badV, decide_eq_true_eq] at this
          omega
        obtain ⟨j1, j2, j3, j4⟩ := inv_all ev.flatten [] _ (inv_0 n.toNat) hval
        rw [List.nil_append] at j2 j3
        generalize ev.flatten.foldl (stepC n) (0, false, false, List.replicate n.toNat false) = q at *
        have t1 : q.2.1 = anyN (fun x => decide ((ev.flatten.count x : Int) > 1)) n.toNat 0 := by
          rw [Bool.eq_iff_iff, j3, anyN_iff]
          constructor
          · rintro ⟨x, hx⟩
            have := hval x (List.count_pos_iff.1 (by omega))
            exact ⟨x, by omega, by omega, by simp; omega⟩
          · rintro ⟨x, _, _, hx⟩
            simp at hx
            exact ⟨x, by omega⟩
        have t2 : decide (q.1 < n) = anyN (fun x => ((ev.flatten.count x : Int) == 0)) n.toNat 0 := by
          rw [Bool.eq_iff_iff, anyN_iff, decide_eq_true_eq, j4]
          have hc := count_true_lt q.2.2.2
          rw [j1] at hc
          constructor
          · intro h
            obtain ⟨k, k1, k2⟩ := hc.2.1 (by omega)
            rw [j2 k k1] at k2
            have hm : ¬ (k : Int) ∈ ev.flatten := by simpa using k2
            exact ⟨k, by omega, by omega, by rw [List.count_eq_zero.2 hm]; rfl⟩
          · rintro ⟨x, h1, h2, h3⟩
            have h3 : ev.flatten.count x = 0 := by simpa using h3
            have hm := List.count_eq_zero.1 h3
            have := hc.2.2 ⟨x.toNat, by omega, by rw [j2 _ (by omega), show ((x.toNat : Nat) : Int) = x by omega]; simpa using hm⟩
            omega
        rw [t1, t2]
        cases anyN (fun x => decide ((ev.flatten.count x : Int) > 1)) n.toNat 0 <;> cases anyN (fun x => ((ev.flatten.count x : Int) == 0)) n.toNat 0 <;> simp
theorem shape_r (sizes : List Int) (t : List Int) (i : Nat) (hs : (sizes.length : Int) > 0 → i < sizes.length) : (if ((t.length : Int) == 0) = true then some true else if (decide ((sizes.length : Int) > 0)) = true then (idx sizes i).bind fun v7 => some (v7 != (t.length : Int)) else some false) = some (((t.length : Int) == 0) || (decide ((sizes.length : Int) > 0) && (match idx sizes i with | some v => ((t.length : Int) != v) | none => false))) := by
  cases h1 : ((t.length : Int) == 0) with
  | true => simp
  | false =>
    by_cases h2 : (sizes.length : Int) > 0
    · have := hs h2
      rw [idx_lt this]
      have h3 : 0 < sizes.length := by omega
      simp [h3, bne_comm]
    · have h3 : ¬ 0 < sizes.length := by omega
      simp [h3]
theorem or_if {c : Int} (X Y : Bool) : (if X = true then some (Sum.inr c) else some (if Y = true then Sum.inr c else Sum.inl ())) = some (if (X || Y) = true then Sum.inr c else Sum.inl ()) := by
  cases X <;> simp
theorem rCheck_1 (n : Int) (sizes : List Int) (ev : List (List Int)) (hl : ev.length ≤ 50000) (hsz : (sizes.length : Int) > 0 → sizes.length = ev.length) : ∀ (r pre : List (List Int)) (f : Nat), ev = pre ++ r → r.length < f → ref09_CheckEvening_1 n sizes ev f pre.length = some (if sbad sizes r pre.length then .inr 2 else .inl ())
  | [], pre, f + 1, h, _ => by
    subst h
    unfold ref09_CheckEvening_1
    rw [nlt_len]
    rfl
  | t :: r, pre, f + 1, h, hf => by
    have ih := rCheck_1 n sizes ev hl hsz r (pre ++ [t]) f (by rw [h]; simp) (by simp at hf; omega)
    subst h
    unfold ref09_CheckEvening_1
    rw [if_pos (lt_len pre t r), idx_app]
    simp only [Option.bind_some]
    rw [wr_snoc pre t r (by omega), ih, ← snoc_len, shape_r sizes t pre.length (fun h => by rw [hsz h]; simp)]
    simp only [Option.bind_some, sbad]
    exact or_if _ _
theorem rCheck_3 (n : Int) (ev : List (List Int)) (c : Int) (t : List Int) (ht : idx ev c = some t) (hl : t.length ≤ 50000) : ∀ (r pre : List Int) (f : Nat), t = pre ++ r → r.length < f → ref09_CheckEvening_3 n ev c f pre.length = some (if r.any (badV n) then .inr 6 else .inl ())
  | [], pre, f + 1, h, _ => by
    unfold ref09_CheckEvening_3
    rw [ht]
    subst h
    simp only [Option.bind_some]
    rw [nlt_len]
    rfl
  | v :: r, pre, f + 1, h, hf => by
    have ih := rCheck_3 n ev c t ht hl r (pre ++ [v]) f (by rw [h]; simp) (by simp at hf; omega)
    unfold ref09_CheckEvening_3
    rw [ht]
    subst h
    simp only [Option.bind_some]
    rw [if_pos (lt_len pre v r), idx_app]
    simp only [Option.bind_some]
    rw [wr_snoc pre v r (by omega), ih]
    simp only [List.any_cons, badV]
    by_cases h1 : v < 0
    · simp [h1]
    · by_cases h2 : v ≥ n
      · simp [h1, h2]
      · simp [h1, h2]
theorem rCheck_2 (n : Int) (ev : List (List Int)) (hl : ev.length ≤ 50000) (hm : ∀ t ∈ ev, t.length ≤ 50000) : ∀ (r pre : List (List Int)) (f : Nat), ev = pre ++ r → r.length < f → ref09_CheckEvening_2 n ev f pre.length = some (if r.flatten.any (badV n) then .inr 6 else .inl ())
  | [], pre, f + 1, h, _ => by
    subst h
    unfold ref09_CheckEvening_2
    rw [nlt_len]
    rfl
  | t :: r, pre, f + 1, h, hf => by
    have ih := rCheck_2 n ev hl hm r (pre ++ [t]) f (by rw [h]; simp) (by simp at hf; omega)
    have ht := hm t (by rw [h]; simp)
    subst h
    unfold ref09_CheckEvening_2
    rw [if_pos (lt_len pre t r)]
    have h3 := rCheck_3 n (pre ++ t :: r) pre.length t (idx_app pre t r) ht t [] 100000 rfl (by omega)
    rw [show ((([] : List Int).length : Nat) : Int) = 0 from rfl] at h3
    rw [h3]
    simp only [Option.bind_some, List.flatten_cons, List.any_append]
    cases t.any (badV n) with
    | true => simp
    | false =>
      simp only [Bool.false_eq_true, if_false, Bool.false_or]
      rw [wr_snoc pre t r (by omega), ih]
theorem rCheck_45 (n : Int) (hn : n ≤ 64) (ev : List (List Int)) (hl : ev.length ≤ 50000) (hf : ev.flatten.length ≤ 50000) :
    (∀ (k : Nat) (i : Int) (f : Nat), (k : Int) = n - i → 0 ≤ i → k < f → ref09_CheckEvening_4 n ev f i = some (if anyN (fun x => decide ((ev.flatten.count x : Int) > 1)) k i then .inr 5 else .inl ())) ∧
    (∀ (k : Nat) (i : Int) (f : Nat), (k : Int) = n - i → 0 ≤ i → k < f → ref09_CheckEvening_5 n ev f i = some (if anyN (fun x => ((ev.flatten.count x : Int) == 0)) k i then .inr 2 else .inl ())) := by
  constructor
  · intro k
    induction k with
    | zero =>
      intro i f hk hi hf'
      obtain ⟨f, rfl⟩ : ∃ g, f = g + 1 := ⟨f - 1, by omega⟩
      unfold ref09_CheckEvening_4
      rw [if_neg (by simp; omega)]
      rfl
    | succ k ih =>
      intro i f hk hi hf'
      obtain ⟨f, rfl⟩ : ∃ g, f = g + 1 := ⟨f - 1, by omega⟩
      unfold ref09_CheckEvening_4
      rw [if_pos (by simp; omega), times_eq ev i hl hf]
      simp only [Option.bind_some, anyN]
      rw [wr_i (by omega) (by omega), ih (i + 1) f (by omega) (by omega) (by omega)]
      exact or_if _ _
  · intro k
    induction k with
    | zero =>
      intro i f hk hi hf'
      obtain ⟨f, rfl⟩ : ∃ g, f = g + 1 := ⟨f - 1, by omega⟩
      unfold ref09_CheckEvening_5
      rw [if_neg (by simp; omega)]
      rfl
    | succ k ih =>
      intro i f hk hi hf'
      obtain ⟨f, rfl⟩ : ∃ g, f = g + 1 := ⟨f - 1, by omega⟩
      unfold ref09_CheckEvening_5
      rw [if_pos (by simp; omega), times_eq ev i hl hf]
      simp only [Option.bind_some, anyN]
      rw [wr_i (by omega) (by omega), ih (i + 1) f (by omega) (by omega) (by omega)]
      exact or_if _ _
theorem ref09_CheckEvening_eq (n : Int) (hn0 : 0 ≤ n) (hn : n ≤ 64) (sizes : List Int) (ev : List (List Int)) (hl : ev.length ≤ 50000) (hf : ev.flatten.length ≤ 50000) : ref09_CheckEvening n sizes ev = some (chk n sizes ev) := by
  unfold ref09_CheckEvening chk
  by_cases hs : (decide ((sizes.length : Int) > 0) && ((sizes.length : Int) != (ev.length : Int))) = true
  · rw [if_pos hs]
    simp only [Bool.and_eq_true, decide_eq_true_eq] at hs
    rw [if_pos (by simpa using hs.1)]
    simp only [Option.bind_some, hs.2, if_true]
  · rw [if_neg hs]
    have hsz : (sizes.length : Int) > 0 → sizes.length = ev.length := fun h => by
      simp only [Bool.and_eq_true, decide_eq_true_eq, not_and, Bool.not_eq_true, bne_eq_false_iff_eq] at hs
      have := hs h; omega
    have e1 : (if (decide ((sizes.length : Int) > 0)) = true then some ((sizes.length : Int) != (ev.length : Int)) else some false) = some false := by
      by_cases h : (sizes.length : Int) > 0
      · have := hsz h; simp [this]
      · have h' : ¬ 0 < sizes.length := by omega
        simp [h']
    rw [e1]
    simp only [Option.bind_some, Bool.false_eq_true, if_false]
    have hm : ∀ t ∈ ev, t.length ≤ 50000 := fun t ht => by
      have := len_mem ht; omega
    have h1 := rCheck_1 n sizes ev hl hsz ev [] 100000 rfl (by omega)
    have h2 := rCheck_2 n ev hl hm ev [] 100000 rfl (by omega)
    rw [show ((([] : List (List Int)).length : Nat) : Int) = 0 from rfl] at h1 h2
    obtain ⟨h4, h5⟩ := rCheck_45 n hn ev hl hf
    have h4 := h4 n.toNat 0 100000 (by omega) (by omega) (by omega)
    have h5 := h5 n.toNat 0 100000 (by omega) (by omega) (by omega)
    rw [h1]
    simp only [Option.bind_some]
    cases sbad sizes ev 0 with
    | true => simp
    | false =>
      simp only [Bool.false_eq_true, if_false]
      rw [h2]
      simp only [Option.bind_some]
      cases ev.flatten.any (badV n) with
      | true => simp
      | false =>
        simp only [Bool.false_eq_true, if_false]
        rw [h4]
        simp only [Option.bind_some]
        cases anyN (fun x => decide ((ev.flatten.count x : Int) > 1)) n.toNat 0 with
        | true => simp
        | false =>
          simp only [Bool.false_eq_true, if_false]
          rw [h5]
          simp only [Option.bind_some]
          cases anyN (fun x => ((ev.flatten.count x : Int) == 0)) n.toNat 0 <;> simp
end Go.Proofs.YthofgamegondnaaDoor

namespace Go.Proofs.YthofgamegondnaaDoor
open Go.RowKit
/-- The schedule's check, told by that of its evenings. -/
def chkS (n : Int) (sizes : List Int) : List (List (List Int)) → Int → Int × Int
  | [], _ => (0, 0)
  | ev :: r, i => if chk n sizes ev != 0 then (i, chk n sizes ev) else chkS n sizes r (i + 1)
def chkAll (n : Int) (sizes : List Int) (s : List (List (List Int))) : Int × Int :=
  if (decide (n < 1) || decide (n > 64) || (decide ((sizes.length : Int) > 0) && !fitP n sizes)) = true then (0, 90) else if s.length > 64 then (0, 7) else chkS n sizes s 0
theorem check_loop (n : Int) (hn0 : 0 ≤ n) (hn : n ≤ 64) (sizes : List Int) (s : List (List (List Int))) (hs : s.length ≤ 50000) (hl : ∀ ev ∈ s, ev.length ≤ 50000 ∧ ev.flatten.length ≤ 50000) : ∀ (r pre : List (List (List Int))) (f : Nat), s = pre ++ r → r.length < f →
    (∃ q, evening_Check_1 n sizes s f pre.length = some q ∧ ref09_Check_1 n sizes s f pre.length = some q ∧ (match q with | .inl _ => chkS n sizes r pre.length = (0, 0) | .inr w => chkS n sizes r pre.length = w))
  | [], pre, f + 1, h, _ => by
    subst h
    refine ⟨.inl (), ?_, ?_, rfl⟩
    · unfold evening_Check_1; rw [nlt_len]; rfl
    · unfold ref09_Check_1; rw [nlt_len]; rfl
  | ev :: r, pre, f + 1, h, hf => by
    obtain ⟨h1, h2⟩ := hl ev (by rw [h]; simp)
    obtain ⟨q, a1, a2, a3⟩ := check_loop n hn0 hn sizes s hs hl r (pre ++ [ev]) f (by rw [h]; simp) (by simp at hf; omega)
    have e1 := evening_check_eq n hn0 hn sizes ev h1 h2
    have e2 := ref09_CheckEvening_eq n hn0 hn sizes ev h1 h2
    rw [← snoc_len] at a3
    cases hc : (chk n sizes ev != 0) with
    | true =>
      refine ⟨.inr ((pre.length : Int), chk n sizes ev), ?_, ?_, by simp [chkS, hc]⟩
      · subst h
        unfold evening_Check_1
        rw [if_pos (lt_len pre ev r), idx_app]
        simp only [Option.bind_some]
        rw [e1]
        simp only [Option.bind_some, hc, if_true]
      · subst h
        unfold ref09_Check_1
        rw [if_pos (lt_len pre ev r), idx_app]
        simp only [Option.bind_some]
        rw [e2]
        simp only [Option.bind_some, hc, if_true]
    | false =>
      refine ⟨q, ?_, ?_, ?_⟩
      · subst h
        unfold evening_Check_1
        rw [if_pos (lt_len pre ev r), idx_app]
        simp only [Option.bind_some]
        rw [e1]
        simp only [Option.bind_some, hc, Bool.false_eq_true, if_false]
        rw [wr_snoc pre ev r (by omega)]
        exact a1
      · subst h
        unfold ref09_Check_1
        rw [if_pos (lt_len pre ev r), idx_app]
        simp only [Option.bind_some]
        rw [e2]
        simp only [Option.bind_some, hc, Bool.false_eq_true, if_false]
        rw [wr_snoc pre ev r (by omega)]
        exact a2
      · simp only [chkS, hc, Bool.false_eq_true, if_false]
        exact a3
theorem check_both (n : Int) (hn : in64 n) (sizes : List Int) (hsz : sizes.length ≤ 1000) (s : List (List (List Int))) (hs : s.length ≤ 50000) (hl : ∀ ev ∈ s, ev.length ≤ 50000 ∧ ev.flatten.length ≤ 50000) : evening_Check n sizes s = some (chkAll n sizes s) ∧ ref09_Check n sizes s = some (chkAll n sizes s) := by
  have hg : evening_guests n = some (decide (1 ≤ n) && decide (n ≤ 64)) := by
    unfold evening_guests
    by_cases h : 1 ≤ n
    · simp [h]
    · simp [h]
  unfold evening_Check ref09_Check chkAll
  rw [hg, evening_fit_eq n hn sizes hsz, ref09_Fit_eq n sizes hsz]
  simp only [Option.bind_some]
  by_cases h1 : n < 1
  · have h1' : ¬ 1 ≤ n := by omega
    simp [h1, h1']
  · by_cases h2 : n > 64
    · have h2' : ¬ n ≤ 64 := by omega
      simp [h1, h2, h2']
    · have h1' : 1 ≤ n := by omega
      have h2' : n ≤ 64 := by omega
      simp only [h1, h2, h1', h2', decide_true, decide_false, Bool.and_self, Bool.not_true, Bool.false_eq_true, if_false, Bool.false_or]
      by_cases h3 : (sizes.length : Int) > 0
      · cases hf : fitP n sizes with
        | false =>
          have h3' : 0 < sizes.length := by omega
          simp [h3']
        | true =>
          simp only [h3, decide_true, if_true, Bool.not_true, Option.bind_some, Bool.and_false, Bool.false_eq_true, if_false]
          by_cases h4 : s.length > 64
          · have h4' : decide ((s.length : Int) > 64) = true := by simp; omega
            simp only [h4', h4, if_true, and_self]
          · have h4' : decide ((s.length : Int) > 64) = false := by simp; omega
            simp only [h4', h4, if_false, Bool.false_eq_true]
            obtain ⟨q, a1, a2, a3⟩ := check_loop n (by omega) h2' sizes s hs hl s [] 100000 rfl (by omega)
            rw [show ((([] : List (List (List Int))).length : Nat) : Int) = 0 from rfl] at a1 a2 a3
            rw [a1, a2]
            cases q with
            | inl w => simp only at a3; simp [a3]
            | inr w => simp only at a3; simp [a3]
      · simp only [h3, decide_false, Bool.false_eq_true, if_false, Option.bind_some, Bool.false_and]
        by_cases h4 : s.length > 64
        · have h4' : decide ((s.length : Int) > 64) = true := by simp; omega
          simp only [h4', h4, if_true, and_self]
        · have h4' : decide ((s.length : Int) > 64) = false := by simp; omega
          simp only [h4', h4, if_false, Bool.false_eq_true]
          obtain ⟨q, a1, a2, a3⟩ := check_loop n (by omega) h2' sizes s hs hl s [] 100000 rfl (by omega)
          rw [show ((([] : List (List (List Int))).length : Nat) : Int) = 0 from rfl] at a1 a2 a3
          rw [a1, a2]
          cases q with
          | inl w => simp only at a3; simp [a3]
          | inr w => simp only at a3; simp [a3]
end Go.Proofs.YthofgamegondnaaDoor

namespace Go.Proofs.YthofgamegondnaaDoor
open Go.RowKit
def toI1 (t : List Nat) : List Int := t.map Int.ofNat
def toI2 (ev : List (List Nat)) : List (List Int) := ev.map toI1
def toI3 (s : List (List (List Nat))) : List (List (List Int)) := s.map toI2
theorem toI1_len (t : List Nat) : (toI1 t).length = t.length := by simp [toI1]
theorem toI2_len (t : List (List Nat)) : (toI2 t).length = t.length := by simp [toI2]
theorem toI3_len (t : List (List (List Nat))) : (toI3 t).length = t.length := by simp [toI3]
theorem toI2_flat : ∀ (ev : List (List Nat)), (toI2 ev).flatten = toI1 ev.flatten
  | [] => rfl
  | t :: ev => by
    show toI1 t ++ (toI2 ev).flatten = toI1 (t ++ ev.flatten)
    rw [toI2_flat ev]; simp [toI1]
theorem toI1_count (L : List Nat) (x : Nat) : (toI1 L).count (x : Int) = L.count x := by
  induction L with
  | nil => rfl
  | cons v L ih =>
    show (Int.ofNat v :: toI1 L).count (x : Int) = _
    rw [List.count_cons, List.count_cons, ih]
    congr 1
    by_cases h : v = x
    · subst h; simp
    · have : ¬ (Int.ofNat v) = (x : Int) := fun e => h (Int.ofNat.inj e)
      simp [h]
      omega
def vSz : List (List Nat) → List Nat → Bool
  | [], [] => true
  | t :: ev, k :: sz => Nat.beq t.length k && !(Nat.beq k 0) && vSz ev sz
  | _, _ => false
def vEv (n : Nat) (sizes : List Nat) (ev : List (List Nat)) : Bool := vSz ev sizes && isM (bits ev.flatten 0) (2 ^ n - 1)
theorem vSz_iff : ∀ {ev : List (List Nat)} {sz : List Nat}, vSz ev sz = true → ev.map List.length = sz ∧ ∀ t ∈ ev, t.length ≠ 0
  | [], [], _ => ⟨rfl, fun t h => by cases h⟩
  | t :: ev, k :: sz, h => by
    simp only [vSz, Bool.and_eq_true, Bool.not_eq_true'] at h
    obtain ⟨⟨h1, h2⟩, h3⟩ := h
    obtain ⟨i1, i2⟩ := vSz_iff h3
    have e := Nat.eq_of_beq_eq_true h1
    refine ⟨by rw [List.map_cons, e, i1], fun u hu => ?_⟩
    rcases List.mem_cons.1 hu with rfl | hu
    · rw [e]; intro h0; rw [h0] at h2; cases h2
    · exact i2 u hu
  | [], _ :: _, h => by cases h
  | _ :: _, [], h => by cases h
theorem vEv_iff {n : Nat} {sizes : List Nat} {ev : List (List Nat)} (h : vEv n sizes ev = true) : ev.map List.length = sizes ∧ (∀ t ∈ ev, t.length ≠ 0) ∧ bits ev.flatten 0 = some (2 ^ n - 1) := by
  simp only [vEv, Bool.and_eq_true] at h
  exact ⟨(vSz_iff h.1).1, (vSz_iff h.1).2, isM_eq h.2⟩
theorem sbad_ok : ∀ (r : List (List Int)) (pre : List Int) (sz : List Int), (sz = [] ∨ sz = pre ++ r.map (fun t => (t.length : Int))) → (∀ t ∈ r, t.length ≠ 0) → sbad sz r pre.length = false
  | [], _, _, _, _ => rfl
  | t :: r, pre, sz, h, hne => by
    have h0 : ((t.length : Int) == 0) = false := by have := hne t (by simp); simp; intro h; subst h; simp at this
    have ih := sbad_ok r (pre ++ [(t.length : Int)]) sz (h.imp id fun h => by rw [h]; simp) (fun t ht => hne t (by simp [ht]))
    unfold sbad
    rw [h0, Bool.false_or]
    rw [← snoc_len] at ih
    rw [ih, Bool.or_false]
    rcases h with h | h
    · subst h; simp
    · rw [h, List.map_cons, idx_app]; simp
theorem mem_toI1 {L : List Nat} {v : Int} (h : v ∈ toI1 L) : ∃ j ∈ L, v = Int.ofNat j := by
  obtain ⟨j, h1, h2⟩ := List.mem_map.1 h
  exact ⟨j, h1, h2.symm⟩
theorem anyN_false (p : Int → Bool) (k : Nat) (h : ∀ x : Nat, x < k → p x = false) : anyN p k 0 = false := by
  cases e : anyN p k 0 with
  | false => rfl
  | true =>
    obtain ⟨x, h1, h2, h3⟩ := (anyN_iff p k 0).1 e
    have := h x.toNat (by omega)
    rw [show ((x.toNat : Nat) : Int) = x by omega, h3] at this
    cases this
theorem chk_ok (n : Nat) (sz : List Int) (ev : List (List Nat)) (hs : sz = [] ∨ sz = (toI2 ev).map (fun t => (t.length : Int))) (hne : ∀ t ∈ ev, t.length ≠ 0) (hb : bits ev.flatten 0 = some (2 ^ n - 1)) : chk n sz (toI2 ev) = 0 := by
  unfold chk
  have h1 : (decide ((sz.length : Int) > 0) && ((sz.length : Int) != ((toI2 ev).length : Int))) = false := by
    rcases hs with h | h
    · subst h; rfl
    · rw [h]; simp
  have h2 : sbad sz (toI2 ev) 0 = false := sbad_ok (toI2 ev) [] sz (by simpa using hs) (fun t ht => by
    obtain ⟨u, hu, rfl⟩ := List.mem_map.1 ht
    rw [toI1_len]; exact hne u hu)
  have h3 : (toI2 ev).flatten.any (badV n) = false := by
    rw [toI2_flat]
    refine List.any_eq_false.2 fun v hv => ?_
    obtain ⟨j, hj, rfl⟩ := mem_toI1 hv
    have := bits_lt hb hj
    simp only [badV, decide_eq_true_eq]
    simp
    omega
  have h4 : anyN (fun x => decide (((toI2 ev).flatten.count x : Int) > 1)) (n : Int).toNat 0 = false := anyN_false _ _ fun x hx => by
    rw [toI2_flat, toI1_count, bits_full hb]
    simp only [decide_eq_false_iff_not]
    split <;> simp
  have h5 : anyN (fun x => (((toI2 ev).flatten.count x : Int) == 0)) (n : Int).toNat 0 = false := anyN_false _ _ fun x hx => by
    rw [toI2_flat, toI1_count, bits_full hb, if_pos (by simpa using hx)]
    rfl
  rw [h1, h2, h3, h4, h5]
  rfl
theorem chkS_ok (n : Int) (sz : List Int) : ∀ (s : List (List (List Int))) (i : Int), (∀ ev ∈ s, chk n sz ev = 0) → chkS n sz s i = (0, 0)
  | [], _, _ => rfl
  | ev :: s, i, h => by
    unfold chkS
    rw [h ev (by simp)]
    exact chkS_ok n sz s (i + 1) fun e he => h e (by simp [he])
/-- A schedule whose evenings have these sizes, everybody once, is valid. -/
theorem chkAll_ok (n : Nat) (h1 : 1 ≤ n) (h2 : n ≤ 64) (sizes : List Nat) (sz : List Int) (hz : sz = [] ∨ (sz = toI1 sizes ∧ fitP n sz = true)) (s : List (List (List Nat))) (hs : s.length ≤ 64) (hv : (s.all (vEv n sizes)) = true) : chkAll n sz (toI3 s) = (0, 0) := by
  unfold chkAll
  have e1 : decide ((n : Int) < 1) = false := by simp; omega
  have e2 : decide ((n : Int) > 64) = false := by simp; omega
  have e3 : (decide ((sz.length : Int) > 0) && !fitP n sz) = false := by
    rcases hz with h | h
    · subst h; rfl
    · rw [h.2]; simp
  rw [e1, e2, e3]
  simp only [Bool.or_self, Bool.false_eq_true, if_false]
  rw [if_neg (by rw [toI3_len]; omega)]
  refine chkS_ok n sz (toI3 s) 0 fun ev he => ?_
  obtain ⟨u, hu, rfl⟩ := List.mem_map.1 he
  obtain ⟨v1, v2, v3⟩ := vEv_iff (List.all_eq_true.1 hv u hu)
  refine chk_ok n sz u (hz.imp id fun h => ?_) v2 v3
  rw [h.1, ← v1]
  simp [toI1, toI2]
end Go.Proofs.YthofgamegondnaaDoor

namespace Go.Proofs.YthofgamegondnaaDoor
open Go.RowKit
/-- The cells after some counts. -/
def cel (n : Nat) (L : List Nat) : List Int := incs (zeros (n * n)) L
theorem cel_len (n : Nat) (L : List Nat) : (cel n L).length = n * n := by rw [cel, incs_len]; simp [zeros]
theorem cel_wr {n x y : Nat} (hn : n ≤ 64) (hx : x < n) (hy : y < n) : wr .i64 (wr .i64 ((x : Int) * (n : Int)) + (y : Int)) = ((x * n + y : Nat) : Int) := by
  have h1 := cell_lt hx hy
  have h2 : n * n ≤ 64 * 64 := Nat.mul_le_mul hn hn
  have e : (x : Int) * (n : Int) = ((x * n : Nat) : Int) := by simp
  have q : wr .i64 ((x * n : Nat) : Int) = ((x * n : Nat) : Int) := wr_i (by omega) (by omega)
  rw [e, q, wr_i (by omega) (by omega)]
  simp
theorem cel_idx {n x y : Nat} (L : List Nat) (hx : x < n) (hy : y < n) : idx (cel n L) ((x * n + y : Nat) : Int) = some ((L.count (x * n + y) : Nat) : Int) := by
  have h1 := cell_lt hx hy
  have h2 : x * n + y < (cel n L).length := by rw [cel_len]; exact h1
  rw [idx_lt h2]
  have := cnt_get L (n * n) (x * n + y) h1
  rw [← this, List.getD_eq_getElem?_getD]
  show some _ = some ((cel n L)[x * n + y]?.getD 0)
  rw [List.getElem?_eq_getElem h2]
  rfl
theorem cel_set {n x y : Nat} (L : List Nat) (hL : L.length ≤ 10000000) (hx : x < n) (hy : y < n) : (cel n L).set (((x * n + y : Nat) : Int)).toNat (wr .i64 (((L.count (x * n + y) : Nat) : Int) + 1)) = cel n (L ++ [x * n + y]) := by
  have h1 := cell_lt hx hy
  have hc : L.count (x * n + y) ≤ L.length := List.count_le_length
  rw [wr_i (by omega) (by omega), Int.toNat_natCast]
  have h2 : cel n (L ++ [x * n + y]) = inc (cel n L) (x * n + y) := by rw [cel, incs_app]; rfl
  rw [h2, inc]
  have := cnt_get L (n * n) (x * n + y) h1
  rw [show (cel n L).getD (x * n + y) 0 = _ from this]
theorem toI1_app (a b : List Nat) : toI1 (a ++ b) = toI1 a ++ toI1 b := by simp [toI1]
theorem idx_toI1 (pre : List Nat) (x : Nat) (r : List Nat) : idx (toI1 (pre ++ x :: r)) (pre.length : Int) = some (x : Int) := by
  rw [toI1_app, ← toI1_len pre]
  exact idx_app _ _ _
theorem idx_toI2 (pre : List (List Nat)) (x : List Nat) (r : List (List Nat)) : idx (toI2 (pre ++ x :: r)) (pre.length : Int) = some (toI1 x) := by
  have : toI2 (pre ++ x :: r) = toI2 pre ++ toI1 x :: toI2 r := by simp [toI2]
  rw [this, ← toI2_len pre]
  exact idx_app _ _ _
theorem idx_toI3 (pre : List (List (List Nat))) (x : List (List Nat)) (r : List (List (List Nat))) : idx (toI3 (pre ++ x :: r)) (pre.length : Int) = some (toI2 x) := by
  have : toI3 (pre ++ x :: r) = toI3 pre ++ toI2 x :: toI3 r := by simp [toI3]
  rw [this, ← toI3_len pre]
  exact idx_app _ _ _
theorem wr_nat {k : Nat} (h : k ≤ 1000000000) : wr .i64 ((k : Int) + 1) = ((k + 1 : Nat) : Int) := by
  rw [wr_i (by omega) (by omega)]; simp
theorem beq_nat (x y : Nat) : ((x : Int) == (y : Int)) = Nat.beq x y := by
  rw [Bool.eq_iff_iff, Nat.beq_eq]
  simp
  omega
/-- Rows of a square. -/
def rowsC (n : Nat) (cs : List Int) : Nat → Nat → List (List Int)
  | 0, _ => []
  | k + 1, x => ((cs.take ((x + 1) * n)).drop (x * n)) :: rowsC n cs k (x + 1)
theorem rows_1 (n : Nat) (hn : n ≤ 64) (cs : List Int) (hcs : cs.length = n * n) : ∀ (k x f : Nat) (out : List (List Int)), x + k = n → k < f → out.length = x → evening_square_int_rows_1 ((n : Int), cs) f out x = some (out ++ rowsC n cs k x)
  | 0, x, f + 1, out, h, _, _ => by
    unfold evening_square_int_rows_1
    rw [if_neg (by simp; omega)]
    simp [rowsC]
  | k + 1, x, f + 1, out, h, hf, ho => by
    have h2 : n * n ≤ 64 * 64 := Nat.mul_le_mul hn hn
    have hle : (x + 1) * n ≤ n * n := Nat.mul_le_mul_right n (by omega)
    have hle2 : x * n ≤ (x + 1) * n := Nat.mul_le_mul_right n (by omega)
    have hcl : (x + 1) * n ≤ cs.length := by rw [hcs]; exact hle
    have hc4 : cs.length ≤ 50000 := by rw [hcs]; exact Nat.le_trans h2 (by decide)
    have hln : ((cs.take ((x + 1) * n)).drop (x * n)).length ≤ 50000 := Nat.le_trans (by rw [List.length_drop, List.length_take]; exact Nat.le_trans (Nat.sub_le _ _) (Nat.min_le_right _ _)) hc4
    have e1 : wr .i64 ((x : Int) * (n : Int)) = ((x * n : Nat) : Int) := by
      have e : (x : Int) * (n : Int) = ((x * n : Nat) : Int) := by simp
      rw [e, wr_i (by omega) (by omega)]
    have e2 : wr .i64 ((wr .i64 ((x : Int) + 1)) * (n : Int)) = (((x + 1) * n : Nat) : Int) := by
      have e : ((x + 1 : Nat) : Int) * (n : Int) = (((x + 1) * n : Nat) : Int) := by simp
      rw [wr_nat (by omega), e, wr_i (by omega) (by omega)]
    have ih := rows_1 n hn cs hcs k (x + 1) f (out ++ [(cs.take ((x + 1) * n)).drop (x * n)]) (by omega) (by omega) (by simp; omega)
    unfold evening_square_int_rows_1
    simp only
    rw [if_pos (by simp; omega), e1, e2]
    have hcut : cutOk ((x * n : Nat) : Int) (((x + 1) * n : Nat) : Int) cs.length = true := by
      simp only [cutOk, Bool.and_eq_true, decide_eq_true_eq]
      exact ⟨⟨Int.natCast_nonneg _, Int.ofNat_le.2 hle2⟩, Int.ofNat_le.2 hcl⟩
    rw [if_pos hcut, Int.toNat_natCast, Int.toNat_natCast, clone_self _ hln]
    simp only [Option.bind_some]
    rw [if_pos (capOk_le (by omega) (by omega)), wr_nat (by omega), ih]
    simp [rowsC]
theorem rows_eq (n : Nat) (hn : n ≤ 64) (cs : List Int) (hcs : cs.length = n * n) : evening_square_int_rows ((n : Int), cs) = some (rowsC n cs n 0) := by
  unfold evening_square_int_rows
  rw [show (0 : Int) = ((0 : Nat) : Int) from rfl, rows_1 n hn cs hcs n 0 100000 [] (by omega) (by omega) rfl]
  rfl
theorem rowsC_len (n : Nat) (cs : List Int) : ∀ (k x : Nat), (rowsC n cs k x).length = k
  | 0, _ => rfl
  | k + 1, x => by simp [rowsC, rowsC_len n cs k (x + 1)]
theorem rowsC_at (n : Nat) (cs : List Int) : ∀ (k x i : Nat), i < k → (rowsC n cs k x)[i]? = some ((cs.take ((x + i + 1) * n)).drop ((x + i) * n))
  | 0, _, i, h => by omega
  | k + 1, x, 0, _ => by simp [rowsC]
  | k + 1, x, i + 1, h => by
    have := rowsC_at n cs k (x + 1) i (by omega)
    simp only [rowsC, List.getElem?_cons_succ]
    rw [this, show x + 1 + i = x + (i + 1) by omega]
theorem row_at {n : Nat} {cs : List Int} (hcs : cs.length = n * n) {x y : Nat} (hx : x < n) (hy : y < n) : ((cs.take ((x + 1) * n)).drop (x * n)).length = n ∧ ((cs.take ((x + 1) * n)).drop (x * n))[y]? = some (cs.getD (x * n + y) 0) := by
  have hle : (x + 1) * n ≤ n * n := Nat.mul_le_mul_right n (by omega)
  have e : (x + 1) * n = x * n + n := Nat.succ_mul x n
  have hc := cell_lt hx hy
  refine ⟨by simp; omega, ?_⟩
  rw [List.getElem?_drop, List.getElem?_take, if_pos (by omega), List.getD_eq_getElem?_getD, List.getElem?_eq_getElem (by omega)]
  rfl
theorem mkOk_nn {n : Nat} (hn : n ≤ 64) : mkOk 8 (wr .i64 ((n : Int) * (n : Int))) = true ∧ List.replicate (wr .i64 ((n : Int) * (n : Int))).toNat (0 : Int) = cel n [] := by
  have h2 : n * n ≤ 64 * 64 := Nat.mul_le_mul hn hn
  have e : (n : Int) * (n : Int) = ((n * n : Nat) : Int) := by simp
  rw [e, wr_i (by omega) (by omega)]
  refine ⟨?_, by rw [Int.toNat_natCast]; rfl⟩
  simp only [mkOk, Bool.and_eq_true, decide_eq_true_eq]
  omega
/-- Small enough for all loops. -/
structure Sml (n : Nat) (s : List (List (List Nat))) : Prop where
  n64 : n ≤ 64
  mem : ∀ ev ∈ s, ∀ t ∈ ev, ∀ x ∈ t, x < n
  ev : ∀ ev ∈ s, ev.flatten.length ≤ 90000 ∧ ev.length ≤ 90000
  len : s.length ≤ 90000
  all : s.flatten.flatten.length ≤ 90000
/-- How many pairs are counted at most. -/
def sqs : List (List Nat) → Nat
  | [] => 0
  | t :: ev => t.length * t.length + sqs ev
def sqS : List (List (List Nat)) → Nat
  | [] => 0
  | ev :: s => sqs ev + sqS s
/-- Small enough for meetings. -/
structure SmM (n : Nat) (s : List (List (List Nat))) : Prop where
  n64 : n ≤ 64
  mem : ∀ ev ∈ s, ∀ t ∈ ev, ∀ x ∈ t, x < n
  ev : ∀ ev ∈ s, (∀ t ∈ ev, t.length ≤ 2000) ∧ ev.length ≤ 90000
  len : s.length ≤ 90000
  all : sqS s ≤ 9000000
theorem sqs_le : ∀ ev : List (List Nat), (∀ t ∈ ev, t.length ≤ 64) → sqs ev ≤ 64 * ev.flatten.length
  | [], _ => by simp [sqs]
  | t :: ev, h => by
    have a := sqs_le ev fun u hu => h u (by simp [hu])
    have c : t.length * t.length ≤ 64 * t.length := Nat.mul_le_mul_right _ (h t (by simp))
    simp only [sqs, List.flatten_cons, List.length_append, Nat.mul_add]; omega
theorem sqS_le : ∀ s : List (List (List Nat)), (∀ ev ∈ s, sqs ev ≤ 4096) → sqS s ≤ s.length * 4096
  | [], _ => by simp [sqS]
  | ev :: s, h => by
    have a := sqS_le s fun u hu => h u (by simp [hu])
    have b := h ev (by simp)
    simp only [sqS, List.length_cons, Nat.succ_mul]; omega
theorem flats_le : ∀ s : List (List (List Nat)), (∀ ev ∈ s, ev.flatten.length ≤ 64) → s.flatten.flatten.length ≤ s.length * 64
  | [], _ => by simp
  | ev :: s, h => by
    have a := flats_le s fun u hu => h u (by simp [hu])
    have b := h ev (by simp)
    rw [List.flatten_cons, List.flatten_append, List.length_append, List.length_cons, Nat.succ_mul]; omega
theorem len_flat {ev : List (List Nat)} (h : ∀ t ∈ ev, t.length ≠ 0) : ev.length ≤ ev.flatten.length := by
  induction ev with
  | nil => simp
  | cons t ev ih =>
    have := ih fun u hu => h u (by simp [hu])
    have := h t (by simp)
    simp only [List.flatten_cons, List.length_append, List.length_cons]; omega
theorem sch_small {n : Nat} {sz : List Nat} {s : List (List (List Nat))} (hn : n ≤ 64) (hs : s.length ≤ 64) (hv : s.all (vEv n sz) = true) (hsum : sz.sum ≤ 64) : Sml n s ∧ SmM n s := by
  have h1 : ∀ ev ∈ s, (∀ t ∈ ev, ∀ x ∈ t, x < n) ∧ ev.flatten.length ≤ 64 ∧ ev.length ≤ 64 := fun ev he => by
    obtain ⟨a, b, c⟩ := vEv_iff (List.all_eq_true.1 hv ev he)
    have e : ev.flatten.length ≤ 64 := by rw [List.length_flatten, a]; exact hsum
    have := len_flat b
    exact ⟨fun t ht x hx => bits_lt c (List.mem_flatten.2 ⟨t, ht, hx⟩), e, by omega⟩
  have h2 : ∀ ev ∈ s, ∀ t ∈ ev, t.length ≤ 64 := fun ev he t ht => by
    have := len_mem ht
    have := (h1 ev he).2.1
    omega
  have h3 : ∀ ev ∈ s, sqs ev ≤ 4096 := fun ev he => by
    have := sqs_le ev (h2 ev he)
    have := (h1 ev he).2.1
    omega
  have h4 := sqS_le s h3
  have h5 := flats_le s fun ev he => (h1 ev he).2.1
  exact ⟨⟨hn, fun ev he => (h1 ev he).1, fun ev he => ⟨by have := (h1 ev he).2.1; omega, by have := (h1 ev he).2.2; omega⟩, by omega, by omega⟩, ⟨hn, fun ev he => (h1 ev he).1, fun ev he => ⟨fun t ht => by have := h2 ev he t ht; omega, by have := (h1 ev he).2.2; omega⟩, by omega, by omega⟩⟩
/-- Schedules by bits: what Check answers, with the sizes and without. -/
theorem sch_check {n : Nat} {sz : List Nat} {s : List (List (List Nat))} (h1 : 1 ≤ n) (hn : n ≤ 64) (hs : s.length ≤ 64) (hv : s.all (vEv n sz) = true) (hsum : sz.sum ≤ 64) (hf : fitP n (toI1 sz) = true) (hzl : sz.length ≤ 64) : evening_Check n (toI1 sz) (toI3 s) = some (0, 0) ∧ evening_valid n (toI3 s) = some true := by
  obtain ⟨sm, _⟩ := sch_small hn hs hv hsum
  have hl : ∀ ev ∈ toI3 s, ev.length ≤ 50000 ∧ ev.flatten.length ≤ 50000 := fun ev he => by
    obtain ⟨u, hu, rfl⟩ := List.mem_map.1 he
    obtain ⟨a, b, c⟩ := vEv_iff (List.all_eq_true.1 hv u hu)
    have e : u.flatten.length ≤ 64 := by rw [List.length_flatten, a]; exact hsum
    have := len_flat b
    rw [toI2_len, toI2_flat, toI1_len]
    omega
  have c1 := (check_both n ⟨by omega, by omega⟩ (toI1 sz) (by rw [toI1_len]; omega) (toI3 s) (by rw [toI3_len]; omega) hl).1
  have c2 := (check_both n ⟨by omega, by omega⟩ [] (by simp) (toI3 s) (by rw [toI3_len]; omega) hl).1
  rw [chkAll_ok n h1 hn sz (toI1 sz) (.inr ⟨rfl, hf⟩) s hs hv] at c1
  rw [chkAll_ok n h1 hn sz [] (.inl rfl) s hs hv] at c2
  refine ⟨c1, ?_⟩
  unfold evening_valid
  rw [c2]
  rfl
end Go.Proofs.YthofgamegondnaaDoor

namespace Go.Proofs.YthofgamegondnaaDoor
open Go.RowKit
/-- Where guests beside each other are counted. -/
def bp (n x y : Nat) : List Nat := bif Nat.beq x y then [] else [Nat.add (Nat.mul x n) y, Nat.add (Nat.mul y n) x]
def besL (n f : Nat) : List Nat → List Nat
  | [] => []
  | x :: r => bp n x (r.headD f) ++ besL n f r
def besT (n : Nat) : List Nat → List Nat
  | [] => []
  | [x, y] => bp n x y
  | f :: r => besL n f (f :: r)
def besE (n : Nat) : List (List Nat) → List Nat
  | [] => []
  | t :: ev => besT n t ++ besE n ev
def besS (n : Nat) : List (List (List Nat)) → List Nat
  | [] => []
  | ev :: s => besE n ev ++ besS n s
/-- The pairs beside each other, as the loop finds them. -/
def besG (n f0 : Nat) (two : Bool) : Nat → List Nat → List Nat
  | _, [] => []
  | i, x :: r => (if (two && i == 1) = true then [] else bp n x (r.headD f0)) ++ besG n f0 two (i + 1) r
theorem besG_len (n f0 : Nat) (two : Bool) : ∀ (r : List Nat) (i : Nat), (besG n f0 two i r).length ≤ 2 * r.length
  | [], _ => by simp [besG]
  | x :: r, i => by
    have := besG_len n f0 two r (i + 1)
    have h2 : (bp n x (r.headD f0)).length ≤ 2 := by unfold bp; cases Nat.beq x (r.headD f0) <;> simp
    simp only [besG, List.length_append, List.length_cons]
    split
    · simp only [List.length_nil]; omega
    · omega
theorem besG_L (n f0 : Nat) : ∀ (r : List Nat) (i : Nat), besG n f0 false i r = besL n f0 r
  | [], _ => rfl
  | x :: r, i => by
    simp only [besG, besL, Bool.false_and, Bool.false_eq_true, if_false]
    rw [besG_L n f0 r (i + 1)]
theorem besG_T (n : Nat) : ∀ (t : List Nat), besG n (t.headD 0) (t.length == 2) 0 t = besT n t
  | [] => rfl
  | [x] => by simp [besG, besT, besL]
  | [x, y] => by simp [besG, besT]
  | x :: y :: z :: r => by
    have : ((x :: y :: z :: r).length == 2) = false := by simp
    rw [this, besG_L]; rfl
theorem besT_len (n : Nat) (t : List Nat) : (besT n t).length ≤ 2 * t.length := by
  rw [← besG_T]; exact besG_len _ _ _ _ _
theorem bes_k2 {n x y : Nat} (L : List Nat) (hn : n ≤ 64) (hx : x < n) (hy : y < n) : evening_Beside_k2 n (cel n L) n x y = some (n : Int) := by
  unfold evening_Beside_k2
  rw [cel_wr hn hx hy, cel_idx L hx hy]
  rfl
theorem next_idx (pre : List Nat) (x : Nat) (r : List Nat) (hl : (pre ++ x :: r).length ≤ 1000000) : idx (toI1 (pre ++ x :: r)) ((wr .i64 ((pre.length : Int) + 1)).tmod ((toI1 (pre ++ x :: r)).length : Int)) = some ((r.headD ((pre ++ x :: r).headD 0) : Nat) : Int) := by
  rw [toI1_len]
  simp only [List.length_append, List.length_cons] at hl ⊢
  rw [wr_nat (by omega), Int.tmod_eq_emod_of_nonneg (by omega)]
  cases r with
  | nil =>
    have e : (((pre.length + 1 : Nat) : Int)) % ((pre.length + (([] : List Nat).length + 1) : Nat) : Int) = ((0 : Nat) : Int) := by simp
    rw [e]
    cases pre with
    | nil => rfl
    | cons a pre => exact idx_toI1 [] a (pre ++ [x])
  | cons y r =>
    have e : (((pre.length + 1 : Nat) : Int)) % ((pre.length + ((y :: r).length + 1) : Nat) : Int) = ((pre ++ [x]).length : Int) := by
      rw [Int.emod_eq_of_lt (by omega) (by simp; omega)]; simp
    rw [e, show pre ++ x :: y :: r = (pre ++ [x]) ++ y :: r by simp]
    exact idx_toI1 (pre ++ [x]) y r
theorem bes_3 (x1 : List (List (List Int))) (c6 : Int) (v8 : List (List Int)) (c11 : Int) (n : Nat) (hn : n ≤ 64) (t : List Nat) (ht : ∀ x ∈ t, x < n) (htl : t.length ≤ 90000) : ∀ (r pre : List Nat) (f : Nat) (L : List Nat), t = pre ++ r → r.length < f → L.length + 2 * r.length ≤ 9000000 →
    evening_Beside_3 x1 c6 v8 c11 (toI1 t) f n (cel n L) pre.length = some ((n : Int), cel n (L ++ besG n (t.headD 0) (t.length == 2) pre.length r))
  | [], pre, f + 1, L, h, _, _ => by
    unfold evening_Beside_3
    rw [if_neg (by rw [toI1_len, h]; simp)]
    simp [besG]
  | x :: r, pre, f + 1, L, h, hf, hL => by
    have hx : x < n := ht x (by rw [h]; simp)
    have hy : r.headD (t.headD 0) < n := by
      cases r with
      | nil =>
        have : t ≠ [] := by rw [h]; simp
        cases t with
        | nil => exact absurd rfl this
        | cons a t => exact ht a (by simp)
      | cons y r => exact ht y (by rw [h]; simp)
    simp only [List.length_cons] at hf hL
    have hlen : ((toI1 t).length : Int) = (t.length : Int) := by rw [toI1_len]
    have hpos : ¬ ((toI1 t).length : Int) = 0 := by rw [hlen, h]; simp; omega
    have hi : idx (toI1 t) (pre.length : Int) = some (x : Int) := by rw [h]; exact idx_toI1 pre x r
    have hnx : idx (toI1 t) ((wr .i64 ((pre.length : Int) + 1)).tmod ((toI1 t).length : Int)) = some ((r.headD (t.headD 0) : Nat) : Int) := by
      rw [h]; exact next_idx pre x r (by rw [← h]; omega)
    have hb : bp n x (r.headD (t.headD 0)) = if ((x : Int) == ((r.headD (t.headD 0) : Nat) : Int)) = true then [] else [x * n + r.headD (t.headD 0), r.headD (t.headD 0) * n + x] := by
      rw [beq_nat]
      unfold bp
      cases Nat.beq x (r.headD (t.headD 0)) <;> rfl
    have h2 : (((toI1 t).length : Int) == 2) = (t.length == 2) := by
      rw [hlen, show ((2 : Int)) = ((2 : Nat) : Int) from rfl, beq_nat]
      rw [Bool.eq_iff_iff, Nat.beq_eq]; simp
    have h1 : ((pre.length : Int) == 1) = (pre.length == 1) := by
      rw [show ((1 : Int)) = ((1 : Nat) : Int) from rfl, beq_nat]
      rw [Bool.eq_iff_iff, Nat.beq_eq]; simp
    have hwr : wr .i64 ((pre.length : Int) + 1) = ((pre ++ [x]).length : Int) := by
      have : pre.length ≤ t.length := by rw [h]; simp
      rw [wr_nat (by omega)]; simp
    have rec_ := fun L' hL' => bes_3 x1 c6 v8 c11 n hn t ht htl r (pre ++ [x]) f L' (by rw [h]; simp) (by omega) hL'
    unfold evening_Beside_3
    rw [if_pos (by rw [hlen, h]; simp; omega), hi]
    simp only [Option.bind_some]
    rw [if_neg hpos, hnx]
    simp only [Option.bind_some]
    rw [h2, h1]
    generalize hyy : r.headD (t.headD 0) = y at *
    simp only [besG, hyy, hb]
    cases hxy : ((x : Int) == (y : Int)) with
    | true =>
      simp only [if_true, Option.bind_some]
      rw [hwr, rec_ L (by omega)]
      simp
    | false =>
      cases hb2 : (t.length == 2 && pre.length == 1) with
      | true =>
        simp only [Bool.and_eq_true] at hb2
        simp only [hb2.1, hb2.2, if_true, Bool.false_eq_true, if_false, Option.bind_some]
        rw [hwr]
        have := rec_ L (by omega)
        simp only [hb2.1] at this
        rw [this]
        simp
      | false =>
        have e : (if false = true then some ((n : Int), cel n L, true) else if (t.length == 2) = true then some ((n : Int), cel n L, (pre.length == 1)) else some ((n : Int), cel n L, false)) = some ((n : Int), cel n L, false) := by
          cases h5 : (t.length == 2) with
          | false => rfl
          | true => rw [h5] at hb2; simp at hb2; simp [hb2]
        rw [e]
        simp only [Option.bind_some, Bool.false_eq_true, if_false]
        rw [bes_k2 L hn hx hy]
        simp only [Option.bind_some]
        rw [cel_wr hn hx hy, cel_idx L hx hy]
        simp only [Option.bind_some]
        rw [cel_set L (by omega) hx hy, bes_k2 _ hn hy hx]
        simp only [Option.bind_some]
        rw [cel_wr hn hy hx, cel_idx _ hy hx]
        simp only [Option.bind_some]
        rw [cel_set _ (by simp; omega) hy hx, hwr, rec_ _ (by simp; omega)]
        simp
theorem besE_len (n : Nat) : ∀ (ev : List (List Nat)), (besE n ev).length ≤ 2 * ev.flatten.length
  | [] => by simp [besE]
  | t :: ev => by
    have := besE_len n ev
    have := besT_len n t
    simp only [besE, List.flatten_cons, List.length_append]; omega
theorem bes_2 (x1 : List (List (List Int))) (c6 : Int) (n : Nat) (hn : n ≤ 64) (ev : List (List Nat)) (hev : ∀ t ∈ ev, ∀ x ∈ t, x < n) (hel : ev.flatten.length ≤ 90000) (hev2 : ev.length ≤ 90000) : ∀ (r pre : List (List Nat)) (f : Nat) (L : List Nat), ev = pre ++ r → r.length < f → L.length + 2 * r.flatten.length ≤ 9000000 →
    evening_Beside_2 x1 c6 (toI2 ev) f n (cel n L) pre.length = some ((n : Int), cel n (L ++ besE n r))
  | [], pre, f + 1, L, h, _, _ => by
    unfold evening_Beside_2
    rw [if_neg (by rw [toI2_len, h]; simp)]
    simp [besE]
  | t :: r, pre, f + 1, L, h, hf, hL => by
    have htl : t.length ≤ ev.flatten.length := len_mem (by rw [h]; simp)
    simp only [List.flatten_cons, List.length_append] at hL
    have h3 := bes_3 x1 c6 (toI2 ev) pre.length n hn t (hev t (by rw [h]; simp)) (by omega) t [] 100000 L rfl (by omega) (by omega)
    rw [show ((([] : List Nat).length : Nat) : Int) = 0 from rfl, show ([] : List Nat).length = 0 from rfl, besG_T] at h3
    have hwr : wr .i64 ((pre.length : Int) + 1) = ((pre ++ [t]).length : Int) := by
      have : pre.length ≤ ev.length := by rw [h]; simp
      rw [wr_nat (by omega)]; simp
    have hb := besT_len n t
    have ih := bes_2 x1 c6 n hn ev hev hel hev2 r (pre ++ [t]) f (L ++ besT n t) (by rw [h]; simp) (by simp at hf; omega) (by rw [List.length_append]; omega)
    unfold evening_Beside_2
    rw [if_pos (by rw [toI2_len, h]; simp; omega), show idx (toI2 ev) (pre.length : Int) = some (toI1 t) by rw [h]; exact idx_toI2 pre t r]
    simp only [Option.bind_some]
    rw [h3]
    simp only [Option.bind_some]
    rw [hwr, ih]
    simp [besE]
theorem bes_1 (n : Nat) (hn : n ≤ 64) (s : List (List (List Nat))) (hs : ∀ ev ∈ s, ∀ t ∈ ev, ∀ x ∈ t, x < n) (hsl : ∀ ev ∈ s, ev.flatten.length ≤ 90000 ∧ ev.length ≤ 90000) (hs2 : s.length ≤ 90000) : ∀ (r pre : List (List (List Nat))) (f : Nat) (L : List Nat), s = pre ++ r → r.length < f → L.length + 2 * r.flatten.flatten.length ≤ 9000000 →
    evening_Beside_1 (toI3 s) f n (cel n L) pre.length = some ((n : Int), cel n (L ++ besS n r))
  | [], pre, f + 1, L, h, _, _ => by
    unfold evening_Beside_1
    rw [if_neg (by rw [toI3_len, h]; simp)]
    simp [besS]
  | ev :: r, pre, f + 1, L, h, hf, hL => by
    obtain ⟨hl1, hl2⟩ := hsl ev (by rw [h]; simp)
    simp only [List.flatten_cons, List.flatten_append, List.length_append] at hL
    have h3 := bes_2 (toI3 s) pre.length n hn ev (hs ev (by rw [h]; simp)) hl1 hl2 ev [] 100000 L rfl (by omega) (by omega)
    rw [show ((([] : List (List Nat)).length : Nat) : Int) = 0 from rfl] at h3
    have hwr : wr .i64 ((pre.length : Int) + 1) = ((pre ++ [ev]).length : Int) := by
      have : pre.length ≤ s.length := by rw [h]; simp
      rw [wr_nat (by omega)]; simp
    have hb := besE_len n ev
    have ih := bes_1 n hn s hs hsl hs2 r (pre ++ [ev]) f (L ++ besE n ev) (by rw [h]; simp) (by simp at hf; omega) (by rw [List.length_append]; omega)
    unfold evening_Beside_1
    rw [if_pos (by rw [toI3_len, h]; simp; omega), show idx (toI3 s) (pre.length : Int) = some (toI2 ev) by rw [h]; exact idx_toI3 pre ev r]
    simp only [Option.bind_some]
    rw [h3]
    simp only [Option.bind_some]
    rw [hwr, ih]
    simp [besS]
theorem beside_eq {n : Nat} {s : List (List (List Nat))} (h : Sml n s) (hv : evening_valid n (toI3 s) = some true) : evening_Beside n (toI3 s) = some (rowsC n (cel n (besS n s)) n 0) := by
  unfold evening_Beside
  rw [hv]
  simp only [Option.bind_some, Bool.not_true, Bool.false_eq_true, if_false]
  obtain ⟨m1, m2⟩ := mkOk_nn h.n64
  unfold evening_Beside_k1
  rw [if_pos m1, m2]
  simp only [Option.bind_some]
  have hl := h.len
  have h1 := bes_1 n h.n64 s h.mem h.ev h.len s [] 100000 [] rfl (by omega) (by have := h.all; simp at this ⊢; omega)
  rw [show ((([] : List (List (List Nat))).length : Nat) : Int) = 0 from rfl, List.nil_append] at h1
  rw [h1]
  simp only [Option.bind_some]
  rw [rows_eq n h.n64 _ (cel_len n _)]
  rfl
end Go.Proofs.YthofgamegondnaaDoor

namespace Go.Proofs.YthofgamegondnaaDoor
open Go.RowKit
def ringTail (m i : Nat) : Nat → Nat → List Nat
  | 0, _ => []
  | f + 1, k => (Nat.mod (Nat.add i k) (Nat.mul 2 m)) :: ((bif Nat.ble m k then [] else [Nat.mod (Nat.sub (Nat.add i (Nat.mul 2 m)) k) (Nat.mul 2 m)]) ++ ringTail m i f (Nat.succ k))
def rings (n m : Nat) : Nat → Nat → List (List (List Nat))
  | 0, _ => []
  | f + 1, i => [((n - 1) :: i :: ringTail m i m 1)] :: rings n m f (Nat.succ i)
def ringsN (n : Nat) : List (List (List Nat)) := rings n (n / 2) (n / 2) 0
def ringOk (n : Nat) : Bool := (ringsN n).all (vEv n [n]) && neOk n (besS n (ringsN n))
theorem ring_all : allL (fun k => ringOk (2 * k + 3)) 31 = true := by kernel_rfl
end Go.Proofs.YthofgamegondnaaDoor

namespace Go.Proofs.YthofgamegondnaaDoor
open Go.RowKit
theorem ring_j {n m i k : Nat} (hm : n / 2 = m) (hn : n ≤ 64) (hm1 : 1 ≤ m) (hi : i < m) (hk : k ≤ m) (hk1 : 1 ≤ k) : wr .i64 ((n : Int).tdiv 2) = (m : Int) ∧ wr .i64 (2 * (m : Int)) = ((2 * m : Nat) : Int) ∧ (wr .i64 ((i : Int) + (k : Int))).tmod ((2 * m : Nat) : Int) = (((i + k) % (2 * m) : Nat) : Int) ∧ (wr .i64 ((wr .i64 ((i : Int) - (k : Int))) + ((2 * m : Nat) : Int))).tmod ((2 * m : Nat) : Int) = (((i + 2 * m - k) % (2 * m) : Nat) : Int) := by
  refine ⟨?_, ?_, ?_, ?_⟩
  · rw [tdiv2 _ (by omega), wr_i (by omega) (by omega)]; omega
  · rw [wr_i (by omega) (by omega)]; simp
  · rw [wr_i (by omega) (by omega), Int.tmod_eq_emod_of_nonneg (by omega)]; simp
  · rw [wr_i (n := (i : Int) - (k : Int)) (by omega) (by omega), wr_i (by omega) (by omega), Int.tmod_eq_emod_of_nonneg (by omega)]
    have : (i : Int) - (k : Int) + ((2 * m : Nat) : Int) = ((i + 2 * m - k : Nat) : Int) := by omega
    rw [this]; simp
theorem rings_2 (n m i : Nat) (hm : n / 2 = m) (hn : n ≤ 64) (hm1 : 1 ≤ m) (hi : i < m) (c5 : List (List (List Int))) : ∀ (b k f : Nat) (acc : List Nat), k + b = m + 1 → 1 ≤ k → b < f → acc.length ≤ 2 * k → evening_Rings_2 n c5 i f (toI1 acc) k = some (toI1 (acc ++ ringTail m i b k))
  | 0, k, f + 1, acc, h, hk, _, _ => by
    obtain ⟨e1, _, _, _⟩ := ring_j (i := i) (k := 1) hm hn hm1 hi (by omega) (by omega)
    unfold evening_Rings_2
    rw [e1, if_neg (by simp; omega)]
    simp [ringTail]
  | b + 1, k, f + 1, acc, h, hk, hf, ha => by
    obtain ⟨e1, e2, e3, e4⟩ := ring_j (i := i) (k := k) hm hn hm1 hi (by omega) (by omega)
    have e5 : wr .i64 (2 * wr .i64 ((n : Int).tdiv 2)) = ((2 * m : Nat) : Int) := by rw [e1, e2]
    have hz : ¬ ((2 * m : Nat) : Int) = 0 := by omega
    unfold evening_Rings_2
    rw [if_pos (by rw [e1]; simp; omega), e5, if_neg hz, if_pos (capOk_le (by omega) (by rw [toI1_len]; omega))]
    unfold evening_Rings_j3
    rw [e5, e1, e3, e4]
    by_cases hkm : k < m
    · have ih := rings_2 n m i hm hn hm1 hi c5 b (k + 1) f (acc ++ [(i + k) % (2 * m)] ++ [(i + 2 * m - k) % (2 * m)]) (by omega) (by omega) (by omega) (by simp; omega)
      rw [if_pos (by simp; omega), if_neg hz, if_pos (capOk_le (by omega) (by rw [List.length_append, toI1_len]; simp; omega))]
      simp only [Option.bind_some]
      rw [wr_nat (by omega)]
      have : toI1 acc ++ [(((i + k) % (2 * m) : Nat) : Int)] ++ [(((i + 2 * m - k) % (2 * m) : Nat) : Int)] = toI1 (acc ++ [(i + k) % (2 * m)] ++ [(i + 2 * m - k) % (2 * m)]) := by simp [toI1]
      rw [this, ih]
      have hb : Nat.ble m k = false := by
        cases hb : Nat.ble m k with
        | false => rfl
        | true => have := Nat.le_of_ble_eq_true hb; omega
      have : acc ++ ringTail m i (b + 1) k = acc ++ [(i + k) % (2 * m)] ++ [(i + 2 * m - k) % (2 * m)] ++ ringTail m i b (k + 1) := by
        simp only [ringTail, hb, cond_false, List.append_assoc, List.cons_append, List.nil_append]
        rfl
      rw [this]
    · have ih := rings_2 n m i hm hn hm1 hi c5 b (k + 1) f (acc ++ [(i + k) % (2 * m)]) (by omega) (by omega) (by omega) (by simp; omega)
      rw [if_neg (by simp; omega)]
      simp only [Option.bind_some]
      rw [wr_nat (by omega)]
      have : toI1 acc ++ [(((i + k) % (2 * m) : Nat) : Int)] = toI1 (acc ++ [(i + k) % (2 * m)]) := by simp [toI1]
      rw [this, ih]
      have hb : Nat.ble m k = true := Nat.ble_eq_true_of_le (by omega)
      have : acc ++ ringTail m i (b + 1) k = acc ++ [(i + k) % (2 * m)] ++ ringTail m i b (k + 1) := by
        simp only [ringTail, hb, cond_true, List.append_assoc, List.singleton_append, List.nil_append]
        rfl
      rw [this]
theorem rings_1 (n m : Nat) (hm : n / 2 = m) (hn : n ≤ 64) (hm1 : 1 ≤ m) : ∀ (b i f : Nat) (acc : List (List (List Nat))), i + b = m → b < f → acc.length = i → evening_Rings_1 n f (toI3 acc) i = some (toI3 (acc ++ rings n m b i))
  | 0, i, f + 1, acc, h, _, _ => by
    obtain ⟨e1, _, _, _⟩ := ring_j (i := 0) (k := 1) hm hn hm1 (by omega) (by omega) (by omega)
    unfold evening_Rings_1
    rw [e1, if_neg (by simp; omega)]
    simp [rings]
  | b + 1, i, f + 1, acc, h, hf, ha => by
    obtain ⟨e1, _, _, _⟩ := ring_j (i := i) (k := 1) hm hn hm1 (by omega) (by omega) (by omega)
    have ih := rings_1 n m hm hn hm1 b (i + 1) f (acc ++ [[(n - 1) :: i :: ringTail m i m 1]]) (by omega) (by omega) (by simp; omega)
    have h2 := rings_2 n m i hm hn hm1 (by omega) (toI3 acc) m 1 100000 [n - 1, i] (by omega) (by omega) (by omega) (by simp)
    have e6 : toI1 [n - 1, i] = [wr .i64 ((n : Int) - 1), (i : Int)] := by
      rw [wr_i (by omega) (by omega)]
      have : (n : Int) - 1 = ((n - 1 : Nat) : Int) := by omega
      rw [this]; rfl
    rw [e6, show ((1 : Nat) : Int) = 1 from rfl] at h2
    unfold evening_Rings_1
    rw [if_pos (by rw [e1]; simp; omega), h2]
    simp only [Option.bind_some]
    rw [if_pos (capOk_le (by omega) (by rw [toI3_len]; omega)), wr_nat (by omega)]
    have e7 : toI3 acc ++ [[toI1 ([n - 1, i] ++ ringTail m i m 1)]] = toI3 (acc ++ [[(n - 1) :: i :: ringTail m i m 1]]) := by simp [toI3, toI2]
    rw [e7, ih]
    simp [rings]
theorem rings_eq (n : Nat) (h3 : 3 ≤ n) (hn : n ≤ 64) : evening_Rings n = some (if n % 2 = 0 then ([], 91) else (toI3 (ringsN n), 0)) := by
  unfold evening_Rings
  have e1 : (if decide ((n : Int) < 3) = true then some true else some (decide ((n : Int) > 64))) = some false := by
    rw [if_neg (by simp; omega)]
    congr 1
    simp; omega
  rw [e1]
  simp only [Option.bind_some, Bool.false_eq_true, if_false]
  have e2 : (((n : Int).tmod 2) == 0) = decide (n % 2 = 0) := by
    rw [Int.tmod_eq_emod_of_nonneg (by omega), Bool.eq_iff_iff]
    simp; omega
  rw [e2]
  by_cases h : n % 2 = 0
  · rw [if_pos (by simpa using h), if_pos h]
  · rw [if_neg (by simpa using h), if_neg h]
    have := rings_1 n (n / 2) rfl hn (by omega) (n / 2) 0 100000 [] (by omega) (by omega) rfl
    rw [show toI3 [] = [] from rfl, show ((0 : Nat) : Int) = 0 from rfl, List.nil_append] at this
    rw [this]
    rfl
theorem valid_of {n : Nat} {s : List (List (List Int))} (h : evening_Check n [] s = some (0, 0)) : evening_valid n s = some true := by
  unfold evening_valid
  rw [h]
  rfl
theorem rings_row (x0 : Int) (v12 : List (List Int)) (n x : Nat) (hn : n ≤ 64) (row : List Int) (hl : row.length = n) (hr : ∀ y, y < n → row[y]? = some (if x = y then (0 : Int) else 1)) : ∀ (k y f : Nat), y + k = n → k < f → law09_EveningRings_2 x0 v12 x row f y = some (.inl ())
  | 0, y, f + 1, h, _ => by
    unfold law09_EveningRings_2
    rw [if_neg (by rw [hl]; simp; omega)]
  | k + 1, y, f + 1, h, hf => by
    have ih := rings_row x0 v12 n x hn row hl hr k (y + 1) f (by omega) (by omega)
    have hi : idx row (y : Int) = some (if x = y then (0 : Int) else 1) := by
      unfold idx; rw [if_pos (by omega), Int.toNat_natCast]; exact hr y (by omega)
    unfold law09_EveningRings_2
    rw [if_pos (by rw [hl]; simp; omega), hi]
    simp only [Option.bind_some]
    have e : ((x : Int) != (y : Int)) = !(decide (x = y)) := by
      by_cases h : x = y
      · simp [h]
      · have h' : ¬ (x : Int) = (y : Int) := fun e => h (Int.ofNat.inj e)
        simp [h, h']
    rw [e]
    by_cases h : x = y
    · subst h
      simp only [decide_true, if_true]
      rw [wr_nat (by omega)]
      simpa using ih
    · simp only [h, decide_false, if_false]
      rw [wr_nat (by omega)]
      simpa using ih
theorem rings_rows (x0 : Int) (n : Nat) (hn : n ≤ 64) (hx : wr .i64 (3 + wr .i64 (x0.tmod 62)) = (n : Int)) (v12 : List (List Int)) (hv : v12.length = n) (h : ∀ x, x < n → ∃ row, v12[x]? = some row ∧ row.length = n ∧ ∀ y, y < n → row[y]? = some (if x = y then (0 : Int) else 1)) : ∀ (k x f : Nat), x + k = n → k < f → law09_EveningRings_1 x0 v12 f x = some (.inl ())
  | 0, x, f + 1, hk, _ => by
    unfold law09_EveningRings_1
    rw [if_neg (by rw [hv]; simp; omega)]
  | k + 1, x, f + 1, hk, hf => by
    have ih := rings_rows x0 n hn hx v12 hv h k (x + 1) f (by omega) (by omega)
    obtain ⟨row, h1, h2, h3⟩ := h x (by omega)
    have hi : idx v12 (x : Int) = some row := by
      unfold idx; rw [if_pos (by omega), Int.toNat_natCast]; exact h1
    have hr := rings_row x0 v12 n x hn row h2 h3 n 0 100000 (by omega) (by omega)
    rw [show ((0 : Nat) : Int) = 0 from rfl] at hr
    unfold law09_EveningRings_1
    rw [if_pos (by rw [hv]; simp; omega), hi]
    simp only [Option.bind_some]
    rw [hx, h2, if_neg (by simp), hr]
    simp only [Option.bind_some]
    rw [wr_nat (by omega), ih]
theorem rings_len (n m : Nat) : ∀ (b i : Nat), (rings n m b i).length = b
  | 0, _ => rfl
  | b + 1, i => by simp [rings, rings_len n m b (i + 1)]
theorem rows_cell {n : Nat} {cs : List Int} (hcs : cs.length = n * n) (x : Nat) (hx : x < n) : ∃ row, (rowsC n cs n 0)[x]? = some row ∧ row.length = n ∧ ∀ y, y < n → row[y]? = some (cs.getD (x * n + y) 0) := by
  refine ⟨_, rowsC_at n cs n 0 x hx, ?_, fun y hy => ?_⟩
  · rw [Nat.zero_add]; exact (row_at hcs hx hx).1
  · rw [Nat.zero_add]; exact (row_at hcs hx hy).2
theorem rings_law (k : Int) (h0 : 0 ≤ k) : law09_EveningRings k = some true := by
  obtain ⟨n, hn3, hn64, hx⟩ : ∃ n : Nat, 3 ≤ n ∧ n ≤ 64 ∧ wr .i64 (3 + wr .i64 (k.tmod 62)) = (n : Int) := by
    have e : k.tmod 62 = k % 62 := Int.tmod_eq_emod_of_nonneg h0
    have b1 := Int.emod_nonneg k (show (62 : Int) ≠ 0 by decide)
    have b2 := Int.emod_lt_of_pos k (show (0 : Int) < 62 by decide)
    refine ⟨(3 + k % 62).toNat, by omega, by omega, ?_⟩
    rw [e]
    have q : wr .i64 (k % 62) = k % 62 := wr_i (by omega) (by omega)
    rw [q, wr_i (by omega) (by omega)]
    omega
  have e2 : (((n : Int).tmod 2) == 0) = decide (n % 2 = 0) := by
    rw [Int.tmod_eq_emod_of_nonneg (by omega), Bool.eq_iff_iff]
    simp; omega
  unfold law09_EveningRings
  rw [hx, rings_eq n hn3 hn64]
  simp only [Option.bind_some]
  rw [e2]
  by_cases h : n % 2 = 0
  · rw [if_pos (by simpa using h), if_pos h]
    rfl
  · rw [if_neg (by simpa using h), if_neg h]
    have hok : ringOk n = true := by
      have := allL_at ring_all ((n - 3) / 2) (by omega)
      rwa [show 2 * ((n - 3) / 2) + 3 = n by omega] at this
    simp only [ringOk, Bool.and_eq_true] at hok
    obtain ⟨v1, v2⟩ := hok
    have hlen : (ringsN n).length = n / 2 := rings_len _ _ _ _
    have hf : fitP n (toI1 [n]) = true := by
      simp [fitP, toI1, sumL]; omega
    obtain ⟨c1, c2⟩ := sch_check (by omega) hn64 (by omega) v1 (by simpa using hn64) hf (by simp)
    obtain ⟨sm, _⟩ := sch_small hn64 (by omega) v1 (by simpa using hn64)
    rw [show [(n : Int)] = toI1 [n] from rfl, c1]
    have e3 : wr .i64 ((n : Int).tdiv 2) = ((n / 2 : Nat) : Int) := by
      rw [tdiv2 _ (by omega), wr_i (by omega) (by omega)]; simp
    have e4 : (((toI3 (ringsN n)).length : Int) != wr .i64 ((n : Int).tdiv 2)) = false := by
      rw [e3, toI3_len, hlen]; simp
    rw [e4]
    simp only [Option.bind_some, bne_self_eq_false, Bool.false_eq_true, if_false]
    rw [beside_eq sm c2]
    simp only [Option.bind_some]
    have hl := rowsC_len n (cel n (besS n (ringsN n))) n 0
    have h5 := rings_rows k n hn64 hx _ hl (fun x hx => by
      obtain ⟨row, r1, r2, r3⟩ := rows_cell (cel_len n (besS n (ringsN n))) x hx
      refine ⟨row, r1, r2, fun y hy => ?_⟩
      rw [r3 y hy]
      exact congrArg some (neOk_cell v2 hx hy)) n 0 100000 (by omega) (by omega)
    rw [show ((0 : Nat) : Int) = 0 from rfl] at h5
    rw [hl, if_neg (by simp), h5]
    rfl
end Go.Proofs.YthofgamegondnaaDoor

namespace Go.Proofs.YthofgamegondnaaDoor.eveningRings
open Go.ChangeShapes Go.WideShapes Go.ChangeAt Go.RowKit
theorem law_ret (a0 : Int) (h : law09_EveningRings a0 = some true) {w : World} {v0 : Value} (h0 : VR w (fun c => c < w.heap.size) [] ((cdK .u8).enc a0) v0) : Ret Tryd.prog 10 #[v0] w fun v w' => v = .bool true ∧ w.grownBy w' none :=
  Ret.mono (x_law09_EveningRings.2 (cs_law09_EveningRings.enc (a0, ())) (er_law09_EveningRings true) (told_enc (s := cs_law09_EveningRings) (a := (a0, ())) h) w (fun c => c < w.heap.size) [v0] (fun c hc => hc) (fun g x h => by cases h) (.cons h0 .nil)) fun v w' h => ⟨h.2.v_inv, h.1⟩
set_option maxRecDepth 100000 in
theorem contract (H : Type) (enc : TypeId × Value → H) (W : World) (base : Nat) (args : Array Value) (ds gs : List (DataW H)) (before : List MemPlace)
    (hval : ∀ (j : Nat) t v, Tryd.f10.params[j]? = some t → args[j]? = some v → Value.okWide Tryd.prog W .any base t v)
    (hW : DataW.Whole enc Tryd.prog Tryd.f10.params.toList Rows.eveningRingsSpec.vars false W args.toList ds gs before)
    (hsz : (DataW.weightsEach Tryd.prog (Tryd.f10.params.toList ++ (OpenSpec.ofChange Rows.eveningRingsSpec).bare.plain.varTypes Tryd.prog) (ds ++ gs)).all (· ≤ reachBytes) = true) :
    Calls Tryd.prog 10 args W fun e W' => ∃ v, e = .returned v ∧ Rows.eveningRingsSpec.post enc Tryd.prog Tryd.f10 false true false false W args v W' := by
  have hW' := hW
  obtain ⟨p, q, hA0, hV, rfl, hfz, hnd⟩ := hW
  have hA : DataW.TrodAll enc Tryd.prog W 0 (fun _ => true) true Tryd.f10.params.toList args.toList ds p := hA0
  have hpar : Tryd.f10.params = #[5] := by kernel_rfl
  rw [hpar] at hA hval
  obtain ⟨v0, vs0, d0, ds0, p0, q0, hargs, rfl, rfl, h0, r0⟩ := trodAll_cons hA
  obtain ⟨rfl, rfl, rfl⟩ := trodAll_nil r0
  obtain rfl : args = #[v0] := by apply Array.ext'; simpa using hargs
  obtain ⟨a0, k0, g0⟩ := rd_arg (rd_int (by kernel_rfl : Tryd.prog.underlying 5 = some (.int .u8))) (one_int (by kernel_rfl : Tryd.prog.underlying 5 = some (.int .u8)) (hval 0 5 v0 rfl rfl)) h0 hsz (j := 0) (by kernel_rfl) rfl
  have hc := law_ret a0 (rings_law a0 (bounds_u8 g0).1) k0
  unfold Ret at hc
  refine hc.mono fun e W' he => ?_
  cases e with
  | returned v =>
    obtain ⟨rfl, hg⟩ := he
    exact ⟨_, rfl, post_true laidOut (fun t ht => ⟨mem_of_laid (fun t => Tryd.prog.readableRec t) (by kernel_rfl) ht, of_decide_eq_true (mem_of_laid (fun t => decide (t < Tryd.prog.types.size)) (by kernel_rfl) ht)⟩) hW' rfl (by kernel_rfl) (by kernel_rfl : Tryd.prog.underlying 4 = some .bool) rfl hg⟩
  | panicked c => exact he.elim
  | outgrown => exact he.elim
theorem laid_met (os : Os) : laidMet Tryd.prog Rows.eveningRingsRow.laid ((laidWorld os).forCall (fun _ _ => 0) ⟨#[], #[Value.int .u8 0], []⟩).memory :=
  laidMet_of_run' 8 (by kernel_rfl) (by kernel_rfl)
theorem reads (os : Os) {H : Type} (enc : TypeId × Value → H) : ∃ places, DataW.whole enc Tryd.prog ((laidWorld os).forCall (fun _ _ => 0) ⟨#[], #[Value.int .u8 0], []⟩).memory Tryd.f10.params.toList Rows.eveningRingsSpec.vars false #[Value.int .u8 0].toList 8 = some ([.lit (.int .u8 0)], [], places) :=
  ⟨[], by kernel_rfl⟩
set_option maxRecDepth 100000 in
theorem lifted (os : Os) (started : os.Started) (H : Type) (enc : TypeId × Value → H) (F : Stop.Interp) :
    ReturnsInHanded {} Tryd.checked os 10 .any ((OpenSpec.ofChange Rows.eveningRingsSpec).preRow enc Tryd.prog Tryd.f10 Rows.eveningRingsRow.domain false Rows.eveningRingsRow.laid) (((OpenSpec.ofChange Rows.eveningRingsSpec).at F).post enc Tryd.prog Tryd.f10 false true false false) := by
  obtain ⟨places, hx⟩ := reads os enc
  refine returnsInHanded_of_row (C := Tryd.checked) (s := OpenSpec.ofChange Rows.eveningRingsSpec) ownKnob0 started (by kernel_rfl) Tryd.func10
    (witness_row_at (enc := enc) (C := Tryd.checked) false (laidWorld os) #[Value.int .u8 0] rfl (by kernel_rfl) (by kernel_rfl) (by kernel_rfl)
      (OpenSpec.preRow_of_cond 8 hx (by kernel_rfl) (fun k hk => by cases hk) (by kernel_rfl) (laid_met os))) ?_
  intro W base args ds gs before hval hW _ _ hsz _ _ _
  exact contract H enc W base args ds gs before hval hW hsz
theorem said : Rows.EveningRingsSaid :=
  OpenClaim.holds_of_cond 10 Tryd.f10 rfl rfl rfl rfl rfl rfl rfl ⟨rfl, rfl, rfl, rfl, rfl⟩ rfl rfl rfl rfl rfl (by kernel_rfl) Tryd.func10 (by kernel_rfl)
    (of_decide_eq_true (by kernel_rfl)) (by unfold Func.isWrapper; first | (rw [if_pos (by decide +kernel)]; kernel_rfl) | (rw [if_neg (by decide +kernel)]; exact ⟨rfl, rfl⟩))
    (fun os started H enc _ F => by rw [OpenClaim.pre_eq_preRow]; exact lifted os started H enc F)
theorem plain (f : FuncId) (fn : Func) (hf : Tryd.pinned.checked.prog.funcNamed "trestle/trestlelaw09.EveningRings" = some f) (hfn : Tryd.pinned.checked.prog.funcs[f]? = some fn) :
    false = Tryd.pinned.checked.prog.looks [] ∧ ∀ (j : Nat) t, fn.params[j]? = some t → Tryd.pinned.checked.prog.wantsStandIn t = false := by
  obtain rfl : f = 10 := Option.some.inj ((show Tryd.prog.funcNamed "trestle/trestlelaw09.EveningRings" = some 10 by kernel_rfl).symm.trans hf) |>.symm
  obtain rfl : fn = Tryd.f10 := (Option.some.inj (Tryd.func10.symm.trans hfn)).symm
  refine ⟨by kernel_rfl, fun j t ht => ?_⟩
  have hm : t ∈ Tryd.f10.params.toList := by simpa using Array.mem_of_getElem? ht
  exact (show Tryd.prog.wantsStandIn t = false from Bool.not_eq_true' _ |>.mp (mem_of_laid (fun t => !Tryd.prog.wantsStandIn t) (by kernel_rfl) hm))
theorem card : Rows.EveningRingsCardSaid :=
  Claim7.holds_tied_plain_at .later [] _ _ _ _ said (fun _ h => by cases h) (by kernel_rfl) (fun _ h => by cases h) eveningRings_row_tie rfl ⟨rfl, rfl⟩ (by kernel_rfl) rfl plain (by kernel_rfl)
end Go.Proofs.YthofgamegondnaaDoor.eveningRings
