/- Lemmas for the proof. -/
import Derived.Test.YthofgamegondnaaDoorEveningPigeonM1
import Derived.Test.YthofgamegondnaaDoorEveningPigeonM2
import Derived.Test.YthofgamegondnaaDoorEveningPigeonM3
import Derived.Test.YthofgamegondnaaDoorEveningPigeonM4
namespace Go.Proofs.YthofgamegondnaaDoor
open Go.RowKit
/- trestle/evening.met -/
noncomputable def e_evening_met : Env := E0
theorem e_evening_met_ok : EnvOk e_evening_met := E0_ok
noncomputable def cb_evening_met : Code := codeOf Tryd.f72
def evening_met_1 (x0 : (List Int)) : Nat → Int → Int → Option ((Int))
  | 0, _, _ => none
  | f + 1, c1, c2 =>
    if (decide (c2 < (x0.length : Int))) = true then
    (idx x0 c2).bind fun v4 =>
    evening_met_1 x0 f (wr .i64 (c1 + (wr .i64 ((wr .i64 (v4 * (wr .i64 (v4 - 1)))).tdiv 2)))) (wr .i64 (c2 + 1))
    else
    some c1
def evening_met (x0 : (List Int)) : Option (Int) :=
  (evening_met_1 x0 100000 0 0).bind fun r6 =>
  some r6
def cs_evening_met : Cs ((List Int) × Unit) := (csC (cdL 1 cdI) csN)
def er_evening_met (r : Int) : AV := cdI.enc r
set_option maxHeartbeats 4000000 in
set_option maxRecDepth 100000 in
theorem evening_met_1_ok (x0 : (List Int)) : ∀ (f : Nat) (c1 : Int) (c2 : Int) (r : (Int)), evening_met_1 x0 f c1 c2 = some r → SemN e_evening_met ⟨none, false⟩ (pc cb_evening_met [1, 1, 0, 1, 0, 0]) f ⟨Fr 21 [(3, .v (.int .i64 c1)), (6, .sl 1 (x0.map cdI.enc)), (7, .v (.int .i64 (x0.length : Int))), (8, .v (.int .i64 c2))], []⟩ (fun e s => e = (.exit 0) ∧ Wk e_evening_met s ⟨Fr 21 [(3, .v (.int .i64 r))], []⟩) := by
  intro f
  induction f with
  | zero => intro c1 c2 r h; cases h
  | succ f ih0 =>
    intro c1 c2 r h
    have ih := fun (c1 : Int) (c2 : Int) => ih0 c1 c2 r
    unfold evening_met_1 at h
    refine SemN.succ ?_
    refine Sem.seq ?_
    refine Sem.runS (s1 := ⟨Fr 21 [(3, .v (.int .i64 c1)), (6, .sl 1 (x0.map cdI.enc)), (7, .v (.int .i64 (x0.length : Int))), (8, .v (.int .i64 c2)), (9, .v (.bool (decide (c2 < (x0.length : Int)))))], []⟩) ?_ ?_
    · refine RunS.segF (n := 21) e_evening_met_ok 1 [(3, .v (.int .i64 c1)), (6, .sl 1 (x0.map cdI.enc)), (7, .v (.int .i64 (x0.length : Int))), (8, .v (.int .i64 c2)), (9, .v (.bool (decide (c2 < (x0.length : Int)))))] [] (by kernel_rfl) ?_
      exact RunS.done rfl (Wk.fr (by kernel_rfl))
    refine Sem.seq ?_
    refine Sem.cond (b := (decide (c2 < (x0.length : Int)))) (by kernel_rfl) (fun hb3 => ?_) (fun hb3 => ?_)
    · rw [if_pos hb3] at h
      refine Sem.skip ?_
      refine Sem.seq ?_
      refine Sem.block ?_
      refine Sem.seq ?_
      obtain ⟨v4, hv4, h⟩ := Option.bind_eq_some_iff.1 h
      refine Sem.runS (s1 := ⟨Fr 21 [(3, .v (.int .i64 c1)), (5, .v (.int .i64 v4)), (6, .sl 1 (x0.map cdI.enc)), (7, .v (.int .i64 (x0.length : Int))), (8, .v (.int .i64 c2))], []⟩) ?_ ?_
      · refine RunS.one e_evening_met_ok 0 rfl (op_q (wantedA_none rfl) rfl (q_indexAddr (a := .sl 1 (x0.map cdI.enc)) (b := .v (.int .i64 c2)) (by kernel_rfl) (by kernel_rfl) (ix_sl (e := cdI.enc) (el := 3) (k := 1) (ki := .i64) (by kernel_rfl) (by kernel_rfl) hv4))) ?_
        refine RunS.segF (n := 21) e_evening_met_ok 2 [(3, .v (.int .i64 c1)), (5, .v (.int .i64 v4)), (6, .sl 1 (x0.map cdI.enc)), (7, .v (.int .i64 (x0.length : Int))), (8, .v (.int .i64 c2))] [] (by kernel_rfl) ?_
        exact RunS.done rfl (Wk.fr (by kernel_rfl))
      refine Sem.runS (s1 := ⟨Fr 21 [(3, .v (.int .i64 (wr .i64 (c1 + (wr .i64 ((wr .i64 (v4 * (wr .i64 (v4 - 1)))).tdiv 2)))))), (6, .sl 1 (x0.map cdI.enc)), (7, .v (.int .i64 (x0.length : Int))), (8, .v (.int .i64 c2))], []⟩) ?_ ?_
      · refine RunS.segF (n := 21) e_evening_met_ok 8 [(3, .v (.int .i64 (wr .i64 (c1 + (wr .i64 ((wr .i64 (v4 * (wr .i64 (v4 - 1)))).tdiv 2)))))), (6, .sl 1 (x0.map cdI.enc)), (7, .v (.int .i64 (x0.length : Int))), (8, .v (.int .i64 c2))] [] (by kernel_rfl) ?_
        exact RunS.done rfl (Wk.fr (by kernel_rfl))
      refine Sem.runS (s1 := ⟨Fr 21 [(3, .v (.int .i64 (wr .i64 (c1 + (wr .i64 ((wr .i64 (v4 * (wr .i64 (v4 - 1)))).tdiv 2)))))), (6, .sl 1 (x0.map cdI.enc)), (7, .v (.int .i64 (x0.length : Int))), (8, .v (.int .i64 (wr .i64 (c2 + 1))))], []⟩) ?_ ?_
      · refine RunS.segF (n := 21) e_evening_met_ok 2 [(3, .v (.int .i64 (wr .i64 (c1 + (wr .i64 ((wr .i64 (v4 * (wr .i64 (v4 - 1)))).tdiv 2)))))), (6, .sl 1 (x0.map cdI.enc)), (7, .v (.int .i64 (x0.length : Int))), (8, .v (.int .i64 (wr .i64 (c2 + 1))))] [] (by kernel_rfl) ?_
        exact RunS.done rfl (Wk.fr (by kernel_rfl))
      exact SemN.wk (s1 := ⟨Fr 21 [(3, .v (.int .i64 (wr .i64 (c1 + (wr .i64 ((wr .i64 (v4 * (wr .i64 (v4 - 1)))).tdiv 2)))))), (6, .sl 1 (x0.map cdI.enc)), (7, .v (.int .i64 (x0.length : Int))), (8, .v (.int .i64 (wr .i64 (c2 + 1))))], []⟩) (Wk.fr (by kernel_rfl)) (ih (wr .i64 (c1 + (wr .i64 ((wr .i64 (v4 * (wr .i64 (v4 - 1)))).tdiv 2)))) (wr .i64 (c2 + 1)) h)
    · rw [if_f hb3] at h
      refine Sem.exit ?_
      have hq := Option.some.inj h; subst hq
      exact ⟨rfl, (Wk.fr (by kernel_rfl))⟩
set_option maxHeartbeats 4000000 in
set_option maxRecDepth 100000 in
theorem evening_met_sem (x0 : (List Int)) (r : Int) (h : evening_met x0 = some r) : Sem e_evening_met ⟨none, false⟩ cb_evening_met ⟨Fr 21 (pairs0 0 (cs_evening_met.enc (x0, ()))), []⟩ fun e s' => (e = .normal ∨ e = .ret) ∧ ∃ xs, resA e_evening_met.P s'.fr s'.hp Tryd.f72.results.toList = some xs ∧ retA xs = er_evening_met r := by
  unfold evening_met at h
  refine Sem.wkQ (Sem.wk (s1 := ⟨Fr 21 [(0, .sl 1 (x0.map cdI.enc))], []⟩) (Wk.fr (by kernel_rfl)) ?_)
  refine Sem.seq ?_
  refine Sem.runS (s1 := ⟨Fr 21 [(0, .sl 1 (x0.map cdI.enc))], []⟩) ?_ ?_
  · refine RunS.segF (n := 21) e_evening_met_ok 1 [(0, .sl 1 (x0.map cdI.enc))] [] (by kernel_rfl) ?_
    exact RunS.done rfl (Wk.fr (by kernel_rfl))
  refine Sem.seq ?_
  refine Sem.runS (s1 := ⟨Fr 21 [(0, .sl 1 (x0.map cdI.enc)), (3, .v (.int .i64 0))], []⟩) ?_ ?_
  · refine RunS.segF (n := 21) e_evening_met_ok 1 [(0, .sl 1 (x0.map cdI.enc)), (3, .v (.int .i64 0))] [] (by kernel_rfl) ?_
    exact RunS.done rfl (Wk.fr (by kernel_rfl))
  refine Sem.seq ?_
  refine Sem.seq ?_
  refine Sem.runS (s1 := ⟨Fr 21 [(3, .v (.int .i64 0)), (6, .sl 1 (x0.map cdI.enc)), (7, .v (.int .i64 (x0.length : Int))), (8, .v (.int .i64 0))], []⟩) ?_ ?_
  · refine RunS.segF (n := 21) e_evening_met_ok 1 [(3, .v (.int .i64 0)), (6, .sl 1 (x0.map cdI.enc))] [] (by kernel_rfl) ?_
    refine RunS.one e_evening_met_ok 0 rfl (op_q (wantedA_none rfl) rfl (q_len (a := .sl 1 (x0.map cdI.enc)) (by kernel_rfl) (len_sl (el := 3) (by kernel_rfl)))) ?_
    refine RunS.segF (n := 21) e_evening_met_ok 1 [(3, .v (.int .i64 0)), (6, .sl 1 (x0.map cdI.enc)), (7, .v (.int .i64 (x0.length : Int))), (8, .v (.int .i64 0))] [] (by kernel_rfl) ?_
    exact RunS.done rfl (Wk.fr (by kernel_rfl))
  refine Sem.block ?_
  obtain ⟨r6, hr6, h⟩ := Option.bind_eq_some_iff.1 h
  refine Sem.loop (n := 100000) ?_
  refine Sem.cutN (SemN.wk (s1 := ⟨Fr 21 [(3, .v (.int .i64 0)), (6, .sl 1 (x0.map cdI.enc)), (7, .v (.int .i64 (x0.length : Int))), (8, .v (.int .i64 0))], []⟩) (Wk.fr (by kernel_rfl)) (evening_met_1_ok x0 _ 0 0 _ hr6)) ?_
  refine Sem.seq ?_
  refine Sem.runS (s1 := ⟨Fr 21 [(2, .v (.int .i64 r6))], []⟩) ?_ ?_
  · refine RunS.segF (n := 21) e_evening_met_ok 2 [(2, .v (.int .i64 r6))] [] (by kernel_rfl) ?_
    exact RunS.done rfl (Wk.fr (by kernel_rfl))
  refine Sem.ret ?_
  have hq := Option.some.inj h; subst hq
  exact ⟨⟨Fr 21 [(2, .v (.int .i64 r6))], []⟩, (Wk.fr (by kernel_rfl)), .inr rfl, [.v (.int .i64 r6)], (by kernel_rfl), (by kernel_rfl)⟩
def t_evening_met : List AV → Option AV := told cs_evening_met (fun a => evening_met a.1) er_evening_met
theorem x_evening_met : XOk 72 t_evening_met := by
  refine EnvOk.x (E := e_evening_met) (contract_ok e_evening_met_ok (fn := Tryd.f72) (c := cb_evening_met) ?h1 ?h2 ⟨Tryd.call72⟩ cs_evening_met (fun a => evening_met a.1) er_evening_met (fun a => (by show 1 ≤ 21; decide)) ?h3 ?h4) rfl rfl
  case h1 => kernel_rfl
  case h2 => kernel_rfl
  case h3 => intro b; kernel_rfl
  case h4 => exact fun a b h => evening_met_sem a.1 b h
end Go.Proofs.YthofgamegondnaaDoor

namespace Go.Proofs.YthofgamegondnaaDoor
open Go.RowKit
/- trestle/evening.LeastMost -/
noncomputable def e_evening_LeastMost : Env := ((E0.withX 68 t_evening_fit).withX 72 t_evening_met)
theorem e_evening_LeastMost_ok : EnvOk e_evening_LeastMost := (EnvOk.withX (EnvOk.withX E0_ok x_evening_fit.1 x_evening_fit.2) x_evening_met.1 x_evening_met.2)
noncomputable def cb_evening_LeastMost : Code := codeOf Tryd.f31
def evening_LeastMost (x0 : Int) (x1 : (List Int)) (x2 : Int) : Option (Int) :=
  (evening_fit x0 x1).bind fun v1 =>
  (if (!v1) = true then some true else if (decide (x2 < 1)) = true then some true else (evening_met x1).bind fun v2 =>
  some (v2 == 0)).bind fun j4 =>
  if j4 = true then
  some 0
  else
  (evening_met x1).bind fun v6 =>
  if (wr .i64 ((wr .i64 (x0 * (wr .i64 (x0 - 1)))).tdiv 2)) = (0 : Int) then none else
  some (wr .i64 ((wr .i64 ((wr .i64 ((wr .i64 ((mnI x2 64) * v6)) + (wr .i64 ((wr .i64 (x0 * (wr .i64 (x0 - 1)))).tdiv 2)))) - 1)).tdiv (wr .i64 ((wr .i64 (x0 * (wr .i64 (x0 - 1)))).tdiv 2))))
def cs_evening_LeastMost : Cs (Int × (List Int) × Int × Unit) := (csC cdI (csC (cdL 1 cdI) (csC cdI csN)))
def er_evening_LeastMost (r : Int) : AV := cdI.enc r
set_option maxHeartbeats 4000000 in
set_option maxRecDepth 100000 in
theorem evening_LeastMost_sem (x0 : Int) (x1 : (List Int)) (x2 : Int) (r : Int) (h : evening_LeastMost x0 x1 x2 = some r) : Sem e_evening_LeastMost ⟨none, false⟩ cb_evening_LeastMost ⟨Fr 36 (pairs0 0 (cs_evening_LeastMost.enc (x0, x1, x2, ()))), []⟩ fun e s' => (e = .normal ∨ e = .ret) ∧ ∃ xs, resA e_evening_LeastMost.P s'.fr s'.hp Tryd.f31.results.toList = some xs ∧ retA xs = er_evening_LeastMost r := by
  unfold evening_LeastMost at h
  refine Sem.wkQ (Sem.wk (s1 := ⟨Fr 36 [(0, .v (.int .i64 x0)), (1, .sl 1 (x1.map cdI.enc)), (2, .v (.int .i64 x2))], []⟩) (Wk.fr (by kernel_rfl)) ?_)
  refine Sem.seq ?_
  refine Sem.runS (s1 := ⟨Fr 36 [(0, .v (.int .i64 x0)), (1, .sl 1 (x1.map cdI.enc)), (2, .v (.int .i64 x2))], []⟩) ?_ ?_
  · refine RunS.segF (n := 36) e_evening_LeastMost_ok 1 [(0, .v (.int .i64 x0)), (1, .sl 1 (x1.map cdI.enc)), (2, .v (.int .i64 x2))] [] (by kernel_rfl) ?_
    exact RunS.done rfl (Wk.fr (by kernel_rfl))
  refine Sem.seq ?_
  refine Sem.seq ?_
  obtain ⟨v1, hv1, h⟩ := Option.bind_eq_some_iff.1 h
  obtain ⟨j4, hj4, h⟩ := Option.bind_eq_some_iff.1 h
  refine Sem.runS (s1 := ⟨Fr 36 [(0, .v (.int .i64 x0)), (1, .sl 1 (x1.map cdI.enc)), (2, .v (.int .i64 x2)), (20, .v (.bool j4))], []⟩) ?_ ?_
  · refine RunS.segF (n := 36) e_evening_LeastMost_ok 2 [(0, .v (.int .i64 x0)), (1, .sl 1 (x1.map cdI.enc)), (2, .v (.int .i64 x2)), (8, .v (.int .i64 x0)), (9, .sl 1 (x1.map cdI.enc))] [] (by kernel_rfl) ?_
    refine RunS.call e_evening_LeastMost_ok (fid := 68) (s := cs_evening_fit) (F := fun a => evening_fit a.1 a.2.1) (er := er_evening_fit) (xs := [.v (.int .i64 x0), .sl 1 (x1.map cdI.enc)]) (a := (x0, x1, ())) rfl (wantedA_none rfl) (by kernel_rfl) (by kernel_rfl) (by kernel_rfl) (by kernel_rfl) (Sns.cons (Sn.enc (c := cdI) (v := x0)) (Sns.cons (Sn.enc (c := (cdL 1 cdI)) (v := x1)) Sns.nil)) (.inl (by kernel_rfl)) hv1 ?_
    refine RunS.segF (n := 36) e_evening_LeastMost_ok 2 [(0, .v (.int .i64 x0)), (1, .sl 1 (x1.map cdI.enc)), (2, .v (.int .i64 x2)), (12, .v (.bool (!v1)))] [] (by kernel_rfl) ?_
    rcases Bool.eq_false_or_eq_true (!v1) with hc8 | hc8
    · rw [if_pos hc8] at hj4
      rw [hc8]
      refine RunS.segF (n := 36) e_evening_LeastMost_ok 8 [(0, .v (.int .i64 x0)), (1, .sl 1 (x1.map cdI.enc)), (2, .v (.int .i64 x2)), (20, .v (.bool true))] [] (by kernel_rfl) ?_
      have hq := Option.some.inj hj4; subst hq
      exact RunS.done rfl (Wk.fr (by kernel_rfl))
    · rw [if_f hc8] at hj4
      rw [hc8]
      refine RunS.segF (n := 36) e_evening_LeastMost_ok 4 [(0, .v (.int .i64 x0)), (1, .sl 1 (x1.map cdI.enc)), (2, .v (.int .i64 x2)), (16, .v (.bool (decide (x2 < 1))))] [] (by kernel_rfl) ?_
      rcases Bool.eq_false_or_eq_true (decide (x2 < 1)) with hc9 | hc9
      · rw [if_pos hc9] at hj4
        rw [hc9]
        refine RunS.segF (n := 36) e_evening_LeastMost_ok 4 [(0, .v (.int .i64 x0)), (1, .sl 1 (x1.map cdI.enc)), (2, .v (.int .i64 x2)), (20, .v (.bool true))] [] (by kernel_rfl) ?_
        have hq := Option.some.inj hj4; subst hq
        exact RunS.done rfl (Wk.fr (by kernel_rfl))
      · rw [if_f hc9] at hj4
        rw [hc9]
        refine RunS.segF (n := 36) e_evening_LeastMost_ok 1 [(0, .v (.int .i64 x0)), (1, .sl 1 (x1.map cdI.enc)), (2, .v (.int .i64 x2)), (16, .v (.bool false)), (17, .sl 1 (x1.map cdI.enc))] [] (by kernel_rfl) ?_
        obtain ⟨v2, hv2, hj4⟩ := Option.bind_eq_some_iff.1 hj4
        refine RunS.call e_evening_LeastMost_ok (fid := 72) (s := cs_evening_met) (F := fun a => evening_met a.1) (er := er_evening_met) (xs := [.sl 1 (x1.map cdI.enc)]) (a := (x1, ())) rfl (by kernel_rfl) (by kernel_rfl) (by kernel_rfl) (by kernel_rfl) (by kernel_rfl) (Sns.cons (Sn.enc (c := (cdL 1 cdI)) (v := x1)) Sns.nil) (.inl (by kernel_rfl)) hv2 ?_
        refine RunS.segF (n := 36) e_evening_LeastMost_ok 2 [(0, .v (.int .i64 x0)), (1, .sl 1 (x1.map cdI.enc)), (2, .v (.int .i64 x2)), (20, .v (.bool (v2 == 0)))] [] (by kernel_rfl) ?_
        have hq := Option.some.inj hj4; subst hq
        exact RunS.done rfl (Wk.fr (by kernel_rfl))
  refine Sem.cond (b := j4) (by kernel_rfl) (fun hb5 => ?_) (fun hb5 => ?_)
  · rw [if_pos hb5] at h
    refine Sem.seq ?_
    refine Sem.runS (s1 := ⟨Fr 36 [(6, .v (.int .i64 0))], []⟩) ?_ ?_
    · refine RunS.segF (n := 36) e_evening_LeastMost_ok 1 [(6, .v (.int .i64 0))] [] (by kernel_rfl) ?_
      exact RunS.done rfl (Wk.fr (by kernel_rfl))
    refine Sem.ret ?_
    have hq := Option.some.inj h; subst hq
    exact ⟨⟨Fr 36 [(6, .v (.int .i64 0))], []⟩, (Wk.fr (by kernel_rfl)), .inr rfl, [.v (.int .i64 0)], (by kernel_rfl), (by kernel_rfl)⟩
  · rw [if_f hb5] at h
    refine Sem.skip ?_
    refine Sem.seq ?_
    refine Sem.runS (s1 := ⟨Fr 36 [(1, .sl 1 (x1.map cdI.enc)), (2, .v (.int .i64 x2)), (7, .v (.int .i64 (wr .i64 ((wr .i64 (x0 * (wr .i64 (x0 - 1)))).tdiv 2))))], []⟩) ?_ ?_
    · refine RunS.segF (n := 36) e_evening_LeastMost_ok 6 [(1, .sl 1 (x1.map cdI.enc)), (2, .v (.int .i64 x2)), (7, .v (.int .i64 (wr .i64 ((wr .i64 (x0 * (wr .i64 (x0 - 1)))).tdiv 2))))] [] (by kernel_rfl) ?_
      exact RunS.done rfl (Wk.fr (by kernel_rfl))
    refine Sem.seq ?_
    obtain ⟨v6, hv6, h⟩ := Option.bind_eq_some_iff.1 h
    by_cases hz7 : (wr .i64 ((wr .i64 (x0 * (wr .i64 (x0 - 1)))).tdiv 2)) = (0 : Int)
    · rw [if_pos hz7] at h; cases h
    rw [if_neg hz7] at h
    refine Sem.runS (s1 := ⟨Fr 36 [(6, .v (.int .i64 (wr .i64 ((wr .i64 ((wr .i64 ((wr .i64 ((mnI x2 64) * v6)) + (wr .i64 ((wr .i64 (x0 * (wr .i64 (x0 - 1)))).tdiv 2)))) - 1)).tdiv (wr .i64 ((wr .i64 (x0 * (wr .i64 (x0 - 1)))).tdiv 2))))))], []⟩) ?_ ?_
    · refine RunS.segF (n := 36) e_evening_LeastMost_ok 3 [(7, .v (.int .i64 (wr .i64 ((wr .i64 (x0 * (wr .i64 (x0 - 1)))).tdiv 2)))), (27, .v (.int .i64 (mnI x2 64))), (28, .sl 1 (x1.map cdI.enc))] [] (by kernel_rfl) ?_
      refine RunS.call e_evening_LeastMost_ok (fid := 72) (s := cs_evening_met) (F := fun a => evening_met a.1) (er := er_evening_met) (xs := [.sl 1 (x1.map cdI.enc)]) (a := (x1, ())) rfl (wantedA_none rfl) (by kernel_rfl) (by kernel_rfl) (by kernel_rfl) (by kernel_rfl) (Sns.cons (Sn.enc (c := (cdL 1 cdI)) (v := x1)) Sns.nil) (.inl (by kernel_rfl)) hv6 ?_
      refine RunS.segF (n := 36) e_evening_LeastMost_ok 5 [(33, .v (.int .i64 (wr .i64 ((wr .i64 ((wr .i64 ((mnI x2 64) * v6)) + (wr .i64 ((wr .i64 (x0 * (wr .i64 (x0 - 1)))).tdiv 2)))) - 1)))), (34, .v (.int .i64 (wr .i64 ((wr .i64 (x0 * (wr .i64 (x0 - 1)))).tdiv 2))))] [] (by kernel_rfl) ?_
      refine RunS.one e_evening_LeastMost_ok 0 rfl (op_q (wantedA_none rfl) rfl (q_bin (a := .v (.int .i64 (wr .i64 ((wr .i64 ((wr .i64 ((mnI x2 64) * v6)) + (wr .i64 ((wr .i64 (x0 * (wr .i64 (x0 - 1)))).tdiv 2)))) - 1)))) (b := .v (.int .i64 (wr .i64 ((wr .i64 (x0 * (wr .i64 (x0 - 1)))).tdiv 2)))) (by kernel_rfl) (by kernel_rfl) (bin_quo hz7))) ?_
      refine RunS.segF (n := 36) e_evening_LeastMost_ok 1 [(6, .v (.int .i64 (wr .i64 ((wr .i64 ((wr .i64 ((wr .i64 ((mnI x2 64) * v6)) + (wr .i64 ((wr .i64 (x0 * (wr .i64 (x0 - 1)))).tdiv 2)))) - 1)).tdiv (wr .i64 ((wr .i64 (x0 * (wr .i64 (x0 - 1)))).tdiv 2))))))] [] (by kernel_rfl) ?_
      exact RunS.done rfl (Wk.fr (by kernel_rfl))
    refine Sem.ret ?_
    have hq := Option.some.inj h; subst hq
    exact ⟨⟨Fr 36 [(6, .v (.int .i64 (wr .i64 ((wr .i64 ((wr .i64 ((wr .i64 ((mnI x2 64) * v6)) + (wr .i64 ((wr .i64 (x0 * (wr .i64 (x0 - 1)))).tdiv 2)))) - 1)).tdiv (wr .i64 ((wr .i64 (x0 * (wr .i64 (x0 - 1)))).tdiv 2))))))], []⟩, (Wk.fr (by kernel_rfl)), .inr rfl, [.v (.int .i64 (wr .i64 ((wr .i64 ((wr .i64 ((wr .i64 ((mnI x2 64) * v6)) + (wr .i64 ((wr .i64 (x0 * (wr .i64 (x0 - 1)))).tdiv 2)))) - 1)).tdiv (wr .i64 ((wr .i64 (x0 * (wr .i64 (x0 - 1)))).tdiv 2)))))], (by kernel_rfl), (by kernel_rfl)⟩
def t_evening_LeastMost : List AV → Option AV := told cs_evening_LeastMost (fun a => evening_LeastMost a.1 a.2.1 a.2.2.1) er_evening_LeastMost
theorem x_evening_LeastMost : XOk 31 t_evening_LeastMost := by
  refine EnvOk.x (E := e_evening_LeastMost) (contract_ok e_evening_LeastMost_ok (fn := Tryd.f31) (c := cb_evening_LeastMost) ?h1 ?h2 ⟨Tryd.call31⟩ cs_evening_LeastMost (fun a => evening_LeastMost a.1 a.2.1 a.2.2.1) er_evening_LeastMost (fun a => (by show 3 ≤ 36; decide)) ?h3 ?h4) rfl rfl
  case h1 => kernel_rfl
  case h2 => kernel_rfl
  case h3 => intro b; kernel_rfl
  case h4 => exact fun a b h => evening_LeastMost_sem a.1 a.2.1 a.2.2.1 b h
end Go.Proofs.YthofgamegondnaaDoor

namespace Go.Proofs.YthofgamegondnaaDoor
open Go.RowKit
/- trestle/evening.MostEvenings -/
noncomputable def e_evening_MostEvenings : Env := ((E0.withX 68 t_evening_fit).withX 72 t_evening_met)
theorem e_evening_MostEvenings_ok : EnvOk e_evening_MostEvenings := (EnvOk.withX (EnvOk.withX E0_ok x_evening_fit.1 x_evening_fit.2) x_evening_met.1 x_evening_met.2)
noncomputable def cb_evening_MostEvenings : Code := codeOf Tryd.f33
def evening_MostEvenings (x0 : Int) (x1 : (List Int)) (x2 : Int) : Option (Int) :=
  (evening_fit x0 x1).bind fun v1 =>
  (if (!v1) = true then some true else some (decide (x2 < 0))).bind fun j3 =>
  if j3 = true then
  some 0
  else
  (evening_met x1).bind fun v5 =>
  if (v5 == 0) = true then
  some 64
  else
  (evening_met x1).bind fun v7 =>
  if v7 = (0 : Int) then none else
  some (mnI 64 (wr .i64 ((wr .i64 ((mnI x2 64) * (wr .i64 ((wr .i64 (x0 * (wr .i64 (x0 - 1)))).tdiv 2)))).tdiv v7)))
def cs_evening_MostEvenings : Cs (Int × (List Int) × Int × Unit) := (csC cdI (csC (cdL 1 cdI) (csC cdI csN)))
def er_evening_MostEvenings (r : Int) : AV := cdI.enc r
set_option maxHeartbeats 4000000 in
set_option maxRecDepth 100000 in
theorem evening_MostEvenings_sem (x0 : Int) (x1 : (List Int)) (x2 : Int) (r : Int) (h : evening_MostEvenings x0 x1 x2 = some r) : Sem e_evening_MostEvenings ⟨none, false⟩ cb_evening_MostEvenings ⟨Fr 30 (pairs0 0 (cs_evening_MostEvenings.enc (x0, x1, x2, ()))), []⟩ fun e s' => (e = .normal ∨ e = .ret) ∧ ∃ xs, resA e_evening_MostEvenings.P s'.fr s'.hp Tryd.f33.results.toList = some xs ∧ retA xs = er_evening_MostEvenings r := by
  unfold evening_MostEvenings at h
  refine Sem.wkQ (Sem.wk (s1 := ⟨Fr 30 [(0, .v (.int .i64 x0)), (1, .sl 1 (x1.map cdI.enc)), (2, .v (.int .i64 x2))], []⟩) (Wk.fr (by kernel_rfl)) ?_)
  refine Sem.seq ?_
  refine Sem.runS (s1 := ⟨Fr 30 [(0, .v (.int .i64 x0)), (1, .sl 1 (x1.map cdI.enc)), (2, .v (.int .i64 x2))], []⟩) ?_ ?_
  · refine RunS.segF (n := 30) e_evening_MostEvenings_ok 1 [(0, .v (.int .i64 x0)), (1, .sl 1 (x1.map cdI.enc)), (2, .v (.int .i64 x2))] [] (by kernel_rfl) ?_
    exact RunS.done rfl (Wk.fr (by kernel_rfl))
  refine Sem.seq ?_
  refine Sem.seq ?_
  obtain ⟨v1, hv1, h⟩ := Option.bind_eq_some_iff.1 h
  obtain ⟨j3, hj3, h⟩ := Option.bind_eq_some_iff.1 h
  refine Sem.runS (s1 := ⟨Fr 30 [(0, .v (.int .i64 x0)), (1, .sl 1 (x1.map cdI.enc)), (2, .v (.int .i64 x2)), (14, .v (.bool j3))], []⟩) ?_ ?_
  · refine RunS.segF (n := 30) e_evening_MostEvenings_ok 2 [(0, .v (.int .i64 x0)), (1, .sl 1 (x1.map cdI.enc)), (2, .v (.int .i64 x2)), (7, .v (.int .i64 x0)), (8, .sl 1 (x1.map cdI.enc))] [] (by kernel_rfl) ?_
    refine RunS.call e_evening_MostEvenings_ok (fid := 68) (s := cs_evening_fit) (F := fun a => evening_fit a.1 a.2.1) (er := er_evening_fit) (xs := [.v (.int .i64 x0), .sl 1 (x1.map cdI.enc)]) (a := (x0, x1, ())) rfl (wantedA_none rfl) (by kernel_rfl) (by kernel_rfl) (by kernel_rfl) (by kernel_rfl) (Sns.cons (Sn.enc (c := cdI) (v := x0)) (Sns.cons (Sn.enc (c := (cdL 1 cdI)) (v := x1)) Sns.nil)) (.inl (by kernel_rfl)) hv1 ?_
    refine RunS.segF (n := 30) e_evening_MostEvenings_ok 2 [(0, .v (.int .i64 x0)), (1, .sl 1 (x1.map cdI.enc)), (2, .v (.int .i64 x2)), (11, .v (.bool (!v1)))] [] (by kernel_rfl) ?_
    rcases Bool.eq_false_or_eq_true (!v1) with hc9 | hc9
    · rw [if_pos hc9] at hj3
      rw [hc9]
      refine RunS.segF (n := 30) e_evening_MostEvenings_ok 3 [(0, .v (.int .i64 x0)), (1, .sl 1 (x1.map cdI.enc)), (2, .v (.int .i64 x2)), (14, .v (.bool true))] [] (by kernel_rfl) ?_
      have hq := Option.some.inj hj3; subst hq
      exact RunS.done rfl (Wk.fr (by kernel_rfl))
    · rw [if_f hc9] at hj3
      rw [hc9]
      refine RunS.segF (n := 30) e_evening_MostEvenings_ok 3 [(0, .v (.int .i64 x0)), (1, .sl 1 (x1.map cdI.enc)), (2, .v (.int .i64 x2)), (14, .v (.bool (decide (x2 < 0))))] [] (by kernel_rfl) ?_
      have hq := Option.some.inj hj3; subst hq
      exact RunS.done rfl (Wk.fr (by kernel_rfl))
  refine Sem.cond (b := j3) (by kernel_rfl) (fun hb4 => ?_) (fun hb4 => ?_)
  · rw [if_pos hb4] at h
    refine Sem.seq ?_
    refine Sem.runS (s1 := ⟨Fr 30 [(6, .v (.int .i64 0))], []⟩) ?_ ?_
    · refine RunS.segF (n := 30) e_evening_MostEvenings_ok 1 [(6, .v (.int .i64 0))] [] (by kernel_rfl) ?_
      exact RunS.done rfl (Wk.fr (by kernel_rfl))
    refine Sem.ret ?_
    have hq := Option.some.inj h; subst hq
    exact ⟨⟨Fr 30 [(6, .v (.int .i64 0))], []⟩, (Wk.fr (by kernel_rfl)), .inr rfl, [.v (.int .i64 0)], (by kernel_rfl), (by kernel_rfl)⟩
  · rw [if_f hb4] at h
    refine Sem.skip ?_
    refine Sem.seq ?_
    refine Sem.seq ?_
    obtain ⟨v5, hv5, h⟩ := Option.bind_eq_some_iff.1 h
    refine Sem.runS (s1 := ⟨Fr 30 [(0, .v (.int .i64 x0)), (1, .sl 1 (x1.map cdI.enc)), (2, .v (.int .i64 x2)), (17, .v (.bool (v5 == 0)))], []⟩) ?_ ?_
    · refine RunS.segF (n := 30) e_evening_MostEvenings_ok 1 [(0, .v (.int .i64 x0)), (1, .sl 1 (x1.map cdI.enc)), (2, .v (.int .i64 x2)), (15, .sl 1 (x1.map cdI.enc))] [] (by kernel_rfl) ?_
      refine RunS.call e_evening_MostEvenings_ok (fid := 72) (s := cs_evening_met) (F := fun a => evening_met a.1) (er := er_evening_met) (xs := [.sl 1 (x1.map cdI.enc)]) (a := (x1, ())) rfl (wantedA_none rfl) (by kernel_rfl) (by kernel_rfl) (by kernel_rfl) (by kernel_rfl) (Sns.cons (Sn.enc (c := (cdL 1 cdI)) (v := x1)) Sns.nil) (.inl (by kernel_rfl)) hv5 ?_
      refine RunS.segF (n := 30) e_evening_MostEvenings_ok 1 [(0, .v (.int .i64 x0)), (1, .sl 1 (x1.map cdI.enc)), (2, .v (.int .i64 x2)), (17, .v (.bool (v5 == 0)))] [] (by kernel_rfl) ?_
      exact RunS.done rfl (Wk.fr (by kernel_rfl))
    refine Sem.cond (b := (v5 == 0)) (by kernel_rfl) (fun hb6 => ?_) (fun hb6 => ?_)
    · rw [if_pos hb6] at h
      refine Sem.seq ?_
      refine Sem.runS (s1 := ⟨Fr 30 [(6, .v (.int .i64 64))], []⟩) ?_ ?_
      · refine RunS.segF (n := 30) e_evening_MostEvenings_ok 1 [(6, .v (.int .i64 64))] [] (by kernel_rfl) ?_
        exact RunS.done rfl (Wk.fr (by kernel_rfl))
      refine Sem.ret ?_
      have hq := Option.some.inj h; subst hq
      exact ⟨⟨Fr 30 [(6, .v (.int .i64 64))], []⟩, (Wk.fr (by kernel_rfl)), .inr rfl, [.v (.int .i64 64)], (by kernel_rfl), (by kernel_rfl)⟩
    · rw [if_f hb6] at h
      refine Sem.skip ?_
      refine Sem.seq ?_
      obtain ⟨v7, hv7, h⟩ := Option.bind_eq_some_iff.1 h
      by_cases hz8 : v7 = (0 : Int)
      · rw [if_pos hz8] at h; cases h
      rw [if_neg hz8] at h
      refine Sem.runS (s1 := ⟨Fr 30 [(6, .v (.int .i64 (mnI 64 (wr .i64 ((wr .i64 ((mnI x2 64) * (wr .i64 ((wr .i64 (x0 * (wr .i64 (x0 - 1)))).tdiv 2)))).tdiv v7)))))], []⟩) ?_ ?_
      · refine RunS.segF (n := 30) e_evening_MostEvenings_ok 9 [(25, .v (.int .i64 (wr .i64 ((mnI x2 64) * (wr .i64 ((wr .i64 (x0 * (wr .i64 (x0 - 1)))).tdiv 2)))))), (26, .sl 1 (x1.map cdI.enc))] [] (by kernel_rfl) ?_
        refine RunS.call e_evening_MostEvenings_ok (fid := 72) (s := cs_evening_met) (F := fun a => evening_met a.1) (er := er_evening_met) (xs := [.sl 1 (x1.map cdI.enc)]) (a := (x1, ())) rfl (wantedA_none rfl) (by kernel_rfl) (by kernel_rfl) (by kernel_rfl) (by kernel_rfl) (Sns.cons (Sn.enc (c := (cdL 1 cdI)) (v := x1)) Sns.nil) (.inl (by kernel_rfl)) hv7 ?_
        refine RunS.one e_evening_MostEvenings_ok 0 rfl (op_q (wantedA_none rfl) rfl (q_bin (a := .v (.int .i64 (wr .i64 ((mnI x2 64) * (wr .i64 ((wr .i64 (x0 * (wr .i64 (x0 - 1)))).tdiv 2)))))) (b := .v (.int .i64 v7)) (by kernel_rfl) (by kernel_rfl) (bin_quo hz8))) ?_
        refine RunS.segF (n := 30) e_evening_MostEvenings_ok 2 [(6, .v (.int .i64 (mnI 64 (wr .i64 ((wr .i64 ((mnI x2 64) * (wr .i64 ((wr .i64 (x0 * (wr .i64 (x0 - 1)))).tdiv 2)))).tdiv v7)))))] [] (by kernel_rfl) ?_
        exact RunS.done rfl (Wk.fr (by kernel_rfl))
      refine Sem.ret ?_
      have hq := Option.some.inj h; subst hq
      exact ⟨⟨Fr 30 [(6, .v (.int .i64 (mnI 64 (wr .i64 ((wr .i64 ((mnI x2 64) * (wr .i64 ((wr .i64 (x0 * (wr .i64 (x0 - 1)))).tdiv 2)))).tdiv v7)))))], []⟩, (Wk.fr (by kernel_rfl)), .inr rfl, [.v (.int .i64 (mnI 64 (wr .i64 ((wr .i64 ((mnI x2 64) * (wr .i64 ((wr .i64 (x0 * (wr .i64 (x0 - 1)))).tdiv 2)))).tdiv v7))))], (by kernel_rfl), (by kernel_rfl)⟩
def t_evening_MostEvenings : List AV → Option AV := told cs_evening_MostEvenings (fun a => evening_MostEvenings a.1 a.2.1 a.2.2.1) er_evening_MostEvenings
theorem x_evening_MostEvenings : XOk 33 t_evening_MostEvenings := by
  refine EnvOk.x (E := e_evening_MostEvenings) (contract_ok e_evening_MostEvenings_ok (fn := Tryd.f33) (c := cb_evening_MostEvenings) ?h1 ?h2 ⟨Tryd.call33⟩ cs_evening_MostEvenings (fun a => evening_MostEvenings a.1 a.2.1 a.2.2.1) er_evening_MostEvenings (fun a => (by show 3 ≤ 30; decide)) ?h3 ?h4) rfl rfl
  case h1 => kernel_rfl
  case h2 => kernel_rfl
  case h3 => intro b; kernel_rfl
  case h4 => exact fun a b h => evening_MostEvenings_sem a.1 a.2.1 a.2.2.1 b h
end Go.Proofs.YthofgamegondnaaDoor

namespace Go.Proofs.YthofgamegondnaaDoor
open Go.RowKit
/- (trestle/evening.square[int]).rows -/
noncomputable def e_evening_square_int_rows : Env := (E0.withX 27 t_slices_Clone_L_int)
theorem e_evening_square_int_rows_ok : EnvOk e_evening_square_int_rows := (EnvOk.withX E0_ok x_slices_Clone_L_int.1 x_slices_Clone_L_int.2)
noncomputable def cb_evening_square_int_rows : Code := codeOf Tryd.f85
def evening_square_int_rows_1 (x0 : (Int × (List Int))) : Nat → (List (List Int)) → Int → Option (((List (List Int))))
  | 0, _, _ => none
  | f + 1, c1, c2 =>
    if (decide (c2 < x0.1)) = true then
    if (cutOk (wr .i64 (c2 * x0.1)) (wr .i64 ((wr .i64 (c2 + 1)) * x0.1)) x0.2.length) = true then
    (slices_Clone_L_int ((x0.2.take (wr .i64 ((wr .i64 (c2 + 1)) * x0.1)).toNat).drop (wr .i64 (c2 * x0.1)).toNat)).bind fun v5 =>
    if (capOk 24 (c1.length + 1)) = true then
    evening_square_int_rows_1 x0 f (c1 ++ [v5]) (wr .i64 (c2 + 1))
    else none
    else none
    else
    some c1
def evening_square_int_rows (x0 : (Int × (List Int))) : Option ((List (List Int))) :=
  (evening_square_int_rows_1 x0 100000 [] 0).bind fun r8 =>
  some r8
def cs_evening_square_int_rows : Cs ((Int × (List Int)) × Unit) := (csC (cdG2 cdI (cdL 1 cdI) (fun _ => rfl) (fun _ => rfl)) csN)
def er_evening_square_int_rows (r : (List (List Int))) : AV := (cdL 1 (cdL 1 cdI)).enc r
set_option maxHeartbeats 4000000 in
set_option maxRecDepth 100000 in
theorem evening_square_int_rows_1_ok (x0 : (Int × (List Int))) : ∀ (f : Nat) (c1 : (List (List Int))) (c2 : Int) (r : ((List (List Int)))), evening_square_int_rows_1 x0 f c1 c2 = some r → SemN e_evening_square_int_rows ⟨none, false⟩ (pc cb_evening_square_int_rows [1, 1, 0, 1, 0, 0]) f ⟨Fr 28 [(1, .pt 0 0 0), (3, hd 1 (c1.map (cdL 1 cdI).enc)), (6, .v (.int .i64 x0.1)), (7, .v (.int .i64 c2))], [some ⟨2, 95, [.ag [.v (.int .i64 x0.1), .sl 1 (x0.2.map cdI.enc)]], false⟩, mk 1 24 (c1.map (cdL 1 cdI).enc)]⟩ (fun e s => e = (.exit 0) ∧ Wk e_evening_square_int_rows s ⟨Fr 28 [(3, hd 0 (r.map (cdL 1 cdI).enc))], [mk 1 24 (r.map (cdL 1 cdI).enc)]⟩) := by
  intro f
  induction f with
  | zero => intro c1 c2 r h; cases h
  | succ f ih0 =>
    intro c1 c2 r h
    have ih := fun (c1 : (List (List Int))) (c2 : Int) => ih0 c1 c2 r
    unfold evening_square_int_rows_1 at h
    refine SemN.succ ?_
    refine Sem.seq ?_
    refine Sem.runS (s1 := ⟨Fr 28 [(1, .pt 0 0 0), (3, hd 1 (c1.map (cdL 1 cdI).enc)), (6, .v (.int .i64 x0.1)), (7, .v (.int .i64 c2)), (8, .v (.bool (decide (c2 < x0.1))))], [some ⟨2, 95, [.ag [.v (.int .i64 x0.1), .sl 1 (x0.2.map cdI.enc)]], false⟩, mk 1 24 (c1.map (cdL 1 cdI).enc)]⟩) ?_ ?_
    · refine RunS.segF (n := 28) e_evening_square_int_rows_ok 1 [(1, .pt 0 0 0), (3, hd 1 (c1.map (cdL 1 cdI).enc)), (6, .v (.int .i64 x0.1)), (7, .v (.int .i64 c2)), (8, .v (.bool (decide (c2 < x0.1))))] [some ⟨2, 95, [.ag [.v (.int .i64 x0.1), .sl 1 (x0.2.map cdI.enc)]], false⟩, mk 1 24 (c1.map (cdL 1 cdI).enc)] (by kernel_rfl) ?_
      exact RunS.done rfl (Wk.sel2 [0, 1] (by kernel_rfl) (by kernel_rfl) (by kernel_rfl) ⟨⟨_, rfl, bu_c (by kernel_rfl) (by kernel_rfl)⟩, ⟨_, rfl, bu_mk⟩, trivial⟩ ⟨lu (by kernel_rfl) (by kernel_rfl), lu_hd (b' := 1) (by kernel_rfl) (by kernel_rfl), lu (by kernel_rfl) (by kernel_rfl), lu (by kernel_rfl) (by kernel_rfl), lu (by kernel_rfl) (by kernel_rfl), trivial⟩)
    refine Sem.seq ?_
    refine Sem.cond (b := (decide (c2 < x0.1))) (by kernel_rfl) (fun hb3 => ?_) (fun hb3 => ?_)
    · rw [if_pos hb3] at h
      refine Sem.skip ?_
      refine Sem.seq ?_
      refine Sem.block ?_
      refine Sem.seq ?_
      refine Sem.runS (s1 := ⟨Fr 28 [(1, .pt 0 0 0), (3, hd 1 (c1.map (cdL 1 cdI).enc)), (4, .v (.int .i64 c2)), (6, .v (.int .i64 x0.1)), (7, .v (.int .i64 c2))], [some ⟨2, 95, [.ag [.v (.int .i64 x0.1), .sl 1 (x0.2.map cdI.enc)]], false⟩, mk 1 24 (c1.map (cdL 1 cdI).enc)]⟩) ?_ ?_
      · refine RunS.segF (n := 28) e_evening_square_int_rows_ok 2 [(1, .pt 0 0 0), (3, hd 1 (c1.map (cdL 1 cdI).enc)), (4, .v (.int .i64 c2)), (6, .v (.int .i64 x0.1)), (7, .v (.int .i64 c2))] [some ⟨2, 95, [.ag [.v (.int .i64 x0.1), .sl 1 (x0.2.map cdI.enc)]], false⟩, mk 1 24 (c1.map (cdL 1 cdI).enc)] (by kernel_rfl) ?_
        exact RunS.done rfl (Wk.sel2 [0, 1] (by kernel_rfl) (by kernel_rfl) (by kernel_rfl) ⟨⟨_, rfl, bu_c (by kernel_rfl) (by kernel_rfl)⟩, ⟨_, rfl, bu_mk⟩, trivial⟩ ⟨lu (by kernel_rfl) (by kernel_rfl), lu_hd (b' := 1) (by kernel_rfl) (by kernel_rfl), lu (by kernel_rfl) (by kernel_rfl), lu (by kernel_rfl) (by kernel_rfl), lu (by kernel_rfl) (by kernel_rfl), trivial⟩)
      by_cases hk4 : (cutOk (wr .i64 (c2 * x0.1)) (wr .i64 ((wr .i64 (c2 + 1)) * x0.1)) x0.2.length) = true
      case neg => rw [if_neg hk4] at h; cases h
      rw [if_pos hk4] at h
      obtain ⟨v5, hv5, h⟩ := Option.bind_eq_some_iff.1 h
      by_cases hk6 : (capOk 24 (c1.length + 1)) = true
      case neg => rw [if_neg hk6] at h; cases h
      rw [if_pos hk6] at h
      refine Sem.runS (s1 := ⟨Fr 28 [(1, .pt 0 0 0), (3, hd 1 ((c1 ++ [v5]).map (cdL 1 cdI).enc)), (6, .v (.int .i64 x0.1)), (7, .v (.int .i64 c2))], [some ⟨2, 95, [.ag [.v (.int .i64 x0.1), .sl 1 (x0.2.map cdI.enc)]], false⟩, mk 1 24 ((c1 ++ [v5]).map (cdL 1 cdI).enc)]⟩) ?_ ?_
      · refine RunS.segF (n := 28) e_evening_square_int_rows_ok 12 [(1, .pt 0 0 0), (6, .v (.int .i64 x0.1)), (7, .v (.int .i64 c2)), (10, hd 1 (c1.map (cdL 1 cdI).enc)), (12, .sl 1 (x0.2.map cdI.enc)), (16, .v (.int .i64 (wr .i64 (c2 * x0.1)))), (21, .v (.int .i64 (wr .i64 ((wr .i64 (c2 + 1)) * x0.1))))] [some ⟨2, 95, [.ag [.v (.int .i64 x0.1), .sl 1 (x0.2.map cdI.enc)]], false⟩, mk 1 24 (c1.map (cdL 1 cdI).enc)] (by kernel_rfl) ?_
        refine RunS.one e_evening_square_int_rows_ok 0 rfl (op_q (wantedA_none rfl) rfl (q_slice (a := .sl 1 (x0.2.map cdI.enc)) (l := (some (.v (.int .i64 (wr .i64 (c2 * x0.1)))))) (u := (some (.v (.int .i64 (wr .i64 ((wr .i64 (c2 + 1)) * x0.1)))))) (m := none) (by kernel_rfl) (by kernel_rfl) (by kernel_rfl) rfl (slice_sl (xs := x0.2) (e := cdI.enc) (k := 1) (el := 3) (lo := (wr .i64 (c2 * x0.1))) (hi := (wr .i64 ((wr .i64 (c2 + 1)) * x0.1))) (by kernel_rfl) (by kernel_rfl) (natB_i (cut_lo hk4)) (natB_i (cut_hi hk4)) hk4))) ?_
        refine RunS.call e_evening_square_int_rows_ok (fid := 27) (s := cs_slices_Clone_L_int) (F := fun a => slices_Clone_L_int a.1) (er := er_slices_Clone_L_int) (xs := [.sl 1 (((x0.2.take (wr .i64 ((wr .i64 (c2 + 1)) * x0.1)).toNat).drop (wr .i64 (c2 * x0.1)).toNat).map cdI.enc)]) (a := (((x0.2.take (wr .i64 ((wr .i64 (c2 + 1)) * x0.1)).toNat).drop (wr .i64 (c2 * x0.1)).toNat), ())) rfl (wantedA_none rfl) (by kernel_rfl) (by kernel_rfl) (by kernel_rfl) (by kernel_rfl) (Sns.cons (Sn.enc (c := (cdL 1 cdI)) (v := ((x0.2.take (wr .i64 ((wr .i64 (c2 + 1)) * x0.1)).toNat).drop (wr .i64 (c2 * x0.1)).toNat))) Sns.nil) (.inl (by kernel_rfl)) hv5 ?_
        refine RunS.segF (n := 28) e_evening_square_int_rows_ok 1 [(1, .pt 0 0 0), (6, .v (.int .i64 x0.1)), (7, .v (.int .i64 c2)), (10, hd 1 (c1.map (cdL 1 cdI).enc)), (24, hd 2 ([v5].map (cdL 1 cdI).enc))] [some ⟨2, 95, [.ag [.v (.int .i64 x0.1), .sl 1 (x0.2.map cdI.enc)]], false⟩, mk 1 24 (c1.map (cdL 1 cdI).enc), mk 1 24 ([v5].map (cdL 1 cdI).enc)] (by kernel_rfl) ?_
        refine RunS.one e_evening_square_int_rows_ok 0 rfl (op_w (wantedA_none rfl) rfl (by kernel_rfl) (by kernel_rfl) (w_append (a := hd 1 (c1.map (cdL 1 cdI).enc)) (b := hd 2 ([v5].map (cdL 1 cdI).enc)) (by kernel_rfl) (by kernel_rfl) (append_B (c := (cdL 1 cdI)) (xs := c1) (vs := [v5]) (k := 1) (bytes := 24) (el := 24) (by kernel_rfl) (by kernel_rfl) (elems_hd (t := 24) (by kernel_rfl)) (List.cons_ne_nil _ _) (by kernel_rfl) hk6))) ?_
        refine RunS.segF (n := 28) e_evening_square_int_rows_ok 1 [(1, .pt 0 0 0), (3, hd 3 ((c1 ++ [v5]).map (cdL 1 cdI).enc)), (6, .v (.int .i64 x0.1)), (7, .v (.int .i64 c2))] [some ⟨2, 95, [.ag [.v (.int .i64 x0.1), .sl 1 (x0.2.map cdI.enc)]], false⟩, none, mk 1 24 ([v5].map (cdL 1 cdI).enc), mk 1 24 ((c1 ++ [v5]).map (cdL 1 cdI).enc)] (by kernel_rfl) ?_
        exact RunS.done rfl (Wk.sel2 [0, 3] (by kernel_rfl) (by kernel_rfl) (by kernel_rfl) ⟨⟨_, rfl, bu_c (by kernel_rfl) (by kernel_rfl)⟩, ⟨_, rfl, bu_mk⟩, trivial⟩ ⟨lu (by kernel_rfl) (by kernel_rfl), lu_hd (b' := 3) (by kernel_rfl) (by kernel_rfl), lu (by kernel_rfl) (by kernel_rfl), lu (by kernel_rfl) (by kernel_rfl), trivial⟩)
      refine Sem.runS (s1 := ⟨Fr 28 [(1, .pt 0 0 0), (3, hd 1 ((c1 ++ [v5]).map (cdL 1 cdI).enc)), (6, .v (.int .i64 x0.1)), (7, .v (.int .i64 (wr .i64 (c2 + 1))))], [some ⟨2, 95, [.ag [.v (.int .i64 x0.1), .sl 1 (x0.2.map cdI.enc)]], false⟩, mk 1 24 ((c1 ++ [v5]).map (cdL 1 cdI).enc)]⟩) ?_ ?_
      · refine RunS.segF (n := 28) e_evening_square_int_rows_ok 2 [(1, .pt 0 0 0), (3, hd 1 ((c1 ++ [v5]).map (cdL 1 cdI).enc)), (6, .v (.int .i64 x0.1)), (7, .v (.int .i64 (wr .i64 (c2 + 1))))] [some ⟨2, 95, [.ag [.v (.int .i64 x0.1), .sl 1 (x0.2.map cdI.enc)]], false⟩, mk 1 24 ((c1 ++ [v5]).map (cdL 1 cdI).enc)] (by kernel_rfl) ?_
        exact RunS.done rfl (Wk.sel2 [0, 1] (by kernel_rfl) (by kernel_rfl) (by kernel_rfl) ⟨⟨_, rfl, bu_c (by kernel_rfl) (by kernel_rfl)⟩, ⟨_, rfl, bu_mk⟩, trivial⟩ ⟨lu (by kernel_rfl) (by kernel_rfl), lu_hd (b' := 1) (by kernel_rfl) (by kernel_rfl), lu (by kernel_rfl) (by kernel_rfl), lu (by kernel_rfl) (by kernel_rfl), trivial⟩)
      exact SemN.wk (s1 := ⟨Fr 28 [(1, .pt 0 0 0), (3, hd 1 ((c1 ++ [v5]).map (cdL 1 cdI).enc)), (6, .v (.int .i64 x0.1)), (7, .v (.int .i64 (wr .i64 (c2 + 1))))], [some ⟨2, 95, [.ag [.v (.int .i64 x0.1), .sl 1 (x0.2.map cdI.enc)]], false⟩, mk 1 24 ((c1 ++ [v5]).map (cdL 1 cdI).enc)]⟩) (Wk.sel2 [0, 1] (by kernel_rfl) (by kernel_rfl) (by kernel_rfl) ⟨⟨_, rfl, bu_c (by kernel_rfl) (by kernel_rfl)⟩, ⟨_, rfl, bu_mk⟩, trivial⟩ ⟨lu (by kernel_rfl) (by kernel_rfl), lu_hd (b' := 1) (by kernel_rfl) (by kernel_rfl), lu (by kernel_rfl) (by kernel_rfl), lu (by kernel_rfl) (by kernel_rfl), trivial⟩) (ih (c1 ++ [v5]) (wr .i64 (c2 + 1)) h)
    · rw [if_f hb3] at h
      refine Sem.exit ?_
      have hq := Option.some.inj h; subst hq
      exact ⟨rfl, (Wk.sel2 [1] (by kernel_rfl) (by kernel_rfl) (by kernel_rfl) ⟨⟨_, rfl, bu_mk⟩, trivial⟩ ⟨lu_hd (b' := 1) (by kernel_rfl) (by kernel_rfl), trivial⟩)⟩
set_option maxHeartbeats 4000000 in
set_option maxRecDepth 100000 in
theorem evening_square_int_rows_sem (x0 : (Int × (List Int))) (r : (List (List Int))) (h : evening_square_int_rows x0 = some r) : Sem e_evening_square_int_rows ⟨none, false⟩ cb_evening_square_int_rows ⟨Fr 28 (pairs0 0 (cs_evening_square_int_rows.enc (x0, ()))), []⟩ fun e s' => (e = .normal ∨ e = .ret) ∧ ∃ xs, resA e_evening_square_int_rows.P s'.fr s'.hp Tryd.f85.results.toList = some xs ∧ retA xs = er_evening_square_int_rows r := by
  unfold evening_square_int_rows at h
  refine Sem.wkQ (Sem.wk (s1 := ⟨Fr 28 [(0, .ag [.v (.int .i64 x0.1), .sl 1 (x0.2.map cdI.enc)])], []⟩) (Wk.fr (by kernel_rfl)) ?_)
  refine Sem.seq ?_
  refine Sem.runS (s1 := ⟨Fr 28 [(1, .pt 0 0 0)], [some ⟨2, 95, [.ag [.v (.int .i64 x0.1), .sl 1 (x0.2.map cdI.enc)]], false⟩]⟩) ?_ ?_
  · refine RunS.segF (n := 28) e_evening_square_int_rows_ok 2 [(1, .pt 0 0 0)] [some ⟨2, 95, [.ag [.v (.int .i64 x0.1), .sl 1 (x0.2.map cdI.enc)]], false⟩] (by kernel_rfl) ?_
    exact RunS.done rfl (Wk.sel2 [0] (by kernel_rfl) (by kernel_rfl) (by kernel_rfl) ⟨⟨_, rfl, bu_c (by kernel_rfl) (by kernel_rfl)⟩, trivial⟩ ⟨lu (by kernel_rfl) (by kernel_rfl), trivial⟩)
  refine Sem.seq ?_
  refine Sem.runS (s1 := ⟨Fr 28 [(1, .pt 0 0 0), (3, .e0)], [some ⟨2, 95, [.ag [.v (.int .i64 x0.1), .sl 1 (x0.2.map cdI.enc)]], false⟩]⟩) ?_ ?_
  · refine RunS.segF (n := 28) e_evening_square_int_rows_ok 1 [(1, .pt 0 0 0), (3, .e0)] [some ⟨2, 95, [.ag [.v (.int .i64 x0.1), .sl 1 (x0.2.map cdI.enc)]], false⟩] (by kernel_rfl) ?_
    exact RunS.done rfl (Wk.sel2 [0] (by kernel_rfl) (by kernel_rfl) (by kernel_rfl) ⟨⟨_, rfl, bu_c (by kernel_rfl) (by kernel_rfl)⟩, trivial⟩ ⟨lu (by kernel_rfl) (by kernel_rfl), lu (by kernel_rfl) (by kernel_rfl), trivial⟩)
  refine Sem.seq ?_
  refine Sem.seq ?_
  refine Sem.runS (s1 := ⟨Fr 28 [(1, .pt 0 0 0), (3, .e0), (6, .v (.int .i64 x0.1)), (7, .v (.int .i64 0))], [some ⟨2, 95, [.ag [.v (.int .i64 x0.1), .sl 1 (x0.2.map cdI.enc)]], false⟩]⟩) ?_ ?_
  · refine RunS.segF (n := 28) e_evening_square_int_rows_ok 3 [(1, .pt 0 0 0), (3, .e0), (6, .v (.int .i64 x0.1)), (7, .v (.int .i64 0))] [some ⟨2, 95, [.ag [.v (.int .i64 x0.1), .sl 1 (x0.2.map cdI.enc)]], false⟩] (by kernel_rfl) ?_
    exact RunS.done rfl (Wk.sel2 [0] (by kernel_rfl) (by kernel_rfl) (by kernel_rfl) ⟨⟨_, rfl, bu_c (by kernel_rfl) (by kernel_rfl)⟩, trivial⟩ ⟨lu (by kernel_rfl) (by kernel_rfl), lu (by kernel_rfl) (by kernel_rfl), lu (by kernel_rfl) (by kernel_rfl), lu (by kernel_rfl) (by kernel_rfl), trivial⟩)
  refine Sem.block ?_
  obtain ⟨r8, hr8, h⟩ := Option.bind_eq_some_iff.1 h
  refine Sem.loop (n := 100000) ?_
  refine Sem.cutN (SemN.wk (s1 := ⟨Fr 28 [(1, .pt 0 0 0), (3, hd 1 ([].map (cdL 1 cdI).enc)), (6, .v (.int .i64 x0.1)), (7, .v (.int .i64 0))], [some ⟨2, 95, [.ag [.v (.int .i64 x0.1), .sl 1 (x0.2.map cdI.enc)]], false⟩, mk 1 24 ([].map (cdL 1 cdI).enc)]⟩) (Wk.trans (s1 := ⟨Fr 28 [(1, .pt 0 0 0), (3, hd 1 ([].map (cdL 1 cdI).enc)), (6, .v (.int .i64 x0.1)), (7, .v (.int .i64 0))], [some ⟨2, 95, [.ag [.v (.int .i64 x0.1), .sl 1 (x0.2.map cdI.enc)]], false⟩, mk 1 24 ([].map (cdL 1 cdI).enc)]⟩) Wk.none (Wk.sel2 [0, 1] (by kernel_rfl) (by kernel_rfl) (by kernel_rfl) ⟨⟨_, rfl, bu_c (by kernel_rfl) (by kernel_rfl)⟩, ⟨_, rfl, bu_none⟩, trivial⟩ ⟨lu (by kernel_rfl) (by kernel_rfl), lu (by kernel_rfl) (by kernel_rfl), lu (by kernel_rfl) (by kernel_rfl), lu (by kernel_rfl) (by kernel_rfl), trivial⟩)) (evening_square_int_rows_1_ok x0 _ [] 0 _ hr8)) ?_
  refine Sem.seq ?_
  refine Sem.runS (s1 := ⟨Fr 28 [(2, hd 0 (r8.map (cdL 1 cdI).enc))], [mk 1 24 (r8.map (cdL 1 cdI).enc)]⟩) ?_ ?_
  · refine RunS.segF (n := 28) e_evening_square_int_rows_ok 2 [(2, hd 0 (r8.map (cdL 1 cdI).enc))] [mk 1 24 (r8.map (cdL 1 cdI).enc)] (by kernel_rfl) ?_
    exact RunS.done rfl (Wk.sel2 [0] (by kernel_rfl) (by kernel_rfl) (by kernel_rfl) ⟨⟨_, rfl, bu_mk⟩, trivial⟩ ⟨lu_hd (b' := 0) (by kernel_rfl) (by kernel_rfl), trivial⟩)
  refine Sem.ret ?_
  have hq := Option.some.inj h; subst hq
  exact ⟨⟨Fr 28 [(2, .sl 1 (r8.map (cdL 1 cdI).enc))], []⟩, (Wk.trans (s1 := ⟨Fr 28 [(2, .sl 1 (r8.map (cdL 1 cdI).enc))], [none]⟩) (Wk.frzG 0 (.inl (by kernel_rfl)) ⟨.inl rfl, trivial⟩ ⟨⟨hd 0 (r8.map (cdL 1 cdI).enc), (by kernel_rfl), fz_hd (t := 24) (by kernel_rfl) enc_ok⟩, trivial⟩) (Wk.sel2 [] (by kernel_rfl) (by kernel_rfl) (by kernel_rfl) trivial ⟨lu (by kernel_rfl) (by kernel_rfl), trivial⟩)), .inr rfl, [.sl 1 (r8.map (cdL 1 cdI).enc)], (by kernel_rfl), (by kernel_rfl)⟩
def t_evening_square_int_rows : List AV → Option AV := told cs_evening_square_int_rows (fun a => evening_square_int_rows a.1) er_evening_square_int_rows
theorem x_evening_square_int_rows : XOk 85 t_evening_square_int_rows := by
  refine EnvOk.x (E := e_evening_square_int_rows) (contract_ok e_evening_square_int_rows_ok (fn := Tryd.f85) (c := cb_evening_square_int_rows) ?h1 ?h2 ⟨Tryd.call85⟩ cs_evening_square_int_rows (fun a => evening_square_int_rows a.1) er_evening_square_int_rows (fun a => (by show 1 ≤ 28; decide)) ?h3 ?h4) rfl rfl
  case h1 => kernel_rfl
  case h2 => kernel_rfl
  case h3 => intro b; kernel_rfl
  case h4 => exact fun a b h => evening_square_int_rows_sem a.1 b h
end Go.Proofs.YthofgamegondnaaDoor

namespace Go.Proofs.YthofgamegondnaaDoor
open Go.RowKit
/- trestle/evening.Meet -/
noncomputable def e_evening_Meet : Env := (((E0.withX 60 t_evening_valid).withX 78 t_evening_meetings).withX 85 t_evening_square_int_rows)
theorem e_evening_Meet_ok : EnvOk e_evening_Meet := (EnvOk.withX (EnvOk.withX (EnvOk.withX E0_ok x_evening_valid.1 x_evening_valid.2) x_evening_meetings.1 x_evening_meetings.2) x_evening_square_int_rows.1 x_evening_square_int_rows.2)
noncomputable def cb_evening_Meet : Code := codeOf Tryd.f48
def evening_Meet (x0 : Int) (x1 : (List (List (List Int)))) : Option ((List (List Int))) :=
  (evening_valid x0 x1).bind fun v1 =>
  if (!v1) = true then
  some []
  else
  (evening_meetings x0 x1).bind fun v3 =>
  (evening_square_int_rows (v3.1, v3.2)).bind fun v4 =>
  some v4
def cs_evening_Meet : Cs (Int × (List (List (List Int))) × Unit) := (csC cdI (csC (cdL 1 (cdL 1 (cdL 1 cdI))) csN))
def er_evening_Meet (r : (List (List Int))) : AV := (cdL 1 (cdL 1 cdI)).enc r
set_option maxHeartbeats 4000000 in
set_option maxRecDepth 100000 in
theorem evening_Meet_sem (x0 : Int) (x1 : (List (List (List Int)))) (r : (List (List Int))) (h : evening_Meet x0 x1 = some r) : Sem e_evening_Meet ⟨none, false⟩ cb_evening_Meet ⟨Fr 13 (pairs0 0 (cs_evening_Meet.enc (x0, x1, ()))), []⟩ fun e s' => (e = .normal ∨ e = .ret) ∧ ∃ xs, resA e_evening_Meet.P s'.fr s'.hp Tryd.f48.results.toList = some xs ∧ retA xs = er_evening_Meet r := by
  unfold evening_Meet at h
  refine Sem.wkQ (Sem.wk (s1 := ⟨Fr 13 [(0, .v (.int .i64 x0)), (1, .sl 1 (x1.map (cdL 1 (cdL 1 cdI)).enc))], []⟩) (Wk.fr (by kernel_rfl)) ?_)
  refine Sem.seq ?_
  refine Sem.runS (s1 := ⟨Fr 13 [(0, .v (.int .i64 x0)), (1, .sl 1 (x1.map (cdL 1 (cdL 1 cdI)).enc))], []⟩) ?_ ?_
  · refine RunS.segF (n := 13) e_evening_Meet_ok 1 [(0, .v (.int .i64 x0)), (1, .sl 1 (x1.map (cdL 1 (cdL 1 cdI)).enc))] [] (by kernel_rfl) ?_
    exact RunS.done rfl (Wk.fr (by kernel_rfl))
  refine Sem.seq ?_
  refine Sem.seq ?_
  obtain ⟨v1, hv1, h⟩ := Option.bind_eq_some_iff.1 h
  refine Sem.runS (s1 := ⟨Fr 13 [(0, .v (.int .i64 x0)), (1, .sl 1 (x1.map (cdL 1 (cdL 1 cdI)).enc)), (8, .v (.bool (!v1)))], []⟩) ?_ ?_
  · refine RunS.segF (n := 13) e_evening_Meet_ok 2 [(0, .v (.int .i64 x0)), (1, .sl 1 (x1.map (cdL 1 (cdL 1 cdI)).enc)), (5, .v (.int .i64 x0)), (6, .sl 1 (x1.map (cdL 1 (cdL 1 cdI)).enc))] [] (by kernel_rfl) ?_
    refine RunS.call e_evening_Meet_ok (fid := 60) (s := cs_evening_valid) (F := fun a => evening_valid a.1 a.2.1) (er := er_evening_valid) (xs := [.v (.int .i64 x0), .sl 1 (x1.map (cdL 1 (cdL 1 cdI)).enc)]) (a := (x0, x1, ())) rfl (wantedA_none rfl) (by kernel_rfl) (by kernel_rfl) (by kernel_rfl) (by kernel_rfl) (Sns.cons (Sn.enc (c := cdI) (v := x0)) (Sns.cons (Sn.enc (c := (cdL 1 (cdL 1 (cdL 1 cdI)))) (v := x1)) Sns.nil)) (.inl (by kernel_rfl)) hv1 ?_
    refine RunS.segF (n := 13) e_evening_Meet_ok 1 [(0, .v (.int .i64 x0)), (1, .sl 1 (x1.map (cdL 1 (cdL 1 cdI)).enc)), (8, .v (.bool (!v1)))] [] (by kernel_rfl) ?_
    exact RunS.done rfl (Wk.fr (by kernel_rfl))
  refine Sem.cond (b := (!v1)) (by kernel_rfl) (fun hb2 => ?_) (fun hb2 => ?_)
  · rw [if_pos hb2] at h
    refine Sem.seq ?_
    refine Sem.runS (s1 := ⟨Fr 13 [(4, .e0)], []⟩) ?_ ?_
    · refine RunS.segF (n := 13) e_evening_Meet_ok 1 [(4, .e0)] [] (by kernel_rfl) ?_
      exact RunS.done rfl (Wk.fr (by kernel_rfl))
    refine Sem.ret ?_
    have hq := Option.some.inj h; subst hq
    exact ⟨⟨Fr 13 [(4, .sl 1 ([].map (cdL 1 cdI).enc))], []⟩, (Wk.trans (s1 := ⟨Fr 13 [(4, .e0)], []⟩) (Wk.fr (by kernel_rfl)) (Wk.trans (s1 := ⟨Fr 13 [(4, .e0)], [none]⟩) Wk.none (Wk.trans (s1 := ⟨Fr 13 [(4, .sl 1 ([].map (cdL 1 cdI).enc))], [none]⟩) (Wk.frzG 0 (.inr (by kernel_rfl)) ⟨.inl rfl, trivial⟩ ⟨⟨.e0, (by kernel_rfl), fz_e0⟩, trivial⟩) (Wk.sel2 [] (by kernel_rfl) (by kernel_rfl) (by kernel_rfl) trivial ⟨lu (by kernel_rfl) (by kernel_rfl), trivial⟩)))), .inr rfl, [.sl 1 ([].map (cdL 1 cdI).enc)], (by kernel_rfl), (by kernel_rfl)⟩
  · rw [if_f hb2] at h
    refine Sem.skip ?_
    refine Sem.seq ?_
    obtain ⟨v3, hv3, h⟩ := Option.bind_eq_some_iff.1 h
    obtain ⟨v4, hv4, h⟩ := Option.bind_eq_some_iff.1 h
    refine Sem.runS (s1 := ⟨Fr 13 [(4, .sl 1 (v4.map (cdL 1 cdI).enc))], []⟩) ?_ ?_
    · refine RunS.segF (n := 13) e_evening_Meet_ok 2 [(9, .v (.int .i64 x0)), (10, .sl 1 (x1.map (cdL 1 (cdL 1 cdI)).enc))] [] (by kernel_rfl) ?_
      refine RunS.call e_evening_Meet_ok (fid := 78) (s := cs_evening_meetings) (F := fun a => evening_meetings a.1 a.2.1) (er := er_evening_meetings) (xs := [.v (.int .i64 x0), .sl 1 (x1.map (cdL 1 (cdL 1 cdI)).enc)]) (a := (x0, x1, ())) rfl (wantedA_none rfl) (by kernel_rfl) (by kernel_rfl) (by kernel_rfl) (by kernel_rfl) (Sns.cons (Sn.enc (c := cdI) (v := x0)) (Sns.cons (Sn.enc (c := (cdL 1 (cdL 1 (cdL 1 cdI)))) (v := x1)) Sns.nil)) (.inl (by kernel_rfl)) hv3 ?_
      refine RunS.call e_evening_Meet_ok (fid := 85) (s := cs_evening_square_int_rows) (F := fun a => evening_square_int_rows a.1) (er := er_evening_square_int_rows) (xs := [.ag [.v (.int .i64 v3.1), .sl 1 (v3.2.map cdI.enc)]]) (a := ((v3.1, v3.2), ())) rfl (wantedA_none rfl) (by kernel_rfl) (by kernel_rfl) (by kernel_rfl) (by kernel_rfl) (Sns.cons (Sn.enc (c := (cdG2 cdI (cdL 1 cdI) (fun _ => rfl) (fun _ => rfl))) (v := (v3.1, v3.2))) Sns.nil) (.inl (by kernel_rfl)) hv4 ?_
      refine RunS.segF (n := 13) e_evening_Meet_ok 1 [(4, .sl 1 (v4.map (cdL 1 cdI).enc))] [] (by kernel_rfl) ?_
      exact RunS.done rfl (Wk.fr (by kernel_rfl))
    refine Sem.ret ?_
    have hq := Option.some.inj h; subst hq
    exact ⟨⟨Fr 13 [(4, .sl 1 (v4.map (cdL 1 cdI).enc))], []⟩, (Wk.fr (by kernel_rfl)), .inr rfl, [.sl 1 (v4.map (cdL 1 cdI).enc)], (by kernel_rfl), (by kernel_rfl)⟩
def t_evening_Meet : List AV → Option AV := told cs_evening_Meet (fun a => evening_Meet a.1 a.2.1) er_evening_Meet
theorem x_evening_Meet : XOk 48 t_evening_Meet := by
  refine EnvOk.x (E := e_evening_Meet) (contract_ok e_evening_Meet_ok (fn := Tryd.f48) (c := cb_evening_Meet) ?h1 ?h2 ⟨Tryd.call48⟩ cs_evening_Meet (fun a => evening_Meet a.1 a.2.1) er_evening_Meet (fun a => (by show 2 ≤ 13; decide)) ?h3 ?h4) rfl rfl
  case h1 => kernel_rfl
  case h2 => kernel_rfl
  case h3 => intro b; kernel_rfl
  case h4 => exact fun a b h => evening_Meet_sem a.1 a.2.1 b h
end Go.Proofs.YthofgamegondnaaDoor

namespace Go.Proofs.YthofgamegondnaaDoor
open Go.RowKit
/- trestle/evening.Least -/
noncomputable def e_evening_Least : Env := ((E0.withX 60 t_evening_valid).withX 77 t_evening_extremes)
theorem e_evening_Least_ok : EnvOk e_evening_Least := (EnvOk.withX (EnvOk.withX E0_ok x_evening_valid.1 x_evening_valid.2) x_evening_extremes.1 x_evening_extremes.2)
noncomputable def cb_evening_Least : Code := codeOf Tryd.f39
def evening_Least (x0 : Int) (x1 : (List (List (List Int)))) : Option (Int) :=
  (evening_valid x0 x1).bind fun v1 =>
  if (!v1) = true then
  some 0
  else
  (evening_extremes x0 x1).bind fun v3 =>
  some v3.1
def cs_evening_Least : Cs (Int × (List (List (List Int))) × Unit) := (csC cdI (csC (cdL 1 (cdL 1 (cdL 1 cdI))) csN))
def er_evening_Least (r : Int) : AV := cdI.enc r
set_option maxHeartbeats 4000000 in
set_option maxRecDepth 100000 in
theorem evening_Least_sem (x0 : Int) (x1 : (List (List (List Int)))) (r : Int) (h : evening_Least x0 x1 = some r) : Sem e_evening_Least ⟨none, false⟩ cb_evening_Least ⟨Fr 18 (pairs0 0 (cs_evening_Least.enc (x0, x1, ()))), []⟩ fun e s' => (e = .normal ∨ e = .ret) ∧ ∃ xs, resA e_evening_Least.P s'.fr s'.hp Tryd.f39.results.toList = some xs ∧ retA xs = er_evening_Least r := by
  unfold evening_Least at h
  refine Sem.wkQ (Sem.wk (s1 := ⟨Fr 18 [(0, .v (.int .i64 x0)), (1, .sl 1 (x1.map (cdL 1 (cdL 1 cdI)).enc))], []⟩) (Wk.fr (by kernel_rfl)) ?_)
  refine Sem.seq ?_
  refine Sem.runS (s1 := ⟨Fr 18 [(0, .v (.int .i64 x0)), (1, .sl 1 (x1.map (cdL 1 (cdL 1 cdI)).enc))], []⟩) ?_ ?_
  · refine RunS.segF (n := 18) e_evening_Least_ok 1 [(0, .v (.int .i64 x0)), (1, .sl 1 (x1.map (cdL 1 (cdL 1 cdI)).enc))] [] (by kernel_rfl) ?_
    exact RunS.done rfl (Wk.fr (by kernel_rfl))
  refine Sem.seq ?_
  refine Sem.seq ?_
  obtain ⟨v1, hv1, h⟩ := Option.bind_eq_some_iff.1 h
  refine Sem.runS (s1 := ⟨Fr 18 [(0, .v (.int .i64 x0)), (1, .sl 1 (x1.map (cdL 1 (cdL 1 cdI)).enc)), (10, .v (.bool (!v1)))], []⟩) ?_ ?_
  · refine RunS.segF (n := 18) e_evening_Least_ok 2 [(0, .v (.int .i64 x0)), (1, .sl 1 (x1.map (cdL 1 (cdL 1 cdI)).enc)), (7, .v (.int .i64 x0)), (8, .sl 1 (x1.map (cdL 1 (cdL 1 cdI)).enc))] [] (by kernel_rfl) ?_
    refine RunS.call e_evening_Least_ok (fid := 60) (s := cs_evening_valid) (F := fun a => evening_valid a.1 a.2.1) (er := er_evening_valid) (xs := [.v (.int .i64 x0), .sl 1 (x1.map (cdL 1 (cdL 1 cdI)).enc)]) (a := (x0, x1, ())) rfl (wantedA_none rfl) (by kernel_rfl) (by kernel_rfl) (by kernel_rfl) (by kernel_rfl) (Sns.cons (Sn.enc (c := cdI) (v := x0)) (Sns.cons (Sn.enc (c := (cdL 1 (cdL 1 (cdL 1 cdI)))) (v := x1)) Sns.nil)) (.inl (by kernel_rfl)) hv1 ?_
    refine RunS.segF (n := 18) e_evening_Least_ok 1 [(0, .v (.int .i64 x0)), (1, .sl 1 (x1.map (cdL 1 (cdL 1 cdI)).enc)), (10, .v (.bool (!v1)))] [] (by kernel_rfl) ?_
    exact RunS.done rfl (Wk.fr (by kernel_rfl))
  refine Sem.cond (b := (!v1)) (by kernel_rfl) (fun hb2 => ?_) (fun hb2 => ?_)
  · rw [if_pos hb2] at h
    refine Sem.seq ?_
    refine Sem.runS (s1 := ⟨Fr 18 [(4, .v (.int .i64 0))], []⟩) ?_ ?_
    · refine RunS.segF (n := 18) e_evening_Least_ok 1 [(4, .v (.int .i64 0))] [] (by kernel_rfl) ?_
      exact RunS.done rfl (Wk.fr (by kernel_rfl))
    refine Sem.ret ?_
    have hq := Option.some.inj h; subst hq
    exact ⟨⟨Fr 18 [(4, .v (.int .i64 0))], []⟩, (Wk.fr (by kernel_rfl)), .inr rfl, [.v (.int .i64 0)], (by kernel_rfl), (by kernel_rfl)⟩
  · rw [if_f hb2] at h
    refine Sem.skip ?_
    refine Sem.seq ?_
    obtain ⟨v3, hv3, h⟩ := Option.bind_eq_some_iff.1 h
    refine Sem.runS (s1 := ⟨Fr 18 [(5, .v (.int .i64 v3.1))], []⟩) ?_ ?_
    · refine RunS.segF (n := 18) e_evening_Least_ok 2 [(12, .v (.int .i64 x0)), (13, .sl 1 (x1.map (cdL 1 (cdL 1 cdI)).enc))] [] (by kernel_rfl) ?_
      refine RunS.call e_evening_Least_ok (fid := 77) (s := cs_evening_extremes) (F := fun a => evening_extremes a.1 a.2.1) (er := er_evening_extremes) (xs := [.v (.int .i64 x0), .sl 1 (x1.map (cdL 1 (cdL 1 cdI)).enc)]) (a := (x0, x1, ())) rfl (wantedA_none rfl) (by kernel_rfl) (by kernel_rfl) (by kernel_rfl) (by kernel_rfl) (Sns.cons (Sn.enc (c := cdI) (v := x0)) (Sns.cons (Sn.enc (c := (cdL 1 (cdL 1 (cdL 1 cdI)))) (v := x1)) Sns.nil)) (.inl (by kernel_rfl)) hv3 ?_
      refine RunS.segF (n := 18) e_evening_Least_ok 5 [(5, .v (.int .i64 v3.1))] [] (by kernel_rfl) ?_
      exact RunS.done rfl (Wk.fr (by kernel_rfl))
    refine Sem.seq ?_
    refine Sem.runS (s1 := ⟨Fr 18 [(4, .v (.int .i64 v3.1))], []⟩) ?_ ?_
    · refine RunS.segF (n := 18) e_evening_Least_ok 2 [(4, .v (.int .i64 v3.1))] [] (by kernel_rfl) ?_
      exact RunS.done rfl (Wk.fr (by kernel_rfl))
    refine Sem.ret ?_
    have hq := Option.some.inj h; subst hq
    exact ⟨⟨Fr 18 [(4, .v (.int .i64 v3.1))], []⟩, (Wk.fr (by kernel_rfl)), .inr rfl, [.v (.int .i64 v3.1)], (by kernel_rfl), (by kernel_rfl)⟩
def t_evening_Least : List AV → Option AV := told cs_evening_Least (fun a => evening_Least a.1 a.2.1) er_evening_Least
theorem x_evening_Least : XOk 39 t_evening_Least := by
  refine EnvOk.x (E := e_evening_Least) (contract_ok e_evening_Least_ok (fn := Tryd.f39) (c := cb_evening_Least) ?h1 ?h2 ⟨Tryd.call39⟩ cs_evening_Least (fun a => evening_Least a.1 a.2.1) er_evening_Least (fun a => (by show 2 ≤ 18; decide)) ?h3 ?h4) rfl rfl
  case h1 => kernel_rfl
  case h2 => kernel_rfl
  case h3 => intro b; kernel_rfl
  case h4 => exact fun a b h => evening_Least_sem a.1 a.2.1 b h
end Go.Proofs.YthofgamegondnaaDoor

namespace Go.Proofs.YthofgamegondnaaDoor
open Go.RowKit
/- slices.Index[[]int,int] -/
noncomputable def e_slices_Index_L_int : Env := E0
theorem e_slices_Index_L_int_ok : EnvOk e_slices_Index_L_int := E0_ok
noncomputable def cb_slices_Index_L_int : Code := codeOf Tryd.f82
def slices_Index_L_int_1 (x0 : (List Int)) (x1 : Int) : Nat → Int → Option ((Unit) ⊕ (Int))
  | 0, _ => none
  | f + 1, c1 =>
    if (decide (c1 < (x0.length : Int))) = true then
    (idx x0 c1).bind fun v3 =>
    if (x1 == v3) = true then
    some (.inr c1)
    else
    slices_Index_L_int_1 x0 x1 f (wr .i64 (c1 + 1))
    else
    some (.inl ())
def slices_Index_L_int (x0 : (List Int)) (x1 : Int) : Option (Int) :=
  (slices_Index_L_int_1 x0 x1 100000 0).bind fun r6 =>
  match r6 with
  | (.inl w7) =>
    some (-1)
  | (.inr w8) =>
    some w8
def cs_slices_Index_L_int : Cs ((List Int) × Int × Unit) := (csC (cdL 1 cdI) (csC cdI csN))
def er_slices_Index_L_int (r : Int) : AV := cdI.enc r
set_option maxHeartbeats 4000000 in
set_option maxRecDepth 100000 in
theorem slices_Index_L_int_1_ok (x0 : (List Int)) (x1 : Int) : ∀ (f : Nat) (c1 : Int) (r : (Unit) ⊕ (Int)), slices_Index_L_int_1 x0 x1 f c1 = some r → SemN e_slices_Index_L_int ⟨none, false⟩ (pc cb_slices_Index_L_int [1, 0, 1, 0, 0]) f ⟨Fr 19 [(0, .sl 1 (x0.map cdI.enc)), (1, .v (.int .i64 x1)), (7, .v (.int .i64 (x0.length : Int))), (8, .v (.int .i64 c1))], []⟩ (fun e s => match r with
  | (.inl w) => e = (.exit 0) ∧ Wk e_slices_Index_L_int s ⟨Fr 19 [], []⟩
  | (.inr w) => e = .ret ∧ Wk e_slices_Index_L_int s ⟨Fr 19 [(4, .v (.int .i64 w))], []⟩) := by
  intro f
  induction f with
  | zero => intro c1 r h; cases h
  | succ f ih0 =>
    intro c1 r h
    have ih := fun (c1 : Int) => ih0 c1 r
    unfold slices_Index_L_int_1 at h
    refine SemN.succ ?_
    refine Sem.seq ?_
    refine Sem.runS (s1 := ⟨Fr 19 [(0, .sl 1 (x0.map cdI.enc)), (1, .v (.int .i64 x1)), (7, .v (.int .i64 (x0.length : Int))), (8, .v (.int .i64 c1)), (9, .v (.bool (decide (c1 < (x0.length : Int)))))], []⟩) ?_ ?_
    · refine RunS.segF (n := 19) e_slices_Index_L_int_ok 1 [(0, .sl 1 (x0.map cdI.enc)), (1, .v (.int .i64 x1)), (7, .v (.int .i64 (x0.length : Int))), (8, .v (.int .i64 c1)), (9, .v (.bool (decide (c1 < (x0.length : Int)))))] [] (by kernel_rfl) ?_
      exact RunS.done rfl (Wk.fr (by kernel_rfl))
    refine Sem.seq ?_
    refine Sem.cond (b := (decide (c1 < (x0.length : Int)))) (by kernel_rfl) (fun hb2 => ?_) (fun hb2 => ?_)
    · rw [if_pos hb2] at h
      refine Sem.skip ?_
      refine Sem.seq ?_
      refine Sem.block ?_
      refine Sem.seq ?_
      refine Sem.runS (s1 := ⟨Fr 19 [(0, .sl 1 (x0.map cdI.enc)), (1, .v (.int .i64 x1)), (5, .v (.int .i64 c1)), (7, .v (.int .i64 (x0.length : Int))), (8, .v (.int .i64 c1))], []⟩) ?_ ?_
      · refine RunS.segF (n := 19) e_slices_Index_L_int_ok 2 [(0, .sl 1 (x0.map cdI.enc)), (1, .v (.int .i64 x1)), (5, .v (.int .i64 c1)), (7, .v (.int .i64 (x0.length : Int))), (8, .v (.int .i64 c1))] [] (by kernel_rfl) ?_
        exact RunS.done rfl (Wk.fr (by kernel_rfl))
      refine Sem.seq ?_
      obtain ⟨v3, hv3, h⟩ := Option.bind_eq_some_iff.1 h
      refine Sem.runS (s1 := ⟨Fr 19 [(0, .sl 1 (x0.map cdI.enc)), (1, .v (.int .i64 x1)), (5, .v (.int .i64 c1)), (7, .v (.int .i64 (x0.length : Int))), (8, .v (.int .i64 c1)), (16, .v (.bool (x1 == v3)))], []⟩) ?_ ?_
      · refine RunS.segF (n := 19) e_slices_Index_L_int_ok 3 [(0, .sl 1 (x0.map cdI.enc)), (1, .v (.int .i64 x1)), (5, .v (.int .i64 c1)), (7, .v (.int .i64 (x0.length : Int))), (8, .v (.int .i64 c1)), (11, .v (.int .i64 x1)), (12, .sl 1 (x0.map cdI.enc)), (13, .v (.int .i64 c1))] [] (by kernel_rfl) ?_
        refine RunS.one e_slices_Index_L_int_ok 0 rfl (op_q (wantedA_none rfl) rfl (q_indexAddr (a := .sl 1 (x0.map cdI.enc)) (b := .v (.int .i64 c1)) (by kernel_rfl) (by kernel_rfl) (ix_sl (e := cdI.enc) (el := 3) (k := 1) (ki := .i64) (by kernel_rfl) (by kernel_rfl) hv3))) ?_
        refine RunS.segF (n := 19) e_slices_Index_L_int_ok 2 [(0, .sl 1 (x0.map cdI.enc)), (1, .v (.int .i64 x1)), (5, .v (.int .i64 c1)), (7, .v (.int .i64 (x0.length : Int))), (8, .v (.int .i64 c1)), (16, .v (.bool (x1 == v3)))] [] (by kernel_rfl) ?_
        exact RunS.done rfl (Wk.fr (by kernel_rfl))
      refine Sem.cond (b := (x1 == v3)) (by kernel_rfl) (fun hb4 => ?_) (fun hb4 => ?_)
      · rw [if_pos hb4] at h
        refine Sem.seq ?_
        refine Sem.runS (s1 := ⟨Fr 19 [(4, .v (.int .i64 c1))], []⟩) ?_ ?_
        · refine RunS.segF (n := 19) e_slices_Index_L_int_ok 2 [(4, .v (.int .i64 c1))] [] (by kernel_rfl) ?_
          exact RunS.done rfl (Wk.fr (by kernel_rfl))
        refine Sem.ret ?_
        have hq := Option.some.inj h; subst hq
        exact ⟨rfl, (Wk.fr (by kernel_rfl))⟩
      · rw [if_f hb4] at h
        refine Sem.skip ?_
        refine Sem.runS (s1 := ⟨Fr 19 [(0, .sl 1 (x0.map cdI.enc)), (1, .v (.int .i64 x1)), (7, .v (.int .i64 (x0.length : Int))), (8, .v (.int .i64 (wr .i64 (c1 + 1))))], []⟩) ?_ ?_
        · refine RunS.segF (n := 19) e_slices_Index_L_int_ok 2 [(0, .sl 1 (x0.map cdI.enc)), (1, .v (.int .i64 x1)), (7, .v (.int .i64 (x0.length : Int))), (8, .v (.int .i64 (wr .i64 (c1 + 1))))] [] (by kernel_rfl) ?_
          exact RunS.done rfl (Wk.fr (by kernel_rfl))
        exact SemN.wk (s1 := ⟨Fr 19 [(0, .sl 1 (x0.map cdI.enc)), (1, .v (.int .i64 x1)), (7, .v (.int .i64 (x0.length : Int))), (8, .v (.int .i64 (wr .i64 (c1 + 1))))], []⟩) (Wk.fr (by kernel_rfl)) (ih (wr .i64 (c1 + 1)) h)
    · rw [if_f hb2] at h
      refine Sem.exit ?_
      have hq := Option.some.inj h; subst hq
      exact ⟨rfl, (Wk.fr (by kernel_rfl))⟩
set_option maxHeartbeats 4000000 in
set_option maxRecDepth 100000 in
theorem slices_Index_L_int_sem (x0 : (List Int)) (x1 : Int) (r : Int) (h : slices_Index_L_int x0 x1 = some r) : Sem e_slices_Index_L_int ⟨none, false⟩ cb_slices_Index_L_int ⟨Fr 19 (pairs0 0 (cs_slices_Index_L_int.enc (x0, x1, ()))), []⟩ fun e s' => (e = .normal ∨ e = .ret) ∧ ∃ xs, resA e_slices_Index_L_int.P s'.fr s'.hp Tryd.f82.results.toList = some xs ∧ retA xs = er_slices_Index_L_int r := by
  unfold slices_Index_L_int at h
  refine Sem.wkQ (Sem.wk (s1 := ⟨Fr 19 [(0, .sl 1 (x0.map cdI.enc)), (1, .v (.int .i64 x1))], []⟩) (Wk.fr (by kernel_rfl)) ?_)
  refine Sem.seq ?_
  refine Sem.runS (s1 := ⟨Fr 19 [(0, .sl 1 (x0.map cdI.enc)), (1, .v (.int .i64 x1))], []⟩) ?_ ?_
  · refine RunS.segF (n := 19) e_slices_Index_L_int_ok 1 [(0, .sl 1 (x0.map cdI.enc)), (1, .v (.int .i64 x1))] [] (by kernel_rfl) ?_
    exact RunS.done rfl (Wk.fr (by kernel_rfl))
  refine Sem.seq ?_
  refine Sem.seq ?_
  refine Sem.runS (s1 := ⟨Fr 19 [(0, .sl 1 (x0.map cdI.enc)), (1, .v (.int .i64 x1)), (7, .v (.int .i64 (x0.length : Int))), (8, .v (.int .i64 0))], []⟩) ?_ ?_
  · refine RunS.segF (n := 19) e_slices_Index_L_int_ok 1 [(0, .sl 1 (x0.map cdI.enc)), (1, .v (.int .i64 x1)), (6, .sl 1 (x0.map cdI.enc))] [] (by kernel_rfl) ?_
    refine RunS.one e_slices_Index_L_int_ok 0 rfl (op_q (wantedA_none rfl) rfl (q_len (a := .sl 1 (x0.map cdI.enc)) (by kernel_rfl) (len_sl (el := 3) (by kernel_rfl)))) ?_
    refine RunS.segF (n := 19) e_slices_Index_L_int_ok 1 [(0, .sl 1 (x0.map cdI.enc)), (1, .v (.int .i64 x1)), (7, .v (.int .i64 (x0.length : Int))), (8, .v (.int .i64 0))] [] (by kernel_rfl) ?_
    exact RunS.done rfl (Wk.fr (by kernel_rfl))
  refine Sem.block ?_
  obtain ⟨r6, hr6, h⟩ := Option.bind_eq_some_iff.1 h
  refine Sem.loop (n := 100000) ?_
  rcases r6 with w7 | w8
  · try dsimp only at h
    refine Sem.cutN (SemN.wk (s1 := ⟨Fr 19 [(0, .sl 1 (x0.map cdI.enc)), (1, .v (.int .i64 x1)), (7, .v (.int .i64 (x0.length : Int))), (8, .v (.int .i64 0))], []⟩) (Wk.fr (by kernel_rfl)) (slices_Index_L_int_1_ok x0 x1 _ 0 _ hr6)) ?_
    refine Sem.seq ?_
    refine Sem.runS (s1 := ⟨Fr 19 [(4, .v (.int .i64 (-1)))], []⟩) ?_ ?_
    · refine RunS.segF (n := 19) e_slices_Index_L_int_ok 1 [(4, .v (.int .i64 (-1)))] [] (by kernel_rfl) ?_
      exact RunS.done rfl (Wk.fr (by kernel_rfl))
    refine Sem.ret ?_
    have hq := Option.some.inj h; subst hq
    exact ⟨⟨Fr 19 [(4, .v (.int .i64 (-1)))], []⟩, (Wk.fr (by kernel_rfl)), .inr rfl, [.v (.int .i64 (-1))], (by kernel_rfl), (by kernel_rfl)⟩
  · try dsimp only at h
    refine Sem.cutN (SemN.wk (s1 := ⟨Fr 19 [(0, .sl 1 (x0.map cdI.enc)), (1, .v (.int .i64 x1)), (7, .v (.int .i64 (x0.length : Int))), (8, .v (.int .i64 0))], []⟩) (Wk.fr (by kernel_rfl)) (slices_Index_L_int_1_ok x0 x1 _ 0 _ hr6)) ?_
    have hq := Option.some.inj h; subst hq
    exact ⟨⟨Fr 19 [(4, .v (.int .i64 w8))], []⟩, (Wk.fr (by kernel_rfl)), .inr rfl, [.v (.int .i64 w8)], (by kernel_rfl), (by kernel_rfl)⟩
def t_slices_Index_L_int : List AV → Option AV := told cs_slices_Index_L_int (fun a => slices_Index_L_int a.1 a.2.1) er_slices_Index_L_int
theorem x_slices_Index_L_int : XOk 82 t_slices_Index_L_int := by
  refine EnvOk.x (E := e_slices_Index_L_int) (contract_ok e_slices_Index_L_int_ok (fn := Tryd.f82) (c := cb_slices_Index_L_int) ?h1 ?h2 ⟨Tryd.call82⟩ cs_slices_Index_L_int (fun a => slices_Index_L_int a.1 a.2.1) er_slices_Index_L_int (fun a => (by show 2 ≤ 19; decide)) ?h3 ?h4) rfl rfl
  case h1 => kernel_rfl
  case h2 => kernel_rfl
  case h3 => intro b; kernel_rfl
  case h4 => exact fun a b h => slices_Index_L_int_sem a.1 a.2.1 b h
end Go.Proofs.YthofgamegondnaaDoor

namespace Go.Proofs.YthofgamegondnaaDoor
open Go.RowKit
/- slices.Contains[[]int,int] -/
noncomputable def e_slices_Contains_L_int : Env := (E0.withX 82 t_slices_Index_L_int)
theorem e_slices_Contains_L_int_ok : EnvOk e_slices_Contains_L_int := (EnvOk.withX E0_ok x_slices_Index_L_int.1 x_slices_Index_L_int.2)
noncomputable def cb_slices_Contains_L_int : Code := codeOf Tryd.f43
def slices_Contains_L_int (x0 : (List Int)) (x1 : Int) : Option (Bool) :=
  (slices_Index_L_int x0 x1).bind fun v1 =>
  some (decide (v1 ≥ 0))
def cs_slices_Contains_L_int : Cs ((List Int) × Int × Unit) := (csC (cdL 1 cdI) (csC cdI csN))
def er_slices_Contains_L_int (r : Bool) : AV := cdB.enc r
set_option maxHeartbeats 4000000 in
set_option maxRecDepth 100000 in
theorem slices_Contains_L_int_sem (x0 : (List Int)) (x1 : Int) (r : Bool) (h : slices_Contains_L_int x0 x1 = some r) : Sem e_slices_Contains_L_int ⟨none, false⟩ cb_slices_Contains_L_int ⟨Fr 9 (pairs0 0 (cs_slices_Contains_L_int.enc (x0, x1, ()))), []⟩ fun e s' => (e = .normal ∨ e = .ret) ∧ ∃ xs, resA e_slices_Contains_L_int.P s'.fr s'.hp Tryd.f43.results.toList = some xs ∧ retA xs = er_slices_Contains_L_int r := by
  unfold slices_Contains_L_int at h
  refine Sem.wkQ (Sem.wk (s1 := ⟨Fr 9 [(0, .sl 1 (x0.map cdI.enc)), (1, .v (.int .i64 x1))], []⟩) (Wk.fr (by kernel_rfl)) ?_)
  refine Sem.seq ?_
  refine Sem.runS (s1 := ⟨Fr 9 [(0, .sl 1 (x0.map cdI.enc)), (1, .v (.int .i64 x1))], []⟩) ?_ ?_
  · refine RunS.segF (n := 9) e_slices_Contains_L_int_ok 1 [(0, .sl 1 (x0.map cdI.enc)), (1, .v (.int .i64 x1))] [] (by kernel_rfl) ?_
    exact RunS.done rfl (Wk.fr (by kernel_rfl))
  refine Sem.seq ?_
  obtain ⟨v1, hv1, h⟩ := Option.bind_eq_some_iff.1 h
  refine Sem.runS (s1 := ⟨Fr 9 [(4, .v (.bool (decide (v1 ≥ 0))))], []⟩) ?_ ?_
  · refine RunS.segF (n := 9) e_slices_Contains_L_int_ok 2 [(5, .sl 1 (x0.map cdI.enc)), (6, .v (.int .i64 x1))] [] (by kernel_rfl) ?_
    refine RunS.call e_slices_Contains_L_int_ok (fid := 82) (s := cs_slices_Index_L_int) (F := fun a => slices_Index_L_int a.1 a.2.1) (er := er_slices_Index_L_int) (xs := [.sl 1 (x0.map cdI.enc), .v (.int .i64 x1)]) (a := (x0, x1, ())) rfl (wantedA_none rfl) (by kernel_rfl) (by kernel_rfl) (by kernel_rfl) (by kernel_rfl) (Sns.cons (Sn.enc (c := (cdL 1 cdI)) (v := x0)) (Sns.cons (Sn.enc (c := cdI) (v := x1)) Sns.nil)) (.inl (by kernel_rfl)) hv1 ?_
    refine RunS.segF (n := 9) e_slices_Contains_L_int_ok 2 [(4, .v (.bool (decide (v1 ≥ 0))))] [] (by kernel_rfl) ?_
    exact RunS.done rfl (Wk.fr (by kernel_rfl))
  refine Sem.ret ?_
  have hq := Option.some.inj h; subst hq
  exact ⟨⟨Fr 9 [(4, .v (.bool (decide (v1 ≥ 0))))], []⟩, (Wk.fr (by kernel_rfl)), .inr rfl, [.v (.bool (decide (v1 ≥ 0)))], (by kernel_rfl), (by kernel_rfl)⟩
def t_slices_Contains_L_int : List AV → Option AV := told cs_slices_Contains_L_int (fun a => slices_Contains_L_int a.1 a.2.1) er_slices_Contains_L_int
theorem x_slices_Contains_L_int : XOk 43 t_slices_Contains_L_int := by
  refine EnvOk.x (E := e_slices_Contains_L_int) (contract_ok e_slices_Contains_L_int_ok (fn := Tryd.f43) (c := cb_slices_Contains_L_int) ?h1 ?h2 ⟨Tryd.call43⟩ cs_slices_Contains_L_int (fun a => slices_Contains_L_int a.1 a.2.1) er_slices_Contains_L_int (fun a => (by show 2 ≤ 9; decide)) ?h3 ?h4) rfl rfl
  case h1 => kernel_rfl
  case h2 => kernel_rfl
  case h3 => intro b; kernel_rfl
  case h4 => exact fun a b h => slices_Contains_L_int_sem a.1 a.2.1 b h
end Go.Proofs.YthofgamegondnaaDoor

namespace Go.Proofs.YthofgamegondnaaDoor
open Go.RowKit
/- trestle/evening.Together -/
noncomputable def e_evening_Together : Env := ((E0.withX 60 t_evening_valid).withX 43 t_slices_Contains_L_int)
theorem e_evening_Together_ok : EnvOk e_evening_Together := (EnvOk.withX (EnvOk.withX E0_ok x_evening_valid.1 x_evening_valid.2) x_slices_Contains_L_int.1 x_slices_Contains_L_int.2)
noncomputable def cb_evening_Together : Code := codeOf Tryd.f52
def evening_Together_j3 (x1 : (List (List (List Int)))) (x2 : Int) (x3 : Int) (c6 : Int) (v8 : (List (List Int))) (c10 : Int) (j17 : (List Int) × Bool) : Option (((List Int))) :=
  if j17.2 = true then
  if (capOk 8 (j17.1.length + 1)) = true then
  some (j17.1 ++ [c6])
  else none
  else
  some j17.1
def evening_Together_2 (x1 : (List (List (List Int)))) (x2 : Int) (x3 : Int) (c6 : Int) (v8 : (List (List Int))) : Nat → (List Int) → Int → Option (((List Int)))
  | 0, _, _ => none
  | f + 1, c9, c10 =>
    if (decide (c10 < (v8.length : Int))) = true then
    (idx v8 c10).bind fun v12 =>
    (slices_Contains_L_int v12 x2).bind fun v13 =>
    (if v13 = true then (slices_Contains_L_int v12 x3).bind fun v14 =>
    some (c9, v14) else some (c9, false)).bind fun j17 =>
    (evening_Together_j3 x1 x2 x3 c6 v8 c10 j17).bind fun r21 =>
    evening_Together_2 x1 x2 x3 c6 v8 f r21 (wr .i64 (c10 + 1))
    else
    some c9
def evening_Together_1 (x1 : (List (List (List Int)))) (x2 : Int) (x3 : Int) : Nat → (List Int) → Int → Option (((List Int)))
  | 0, _, _ => none
  | f + 1, c5, c6 =>
    if (decide (c6 < (x1.length : Int))) = true then
    (idx x1 c6).bind fun v8 =>
    (evening_Together_2 x1 x2 x3 c6 v8 100000 c5 0).bind fun r24 =>
    evening_Together_1 x1 x2 x3 f r24 (wr .i64 (c6 + 1))
    else
    some c5
def evening_Together (x0 : Int) (x1 : (List (List (List Int)))) (x2 : Int) (x3 : Int) : Option ((List Int)) :=
  (evening_valid x0 x1).bind fun v1 =>
  (if (!v1) = true then some true else some (x2 == x3)).bind fun j3 =>
  if j3 = true then
  some []
  else
  (evening_Together_1 x1 x2 x3 100000 [] 0).bind fun r26 =>
  some r26
def cs_evening_Together : Cs (Int × (List (List (List Int))) × Int × Int × Unit) := (csC cdI (csC (cdL 1 (cdL 1 (cdL 1 cdI))) (csC cdI (csC cdI csN))))
def er_evening_Together (r : (List Int)) : AV := (cdL 1 cdI).enc r
set_option maxHeartbeats 4000000 in
set_option maxRecDepth 100000 in
theorem evening_Together_j3_ok (x1 : (List (List (List Int)))) (x2 : Int) (x3 : Int) (c6 : Int) (v8 : (List (List Int))) (c10 : Int) (j17 : (List Int) × Bool) (r : ((List Int))) (h : evening_Together_j3 x1 x2 x3 c6 v8 c10 j17 = some r) : Sem e_evening_Together ⟨none, false⟩ (pc cb_evening_Together [1, 1, 1, 0, 1, 0, 0, 1, 1, 0, 0, 1, 1, 0, 0, 1, 1, 0, 0, 1, 1]) ⟨Fr 51 [(2, .v (.int .i64 x2)), (3, .v (.int .i64 x3)), (9, hd 0 (j17.1.map cdI.enc)), (10, .v (.int .i64 c6)), (23, .sl 1 (x1.map (cdL 1 (cdL 1 cdI)).enc)), (24, .v (.int .i64 (x1.length : Int))), (25, .v (.int .i64 c6)), (30, .sl 1 (v8.map (cdL 1 cdI).enc)), (31, .v (.int .i64 (v8.length : Int))), (32, .v (.int .i64 c10)), (43, .v (.bool j17.2))], [mk 1 3 (j17.1.map cdI.enc)]⟩ (fun e s => e = .normal ∧ Wk e_evening_Together s ⟨Fr 51 [(2, .v (.int .i64 x2)), (3, .v (.int .i64 x3)), (9, hd 0 (r.map cdI.enc)), (10, .v (.int .i64 c6)), (23, .sl 1 (x1.map (cdL 1 (cdL 1 cdI)).enc)), (24, .v (.int .i64 (x1.length : Int))), (25, .v (.int .i64 c6)), (30, .sl 1 (v8.map (cdL 1 cdI).enc)), (31, .v (.int .i64 (v8.length : Int))), (32, .v (.int .i64 c10))], [mk 1 3 (r.map cdI.enc)]⟩) := by
  unfold evening_Together_j3 at h
  refine Sem.cond (b := j17.2) (by kernel_rfl) (fun hb18 => ?_) (fun hb18 => ?_)
  · rw [if_pos hb18] at h
    by_cases hk19 : (capOk 8 (j17.1.length + 1)) = true
    case neg => rw [if_neg hk19] at h; cases h
    rw [if_pos hk19] at h
    refine Sem.runS (s1 := ⟨Fr 51 [(2, .v (.int .i64 x2)), (3, .v (.int .i64 x3)), (9, hd 0 ((j17.1 ++ [c6]).map cdI.enc)), (10, .v (.int .i64 c6)), (23, .sl 1 (x1.map (cdL 1 (cdL 1 cdI)).enc)), (24, .v (.int .i64 (x1.length : Int))), (25, .v (.int .i64 c6)), (30, .sl 1 (v8.map (cdL 1 cdI).enc)), (31, .v (.int .i64 (v8.length : Int))), (32, .v (.int .i64 c10))], [mk 1 3 ((j17.1 ++ [c6]).map cdI.enc)]⟩) ?_ ?_
    · refine RunS.segF (n := 51) e_evening_Together_ok 3 [(2, .v (.int .i64 x2)), (3, .v (.int .i64 x3)), (10, .v (.int .i64 c6)), (23, .sl 1 (x1.map (cdL 1 (cdL 1 cdI)).enc)), (24, .v (.int .i64 (x1.length : Int))), (25, .v (.int .i64 c6)), (30, .sl 1 (v8.map (cdL 1 cdI).enc)), (31, .v (.int .i64 (v8.length : Int))), (32, .v (.int .i64 c10)), (44, hd 0 (j17.1.map cdI.enc)), (46, hd 1 ([c6].map cdI.enc))] [mk 1 3 (j17.1.map cdI.enc), mk 1 3 ([c6].map cdI.enc)] (by kernel_rfl) ?_
      refine RunS.one e_evening_Together_ok 0 rfl (op_w (wantedA_none rfl) rfl (by kernel_rfl) (by kernel_rfl) (w_append (a := hd 0 (j17.1.map cdI.enc)) (b := hd 1 ([c6].map cdI.enc)) (by kernel_rfl) (by kernel_rfl) (append_B (c := cdI) (xs := j17.1) (vs := [c6]) (k := 1) (bytes := 8) (el := 3) (by kernel_rfl) (by kernel_rfl) (elems_hd (t := 3) (by kernel_rfl)) (List.cons_ne_nil _ _) (by kernel_rfl) hk19))) ?_
      refine RunS.segF (n := 51) e_evening_Together_ok 1 [(2, .v (.int .i64 x2)), (3, .v (.int .i64 x3)), (9, hd 2 ((j17.1 ++ [c6]).map cdI.enc)), (10, .v (.int .i64 c6)), (23, .sl 1 (x1.map (cdL 1 (cdL 1 cdI)).enc)), (24, .v (.int .i64 (x1.length : Int))), (25, .v (.int .i64 c6)), (30, .sl 1 (v8.map (cdL 1 cdI).enc)), (31, .v (.int .i64 (v8.length : Int))), (32, .v (.int .i64 c10))] [none, mk 1 3 ([c6].map cdI.enc), mk 1 3 ((j17.1 ++ [c6]).map cdI.enc)] (by kernel_rfl) ?_
      exact RunS.done rfl (Wk.sel2 [2] (by kernel_rfl) (by kernel_rfl) (by kernel_rfl) ⟨⟨_, rfl, bu_mk⟩, trivial⟩ ⟨lu (by kernel_rfl) (by kernel_rfl), lu (by kernel_rfl) (by kernel_rfl), lu_hd (b' := 2) (by kernel_rfl) (by kernel_rfl), lu (by kernel_rfl) (by kernel_rfl), lu (by kernel_rfl) (by kernel_rfl), lu (by kernel_rfl) (by kernel_rfl), lu (by kernel_rfl) (by kernel_rfl), lu (by kernel_rfl) (by kernel_rfl), lu (by kernel_rfl) (by kernel_rfl), lu (by kernel_rfl) (by kernel_rfl), trivial⟩)
    have hq := Option.some.inj h; subst hq
    exact ⟨rfl, (Wk.sel2 [0] (by kernel_rfl) (by kernel_rfl) (by kernel_rfl) ⟨⟨_, rfl, bu_mk⟩, trivial⟩ ⟨lu (by kernel_rfl) (by kernel_rfl), lu (by kernel_rfl) (by kernel_rfl), lu_hd (b' := 0) (by kernel_rfl) (by kernel_rfl), lu (by kernel_rfl) (by kernel_rfl), lu (by kernel_rfl) (by kernel_rfl), lu (by kernel_rfl) (by kernel_rfl), lu (by kernel_rfl) (by kernel_rfl), lu (by kernel_rfl) (by kernel_rfl), lu (by kernel_rfl) (by kernel_rfl), lu (by kernel_rfl) (by kernel_rfl), trivial⟩)⟩
  · rw [if_f hb18] at h
    refine Sem.skip ?_
    have hq := Option.some.inj h; subst hq
    exact ⟨rfl, (Wk.sel2 [0] (by kernel_rfl) (by kernel_rfl) (by kernel_rfl) ⟨⟨_, rfl, bu_mk⟩, trivial⟩ ⟨lu (by kernel_rfl) (by kernel_rfl), lu (by kernel_rfl) (by kernel_rfl), lu_hd (b' := 0) (by kernel_rfl) (by kernel_rfl), lu (by kernel_rfl) (by kernel_rfl), lu (by kernel_rfl) (by kernel_rfl), lu (by kernel_rfl) (by kernel_rfl), lu (by kernel_rfl) (by kernel_rfl), lu (by kernel_rfl) (by kernel_rfl), lu (by kernel_rfl) (by kernel_rfl), lu (by kernel_rfl) (by kernel_rfl), trivial⟩)⟩
set_option maxHeartbeats 4000000 in
set_option maxRecDepth 100000 in
theorem evening_Together_2_ok (x1 : (List (List (List Int)))) (x2 : Int) (x3 : Int) (c6 : Int) (v8 : (List (List Int))) : ∀ (f : Nat) (c9 : (List Int)) (c10 : Int) (r : ((List Int))), evening_Together_2 x1 x2 x3 c6 v8 f c9 c10 = some r → SemN e_evening_Together ⟨none, false⟩ (pc cb_evening_Together [1, 1, 1, 0, 1, 0, 0, 1, 1, 0, 0, 1, 1, 0, 0]) f ⟨Fr 51 [(2, .v (.int .i64 x2)), (3, .v (.int .i64 x3)), (9, hd 0 (c9.map cdI.enc)), (10, .v (.int .i64 c6)), (23, .sl 1 (x1.map (cdL 1 (cdL 1 cdI)).enc)), (24, .v (.int .i64 (x1.length : Int))), (25, .v (.int .i64 c6)), (30, .sl 1 (v8.map (cdL 1 cdI).enc)), (31, .v (.int .i64 (v8.length : Int))), (32, .v (.int .i64 c10))], [mk 1 3 (c9.map cdI.enc)]⟩ (fun e s => e = (.exit 2) ∧ Wk e_evening_Together s ⟨Fr 51 [(2, .v (.int .i64 x2)), (3, .v (.int .i64 x3)), (9, hd 0 (r.map cdI.enc)), (23, .sl 1 (x1.map (cdL 1 (cdL 1 cdI)).enc)), (24, .v (.int .i64 (x1.length : Int))), (25, .v (.int .i64 c6))], [mk 1 3 (r.map cdI.enc)]⟩) := by
  intro f
  induction f with
  | zero => intro c9 c10 r h; cases h
  | succ f ih0 =>
    intro c9 c10 r h
    have ih := fun (c9 : (List Int)) (c10 : Int) => ih0 c9 c10 r
    unfold evening_Together_2 at h
    refine SemN.succ ?_
    refine Sem.seq ?_
    refine Sem.runS (s1 := ⟨Fr 51 [(2, .v (.int .i64 x2)), (3, .v (.int .i64 x3)), (9, hd 0 (c9.map cdI.enc)), (10, .v (.int .i64 c6)), (23, .sl 1 (x1.map (cdL 1 (cdL 1 cdI)).enc)), (24, .v (.int .i64 (x1.length : Int))), (25, .v (.int .i64 c6)), (30, .sl 1 (v8.map (cdL 1 cdI).enc)), (31, .v (.int .i64 (v8.length : Int))), (32, .v (.int .i64 c10)), (33, .v (.bool (decide (c10 < (v8.length : Int)))))], [mk 1 3 (c9.map cdI.enc)]⟩) ?_ ?_
    · refine RunS.segF (n := 51) e_evening_Together_ok 1 [(2, .v (.int .i64 x2)), (3, .v (.int .i64 x3)), (9, hd 0 (c9.map cdI.enc)), (10, .v (.int .i64 c6)), (23, .sl 1 (x1.map (cdL 1 (cdL 1 cdI)).enc)), (24, .v (.int .i64 (x1.length : Int))), (25, .v (.int .i64 c6)), (30, .sl 1 (v8.map (cdL 1 cdI).enc)), (31, .v (.int .i64 (v8.length : Int))), (32, .v (.int .i64 c10)), (33, .v (.bool (decide (c10 < (v8.length : Int)))))] [mk 1 3 (c9.map cdI.enc)] (by kernel_rfl) ?_
      exact RunS.done rfl (Wk.sel2 [0] (by kernel_rfl) (by kernel_rfl) (by kernel_rfl) ⟨⟨_, rfl, bu_mk⟩, trivial⟩ ⟨lu (by kernel_rfl) (by kernel_rfl), lu (by kernel_rfl) (by kernel_rfl), lu_hd (b' := 0) (by kernel_rfl) (by kernel_rfl), lu (by kernel_rfl) (by kernel_rfl), lu (by kernel_rfl) (by kernel_rfl), lu (by kernel_rfl) (by kernel_rfl), lu (by kernel_rfl) (by kernel_rfl), lu (by kernel_rfl) (by kernel_rfl), lu (by kernel_rfl) (by kernel_rfl), lu (by kernel_rfl) (by kernel_rfl), lu (by kernel_rfl) (by kernel_rfl), trivial⟩)
    refine Sem.seq ?_
    refine Sem.cond (b := (decide (c10 < (v8.length : Int)))) (by kernel_rfl) (fun hb11 => ?_) (fun hb11 => ?_)
    · rw [if_pos hb11] at h
      refine Sem.skip ?_
      refine Sem.seq ?_
      refine Sem.block ?_
      refine Sem.seq ?_
      obtain ⟨v12, hv12, h⟩ := Option.bind_eq_some_iff.1 h
      refine Sem.runS (s1 := ⟨Fr 51 [(2, .v (.int .i64 x2)), (3, .v (.int .i64 x3)), (9, hd 0 (c9.map cdI.enc)), (10, .v (.int .i64 c6)), (13, .sl 1 (v12.map cdI.enc)), (23, .sl 1 (x1.map (cdL 1 (cdL 1 cdI)).enc)), (24, .v (.int .i64 (x1.length : Int))), (25, .v (.int .i64 c6)), (30, .sl 1 (v8.map (cdL 1 cdI).enc)), (31, .v (.int .i64 (v8.length : Int))), (32, .v (.int .i64 c10))], [mk 1 3 (c9.map cdI.enc)]⟩) ?_ ?_
      · refine RunS.one e_evening_Together_ok 0 rfl (op_q (wantedA_none rfl) rfl (q_indexAddr (a := .sl 1 (v8.map (cdL 1 cdI).enc)) (b := .v (.int .i64 c10)) (by kernel_rfl) (by kernel_rfl) (ix_sl (e := (cdL 1 cdI).enc) (el := 24) (k := 1) (ki := .i64) (by kernel_rfl) (by kernel_rfl) hv12))) ?_
        refine RunS.segF (n := 51) e_evening_Together_ok 2 [(2, .v (.int .i64 x2)), (3, .v (.int .i64 x3)), (9, hd 0 (c9.map cdI.enc)), (10, .v (.int .i64 c6)), (13, .sl 1 (v12.map cdI.enc)), (23, .sl 1 (x1.map (cdL 1 (cdL 1 cdI)).enc)), (24, .v (.int .i64 (x1.length : Int))), (25, .v (.int .i64 c6)), (30, .sl 1 (v8.map (cdL 1 cdI).enc)), (31, .v (.int .i64 (v8.length : Int))), (32, .v (.int .i64 c10))] [mk 1 3 (c9.map cdI.enc)] (by kernel_rfl) ?_
        exact RunS.done rfl (Wk.sel2 [0] (by kernel_rfl) (by kernel_rfl) (by kernel_rfl) ⟨⟨_, rfl, bu_mk⟩, trivial⟩ ⟨lu (by kernel_rfl) (by kernel_rfl), lu (by kernel_rfl) (by kernel_rfl), lu_hd (b' := 0) (by kernel_rfl) (by kernel_rfl), lu (by kernel_rfl) (by kernel_rfl), lu (by kernel_rfl) (by kernel_rfl), lu (by kernel_rfl) (by kernel_rfl), lu (by kernel_rfl) (by kernel_rfl), lu (by kernel_rfl) (by kernel_rfl), lu (by kernel_rfl) (by kernel_rfl), lu (by kernel_rfl) (by kernel_rfl), lu (by kernel_rfl) (by kernel_rfl), trivial⟩)
      refine Sem.seq ?_
      obtain ⟨v13, hv13, h⟩ := Option.bind_eq_some_iff.1 h
      obtain ⟨j17, hj17, h⟩ := Option.bind_eq_some_iff.1 h
      refine Sem.runS (s1 := ⟨Fr 51 [(2, .v (.int .i64 x2)), (3, .v (.int .i64 x3)), (9, hd 0 (j17.1.map cdI.enc)), (10, .v (.int .i64 c6)), (23, .sl 1 (x1.map (cdL 1 (cdL 1 cdI)).enc)), (24, .v (.int .i64 (x1.length : Int))), (25, .v (.int .i64 c6)), (30, .sl 1 (v8.map (cdL 1 cdI).enc)), (31, .v (.int .i64 (v8.length : Int))), (32, .v (.int .i64 c10)), (43, .v (.bool j17.2))], [mk 1 3 (j17.1.map cdI.enc)]⟩) ?_ ?_
      · refine RunS.segF (n := 51) e_evening_Together_ok 2 [(2, .v (.int .i64 x2)), (3, .v (.int .i64 x3)), (9, hd 0 (c9.map cdI.enc)), (10, .v (.int .i64 c6)), (13, .sl 1 (v12.map cdI.enc)), (23, .sl 1 (x1.map (cdL 1 (cdL 1 cdI)).enc)), (24, .v (.int .i64 (x1.length : Int))), (25, .v (.int .i64 c6)), (30, .sl 1 (v8.map (cdL 1 cdI).enc)), (31, .v (.int .i64 (v8.length : Int))), (32, .v (.int .i64 c10)), (36, .sl 1 (v12.map cdI.enc)), (37, .v (.int .i64 x2))] [mk 1 3 (c9.map cdI.enc)] (by kernel_rfl) ?_
        refine RunS.call e_evening_Together_ok (fid := 43) (s := cs_slices_Contains_L_int) (F := fun a => slices_Contains_L_int a.1 a.2.1) (er := er_slices_Contains_L_int) (xs := [.sl 1 (v12.map cdI.enc), .v (.int .i64 x2)]) (a := (v12, x2, ())) rfl (wantedA_none rfl) (by kernel_rfl) (by kernel_rfl) (by kernel_rfl) (by kernel_rfl) (Sns.cons (Sn.enc (c := (cdL 1 cdI)) (v := v12)) (Sns.cons (Sn.enc (c := cdI) (v := x2)) Sns.nil)) (.inl (by kernel_rfl)) hv13 ?_
        refine RunS.segF (n := 51) e_evening_Together_ok 1 [(2, .v (.int .i64 x2)), (3, .v (.int .i64 x3)), (9, hd 0 (c9.map cdI.enc)), (10, .v (.int .i64 c6)), (13, .sl 1 (v12.map cdI.enc)), (23, .sl 1 (x1.map (cdL 1 (cdL 1 cdI)).enc)), (24, .v (.int .i64 (x1.length : Int))), (25, .v (.int .i64 c6)), (30, .sl 1 (v8.map (cdL 1 cdI).enc)), (31, .v (.int .i64 (v8.length : Int))), (32, .v (.int .i64 c10)), (39, .v (.bool v13))] [mk 1 3 (c9.map cdI.enc)] (by kernel_rfl) ?_
        rcases Bool.eq_false_or_eq_true v13 with hc22 | hc22
        · rw [if_pos hc22] at hj17
          rw [hc22]
          refine RunS.segF (n := 51) e_evening_Together_ok 2 [(2, .v (.int .i64 x2)), (3, .v (.int .i64 x3)), (9, hd 0 (c9.map cdI.enc)), (10, .v (.int .i64 c6)), (23, .sl 1 (x1.map (cdL 1 (cdL 1 cdI)).enc)), (24, .v (.int .i64 (x1.length : Int))), (25, .v (.int .i64 c6)), (30, .sl 1 (v8.map (cdL 1 cdI).enc)), (31, .v (.int .i64 (v8.length : Int))), (32, .v (.int .i64 c10)), (39, .v (.bool true)), (40, .sl 1 (v12.map cdI.enc)), (41, .v (.int .i64 x3))] [mk 1 3 (c9.map cdI.enc)] (by kernel_rfl) ?_
          obtain ⟨v14, hv14, hj17⟩ := Option.bind_eq_some_iff.1 hj17
          refine RunS.call e_evening_Together_ok (fid := 43) (s := cs_slices_Contains_L_int) (F := fun a => slices_Contains_L_int a.1 a.2.1) (er := er_slices_Contains_L_int) (xs := [.sl 1 (v12.map cdI.enc), .v (.int .i64 x3)]) (a := (v12, x3, ())) rfl (by kernel_rfl) (by kernel_rfl) (by kernel_rfl) (by kernel_rfl) (by kernel_rfl) (Sns.cons (Sn.enc (c := (cdL 1 cdI)) (v := v12)) (Sns.cons (Sn.enc (c := cdI) (v := x3)) Sns.nil)) (.inl (by kernel_rfl)) hv14 ?_
          refine RunS.segF (n := 51) e_evening_Together_ok 1 [(2, .v (.int .i64 x2)), (3, .v (.int .i64 x3)), (9, hd 0 (c9.map cdI.enc)), (10, .v (.int .i64 c6)), (23, .sl 1 (x1.map (cdL 1 (cdL 1 cdI)).enc)), (24, .v (.int .i64 (x1.length : Int))), (25, .v (.int .i64 c6)), (30, .sl 1 (v8.map (cdL 1 cdI).enc)), (31, .v (.int .i64 (v8.length : Int))), (32, .v (.int .i64 c10)), (40, .sl 1 (v12.map cdI.enc)), (41, .v (.int .i64 x3)), (42, .v (.bool v14)), (43, .v (.bool v14))] [mk 1 3 (c9.map cdI.enc)] (by kernel_rfl) ?_
          have hq := Option.some.inj hj17; subst hq
          exact RunS.done rfl (Wk.sel2 [0] (by kernel_rfl) (by kernel_rfl) (by kernel_rfl) ⟨⟨_, rfl, bu_mk⟩, trivial⟩ ⟨lu (by kernel_rfl) (by kernel_rfl), lu (by kernel_rfl) (by kernel_rfl), lu_hd (b' := 0) (by kernel_rfl) (by kernel_rfl), lu (by kernel_rfl) (by kernel_rfl), lu (by kernel_rfl) (by kernel_rfl), lu (by kernel_rfl) (by kernel_rfl), lu (by kernel_rfl) (by kernel_rfl), lu (by kernel_rfl) (by kernel_rfl), lu (by kernel_rfl) (by kernel_rfl), lu (by kernel_rfl) (by kernel_rfl), lu (by kernel_rfl) (by kernel_rfl), trivial⟩)
        · rw [if_f hc22] at hj17
          rw [hc22]
          refine RunS.segF (n := 51) e_evening_Together_ok 4 [(2, .v (.int .i64 x2)), (3, .v (.int .i64 x3)), (9, hd 0 (c9.map cdI.enc)), (10, .v (.int .i64 c6)), (23, .sl 1 (x1.map (cdL 1 (cdL 1 cdI)).enc)), (24, .v (.int .i64 (x1.length : Int))), (25, .v (.int .i64 c6)), (30, .sl 1 (v8.map (cdL 1 cdI).enc)), (31, .v (.int .i64 (v8.length : Int))), (32, .v (.int .i64 c10)), (40, .tp []), (41, .tp []), (42, .tp []), (43, .v (.bool false))] [mk 1 3 (c9.map cdI.enc)] (by kernel_rfl) ?_
          have hq := Option.some.inj hj17; subst hq
          exact RunS.done rfl (Wk.sel2 [0] (by kernel_rfl) (by kernel_rfl) (by kernel_rfl) ⟨⟨_, rfl, bu_mk⟩, trivial⟩ ⟨lu (by kernel_rfl) (by kernel_rfl), lu (by kernel_rfl) (by kernel_rfl), lu_hd (b' := 0) (by kernel_rfl) (by kernel_rfl), lu (by kernel_rfl) (by kernel_rfl), lu (by kernel_rfl) (by kernel_rfl), lu (by kernel_rfl) (by kernel_rfl), lu (by kernel_rfl) (by kernel_rfl), lu (by kernel_rfl) (by kernel_rfl), lu (by kernel_rfl) (by kernel_rfl), lu (by kernel_rfl) (by kernel_rfl), lu (by kernel_rfl) (by kernel_rfl), trivial⟩)
      obtain ⟨r21, hr21, h⟩ := Option.bind_eq_some_iff.1 h
      refine Sem.cut (evening_Together_j3_ok x1 x2 x3 c6 v8 c10 j17 _ hr21) ?_
      refine Sem.runS (s1 := ⟨Fr 51 [(2, .v (.int .i64 x2)), (3, .v (.int .i64 x3)), (9, hd 0 (r21.map cdI.enc)), (10, .v (.int .i64 c6)), (23, .sl 1 (x1.map (cdL 1 (cdL 1 cdI)).enc)), (24, .v (.int .i64 (x1.length : Int))), (25, .v (.int .i64 c6)), (30, .sl 1 (v8.map (cdL 1 cdI).enc)), (31, .v (.int .i64 (v8.length : Int))), (32, .v (.int .i64 (wr .i64 (c10 + 1))))], [mk 1 3 (r21.map cdI.enc)]⟩) ?_ ?_
      · refine RunS.segF (n := 51) e_evening_Together_ok 2 [(2, .v (.int .i64 x2)), (3, .v (.int .i64 x3)), (9, hd 0 (r21.map cdI.enc)), (10, .v (.int .i64 c6)), (23, .sl 1 (x1.map (cdL 1 (cdL 1 cdI)).enc)), (24, .v (.int .i64 (x1.length : Int))), (25, .v (.int .i64 c6)), (30, .sl 1 (v8.map (cdL 1 cdI).enc)), (31, .v (.int .i64 (v8.length : Int))), (32, .v (.int .i64 (wr .i64 (c10 + 1))))] [mk 1 3 (r21.map cdI.enc)] (by kernel_rfl) ?_
        exact RunS.done rfl (Wk.sel2 [0] (by kernel_rfl) (by kernel_rfl) (by kernel_rfl) ⟨⟨_, rfl, bu_mk⟩, trivial⟩ ⟨lu (by kernel_rfl) (by kernel_rfl), lu (by kernel_rfl) (by kernel_rfl), lu_hd (b' := 0) (by kernel_rfl) (by kernel_rfl), lu (by kernel_rfl) (by kernel_rfl), lu (by kernel_rfl) (by kernel_rfl), lu (by kernel_rfl) (by kernel_rfl), lu (by kernel_rfl) (by kernel_rfl), lu (by kernel_rfl) (by kernel_rfl), lu (by kernel_rfl) (by kernel_rfl), lu (by kernel_rfl) (by kernel_rfl), trivial⟩)
      exact SemN.wk (s1 := ⟨Fr 51 [(2, .v (.int .i64 x2)), (3, .v (.int .i64 x3)), (9, hd 0 (r21.map cdI.enc)), (10, .v (.int .i64 c6)), (23, .sl 1 (x1.map (cdL 1 (cdL 1 cdI)).enc)), (24, .v (.int .i64 (x1.length : Int))), (25, .v (.int .i64 c6)), (30, .sl 1 (v8.map (cdL 1 cdI).enc)), (31, .v (.int .i64 (v8.length : Int))), (32, .v (.int .i64 (wr .i64 (c10 + 1))))], [mk 1 3 (r21.map cdI.enc)]⟩) (Wk.sel2 [0] (by kernel_rfl) (by kernel_rfl) (by kernel_rfl) ⟨⟨_, rfl, bu_mk⟩, trivial⟩ ⟨lu (by kernel_rfl) (by kernel_rfl), lu (by kernel_rfl) (by kernel_rfl), lu_hd (b' := 0) (by kernel_rfl) (by kernel_rfl), lu (by kernel_rfl) (by kernel_rfl), lu (by kernel_rfl) (by kernel_rfl), lu (by kernel_rfl) (by kernel_rfl), lu (by kernel_rfl) (by kernel_rfl), lu (by kernel_rfl) (by kernel_rfl), lu (by kernel_rfl) (by kernel_rfl), lu (by kernel_rfl) (by kernel_rfl), trivial⟩) (ih r21 (wr .i64 (c10 + 1)) h)
    · rw [if_f hb11] at h
      refine Sem.exit ?_
      have hq := Option.some.inj h; subst hq
      exact ⟨rfl, (Wk.sel2 [0] (by kernel_rfl) (by kernel_rfl) (by kernel_rfl) ⟨⟨_, rfl, bu_mk⟩, trivial⟩ ⟨lu (by kernel_rfl) (by kernel_rfl), lu (by kernel_rfl) (by kernel_rfl), lu_hd (b' := 0) (by kernel_rfl) (by kernel_rfl), lu (by kernel_rfl) (by kernel_rfl), lu (by kernel_rfl) (by kernel_rfl), lu (by kernel_rfl) (by kernel_rfl), trivial⟩)⟩
set_option maxHeartbeats 4000000 in
set_option maxRecDepth 100000 in
theorem evening_Together_1_ok (x1 : (List (List (List Int)))) (x2 : Int) (x3 : Int) : ∀ (f : Nat) (c5 : (List Int)) (c6 : Int) (r : ((List Int))), evening_Together_1 x1 x2 x3 f c5 c6 = some r → SemN e_evening_Together ⟨none, false⟩ (pc cb_evening_Together [1, 1, 1, 0, 1, 0, 0]) f ⟨Fr 51 [(2, .v (.int .i64 x2)), (3, .v (.int .i64 x3)), (9, hd 0 (c5.map cdI.enc)), (23, .sl 1 (x1.map (cdL 1 (cdL 1 cdI)).enc)), (24, .v (.int .i64 (x1.length : Int))), (25, .v (.int .i64 c6))], [mk 1 3 (c5.map cdI.enc)]⟩ (fun e s => e = (.exit 0) ∧ Wk e_evening_Together s ⟨Fr 51 [(9, hd 0 (r.map cdI.enc))], [mk 1 3 (r.map cdI.enc)]⟩) := by
  intro f
  induction f with
  | zero => intro c5 c6 r h; cases h
  | succ f ih0 =>
    intro c5 c6 r h
    have ih := fun (c5 : (List Int)) (c6 : Int) => ih0 c5 c6 r
    unfold evening_Together_1 at h
    refine SemN.succ ?_
    refine Sem.seq ?_
    refine Sem.runS (s1 := ⟨Fr 51 [(2, .v (.int .i64 x2)), (3, .v (.int .i64 x3)), (9, hd 0 (c5.map cdI.enc)), (23, .sl 1 (x1.map (cdL 1 (cdL 1 cdI)).enc)), (24, .v (.int .i64 (x1.length : Int))), (25, .v (.int .i64 c6)), (26, .v (.bool (decide (c6 < (x1.length : Int)))))], [mk 1 3 (c5.map cdI.enc)]⟩) ?_ ?_
    · refine RunS.segF (n := 51) e_evening_Together_ok 1 [(2, .v (.int .i64 x2)), (3, .v (.int .i64 x3)), (9, hd 0 (c5.map cdI.enc)), (23, .sl 1 (x1.map (cdL 1 (cdL 1 cdI)).enc)), (24, .v (.int .i64 (x1.length : Int))), (25, .v (.int .i64 c6)), (26, .v (.bool (decide (c6 < (x1.length : Int)))))] [mk 1 3 (c5.map cdI.enc)] (by kernel_rfl) ?_
      exact RunS.done rfl (Wk.sel2 [0] (by kernel_rfl) (by kernel_rfl) (by kernel_rfl) ⟨⟨_, rfl, bu_mk⟩, trivial⟩ ⟨lu (by kernel_rfl) (by kernel_rfl), lu (by kernel_rfl) (by kernel_rfl), lu_hd (b' := 0) (by kernel_rfl) (by kernel_rfl), lu (by kernel_rfl) (by kernel_rfl), lu (by kernel_rfl) (by kernel_rfl), lu (by kernel_rfl) (by kernel_rfl), lu (by kernel_rfl) (by kernel_rfl), trivial⟩)
    refine Sem.seq ?_
    refine Sem.cond (b := (decide (c6 < (x1.length : Int)))) (by kernel_rfl) (fun hb7 => ?_) (fun hb7 => ?_)
    · rw [if_pos hb7] at h
      refine Sem.skip ?_
      refine Sem.seq ?_
      refine Sem.block ?_
      refine Sem.seq ?_
      obtain ⟨v8, hv8, h⟩ := Option.bind_eq_some_iff.1 h
      refine Sem.runS (s1 := ⟨Fr 51 [(2, .v (.int .i64 x2)), (3, .v (.int .i64 x3)), (9, hd 0 (c5.map cdI.enc)), (10, .v (.int .i64 c6)), (11, .sl 1 (v8.map (cdL 1 cdI).enc)), (23, .sl 1 (x1.map (cdL 1 (cdL 1 cdI)).enc)), (24, .v (.int .i64 (x1.length : Int))), (25, .v (.int .i64 c6))], [mk 1 3 (c5.map cdI.enc)]⟩) ?_ ?_
      · refine RunS.segF (n := 51) e_evening_Together_ok 1 [(2, .v (.int .i64 x2)), (3, .v (.int .i64 x3)), (9, hd 0 (c5.map cdI.enc)), (23, .sl 1 (x1.map (cdL 1 (cdL 1 cdI)).enc)), (24, .v (.int .i64 (x1.length : Int))), (25, .v (.int .i64 c6)), (27, .v (.int .i64 c6))] [mk 1 3 (c5.map cdI.enc)] (by kernel_rfl) ?_
        refine RunS.one e_evening_Together_ok 0 rfl (op_q (wantedA_none rfl) rfl (q_indexAddr (a := .sl 1 (x1.map (cdL 1 (cdL 1 cdI)).enc)) (b := .v (.int .i64 c6)) (by kernel_rfl) (by kernel_rfl) (ix_sl (e := (cdL 1 (cdL 1 cdI)).enc) (el := 49) (k := 1) (ki := .i64) (by kernel_rfl) (by kernel_rfl) hv8))) ?_
        refine RunS.segF (n := 51) e_evening_Together_ok 3 [(2, .v (.int .i64 x2)), (3, .v (.int .i64 x3)), (9, hd 0 (c5.map cdI.enc)), (10, .v (.int .i64 c6)), (11, .sl 1 (v8.map (cdL 1 cdI).enc)), (23, .sl 1 (x1.map (cdL 1 (cdL 1 cdI)).enc)), (24, .v (.int .i64 (x1.length : Int))), (25, .v (.int .i64 c6))] [mk 1 3 (c5.map cdI.enc)] (by kernel_rfl) ?_
        exact RunS.done rfl (Wk.sel2 [0] (by kernel_rfl) (by kernel_rfl) (by kernel_rfl) ⟨⟨_, rfl, bu_mk⟩, trivial⟩ ⟨lu (by kernel_rfl) (by kernel_rfl), lu (by kernel_rfl) (by kernel_rfl), lu_hd (b' := 0) (by kernel_rfl) (by kernel_rfl), lu (by kernel_rfl) (by kernel_rfl), lu (by kernel_rfl) (by kernel_rfl), lu (by kernel_rfl) (by kernel_rfl), lu (by kernel_rfl) (by kernel_rfl), lu (by kernel_rfl) (by kernel_rfl), trivial⟩)
      refine Sem.seq ?_
      refine Sem.runS (s1 := ⟨Fr 51 [(2, .v (.int .i64 x2)), (3, .v (.int .i64 x3)), (9, hd 0 (c5.map cdI.enc)), (10, .v (.int .i64 c6)), (23, .sl 1 (x1.map (cdL 1 (cdL 1 cdI)).enc)), (24, .v (.int .i64 (x1.length : Int))), (25, .v (.int .i64 c6)), (30, .sl 1 (v8.map (cdL 1 cdI).enc)), (31, .v (.int .i64 (v8.length : Int))), (32, .v (.int .i64 0))], [mk 1 3 (c5.map cdI.enc)]⟩) ?_ ?_
      · refine RunS.segF (n := 51) e_evening_Together_ok 1 [(2, .v (.int .i64 x2)), (3, .v (.int .i64 x3)), (9, hd 0 (c5.map cdI.enc)), (10, .v (.int .i64 c6)), (23, .sl 1 (x1.map (cdL 1 (cdL 1 cdI)).enc)), (24, .v (.int .i64 (x1.length : Int))), (25, .v (.int .i64 c6)), (30, .sl 1 (v8.map (cdL 1 cdI).enc))] [mk 1 3 (c5.map cdI.enc)] (by kernel_rfl) ?_
        refine RunS.one e_evening_Together_ok 0 rfl (op_q (wantedA_none rfl) rfl (q_len (a := .sl 1 (v8.map (cdL 1 cdI).enc)) (by kernel_rfl) (len_sl (el := 24) (by kernel_rfl)))) ?_
        refine RunS.segF (n := 51) e_evening_Together_ok 1 [(2, .v (.int .i64 x2)), (3, .v (.int .i64 x3)), (9, hd 0 (c5.map cdI.enc)), (10, .v (.int .i64 c6)), (23, .sl 1 (x1.map (cdL 1 (cdL 1 cdI)).enc)), (24, .v (.int .i64 (x1.length : Int))), (25, .v (.int .i64 c6)), (30, .sl 1 (v8.map (cdL 1 cdI).enc)), (31, .v (.int .i64 (v8.length : Int))), (32, .v (.int .i64 0))] [mk 1 3 (c5.map cdI.enc)] (by kernel_rfl) ?_
        exact RunS.done rfl (Wk.sel2 [0] (by kernel_rfl) (by kernel_rfl) (by kernel_rfl) ⟨⟨_, rfl, bu_mk⟩, trivial⟩ ⟨lu (by kernel_rfl) (by kernel_rfl), lu (by kernel_rfl) (by kernel_rfl), lu_hd (b' := 0) (by kernel_rfl) (by kernel_rfl), lu (by kernel_rfl) (by kernel_rfl), lu (by kernel_rfl) (by kernel_rfl), lu (by kernel_rfl) (by kernel_rfl), lu (by kernel_rfl) (by kernel_rfl), lu (by kernel_rfl) (by kernel_rfl), lu (by kernel_rfl) (by kernel_rfl), lu (by kernel_rfl) (by kernel_rfl), trivial⟩)
      refine Sem.block ?_
      obtain ⟨r24, hr24, h⟩ := Option.bind_eq_some_iff.1 h
      refine Sem.loop (n := 100000) ?_
      refine Sem.cutN (SemN.wk (s1 := ⟨Fr 51 [(2, .v (.int .i64 x2)), (3, .v (.int .i64 x3)), (9, hd 0 (c5.map cdI.enc)), (10, .v (.int .i64 c6)), (23, .sl 1 (x1.map (cdL 1 (cdL 1 cdI)).enc)), (24, .v (.int .i64 (x1.length : Int))), (25, .v (.int .i64 c6)), (30, .sl 1 (v8.map (cdL 1 cdI).enc)), (31, .v (.int .i64 (v8.length : Int))), (32, .v (.int .i64 0))], [mk 1 3 (c5.map cdI.enc)]⟩) (Wk.sel2 [0] (by kernel_rfl) (by kernel_rfl) (by kernel_rfl) ⟨⟨_, rfl, bu_mk⟩, trivial⟩ ⟨lu (by kernel_rfl) (by kernel_rfl), lu (by kernel_rfl) (by kernel_rfl), lu_hd (b' := 0) (by kernel_rfl) (by kernel_rfl), lu (by kernel_rfl) (by kernel_rfl), lu (by kernel_rfl) (by kernel_rfl), lu (by kernel_rfl) (by kernel_rfl), lu (by kernel_rfl) (by kernel_rfl), lu (by kernel_rfl) (by kernel_rfl), lu (by kernel_rfl) (by kernel_rfl), lu (by kernel_rfl) (by kernel_rfl), trivial⟩) (evening_Together_2_ok x1 x2 x3 c6 v8 _ c5 0 _ hr24)) ?_
      refine Sem.runS (s1 := ⟨Fr 51 [(2, .v (.int .i64 x2)), (3, .v (.int .i64 x3)), (9, hd 0 (r24.map cdI.enc)), (23, .sl 1 (x1.map (cdL 1 (cdL 1 cdI)).enc)), (24, .v (.int .i64 (x1.length : Int))), (25, .v (.int .i64 (wr .i64 (c6 + 1))))], [mk 1 3 (r24.map cdI.enc)]⟩) ?_ ?_
      · refine RunS.segF (n := 51) e_evening_Together_ok 2 [(2, .v (.int .i64 x2)), (3, .v (.int .i64 x3)), (9, hd 0 (r24.map cdI.enc)), (23, .sl 1 (x1.map (cdL 1 (cdL 1 cdI)).enc)), (24, .v (.int .i64 (x1.length : Int))), (25, .v (.int .i64 (wr .i64 (c6 + 1))))] [mk 1 3 (r24.map cdI.enc)] (by kernel_rfl) ?_
        exact RunS.done rfl (Wk.sel2 [0] (by kernel_rfl) (by kernel_rfl) (by kernel_rfl) ⟨⟨_, rfl, bu_mk⟩, trivial⟩ ⟨lu (by kernel_rfl) (by kernel_rfl), lu (by kernel_rfl) (by kernel_rfl), lu_hd (b' := 0) (by kernel_rfl) (by kernel_rfl), lu (by kernel_rfl) (by kernel_rfl), lu (by kernel_rfl) (by kernel_rfl), lu (by kernel_rfl) (by kernel_rfl), trivial⟩)
      exact SemN.wk (s1 := ⟨Fr 51 [(2, .v (.int .i64 x2)), (3, .v (.int .i64 x3)), (9, hd 0 (r24.map cdI.enc)), (23, .sl 1 (x1.map (cdL 1 (cdL 1 cdI)).enc)), (24, .v (.int .i64 (x1.length : Int))), (25, .v (.int .i64 (wr .i64 (c6 + 1))))], [mk 1 3 (r24.map cdI.enc)]⟩) (Wk.sel2 [0] (by kernel_rfl) (by kernel_rfl) (by kernel_rfl) ⟨⟨_, rfl, bu_mk⟩, trivial⟩ ⟨lu (by kernel_rfl) (by kernel_rfl), lu (by kernel_rfl) (by kernel_rfl), lu_hd (b' := 0) (by kernel_rfl) (by kernel_rfl), lu (by kernel_rfl) (by kernel_rfl), lu (by kernel_rfl) (by kernel_rfl), lu (by kernel_rfl) (by kernel_rfl), trivial⟩) (ih r24 (wr .i64 (c6 + 1)) h)
    · rw [if_f hb7] at h
      refine Sem.exit ?_
      have hq := Option.some.inj h; subst hq
      exact ⟨rfl, (Wk.sel2 [0] (by kernel_rfl) (by kernel_rfl) (by kernel_rfl) ⟨⟨_, rfl, bu_mk⟩, trivial⟩ ⟨lu_hd (b' := 0) (by kernel_rfl) (by kernel_rfl), trivial⟩)⟩
set_option maxHeartbeats 4000000 in
set_option maxRecDepth 100000 in
theorem evening_Together_sem (x0 : Int) (x1 : (List (List (List Int)))) (x2 : Int) (x3 : Int) (r : (List Int)) (h : evening_Together x0 x1 x2 x3 = some r) : Sem e_evening_Together ⟨none, false⟩ cb_evening_Together ⟨Fr 51 (pairs0 0 (cs_evening_Together.enc (x0, x1, x2, x3, ()))), []⟩ fun e s' => (e = .normal ∨ e = .ret) ∧ ∃ xs, resA e_evening_Together.P s'.fr s'.hp Tryd.f52.results.toList = some xs ∧ retA xs = er_evening_Together r := by
  unfold evening_Together at h
  refine Sem.wkQ (Sem.wk (s1 := ⟨Fr 51 [(0, .v (.int .i64 x0)), (1, .sl 1 (x1.map (cdL 1 (cdL 1 cdI)).enc)), (2, .v (.int .i64 x2)), (3, .v (.int .i64 x3))], []⟩) (Wk.fr (by kernel_rfl)) ?_)
  refine Sem.seq ?_
  refine Sem.runS (s1 := ⟨Fr 51 [(0, .v (.int .i64 x0)), (1, .sl 1 (x1.map (cdL 1 (cdL 1 cdI)).enc)), (2, .v (.int .i64 x2)), (3, .v (.int .i64 x3))], []⟩) ?_ ?_
  · refine RunS.segF (n := 51) e_evening_Together_ok 1 [(0, .v (.int .i64 x0)), (1, .sl 1 (x1.map (cdL 1 (cdL 1 cdI)).enc)), (2, .v (.int .i64 x2)), (3, .v (.int .i64 x3))] [] (by kernel_rfl) ?_
    exact RunS.done rfl (Wk.fr (by kernel_rfl))
  refine Sem.seq ?_
  refine Sem.seq ?_
  obtain ⟨v1, hv1, h⟩ := Option.bind_eq_some_iff.1 h
  obtain ⟨j3, hj3, h⟩ := Option.bind_eq_some_iff.1 h
  refine Sem.runS (s1 := ⟨Fr 51 [(1, .sl 1 (x1.map (cdL 1 (cdL 1 cdI)).enc)), (2, .v (.int .i64 x2)), (3, .v (.int .i64 x3)), (22, .v (.bool j3))], []⟩) ?_ ?_
  · refine RunS.segF (n := 51) e_evening_Together_ok 2 [(1, .sl 1 (x1.map (cdL 1 (cdL 1 cdI)).enc)), (2, .v (.int .i64 x2)), (3, .v (.int .i64 x3)), (14, .v (.int .i64 x0)), (15, .sl 1 (x1.map (cdL 1 (cdL 1 cdI)).enc))] [] (by kernel_rfl) ?_
    refine RunS.call e_evening_Together_ok (fid := 60) (s := cs_evening_valid) (F := fun a => evening_valid a.1 a.2.1) (er := er_evening_valid) (xs := [.v (.int .i64 x0), .sl 1 (x1.map (cdL 1 (cdL 1 cdI)).enc)]) (a := (x0, x1, ())) rfl (wantedA_none rfl) (by kernel_rfl) (by kernel_rfl) (by kernel_rfl) (by kernel_rfl) (Sns.cons (Sn.enc (c := cdI) (v := x0)) (Sns.cons (Sn.enc (c := (cdL 1 (cdL 1 (cdL 1 cdI)))) (v := x1)) Sns.nil)) (.inl (by kernel_rfl)) hv1 ?_
    refine RunS.segF (n := 51) e_evening_Together_ok 2 [(1, .sl 1 (x1.map (cdL 1 (cdL 1 cdI)).enc)), (2, .v (.int .i64 x2)), (3, .v (.int .i64 x3)), (18, .v (.bool (!v1)))] [] (by kernel_rfl) ?_
    rcases Bool.eq_false_or_eq_true (!v1) with hc27 | hc27
    · rw [if_pos hc27] at hj3
      rw [hc27]
      refine RunS.segF (n := 51) e_evening_Together_ok 4 [(1, .sl 1 (x1.map (cdL 1 (cdL 1 cdI)).enc)), (2, .v (.int .i64 x2)), (3, .v (.int .i64 x3)), (22, .v (.bool true))] [] (by kernel_rfl) ?_
      have hq := Option.some.inj hj3; subst hq
      exact RunS.done rfl (Wk.fr (by kernel_rfl))
    · rw [if_f hc27] at hj3
      rw [hc27]
      refine RunS.segF (n := 51) e_evening_Together_ok 4 [(1, .sl 1 (x1.map (cdL 1 (cdL 1 cdI)).enc)), (2, .v (.int .i64 x2)), (3, .v (.int .i64 x3)), (22, .v (.bool (x2 == x3)))] [] (by kernel_rfl) ?_
      have hq := Option.some.inj hj3; subst hq
      exact RunS.done rfl (Wk.fr (by kernel_rfl))
  refine Sem.cond (b := j3) (by kernel_rfl) (fun hb4 => ?_) (fun hb4 => ?_)
  · rw [if_pos hb4] at h
    refine Sem.seq ?_
    refine Sem.runS (s1 := ⟨Fr 51 [(8, .e0)], []⟩) ?_ ?_
    · refine RunS.segF (n := 51) e_evening_Together_ok 1 [(8, .e0)] [] (by kernel_rfl) ?_
      exact RunS.done rfl (Wk.fr (by kernel_rfl))
    refine Sem.ret ?_
    have hq := Option.some.inj h; subst hq
    exact ⟨⟨Fr 51 [(8, .sl 1 ([].map cdI.enc))], []⟩, (Wk.trans (s1 := ⟨Fr 51 [(8, .e0)], []⟩) (Wk.fr (by kernel_rfl)) (Wk.trans (s1 := ⟨Fr 51 [(8, .e0)], [none]⟩) Wk.none (Wk.trans (s1 := ⟨Fr 51 [(8, .sl 1 ([].map cdI.enc))], [none]⟩) (Wk.frzG 0 (.inr (by kernel_rfl)) ⟨.inl rfl, trivial⟩ ⟨⟨.e0, (by kernel_rfl), fz_e0⟩, trivial⟩) (Wk.sel2 [] (by kernel_rfl) (by kernel_rfl) (by kernel_rfl) trivial ⟨lu (by kernel_rfl) (by kernel_rfl), trivial⟩)))), .inr rfl, [.sl 1 ([].map cdI.enc)], (by kernel_rfl), (by kernel_rfl)⟩
  · rw [if_f hb4] at h
    refine Sem.skip ?_
    refine Sem.seq ?_
    refine Sem.runS (s1 := ⟨Fr 51 [(1, .sl 1 (x1.map (cdL 1 (cdL 1 cdI)).enc)), (2, .v (.int .i64 x2)), (3, .v (.int .i64 x3)), (9, .e0)], []⟩) ?_ ?_
    · refine RunS.segF (n := 51) e_evening_Together_ok 1 [(1, .sl 1 (x1.map (cdL 1 (cdL 1 cdI)).enc)), (2, .v (.int .i64 x2)), (3, .v (.int .i64 x3)), (9, .e0)] [] (by kernel_rfl) ?_
      exact RunS.done rfl (Wk.fr (by kernel_rfl))
    refine Sem.seq ?_
    refine Sem.seq ?_
    refine Sem.runS (s1 := ⟨Fr 51 [(2, .v (.int .i64 x2)), (3, .v (.int .i64 x3)), (9, .e0), (23, .sl 1 (x1.map (cdL 1 (cdL 1 cdI)).enc)), (24, .v (.int .i64 (x1.length : Int))), (25, .v (.int .i64 0))], []⟩) ?_ ?_
    · refine RunS.segF (n := 51) e_evening_Together_ok 1 [(2, .v (.int .i64 x2)), (3, .v (.int .i64 x3)), (9, .e0), (23, .sl 1 (x1.map (cdL 1 (cdL 1 cdI)).enc))] [] (by kernel_rfl) ?_
      refine RunS.one e_evening_Together_ok 0 rfl (op_q (wantedA_none rfl) rfl (q_len (a := .sl 1 (x1.map (cdL 1 (cdL 1 cdI)).enc)) (by kernel_rfl) (len_sl (el := 49) (by kernel_rfl)))) ?_
      refine RunS.segF (n := 51) e_evening_Together_ok 1 [(2, .v (.int .i64 x2)), (3, .v (.int .i64 x3)), (9, .e0), (23, .sl 1 (x1.map (cdL 1 (cdL 1 cdI)).enc)), (24, .v (.int .i64 (x1.length : Int))), (25, .v (.int .i64 0))] [] (by kernel_rfl) ?_
      exact RunS.done rfl (Wk.fr (by kernel_rfl))
    refine Sem.block ?_
    obtain ⟨r26, hr26, h⟩ := Option.bind_eq_some_iff.1 h
    refine Sem.loop (n := 100000) ?_
    refine Sem.cutN (SemN.wk (s1 := ⟨Fr 51 [(2, .v (.int .i64 x2)), (3, .v (.int .i64 x3)), (9, hd 0 ([].map cdI.enc)), (23, .sl 1 (x1.map (cdL 1 (cdL 1 cdI)).enc)), (24, .v (.int .i64 (x1.length : Int))), (25, .v (.int .i64 0))], [mk 1 3 ([].map cdI.enc)]⟩) (Wk.trans (s1 := ⟨Fr 51 [(2, .v (.int .i64 x2)), (3, .v (.int .i64 x3)), (9, hd 0 ([].map cdI.enc)), (23, .sl 1 (x1.map (cdL 1 (cdL 1 cdI)).enc)), (24, .v (.int .i64 (x1.length : Int))), (25, .v (.int .i64 0))], [mk 1 3 ([].map cdI.enc)]⟩) Wk.none (Wk.sel2 [0] (by kernel_rfl) (by kernel_rfl) (by kernel_rfl) ⟨⟨_, rfl, bu_none⟩, trivial⟩ ⟨lu (by kernel_rfl) (by kernel_rfl), lu (by kernel_rfl) (by kernel_rfl), lu (by kernel_rfl) (by kernel_rfl), lu (by kernel_rfl) (by kernel_rfl), lu (by kernel_rfl) (by kernel_rfl), lu (by kernel_rfl) (by kernel_rfl), trivial⟩)) (evening_Together_1_ok x1 x2 x3 _ [] 0 _ hr26)) ?_
    refine Sem.seq ?_
    refine Sem.runS (s1 := ⟨Fr 51 [(8, hd 0 (r26.map cdI.enc))], [mk 1 3 (r26.map cdI.enc)]⟩) ?_ ?_
    · refine RunS.segF (n := 51) e_evening_Together_ok 2 [(8, hd 0 (r26.map cdI.enc))] [mk 1 3 (r26.map cdI.enc)] (by kernel_rfl) ?_
      exact RunS.done rfl (Wk.sel2 [0] (by kernel_rfl) (by kernel_rfl) (by kernel_rfl) ⟨⟨_, rfl, bu_mk⟩, trivial⟩ ⟨lu_hd (b' := 0) (by kernel_rfl) (by kernel_rfl), trivial⟩)
    refine Sem.ret ?_
    have hq := Option.some.inj h; subst hq
    exact ⟨⟨Fr 51 [(8, .sl 1 (r26.map cdI.enc))], []⟩, (Wk.trans (s1 := ⟨Fr 51 [(8, .sl 1 (r26.map cdI.enc))], [none]⟩) (Wk.frzG 0 (.inl (by kernel_rfl)) ⟨.inl rfl, trivial⟩ ⟨⟨hd 0 (r26.map cdI.enc), (by kernel_rfl), fz_hd (t := 3) (by kernel_rfl) enc_ok⟩, trivial⟩) (Wk.sel2 [] (by kernel_rfl) (by kernel_rfl) (by kernel_rfl) trivial ⟨lu (by kernel_rfl) (by kernel_rfl), trivial⟩)), .inr rfl, [.sl 1 (r26.map cdI.enc)], (by kernel_rfl), (by kernel_rfl)⟩
def t_evening_Together : List AV → Option AV := told cs_evening_Together (fun a => evening_Together a.1 a.2.1 a.2.2.1 a.2.2.2.1) er_evening_Together
theorem x_evening_Together : XOk 52 t_evening_Together := by
  refine EnvOk.x (E := e_evening_Together) (contract_ok e_evening_Together_ok (fn := Tryd.f52) (c := cb_evening_Together) ?h1 ?h2 ⟨Tryd.call52⟩ cs_evening_Together (fun a => evening_Together a.1 a.2.1 a.2.2.1 a.2.2.2.1) er_evening_Together (fun a => (by show 4 ≤ 51; decide)) ?h3 ?h4) rfl rfl
  case h1 => kernel_rfl
  case h2 => kernel_rfl
  case h3 => intro b; kernel_rfl
  case h4 => exact fun a b h => evening_Together_sem a.1 a.2.1 a.2.2.1 a.2.2.2.1 b h
end Go.Proofs.YthofgamegondnaaDoor

namespace Go.Proofs.YthofgamegondnaaDoor
open Go.RowKit
/- trestle/evening.Strain -/
noncomputable def e_evening_Strain : Env := ((E0.withX 60 t_evening_valid).withX 78 t_evening_meetings)
theorem e_evening_Strain_ok : EnvOk e_evening_Strain := (EnvOk.withX (EnvOk.withX E0_ok x_evening_valid.1 x_evening_valid.2) x_evening_meetings.1 x_evening_meetings.2)
noncomputable def cb_evening_Strain : Code := codeOf Tryd.f40
def evening_Strain_1 (v3 : (Int × (List Int))) : Nat → Int → Int → Option ((Int))
  | 0, _, _ => none
  | f + 1, c4, c5 =>
    if (decide (c5 < (v3.2.length : Int))) = true then
    (idx v3.2 c5).bind fun v7 =>
    evening_Strain_1 v3 f (wr .i64 (c4 + (wr .i64 (v7 * v7)))) (wr .i64 (c5 + 1))
    else
    some c4
def evening_Strain (x0 : Int) (x1 : (List (List (List Int)))) : Option (Int) :=
  (evening_valid x0 x1).bind fun v1 =>
  if (!v1) = true then
  some 0
  else
  (evening_meetings x0 x1).bind fun v3 =>
  (evening_Strain_1 v3 100000 0 0).bind fun r9 =>
  some (wr .i64 (r9.tdiv 2))
def cs_evening_Strain : Cs (Int × (List (List (List Int))) × Unit) := (csC cdI (csC (cdL 1 (cdL 1 (cdL 1 cdI))) csN))
def er_evening_Strain (r : Int) : AV := cdI.enc r
set_option maxHeartbeats 4000000 in
set_option maxRecDepth 100000 in
theorem evening_Strain_1_ok (v3 : (Int × (List Int))) : ∀ (f : Nat) (c4 : Int) (c5 : Int) (r : (Int)), evening_Strain_1 v3 f c4 c5 = some r → SemN e_evening_Strain ⟨none, false⟩ (pc cb_evening_Strain [1, 1, 1, 0, 1, 0, 0]) f ⟨Fr 29 [(5, .v (.int .i64 c4)), (15, .sl 1 (v3.2.map cdI.enc)), (16, .v (.int .i64 (v3.2.length : Int))), (17, .v (.int .i64 c5))], []⟩ (fun e s => e = (.exit 0) ∧ Wk e_evening_Strain s ⟨Fr 29 [(5, .v (.int .i64 r))], []⟩) := by
  intro f
  induction f with
  | zero => intro c4 c5 r h; cases h
  | succ f ih0 =>
    intro c4 c5 r h
    have ih := fun (c4 : Int) (c5 : Int) => ih0 c4 c5 r
    unfold evening_Strain_1 at h
    refine SemN.succ ?_
    refine Sem.seq ?_
    refine Sem.runS (s1 := ⟨Fr 29 [(5, .v (.int .i64 c4)), (15, .sl 1 (v3.2.map cdI.enc)), (16, .v (.int .i64 (v3.2.length : Int))), (17, .v (.int .i64 c5)), (18, .v (.bool (decide (c5 < (v3.2.length : Int)))))], []⟩) ?_ ?_
    · refine RunS.segF (n := 29) e_evening_Strain_ok 1 [(5, .v (.int .i64 c4)), (15, .sl 1 (v3.2.map cdI.enc)), (16, .v (.int .i64 (v3.2.length : Int))), (17, .v (.int .i64 c5)), (18, .v (.bool (decide (c5 < (v3.2.length : Int)))))] [] (by kernel_rfl) ?_
      exact RunS.done rfl (Wk.fr (by kernel_rfl))
    refine Sem.seq ?_
    refine Sem.cond (b := (decide (c5 < (v3.2.length : Int)))) (by kernel_rfl) (fun hb6 => ?_) (fun hb6 => ?_)
    · rw [if_pos hb6] at h
      refine Sem.skip ?_
      refine Sem.seq ?_
      refine Sem.block ?_
      refine Sem.seq ?_
      obtain ⟨v7, hv7, h⟩ := Option.bind_eq_some_iff.1 h
      refine Sem.runS (s1 := ⟨Fr 29 [(5, .v (.int .i64 c4)), (7, .v (.int .i64 v7)), (15, .sl 1 (v3.2.map cdI.enc)), (16, .v (.int .i64 (v3.2.length : Int))), (17, .v (.int .i64 c5))], []⟩) ?_ ?_
      · refine RunS.one e_evening_Strain_ok 0 rfl (op_q (wantedA_none rfl) rfl (q_indexAddr (a := .sl 1 (v3.2.map cdI.enc)) (b := .v (.int .i64 c5)) (by kernel_rfl) (by kernel_rfl) (ix_sl (e := cdI.enc) (el := 3) (k := 1) (ki := .i64) (by kernel_rfl) (by kernel_rfl) hv7))) ?_
        refine RunS.segF (n := 29) e_evening_Strain_ok 2 [(5, .v (.int .i64 c4)), (7, .v (.int .i64 v7)), (15, .sl 1 (v3.2.map cdI.enc)), (16, .v (.int .i64 (v3.2.length : Int))), (17, .v (.int .i64 c5))] [] (by kernel_rfl) ?_
        exact RunS.done rfl (Wk.fr (by kernel_rfl))
      refine Sem.runS (s1 := ⟨Fr 29 [(5, .v (.int .i64 (wr .i64 (c4 + (wr .i64 (v7 * v7)))))), (15, .sl 1 (v3.2.map cdI.enc)), (16, .v (.int .i64 (v3.2.length : Int))), (17, .v (.int .i64 c5))], []⟩) ?_ ?_
      · refine RunS.segF (n := 29) e_evening_Strain_ok 6 [(5, .v (.int .i64 (wr .i64 (c4 + (wr .i64 (v7 * v7)))))), (15, .sl 1 (v3.2.map cdI.enc)), (16, .v (.int .i64 (v3.2.length : Int))), (17, .v (.int .i64 c5))] [] (by kernel_rfl) ?_
        exact RunS.done rfl (Wk.fr (by kernel_rfl))
      refine Sem.runS (s1 := ⟨Fr 29 [(5, .v (.int .i64 (wr .i64 (c4 + (wr .i64 (v7 * v7)))))), (15, .sl 1 (v3.2.map cdI.enc)), (16, .v (.int .i64 (v3.2.length : Int))), (17, .v (.int .i64 (wr .i64 (c5 + 1))))], []⟩) ?_ ?_
      · refine RunS.segF (n := 29) e_evening_Strain_ok 2 [(5, .v (.int .i64 (wr .i64 (c4 + (wr .i64 (v7 * v7)))))), (15, .sl 1 (v3.2.map cdI.enc)), (16, .v (.int .i64 (v3.2.length : Int))), (17, .v (.int .i64 (wr .i64 (c5 + 1))))] [] (by kernel_rfl) ?_
        exact RunS.done rfl (Wk.fr (by kernel_rfl))
      exact SemN.wk (s1 := ⟨Fr 29 [(5, .v (.int .i64 (wr .i64 (c4 + (wr .i64 (v7 * v7)))))), (15, .sl 1 (v3.2.map cdI.enc)), (16, .v (.int .i64 (v3.2.length : Int))), (17, .v (.int .i64 (wr .i64 (c5 + 1))))], []⟩) (Wk.fr (by kernel_rfl)) (ih (wr .i64 (c4 + (wr .i64 (v7 * v7)))) (wr .i64 (c5 + 1)) h)
    · rw [if_f hb6] at h
      refine Sem.exit ?_
      have hq := Option.some.inj h; subst hq
      exact ⟨rfl, (Wk.fr (by kernel_rfl))⟩
set_option maxHeartbeats 4000000 in
set_option maxRecDepth 100000 in
theorem evening_Strain_sem (x0 : Int) (x1 : (List (List (List Int)))) (r : Int) (h : evening_Strain x0 x1 = some r) : Sem e_evening_Strain ⟨none, false⟩ cb_evening_Strain ⟨Fr 29 (pairs0 0 (cs_evening_Strain.enc (x0, x1, ()))), []⟩ fun e s' => (e = .normal ∨ e = .ret) ∧ ∃ xs, resA e_evening_Strain.P s'.fr s'.hp Tryd.f40.results.toList = some xs ∧ retA xs = er_evening_Strain r := by
  unfold evening_Strain at h
  refine Sem.wkQ (Sem.wk (s1 := ⟨Fr 29 [(0, .v (.int .i64 x0)), (1, .sl 1 (x1.map (cdL 1 (cdL 1 cdI)).enc))], []⟩) (Wk.fr (by kernel_rfl)) ?_)
  refine Sem.seq ?_
  refine Sem.runS (s1 := ⟨Fr 29 [(0, .v (.int .i64 x0)), (1, .sl 1 (x1.map (cdL 1 (cdL 1 cdI)).enc))], []⟩) ?_ ?_
  · refine RunS.segF (n := 29) e_evening_Strain_ok 1 [(0, .v (.int .i64 x0)), (1, .sl 1 (x1.map (cdL 1 (cdL 1 cdI)).enc))] [] (by kernel_rfl) ?_
    exact RunS.done rfl (Wk.fr (by kernel_rfl))
  refine Sem.seq ?_
  refine Sem.seq ?_
  obtain ⟨v1, hv1, h⟩ := Option.bind_eq_some_iff.1 h
  refine Sem.runS (s1 := ⟨Fr 29 [(0, .v (.int .i64 x0)), (1, .sl 1 (x1.map (cdL 1 (cdL 1 cdI)).enc)), (11, .v (.bool (!v1)))], []⟩) ?_ ?_
  · refine RunS.segF (n := 29) e_evening_Strain_ok 2 [(0, .v (.int .i64 x0)), (1, .sl 1 (x1.map (cdL 1 (cdL 1 cdI)).enc)), (8, .v (.int .i64 x0)), (9, .sl 1 (x1.map (cdL 1 (cdL 1 cdI)).enc))] [] (by kernel_rfl) ?_
    refine RunS.call e_evening_Strain_ok (fid := 60) (s := cs_evening_valid) (F := fun a => evening_valid a.1 a.2.1) (er := er_evening_valid) (xs := [.v (.int .i64 x0), .sl 1 (x1.map (cdL 1 (cdL 1 cdI)).enc)]) (a := (x0, x1, ())) rfl (wantedA_none rfl) (by kernel_rfl) (by kernel_rfl) (by kernel_rfl) (by kernel_rfl) (Sns.cons (Sn.enc (c := cdI) (v := x0)) (Sns.cons (Sn.enc (c := (cdL 1 (cdL 1 (cdL 1 cdI)))) (v := x1)) Sns.nil)) (.inl (by kernel_rfl)) hv1 ?_
    refine RunS.segF (n := 29) e_evening_Strain_ok 1 [(0, .v (.int .i64 x0)), (1, .sl 1 (x1.map (cdL 1 (cdL 1 cdI)).enc)), (11, .v (.bool (!v1)))] [] (by kernel_rfl) ?_
    exact RunS.done rfl (Wk.fr (by kernel_rfl))
  refine Sem.cond (b := (!v1)) (by kernel_rfl) (fun hb2 => ?_) (fun hb2 => ?_)
  · rw [if_pos hb2] at h
    refine Sem.seq ?_
    refine Sem.runS (s1 := ⟨Fr 29 [(4, .v (.int .i64 0))], []⟩) ?_ ?_
    · refine RunS.segF (n := 29) e_evening_Strain_ok 1 [(4, .v (.int .i64 0))] [] (by kernel_rfl) ?_
      exact RunS.done rfl (Wk.fr (by kernel_rfl))
    refine Sem.ret ?_
    have hq := Option.some.inj h; subst hq
    exact ⟨⟨Fr 29 [(4, .v (.int .i64 0))], []⟩, (Wk.fr (by kernel_rfl)), .inr rfl, [.v (.int .i64 0)], (by kernel_rfl), (by kernel_rfl)⟩
  · rw [if_f hb2] at h
    refine Sem.skip ?_
    refine Sem.seq ?_
    refine Sem.runS (s1 := ⟨Fr 29 [(0, .v (.int .i64 x0)), (1, .sl 1 (x1.map (cdL 1 (cdL 1 cdI)).enc)), (5, .v (.int .i64 0))], []⟩) ?_ ?_
    · refine RunS.segF (n := 29) e_evening_Strain_ok 1 [(0, .v (.int .i64 x0)), (1, .sl 1 (x1.map (cdL 1 (cdL 1 cdI)).enc)), (5, .v (.int .i64 0))] [] (by kernel_rfl) ?_
      exact RunS.done rfl (Wk.fr (by kernel_rfl))
    refine Sem.seq ?_
    refine Sem.seq ?_
    obtain ⟨v3, hv3, h⟩ := Option.bind_eq_some_iff.1 h
    refine Sem.runS (s1 := ⟨Fr 29 [(5, .v (.int .i64 0)), (15, .sl 1 (v3.2.map cdI.enc)), (16, .v (.int .i64 (v3.2.length : Int))), (17, .v (.int .i64 0))], []⟩) ?_ ?_
    · refine RunS.segF (n := 29) e_evening_Strain_ok 2 [(5, .v (.int .i64 0)), (12, .v (.int .i64 x0)), (13, .sl 1 (x1.map (cdL 1 (cdL 1 cdI)).enc))] [] (by kernel_rfl) ?_
      refine RunS.call e_evening_Strain_ok (fid := 78) (s := cs_evening_meetings) (F := fun a => evening_meetings a.1 a.2.1) (er := er_evening_meetings) (xs := [.v (.int .i64 x0), .sl 1 (x1.map (cdL 1 (cdL 1 cdI)).enc)]) (a := (x0, x1, ())) rfl (wantedA_none rfl) (by kernel_rfl) (by kernel_rfl) (by kernel_rfl) (by kernel_rfl) (Sns.cons (Sn.enc (c := cdI) (v := x0)) (Sns.cons (Sn.enc (c := (cdL 1 (cdL 1 (cdL 1 cdI)))) (v := x1)) Sns.nil)) (.inl (by kernel_rfl)) hv3 ?_
      refine RunS.segF (n := 29) e_evening_Strain_ok 1 [(5, .v (.int .i64 0)), (15, .sl 1 (v3.2.map cdI.enc))] [] (by kernel_rfl) ?_
      refine RunS.one e_evening_Strain_ok 0 rfl (op_q (wantedA_none rfl) rfl (q_len (a := .sl 1 (v3.2.map cdI.enc)) (by kernel_rfl) (len_sl (el := 3) (by kernel_rfl)))) ?_
      refine RunS.segF (n := 29) e_evening_Strain_ok 1 [(5, .v (.int .i64 0)), (15, .sl 1 (v3.2.map cdI.enc)), (16, .v (.int .i64 (v3.2.length : Int))), (17, .v (.int .i64 0))] [] (by kernel_rfl) ?_
      exact RunS.done rfl (Wk.fr (by kernel_rfl))
    refine Sem.block ?_
    obtain ⟨r9, hr9, h⟩ := Option.bind_eq_some_iff.1 h
    refine Sem.loop (n := 100000) ?_
    refine Sem.cutN (SemN.wk (s1 := ⟨Fr 29 [(5, .v (.int .i64 0)), (15, .sl 1 (v3.2.map cdI.enc)), (16, .v (.int .i64 (v3.2.length : Int))), (17, .v (.int .i64 0))], []⟩) (Wk.fr (by kernel_rfl)) (evening_Strain_1_ok v3 _ 0 0 _ hr9)) ?_
    refine Sem.seq ?_
    refine Sem.runS (s1 := ⟨Fr 29 [(4, .v (.int .i64 (wr .i64 (r9.tdiv 2))))], []⟩) ?_ ?_
    · refine RunS.segF (n := 29) e_evening_Strain_ok 3 [(4, .v (.int .i64 (wr .i64 (r9.tdiv 2))))] [] (by kernel_rfl) ?_
      exact RunS.done rfl (Wk.fr (by kernel_rfl))
    refine Sem.ret ?_
    have hq := Option.some.inj h; subst hq
    exact ⟨⟨Fr 29 [(4, .v (.int .i64 (wr .i64 (r9.tdiv 2))))], []⟩, (Wk.fr (by kernel_rfl)), .inr rfl, [.v (.int .i64 (wr .i64 (r9.tdiv 2)))], (by kernel_rfl), (by kernel_rfl)⟩
def t_evening_Strain : List AV → Option AV := told cs_evening_Strain (fun a => evening_Strain a.1 a.2.1) er_evening_Strain
theorem x_evening_Strain : XOk 40 t_evening_Strain := by
  refine EnvOk.x (E := e_evening_Strain) (contract_ok e_evening_Strain_ok (fn := Tryd.f40) (c := cb_evening_Strain) ?h1 ?h2 ⟨Tryd.call40⟩ cs_evening_Strain (fun a => evening_Strain a.1 a.2.1) er_evening_Strain (fun a => (by show 2 ≤ 29; decide)) ?h3 ?h4) rfl rfl
  case h1 => kernel_rfl
  case h2 => kernel_rfl
  case h3 => intro b; kernel_rfl
  case h4 => exact fun a b h => evening_Strain_sem a.1 a.2.1 b h
end Go.Proofs.YthofgamegondnaaDoor

namespace Go.Proofs.YthofgamegondnaaDoor
open Go.RowKit
/- trestle/trestlelaw09.EveningPigeon -/
noncomputable def e_law09_EveningPigeon : Env := ((((((((((E0.withX 41 t_law09_Made).withX 28 t_evening_Check).withX 38 t_evening_Most).withX 31 t_evening_LeastMost).withX 33 t_evening_MostEvenings).withX 48 t_evening_Meet).withX 39 t_evening_Least).withX 52 t_evening_Together).withX 40 t_evening_Strain).withX 16 t_law09_awake)
theorem e_law09_EveningPigeon_ok : EnvOk e_law09_EveningPigeon := (EnvOk.withX (EnvOk.withX (EnvOk.withX (EnvOk.withX (EnvOk.withX (EnvOk.withX (EnvOk.withX (EnvOk.withX (EnvOk.withX (EnvOk.withX E0_ok x_law09_Made.1 x_law09_Made.2) x_evening_Check.1 x_evening_Check.2) x_evening_Most.1 x_evening_Most.2) x_evening_LeastMost.1 x_evening_LeastMost.2) x_evening_MostEvenings.1 x_evening_MostEvenings.2) x_evening_Meet.1 x_evening_Meet.2) x_evening_Least.1 x_evening_Least.2) x_evening_Together.1 x_evening_Together.2) x_evening_Strain.1 x_evening_Strain.2) x_law09_awake.1 x_law09_awake.2)
noncomputable def cb_law09_EveningPigeon : Code := codeOf Tryd.f14
def law09_EveningPigeon_1 (v1 : (List (List (List Int))) × (List Int) × Int) (v6 : Int) (v18 : (List (List Int))) : Nat → Int → Int → Option ((Int))
  | 0, _, _ => none
  | f + 1, c20, c21 =>
    if (decide (c21 < (v1.2.1.length : Int))) = true then
    (idx v1.2.1 c21).bind fun v23 =>
    law09_EveningPigeon_1 v1 v6 v18 f (wr .i64 (c20 + (wr .i64 (v23 * (wr .i64 (v23 - 1)))))) (wr .i64 (c21 + 1))
    else
    some c20
def law09_EveningPigeon_3 (v1 : (List (List (List Int))) × (List Int) × Int) (v6 : Int) (v18 : (List (List Int))) (r25 : Int) (c28 : Int) (v30 : (List Int)) : Nat → Int → Int → Int → Option ((Int × Int) ⊕ (Bool))
  | 0, _, _, _ => none
  | f + 1, c36, c37, c38 =>
    if (decide (c38 < (v30.length : Int))) = true then
    (idx v30 c38).bind fun v40 =>
    (idx v18 c38).bind fun v41 =>
    (idx v41 c28).bind fun v42 =>
    (if (v40 != v42) = true then some true else if (decide (v40 > v6)) = true then some true else if (c28 != c38) = true then (evening_Least v1.2.2 v1.1).bind fun v43 =>
    if (decide (v40 < v43)) = true then some true else (evening_Together v1.2.2 v1.1 c28 c38).bind fun v44 =>
    some ((v44.length : Int) != v40) else some false).bind fun j46 =>
    if j46 = true then
    some (.inr false)
    else
    law09_EveningPigeon_3 v1 v6 v18 r25 c28 v30 f (wr .i64 (c36 + v40)) (wr .i64 (c37 + (wr .i64 (v40 * v40)))) (wr .i64 (c38 + 1))
    else
    some (.inl (c36, c37))
def law09_EveningPigeon_2 (v1 : (List (List (List Int))) × (List Int) × Int) (v6 : Int) (v18 : (List (List Int))) (r25 : Int) : Nat → Int → Int → Int → Option ((Int × Int) ⊕ (Bool))
  | 0, _, _, _ => none
  | f + 1, c26, c27, c28 =>
    if (decide (c28 < (v18.length : Int))) = true then
    (idx v18 c28).bind fun v30 =>
    (if ((v30.length : Int) != v1.2.2) = true then some true else (idx v30 c28).bind fun v31 =>
    some (v31 != 0)).bind fun j33 =>
    if j33 = true then
    some (.inr false)
    else
    (law09_EveningPigeon_3 v1 v6 v18 r25 c28 v30 100000 c26 c27 0).bind fun r55 =>
    match r55 with
    | (.inl w56) =>
      law09_EveningPigeon_2 v1 v6 v18 r25 f w56.1 w56.2 (wr .i64 (c28 + 1))
    | (.inr w57) =>
      some (.inr w57)
    else
    some (.inl (c26, c27))
def law09_EveningPigeon (x0 : (List Int)) (x1 : (List (List (Int × Int)))) (x2 : Int) : Option (Bool) :=
  (law09_Made x0 x1).bind fun v1 =>
  (evening_Check v1.2.2 v1.2.1 v1.1).bind fun v2 =>
  (if (v2.1 != 0) = true then some true else some (v2.2 != 0)).bind fun j4 =>
  if j4 = true then
  some false
  else
  (evening_Most v1.2.2 v1.1).bind fun v6 =>
  (evening_LeastMost v1.2.2 v1.2.1 (v1.1.length : Int)).bind fun v7 =>
  (if (decide (v6 < v7)) = true then some true else (evening_MostEvenings v1.2.2 v1.2.1 (wr .i64 (x2.tmod 21))).bind fun v8 =>
  if (decide (v8 < (v1.1.length : Int))) = true then if (decide (v6 ≤ (wr .i64 (x2.tmod 21)))) = true then some true else if (decide (v7 > 0)) = true then (evening_MostEvenings v1.2.2 v1.2.1 (wr .i64 (v7 - 1))).bind fun v9 =>
  if (decide (v9 ≥ (v1.1.length : Int))) = true then some true else (evening_MostEvenings v1.2.2 v1.2.1 v7).bind fun v10 =>
  some (decide (v10 < (v1.1.length : Int))) else (evening_MostEvenings v1.2.2 v1.2.1 v7).bind fun v11 =>
  some (decide (v11 < (v1.1.length : Int))) else if (decide (v7 > 0)) = true then (evening_MostEvenings v1.2.2 v1.2.1 (wr .i64 (v7 - 1))).bind fun v12 =>
  if (decide (v12 ≥ (v1.1.length : Int))) = true then some true else (evening_MostEvenings v1.2.2 v1.2.1 v7).bind fun v13 =>
  some (decide (v13 < (v1.1.length : Int))) else (evening_MostEvenings v1.2.2 v1.2.1 v7).bind fun v14 =>
  some (decide (v14 < (v1.1.length : Int)))).bind fun j16 =>
  if j16 = true then
  some false
  else
  (evening_Meet v1.2.2 v1.1).bind fun v18 =>
  if ((v18.length : Int) != v1.2.2) = true then
  some false
  else
  (law09_EveningPigeon_1 v1 v6 v18 100000 0 0).bind fun r25 =>
  (law09_EveningPigeon_2 v1 v6 v18 r25 100000 0 0 0).bind fun r61 =>
  match r61 with
  | (.inl w62) =>
    (if (w62.1 == (wr .i64 (r25 * (v1.1.length : Int)))) = true then (evening_Strain v1.2.2 v1.1).bind fun v63 =>
    if (w62.2 == (wr .i64 (2 * v63))) = true then law09_awake.bind fun v64 =>
    some v64 else some false else some false).bind fun j66 =>
    some j66
  | (.inr w69) =>
    some w69
def cs_law09_EveningPigeon : Cs ((List Int) × (List (List (Int × Int))) × Int × Unit) := (csC (cdL 1 (cdK .u8)) (csC (cdL 1 (cdL 2 (cdG2 (cdK .u8) (cdK .u8) (fun _ => rfl) (fun _ => rfl)))) (csC (cdK .u8) csN)))
def er_law09_EveningPigeon (r : Bool) : AV := cdB.enc r
set_option maxHeartbeats 4000000 in
set_option maxRecDepth 100000 in
theorem law09_EveningPigeon_1_ok (v1 : (List (List (List Int))) × (List Int) × Int) (v6 : Int) (v18 : (List (List Int))) : ∀ (f : Nat) (c20 : Int) (c21 : Int) (r : (Int)), law09_EveningPigeon_1 v1 v6 v18 f c20 c21 = some r → SemN e_law09_EveningPigeon ⟨none, false⟩ (pc cb_law09_EveningPigeon [1, 1, 1, 1, 1, 1, 1, 1, 1, 0, 1, 0, 0]) f ⟨Fr 204 [(7, .sl 1 (v1.1.map (cdL 1 (cdL 1 cdI)).enc)), (9, .v (.int .i64 v1.2.2)), (13, .v (.int .i64 v6)), (15, .v (.int .i64 0)), (16, .v (.int .i64 c20)), (17, .v (.int .i64 0)), (18, .sl 1 (v18.map (cdL 1 cdI).enc)), (103, .sl 1 (v1.2.1.map cdI.enc)), (104, .v (.int .i64 (v1.2.1.length : Int))), (105, .v (.int .i64 c21))], []⟩ (fun e s => e = (.exit 0) ∧ Wk e_law09_EveningPigeon s ⟨Fr 204 [(7, .sl 1 (v1.1.map (cdL 1 (cdL 1 cdI)).enc)), (9, .v (.int .i64 v1.2.2)), (13, .v (.int .i64 v6)), (15, .v (.int .i64 0)), (16, .v (.int .i64 r)), (17, .v (.int .i64 0)), (18, .sl 1 (v18.map (cdL 1 cdI).enc))], []⟩) := by
  intro f
  induction f with
  | zero => intro c20 c21 r h; cases h
  | succ f ih0 =>
    intro c20 c21 r h
    have ih := fun (c20 : Int) (c21 : Int) => ih0 c20 c21 r
    unfold law09_EveningPigeon_1 at h
    refine SemN.succ ?_
    refine Sem.seq ?_
    refine Sem.runS (s1 := ⟨Fr 204 [(7, .sl 1 (v1.1.map (cdL 1 (cdL 1 cdI)).enc)), (9, .v (.int .i64 v1.2.2)), (13, .v (.int .i64 v6)), (15, .v (.int .i64 0)), (16, .v (.int .i64 c20)), (17, .v (.int .i64 0)), (18, .sl 1 (v18.map (cdL 1 cdI).enc)), (103, .sl 1 (v1.2.1.map cdI.enc)), (104, .v (.int .i64 (v1.2.1.length : Int))), (105, .v (.int .i64 c21)), (106, .v (.bool (decide (c21 < (v1.2.1.length : Int)))))], []⟩) ?_ ?_
    · refine RunS.segF (n := 204) e_law09_EveningPigeon_ok 1 [(7, .sl 1 (v1.1.map (cdL 1 (cdL 1 cdI)).enc)), (9, .v (.int .i64 v1.2.2)), (13, .v (.int .i64 v6)), (15, .v (.int .i64 0)), (16, .v (.int .i64 c20)), (17, .v (.int .i64 0)), (18, .sl 1 (v18.map (cdL 1 cdI).enc)), (103, .sl 1 (v1.2.1.map cdI.enc)), (104, .v (.int .i64 (v1.2.1.length : Int))), (105, .v (.int .i64 c21)), (106, .v (.bool (decide (c21 < (v1.2.1.length : Int)))))] [] (by kernel_rfl) ?_
      exact RunS.done rfl (Wk.fr (by kernel_rfl))
    refine Sem.seq ?_
    refine Sem.cond (b := (decide (c21 < (v1.2.1.length : Int)))) (by kernel_rfl) (fun hb22 => ?_) (fun hb22 => ?_)
    · rw [if_pos hb22] at h
      refine Sem.skip ?_
      refine Sem.seq ?_
      refine Sem.block ?_
      refine Sem.seq ?_
      obtain ⟨v23, hv23, h⟩ := Option.bind_eq_some_iff.1 h
      refine Sem.runS (s1 := ⟨Fr 204 [(7, .sl 1 (v1.1.map (cdL 1 (cdL 1 cdI)).enc)), (9, .v (.int .i64 v1.2.2)), (13, .v (.int .i64 v6)), (15, .v (.int .i64 0)), (16, .v (.int .i64 c20)), (17, .v (.int .i64 0)), (18, .sl 1 (v18.map (cdL 1 cdI).enc)), (20, .v (.int .i64 v23)), (103, .sl 1 (v1.2.1.map cdI.enc)), (104, .v (.int .i64 (v1.2.1.length : Int))), (105, .v (.int .i64 c21))], []⟩) ?_ ?_
      · refine RunS.one e_law09_EveningPigeon_ok 0 rfl (op_q (wantedA_none rfl) rfl (q_indexAddr (a := .sl 1 (v1.2.1.map cdI.enc)) (b := .v (.int .i64 c21)) (by kernel_rfl) (by kernel_rfl) (ix_sl (e := cdI.enc) (el := 3) (k := 1) (ki := .i64) (by kernel_rfl) (by kernel_rfl) hv23))) ?_
        refine RunS.segF (n := 204) e_law09_EveningPigeon_ok 2 [(7, .sl 1 (v1.1.map (cdL 1 (cdL 1 cdI)).enc)), (9, .v (.int .i64 v1.2.2)), (13, .v (.int .i64 v6)), (15, .v (.int .i64 0)), (16, .v (.int .i64 c20)), (17, .v (.int .i64 0)), (18, .sl 1 (v18.map (cdL 1 cdI).enc)), (20, .v (.int .i64 v23)), (103, .sl 1 (v1.2.1.map cdI.enc)), (104, .v (.int .i64 (v1.2.1.length : Int))), (105, .v (.int .i64 c21))] [] (by kernel_rfl) ?_
        exact RunS.done rfl (Wk.fr (by kernel_rfl))
      refine Sem.runS (s1 := ⟨Fr 204 [(7, .sl 1 (v1.1.map (cdL 1 (cdL 1 cdI)).enc)), (9, .v (.int .i64 v1.2.2)), (13, .v (.int .i64 v6)), (15, .v (.int .i64 0)), (16, .v (.int .i64 (wr .i64 (c20 + (wr .i64 (v23 * (wr .i64 (v23 - 1)))))))), (17, .v (.int .i64 0)), (18, .sl 1 (v18.map (cdL 1 cdI).enc)), (103, .sl 1 (v1.2.1.map cdI.enc)), (104, .v (.int .i64 (v1.2.1.length : Int))), (105, .v (.int .i64 c21))], []⟩) ?_ ?_
      · refine RunS.segF (n := 204) e_law09_EveningPigeon_ok 7 [(7, .sl 1 (v1.1.map (cdL 1 (cdL 1 cdI)).enc)), (9, .v (.int .i64 v1.2.2)), (13, .v (.int .i64 v6)), (15, .v (.int .i64 0)), (16, .v (.int .i64 (wr .i64 (c20 + (wr .i64 (v23 * (wr .i64 (v23 - 1)))))))), (17, .v (.int .i64 0)), (18, .sl 1 (v18.map (cdL 1 cdI).enc)), (103, .sl 1 (v1.2.1.map cdI.enc)), (104, .v (.int .i64 (v1.2.1.length : Int))), (105, .v (.int .i64 c21))] [] (by kernel_rfl) ?_
        exact RunS.done rfl (Wk.fr (by kernel_rfl))
      refine Sem.runS (s1 := ⟨Fr 204 [(7, .sl 1 (v1.1.map (cdL 1 (cdL 1 cdI)).enc)), (9, .v (.int .i64 v1.2.2)), (13, .v (.int .i64 v6)), (15, .v (.int .i64 0)), (16, .v (.int .i64 (wr .i64 (c20 + (wr .i64 (v23 * (wr .i64 (v23 - 1)))))))), (17, .v (.int .i64 0)), (18, .sl 1 (v18.map (cdL 1 cdI).enc)), (103, .sl 1 (v1.2.1.map cdI.enc)), (104, .v (.int .i64 (v1.2.1.length : Int))), (105, .v (.int .i64 (wr .i64 (c21 + 1))))], []⟩) ?_ ?_
      · refine RunS.segF (n := 204) e_law09_EveningPigeon_ok 2 [(7, .sl 1 (v1.1.map (cdL 1 (cdL 1 cdI)).enc)), (9, .v (.int .i64 v1.2.2)), (13, .v (.int .i64 v6)), (15, .v (.int .i64 0)), (16, .v (.int .i64 (wr .i64 (c20 + (wr .i64 (v23 * (wr .i64 (v23 - 1)))))))), (17, .v (.int .i64 0)), (18, .sl 1 (v18.map (cdL 1 cdI).enc)), (103, .sl 1 (v1.2.1.map cdI.enc)), (104, .v (.int .i64 (v1.2.1.length : Int))), (105, .v (.int .i64 (wr .i64 (c21 + 1))))] [] (by kernel_rfl) ?_
        exact RunS.done rfl (Wk.fr (by kernel_rfl))
      exact SemN.wk (s1 := ⟨Fr 204 [(7, .sl 1 (v1.1.map (cdL 1 (cdL 1 cdI)).enc)), (9, .v (.int .i64 v1.2.2)), (13, .v (.int .i64 v6)), (15, .v (.int .i64 0)), (16, .v (.int .i64 (wr .i64 (c20 + (wr .i64 (v23 * (wr .i64 (v23 - 1)))))))), (17, .v (.int .i64 0)), (18, .sl 1 (v18.map (cdL 1 cdI).enc)), (103, .sl 1 (v1.2.1.map cdI.enc)), (104, .v (.int .i64 (v1.2.1.length : Int))), (105, .v (.int .i64 (wr .i64 (c21 + 1))))], []⟩) (Wk.fr (by kernel_rfl)) (ih (wr .i64 (c20 + (wr .i64 (v23 * (wr .i64 (v23 - 1)))))) (wr .i64 (c21 + 1)) h)
    · rw [if_f hb22] at h
      refine Sem.exit ?_
      have hq := Option.some.inj h; subst hq
      exact ⟨rfl, (Wk.fr (by kernel_rfl))⟩
set_option maxHeartbeats 4000000 in
set_option maxRecDepth 100000 in
theorem law09_EveningPigeon_3_ok (v1 : (List (List (List Int))) × (List Int) × Int) (v6 : Int) (v18 : (List (List Int))) (r25 : Int) (c28 : Int) (v30 : (List Int)) : ∀ (f : Nat) (c36 : Int) (c37 : Int) (c38 : Int) (r : (Int × Int) ⊕ (Bool)), law09_EveningPigeon_3 v1 v6 v18 r25 c28 v30 f c36 c37 c38 = some r → SemN e_law09_EveningPigeon ⟨none, false⟩ (pc cb_law09_EveningPigeon [1, 1, 1, 1, 1, 1, 1, 1, 1, 1, 0, 1, 0, 0, 1, 1, 0, 0, 1, 1, 1, 0, 0]) f ⟨Fr 204 [(7, .sl 1 (v1.1.map (cdL 1 (cdL 1 cdI)).enc)), (9, .v (.int .i64 v1.2.2)), (13, .v (.int .i64 v6)), (15, .v (.int .i64 c36)), (16, .v (.int .i64 r25)), (17, .v (.int .i64 c37)), (18, .sl 1 (v18.map (cdL 1 cdI).enc)), (21, .v (.int .i64 c28)), (116, .sl 1 (v18.map (cdL 1 cdI).enc)), (117, .v (.int .i64 (v18.length : Int))), (118, .v (.int .i64 c28)), (134, .sl 1 (v30.map cdI.enc)), (135, .v (.int .i64 (v30.length : Int))), (136, .v (.int .i64 c38))], []⟩ (fun e s => match r with
  | (.inl w) => e = (.exit 4) ∧ Wk e_law09_EveningPigeon s ⟨Fr 204 [(7, .sl 1 (v1.1.map (cdL 1 (cdL 1 cdI)).enc)), (9, .v (.int .i64 v1.2.2)), (13, .v (.int .i64 v6)), (15, .v (.int .i64 w.1)), (16, .v (.int .i64 r25)), (17, .v (.int .i64 w.2)), (18, .sl 1 (v18.map (cdL 1 cdI).enc)), (116, .sl 1 (v18.map (cdL 1 cdI).enc)), (117, .v (.int .i64 (v18.length : Int))), (118, .v (.int .i64 c28))], []⟩
  | (.inr w) => e = .ret ∧ Wk e_law09_EveningPigeon s ⟨Fr 204 [(6, .v (.bool w))], []⟩) := by
  intro f
  induction f with
  | zero => intro c36 c37 c38 r h; cases h
  | succ f ih0 =>
    intro c36 c37 c38 r h
    have ih := fun (c36 : Int) (c37 : Int) (c38 : Int) => ih0 c36 c37 c38 r
    unfold law09_EveningPigeon_3 at h
    refine SemN.succ ?_
    refine Sem.seq ?_
    refine Sem.runS (s1 := ⟨Fr 204 [(7, .sl 1 (v1.1.map (cdL 1 (cdL 1 cdI)).enc)), (9, .v (.int .i64 v1.2.2)), (13, .v (.int .i64 v6)), (15, .v (.int .i64 c36)), (16, .v (.int .i64 r25)), (17, .v (.int .i64 c37)), (18, .sl 1 (v18.map (cdL 1 cdI).enc)), (21, .v (.int .i64 c28)), (116, .sl 1 (v18.map (cdL 1 cdI).enc)), (117, .v (.int .i64 (v18.length : Int))), (118, .v (.int .i64 c28)), (134, .sl 1 (v30.map cdI.enc)), (135, .v (.int .i64 (v30.length : Int))), (136, .v (.int .i64 c38)), (137, .v (.bool (decide (c38 < (v30.length : Int)))))], []⟩) ?_ ?_
    · refine RunS.segF (n := 204) e_law09_EveningPigeon_ok 1 [(7, .sl 1 (v1.1.map (cdL 1 (cdL 1 cdI)).enc)), (9, .v (.int .i64 v1.2.2)), (13, .v (.int .i64 v6)), (15, .v (.int .i64 c36)), (16, .v (.int .i64 r25)), (17, .v (.int .i64 c37)), (18, .sl 1 (v18.map (cdL 1 cdI).enc)), (21, .v (.int .i64 c28)), (116, .sl 1 (v18.map (cdL 1 cdI).enc)), (117, .v (.int .i64 (v18.length : Int))), (118, .v (.int .i64 c28)), (134, .sl 1 (v30.map cdI.enc)), (135, .v (.int .i64 (v30.length : Int))), (136, .v (.int .i64 c38)), (137, .v (.bool (decide (c38 < (v30.length : Int)))))] [] (by kernel_rfl) ?_
      exact RunS.done rfl (Wk.fr (by kernel_rfl))
    refine Sem.seq ?_
    refine Sem.cond (b := (decide (c38 < (v30.length : Int)))) (by kernel_rfl) (fun hb39 => ?_) (fun hb39 => ?_)
    · rw [if_pos hb39] at h
      refine Sem.skip ?_
      refine Sem.seq ?_
      refine Sem.block ?_
      refine Sem.seq ?_
      obtain ⟨v40, hv40, h⟩ := Option.bind_eq_some_iff.1 h
      refine Sem.runS (s1 := ⟨Fr 204 [(7, .sl 1 (v1.1.map (cdL 1 (cdL 1 cdI)).enc)), (9, .v (.int .i64 v1.2.2)), (13, .v (.int .i64 v6)), (15, .v (.int .i64 c36)), (16, .v (.int .i64 r25)), (17, .v (.int .i64 c37)), (18, .sl 1 (v18.map (cdL 1 cdI).enc)), (21, .v (.int .i64 c28)), (23, .v (.int .i64 c38)), (24, .v (.int .i64 v40)), (116, .sl 1 (v18.map (cdL 1 cdI).enc)), (117, .v (.int .i64 (v18.length : Int))), (118, .v (.int .i64 c28)), (134, .sl 1 (v30.map cdI.enc)), (135, .v (.int .i64 (v30.length : Int))), (136, .v (.int .i64 c38))], []⟩) ?_ ?_
      · refine RunS.segF (n := 204) e_law09_EveningPigeon_ok 1 [(7, .sl 1 (v1.1.map (cdL 1 (cdL 1 cdI)).enc)), (9, .v (.int .i64 v1.2.2)), (13, .v (.int .i64 v6)), (15, .v (.int .i64 c36)), (16, .v (.int .i64 r25)), (17, .v (.int .i64 c37)), (18, .sl 1 (v18.map (cdL 1 cdI).enc)), (21, .v (.int .i64 c28)), (116, .sl 1 (v18.map (cdL 1 cdI).enc)), (117, .v (.int .i64 (v18.length : Int))), (118, .v (.int .i64 c28)), (134, .sl 1 (v30.map cdI.enc)), (135, .v (.int .i64 (v30.length : Int))), (136, .v (.int .i64 c38)), (138, .v (.int .i64 c38))] [] (by kernel_rfl) ?_
        refine RunS.one e_law09_EveningPigeon_ok 0 rfl (op_q (wantedA_none rfl) rfl (q_indexAddr (a := .sl 1 (v30.map cdI.enc)) (b := .v (.int .i64 c38)) (by kernel_rfl) (by kernel_rfl) (ix_sl (e := cdI.enc) (el := 3) (k := 1) (ki := .i64) (by kernel_rfl) (by kernel_rfl) hv40))) ?_
        refine RunS.segF (n := 204) e_law09_EveningPigeon_ok 3 [(7, .sl 1 (v1.1.map (cdL 1 (cdL 1 cdI)).enc)), (9, .v (.int .i64 v1.2.2)), (13, .v (.int .i64 v6)), (15, .v (.int .i64 c36)), (16, .v (.int .i64 r25)), (17, .v (.int .i64 c37)), (18, .sl 1 (v18.map (cdL 1 cdI).enc)), (21, .v (.int .i64 c28)), (23, .v (.int .i64 c38)), (24, .v (.int .i64 v40)), (116, .sl 1 (v18.map (cdL 1 cdI).enc)), (117, .v (.int .i64 (v18.length : Int))), (118, .v (.int .i64 c28)), (134, .sl 1 (v30.map cdI.enc)), (135, .v (.int .i64 (v30.length : Int))), (136, .v (.int .i64 c38))] [] (by kernel_rfl) ?_
        exact RunS.done rfl (Wk.fr (by kernel_rfl))
      refine Sem.seq ?_
      refine Sem.seq ?_
      obtain ⟨v41, hv41, h⟩ := Option.bind_eq_some_iff.1 h
      obtain ⟨v42, hv42, h⟩ := Option.bind_eq_some_iff.1 h
      obtain ⟨j46, hj46, h⟩ := Option.bind_eq_some_iff.1 h
      refine Sem.runS (s1 := ⟨Fr 204 [(7, .sl 1 (v1.1.map (cdL 1 (cdL 1 cdI)).enc)), (9, .v (.int .i64 v1.2.2)), (13, .v (.int .i64 v6)), (15, .v (.int .i64 c36)), (16, .v (.int .i64 r25)), (17, .v (.int .i64 c37)), (18, .sl 1 (v18.map (cdL 1 cdI).enc)), (21, .v (.int .i64 c28)), (24, .v (.int .i64 v40)), (116, .sl 1 (v18.map (cdL 1 cdI).enc)), (117, .v (.int .i64 (v18.length : Int))), (118, .v (.int .i64 c28)), (134, .sl 1 (v30.map cdI.enc)), (135, .v (.int .i64 (v30.length : Int))), (136, .v (.int .i64 c38)), (176, .v (.bool j46))], []⟩) ?_ ?_
      · refine RunS.segF (n := 204) e_law09_EveningPigeon_ok 3 [(7, .sl 1 (v1.1.map (cdL 1 (cdL 1 cdI)).enc)), (9, .v (.int .i64 v1.2.2)), (13, .v (.int .i64 v6)), (15, .v (.int .i64 c36)), (16, .v (.int .i64 r25)), (17, .v (.int .i64 c37)), (18, .sl 1 (v18.map (cdL 1 cdI).enc)), (21, .v (.int .i64 c28)), (23, .v (.int .i64 c38)), (24, .v (.int .i64 v40)), (116, .sl 1 (v18.map (cdL 1 cdI).enc)), (117, .v (.int .i64 (v18.length : Int))), (118, .v (.int .i64 c28)), (134, .sl 1 (v30.map cdI.enc)), (135, .v (.int .i64 (v30.length : Int))), (136, .v (.int .i64 c38)), (141, .v (.int .i64 v40)), (142, .sl 1 (v18.map (cdL 1 cdI).enc)), (143, .v (.int .i64 c38))] [] (by kernel_rfl) ?_
        refine RunS.one e_law09_EveningPigeon_ok 0 rfl (op_q (wantedA_none rfl) rfl (q_indexAddr (a := .sl 1 (v18.map (cdL 1 cdI).enc)) (b := .v (.int .i64 c38)) (by kernel_rfl) (by kernel_rfl) (ix_sl (e := (cdL 1 cdI).enc) (el := 24) (k := 1) (ki := .i64) (by kernel_rfl) (by kernel_rfl) hv41))) ?_
        refine RunS.segF (n := 204) e_law09_EveningPigeon_ok 2 [(7, .sl 1 (v1.1.map (cdL 1 (cdL 1 cdI)).enc)), (9, .v (.int .i64 v1.2.2)), (13, .v (.int .i64 v6)), (15, .v (.int .i64 c36)), (16, .v (.int .i64 r25)), (17, .v (.int .i64 c37)), (18, .sl 1 (v18.map (cdL 1 cdI).enc)), (21, .v (.int .i64 c28)), (23, .v (.int .i64 c38)), (24, .v (.int .i64 v40)), (116, .sl 1 (v18.map (cdL 1 cdI).enc)), (117, .v (.int .i64 (v18.length : Int))), (118, .v (.int .i64 c28)), (134, .sl 1 (v30.map cdI.enc)), (135, .v (.int .i64 (v30.length : Int))), (136, .v (.int .i64 c38)), (141, .v (.int .i64 v40)), (145, .sl 1 (v41.map cdI.enc)), (146, .v (.int .i64 c28))] [] (by kernel_rfl) ?_
        refine RunS.one e_law09_EveningPigeon_ok 0 rfl (op_q (wantedA_none rfl) rfl (q_indexAddr (a := .sl 1 (v41.map cdI.enc)) (b := .v (.int .i64 c28)) (by kernel_rfl) (by kernel_rfl) (ix_sl (e := cdI.enc) (el := 3) (k := 1) (ki := .i64) (by kernel_rfl) (by kernel_rfl) hv42))) ?_
        refine RunS.segF (n := 204) e_law09_EveningPigeon_ok 3 [(7, .sl 1 (v1.1.map (cdL 1 (cdL 1 cdI)).enc)), (9, .v (.int .i64 v1.2.2)), (13, .v (.int .i64 v6)), (15, .v (.int .i64 c36)), (16, .v (.int .i64 r25)), (17, .v (.int .i64 c37)), (18, .sl 1 (v18.map (cdL 1 cdI).enc)), (21, .v (.int .i64 c28)), (23, .v (.int .i64 c38)), (24, .v (.int .i64 v40)), (116, .sl 1 (v18.map (cdL 1 cdI).enc)), (117, .v (.int .i64 (v18.length : Int))), (118, .v (.int .i64 c28)), (134, .sl 1 (v30.map cdI.enc)), (135, .v (.int .i64 (v30.length : Int))), (136, .v (.int .i64 c38)), (150, .v (.bool (v40 != v42)))] [] (by kernel_rfl) ?_
        rcases Bool.eq_false_or_eq_true (v40 != v42) with hc49 | hc49
        · rw [if_pos hc49] at hj46
          rw [hc49]
          refine RunS.segF (n := 204) e_law09_EveningPigeon_ok 26 [(7, .sl 1 (v1.1.map (cdL 1 (cdL 1 cdI)).enc)), (9, .v (.int .i64 v1.2.2)), (13, .v (.int .i64 v6)), (15, .v (.int .i64 c36)), (16, .v (.int .i64 r25)), (17, .v (.int .i64 c37)), (18, .sl 1 (v18.map (cdL 1 cdI).enc)), (21, .v (.int .i64 c28)), (24, .v (.int .i64 v40)), (116, .sl 1 (v18.map (cdL 1 cdI).enc)), (117, .v (.int .i64 (v18.length : Int))), (118, .v (.int .i64 c28)), (134, .sl 1 (v30.map cdI.enc)), (135, .v (.int .i64 (v30.length : Int))), (136, .v (.int .i64 c38)), (151, .tp []), (152, .tp []), (153, .tp []), (156, .tp []), (157, .tp []), (158, .tp []), (159, .tp []), (160, .tp []), (161, .tp []), (162, .tp []), (163, .tp []), (164, .tp []), (165, .tp []), (166, .tp []), (167, .tp []), (168, .tp []), (169, .tp []), (170, .tp []), (171, .tp []), (172, .tp []), (173, .tp []), (174, .tp []), (175, .tp []), (176, .v (.bool true))] [] (by kernel_rfl) ?_
          have hq := Option.some.inj hj46; subst hq
          exact RunS.done rfl (Wk.fr (by kernel_rfl))
        · rw [if_f hc49] at hj46
          rw [hc49]
          refine RunS.segF (n := 204) e_law09_EveningPigeon_ok 5 [(7, .sl 1 (v1.1.map (cdL 1 (cdL 1 cdI)).enc)), (9, .v (.int .i64 v1.2.2)), (13, .v (.int .i64 v6)), (15, .v (.int .i64 c36)), (16, .v (.int .i64 r25)), (17, .v (.int .i64 c37)), (18, .sl 1 (v18.map (cdL 1 cdI).enc)), (21, .v (.int .i64 c28)), (23, .v (.int .i64 c38)), (24, .v (.int .i64 v40)), (116, .sl 1 (v18.map (cdL 1 cdI).enc)), (117, .v (.int .i64 (v18.length : Int))), (118, .v (.int .i64 c28)), (134, .sl 1 (v30.map cdI.enc)), (135, .v (.int .i64 (v30.length : Int))), (136, .v (.int .i64 c38)), (151, .v (.int .i64 v40)), (152, .v (.int .i64 v6)), (153, .v (.bool (decide (v40 > v6)))), (155, .v (.bool (decide (v40 > v6))))] [] (by kernel_rfl) ?_
          rcases Bool.eq_false_or_eq_true (decide (v40 > v6)) with hc50 | hc50
          · rw [if_pos hc50] at hj46
            rw [hc50]
            refine RunS.segF (n := 204) e_law09_EveningPigeon_ok 21 [(7, .sl 1 (v1.1.map (cdL 1 (cdL 1 cdI)).enc)), (9, .v (.int .i64 v1.2.2)), (13, .v (.int .i64 v6)), (15, .v (.int .i64 c36)), (16, .v (.int .i64 r25)), (17, .v (.int .i64 c37)), (18, .sl 1 (v18.map (cdL 1 cdI).enc)), (21, .v (.int .i64 c28)), (24, .v (.int .i64 v40)), (116, .sl 1 (v18.map (cdL 1 cdI).enc)), (117, .v (.int .i64 (v18.length : Int))), (118, .v (.int .i64 c28)), (134, .sl 1 (v30.map cdI.enc)), (135, .v (.int .i64 (v30.length : Int))), (136, .v (.int .i64 c38)), (151, .v (.int .i64 v40)), (152, .v (.int .i64 v6)), (153, .v (.bool true)), (156, .tp []), (157, .tp []), (158, .tp []), (159, .tp []), (160, .tp []), (161, .tp []), (162, .tp []), (163, .tp []), (164, .tp []), (165, .tp []), (166, .tp []), (167, .tp []), (168, .tp []), (169, .tp []), (170, .tp []), (171, .tp []), (172, .tp []), (173, .tp []), (174, .tp []), (175, .tp []), (176, .v (.bool true))] [] (by kernel_rfl) ?_
            have hq := Option.some.inj hj46; subst hq
            exact RunS.done rfl (Wk.fr (by kernel_rfl))
          · rw [if_f hc50] at hj46
            rw [hc50]
            refine RunS.segF (n := 204) e_law09_EveningPigeon_ok 4 [(7, .sl 1 (v1.1.map (cdL 1 (cdL 1 cdI)).enc)), (9, .v (.int .i64 v1.2.2)), (13, .v (.int .i64 v6)), (15, .v (.int .i64 c36)), (16, .v (.int .i64 r25)), (17, .v (.int .i64 c37)), (18, .sl 1 (v18.map (cdL 1 cdI).enc)), (21, .v (.int .i64 c28)), (23, .v (.int .i64 c38)), (24, .v (.int .i64 v40)), (116, .sl 1 (v18.map (cdL 1 cdI).enc)), (117, .v (.int .i64 (v18.length : Int))), (118, .v (.int .i64 c28)), (134, .sl 1 (v30.map cdI.enc)), (135, .v (.int .i64 (v30.length : Int))), (136, .v (.int .i64 c38)), (151, .v (.int .i64 v40)), (152, .v (.int .i64 v6)), (153, .v (.bool false)), (155, .v (.bool false)), (156, .v (.int .i64 c28)), (157, .v (.int .i64 c38)), (158, .v (.bool (c28 != c38))), (159, .v (.bool (c28 != c38)))] [] (by kernel_rfl) ?_
            rcases Bool.eq_false_or_eq_true (c28 != c38) with hc51 | hc51
            · rw [if_pos hc51] at hj46
              rw [hc51]
              refine RunS.segF (n := 204) e_law09_EveningPigeon_ok 3 [(7, .sl 1 (v1.1.map (cdL 1 (cdL 1 cdI)).enc)), (9, .v (.int .i64 v1.2.2)), (13, .v (.int .i64 v6)), (15, .v (.int .i64 c36)), (16, .v (.int .i64 r25)), (17, .v (.int .i64 c37)), (18, .sl 1 (v18.map (cdL 1 cdI).enc)), (21, .v (.int .i64 c28)), (23, .v (.int .i64 c38)), (24, .v (.int .i64 v40)), (116, .sl 1 (v18.map (cdL 1 cdI).enc)), (117, .v (.int .i64 (v18.length : Int))), (118, .v (.int .i64 c28)), (134, .sl 1 (v30.map cdI.enc)), (135, .v (.int .i64 (v30.length : Int))), (136, .v (.int .i64 c38)), (151, .v (.int .i64 v40)), (152, .v (.int .i64 v6)), (153, .v (.bool false)), (155, .v (.bool false)), (156, .v (.int .i64 c28)), (157, .v (.int .i64 c38)), (158, .v (.bool true)), (159, .v (.bool true)), (160, .v (.int .i64 v40)), (161, .v (.int .i64 v1.2.2)), (162, .sl 1 (v1.1.map (cdL 1 (cdL 1 cdI)).enc))] [] (by kernel_rfl) ?_
              obtain ⟨v43, hv43, hj46⟩ := Option.bind_eq_some_iff.1 hj46
              refine RunS.call e_law09_EveningPigeon_ok (fid := 39) (s := cs_evening_Least) (F := fun a => evening_Least a.1 a.2.1) (er := er_evening_Least) (xs := [.v (.int .i64 v1.2.2), .sl 1 (v1.1.map (cdL 1 (cdL 1 cdI)).enc)]) (a := (v1.2.2, v1.1, ())) rfl (by kernel_rfl) (by kernel_rfl) (by kernel_rfl) (by kernel_rfl) (by kernel_rfl) (Sns.cons (Sn.enc (c := cdI) (v := v1.2.2)) (Sns.cons (Sn.enc (c := (cdL 1 (cdL 1 (cdL 1 cdI)))) (v := v1.1)) Sns.nil)) (.inl (by kernel_rfl)) hv43 ?_
              refine RunS.segF (n := 204) e_law09_EveningPigeon_ok 2 [(7, .sl 1 (v1.1.map (cdL 1 (cdL 1 cdI)).enc)), (9, .v (.int .i64 v1.2.2)), (13, .v (.int .i64 v6)), (15, .v (.int .i64 c36)), (16, .v (.int .i64 r25)), (17, .v (.int .i64 c37)), (18, .sl 1 (v18.map (cdL 1 cdI).enc)), (21, .v (.int .i64 c28)), (23, .v (.int .i64 c38)), (24, .v (.int .i64 v40)), (116, .sl 1 (v18.map (cdL 1 cdI).enc)), (117, .v (.int .i64 (v18.length : Int))), (118, .v (.int .i64 c28)), (134, .sl 1 (v30.map cdI.enc)), (135, .v (.int .i64 (v30.length : Int))), (136, .v (.int .i64 c38)), (151, .v (.int .i64 v40)), (152, .v (.int .i64 v6)), (153, .v (.bool false)), (155, .v (.bool false)), (156, .v (.int .i64 c28)), (157, .v (.int .i64 c38)), (158, .v (.bool true)), (159, .v (.bool true)), (160, .v (.int .i64 v40)), (161, .v (.int .i64 v1.2.2)), (162, .sl 1 (v1.1.map (cdL 1 (cdL 1 cdI)).enc)), (163, .v (.int .i64 v43)), (164, .v (.bool (decide (v40 < v43)))), (165, .v (.bool (decide (v40 < v43))))] [] (by kernel_rfl) ?_
              rcases Bool.eq_false_or_eq_true (decide (v40 < v43)) with hc52 | hc52
              · rw [if_pos hc52] at hj46
                rw [hc52]
                refine RunS.segF (n := 204) e_law09_EveningPigeon_ok 11 [(7, .sl 1 (v1.1.map (cdL 1 (cdL 1 cdI)).enc)), (9, .v (.int .i64 v1.2.2)), (13, .v (.int .i64 v6)), (15, .v (.int .i64 c36)), (16, .v (.int .i64 r25)), (17, .v (.int .i64 c37)), (18, .sl 1 (v18.map (cdL 1 cdI).enc)), (21, .v (.int .i64 c28)), (24, .v (.int .i64 v40)), (116, .sl 1 (v18.map (cdL 1 cdI).enc)), (117, .v (.int .i64 (v18.length : Int))), (118, .v (.int .i64 c28)), (134, .sl 1 (v30.map cdI.enc)), (135, .v (.int .i64 (v30.length : Int))), (136, .v (.int .i64 c38)), (151, .v (.int .i64 v40)), (152, .v (.int .i64 v6)), (153, .v (.bool false)), (156, .v (.int .i64 c28)), (157, .v (.int .i64 c38)), (158, .v (.bool true)), (159, .v (.bool true)), (160, .v (.int .i64 v40)), (161, .v (.int .i64 v1.2.2)), (162, .sl 1 (v1.1.map (cdL 1 (cdL 1 cdI)).enc)), (163, .v (.int .i64 v43)), (164, .v (.bool true)), (165, .v (.bool true)), (166, .tp []), (167, .tp []), (168, .tp []), (169, .tp []), (170, .tp []), (171, .tp []), (172, .tp []), (173, .tp []), (174, .v (.bool true)), (175, .v (.bool true)), (176, .v (.bool true))] [] (by kernel_rfl) ?_
                have hq := Option.some.inj hj46; subst hq
                exact RunS.done rfl (Wk.fr (by kernel_rfl))
              · rw [if_f hc52] at hj46
                rw [hc52]
                refine RunS.segF (n := 204) e_law09_EveningPigeon_ok 4 [(7, .sl 1 (v1.1.map (cdL 1 (cdL 1 cdI)).enc)), (9, .v (.int .i64 v1.2.2)), (13, .v (.int .i64 v6)), (15, .v (.int .i64 c36)), (16, .v (.int .i64 r25)), (17, .v (.int .i64 c37)), (18, .sl 1 (v18.map (cdL 1 cdI).enc)), (21, .v (.int .i64 c28)), (24, .v (.int .i64 v40)), (116, .sl 1 (v18.map (cdL 1 cdI).enc)), (117, .v (.int .i64 (v18.length : Int))), (118, .v (.int .i64 c28)), (134, .sl 1 (v30.map cdI.enc)), (135, .v (.int .i64 (v30.length : Int))), (136, .v (.int .i64 c38)), (151, .v (.int .i64 v40)), (152, .v (.int .i64 v6)), (153, .v (.bool false)), (155, .v (.bool false)), (156, .v (.int .i64 c28)), (157, .v (.int .i64 c38)), (158, .v (.bool true)), (159, .v (.bool true)), (160, .v (.int .i64 v40)), (161, .v (.int .i64 v1.2.2)), (162, .sl 1 (v1.1.map (cdL 1 (cdL 1 cdI)).enc)), (163, .v (.int .i64 v43)), (164, .v (.bool false)), (165, .v (.bool false)), (166, .v (.int .i64 v1.2.2)), (167, .sl 1 (v1.1.map (cdL 1 (cdL 1 cdI)).enc)), (168, .v (.int .i64 c28)), (169, .v (.int .i64 c38))] [] (by kernel_rfl) ?_
                obtain ⟨v44, hv44, hj46⟩ := Option.bind_eq_some_iff.1 hj46
                refine RunS.call e_law09_EveningPigeon_ok (fid := 52) (s := cs_evening_Together) (F := fun a => evening_Together a.1 a.2.1 a.2.2.1 a.2.2.2.1) (er := er_evening_Together) (xs := [.v (.int .i64 v1.2.2), .sl 1 (v1.1.map (cdL 1 (cdL 1 cdI)).enc), .v (.int .i64 c28), .v (.int .i64 c38)]) (a := (v1.2.2, v1.1, c28, c38, ())) rfl (by kernel_rfl) (by kernel_rfl) (by kernel_rfl) (by kernel_rfl) (by kernel_rfl) (Sns.cons (Sn.enc (c := cdI) (v := v1.2.2)) (Sns.cons (Sn.enc (c := (cdL 1 (cdL 1 (cdL 1 cdI)))) (v := v1.1)) (Sns.cons (Sn.enc (c := cdI) (v := c28)) (Sns.cons (Sn.enc (c := cdI) (v := c38)) Sns.nil)))) (.inl (by kernel_rfl)) hv44 ?_
                refine RunS.one e_law09_EveningPigeon_ok 0 rfl (op_q (by kernel_rfl) rfl (q_len (a := .sl 1 (v44.map cdI.enc)) (by kernel_rfl) (len_sl (el := 3) (by kernel_rfl)))) ?_
                refine RunS.segF (n := 204) e_law09_EveningPigeon_ok 5 [(7, .sl 1 (v1.1.map (cdL 1 (cdL 1 cdI)).enc)), (9, .v (.int .i64 v1.2.2)), (13, .v (.int .i64 v6)), (15, .v (.int .i64 c36)), (16, .v (.int .i64 r25)), (17, .v (.int .i64 c37)), (18, .sl 1 (v18.map (cdL 1 cdI).enc)), (21, .v (.int .i64 c28)), (24, .v (.int .i64 v40)), (116, .sl 1 (v18.map (cdL 1 cdI).enc)), (117, .v (.int .i64 (v18.length : Int))), (118, .v (.int .i64 c28)), (134, .sl 1 (v30.map cdI.enc)), (135, .v (.int .i64 (v30.length : Int))), (136, .v (.int .i64 c38)), (151, .v (.int .i64 v40)), (152, .v (.int .i64 v6)), (153, .v (.bool false)), (156, .v (.int .i64 c28)), (157, .v (.int .i64 c38)), (158, .v (.bool true)), (159, .v (.bool true)), (160, .v (.int .i64 v40)), (161, .v (.int .i64 v1.2.2)), (162, .sl 1 (v1.1.map (cdL 1 (cdL 1 cdI)).enc)), (163, .v (.int .i64 v43)), (164, .v (.bool false)), (165, .v (.bool false)), (166, .v (.int .i64 v1.2.2)), (167, .sl 1 (v1.1.map (cdL 1 (cdL 1 cdI)).enc)), (168, .v (.int .i64 c28)), (169, .v (.int .i64 c38)), (170, .sl 1 (v44.map cdI.enc)), (171, .v (.int .i64 (v44.length : Int))), (172, .v (.int .i64 v40)), (173, .v (.bool ((v44.length : Int) != v40))), (174, .v (.bool ((v44.length : Int) != v40))), (175, .v (.bool ((v44.length : Int) != v40))), (176, .v (.bool ((v44.length : Int) != v40)))] [] (by kernel_rfl) ?_
                have hq := Option.some.inj hj46; subst hq
                exact RunS.done rfl (Wk.fr (by kernel_rfl))
            · rw [if_f hc51] at hj46
              rw [hc51]
              refine RunS.segF (n := 204) e_law09_EveningPigeon_ok 17 [(7, .sl 1 (v1.1.map (cdL 1 (cdL 1 cdI)).enc)), (9, .v (.int .i64 v1.2.2)), (13, .v (.int .i64 v6)), (15, .v (.int .i64 c36)), (16, .v (.int .i64 r25)), (17, .v (.int .i64 c37)), (18, .sl 1 (v18.map (cdL 1 cdI).enc)), (21, .v (.int .i64 c28)), (24, .v (.int .i64 v40)), (116, .sl 1 (v18.map (cdL 1 cdI).enc)), (117, .v (.int .i64 (v18.length : Int))), (118, .v (.int .i64 c28)), (134, .sl 1 (v30.map cdI.enc)), (135, .v (.int .i64 (v30.length : Int))), (136, .v (.int .i64 c38)), (151, .v (.int .i64 v40)), (152, .v (.int .i64 v6)), (153, .v (.bool false)), (156, .v (.int .i64 c28)), (157, .v (.int .i64 c38)), (158, .v (.bool false)), (159, .v (.bool false)), (160, .tp []), (161, .tp []), (162, .tp []), (163, .tp []), (164, .tp []), (165, .tp []), (166, .tp []), (167, .tp []), (168, .tp []), (169, .tp []), (170, .tp []), (171, .tp []), (172, .tp []), (173, .tp []), (174, .tp []), (175, .v (.bool false)), (176, .v (.bool false))] [] (by kernel_rfl) ?_
              have hq := Option.some.inj hj46; subst hq
              exact RunS.done rfl (Wk.fr (by kernel_rfl))
      refine Sem.cond (b := j46) (by kernel_rfl) (fun hb47 => ?_) (fun hb47 => ?_)
      · rw [if_pos hb47] at h
        refine Sem.seq ?_
        refine Sem.runS (s1 := ⟨Fr 204 [(6, .v (.bool false))], []⟩) ?_ ?_
        · refine RunS.segF (n := 204) e_law09_EveningPigeon_ok 1 [(6, .v (.bool false))] [] (by kernel_rfl) ?_
          exact RunS.done rfl (Wk.fr (by kernel_rfl))
        refine Sem.ret ?_
        have hq := Option.some.inj h; subst hq
        exact ⟨rfl, (Wk.fr (by kernel_rfl))⟩
      · rw [if_f hb47] at h
        refine Sem.skip ?_
        refine Sem.seq ?_
        refine Sem.runS (s1 := ⟨Fr 204 [(7, .sl 1 (v1.1.map (cdL 1 (cdL 1 cdI)).enc)), (9, .v (.int .i64 v1.2.2)), (13, .v (.int .i64 v6)), (15, .v (.int .i64 (wr .i64 (c36 + v40)))), (16, .v (.int .i64 r25)), (17, .v (.int .i64 c37)), (18, .sl 1 (v18.map (cdL 1 cdI).enc)), (21, .v (.int .i64 c28)), (24, .v (.int .i64 v40)), (116, .sl 1 (v18.map (cdL 1 cdI).enc)), (117, .v (.int .i64 (v18.length : Int))), (118, .v (.int .i64 c28)), (134, .sl 1 (v30.map cdI.enc)), (135, .v (.int .i64 (v30.length : Int))), (136, .v (.int .i64 c38))], []⟩) ?_ ?_
        · refine RunS.segF (n := 204) e_law09_EveningPigeon_ok 4 [(7, .sl 1 (v1.1.map (cdL 1 (cdL 1 cdI)).enc)), (9, .v (.int .i64 v1.2.2)), (13, .v (.int .i64 v6)), (15, .v (.int .i64 (wr .i64 (c36 + v40)))), (16, .v (.int .i64 r25)), (17, .v (.int .i64 c37)), (18, .sl 1 (v18.map (cdL 1 cdI).enc)), (21, .v (.int .i64 c28)), (24, .v (.int .i64 v40)), (116, .sl 1 (v18.map (cdL 1 cdI).enc)), (117, .v (.int .i64 (v18.length : Int))), (118, .v (.int .i64 c28)), (134, .sl 1 (v30.map cdI.enc)), (135, .v (.int .i64 (v30.length : Int))), (136, .v (.int .i64 c38))] [] (by kernel_rfl) ?_
          exact RunS.done rfl (Wk.fr (by kernel_rfl))
        refine Sem.runS (s1 := ⟨Fr 204 [(7, .sl 1 (v1.1.map (cdL 1 (cdL 1 cdI)).enc)), (9, .v (.int .i64 v1.2.2)), (13, .v (.int .i64 v6)), (15, .v (.int .i64 (wr .i64 (c36 + v40)))), (16, .v (.int .i64 r25)), (17, .v (.int .i64 (wr .i64 (c37 + (wr .i64 (v40 * v40)))))), (18, .sl 1 (v18.map (cdL 1 cdI).enc)), (21, .v (.int .i64 c28)), (116, .sl 1 (v18.map (cdL 1 cdI).enc)), (117, .v (.int .i64 (v18.length : Int))), (118, .v (.int .i64 c28)), (134, .sl 1 (v30.map cdI.enc)), (135, .v (.int .i64 (v30.length : Int))), (136, .v (.int .i64 c38))], []⟩) ?_ ?_
        · refine RunS.segF (n := 204) e_law09_EveningPigeon_ok 6 [(7, .sl 1 (v1.1.map (cdL 1 (cdL 1 cdI)).enc)), (9, .v (.int .i64 v1.2.2)), (13, .v (.int .i64 v6)), (15, .v (.int .i64 (wr .i64 (c36 + v40)))), (16, .v (.int .i64 r25)), (17, .v (.int .i64 (wr .i64 (c37 + (wr .i64 (v40 * v40)))))), (18, .sl 1 (v18.map (cdL 1 cdI).enc)), (21, .v (.int .i64 c28)), (116, .sl 1 (v18.map (cdL 1 cdI).enc)), (117, .v (.int .i64 (v18.length : Int))), (118, .v (.int .i64 c28)), (134, .sl 1 (v30.map cdI.enc)), (135, .v (.int .i64 (v30.length : Int))), (136, .v (.int .i64 c38))] [] (by kernel_rfl) ?_
          exact RunS.done rfl (Wk.fr (by kernel_rfl))
        refine Sem.runS (s1 := ⟨Fr 204 [(7, .sl 1 (v1.1.map (cdL 1 (cdL 1 cdI)).enc)), (9, .v (.int .i64 v1.2.2)), (13, .v (.int .i64 v6)), (15, .v (.int .i64 (wr .i64 (c36 + v40)))), (16, .v (.int .i64 r25)), (17, .v (.int .i64 (wr .i64 (c37 + (wr .i64 (v40 * v40)))))), (18, .sl 1 (v18.map (cdL 1 cdI).enc)), (21, .v (.int .i64 c28)), (116, .sl 1 (v18.map (cdL 1 cdI).enc)), (117, .v (.int .i64 (v18.length : Int))), (118, .v (.int .i64 c28)), (134, .sl 1 (v30.map cdI.enc)), (135, .v (.int .i64 (v30.length : Int))), (136, .v (.int .i64 (wr .i64 (c38 + 1))))], []⟩) ?_ ?_
        · refine RunS.segF (n := 204) e_law09_EveningPigeon_ok 2 [(7, .sl 1 (v1.1.map (cdL 1 (cdL 1 cdI)).enc)), (9, .v (.int .i64 v1.2.2)), (13, .v (.int .i64 v6)), (15, .v (.int .i64 (wr .i64 (c36 + v40)))), (16, .v (.int .i64 r25)), (17, .v (.int .i64 (wr .i64 (c37 + (wr .i64 (v40 * v40)))))), (18, .sl 1 (v18.map (cdL 1 cdI).enc)), (21, .v (.int .i64 c28)), (116, .sl 1 (v18.map (cdL 1 cdI).enc)), (117, .v (.int .i64 (v18.length : Int))), (118, .v (.int .i64 c28)), (134, .sl 1 (v30.map cdI.enc)), (135, .v (.int .i64 (v30.length : Int))), (136, .v (.int .i64 (wr .i64 (c38 + 1))))] [] (by kernel_rfl) ?_
          exact RunS.done rfl (Wk.fr (by kernel_rfl))
        exact SemN.wk (s1 := ⟨Fr 204 [(7, .sl 1 (v1.1.map (cdL 1 (cdL 1 cdI)).enc)), (9, .v (.int .i64 v1.2.2)), (13, .v (.int .i64 v6)), (15, .v (.int .i64 (wr .i64 (c36 + v40)))), (16, .v (.int .i64 r25)), (17, .v (.int .i64 (wr .i64 (c37 + (wr .i64 (v40 * v40)))))), (18, .sl 1 (v18.map (cdL 1 cdI).enc)), (21, .v (.int .i64 c28)), (116, .sl 1 (v18.map (cdL 1 cdI).enc)), (117, .v (.int .i64 (v18.length : Int))), (118, .v (.int .i64 c28)), (134, .sl 1 (v30.map cdI.enc)), (135, .v (.int .i64 (v30.length : Int))), (136, .v (.int .i64 (wr .i64 (c38 + 1))))], []⟩) (Wk.fr (by kernel_rfl)) (ih (wr .i64 (c36 + v40)) (wr .i64 (c37 + (wr .i64 (v40 * v40)))) (wr .i64 (c38 + 1)) h)
    · rw [if_f hb39] at h
      refine Sem.exit ?_
      have hq := Option.some.inj h; subst hq
      exact ⟨rfl, (Wk.fr (by kernel_rfl))⟩
set_option maxHeartbeats 4000000 in
set_option maxRecDepth 100000 in
theorem law09_EveningPigeon_2_ok (v1 : (List (List (List Int))) × (List Int) × Int) (v6 : Int) (v18 : (List (List Int))) (r25 : Int) : ∀ (f : Nat) (c26 : Int) (c27 : Int) (c28 : Int) (r : (Int × Int) ⊕ (Bool)), law09_EveningPigeon_2 v1 v6 v18 r25 f c26 c27 c28 = some r → SemN e_law09_EveningPigeon ⟨none, false⟩ (pc cb_law09_EveningPigeon [1, 1, 1, 1, 1, 1, 1, 1, 1, 1, 0, 1, 0, 0]) f ⟨Fr 204 [(7, .sl 1 (v1.1.map (cdL 1 (cdL 1 cdI)).enc)), (9, .v (.int .i64 v1.2.2)), (13, .v (.int .i64 v6)), (15, .v (.int .i64 c26)), (16, .v (.int .i64 r25)), (17, .v (.int .i64 c27)), (18, .sl 1 (v18.map (cdL 1 cdI).enc)), (116, .sl 1 (v18.map (cdL 1 cdI).enc)), (117, .v (.int .i64 (v18.length : Int))), (118, .v (.int .i64 c28))], []⟩ (fun e s => match r with
  | (.inl w) => e = (.exit 2) ∧ Wk e_law09_EveningPigeon s ⟨Fr 204 [(7, .sl 1 (v1.1.map (cdL 1 (cdL 1 cdI)).enc)), (9, .v (.int .i64 v1.2.2)), (15, .v (.int .i64 w.1)), (16, .v (.int .i64 r25)), (17, .v (.int .i64 w.2))], []⟩
  | (.inr w) => e = .ret ∧ Wk e_law09_EveningPigeon s ⟨Fr 204 [(6, .v (.bool w))], []⟩) := by
  intro f
  induction f with
  | zero => intro c26 c27 c28 r h; cases h
  | succ f ih0 =>
    intro c26 c27 c28 r h
    have ih := fun (c26 : Int) (c27 : Int) (c28 : Int) => ih0 c26 c27 c28 r
    unfold law09_EveningPigeon_2 at h
    refine SemN.succ ?_
    refine Sem.seq ?_
    refine Sem.runS (s1 := ⟨Fr 204 [(7, .sl 1 (v1.1.map (cdL 1 (cdL 1 cdI)).enc)), (9, .v (.int .i64 v1.2.2)), (13, .v (.int .i64 v6)), (15, .v (.int .i64 c26)), (16, .v (.int .i64 r25)), (17, .v (.int .i64 c27)), (18, .sl 1 (v18.map (cdL 1 cdI).enc)), (116, .sl 1 (v18.map (cdL 1 cdI).enc)), (117, .v (.int .i64 (v18.length : Int))), (118, .v (.int .i64 c28)), (119, .v (.bool (decide (c28 < (v18.length : Int)))))], []⟩) ?_ ?_
    · refine RunS.segF (n := 204) e_law09_EveningPigeon_ok 1 [(7, .sl 1 (v1.1.map (cdL 1 (cdL 1 cdI)).enc)), (9, .v (.int .i64 v1.2.2)), (13, .v (.int .i64 v6)), (15, .v (.int .i64 c26)), (16, .v (.int .i64 r25)), (17, .v (.int .i64 c27)), (18, .sl 1 (v18.map (cdL 1 cdI).enc)), (116, .sl 1 (v18.map (cdL 1 cdI).enc)), (117, .v (.int .i64 (v18.length : Int))), (118, .v (.int .i64 c28)), (119, .v (.bool (decide (c28 < (v18.length : Int)))))] [] (by kernel_rfl) ?_
      exact RunS.done rfl (Wk.fr (by kernel_rfl))
    refine Sem.seq ?_
    refine Sem.cond (b := (decide (c28 < (v18.length : Int)))) (by kernel_rfl) (fun hb29 => ?_) (fun hb29 => ?_)
    · rw [if_pos hb29] at h
      refine Sem.skip ?_
      refine Sem.seq ?_
      refine Sem.block ?_
      refine Sem.seq ?_
      obtain ⟨v30, hv30, h⟩ := Option.bind_eq_some_iff.1 h
      refine Sem.runS (s1 := ⟨Fr 204 [(7, .sl 1 (v1.1.map (cdL 1 (cdL 1 cdI)).enc)), (9, .v (.int .i64 v1.2.2)), (13, .v (.int .i64 v6)), (15, .v (.int .i64 c26)), (16, .v (.int .i64 r25)), (17, .v (.int .i64 c27)), (18, .sl 1 (v18.map (cdL 1 cdI).enc)), (21, .v (.int .i64 c28)), (22, .sl 1 (v30.map cdI.enc)), (116, .sl 1 (v18.map (cdL 1 cdI).enc)), (117, .v (.int .i64 (v18.length : Int))), (118, .v (.int .i64 c28))], []⟩) ?_ ?_
      · refine RunS.segF (n := 204) e_law09_EveningPigeon_ok 1 [(7, .sl 1 (v1.1.map (cdL 1 (cdL 1 cdI)).enc)), (9, .v (.int .i64 v1.2.2)), (13, .v (.int .i64 v6)), (15, .v (.int .i64 c26)), (16, .v (.int .i64 r25)), (17, .v (.int .i64 c27)), (18, .sl 1 (v18.map (cdL 1 cdI).enc)), (116, .sl 1 (v18.map (cdL 1 cdI).enc)), (117, .v (.int .i64 (v18.length : Int))), (118, .v (.int .i64 c28)), (120, .v (.int .i64 c28))] [] (by kernel_rfl) ?_
        refine RunS.one e_law09_EveningPigeon_ok 0 rfl (op_q (wantedA_none rfl) rfl (q_indexAddr (a := .sl 1 (v18.map (cdL 1 cdI).enc)) (b := .v (.int .i64 c28)) (by kernel_rfl) (by kernel_rfl) (ix_sl (e := (cdL 1 cdI).enc) (el := 24) (k := 1) (ki := .i64) (by kernel_rfl) (by kernel_rfl) hv30))) ?_
        refine RunS.segF (n := 204) e_law09_EveningPigeon_ok 3 [(7, .sl 1 (v1.1.map (cdL 1 (cdL 1 cdI)).enc)), (9, .v (.int .i64 v1.2.2)), (13, .v (.int .i64 v6)), (15, .v (.int .i64 c26)), (16, .v (.int .i64 r25)), (17, .v (.int .i64 c27)), (18, .sl 1 (v18.map (cdL 1 cdI).enc)), (21, .v (.int .i64 c28)), (22, .sl 1 (v30.map cdI.enc)), (116, .sl 1 (v18.map (cdL 1 cdI).enc)), (117, .v (.int .i64 (v18.length : Int))), (118, .v (.int .i64 c28))] [] (by kernel_rfl) ?_
        exact RunS.done rfl (Wk.fr (by kernel_rfl))
      refine Sem.seq ?_
      refine Sem.seq ?_
      obtain ⟨j33, hj33, h⟩ := Option.bind_eq_some_iff.1 h
      refine Sem.runS (s1 := ⟨Fr 204 [(7, .sl 1 (v1.1.map (cdL 1 (cdL 1 cdI)).enc)), (9, .v (.int .i64 v1.2.2)), (13, .v (.int .i64 v6)), (15, .v (.int .i64 c26)), (16, .v (.int .i64 r25)), (17, .v (.int .i64 c27)), (18, .sl 1 (v18.map (cdL 1 cdI).enc)), (21, .v (.int .i64 c28)), (22, .sl 1 (v30.map cdI.enc)), (116, .sl 1 (v18.map (cdL 1 cdI).enc)), (117, .v (.int .i64 (v18.length : Int))), (118, .v (.int .i64 c28)), (133, .v (.bool j33))], []⟩) ?_ ?_
      · refine RunS.segF (n := 204) e_law09_EveningPigeon_ok 1 [(7, .sl 1 (v1.1.map (cdL 1 (cdL 1 cdI)).enc)), (9, .v (.int .i64 v1.2.2)), (13, .v (.int .i64 v6)), (15, .v (.int .i64 c26)), (16, .v (.int .i64 r25)), (17, .v (.int .i64 c27)), (18, .sl 1 (v18.map (cdL 1 cdI).enc)), (21, .v (.int .i64 c28)), (22, .sl 1 (v30.map cdI.enc)), (116, .sl 1 (v18.map (cdL 1 cdI).enc)), (117, .v (.int .i64 (v18.length : Int))), (118, .v (.int .i64 c28)), (123, .sl 1 (v30.map cdI.enc))] [] (by kernel_rfl) ?_
        refine RunS.one e_law09_EveningPigeon_ok 0 rfl (op_q (wantedA_none rfl) rfl (q_len (a := .sl 1 (v30.map cdI.enc)) (by kernel_rfl) (len_sl (el := 3) (by kernel_rfl)))) ?_
        refine RunS.segF (n := 204) e_law09_EveningPigeon_ok 3 [(7, .sl 1 (v1.1.map (cdL 1 (cdL 1 cdI)).enc)), (9, .v (.int .i64 v1.2.2)), (13, .v (.int .i64 v6)), (15, .v (.int .i64 c26)), (16, .v (.int .i64 r25)), (17, .v (.int .i64 c27)), (18, .sl 1 (v18.map (cdL 1 cdI).enc)), (21, .v (.int .i64 c28)), (22, .sl 1 (v30.map cdI.enc)), (116, .sl 1 (v18.map (cdL 1 cdI).enc)), (117, .v (.int .i64 (v18.length : Int))), (118, .v (.int .i64 c28)), (127, .v (.bool ((v30.length : Int) != v1.2.2)))] [] (by kernel_rfl) ?_
        rcases Bool.eq_false_or_eq_true ((v30.length : Int) != v1.2.2) with hc58 | hc58
        · rw [if_pos hc58] at hj33
          rw [hc58]
          refine RunS.segF (n := 204) e_law09_EveningPigeon_ok 6 [(7, .sl 1 (v1.1.map (cdL 1 (cdL 1 cdI)).enc)), (9, .v (.int .i64 v1.2.2)), (13, .v (.int .i64 v6)), (15, .v (.int .i64 c26)), (16, .v (.int .i64 r25)), (17, .v (.int .i64 c27)), (18, .sl 1 (v18.map (cdL 1 cdI).enc)), (21, .v (.int .i64 c28)), (22, .sl 1 (v30.map cdI.enc)), (116, .sl 1 (v18.map (cdL 1 cdI).enc)), (117, .v (.int .i64 (v18.length : Int))), (118, .v (.int .i64 c28)), (128, .tp []), (129, .tp []), (130, .tp []), (131, .tp []), (132, .tp []), (133, .v (.bool true))] [] (by kernel_rfl) ?_
          have hq := Option.some.inj hj33; subst hq
          exact RunS.done rfl (Wk.fr (by kernel_rfl))
        · rw [if_f hc58] at hj33
          rw [hc58]
          refine RunS.segF (n := 204) e_law09_EveningPigeon_ok 2 [(7, .sl 1 (v1.1.map (cdL 1 (cdL 1 cdI)).enc)), (9, .v (.int .i64 v1.2.2)), (13, .v (.int .i64 v6)), (15, .v (.int .i64 c26)), (16, .v (.int .i64 r25)), (17, .v (.int .i64 c27)), (18, .sl 1 (v18.map (cdL 1 cdI).enc)), (21, .v (.int .i64 c28)), (22, .sl 1 (v30.map cdI.enc)), (116, .sl 1 (v18.map (cdL 1 cdI).enc)), (117, .v (.int .i64 (v18.length : Int))), (118, .v (.int .i64 c28)), (127, .v (.bool false)), (128, .sl 1 (v30.map cdI.enc)), (129, .v (.int .i64 c28))] [] (by kernel_rfl) ?_
          obtain ⟨v31, hv31, hj33⟩ := Option.bind_eq_some_iff.1 hj33
          refine RunS.one e_law09_EveningPigeon_ok 0 rfl (op_q (by kernel_rfl) rfl (q_indexAddr (a := .sl 1 (v30.map cdI.enc)) (b := .v (.int .i64 c28)) (by kernel_rfl) (by kernel_rfl) (ix_sl (e := cdI.enc) (el := 3) (k := 1) (ki := .i64) (by kernel_rfl) (by kernel_rfl) hv31))) ?_
          refine RunS.segF (n := 204) e_law09_EveningPigeon_ok 3 [(7, .sl 1 (v1.1.map (cdL 1 (cdL 1 cdI)).enc)), (9, .v (.int .i64 v1.2.2)), (13, .v (.int .i64 v6)), (15, .v (.int .i64 c26)), (16, .v (.int .i64 r25)), (17, .v (.int .i64 c27)), (18, .sl 1 (v18.map (cdL 1 cdI).enc)), (21, .v (.int .i64 c28)), (22, .sl 1 (v30.map cdI.enc)), (116, .sl 1 (v18.map (cdL 1 cdI).enc)), (117, .v (.int .i64 (v18.length : Int))), (118, .v (.int .i64 c28)), (128, .sl 1 (v30.map cdI.enc)), (129, .v (.int .i64 c28)), (130, .pe (.v (.int .i64 v31)) 0), (131, .v (.int .i64 v31)), (132, .v (.bool (v31 != 0))), (133, .v (.bool (v31 != 0)))] [] (by kernel_rfl) ?_
          have hq := Option.some.inj hj33; subst hq
          exact RunS.done rfl (Wk.fr (by kernel_rfl))
      refine Sem.cond (b := j33) (by kernel_rfl) (fun hb34 => ?_) (fun hb34 => ?_)
      · rw [if_pos hb34] at h
        refine Sem.seq ?_
        refine Sem.runS (s1 := ⟨Fr 204 [(6, .v (.bool false))], []⟩) ?_ ?_
        · refine RunS.segF (n := 204) e_law09_EveningPigeon_ok 1 [(6, .v (.bool false))] [] (by kernel_rfl) ?_
          exact RunS.done rfl (Wk.fr (by kernel_rfl))
        refine Sem.ret ?_
        have hq := Option.some.inj h; subst hq
        exact ⟨rfl, (Wk.fr (by kernel_rfl))⟩
      · rw [if_f hb34] at h
        refine Sem.skip ?_
        refine Sem.seq ?_
        refine Sem.runS (s1 := ⟨Fr 204 [(7, .sl 1 (v1.1.map (cdL 1 (cdL 1 cdI)).enc)), (9, .v (.int .i64 v1.2.2)), (13, .v (.int .i64 v6)), (15, .v (.int .i64 c26)), (16, .v (.int .i64 r25)), (17, .v (.int .i64 c27)), (18, .sl 1 (v18.map (cdL 1 cdI).enc)), (21, .v (.int .i64 c28)), (116, .sl 1 (v18.map (cdL 1 cdI).enc)), (117, .v (.int .i64 (v18.length : Int))), (118, .v (.int .i64 c28)), (134, .sl 1 (v30.map cdI.enc)), (135, .v (.int .i64 (v30.length : Int))), (136, .v (.int .i64 0))], []⟩) ?_ ?_
        · refine RunS.segF (n := 204) e_law09_EveningPigeon_ok 1 [(7, .sl 1 (v1.1.map (cdL 1 (cdL 1 cdI)).enc)), (9, .v (.int .i64 v1.2.2)), (13, .v (.int .i64 v6)), (15, .v (.int .i64 c26)), (16, .v (.int .i64 r25)), (17, .v (.int .i64 c27)), (18, .sl 1 (v18.map (cdL 1 cdI).enc)), (21, .v (.int .i64 c28)), (116, .sl 1 (v18.map (cdL 1 cdI).enc)), (117, .v (.int .i64 (v18.length : Int))), (118, .v (.int .i64 c28)), (134, .sl 1 (v30.map cdI.enc))] [] (by kernel_rfl) ?_
          refine RunS.one e_law09_EveningPigeon_ok 0 rfl (op_q (wantedA_none rfl) rfl (q_len (a := .sl 1 (v30.map cdI.enc)) (by kernel_rfl) (len_sl (el := 3) (by kernel_rfl)))) ?_
          refine RunS.segF (n := 204) e_law09_EveningPigeon_ok 1 [(7, .sl 1 (v1.1.map (cdL 1 (cdL 1 cdI)).enc)), (9, .v (.int .i64 v1.2.2)), (13, .v (.int .i64 v6)), (15, .v (.int .i64 c26)), (16, .v (.int .i64 r25)), (17, .v (.int .i64 c27)), (18, .sl 1 (v18.map (cdL 1 cdI).enc)), (21, .v (.int .i64 c28)), (116, .sl 1 (v18.map (cdL 1 cdI).enc)), (117, .v (.int .i64 (v18.length : Int))), (118, .v (.int .i64 c28)), (134, .sl 1 (v30.map cdI.enc)), (135, .v (.int .i64 (v30.length : Int))), (136, .v (.int .i64 0))] [] (by kernel_rfl) ?_
          exact RunS.done rfl (Wk.fr (by kernel_rfl))
        refine Sem.block ?_
        obtain ⟨r55, hr55, h⟩ := Option.bind_eq_some_iff.1 h
        refine Sem.loop (n := 100000) ?_
        rcases r55 with w56 | w57
        · try dsimp only at h
          refine Sem.cutN (SemN.wk (s1 := ⟨Fr 204 [(7, .sl 1 (v1.1.map (cdL 1 (cdL 1 cdI)).enc)), (9, .v (.int .i64 v1.2.2)), (13, .v (.int .i64 v6)), (15, .v (.int .i64 c26)), (16, .v (.int .i64 r25)), (17, .v (.int .i64 c27)), (18, .sl 1 (v18.map (cdL 1 cdI).enc)), (21, .v (.int .i64 c28)), (116, .sl 1 (v18.map (cdL 1 cdI).enc)), (117, .v (.int .i64 (v18.length : Int))), (118, .v (.int .i64 c28)), (134, .sl 1 (v30.map cdI.enc)), (135, .v (.int .i64 (v30.length : Int))), (136, .v (.int .i64 0))], []⟩) (Wk.fr (by kernel_rfl)) (law09_EveningPigeon_3_ok v1 v6 v18 r25 c28 v30 _ c26 c27 0 _ hr55)) ?_
          refine Sem.runS (s1 := ⟨Fr 204 [(7, .sl 1 (v1.1.map (cdL 1 (cdL 1 cdI)).enc)), (9, .v (.int .i64 v1.2.2)), (13, .v (.int .i64 v6)), (15, .v (.int .i64 w56.1)), (16, .v (.int .i64 r25)), (17, .v (.int .i64 w56.2)), (18, .sl 1 (v18.map (cdL 1 cdI).enc)), (116, .sl 1 (v18.map (cdL 1 cdI).enc)), (117, .v (.int .i64 (v18.length : Int))), (118, .v (.int .i64 (wr .i64 (c28 + 1))))], []⟩) ?_ ?_
          · refine RunS.segF (n := 204) e_law09_EveningPigeon_ok 2 [(7, .sl 1 (v1.1.map (cdL 1 (cdL 1 cdI)).enc)), (9, .v (.int .i64 v1.2.2)), (13, .v (.int .i64 v6)), (15, .v (.int .i64 w56.1)), (16, .v (.int .i64 r25)), (17, .v (.int .i64 w56.2)), (18, .sl 1 (v18.map (cdL 1 cdI).enc)), (116, .sl 1 (v18.map (cdL 1 cdI).enc)), (117, .v (.int .i64 (v18.length : Int))), (118, .v (.int .i64 (wr .i64 (c28 + 1))))] [] (by kernel_rfl) ?_
            exact RunS.done rfl (Wk.fr (by kernel_rfl))
          exact SemN.wk (s1 := ⟨Fr 204 [(7, .sl 1 (v1.1.map (cdL 1 (cdL 1 cdI)).enc)), (9, .v (.int .i64 v1.2.2)), (13, .v (.int .i64 v6)), (15, .v (.int .i64 w56.1)), (16, .v (.int .i64 r25)), (17, .v (.int .i64 w56.2)), (18, .sl 1 (v18.map (cdL 1 cdI).enc)), (116, .sl 1 (v18.map (cdL 1 cdI).enc)), (117, .v (.int .i64 (v18.length : Int))), (118, .v (.int .i64 (wr .i64 (c28 + 1))))], []⟩) (Wk.fr (by kernel_rfl)) (ih w56.1 w56.2 (wr .i64 (c28 + 1)) h)
        · try dsimp only at h
          refine Sem.cutN (SemN.wk (s1 := ⟨Fr 204 [(7, .sl 1 (v1.1.map (cdL 1 (cdL 1 cdI)).enc)), (9, .v (.int .i64 v1.2.2)), (13, .v (.int .i64 v6)), (15, .v (.int .i64 c26)), (16, .v (.int .i64 r25)), (17, .v (.int .i64 c27)), (18, .sl 1 (v18.map (cdL 1 cdI).enc)), (21, .v (.int .i64 c28)), (116, .sl 1 (v18.map (cdL 1 cdI).enc)), (117, .v (.int .i64 (v18.length : Int))), (118, .v (.int .i64 c28)), (134, .sl 1 (v30.map cdI.enc)), (135, .v (.int .i64 (v30.length : Int))), (136, .v (.int .i64 0))], []⟩) (Wk.fr (by kernel_rfl)) (law09_EveningPigeon_3_ok v1 v6 v18 r25 c28 v30 _ c26 c27 0 _ hr55)) ?_
          have hq := Option.some.inj h; subst hq
          exact ⟨rfl, (Wk.fr (by kernel_rfl))⟩
    · rw [if_f hb29] at h
      refine Sem.exit ?_
      have hq := Option.some.inj h; subst hq
      exact ⟨rfl, (Wk.fr (by kernel_rfl))⟩
set_option maxHeartbeats 4000000 in
set_option maxRecDepth 100000 in
theorem law09_EveningPigeon_sem (x0 : (List Int)) (x1 : (List (List (Int × Int)))) (x2 : Int) (r : Bool) (h : law09_EveningPigeon x0 x1 x2 = some r) : Sem e_law09_EveningPigeon ⟨none, false⟩ cb_law09_EveningPigeon ⟨Fr 204 (pairs0 0 (cs_law09_EveningPigeon.enc (x0, x1, x2, ()))), []⟩ fun e s' => (e = .normal ∨ e = .ret) ∧ ∃ xs, resA e_law09_EveningPigeon.P s'.fr s'.hp Tryd.f14.results.toList = some xs ∧ retA xs = er_law09_EveningPigeon r := by
  unfold law09_EveningPigeon at h
  refine Sem.wkQ (Sem.wk (s1 := ⟨Fr 204 [(0, .sl 1 (x0.map (cdK .u8).enc)), (1, .sl 1 (x1.map (cdL 2 (cdG2 (cdK .u8) (cdK .u8) (fun _ => rfl) (fun _ => rfl))).enc)), (2, .v (.int .u8 x2))], []⟩) (Wk.fr (by kernel_rfl)) ?_)
  refine Sem.seq ?_
  refine Sem.runS (s1 := ⟨Fr 204 [(0, .sl 1 (x0.map (cdK .u8).enc)), (1, .sl 1 (x1.map (cdL 2 (cdG2 (cdK .u8) (cdK .u8) (fun _ => rfl) (fun _ => rfl))).enc)), (2, .v (.int .u8 x2))], []⟩) ?_ ?_
  · refine RunS.segF (n := 204) e_law09_EveningPigeon_ok 1 [(0, .sl 1 (x0.map (cdK .u8).enc)), (1, .sl 1 (x1.map (cdL 2 (cdG2 (cdK .u8) (cdK .u8) (fun _ => rfl) (fun _ => rfl))).enc)), (2, .v (.int .u8 x2))] [] (by kernel_rfl) ?_
    exact RunS.done rfl (Wk.fr (by kernel_rfl))
  refine Sem.seq ?_
  obtain ⟨v1, hv1, h⟩ := Option.bind_eq_some_iff.1 h
  refine Sem.runS (s1 := ⟨Fr 204 [(2, .v (.int .u8 x2)), (7, .sl 1 (v1.1.map (cdL 1 (cdL 1 cdI)).enc)), (8, .sl 1 (v1.2.1.map cdI.enc)), (9, .v (.int .i64 v1.2.2))], []⟩) ?_ ?_
  · refine RunS.segF (n := 204) e_law09_EveningPigeon_ok 2 [(2, .v (.int .u8 x2)), (26, .sl 1 (x0.map (cdK .u8).enc)), (27, .sl 1 (x1.map (cdL 2 (cdG2 (cdK .u8) (cdK .u8) (fun _ => rfl) (fun _ => rfl))).enc))] [] (by kernel_rfl) ?_
    refine RunS.call e_law09_EveningPigeon_ok (fid := 41) (s := cs_law09_Made) (F := fun a => law09_Made a.1 a.2.1) (er := er_law09_Made) (xs := [.sl 1 (x0.map (cdK .u8).enc), .sl 1 (x1.map (cdL 2 (cdG2 (cdK .u8) (cdK .u8) (fun _ => rfl) (fun _ => rfl))).enc)]) (a := (x0, x1, ())) rfl (wantedA_none rfl) (by kernel_rfl) (by kernel_rfl) (by kernel_rfl) (by kernel_rfl) (Sns.cons (Sn.enc (c := (cdL 1 (cdK .u8))) (v := x0)) (Sns.cons (Sn.enc (c := (cdL 1 (cdL 2 (cdG2 (cdK .u8) (cdK .u8) (fun _ => rfl) (fun _ => rfl))))) (v := x1)) Sns.nil)) (.inl (by kernel_rfl)) hv1 ?_
    refine RunS.segF (n := 204) e_law09_EveningPigeon_ok 7 [(2, .v (.int .u8 x2)), (7, .sl 1 (v1.1.map (cdL 1 (cdL 1 cdI)).enc)), (8, .sl 1 (v1.2.1.map cdI.enc)), (9, .v (.int .i64 v1.2.2))] [] (by kernel_rfl) ?_
    exact RunS.done rfl (Wk.fr (by kernel_rfl))
  refine Sem.seq ?_
  refine Sem.seq ?_
  obtain ⟨v2, hv2, h⟩ := Option.bind_eq_some_iff.1 h
  refine Sem.runS (s1 := ⟨Fr 204 [(2, .v (.int .u8 x2)), (7, .sl 1 (v1.1.map (cdL 1 (cdL 1 cdI)).enc)), (8, .sl 1 (v1.2.1.map cdI.enc)), (9, .v (.int .i64 v1.2.2)), (10, .v (.int .i64 v2.1)), (11, .v (.int .i64 v2.2))], []⟩) ?_ ?_
  · refine RunS.segF (n := 204) e_law09_EveningPigeon_ok 3 [(2, .v (.int .u8 x2)), (7, .sl 1 (v1.1.map (cdL 1 (cdL 1 cdI)).enc)), (8, .sl 1 (v1.2.1.map cdI.enc)), (9, .v (.int .i64 v1.2.2)), (33, .v (.int .i64 v1.2.2)), (34, .sl 1 (v1.2.1.map cdI.enc)), (35, .sl 1 (v1.1.map (cdL 1 (cdL 1 cdI)).enc))] [] (by kernel_rfl) ?_
    refine RunS.call e_law09_EveningPigeon_ok (fid := 28) (s := cs_evening_Check) (F := fun a => evening_Check a.1 a.2.1 a.2.2.1) (er := er_evening_Check) (xs := [.v (.int .i64 v1.2.2), .sl 1 (v1.2.1.map cdI.enc), .sl 1 (v1.1.map (cdL 1 (cdL 1 cdI)).enc)]) (a := (v1.2.2, v1.2.1, v1.1, ())) rfl (wantedA_none rfl) (by kernel_rfl) (by kernel_rfl) (by kernel_rfl) (by kernel_rfl) (Sns.cons (Sn.enc (c := cdI) (v := v1.2.2)) (Sns.cons (Sn.enc (c := (cdL 1 cdI)) (v := v1.2.1)) (Sns.cons (Sn.enc (c := (cdL 1 (cdL 1 (cdL 1 cdI)))) (v := v1.1)) Sns.nil))) (.inl (by kernel_rfl)) hv2 ?_
    refine RunS.segF (n := 204) e_law09_EveningPigeon_ok 5 [(2, .v (.int .u8 x2)), (7, .sl 1 (v1.1.map (cdL 1 (cdL 1 cdI)).enc)), (8, .sl 1 (v1.2.1.map cdI.enc)), (9, .v (.int .i64 v1.2.2)), (10, .v (.int .i64 v2.1)), (11, .v (.int .i64 v2.2))] [] (by kernel_rfl) ?_
    exact RunS.done rfl (Wk.fr (by kernel_rfl))
  refine Sem.seq ?_
  obtain ⟨j4, hj4, h⟩ := Option.bind_eq_some_iff.1 h
  refine Sem.runS (s1 := ⟨Fr 204 [(2, .v (.int .u8 x2)), (7, .sl 1 (v1.1.map (cdL 1 (cdL 1 cdI)).enc)), (8, .sl 1 (v1.2.1.map cdI.enc)), (9, .v (.int .i64 v1.2.2)), (44, .v (.bool j4))], []⟩) ?_ ?_
  · refine RunS.segF (n := 204) e_law09_EveningPigeon_ok 3 [(2, .v (.int .u8 x2)), (7, .sl 1 (v1.1.map (cdL 1 (cdL 1 cdI)).enc)), (8, .sl 1 (v1.2.1.map cdI.enc)), (9, .v (.int .i64 v1.2.2)), (11, .v (.int .i64 v2.2)), (41, .v (.bool (v2.1 != 0)))] [] (by kernel_rfl) ?_
    rcases Bool.eq_false_or_eq_true (v2.1 != 0) with hc77 | hc77
    · rw [if_pos hc77] at hj4
      rw [hc77]
      refine RunS.segF (n := 204) e_law09_EveningPigeon_ok 3 [(2, .v (.int .u8 x2)), (7, .sl 1 (v1.1.map (cdL 1 (cdL 1 cdI)).enc)), (8, .sl 1 (v1.2.1.map cdI.enc)), (9, .v (.int .i64 v1.2.2)), (44, .v (.bool true))] [] (by kernel_rfl) ?_
      have hq := Option.some.inj hj4; subst hq
      exact RunS.done rfl (Wk.fr (by kernel_rfl))
    · rw [if_f hc77] at hj4
      rw [hc77]
      refine RunS.segF (n := 204) e_law09_EveningPigeon_ok 3 [(2, .v (.int .u8 x2)), (7, .sl 1 (v1.1.map (cdL 1 (cdL 1 cdI)).enc)), (8, .sl 1 (v1.2.1.map cdI.enc)), (9, .v (.int .i64 v1.2.2)), (44, .v (.bool (v2.2 != 0)))] [] (by kernel_rfl) ?_
      have hq := Option.some.inj hj4; subst hq
      exact RunS.done rfl (Wk.fr (by kernel_rfl))
  refine Sem.cond (b := j4) (by kernel_rfl) (fun hb5 => ?_) (fun hb5 => ?_)
  · rw [if_pos hb5] at h
    refine Sem.seq ?_
    refine Sem.runS (s1 := ⟨Fr 204 [(6, .v (.bool false))], []⟩) ?_ ?_
    · refine RunS.segF (n := 204) e_law09_EveningPigeon_ok 1 [(6, .v (.bool false))] [] (by kernel_rfl) ?_
      exact RunS.done rfl (Wk.fr (by kernel_rfl))
    refine Sem.ret ?_
    have hq := Option.some.inj h; subst hq
    exact ⟨⟨Fr 204 [(6, .v (.bool false))], []⟩, (Wk.fr (by kernel_rfl)), .inr rfl, [.v (.bool false)], (by kernel_rfl), (by kernel_rfl)⟩
  · rw [if_f hb5] at h
    refine Sem.skip ?_
    refine Sem.seq ?_
    refine Sem.runS (s1 := ⟨Fr 204 [(7, .sl 1 (v1.1.map (cdL 1 (cdL 1 cdI)).enc)), (8, .sl 1 (v1.2.1.map cdI.enc)), (9, .v (.int .i64 v1.2.2)), (12, .v (.int .i64 (wr .i64 (x2.tmod 21))))], []⟩) ?_ ?_
    · refine RunS.segF (n := 204) e_law09_EveningPigeon_ok 4 [(7, .sl 1 (v1.1.map (cdL 1 (cdL 1 cdI)).enc)), (8, .sl 1 (v1.2.1.map cdI.enc)), (9, .v (.int .i64 v1.2.2)), (12, .v (.int .i64 (wr .i64 (x2.tmod 21))))] [] (by kernel_rfl) ?_
      exact RunS.done rfl (Wk.fr (by kernel_rfl))
    refine Sem.seq ?_
    obtain ⟨v6, hv6, h⟩ := Option.bind_eq_some_iff.1 h
    obtain ⟨v7, hv7, h⟩ := Option.bind_eq_some_iff.1 h
    refine Sem.runS (s1 := ⟨Fr 204 [(7, .sl 1 (v1.1.map (cdL 1 (cdL 1 cdI)).enc)), (8, .sl 1 (v1.2.1.map cdI.enc)), (9, .v (.int .i64 v1.2.2)), (12, .v (.int .i64 (wr .i64 (x2.tmod 21)))), (13, .v (.int .i64 v6)), (14, .v (.int .i64 v7))], []⟩) ?_ ?_
    · refine RunS.segF (n := 204) e_law09_EveningPigeon_ok 2 [(7, .sl 1 (v1.1.map (cdL 1 (cdL 1 cdI)).enc)), (8, .sl 1 (v1.2.1.map cdI.enc)), (9, .v (.int .i64 v1.2.2)), (12, .v (.int .i64 (wr .i64 (x2.tmod 21)))), (48, .v (.int .i64 v1.2.2)), (49, .sl 1 (v1.1.map (cdL 1 (cdL 1 cdI)).enc))] [] (by kernel_rfl) ?_
      refine RunS.call e_law09_EveningPigeon_ok (fid := 38) (s := cs_evening_Most) (F := fun a => evening_Most a.1 a.2.1) (er := er_evening_Most) (xs := [.v (.int .i64 v1.2.2), .sl 1 (v1.1.map (cdL 1 (cdL 1 cdI)).enc)]) (a := (v1.2.2, v1.1, ())) rfl (wantedA_none rfl) (by kernel_rfl) (by kernel_rfl) (by kernel_rfl) (by kernel_rfl) (Sns.cons (Sn.enc (c := cdI) (v := v1.2.2)) (Sns.cons (Sn.enc (c := (cdL 1 (cdL 1 (cdL 1 cdI)))) (v := v1.1)) Sns.nil)) (.inl (by kernel_rfl)) hv6 ?_
      refine RunS.segF (n := 204) e_law09_EveningPigeon_ok 3 [(7, .sl 1 (v1.1.map (cdL 1 (cdL 1 cdI)).enc)), (8, .sl 1 (v1.2.1.map cdI.enc)), (9, .v (.int .i64 v1.2.2)), (12, .v (.int .i64 (wr .i64 (x2.tmod 21)))), (50, .v (.int .i64 v6)), (51, .v (.int .i64 v1.2.2)), (52, .sl 1 (v1.2.1.map cdI.enc)), (53, .sl 1 (v1.1.map (cdL 1 (cdL 1 cdI)).enc))] [] (by kernel_rfl) ?_
      refine RunS.one e_law09_EveningPigeon_ok 0 rfl (op_q (wantedA_none rfl) rfl (q_len (a := .sl 1 (v1.1.map (cdL 1 (cdL 1 cdI)).enc)) (by kernel_rfl) (len_sl (el := 49) (by kernel_rfl)))) ?_
      refine RunS.call e_law09_EveningPigeon_ok (fid := 31) (s := cs_evening_LeastMost) (F := fun a => evening_LeastMost a.1 a.2.1 a.2.2.1) (er := er_evening_LeastMost) (xs := [.v (.int .i64 v1.2.2), .sl 1 (v1.2.1.map cdI.enc), .v (.int .i64 (v1.1.length : Int))]) (a := (v1.2.2, v1.2.1, (v1.1.length : Int), ())) rfl (wantedA_none rfl) (by kernel_rfl) (by kernel_rfl) (by kernel_rfl) (by kernel_rfl) (Sns.cons (Sn.enc (c := cdI) (v := v1.2.2)) (Sns.cons (Sn.enc (c := (cdL 1 cdI)) (v := v1.2.1)) (Sns.cons (Sn.enc (c := cdI) (v := (v1.1.length : Int))) Sns.nil))) (.inl (by kernel_rfl)) hv7 ?_
      refine RunS.segF (n := 204) e_law09_EveningPigeon_ok 2 [(7, .sl 1 (v1.1.map (cdL 1 (cdL 1 cdI)).enc)), (8, .sl 1 (v1.2.1.map cdI.enc)), (9, .v (.int .i64 v1.2.2)), (12, .v (.int .i64 (wr .i64 (x2.tmod 21)))), (13, .v (.int .i64 v6)), (14, .v (.int .i64 v7))] [] (by kernel_rfl) ?_
      exact RunS.done rfl (Wk.fr (by kernel_rfl))
    refine Sem.seq ?_
    refine Sem.seq ?_
    obtain ⟨j16, hj16, h⟩ := Option.bind_eq_some_iff.1 h
    refine Sem.runS (s1 := ⟨Fr 204 [(7, .sl 1 (v1.1.map (cdL 1 (cdL 1 cdI)).enc)), (8, .sl 1 (v1.2.1.map cdI.enc)), (9, .v (.int .i64 v1.2.2)), (13, .v (.int .i64 v6)), (95, .v (.bool j16))], []⟩) ?_ ?_
    · refine RunS.segF (n := 204) e_law09_EveningPigeon_ok 4 [(7, .sl 1 (v1.1.map (cdL 1 (cdL 1 cdI)).enc)), (8, .sl 1 (v1.2.1.map cdI.enc)), (9, .v (.int .i64 v1.2.2)), (12, .v (.int .i64 (wr .i64 (x2.tmod 21)))), (13, .v (.int .i64 v6)), (14, .v (.int .i64 v7)), (59, .v (.bool (decide (v6 < v7))))] [] (by kernel_rfl) ?_
      rcases Bool.eq_false_or_eq_true (decide (v6 < v7)) with hc70 | hc70
      · rw [if_pos hc70] at hj16
        rw [hc70]
        refine RunS.segF (n := 204) e_law09_EveningPigeon_ok 36 [(7, .sl 1 (v1.1.map (cdL 1 (cdL 1 cdI)).enc)), (8, .sl 1 (v1.2.1.map cdI.enc)), (9, .v (.int .i64 v1.2.2)), (13, .v (.int .i64 v6)), (95, .v (.bool true))] [] (by kernel_rfl) ?_
        have hq := Option.some.inj hj16; subst hq
        exact RunS.done rfl (Wk.fr (by kernel_rfl))
      · rw [if_f hc70] at hj16
        rw [hc70]
        refine RunS.segF (n := 204) e_law09_EveningPigeon_ok 3 [(7, .sl 1 (v1.1.map (cdL 1 (cdL 1 cdI)).enc)), (8, .sl 1 (v1.2.1.map cdI.enc)), (9, .v (.int .i64 v1.2.2)), (12, .v (.int .i64 (wr .i64 (x2.tmod 21)))), (13, .v (.int .i64 v6)), (14, .v (.int .i64 v7)), (59, .v (.bool false)), (60, .v (.int .i64 v1.2.2)), (61, .sl 1 (v1.2.1.map cdI.enc)), (62, .v (.int .i64 (wr .i64 (x2.tmod 21))))] [] (by kernel_rfl) ?_
        obtain ⟨v8, hv8, hj16⟩ := Option.bind_eq_some_iff.1 hj16
        refine RunS.call e_law09_EveningPigeon_ok (fid := 33) (b := v8) (s := cs_evening_MostEvenings) (F := fun a => evening_MostEvenings a.1 a.2.1 a.2.2.1) (er := er_evening_MostEvenings) (xs := [.v (.int .i64 v1.2.2), .sl 1 (v1.2.1.map cdI.enc), .v (.int .i64 (wr .i64 (x2.tmod 21)))]) (a := (v1.2.2, v1.2.1, (wr .i64 (x2.tmod 21)), ())) rfl (by kernel_rfl) (by kernel_rfl) (by kernel_rfl) (by kernel_rfl) (by kernel_rfl) (Sns.cons (Sn.enc (c := cdI) (v := v1.2.2)) (Sns.cons (Sn.enc (c := (cdL 1 cdI)) (v := v1.2.1)) (Sns.cons (Sn.enc (c := cdI) (v := (wr .i64 (x2.tmod 21)))) Sns.nil))) (.inl (by kernel_rfl)) (by dsimp only; exact hv8) ?_
        refine RunS.segF (n := 204) e_law09_EveningPigeon_ok 1 [(7, .sl 1 (v1.1.map (cdL 1 (cdL 1 cdI)).enc)), (8, .sl 1 (v1.2.1.map cdI.enc)), (9, .v (.int .i64 v1.2.2)), (12, .v (.int .i64 (wr .i64 (x2.tmod 21)))), (13, .v (.int .i64 v6)), (14, .v (.int .i64 v7)), (59, .v (.bool false)), (63, .v (.int .i64 v8)), (64, .sl 1 (v1.1.map (cdL 1 (cdL 1 cdI)).enc))] [] (by kernel_rfl) ?_
        refine RunS.one e_law09_EveningPigeon_ok 0 rfl (op_q (by kernel_rfl) rfl (q_len (a := .sl 1 (v1.1.map (cdL 1 (cdL 1 cdI)).enc)) (by kernel_rfl) (len_sl (el := 49) (by kernel_rfl)))) ?_
        refine RunS.segF (n := 204) e_law09_EveningPigeon_ok 2 [(7, .sl 1 (v1.1.map (cdL 1 (cdL 1 cdI)).enc)), (8, .sl 1 (v1.2.1.map cdI.enc)), (9, .v (.int .i64 v1.2.2)), (12, .v (.int .i64 (wr .i64 (x2.tmod 21)))), (13, .v (.int .i64 v6)), (14, .v (.int .i64 v7)), (59, .v (.bool false)), (67, .v (.bool (decide (v8 < (v1.1.length : Int)))))] [] (by kernel_rfl) ?_
        rcases Bool.eq_false_or_eq_true (decide (v8 < (v1.1.length : Int))) with hc71 | hc71
        · rw [if_pos hc71] at hj16
          rw [hc71]
          refine RunS.segF (n := 204) e_law09_EveningPigeon_ok 6 [(7, .sl 1 (v1.1.map (cdL 1 (cdL 1 cdI)).enc)), (8, .sl 1 (v1.2.1.map cdI.enc)), (9, .v (.int .i64 v1.2.2)), (13, .v (.int .i64 v6)), (14, .v (.int .i64 v7)), (73, .v (.bool (decide (v6 ≤ (wr .i64 (x2.tmod 21))))))] [] (by kernel_rfl) ?_
          rcases Bool.eq_false_or_eq_true (decide (v6 ≤ (wr .i64 (x2.tmod 21)))) with hc72 | hc72
          · rw [if_pos hc72] at hj16
            rw [hc72]
            refine RunS.segF (n := 204) e_law09_EveningPigeon_ok 22 [(7, .sl 1 (v1.1.map (cdL 1 (cdL 1 cdI)).enc)), (8, .sl 1 (v1.2.1.map cdI.enc)), (9, .v (.int .i64 v1.2.2)), (13, .v (.int .i64 v6)), (95, .v (.bool true))] [] (by kernel_rfl) ?_
            have hq := Option.some.inj hj16; subst hq
            exact RunS.done rfl (Wk.fr (by kernel_rfl))
          · rw [if_f hc72] at hj16
            rw [hc72]
            refine RunS.segF (n := 204) e_law09_EveningPigeon_ok 3 [(7, .sl 1 (v1.1.map (cdL 1 (cdL 1 cdI)).enc)), (8, .sl 1 (v1.2.1.map cdI.enc)), (9, .v (.int .i64 v1.2.2)), (13, .v (.int .i64 v6)), (14, .v (.int .i64 v7)), (73, .v (.bool false)), (76, .v (.bool (decide (v7 > 0))))] [] (by kernel_rfl) ?_
            rcases Bool.eq_false_or_eq_true (decide (v7 > 0)) with hc73 | hc73
            · rw [if_pos hc73] at hj16
              rw [hc73]
              refine RunS.segF (n := 204) e_law09_EveningPigeon_ok 4 [(7, .sl 1 (v1.1.map (cdL 1 (cdL 1 cdI)).enc)), (8, .sl 1 (v1.2.1.map cdI.enc)), (9, .v (.int .i64 v1.2.2)), (13, .v (.int .i64 v6)), (14, .v (.int .i64 v7)), (73, .v (.bool false)), (76, .v (.bool true)), (77, .v (.int .i64 v1.2.2)), (78, .sl 1 (v1.2.1.map cdI.enc)), (80, .v (.int .i64 (wr .i64 (v7 - 1))))] [] (by kernel_rfl) ?_
              obtain ⟨v9, hv9, hj16⟩ := Option.bind_eq_some_iff.1 hj16
              refine RunS.call e_law09_EveningPigeon_ok (fid := 33) (b := v9) (s := cs_evening_MostEvenings) (F := fun a => evening_MostEvenings a.1 a.2.1 a.2.2.1) (er := er_evening_MostEvenings) (xs := [.v (.int .i64 v1.2.2), .sl 1 (v1.2.1.map cdI.enc), .v (.int .i64 (wr .i64 (v7 - 1)))]) (a := (v1.2.2, v1.2.1, (wr .i64 (v7 - 1)), ())) rfl (by kernel_rfl) (by kernel_rfl) (by kernel_rfl) (by kernel_rfl) (by kernel_rfl) (Sns.cons (Sn.enc (c := cdI) (v := v1.2.2)) (Sns.cons (Sn.enc (c := (cdL 1 cdI)) (v := v1.2.1)) (Sns.cons (Sn.enc (c := cdI) (v := (wr .i64 (v7 - 1)))) Sns.nil))) (.inl (by kernel_rfl)) (by dsimp only; exact hv9) ?_
              refine RunS.segF (n := 204) e_law09_EveningPigeon_ok 1 [(7, .sl 1 (v1.1.map (cdL 1 (cdL 1 cdI)).enc)), (8, .sl 1 (v1.2.1.map cdI.enc)), (9, .v (.int .i64 v1.2.2)), (13, .v (.int .i64 v6)), (14, .v (.int .i64 v7)), (73, .v (.bool false)), (76, .v (.bool true)), (81, .v (.int .i64 v9)), (82, .sl 1 (v1.1.map (cdL 1 (cdL 1 cdI)).enc))] [] (by kernel_rfl) ?_
              refine RunS.one e_law09_EveningPigeon_ok 0 rfl (op_q (by kernel_rfl) rfl (q_len (a := .sl 1 (v1.1.map (cdL 1 (cdL 1 cdI)).enc)) (by kernel_rfl) (len_sl (el := 49) (by kernel_rfl)))) ?_
              refine RunS.segF (n := 204) e_law09_EveningPigeon_ok 4 [(7, .sl 1 (v1.1.map (cdL 1 (cdL 1 cdI)).enc)), (8, .sl 1 (v1.2.1.map cdI.enc)), (9, .v (.int .i64 v1.2.2)), (13, .v (.int .i64 v6)), (14, .v (.int .i64 v7)), (87, .v (.bool (decide (v9 ≥ (v1.1.length : Int)))))] [] (by kernel_rfl) ?_
              rcases Bool.eq_false_or_eq_true (decide (v9 ≥ (v1.1.length : Int))) with hc74 | hc74
              · rw [if_pos hc74] at hj16
                rw [hc74]
                refine RunS.segF (n := 204) e_law09_EveningPigeon_ok 8 [(7, .sl 1 (v1.1.map (cdL 1 (cdL 1 cdI)).enc)), (8, .sl 1 (v1.2.1.map cdI.enc)), (9, .v (.int .i64 v1.2.2)), (13, .v (.int .i64 v6)), (95, .v (.bool true))] [] (by kernel_rfl) ?_
                have hq := Option.some.inj hj16; subst hq
                exact RunS.done rfl (Wk.fr (by kernel_rfl))
              · rw [if_f hc74] at hj16
                rw [hc74]
                refine RunS.segF (n := 204) e_law09_EveningPigeon_ok 3 [(7, .sl 1 (v1.1.map (cdL 1 (cdL 1 cdI)).enc)), (8, .sl 1 (v1.2.1.map cdI.enc)), (9, .v (.int .i64 v1.2.2)), (13, .v (.int .i64 v6)), (87, .v (.bool false)), (88, .v (.int .i64 v1.2.2)), (89, .sl 1 (v1.2.1.map cdI.enc)), (90, .v (.int .i64 v7))] [] (by kernel_rfl) ?_
                obtain ⟨v10, hv10, hj16⟩ := Option.bind_eq_some_iff.1 hj16
                refine RunS.call e_law09_EveningPigeon_ok (fid := 33) (s := cs_evening_MostEvenings) (F := fun a => evening_MostEvenings a.1 a.2.1 a.2.2.1) (er := er_evening_MostEvenings) (xs := [.v (.int .i64 v1.2.2), .sl 1 (v1.2.1.map cdI.enc), .v (.int .i64 v7)]) (a := (v1.2.2, v1.2.1, v7, ())) rfl (by kernel_rfl) (by kernel_rfl) (by kernel_rfl) (by kernel_rfl) (by kernel_rfl) (Sns.cons (Sn.enc (c := cdI) (v := v1.2.2)) (Sns.cons (Sn.enc (c := (cdL 1 cdI)) (v := v1.2.1)) (Sns.cons (Sn.enc (c := cdI) (v := v7)) Sns.nil))) (.inl (by kernel_rfl)) hv10 ?_
                refine RunS.segF (n := 204) e_law09_EveningPigeon_ok 1 [(7, .sl 1 (v1.1.map (cdL 1 (cdL 1 cdI)).enc)), (8, .sl 1 (v1.2.1.map cdI.enc)), (9, .v (.int .i64 v1.2.2)), (13, .v (.int .i64 v6)), (87, .v (.bool false)), (91, .v (.int .i64 v10)), (92, .sl 1 (v1.1.map (cdL 1 (cdL 1 cdI)).enc))] [] (by kernel_rfl) ?_
                refine RunS.one e_law09_EveningPigeon_ok 0 rfl (op_q (by kernel_rfl) rfl (q_len (a := .sl 1 (v1.1.map (cdL 1 (cdL 1 cdI)).enc)) (by kernel_rfl) (len_sl (el := 49) (by kernel_rfl)))) ?_
                refine RunS.segF (n := 204) e_law09_EveningPigeon_ok 2 [(7, .sl 1 (v1.1.map (cdL 1 (cdL 1 cdI)).enc)), (8, .sl 1 (v1.2.1.map cdI.enc)), (9, .v (.int .i64 v1.2.2)), (13, .v (.int .i64 v6)), (95, .v (.bool (decide (v10 < (v1.1.length : Int)))))] [] (by kernel_rfl) ?_
                have hq := Option.some.inj hj16; subst hq
                exact RunS.done rfl (Wk.fr (by kernel_rfl))
            · rw [if_f hc73] at hj16
              rw [hc73]
              refine RunS.segF (n := 204) e_law09_EveningPigeon_ok 14 [(7, .sl 1 (v1.1.map (cdL 1 (cdL 1 cdI)).enc)), (8, .sl 1 (v1.2.1.map cdI.enc)), (9, .v (.int .i64 v1.2.2)), (13, .v (.int .i64 v6)), (87, .v (.bool false)), (88, .v (.int .i64 v1.2.2)), (89, .sl 1 (v1.2.1.map cdI.enc)), (90, .v (.int .i64 v7))] [] (by kernel_rfl) ?_
              obtain ⟨v11, hv11, hj16⟩ := Option.bind_eq_some_iff.1 hj16
              refine RunS.call e_law09_EveningPigeon_ok (fid := 33) (s := cs_evening_MostEvenings) (F := fun a => evening_MostEvenings a.1 a.2.1 a.2.2.1) (er := er_evening_MostEvenings) (xs := [.v (.int .i64 v1.2.2), .sl 1 (v1.2.1.map cdI.enc), .v (.int .i64 v7)]) (a := (v1.2.2, v1.2.1, v7, ())) rfl (by kernel_rfl) (by kernel_rfl) (by kernel_rfl) (by kernel_rfl) (by kernel_rfl) (Sns.cons (Sn.enc (c := cdI) (v := v1.2.2)) (Sns.cons (Sn.enc (c := (cdL 1 cdI)) (v := v1.2.1)) (Sns.cons (Sn.enc (c := cdI) (v := v7)) Sns.nil))) (.inl (by kernel_rfl)) hv11 ?_
              refine RunS.segF (n := 204) e_law09_EveningPigeon_ok 1 [(7, .sl 1 (v1.1.map (cdL 1 (cdL 1 cdI)).enc)), (8, .sl 1 (v1.2.1.map cdI.enc)), (9, .v (.int .i64 v1.2.2)), (13, .v (.int .i64 v6)), (87, .v (.bool false)), (91, .v (.int .i64 v11)), (92, .sl 1 (v1.1.map (cdL 1 (cdL 1 cdI)).enc))] [] (by kernel_rfl) ?_
              refine RunS.one e_law09_EveningPigeon_ok 0 rfl (op_q (by kernel_rfl) rfl (q_len (a := .sl 1 (v1.1.map (cdL 1 (cdL 1 cdI)).enc)) (by kernel_rfl) (len_sl (el := 49) (by kernel_rfl)))) ?_
              refine RunS.segF (n := 204) e_law09_EveningPigeon_ok 2 [(7, .sl 1 (v1.1.map (cdL 1 (cdL 1 cdI)).enc)), (8, .sl 1 (v1.2.1.map cdI.enc)), (9, .v (.int .i64 v1.2.2)), (13, .v (.int .i64 v6)), (95, .v (.bool (decide (v11 < (v1.1.length : Int)))))] [] (by kernel_rfl) ?_
              have hq := Option.some.inj hj16; subst hq
              exact RunS.done rfl (Wk.fr (by kernel_rfl))
        · rw [if_f hc71] at hj16
          rw [hc71]
          refine RunS.segF (n := 204) e_law09_EveningPigeon_ok 9 [(7, .sl 1 (v1.1.map (cdL 1 (cdL 1 cdI)).enc)), (8, .sl 1 (v1.2.1.map cdI.enc)), (9, .v (.int .i64 v1.2.2)), (13, .v (.int .i64 v6)), (14, .v (.int .i64 v7)), (73, .v (.bool false)), (76, .v (.bool (decide (v7 > 0))))] [] (by kernel_rfl) ?_
          rcases Bool.eq_false_or_eq_true (decide (v7 > 0)) with hc75 | hc75
          · rw [if_pos hc75] at hj16
            rw [hc75]
            refine RunS.segF (n := 204) e_law09_EveningPigeon_ok 4 [(7, .sl 1 (v1.1.map (cdL 1 (cdL 1 cdI)).enc)), (8, .sl 1 (v1.2.1.map cdI.enc)), (9, .v (.int .i64 v1.2.2)), (13, .v (.int .i64 v6)), (14, .v (.int .i64 v7)), (73, .v (.bool false)), (76, .v (.bool true)), (77, .v (.int .i64 v1.2.2)), (78, .sl 1 (v1.2.1.map cdI.enc)), (80, .v (.int .i64 (wr .i64 (v7 - 1))))] [] (by kernel_rfl) ?_
            obtain ⟨v12, hv12, hj16⟩ := Option.bind_eq_some_iff.1 hj16
            refine RunS.call e_law09_EveningPigeon_ok (fid := 33) (b := v12) (s := cs_evening_MostEvenings) (F := fun a => evening_MostEvenings a.1 a.2.1 a.2.2.1) (er := er_evening_MostEvenings) (xs := [.v (.int .i64 v1.2.2), .sl 1 (v1.2.1.map cdI.enc), .v (.int .i64 (wr .i64 (v7 - 1)))]) (a := (v1.2.2, v1.2.1, (wr .i64 (v7 - 1)), ())) rfl (by kernel_rfl) (by kernel_rfl) (by kernel_rfl) (by kernel_rfl) (by kernel_rfl) (Sns.cons (Sn.enc (c := cdI) (v := v1.2.2)) (Sns.cons (Sn.enc (c := (cdL 1 cdI)) (v := v1.2.1)) (Sns.cons (Sn.enc (c := cdI) (v := (wr .i64 (v7 - 1)))) Sns.nil))) (.inl (by kernel_rfl)) (by dsimp only; exact hv12) ?_
            refine RunS.segF (n := 204) e_law09_EveningPigeon_ok 1 [(7, .sl 1 (v1.1.map (cdL 1 (cdL 1 cdI)).enc)), (8, .sl 1 (v1.2.1.map cdI.enc)), (9, .v (.int .i64 v1.2.2)), (13, .v (.int .i64 v6)), (14, .v (.int .i64 v7)), (73, .v (.bool false)), (76, .v (.bool true)), (81, .v (.int .i64 v12)), (82, .sl 1 (v1.1.map (cdL 1 (cdL 1 cdI)).enc))] [] (by kernel_rfl) ?_
            refine RunS.one e_law09_EveningPigeon_ok 0 rfl (op_q (by kernel_rfl) rfl (q_len (a := .sl 1 (v1.1.map (cdL 1 (cdL 1 cdI)).enc)) (by kernel_rfl) (len_sl (el := 49) (by kernel_rfl)))) ?_
            refine RunS.segF (n := 204) e_law09_EveningPigeon_ok 4 [(7, .sl 1 (v1.1.map (cdL 1 (cdL 1 cdI)).enc)), (8, .sl 1 (v1.2.1.map cdI.enc)), (9, .v (.int .i64 v1.2.2)), (13, .v (.int .i64 v6)), (14, .v (.int .i64 v7)), (87, .v (.bool (decide (v12 ≥ (v1.1.length : Int)))))] [] (by kernel_rfl) ?_
            rcases Bool.eq_false_or_eq_true (decide (v12 ≥ (v1.1.length : Int))) with hc76 | hc76
            · rw [if_pos hc76] at hj16
              rw [hc76]
              refine RunS.segF (n := 204) e_law09_EveningPigeon_ok 8 [(7, .sl 1 (v1.1.map (cdL 1 (cdL 1 cdI)).enc)), (8, .sl 1 (v1.2.1.map cdI.enc)), (9, .v (.int .i64 v1.2.2)), (13, .v (.int .i64 v6)), (95, .v (.bool true))] [] (by kernel_rfl) ?_
              have hq := Option.some.inj hj16; subst hq
              exact RunS.done rfl (Wk.fr (by kernel_rfl))
            · rw [if_f hc76] at hj16
              rw [hc76]
              refine RunS.segF (n := 204) e_law09_EveningPigeon_ok 3 [(7, .sl 1 (v1.1.map (cdL 1 (cdL 1 cdI)).enc)), (8, .sl 1 (v1.2.1.map cdI.enc)), (9, .v (.int .i64 v1.2.2)), (13, .v (.int .i64 v6)), (87, .v (.bool false)), (88, .v (.int .i64 v1.2.2)), (89, .sl 1 (v1.2.1.map cdI.enc)), (90, .v (.int .i64 v7))] [] (by kernel_rfl) ?_
              obtain ⟨v13, hv13, hj16⟩ := Option.bind_eq_some_iff.1 hj16
              refine RunS.call e_law09_EveningPigeon_ok (fid := 33) (s := cs_evening_MostEvenings) (F := fun a => evening_MostEvenings a.1 a.2.1 a.2.2.1) (er := er_evening_MostEvenings) (xs := [.v (.int .i64 v1.2.2), .sl 1 (v1.2.1.map cdI.enc), .v (.int .i64 v7)]) (a := (v1.2.2, v1.2.1, v7, ())) rfl (by kernel_rfl) (by kernel_rfl) (by kernel_rfl) (by kernel_rfl) (by kernel_rfl) (Sns.cons (Sn.enc (c := cdI) (v := v1.2.2)) (Sns.cons (Sn.enc (c := (cdL 1 cdI)) (v := v1.2.1)) (Sns.cons (Sn.enc (c := cdI) (v := v7)) Sns.nil))) (.inl (by kernel_rfl)) hv13 ?_
              refine RunS.segF (n := 204) e_law09_EveningPigeon_ok 1 [(7, .sl 1 (v1.1.map (cdL 1 (cdL 1 cdI)).enc)), (8, .sl 1 (v1.2.1.map cdI.enc)), (9, .v (.int .i64 v1.2.2)), (13, .v (.int .i64 v6)), (87, .v (.bool false)), (91, .v (.int .i64 v13)), (92, .sl 1 (v1.1.map (cdL 1 (cdL 1 cdI)).enc))] [] (by kernel_rfl) ?_
              refine RunS.one e_law09_EveningPigeon_ok 0 rfl (op_q (by kernel_rfl) rfl (q_len (a := .sl 1 (v1.1.map (cdL 1 (cdL 1 cdI)).enc)) (by kernel_rfl) (len_sl (el := 49) (by kernel_rfl)))) ?_
              refine RunS.segF (n := 204) e_law09_EveningPigeon_ok 2 [(7, .sl 1 (v1.1.map (cdL 1 (cdL 1 cdI)).enc)), (8, .sl 1 (v1.2.1.map cdI.enc)), (9, .v (.int .i64 v1.2.2)), (13, .v (.int .i64 v6)), (95, .v (.bool (decide (v13 < (v1.1.length : Int)))))] [] (by kernel_rfl) ?_
              have hq := Option.some.inj hj16; subst hq
              exact RunS.done rfl (Wk.fr (by kernel_rfl))
          · rw [if_f hc75] at hj16
            rw [hc75]
            refine RunS.segF (n := 204) e_law09_EveningPigeon_ok 14 [(7, .sl 1 (v1.1.map (cdL 1 (cdL 1 cdI)).enc)), (8, .sl 1 (v1.2.1.map cdI.enc)), (9, .v (.int .i64 v1.2.2)), (13, .v (.int .i64 v6)), (87, .v (.bool false)), (88, .v (.int .i64 v1.2.2)), (89, .sl 1 (v1.2.1.map cdI.enc)), (90, .v (.int .i64 v7))] [] (by kernel_rfl) ?_
            obtain ⟨v14, hv14, hj16⟩ := Option.bind_eq_some_iff.1 hj16
            refine RunS.call e_law09_EveningPigeon_ok (fid := 33) (s := cs_evening_MostEvenings) (F := fun a => evening_MostEvenings a.1 a.2.1 a.2.2.1) (er := er_evening_MostEvenings) (xs := [.v (.int .i64 v1.2.2), .sl 1 (v1.2.1.map cdI.enc), .v (.int .i64 v7)]) (a := (v1.2.2, v1.2.1, v7, ())) rfl (by kernel_rfl) (by kernel_rfl) (by kernel_rfl) (by kernel_rfl) (by kernel_rfl) (Sns.cons (Sn.enc (c := cdI) (v := v1.2.2)) (Sns.cons (Sn.enc (c := (cdL 1 cdI)) (v := v1.2.1)) (Sns.cons (Sn.enc (c := cdI) (v := v7)) Sns.nil))) (.inl (by kernel_rfl)) hv14 ?_
            refine RunS.segF (n := 204) e_law09_EveningPigeon_ok 1 [(7, .sl 1 (v1.1.map (cdL 1 (cdL 1 cdI)).enc)), (8, .sl 1 (v1.2.1.map cdI.enc)), (9, .v (.int .i64 v1.2.2)), (13, .v (.int .i64 v6)), (87, .v (.bool false)), (91, .v (.int .i64 v14)), (92, .sl 1 (v1.1.map (cdL 1 (cdL 1 cdI)).enc))] [] (by kernel_rfl) ?_
            refine RunS.one e_law09_EveningPigeon_ok 0 rfl (op_q (by kernel_rfl) rfl (q_len (a := .sl 1 (v1.1.map (cdL 1 (cdL 1 cdI)).enc)) (by kernel_rfl) (len_sl (el := 49) (by kernel_rfl)))) ?_
            refine RunS.segF (n := 204) e_law09_EveningPigeon_ok 2 [(7, .sl 1 (v1.1.map (cdL 1 (cdL 1 cdI)).enc)), (8, .sl 1 (v1.2.1.map cdI.enc)), (9, .v (.int .i64 v1.2.2)), (13, .v (.int .i64 v6)), (95, .v (.bool (decide (v14 < (v1.1.length : Int)))))] [] (by kernel_rfl) ?_
            have hq := Option.some.inj hj16; subst hq
            exact RunS.done rfl (Wk.fr (by kernel_rfl))
    refine Sem.cond (b := j16) (by kernel_rfl) (fun hb17 => ?_) (fun hb17 => ?_)
    · rw [if_pos hb17] at h
      refine Sem.seq ?_
      refine Sem.runS (s1 := ⟨Fr 204 [(6, .v (.bool false))], []⟩) ?_ ?_
      · refine RunS.segF (n := 204) e_law09_EveningPigeon_ok 1 [(6, .v (.bool false))] [] (by kernel_rfl) ?_
        exact RunS.done rfl (Wk.fr (by kernel_rfl))
      refine Sem.ret ?_
      have hq := Option.some.inj h; subst hq
      exact ⟨⟨Fr 204 [(6, .v (.bool false))], []⟩, (Wk.fr (by kernel_rfl)), .inr rfl, [.v (.bool false)], (by kernel_rfl), (by kernel_rfl)⟩
    · rw [if_f hb17] at h
      refine Sem.skip ?_
      refine Sem.seq ?_
      refine Sem.runS (s1 := ⟨Fr 204 [(7, .sl 1 (v1.1.map (cdL 1 (cdL 1 cdI)).enc)), (8, .sl 1 (v1.2.1.map cdI.enc)), (9, .v (.int .i64 v1.2.2)), (13, .v (.int .i64 v6)), (15, .v (.int .i64 0)), (16, .v (.int .i64 0)), (17, .v (.int .i64 0))], []⟩) ?_ ?_
      · refine RunS.segF (n := 204) e_law09_EveningPigeon_ok 3 [(7, .sl 1 (v1.1.map (cdL 1 (cdL 1 cdI)).enc)), (8, .sl 1 (v1.2.1.map cdI.enc)), (9, .v (.int .i64 v1.2.2)), (13, .v (.int .i64 v6)), (15, .v (.int .i64 0)), (16, .v (.int .i64 0)), (17, .v (.int .i64 0))] [] (by kernel_rfl) ?_
        exact RunS.done rfl (Wk.fr (by kernel_rfl))
      refine Sem.seq ?_
      obtain ⟨v18, hv18, h⟩ := Option.bind_eq_some_iff.1 h
      refine Sem.runS (s1 := ⟨Fr 204 [(7, .sl 1 (v1.1.map (cdL 1 (cdL 1 cdI)).enc)), (8, .sl 1 (v1.2.1.map cdI.enc)), (9, .v (.int .i64 v1.2.2)), (13, .v (.int .i64 v6)), (15, .v (.int .i64 0)), (16, .v (.int .i64 0)), (17, .v (.int .i64 0)), (18, .sl 1 (v18.map (cdL 1 cdI).enc))], []⟩) ?_ ?_
      · refine RunS.segF (n := 204) e_law09_EveningPigeon_ok 2 [(7, .sl 1 (v1.1.map (cdL 1 (cdL 1 cdI)).enc)), (8, .sl 1 (v1.2.1.map cdI.enc)), (9, .v (.int .i64 v1.2.2)), (13, .v (.int .i64 v6)), (15, .v (.int .i64 0)), (16, .v (.int .i64 0)), (17, .v (.int .i64 0)), (96, .v (.int .i64 v1.2.2)), (97, .sl 1 (v1.1.map (cdL 1 (cdL 1 cdI)).enc))] [] (by kernel_rfl) ?_
        refine RunS.call e_law09_EveningPigeon_ok (fid := 48) (s := cs_evening_Meet) (F := fun a => evening_Meet a.1 a.2.1) (er := er_evening_Meet) (xs := [.v (.int .i64 v1.2.2), .sl 1 (v1.1.map (cdL 1 (cdL 1 cdI)).enc)]) (a := (v1.2.2, v1.1, ())) rfl (wantedA_none rfl) (by kernel_rfl) (by kernel_rfl) (by kernel_rfl) (by kernel_rfl) (Sns.cons (Sn.enc (c := cdI) (v := v1.2.2)) (Sns.cons (Sn.enc (c := (cdL 1 (cdL 1 (cdL 1 cdI)))) (v := v1.1)) Sns.nil)) (.inl (by kernel_rfl)) hv18 ?_
        refine RunS.segF (n := 204) e_law09_EveningPigeon_ok 1 [(7, .sl 1 (v1.1.map (cdL 1 (cdL 1 cdI)).enc)), (8, .sl 1 (v1.2.1.map cdI.enc)), (9, .v (.int .i64 v1.2.2)), (13, .v (.int .i64 v6)), (15, .v (.int .i64 0)), (16, .v (.int .i64 0)), (17, .v (.int .i64 0)), (18, .sl 1 (v18.map (cdL 1 cdI).enc))] [] (by kernel_rfl) ?_
        exact RunS.done rfl (Wk.fr (by kernel_rfl))
      refine Sem.seq ?_
      refine Sem.seq ?_
      refine Sem.runS (s1 := ⟨Fr 204 [(7, .sl 1 (v1.1.map (cdL 1 (cdL 1 cdI)).enc)), (8, .sl 1 (v1.2.1.map cdI.enc)), (9, .v (.int .i64 v1.2.2)), (13, .v (.int .i64 v6)), (15, .v (.int .i64 0)), (16, .v (.int .i64 0)), (17, .v (.int .i64 0)), (18, .sl 1 (v18.map (cdL 1 cdI).enc)), (102, .v (.bool ((v18.length : Int) != v1.2.2)))], []⟩) ?_ ?_
      · refine RunS.segF (n := 204) e_law09_EveningPigeon_ok 1 [(7, .sl 1 (v1.1.map (cdL 1 (cdL 1 cdI)).enc)), (8, .sl 1 (v1.2.1.map cdI.enc)), (9, .v (.int .i64 v1.2.2)), (13, .v (.int .i64 v6)), (15, .v (.int .i64 0)), (16, .v (.int .i64 0)), (17, .v (.int .i64 0)), (18, .sl 1 (v18.map (cdL 1 cdI).enc)), (99, .sl 1 (v18.map (cdL 1 cdI).enc))] [] (by kernel_rfl) ?_
        refine RunS.one e_law09_EveningPigeon_ok 0 rfl (op_q (wantedA_none rfl) rfl (q_len (a := .sl 1 (v18.map (cdL 1 cdI).enc)) (by kernel_rfl) (len_sl (el := 24) (by kernel_rfl)))) ?_
        refine RunS.segF (n := 204) e_law09_EveningPigeon_ok 2 [(7, .sl 1 (v1.1.map (cdL 1 (cdL 1 cdI)).enc)), (8, .sl 1 (v1.2.1.map cdI.enc)), (9, .v (.int .i64 v1.2.2)), (13, .v (.int .i64 v6)), (15, .v (.int .i64 0)), (16, .v (.int .i64 0)), (17, .v (.int .i64 0)), (18, .sl 1 (v18.map (cdL 1 cdI).enc)), (102, .v (.bool ((v18.length : Int) != v1.2.2)))] [] (by kernel_rfl) ?_
        exact RunS.done rfl (Wk.fr (by kernel_rfl))
      refine Sem.cond (b := ((v18.length : Int) != v1.2.2)) (by kernel_rfl) (fun hb19 => ?_) (fun hb19 => ?_)
      · rw [if_pos hb19] at h
        refine Sem.seq ?_
        refine Sem.runS (s1 := ⟨Fr 204 [(6, .v (.bool false))], []⟩) ?_ ?_
        · refine RunS.segF (n := 204) e_law09_EveningPigeon_ok 1 [(6, .v (.bool false))] [] (by kernel_rfl) ?_
          exact RunS.done rfl (Wk.fr (by kernel_rfl))
        refine Sem.ret ?_
        have hq := Option.some.inj h; subst hq
        exact ⟨⟨Fr 204 [(6, .v (.bool false))], []⟩, (Wk.fr (by kernel_rfl)), .inr rfl, [.v (.bool false)], (by kernel_rfl), (by kernel_rfl)⟩
      · rw [if_f hb19] at h
        refine Sem.skip ?_
        refine Sem.seq ?_
        refine Sem.seq ?_
        refine Sem.runS (s1 := ⟨Fr 204 [(7, .sl 1 (v1.1.map (cdL 1 (cdL 1 cdI)).enc)), (9, .v (.int .i64 v1.2.2)), (13, .v (.int .i64 v6)), (15, .v (.int .i64 0)), (16, .v (.int .i64 0)), (17, .v (.int .i64 0)), (18, .sl 1 (v18.map (cdL 1 cdI).enc)), (103, .sl 1 (v1.2.1.map cdI.enc)), (104, .v (.int .i64 (v1.2.1.length : Int))), (105, .v (.int .i64 0))], []⟩) ?_ ?_
        · refine RunS.segF (n := 204) e_law09_EveningPigeon_ok 1 [(7, .sl 1 (v1.1.map (cdL 1 (cdL 1 cdI)).enc)), (9, .v (.int .i64 v1.2.2)), (13, .v (.int .i64 v6)), (15, .v (.int .i64 0)), (16, .v (.int .i64 0)), (17, .v (.int .i64 0)), (18, .sl 1 (v18.map (cdL 1 cdI).enc)), (103, .sl 1 (v1.2.1.map cdI.enc))] [] (by kernel_rfl) ?_
          refine RunS.one e_law09_EveningPigeon_ok 0 rfl (op_q (wantedA_none rfl) rfl (q_len (a := .sl 1 (v1.2.1.map cdI.enc)) (by kernel_rfl) (len_sl (el := 3) (by kernel_rfl)))) ?_
          refine RunS.segF (n := 204) e_law09_EveningPigeon_ok 1 [(7, .sl 1 (v1.1.map (cdL 1 (cdL 1 cdI)).enc)), (9, .v (.int .i64 v1.2.2)), (13, .v (.int .i64 v6)), (15, .v (.int .i64 0)), (16, .v (.int .i64 0)), (17, .v (.int .i64 0)), (18, .sl 1 (v18.map (cdL 1 cdI).enc)), (103, .sl 1 (v1.2.1.map cdI.enc)), (104, .v (.int .i64 (v1.2.1.length : Int))), (105, .v (.int .i64 0))] [] (by kernel_rfl) ?_
          exact RunS.done rfl (Wk.fr (by kernel_rfl))
        refine Sem.block ?_
        obtain ⟨r25, hr25, h⟩ := Option.bind_eq_some_iff.1 h
        refine Sem.loop (n := 100000) ?_
        refine Sem.cutN (SemN.wk (s1 := ⟨Fr 204 [(7, .sl 1 (v1.1.map (cdL 1 (cdL 1 cdI)).enc)), (9, .v (.int .i64 v1.2.2)), (13, .v (.int .i64 v6)), (15, .v (.int .i64 0)), (16, .v (.int .i64 0)), (17, .v (.int .i64 0)), (18, .sl 1 (v18.map (cdL 1 cdI).enc)), (103, .sl 1 (v1.2.1.map cdI.enc)), (104, .v (.int .i64 (v1.2.1.length : Int))), (105, .v (.int .i64 0))], []⟩) (Wk.fr (by kernel_rfl)) (law09_EveningPigeon_1_ok v1 v6 v18 _ 0 0 _ hr25)) ?_
        refine Sem.seq ?_
        refine Sem.seq ?_
        refine Sem.runS (s1 := ⟨Fr 204 [(7, .sl 1 (v1.1.map (cdL 1 (cdL 1 cdI)).enc)), (9, .v (.int .i64 v1.2.2)), (13, .v (.int .i64 v6)), (15, .v (.int .i64 0)), (16, .v (.int .i64 r25)), (17, .v (.int .i64 0)), (18, .sl 1 (v18.map (cdL 1 cdI).enc)), (116, .sl 1 (v18.map (cdL 1 cdI).enc)), (117, .v (.int .i64 (v18.length : Int))), (118, .v (.int .i64 0))], []⟩) ?_ ?_
        · refine RunS.segF (n := 204) e_law09_EveningPigeon_ok 1 [(7, .sl 1 (v1.1.map (cdL 1 (cdL 1 cdI)).enc)), (9, .v (.int .i64 v1.2.2)), (13, .v (.int .i64 v6)), (15, .v (.int .i64 0)), (16, .v (.int .i64 r25)), (17, .v (.int .i64 0)), (18, .sl 1 (v18.map (cdL 1 cdI).enc)), (116, .sl 1 (v18.map (cdL 1 cdI).enc))] [] (by kernel_rfl) ?_
          refine RunS.one e_law09_EveningPigeon_ok 0 rfl (op_q (wantedA_none rfl) rfl (q_len (a := .sl 1 (v18.map (cdL 1 cdI).enc)) (by kernel_rfl) (len_sl (el := 24) (by kernel_rfl)))) ?_
          refine RunS.segF (n := 204) e_law09_EveningPigeon_ok 1 [(7, .sl 1 (v1.1.map (cdL 1 (cdL 1 cdI)).enc)), (9, .v (.int .i64 v1.2.2)), (13, .v (.int .i64 v6)), (15, .v (.int .i64 0)), (16, .v (.int .i64 r25)), (17, .v (.int .i64 0)), (18, .sl 1 (v18.map (cdL 1 cdI).enc)), (116, .sl 1 (v18.map (cdL 1 cdI).enc)), (117, .v (.int .i64 (v18.length : Int))), (118, .v (.int .i64 0))] [] (by kernel_rfl) ?_
          exact RunS.done rfl (Wk.fr (by kernel_rfl))
        refine Sem.block ?_
        obtain ⟨r61, hr61, h⟩ := Option.bind_eq_some_iff.1 h
        refine Sem.loop (n := 100000) ?_
        rcases r61 with w62 | w69
        · try dsimp only at h
          refine Sem.cutN (SemN.wk (s1 := ⟨Fr 204 [(7, .sl 1 (v1.1.map (cdL 1 (cdL 1 cdI)).enc)), (9, .v (.int .i64 v1.2.2)), (13, .v (.int .i64 v6)), (15, .v (.int .i64 0)), (16, .v (.int .i64 r25)), (17, .v (.int .i64 0)), (18, .sl 1 (v18.map (cdL 1 cdI).enc)), (116, .sl 1 (v18.map (cdL 1 cdI).enc)), (117, .v (.int .i64 (v18.length : Int))), (118, .v (.int .i64 0))], []⟩) (Wk.fr (by kernel_rfl)) (law09_EveningPigeon_2_ok v1 v6 v18 r25 _ 0 0 0 _ hr61)) ?_
          refine Sem.seq ?_
          obtain ⟨j66, hj66, h⟩ := Option.bind_eq_some_iff.1 h
          refine Sem.runS (s1 := ⟨Fr 204 [(6, .v (.bool j66))], []⟩) ?_ ?_
          · refine RunS.segF (n := 204) e_law09_EveningPigeon_ok 3 [(7, .sl 1 (v1.1.map (cdL 1 (cdL 1 cdI)).enc)), (9, .v (.int .i64 v1.2.2)), (17, .v (.int .i64 w62.2)), (187, .v (.int .i64 w62.1)), (188, .v (.int .i64 r25)), (189, .sl 1 (v1.1.map (cdL 1 (cdL 1 cdI)).enc))] [] (by kernel_rfl) ?_
            refine RunS.one e_law09_EveningPigeon_ok 0 rfl (op_q (wantedA_none rfl) rfl (q_len (a := .sl 1 (v1.1.map (cdL 1 (cdL 1 cdI)).enc)) (by kernel_rfl) (len_sl (el := 49) (by kernel_rfl)))) ?_
            refine RunS.segF (n := 204) e_law09_EveningPigeon_ok 3 [(7, .sl 1 (v1.1.map (cdL 1 (cdL 1 cdI)).enc)), (9, .v (.int .i64 v1.2.2)), (17, .v (.int .i64 w62.2)), (193, .v (.bool (w62.1 == (wr .i64 (r25 * (v1.1.length : Int))))))] [] (by kernel_rfl) ?_
            rcases Bool.eq_false_or_eq_true (w62.1 == (wr .i64 (r25 * (v1.1.length : Int)))) with hc67 | hc67
            · rw [if_pos hc67] at hj66
              rw [hc67]
              refine RunS.segF (n := 204) e_law09_EveningPigeon_ok 3 [(193, .v (.bool true)), (194, .v (.int .i64 w62.2)), (195, .v (.int .i64 v1.2.2)), (196, .sl 1 (v1.1.map (cdL 1 (cdL 1 cdI)).enc))] [] (by kernel_rfl) ?_
              obtain ⟨v63, hv63, hj66⟩ := Option.bind_eq_some_iff.1 hj66
              refine RunS.call e_law09_EveningPigeon_ok (fid := 40) (s := cs_evening_Strain) (F := fun a => evening_Strain a.1 a.2.1) (er := er_evening_Strain) (xs := [.v (.int .i64 v1.2.2), .sl 1 (v1.1.map (cdL 1 (cdL 1 cdI)).enc)]) (a := (v1.2.2, v1.1, ())) rfl (by kernel_rfl) (by kernel_rfl) (by kernel_rfl) (by kernel_rfl) (by kernel_rfl) (Sns.cons (Sn.enc (c := cdI) (v := v1.2.2)) (Sns.cons (Sn.enc (c := (cdL 1 (cdL 1 (cdL 1 cdI)))) (v := v1.1)) Sns.nil)) (.inl (by kernel_rfl)) hv63 ?_
              refine RunS.segF (n := 204) e_law09_EveningPigeon_ok 4 [(201, .v (.bool (w62.2 == (wr .i64 (2 * v63)))))] [] (by kernel_rfl) ?_
              rcases Bool.eq_false_or_eq_true (w62.2 == (wr .i64 (2 * v63))) with hc68 | hc68
              · rw [if_pos hc68] at hj66
                rw [hc68]
                obtain ⟨v64, hv64, hj66⟩ := Option.bind_eq_some_iff.1 hj66
                refine RunS.call e_law09_EveningPigeon_ok (fid := 16) (s := cs_law09_awake) (F := fun a => law09_awake ) (er := er_law09_awake) (xs := []) (a := (())) rfl (by kernel_rfl) (by kernel_rfl) (by kernel_rfl) (by kernel_rfl) (by kernel_rfl) Sns.nil (.inl (by kernel_rfl)) hv64 ?_
                refine RunS.segF (n := 204) e_law09_EveningPigeon_ok 2 [(6, .v (.bool v64))] [] (by kernel_rfl) ?_
                have hq := Option.some.inj hj66; subst hq
                exact RunS.done rfl (Wk.fr (by kernel_rfl))
              · rw [if_f hc68] at hj66
                rw [hc68]
                refine RunS.segF (n := 204) e_law09_EveningPigeon_ok 3 [(6, .v (.bool false))] [] (by kernel_rfl) ?_
                have hq := Option.some.inj hj66; subst hq
                exact RunS.done rfl (Wk.fr (by kernel_rfl))
            · rw [if_f hc67] at hj66
              rw [hc67]
              refine RunS.segF (n := 204) e_law09_EveningPigeon_ok 11 [(6, .v (.bool false))] [] (by kernel_rfl) ?_
              have hq := Option.some.inj hj66; subst hq
              exact RunS.done rfl (Wk.fr (by kernel_rfl))
          refine Sem.ret ?_
          have hq := Option.some.inj h; subst hq
          exact ⟨⟨Fr 204 [(6, .v (.bool j66))], []⟩, (Wk.fr (by kernel_rfl)), .inr rfl, [.v (.bool j66)], (by kernel_rfl), (by kernel_rfl)⟩
        · try dsimp only at h
          refine Sem.cutN (SemN.wk (s1 := ⟨Fr 204 [(7, .sl 1 (v1.1.map (cdL 1 (cdL 1 cdI)).enc)), (9, .v (.int .i64 v1.2.2)), (13, .v (.int .i64 v6)), (15, .v (.int .i64 0)), (16, .v (.int .i64 r25)), (17, .v (.int .i64 0)), (18, .sl 1 (v18.map (cdL 1 cdI).enc)), (116, .sl 1 (v18.map (cdL 1 cdI).enc)), (117, .v (.int .i64 (v18.length : Int))), (118, .v (.int .i64 0))], []⟩) (Wk.fr (by kernel_rfl)) (law09_EveningPigeon_2_ok v1 v6 v18 r25 _ 0 0 0 _ hr61)) ?_
          have hq := Option.some.inj h; subst hq
          exact ⟨⟨Fr 204 [(6, .v (.bool w69))], []⟩, (Wk.fr (by kernel_rfl)), .inr rfl, [.v (.bool w69)], (by kernel_rfl), (by kernel_rfl)⟩
def t_law09_EveningPigeon : List AV → Option AV := told cs_law09_EveningPigeon (fun a => law09_EveningPigeon a.1 a.2.1 a.2.2.1) er_law09_EveningPigeon
theorem x_law09_EveningPigeon : XOk 14 t_law09_EveningPigeon := by
  refine EnvOk.x (E := e_law09_EveningPigeon) (contract_ok e_law09_EveningPigeon_ok (fn := Tryd.f14) (c := cb_law09_EveningPigeon) ?h1 ?h2 ⟨Tryd.call14⟩ cs_law09_EveningPigeon (fun a => law09_EveningPigeon a.1 a.2.1 a.2.2.1) er_law09_EveningPigeon (fun a => (by show 3 ≤ 204; decide)) ?h3 ?h4) rfl rfl
  case h1 => kernel_rfl
  case h2 => kernel_rfl
  case h3 => intro b; kernel_rfl
  case h4 => exact fun a b h => law09_EveningPigeon_sem a.1 a.2.1 a.2.2.1 b h
end Go.Proofs.YthofgamegondnaaDoor

namespace Go.Proofs.YthofgamegondnaaDoor
open Go.RowKit
def in64 (n : Int) : Prop := -9223372036854775808 ≤ n ∧ n ≤ 9223372036854775807
theorem wr_i {n : Int} (h1 : -9223372036854775808 ≤ n) (h2 : n ≤ 9223372036854775807) : wr .i64 n = n := by
  show (if _ then n else _) = n
  rw [if_pos ⟨h1, h2⟩]
theorem idx_app {α : Type} (pre : List α) (v : α) (r : List α) : idx (pre ++ v :: r) (pre.length : Int) = some v := by
  unfold idx
  rw [if_pos (by omega)]
  simp
theorem idx_lt {α : Type} {xs : List α} {i : Nat} (h : i < xs.length) : idx xs (i : Int) = some xs[i] := by
  unfold idx
  rw [if_pos (by omega)]
  simp [h]
theorem snoc_len {α : Type} (pre : List α) (v : α) : ((pre.length : Int) + 1) = ((pre ++ [v]).length : Int) := by simp
theorem snoc_app {α : Type} (pre : List α) (v : α) (r : List α) : pre ++ v :: r = (pre ++ [v]) ++ r := by simp
theorem wr_snoc {α : Type} (pre : List α) (v : α) (r : List α) (h : (pre ++ v :: r).length ≤ 1000000000) : wr .i64 ((pre.length : Int) + 1) = ((pre ++ [v]).length : Int) := by
  simp at h
  rw [wr_i (by omega) (by omega)]; simp
theorem lt_len {α : Type} (pre : List α) (v : α) (r : List α) : decide ((pre.length : Int) < ((pre ++ v :: r).length : Int)) = true := by
  simp; omega
theorem nlt_len {α : Type} (pre : List α) : decide ((pre.length : Int) < ((pre ++ []).length : Int)) = false := by simp
theorem capOk_le {b n : Nat} (hb : b ≤ 1000) (h : n ≤ 1000000000) : capOk b n = true := by
  have h1 : n * b ≤ 1000000000 * 1000 := Nat.mul_le_mul h hb
  unfold capOk
  rw [Bool.and_eq_true]
  exact ⟨Nat.ble_eq_true_of_le (by omega), Nat.ble_eq_true_of_le (by omega)⟩
theorem tdiv2 (n : Int) (h : 0 ≤ n) : n.tdiv 2 = n / 2 := Int.tdiv_eq_ediv_of_nonneg h

end Go.Proofs.YthofgamegondnaaDoor

namespace Go.Proofs.YthofgamegondnaaDoor
open Go.RowKit
def inc (cs : List Int) (i : Nat) : List Int := cs.set i (cs.getD i 0 + 1)
def incs (cs : List Int) (L : List Nat) : List Int := L.foldl inc cs
theorem inc_len (cs : List Int) (i : Nat) : (inc cs i).length = cs.length := by simp [inc]
theorem incs_len : ∀ (L : List Nat) (cs : List Int), (incs cs L).length = cs.length
  | [], _ => rfl
  | i :: L, cs => (incs_len L (inc cs i)).trans (inc_len cs i)
theorem incs_app (cs : List Int) (L L' : List Nat) : incs cs (L ++ L') = incs (incs cs L) L' := List.foldl_append
theorem incs_cons (cs : List Int) (i : Nat) (L : List Nat) : incs cs (i :: L) = incs (inc cs i) L := rfl
theorem inc_get (cs : List Int) (i j : Nat) (h : j < cs.length) : (inc cs i).getD j 0 = cs.getD j 0 + (if i = j then 1 else 0) := by
  unfold inc
  by_cases e : i = j
  · subst e
    simp [List.getD_eq_getElem?_getD, h]
  · simp [List.getD_eq_getElem?_getD, e]
theorem incs_get : ∀ (L : List Nat) (cs : List Int) (j : Nat), j < cs.length → (incs cs L).getD j 0 = cs.getD j 0 + (L.count j : Nat)
  | [], cs, j, _ => by simp [incs]
  | i :: L, cs, j, h => by
    rw [incs_cons, incs_get L (inc cs i) j (by rw [inc_len]; exact h), inc_get cs i j h, List.count_cons]
    by_cases e : i = j
    · simp [e]; omega
    · simp [e]
def zeros (n : Nat) : List Int := List.replicate n 0
theorem zeros_get (n j : Nat) : (zeros n).getD j 0 = 0 := by
  simp only [zeros, List.getD_eq_getElem?_getD, List.getElem?_replicate]
  split <;> rfl
theorem cnt_get (L : List Nat) (n j : Nat) (h : j < n) : (incs (zeros n) L).getD j 0 = (L.count j : Nat) := by
  rw [incs_get L (zeros n) j (by simpa [zeros] using h), zeros_get]; simp
/-- A bit of a number. -/
def tb (m i : Nat) : Bool := Nat.beq (Nat.mod (Nat.shiftRight m i) 2) 1
/-- The numbers of a list as bits; none if one stands there twice. -/
def bits : List Nat → Nat → Option Nat
  | [], m => some m
  | i :: L, m => bif tb m i then none else bits L (Nat.lor m (Nat.shiftLeft 1 i))
theorem cell_eq {n x y k l : Nat} (h1 : y < n) (h2 : l < n) (h : x * n + y = k * n + l) : x = k ∧ y = l := by
  have hn : 0 < n := by omega
  have e1 : (x * n + y) / n = x := by rw [Nat.mul_comm, Nat.mul_add_div hn, Nat.div_eq_of_lt h1]; rfl
  have e2 : (k * n + l) / n = k := by rw [Nat.mul_comm, Nat.mul_add_div hn, Nat.div_eq_of_lt h2]; rfl
  have : x = k := by rw [← e1, h, e2]
  subst this
  exact ⟨rfl, by omega⟩
theorem cell_lt {n x y : Nat} (h1 : x < n) (h2 : y < n) : x * n + y < n * n := by
  have : x * n + n ≤ n * n := by rw [← Nat.succ_mul]; exact Nat.mul_le_mul_right n h1
  omega
end Go.Proofs.YthofgamegondnaaDoor

namespace Go.Proofs.YthofgamegondnaaDoor
open Go.RowKit
/- trestle/trestleref09.times -/
def ref09_times_j3 (x0 : (List (List Int))) (x1 : Int) (c2 : Int) (c4 : Int) (c5 : Int) (v9 : Int) : Option ((Int)) :=
  if (v9 == x1) = true then
  some (wr .i64 (c4 + 1))
  else
  some c4
def ref09_times_2 (x0 : (List (List Int))) (x1 : Int) (c2 : Int) : Nat → Int → Int → Option ((Int))
  | 0, _, _ => none
  | f + 1, c4, c5 =>
    (idx x0 c2).bind fun v6 =>
    if (decide (c5 < (v6.length : Int))) = true then
    (idx x0 c2).bind fun v8 =>
    (idx v8 c5).bind fun v9 =>
    (ref09_times_j3 x0 x1 c2 c4 c5 v9).bind fun r12 =>
    ref09_times_2 x0 x1 c2 f r12 (wr .i64 (c5 + 1))
    else
    some c4
def ref09_times_1 (x0 : (List (List Int))) (x1 : Int) : Nat → Int → Int → Option ((Int))
  | 0, _, _ => none
  | f + 1, c1, c2 =>
    if (decide (c2 < (x0.length : Int))) = true then
    (ref09_times_2 x0 x1 c2 100000 c1 0).bind fun r14 =>
    ref09_times_1 x0 x1 f r14 (wr .i64 (c2 + 1))
    else
    some c1
def ref09_times (x0 : (List (List Int))) (x1 : Int) : Option (Int) :=
  (ref09_times_1 x0 x1 100000 0 0).bind fun r16 =>
  some r16
end Go.Proofs.YthofgamegondnaaDoor

namespace Go.Proofs.YthofgamegondnaaDoor
open Go.RowKit
/- trestle/trestleref09.CheckEvening -/
def ref09_CheckEvening_1 (x0 : Int) (x1 : (List Int)) (x2 : (List (List Int))) : Nat → Int → Option ((Unit) ⊕ (Int))
  | 0, _ => none
  | f + 1, c4 =>
    if (decide (c4 < (x2.length : Int))) = true then
    (idx x2 c4).bind fun v6 =>
    (if ((v6.length : Int) == 0) = true then some true else if (decide ((x1.length : Int) > 0)) = true then (idx x1 c4).bind fun v7 =>
    (idx x2 c4).bind fun v8 =>
    some (v7 != (v8.length : Int)) else some false).bind fun j10 =>
    if j10 = true then
    some (.inr 2)
    else
    ref09_CheckEvening_1 x0 x1 x2 f (wr .i64 (c4 + 1))
    else
    some (.inl ())
def ref09_CheckEvening_3 (x0 : Int) (x2 : (List (List Int))) (c17 : Int) : Nat → Int → Option ((Unit) ⊕ (Int))
  | 0, _ => none
  | f + 1, c19 =>
    (idx x2 c17).bind fun v20 =>
    if (decide (c19 < (v20.length : Int))) = true then
    (idx x2 c17).bind fun v22 =>
    (idx v22 c19).bind fun v23 =>
    (if (decide (v23 < 0)) = true then some true else (idx x2 c17).bind fun v24 =>
    (idx v24 c19).bind fun v25 =>
    some (decide (v25 ≥ x0))).bind fun j27 =>
    if j27 = true then
    some (.inr 6)
    else
    ref09_CheckEvening_3 x0 x2 c17 f (wr .i64 (c19 + 1))
    else
    some (.inl ())
def ref09_CheckEvening_2 (x0 : Int) (x2 : (List (List Int))) : Nat → Int → Option ((Unit) ⊕ (Int))
  | 0, _ => none
  | f + 1, c17 =>
    if (decide (c17 < (x2.length : Int))) = true then
    (ref09_CheckEvening_3 x0 x2 c17 100000 0).bind fun r31 =>
    match r31 with
    | (.inl w32) =>
      ref09_CheckEvening_2 x0 x2 f (wr .i64 (c17 + 1))
    | (.inr w33) =>
      some (.inr w33)
    else
    some (.inl ())
def ref09_CheckEvening_4 (x0 : Int) (x2 : (List (List Int))) : Nat → Int → Option ((Unit) ⊕ (Int))
  | 0, _ => none
  | f + 1, c37 =>
    if (decide (c37 < x0)) = true then
    (ref09_times x2 c37).bind fun v39 =>
    if (decide (v39 > 1)) = true then
    some (.inr 5)
    else
    ref09_CheckEvening_4 x0 x2 f (wr .i64 (c37 + 1))
    else
    some (.inl ())
def ref09_CheckEvening_5 (x0 : Int) (x2 : (List (List Int))) : Nat → Int → Option ((Unit) ⊕ (Int))
  | 0, _ => none
  | f + 1, c44 =>
    if (decide (c44 < x0)) = true then
    (ref09_times x2 c44).bind fun v46 =>
    if (v46 == 0) = true then
    some (.inr 2)
    else
    ref09_CheckEvening_5 x0 x2 f (wr .i64 (c44 + 1))
    else
    some (.inl ())
def ref09_CheckEvening (x0 : Int) (x1 : (List Int)) (x2 : (List (List Int))) : Option (Int) :=
  (if (decide ((x1.length : Int) > 0)) = true then some ((x1.length : Int) != (x2.length : Int)) else some false).bind fun j2 =>
  if j2 = true then
  some 2
  else
  (ref09_CheckEvening_1 x0 x1 x2 100000 0).bind fun r15 =>
  match r15 with
  | (.inl w16) =>
    (ref09_CheckEvening_2 x0 x2 100000 0).bind fun r35 =>
    match r35 with
    | (.inl w36) =>
      (ref09_CheckEvening_4 x0 x2 100000 0).bind fun r42 =>
      match r42 with
      | (.inl w43) =>
        (ref09_CheckEvening_5 x0 x2 100000 0).bind fun r49 =>
        match r49 with
        | (.inl w50) =>
          some 0
        | (.inr w51) =>
          some w51
      | (.inr w52) =>
        some w52
    | (.inr w53) =>
      some w53
  | (.inr w54) =>
    some w54
end Go.Proofs.YthofgamegondnaaDoor

namespace Go.Proofs.YthofgamegondnaaDoor
open Go.RowKit
/- trestle/trestleref09.Fit -/
def ref09_Fit_1 (x0 : Int) (x1 : (List Int)) : Nat → Int → Int → Option ((Int) ⊕ (Bool))
  | 0, _, _ => none
  | f + 1, c1, c2 =>
    if (decide (c2 < (x1.length : Int))) = true then
    (idx x1 c2).bind fun v4 =>
    (if (decide (v4 < 1)) = true then some true else (idx x1 c2).bind fun v5 =>
    if (decide (v5 > 64)) = true then some true else some (decide (c1 > 64))).bind fun j7 =>
    if j7 = true then
    some (.inr false)
    else
    (idx x1 c2).bind fun v10 =>
    ref09_Fit_1 x0 x1 f (wr .i64 (c1 + v10)) (wr .i64 (c2 + 1))
    else
    some (.inl c1)
def ref09_Fit (x0 : Int) (x1 : (List Int)) : Option (Bool) :=
  (ref09_Fit_1 x0 x1 100000 0 0).bind fun r14 =>
  match r14 with
  | (.inl w15) =>
    (if (decide (x0 ≥ 1)) = true then if (decide (x0 ≤ 64)) = true then some (w15 == x0) else some false else some false).bind fun j17 =>
    some j17
  | (.inr w20) =>
    some w20
end Go.Proofs.YthofgamegondnaaDoor

namespace Go.Proofs.YthofgamegondnaaDoor
open Go.RowKit
/- trestle/trestleref09.Check -/
def ref09_Check_1 (x0 : Int) (x1 : (List Int)) (x2 : (List (List (List Int)))) : Nat → Int → Option ((Unit) ⊕ (Int × Int))
  | 0, _ => none
  | f + 1, c6 =>
    if (decide (c6 < (x2.length : Int))) = true then
    (idx x2 c6).bind fun v8 =>
    (ref09_CheckEvening x0 x1 v8).bind fun v9 =>
    if (v9 != 0) = true then
    some (.inr (c6, v9))
    else
    ref09_Check_1 x0 x1 x2 f (wr .i64 (c6 + 1))
    else
    some (.inl ())
def ref09_Check (x0 : Int) (x1 : (List Int)) (x2 : (List (List (List Int)))) : Option (Int × Int) :=
  (if (decide (x0 < 1)) = true then some true else if (decide (x0 > 64)) = true then some true else if (decide ((x1.length : Int) > 0)) = true then (ref09_Fit x0 x1).bind fun v1 =>
  some (!v1) else some false).bind fun j3 =>
  if j3 = true then
  some (0, 90)
  else
  if (decide ((x2.length : Int) > 64)) = true then
  some (0, 7)
  else
  (ref09_Check_1 x0 x1 x2 100000 0).bind fun r13 =>
  match r13 with
  | (.inl w14) =>
    some (0, 0)
  | (.inr w15) =>
    some (w15.1, w15.2)
end Go.Proofs.YthofgamegondnaaDoor

namespace Go.Proofs.YthofgamegondnaaDoor
open Go.RowKit
/- trestle/trestleref09.met -/
end Go.Proofs.YthofgamegondnaaDoor

namespace Go.Proofs.YthofgamegondnaaDoor
open Go.RowKit
/- trestle/trestleref09.LeastMost -/
end Go.Proofs.YthofgamegondnaaDoor

namespace Go.Proofs.YthofgamegondnaaDoor
open Go.RowKit
/- trestle/trestleref09.MostEvenings -/
end Go.Proofs.YthofgamegondnaaDoor

namespace Go.Proofs.YthofgamegondnaaDoor
open Go.RowKit
/- slices.Equal[[]int,int] -/
end Go.Proofs.YthofgamegondnaaDoor

namespace Go.Proofs.YthofgamegondnaaDoor
open Go.RowKit
/- trestle/trestlelaw09.EveningBounds -/
end Go.Proofs.YthofgamegondnaaDoor
