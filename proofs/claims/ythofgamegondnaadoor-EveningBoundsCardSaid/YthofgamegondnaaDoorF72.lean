/- A function of plain data that the program's function 72 computes. By a program of mine. -/
import Derived.Test.YthofgamegondnaaDoorCx
namespace Go.Proofs.YthofgamegondnaaDoor
open Go.RowKit
/- trestle/evening.met -/
noncomputable def e_evening_met : Env := E0
theorem e_evening_met_ok : EnvOk e_evening_met := E0_ok
def evening_met_1 (x0 : (List Int)) : Nat → Int → Int → Option ((Int))
  | 0, _, _ => none
  | f + 1, c1, c2 =>
    if (decide (c2 < (x0.length : Int))) = true then
    (idx x0 c2).bind fun v4 =>
    evening_met_1 x0 f (wr .i64 (c1 + (wr .i64 ((wr .i64 (v4 * (wr .i64 (v4 - 1)))).tdiv 2)))) (wr .i64 (c2 + 1))
    else
    some c1
def evening_met (x0 : (List Int)) : Option (Int) :=
  (evening_met_1 x0 100000 0 0).bind fun r6 =>
  some r6
def cs_evening_met : Cs ((List Int) × Unit) := (csC (cdL 1 cdI) csN)
def er_evening_met (r : Int) : AV := cdI.enc r
noncomputable def cb_evening_met : Code := codeOf Tryd.f72
set_option maxRecDepth 100000 in
theorem evening_met_1_ok (x0 : (List Int)) : ∀ (f : Nat) (c1 : Int) (c2 : Int) (r : (Int)), evening_met_1 x0 f c1 c2 = some r → SemN e_evening_met ⟨none, false⟩ (pc cb_evening_met [1, 1, 0, 1, 0, 0]) f ⟨Fr 21 [(3, .v (.int .i64 c1)), (6, .sl 1 (x0.map cdI.enc)), (7, .v (.int .i64 (x0.length : Int))), (8, .v (.int .i64 c2))], []⟩ (fun e s => e = (.exit 0) ∧ Wk e_evening_met s ⟨Fr 21 [(3, .v (.int .i64 r))], []⟩) := by
  intro f
  induction f with
  | zero => intro c1 c2 r h; cases h
  | succ f ih0 =>
    intro c1 c2 r h
    have ih := fun (c1 : Int) (c2 : Int) => ih0 c1 c2 r
    unfold evening_met_1 at h
    refine SemN.succ ?_
    refine Sem.seq ?_
    refine Sem.runS (s1 := ⟨Fr 21 [(3, .v (.int .i64 c1)), (6, .sl 1 (x0.map cdI.enc)), (7, .v (.int .i64 (x0.length : Int))), (8, .v (.int .i64 c2)), (9, .v (.bool (decide (c2 < (x0.length : Int)))))], []⟩) ?_ ?_
    · refine RunS.seg e_evening_met_ok 1 (s1 := ⟨Fr 21 [(3, .v (.int .i64 c1)), (6, .sl 1 (x0.map cdI.enc)), (7, .v (.int .i64 (x0.length : Int))), (8, .v (.int .i64 c2)), (9, .v (.bool (decide (c2 < (x0.length : Int)))))], []⟩) (by kernel_rfl) ?_
      exact RunS.done rfl (Wk.fr (by kernel_rfl))
    refine Sem.seq ?_
    refine Sem.cond (b := (decide (c2 < (x0.length : Int)))) (by kernel_rfl) (fun hb3 => ?_) (fun hb3 => ?_)
    · rw [if_pos hb3] at h
      refine Sem.skip ?_
      refine Sem.seq ?_
      refine Sem.block ?_
      refine Sem.seq ?_
      obtain ⟨v4, hv4, h⟩ := Option.bind_eq_some_iff.1 h
      refine Sem.runS (s1 := ⟨Fr 21 [(3, .v (.int .i64 c1)), (5, .v (.int .i64 v4)), (6, .sl 1 (x0.map cdI.enc)), (7, .v (.int .i64 (x0.length : Int))), (8, .v (.int .i64 c2))], []⟩) ?_ ?_
      · refine RunS.one e_evening_met_ok 0 rfl (op_q (wantedA_none rfl) rfl (q_indexAddr (a := .sl 1 (x0.map cdI.enc)) (b := .v (.int .i64 c2)) (by kernel_rfl) (by kernel_rfl) (ix_sl (e := cdI.enc) (el := 3) (k := 1) (ki := .i64) (by kernel_rfl) (by kernel_rfl) hv4))) ?_
        refine RunS.seg e_evening_met_ok 2 (s1 := ⟨Fr 21 [(3, .v (.int .i64 c1)), (5, .v (.int .i64 v4)), (6, .sl 1 (x0.map cdI.enc)), (7, .v (.int .i64 (x0.length : Int))), (8, .v (.int .i64 c2)), (9, .v (.bool (decide (c2 < (x0.length : Int))))), (10, .pe (.v (.int .i64 v4)) 0), (11, .v (.int .i64 v4))], []⟩) (by kernel_rfl) ?_
        exact RunS.done rfl (Wk.fr (by kernel_rfl))
      refine Sem.runS (s1 := ⟨Fr 21 [(3, .v (.int .i64 (wr .i64 (c1 + (wr .i64 ((wr .i64 (v4 * (wr .i64 (v4 - 1)))).tdiv 2)))))), (6, .sl 1 (x0.map cdI.enc)), (7, .v (.int .i64 (x0.length : Int))), (8, .v (.int .i64 c2))], []⟩) ?_ ?_
      · refine RunS.seg e_evening_met_ok 8 (s1 := ⟨Fr 21 [(3, .v (.int .i64 (wr .i64 (c1 + (wr .i64 ((wr .i64 (v4 * (wr .i64 (v4 - 1)))).tdiv 2)))))), (5, .v (.int .i64 v4)), (6, .sl 1 (x0.map cdI.enc)), (7, .v (.int .i64 (x0.length : Int))), (8, .v (.int .i64 c2)), (12, .v (.int .i64 c1)), (13, .v (.int .i64 v4)), (14, .v (.int .i64 v4)), (15, .v (.int .i64 (wr .i64 (v4 - 1)))), (16, .v (.int .i64 (wr .i64 (v4 * (wr .i64 (v4 - 1)))))), (17, .v (.int .i64 (wr .i64 ((wr .i64 (v4 * (wr .i64 (v4 - 1)))).tdiv 2)))), (18, .v (.int .i64 (wr .i64 (c1 + (wr .i64 ((wr .i64 (v4 * (wr .i64 (v4 - 1)))).tdiv 2))))))], []⟩) (by kernel_rfl) ?_
        exact RunS.done rfl (Wk.fr (by kernel_rfl))
      refine Sem.runS (s1 := ⟨Fr 21 [(3, .v (.int .i64 (wr .i64 (c1 + (wr .i64 ((wr .i64 (v4 * (wr .i64 (v4 - 1)))).tdiv 2)))))), (6, .sl 1 (x0.map cdI.enc)), (7, .v (.int .i64 (x0.length : Int))), (8, .v (.int .i64 (wr .i64 (c2 + 1))))], []⟩) ?_ ?_
      · refine RunS.seg e_evening_met_ok 2 (s1 := ⟨Fr 21 [(3, .v (.int .i64 (wr .i64 (c1 + (wr .i64 ((wr .i64 (v4 * (wr .i64 (v4 - 1)))).tdiv 2)))))), (6, .sl 1 (x0.map cdI.enc)), (7, .v (.int .i64 (x0.length : Int))), (8, .v (.int .i64 (wr .i64 (c2 + 1)))), (19, .v (.int .i64 (wr .i64 (c2 + 1))))], []⟩) (by kernel_rfl) ?_
        exact RunS.done rfl (Wk.fr (by kernel_rfl))
      exact SemN.wk (s1 := ⟨Fr 21 [(3, .v (.int .i64 (wr .i64 (c1 + (wr .i64 ((wr .i64 (v4 * (wr .i64 (v4 - 1)))).tdiv 2)))))), (6, .sl 1 (x0.map cdI.enc)), (7, .v (.int .i64 (x0.length : Int))), (8, .v (.int .i64 (wr .i64 (c2 + 1))))], []⟩) (Wk.fr (by kernel_rfl)) (ih (wr .i64 (c1 + (wr .i64 ((wr .i64 (v4 * (wr .i64 (v4 - 1)))).tdiv 2)))) (wr .i64 (c2 + 1)) h)
    · rw [if_f hb3] at h
      refine Sem.exit ?_
      have hq := Option.some.inj h; subst hq
      exact ⟨rfl, (Wk.fr (by kernel_rfl))⟩
set_option maxRecDepth 100000 in
theorem evening_met_sem (x0 : (List Int)) (r : Int) (h : evening_met x0 = some r) : Sem e_evening_met ⟨none, false⟩ cb_evening_met ⟨Fr 21 (pairs0 0 (cs_evening_met.enc (x0, ()))), []⟩ fun e s' => (e = .normal ∨ e = .ret) ∧ ∃ xs, resA e_evening_met.P s'.fr s'.hp Tryd.f72.results.toList = some xs ∧ retA xs = er_evening_met r := by
  unfold evening_met at h
  refine Sem.wkQ (Sem.wk (s1 := ⟨Fr 21 [(0, .sl 1 (x0.map cdI.enc))], []⟩) (Wk.fr (by kernel_rfl)) ?_)
  refine Sem.seq ?_
  refine Sem.runS (s1 := ⟨Fr 21 [(0, .sl 1 (x0.map cdI.enc))], []⟩) ?_ ?_
  · refine RunS.seg e_evening_met_ok 1 (s1 := ⟨Fr 21 [(0, .sl 1 (x0.map cdI.enc)), (2, .v (.int .i64 0))], []⟩) (by kernel_rfl) ?_
    exact RunS.done rfl (Wk.fr (by kernel_rfl))
  refine Sem.seq ?_
  refine Sem.runS (s1 := ⟨Fr 21 [(0, .sl 1 (x0.map cdI.enc)), (3, .v (.int .i64 0))], []⟩) ?_ ?_
  · refine RunS.seg e_evening_met_ok 1 (s1 := ⟨Fr 21 [(0, .sl 1 (x0.map cdI.enc)), (3, .v (.int .i64 0))], []⟩) (by kernel_rfl) ?_
    exact RunS.done rfl (Wk.fr (by kernel_rfl))
  refine Sem.seq ?_
  refine Sem.seq ?_
  refine Sem.runS (s1 := ⟨Fr 21 [(3, .v (.int .i64 0)), (6, .sl 1 (x0.map cdI.enc)), (7, .v (.int .i64 (x0.length : Int))), (8, .v (.int .i64 0))], []⟩) ?_ ?_
  · refine RunS.seg e_evening_met_ok 1 (s1 := ⟨Fr 21 [(0, .sl 1 (x0.map cdI.enc)), (3, .v (.int .i64 0)), (6, .sl 1 (x0.map cdI.enc))], []⟩) (by kernel_rfl) ?_
    refine RunS.one e_evening_met_ok 0 rfl (op_q (wantedA_none rfl) rfl (q_len (a := .sl 1 (x0.map cdI.enc)) (by kernel_rfl) (len_sl (el := 3) (by kernel_rfl)))) ?_
    refine RunS.seg e_evening_met_ok 1 (s1 := ⟨Fr 21 [(0, .sl 1 (x0.map cdI.enc)), (3, .v (.int .i64 0)), (6, .sl 1 (x0.map cdI.enc)), (7, .v (.int .i64 (x0.length : Int))), (8, .v (.int .i64 0))], []⟩) (by kernel_rfl) ?_
    exact RunS.done rfl (Wk.fr (by kernel_rfl))
  refine Sem.block ?_
  obtain ⟨r6, hr6, h⟩ := Option.bind_eq_some_iff.1 h
  refine Sem.loop (n := 100000) ?_
  refine Sem.cutN (SemN.wk (s1 := ⟨Fr 21 [(3, .v (.int .i64 0)), (6, .sl 1 (x0.map cdI.enc)), (7, .v (.int .i64 (x0.length : Int))), (8, .v (.int .i64 0))], []⟩) (Wk.fr (by kernel_rfl)) (evening_met_1_ok x0 _ 0 0 _ hr6)) ?_
  refine Sem.seq ?_
  refine Sem.runS (s1 := ⟨Fr 21 [(2, .v (.int .i64 r6))], []⟩) ?_ ?_
  · refine RunS.seg e_evening_met_ok 2 (s1 := ⟨Fr 21 [(2, .v (.int .i64 r6)), (3, .v (.int .i64 r6)), (20, .v (.int .i64 r6))], []⟩) (by kernel_rfl) ?_
    exact RunS.done rfl (Wk.fr (by kernel_rfl))
  refine Sem.ret ?_
  have hq := Option.some.inj h; subst hq
  exact ⟨⟨Fr 21 [(2, .v (.int .i64 r6))], []⟩, (Wk.fr (by kernel_rfl)), .inr rfl, [.v (.int .i64 r6)], (by kernel_rfl), (by kernel_rfl)⟩
def t_evening_met : List AV → Option AV := told cs_evening_met (fun a => evening_met a.1) er_evening_met
theorem x_evening_met : XOk 72 t_evening_met := by
  refine EnvOk.x (E := e_evening_met) (contract_ok e_evening_met_ok (fn := Tryd.f72) (c := cb_evening_met) ?h1 ?h2 ⟨Tryd.call72⟩ cs_evening_met (fun a => evening_met a.1) er_evening_met (fun a => (by show 1 ≤ 21; decide)) ?h3 ?h4) rfl rfl
  case h1 => kernel_rfl
  case h2 => kernel_rfl
  case h3 => intro b; kernel_rfl
  case h4 => exact fun a b h => evening_met_sem a.1 b h
end Go.Proofs.YthofgamegondnaaDoor
