/- A function of plain data that the program's function 73 computes. By a program of mine. -/
import Derived.Test.YthofgamegondnaaDoorCx
namespace Go.Proofs.YthofgamegondnaaDoor
open Go.RowKit
/- trestle/trestleref09.met -/
noncomputable def e_ref09_met : Env := E0
theorem e_ref09_met_ok : EnvOk e_ref09_met := E0_ok
def ref09_met_2 (x0 : (List Int)) (c2 : Int) : Nat → Int → Int → Option ((Int))
  | 0, _, _ => none
  | f + 1, c4, c5 =>
    (idx x0 c2).bind fun v6 =>
    if (decide (c5 < v6)) = true then
    ref09_met_2 x0 c2 f (wr .i64 (c4 + c5)) (wr .i64 (c5 + 1))
    else
    some c4
def ref09_met_1 (x0 : (List Int)) : Nat → Int → Int → Option ((Int))
  | 0, _, _ => none
  | f + 1, c1, c2 =>
    if (decide (c2 < (x0.length : Int))) = true then
    (ref09_met_2 x0 c2 100000 c1 1).bind fun r9 =>
    ref09_met_1 x0 f r9 (wr .i64 (c2 + 1))
    else
    some c1
def ref09_met (x0 : (List Int)) : Option (Int) :=
  (ref09_met_1 x0 100000 0 0).bind fun r11 =>
  some r11
def cs_ref09_met : Cs ((List Int) × Unit) := (csC (cdL 1 cdI) csN)
def er_ref09_met (r : Int) : AV := cdI.enc r
noncomputable def cb_ref09_met : Code := codeOf Tryd.f73
set_option maxRecDepth 100000 in
theorem ref09_met_2_ok (x0 : (List Int)) (c2 : Int) : ∀ (f : Nat) (c4 : Int) (c5 : Int) (r : (Int)), ref09_met_2 x0 c2 f c4 c5 = some r → SemN e_ref09_met ⟨none, false⟩ (pc cb_ref09_met [1, 1, 0, 1, 0, 0, 1, 0, 0, 1, 0, 0]) f ⟨Fr 24 [(0, .sl 1 (x0.map cdI.enc)), (3, .v (.int .i64 c4)), (4, .v (.int .i64 c2)), (5, .v (.int .i64 c5))], []⟩ (fun e s => e = (.exit 2) ∧ Wk e_ref09_met s ⟨Fr 24 [(0, .sl 1 (x0.map cdI.enc)), (3, .v (.int .i64 r)), (4, .v (.int .i64 c2))], []⟩) := by
  intro f
  induction f with
  | zero => intro c4 c5 r h; cases h
  | succ f ih0 =>
    intro c4 c5 r h
    have ih := fun (c4 : Int) (c5 : Int) => ih0 c4 c5 r
    unfold ref09_met_2 at h
    refine SemN.succ ?_
    refine Sem.seq ?_
    refine Sem.seq ?_
    obtain ⟨v6, hv6, h⟩ := Option.bind_eq_some_iff.1 h
    refine Sem.runS (s1 := ⟨Fr 24 [(0, .sl 1 (x0.map cdI.enc)), (3, .v (.int .i64 c4)), (4, .v (.int .i64 c2)), (5, .v (.int .i64 c5)), (17, .v (.bool (decide (c5 < v6))))], []⟩) ?_ ?_
    · refine RunS.seg e_ref09_met_ok 3 (s1 := ⟨Fr 24 [(0, .sl 1 (x0.map cdI.enc)), (3, .v (.int .i64 c4)), (4, .v (.int .i64 c2)), (5, .v (.int .i64 c5)), (12, .v (.int .i64 c5)), (13, .sl 1 (x0.map cdI.enc)), (14, .v (.int .i64 c2))], []⟩) (by kernel_rfl) ?_
      refine RunS.one e_ref09_met_ok 0 rfl (op_q (wantedA_none rfl) rfl (q_indexAddr (a := .sl 1 (x0.map cdI.enc)) (b := .v (.int .i64 c2)) (by kernel_rfl) (by kernel_rfl) (ix_sl (e := cdI.enc) (el := 3) (k := 1) (ki := .i64) (by kernel_rfl) (by kernel_rfl) hv6))) ?_
      refine RunS.seg e_ref09_met_ok 2 (s1 := ⟨Fr 24 [(0, .sl 1 (x0.map cdI.enc)), (3, .v (.int .i64 c4)), (4, .v (.int .i64 c2)), (5, .v (.int .i64 c5)), (12, .v (.int .i64 c5)), (13, .sl 1 (x0.map cdI.enc)), (14, .v (.int .i64 c2)), (15, .pe (.v (.int .i64 v6)) 0), (16, .v (.int .i64 v6)), (17, .v (.bool (decide (c5 < v6))))], []⟩) (by kernel_rfl) ?_
      exact RunS.done rfl (Wk.fr (by kernel_rfl))
    refine Sem.cond (b := (decide (c5 < v6))) (by kernel_rfl) (fun hb7 => ?_) (fun hb7 => ?_)
    · rw [if_pos hb7] at h
      refine Sem.skip ?_
      refine Sem.seq ?_
      refine Sem.block ?_
      refine Sem.runS (s1 := ⟨Fr 24 [(0, .sl 1 (x0.map cdI.enc)), (3, .v (.int .i64 (wr .i64 (c4 + c5)))), (4, .v (.int .i64 c2)), (5, .v (.int .i64 c5))], []⟩) ?_ ?_
      · refine RunS.seg e_ref09_met_ok 4 (s1 := ⟨Fr 24 [(0, .sl 1 (x0.map cdI.enc)), (3, .v (.int .i64 (wr .i64 (c4 + c5)))), (4, .v (.int .i64 c2)), (5, .v (.int .i64 c5)), (17, .v (.bool (decide (c5 < v6)))), (20, .v (.int .i64 c4)), (21, .v (.int .i64 c5)), (22, .v (.int .i64 (wr .i64 (c4 + c5))))], []⟩) (by kernel_rfl) ?_
        exact RunS.done rfl (Wk.fr (by kernel_rfl))
      refine Sem.runS (s1 := ⟨Fr 24 [(0, .sl 1 (x0.map cdI.enc)), (3, .v (.int .i64 (wr .i64 (c4 + c5)))), (4, .v (.int .i64 c2)), (5, .v (.int .i64 (wr .i64 (c5 + 1))))], []⟩) ?_ ?_
      · refine RunS.seg e_ref09_met_ok 3 (s1 := ⟨Fr 24 [(0, .sl 1 (x0.map cdI.enc)), (3, .v (.int .i64 (wr .i64 (c4 + c5)))), (4, .v (.int .i64 c2)), (5, .v (.int .i64 (wr .i64 (c5 + 1)))), (18, .v (.int .i64 c5)), (19, .v (.int .i64 (wr .i64 (c5 + 1))))], []⟩) (by kernel_rfl) ?_
        exact RunS.done rfl (Wk.fr (by kernel_rfl))
      exact SemN.wk (s1 := ⟨Fr 24 [(0, .sl 1 (x0.map cdI.enc)), (3, .v (.int .i64 (wr .i64 (c4 + c5)))), (4, .v (.int .i64 c2)), (5, .v (.int .i64 (wr .i64 (c5 + 1))))], []⟩) (Wk.fr (by kernel_rfl)) (ih (wr .i64 (c4 + c5)) (wr .i64 (c5 + 1)) h)
    · rw [if_f hb7] at h
      refine Sem.exit ?_
      have hq := Option.some.inj h; subst hq
      exact ⟨rfl, (Wk.fr (by kernel_rfl))⟩
set_option maxRecDepth 100000 in
theorem ref09_met_1_ok (x0 : (List Int)) : ∀ (f : Nat) (c1 : Int) (c2 : Int) (r : (Int)), ref09_met_1 x0 f c1 c2 = some r → SemN e_ref09_met ⟨none, false⟩ (pc cb_ref09_met [1, 1, 0, 1, 0, 0]) f ⟨Fr 24 [(0, .sl 1 (x0.map cdI.enc)), (3, .v (.int .i64 c1)), (4, .v (.int .i64 c2))], []⟩ (fun e s => e = (.exit 0) ∧ Wk e_ref09_met s ⟨Fr 24 [(3, .v (.int .i64 r))], []⟩) := by
  intro f
  induction f with
  | zero => intro c1 c2 r h; cases h
  | succ f ih0 =>
    intro c1 c2 r h
    have ih := fun (c1 : Int) (c2 : Int) => ih0 c1 c2 r
    unfold ref09_met_1 at h
    refine SemN.succ ?_
    refine Sem.seq ?_
    refine Sem.seq ?_
    refine Sem.runS (s1 := ⟨Fr 24 [(0, .sl 1 (x0.map cdI.enc)), (3, .v (.int .i64 c1)), (4, .v (.int .i64 c2)), (9, .v (.bool (decide (c2 < (x0.length : Int)))))], []⟩) ?_ ?_
    · refine RunS.seg e_ref09_met_ok 2 (s1 := ⟨Fr 24 [(0, .sl 1 (x0.map cdI.enc)), (3, .v (.int .i64 c1)), (4, .v (.int .i64 c2)), (6, .v (.int .i64 c2)), (7, .sl 1 (x0.map cdI.enc))], []⟩) (by kernel_rfl) ?_
      refine RunS.one e_ref09_met_ok 0 rfl (op_q (wantedA_none rfl) rfl (q_len (a := .sl 1 (x0.map cdI.enc)) (by kernel_rfl) (len_sl (el := 3) (by kernel_rfl)))) ?_
      refine RunS.seg e_ref09_met_ok 1 (s1 := ⟨Fr 24 [(0, .sl 1 (x0.map cdI.enc)), (3, .v (.int .i64 c1)), (4, .v (.int .i64 c2)), (6, .v (.int .i64 c2)), (7, .sl 1 (x0.map cdI.enc)), (8, .v (.int .i64 (x0.length : Int))), (9, .v (.bool (decide (c2 < (x0.length : Int)))))], []⟩) (by kernel_rfl) ?_
      exact RunS.done rfl (Wk.fr (by kernel_rfl))
    refine Sem.cond (b := (decide (c2 < (x0.length : Int)))) (by kernel_rfl) (fun hb3 => ?_) (fun hb3 => ?_)
    · rw [if_pos hb3] at h
      refine Sem.skip ?_
      refine Sem.seq ?_
      refine Sem.block ?_
      refine Sem.seq ?_
      refine Sem.runS (s1 := ⟨Fr 24 [(0, .sl 1 (x0.map cdI.enc)), (3, .v (.int .i64 c1)), (4, .v (.int .i64 c2)), (5, .v (.int .i64 1))], []⟩) ?_ ?_
      · refine RunS.seg e_ref09_met_ok 1 (s1 := ⟨Fr 24 [(0, .sl 1 (x0.map cdI.enc)), (3, .v (.int .i64 c1)), (4, .v (.int .i64 c2)), (5, .v (.int .i64 1)), (9, .v (.bool (decide (c2 < (x0.length : Int)))))], []⟩) (by kernel_rfl) ?_
        exact RunS.done rfl (Wk.fr (by kernel_rfl))
      refine Sem.block ?_
      obtain ⟨r9, hr9, h⟩ := Option.bind_eq_some_iff.1 h
      refine Sem.loop (n := 100000) ?_
      refine Sem.cutN (SemN.wk (s1 := ⟨Fr 24 [(0, .sl 1 (x0.map cdI.enc)), (3, .v (.int .i64 c1)), (4, .v (.int .i64 c2)), (5, .v (.int .i64 1))], []⟩) (Wk.fr (by kernel_rfl)) (ref09_met_2_ok x0 c2 _ c1 1 _ hr9)) ?_
      refine Sem.runS (s1 := ⟨Fr 24 [(0, .sl 1 (x0.map cdI.enc)), (3, .v (.int .i64 r9)), (4, .v (.int .i64 (wr .i64 (c2 + 1))))], []⟩) ?_ ?_
      · refine RunS.seg e_ref09_met_ok 3 (s1 := ⟨Fr 24 [(0, .sl 1 (x0.map cdI.enc)), (3, .v (.int .i64 r9)), (4, .v (.int .i64 (wr .i64 (c2 + 1)))), (10, .v (.int .i64 c2)), (11, .v (.int .i64 (wr .i64 (c2 + 1))))], []⟩) (by kernel_rfl) ?_
        exact RunS.done rfl (Wk.fr (by kernel_rfl))
      exact SemN.wk (s1 := ⟨Fr 24 [(0, .sl 1 (x0.map cdI.enc)), (3, .v (.int .i64 r9)), (4, .v (.int .i64 (wr .i64 (c2 + 1))))], []⟩) (Wk.fr (by kernel_rfl)) (ih r9 (wr .i64 (c2 + 1)) h)
    · rw [if_f hb3] at h
      refine Sem.exit ?_
      have hq := Option.some.inj h; subst hq
      exact ⟨rfl, (Wk.fr (by kernel_rfl))⟩
set_option maxRecDepth 100000 in
theorem ref09_met_sem (x0 : (List Int)) (r : Int) (h : ref09_met x0 = some r) : Sem e_ref09_met ⟨none, false⟩ cb_ref09_met ⟨Fr 24 (pairs0 0 (cs_ref09_met.enc (x0, ()))), []⟩ fun e s' => (e = .normal ∨ e = .ret) ∧ ∃ xs, resA e_ref09_met.P s'.fr s'.hp Tryd.f73.results.toList = some xs ∧ retA xs = er_ref09_met r := by
  unfold ref09_met at h
  refine Sem.wkQ (Sem.wk (s1 := ⟨Fr 24 [(0, .sl 1 (x0.map cdI.enc))], []⟩) (Wk.fr (by kernel_rfl)) ?_)
  refine Sem.seq ?_
  refine Sem.runS (s1 := ⟨Fr 24 [(0, .sl 1 (x0.map cdI.enc))], []⟩) ?_ ?_
  · refine RunS.seg e_ref09_met_ok 1 (s1 := ⟨Fr 24 [(0, .sl 1 (x0.map cdI.enc)), (2, .v (.int .i64 0))], []⟩) (by kernel_rfl) ?_
    exact RunS.done rfl (Wk.fr (by kernel_rfl))
  refine Sem.seq ?_
  refine Sem.runS (s1 := ⟨Fr 24 [(0, .sl 1 (x0.map cdI.enc)), (3, .v (.int .i64 0))], []⟩) ?_ ?_
  · refine RunS.seg e_ref09_met_ok 1 (s1 := ⟨Fr 24 [(0, .sl 1 (x0.map cdI.enc)), (3, .v (.int .i64 0))], []⟩) (by kernel_rfl) ?_
    exact RunS.done rfl (Wk.fr (by kernel_rfl))
  refine Sem.seq ?_
  refine Sem.seq ?_
  refine Sem.runS (s1 := ⟨Fr 24 [(0, .sl 1 (x0.map cdI.enc)), (3, .v (.int .i64 0)), (4, .v (.int .i64 0))], []⟩) ?_ ?_
  · refine RunS.seg e_ref09_met_ok 1 (s1 := ⟨Fr 24 [(0, .sl 1 (x0.map cdI.enc)), (3, .v (.int .i64 0)), (4, .v (.int .i64 0))], []⟩) (by kernel_rfl) ?_
    exact RunS.done rfl (Wk.fr (by kernel_rfl))
  refine Sem.block ?_
  obtain ⟨r11, hr11, h⟩ := Option.bind_eq_some_iff.1 h
  refine Sem.loop (n := 100000) ?_
  refine Sem.cutN (SemN.wk (s1 := ⟨Fr 24 [(0, .sl 1 (x0.map cdI.enc)), (3, .v (.int .i64 0)), (4, .v (.int .i64 0))], []⟩) (Wk.fr (by kernel_rfl)) (ref09_met_1_ok x0 _ 0 0 _ hr11)) ?_
  refine Sem.seq ?_
  refine Sem.runS (s1 := ⟨Fr 24 [(2, .v (.int .i64 r11))], []⟩) ?_ ?_
  · refine RunS.seg e_ref09_met_ok 2 (s1 := ⟨Fr 24 [(2, .v (.int .i64 r11)), (3, .v (.int .i64 r11)), (23, .v (.int .i64 r11))], []⟩) (by kernel_rfl) ?_
    exact RunS.done rfl (Wk.fr (by kernel_rfl))
  refine Sem.ret ?_
  have hq := Option.some.inj h; subst hq
  exact ⟨⟨Fr 24 [(2, .v (.int .i64 r11))], []⟩, (Wk.fr (by kernel_rfl)), .inr rfl, [.v (.int .i64 r11)], (by kernel_rfl), (by kernel_rfl)⟩
def t_ref09_met : List AV → Option AV := told cs_ref09_met (fun a => ref09_met a.1) er_ref09_met
theorem x_ref09_met : XOk 73 t_ref09_met := by
  refine EnvOk.x (E := e_ref09_met) (contract_ok e_ref09_met_ok (fn := Tryd.f73) (c := cb_ref09_met) ?h1 ?h2 ⟨Tryd.call73⟩ cs_ref09_met (fun a => ref09_met a.1) er_ref09_met (fun a => (by show 1 ≤ 24; decide)) ?h3 ?h4) rfl rfl
  case h1 => kernel_rfl
  case h2 => kernel_rfl
  case h3 => intro b; kernel_rfl
  case h4 => exact fun a b h => ref09_met_sem a.1 b h
end Go.Proofs.YthofgamegondnaaDoor
