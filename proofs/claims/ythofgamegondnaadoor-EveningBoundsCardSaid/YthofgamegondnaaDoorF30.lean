/- A function of plain data that the program's function 30 computes. By a program of mine. -/
import Derived.Test.YthofgamegondnaaDoorCx
namespace Go.Proofs.YthofgamegondnaaDoor
open Go.RowKit
/- slices.Equal[[]int,int] -/
noncomputable def e_slices_Equal_L_int : Env := E0
theorem e_slices_Equal_L_int_ok : EnvOk e_slices_Equal_L_int := E0_ok
def slices_Equal_L_int_1 (x0 : (List Int)) (x1 : (List Int)) : Nat → Int → Option ((Unit) ⊕ (Bool))
  | 0, _ => none
  | f + 1, c2 =>
    if (decide (c2 < (x0.length : Int))) = true then
    (idx x0 c2).bind fun v4 =>
    (idx x1 c2).bind fun v5 =>
    if (v4 != v5) = true then
    some (.inr false)
    else
    slices_Equal_L_int_1 x0 x1 f (wr .i64 (c2 + 1))
    else
    some (.inl ())
def slices_Equal_L_int (x0 : (List Int)) (x1 : (List Int)) : Option (Bool) :=
  if ((x0.length : Int) != (x1.length : Int)) = true then
  some false
  else
  (slices_Equal_L_int_1 x0 x1 100000 0).bind fun r8 =>
  match r8 with
  | (.inl w9) =>
    some true
  | (.inr w10) =>
    some w10
def cs_slices_Equal_L_int : Cs ((List Int) × (List Int) × Unit) := (csC (cdL 1 cdI) (csC (cdL 1 cdI) csN))
def er_slices_Equal_L_int (r : Bool) : AV := cdB.enc r
noncomputable def cb_slices_Equal_L_int : Code := codeOf Tryd.f30
set_option maxRecDepth 100000 in
theorem slices_Equal_L_int_1_ok (x0 : (List Int)) (x1 : (List Int)) : ∀ (f : Nat) (c2 : Int) (r : (Unit) ⊕ (Bool)), slices_Equal_L_int_1 x0 x1 f c2 = some r → SemN e_slices_Equal_L_int ⟨none, false⟩ (pc cb_slices_Equal_L_int [1, 1, 0, 1, 0, 0]) f ⟨Fr 26 [(0, .sl 1 (x0.map cdI.enc)), (1, .sl 1 (x1.map cdI.enc)), (12, .v (.int .i64 (x0.length : Int))), (13, .v (.int .i64 c2))], []⟩ (fun e s => match r with
  | (.inl w) => e = (.exit 0) ∧ Wk e_slices_Equal_L_int s ⟨Fr 26 [], []⟩
  | (.inr w) => e = .ret ∧ Wk e_slices_Equal_L_int s ⟨Fr 26 [(4, .v (.bool w))], []⟩) := by
  intro f
  induction f with
  | zero => intro c2 r h; cases h
  | succ f ih0 =>
    intro c2 r h
    have ih := fun (c2 : Int) => ih0 c2 r
    unfold slices_Equal_L_int_1 at h
    refine SemN.succ ?_
    refine Sem.seq ?_
    refine Sem.runS (s1 := ⟨Fr 26 [(0, .sl 1 (x0.map cdI.enc)), (1, .sl 1 (x1.map cdI.enc)), (12, .v (.int .i64 (x0.length : Int))), (13, .v (.int .i64 c2)), (14, .v (.bool (decide (c2 < (x0.length : Int)))))], []⟩) ?_ ?_
    · refine RunS.seg e_slices_Equal_L_int_ok 1 (s1 := ⟨Fr 26 [(0, .sl 1 (x0.map cdI.enc)), (1, .sl 1 (x1.map cdI.enc)), (12, .v (.int .i64 (x0.length : Int))), (13, .v (.int .i64 c2)), (14, .v (.bool (decide (c2 < (x0.length : Int)))))], []⟩) (by kernel_rfl) ?_
      exact RunS.done rfl (Wk.fr (by kernel_rfl))
    refine Sem.seq ?_
    refine Sem.cond (b := (decide (c2 < (x0.length : Int)))) (by kernel_rfl) (fun hb3 => ?_) (fun hb3 => ?_)
    · rw [if_pos hb3] at h
      refine Sem.skip ?_
      refine Sem.seq ?_
      refine Sem.block ?_
      refine Sem.seq ?_
      refine Sem.runS (s1 := ⟨Fr 26 [(0, .sl 1 (x0.map cdI.enc)), (1, .sl 1 (x1.map cdI.enc)), (5, .v (.int .i64 c2)), (12, .v (.int .i64 (x0.length : Int))), (13, .v (.int .i64 c2))], []⟩) ?_ ?_
      · refine RunS.seg e_slices_Equal_L_int_ok 2 (s1 := ⟨Fr 26 [(0, .sl 1 (x0.map cdI.enc)), (1, .sl 1 (x1.map cdI.enc)), (5, .v (.int .i64 c2)), (12, .v (.int .i64 (x0.length : Int))), (13, .v (.int .i64 c2)), (14, .v (.bool (decide (c2 < (x0.length : Int))))), (15, .v (.int .i64 c2))], []⟩) (by kernel_rfl) ?_
        exact RunS.done rfl (Wk.fr (by kernel_rfl))
      refine Sem.seq ?_
      obtain ⟨v4, hv4, h⟩ := Option.bind_eq_some_iff.1 h
      obtain ⟨v5, hv5, h⟩ := Option.bind_eq_some_iff.1 h
      refine Sem.runDS e_slices_Equal_L_int_ok (s1 := ⟨Fr 26 [(0, .sl 1 (x0.map cdI.enc)), (1, .sl 1 (x1.map cdI.enc)), (12, .v (.int .i64 (x0.length : Int))), (13, .v (.int .i64 c2)), (24, .v (.bool (v4 != v5)))], []⟩) (by kernel_rfl) ?_ ?_
      · refine RunDS.seg e_slices_Equal_L_int_ok 2 (s1 := ⟨Fr 26 [(0, .sl 1 (x0.map cdI.enc)), (1, .sl 1 (x1.map cdI.enc)), (5, .v (.int .i64 c2)), (12, .v (.int .i64 (x0.length : Int))), (13, .v (.int .i64 c2)), (16, .sl 1 (x0.map cdI.enc)), (17, .v (.int .i64 c2))], []⟩) (by kernel_rfl) (by kernel_rfl) ?_
        refine RunDS.one e_slices_Equal_L_int_ok rfl (by kernel_rfl) (opd_q (by kernel_rfl) (wantedA_none rfl) rfl (q_indexAddr (a := .sl 1 (x0.map cdI.enc)) (b := .v (.int .i64 c2)) (by kernel_rfl) (by kernel_rfl) (ix_sl (e := cdI.enc) (el := 3) (k := 1) (ki := .i64) (by kernel_rfl) (by kernel_rfl) hv4)) (by kernel_rfl)) ?_
        refine RunDS.seg e_slices_Equal_L_int_ok 3 (s1 := ⟨Fr 26 [(0, .sl 1 (x0.map cdI.enc)), (1, .sl 1 (x1.map cdI.enc)), (5, .v (.int .i64 c2)), (12, .v (.int .i64 (x0.length : Int))), (13, .v (.int .i64 c2)), (16, .sl 1 (x0.map cdI.enc)), (17, .v (.int .i64 c2)), (18, .pe (.v (.int .i64 v4)) 0), (19, .v (.int .i64 v4)), (20, .sl 1 (x1.map cdI.enc)), (21, .v (.int .i64 c2))], []⟩) (by kernel_rfl) (by kernel_rfl) ?_
        refine RunDS.one e_slices_Equal_L_int_ok rfl (by kernel_rfl) (opd_q (by kernel_rfl) (wantedA_none rfl) rfl (q_indexAddr (a := .sl 1 (x1.map cdI.enc)) (b := .v (.int .i64 c2)) (by kernel_rfl) (by kernel_rfl) (ix_sl (e := cdI.enc) (el := 3) (k := 1) (ki := .i64) (by kernel_rfl) (by kernel_rfl) hv5)) (by kernel_rfl)) ?_
        refine RunDS.seg e_slices_Equal_L_int_ok 2 (s1 := ⟨Fr 26 [(0, .sl 1 (x0.map cdI.enc)), (1, .sl 1 (x1.map cdI.enc)), (5, .v (.int .i64 c2)), (12, .v (.int .i64 (x0.length : Int))), (13, .v (.int .i64 c2)), (16, .sl 1 (x0.map cdI.enc)), (17, .v (.int .i64 c2)), (18, .pe (.v (.int .i64 v4)) 0), (19, .v (.int .i64 v4)), (20, .sl 1 (x1.map cdI.enc)), (21, .v (.int .i64 c2)), (22, .pe (.v (.int .i64 v5)) 0), (23, .v (.int .i64 v5)), (24, .v (.bool (v4 != v5)))], []⟩) (by kernel_rfl) (by kernel_rfl) ?_
        exact RunDS.done rfl (Wk.fr (by kernel_rfl))
      refine Sem.cond (b := (v4 != v5)) (by kernel_rfl) (fun hb6 => ?_) (fun hb6 => ?_)
      · rw [if_pos hb6] at h
        refine Sem.seq ?_
        refine Sem.runS (s1 := ⟨Fr 26 [(4, .v (.bool false))], []⟩) ?_ ?_
        · refine RunS.seg e_slices_Equal_L_int_ok 1 (s1 := ⟨Fr 26 [(0, .sl 1 (x0.map cdI.enc)), (1, .sl 1 (x1.map cdI.enc)), (4, .v (.bool false)), (12, .v (.int .i64 (x0.length : Int))), (13, .v (.int .i64 c2)), (24, .v (.bool (v4 != v5)))], []⟩) (by kernel_rfl) ?_
          exact RunS.done rfl (Wk.fr (by kernel_rfl))
        refine Sem.ret ?_
        have hq := Option.some.inj h; subst hq
        exact ⟨rfl, (Wk.fr (by kernel_rfl))⟩
      · rw [if_f hb6] at h
        refine Sem.skip ?_
        refine Sem.runS (s1 := ⟨Fr 26 [(0, .sl 1 (x0.map cdI.enc)), (1, .sl 1 (x1.map cdI.enc)), (12, .v (.int .i64 (x0.length : Int))), (13, .v (.int .i64 (wr .i64 (c2 + 1))))], []⟩) ?_ ?_
        · refine RunS.seg e_slices_Equal_L_int_ok 2 (s1 := ⟨Fr 26 [(0, .sl 1 (x0.map cdI.enc)), (1, .sl 1 (x1.map cdI.enc)), (12, .v (.int .i64 (x0.length : Int))), (13, .v (.int .i64 (wr .i64 (c2 + 1)))), (24, .v (.bool (v4 != v5))), (25, .v (.int .i64 (wr .i64 (c2 + 1))))], []⟩) (by kernel_rfl) ?_
          exact RunS.done rfl (Wk.fr (by kernel_rfl))
        exact SemN.wk (s1 := ⟨Fr 26 [(0, .sl 1 (x0.map cdI.enc)), (1, .sl 1 (x1.map cdI.enc)), (12, .v (.int .i64 (x0.length : Int))), (13, .v (.int .i64 (wr .i64 (c2 + 1))))], []⟩) (Wk.fr (by kernel_rfl)) (ih (wr .i64 (c2 + 1)) h)
    · rw [if_f hb3] at h
      refine Sem.exit ?_
      have hq := Option.some.inj h; subst hq
      exact ⟨rfl, (Wk.fr (by kernel_rfl))⟩
set_option maxRecDepth 100000 in
theorem slices_Equal_L_int_sem (x0 : (List Int)) (x1 : (List Int)) (r : Bool) (h : slices_Equal_L_int x0 x1 = some r) : Sem e_slices_Equal_L_int ⟨none, false⟩ cb_slices_Equal_L_int ⟨Fr 26 (pairs0 0 (cs_slices_Equal_L_int.enc (x0, x1, ()))), []⟩ fun e s' => (e = .normal ∨ e = .ret) ∧ ∃ xs, resA e_slices_Equal_L_int.P s'.fr s'.hp Tryd.f30.results.toList = some xs ∧ retA xs = er_slices_Equal_L_int r := by
  unfold slices_Equal_L_int at h
  refine Sem.wkQ (Sem.wk (s1 := ⟨Fr 26 [(0, .sl 1 (x0.map cdI.enc)), (1, .sl 1 (x1.map cdI.enc))], []⟩) (Wk.fr (by kernel_rfl)) ?_)
  refine Sem.seq ?_
  refine Sem.runS (s1 := ⟨Fr 26 [(0, .sl 1 (x0.map cdI.enc)), (1, .sl 1 (x1.map cdI.enc))], []⟩) ?_ ?_
  · refine RunS.seg e_slices_Equal_L_int_ok 1 (s1 := ⟨Fr 26 [(0, .sl 1 (x0.map cdI.enc)), (1, .sl 1 (x1.map cdI.enc)), (4, .v (.bool false))], []⟩) (by kernel_rfl) ?_
    exact RunS.done rfl (Wk.fr (by kernel_rfl))
  refine Sem.seq ?_
  refine Sem.seq ?_
  refine Sem.runS (s1 := ⟨Fr 26 [(0, .sl 1 (x0.map cdI.enc)), (1, .sl 1 (x1.map cdI.enc)), (10, .v (.bool ((x0.length : Int) != (x1.length : Int))))], []⟩) ?_ ?_
  · refine RunS.seg e_slices_Equal_L_int_ok 1 (s1 := ⟨Fr 26 [(0, .sl 1 (x0.map cdI.enc)), (1, .sl 1 (x1.map cdI.enc)), (6, .sl 1 (x0.map cdI.enc))], []⟩) (by kernel_rfl) ?_
    refine RunS.one e_slices_Equal_L_int_ok 0 rfl (op_q (wantedA_none rfl) rfl (q_len (a := .sl 1 (x0.map cdI.enc)) (by kernel_rfl) (len_sl (el := 3) (by kernel_rfl)))) ?_
    refine RunS.seg e_slices_Equal_L_int_ok 1 (s1 := ⟨Fr 26 [(0, .sl 1 (x0.map cdI.enc)), (1, .sl 1 (x1.map cdI.enc)), (6, .sl 1 (x0.map cdI.enc)), (7, .v (.int .i64 (x0.length : Int))), (8, .sl 1 (x1.map cdI.enc))], []⟩) (by kernel_rfl) ?_
    refine RunS.one e_slices_Equal_L_int_ok 0 rfl (op_q (wantedA_none rfl) rfl (q_len (a := .sl 1 (x1.map cdI.enc)) (by kernel_rfl) (len_sl (el := 3) (by kernel_rfl)))) ?_
    refine RunS.seg e_slices_Equal_L_int_ok 1 (s1 := ⟨Fr 26 [(0, .sl 1 (x0.map cdI.enc)), (1, .sl 1 (x1.map cdI.enc)), (6, .sl 1 (x0.map cdI.enc)), (7, .v (.int .i64 (x0.length : Int))), (8, .sl 1 (x1.map cdI.enc)), (9, .v (.int .i64 (x1.length : Int))), (10, .v (.bool ((x0.length : Int) != (x1.length : Int))))], []⟩) (by kernel_rfl) ?_
    exact RunS.done rfl (Wk.fr (by kernel_rfl))
  refine Sem.cond (b := ((x0.length : Int) != (x1.length : Int))) (by kernel_rfl) (fun hb1 => ?_) (fun hb1 => ?_)
  · rw [if_pos hb1] at h
    refine Sem.seq ?_
    refine Sem.runS (s1 := ⟨Fr 26 [(4, .v (.bool false))], []⟩) ?_ ?_
    · refine RunS.seg e_slices_Equal_L_int_ok 1 (s1 := ⟨Fr 26 [(0, .sl 1 (x0.map cdI.enc)), (1, .sl 1 (x1.map cdI.enc)), (4, .v (.bool false)), (10, .v (.bool ((x0.length : Int) != (x1.length : Int))))], []⟩) (by kernel_rfl) ?_
      exact RunS.done rfl (Wk.fr (by kernel_rfl))
    refine Sem.ret ?_
    have hq := Option.some.inj h; subst hq
    exact ⟨⟨Fr 26 [(4, .v (.bool false))], []⟩, (Wk.fr (by kernel_rfl)), .inr rfl, [.v (.bool false)], (by kernel_rfl), (by kernel_rfl)⟩
  · rw [if_f hb1] at h
    refine Sem.skip ?_
    refine Sem.seq ?_
    refine Sem.seq ?_
    refine Sem.runS (s1 := ⟨Fr 26 [(0, .sl 1 (x0.map cdI.enc)), (1, .sl 1 (x1.map cdI.enc)), (12, .v (.int .i64 (x0.length : Int))), (13, .v (.int .i64 0))], []⟩) ?_ ?_
    · refine RunS.seg e_slices_Equal_L_int_ok 1 (s1 := ⟨Fr 26 [(0, .sl 1 (x0.map cdI.enc)), (1, .sl 1 (x1.map cdI.enc)), (10, .v (.bool ((x0.length : Int) != (x1.length : Int)))), (11, .sl 1 (x0.map cdI.enc))], []⟩) (by kernel_rfl) ?_
      refine RunS.one e_slices_Equal_L_int_ok 0 rfl (op_q (wantedA_none rfl) rfl (q_len (a := .sl 1 (x0.map cdI.enc)) (by kernel_rfl) (len_sl (el := 3) (by kernel_rfl)))) ?_
      refine RunS.seg e_slices_Equal_L_int_ok 1 (s1 := ⟨Fr 26 [(0, .sl 1 (x0.map cdI.enc)), (1, .sl 1 (x1.map cdI.enc)), (10, .v (.bool ((x0.length : Int) != (x1.length : Int)))), (11, .sl 1 (x0.map cdI.enc)), (12, .v (.int .i64 (x0.length : Int))), (13, .v (.int .i64 0))], []⟩) (by kernel_rfl) ?_
      exact RunS.done rfl (Wk.fr (by kernel_rfl))
    refine Sem.block ?_
    obtain ⟨r8, hr8, h⟩ := Option.bind_eq_some_iff.1 h
    refine Sem.loop (n := 100000) ?_
    rcases r8 with w9 | w10
    · refine Sem.cutN (SemN.wk (s1 := ⟨Fr 26 [(0, .sl 1 (x0.map cdI.enc)), (1, .sl 1 (x1.map cdI.enc)), (12, .v (.int .i64 (x0.length : Int))), (13, .v (.int .i64 0))], []⟩) (Wk.fr (by kernel_rfl)) (slices_Equal_L_int_1_ok x0 x1 _ 0 _ hr8)) ?_
      refine Sem.seq ?_
      refine Sem.runS (s1 := ⟨Fr 26 [(4, .v (.bool true))], []⟩) ?_ ?_
      · refine RunS.seg e_slices_Equal_L_int_ok 1 (s1 := ⟨Fr 26 [(4, .v (.bool true))], []⟩) (by kernel_rfl) ?_
        exact RunS.done rfl (Wk.fr (by kernel_rfl))
      refine Sem.ret ?_
      have hq := Option.some.inj h; subst hq
      exact ⟨⟨Fr 26 [(4, .v (.bool true))], []⟩, (Wk.fr (by kernel_rfl)), .inr rfl, [.v (.bool true)], (by kernel_rfl), (by kernel_rfl)⟩
    · refine Sem.cutN (SemN.wk (s1 := ⟨Fr 26 [(0, .sl 1 (x0.map cdI.enc)), (1, .sl 1 (x1.map cdI.enc)), (12, .v (.int .i64 (x0.length : Int))), (13, .v (.int .i64 0))], []⟩) (Wk.fr (by kernel_rfl)) (slices_Equal_L_int_1_ok x0 x1 _ 0 _ hr8)) ?_
      have hq := Option.some.inj h; subst hq
      exact ⟨⟨Fr 26 [(4, .v (.bool w10))], []⟩, (Wk.fr (by kernel_rfl)), .inr rfl, [.v (.bool w10)], (by kernel_rfl), (by kernel_rfl)⟩
def t_slices_Equal_L_int : List AV → Option AV := told cs_slices_Equal_L_int (fun a => slices_Equal_L_int a.1 a.2.1) er_slices_Equal_L_int
theorem x_slices_Equal_L_int : XOk 30 t_slices_Equal_L_int := by
  refine EnvOk.x (E := e_slices_Equal_L_int) (contract_ok e_slices_Equal_L_int_ok (fn := Tryd.f30) (c := cb_slices_Equal_L_int) ?h1 ?h2 ⟨Tryd.call30⟩ cs_slices_Equal_L_int (fun a => slices_Equal_L_int a.1 a.2.1) er_slices_Equal_L_int (fun a => (by show 2 ≤ 26; decide)) ?h3 ?h4) rfl rfl
  case h1 => kernel_rfl
  case h2 => kernel_rfl
  case h3 => intro b; kernel_rfl
  case h4 => exact fun a b h => slices_Equal_L_int_sem a.1 a.2.1 b h
end Go.Proofs.YthofgamegondnaaDoor
