/- A function of plain data that the program's function 68 computes. By a program of mine. -/
import Derived.Test.YthofgamegondnaaDoorCx
import Derived.Test.YthofgamegondnaaDoorF67
namespace Go.Proofs.YthofgamegondnaaDoor
open Go.RowKit
/- trestle/evening.fit -/
noncomputable def e_evening_fit : Env := (E0.withX 67 t_evening_guests)
theorem e_evening_fit_ok : EnvOk e_evening_fit := (EnvOk.withX E0_ok x_evening_guests.1 x_evening_guests.2)
def evening_fit_1 (x0 : Int) (x1 : (List Int)) : Nat → Int → Int → Option ((Int) ⊕ (Bool))
  | 0, _, _ => none
  | f + 1, c1, c2 =>
    if (decide (c2 < (x1.length : Int))) = true then
    (idx x1 c2).bind fun v4 =>
    (if (decide (v4 < 1)) = true then some true else some (decide (v4 > c1))).bind fun j6 =>
    if j6 = true then
    some (.inr false)
    else
    evening_fit_1 x0 x1 f (wr .i64 (c1 - v4)) (wr .i64 (c2 + 1))
    else
    some (.inl c1)
def evening_fit (x0 : Int) (x1 : (List Int)) : Option (Bool) :=
  (evening_fit_1 x0 x1 100000 x0 0).bind fun r11 =>
  match r11 with
  | (.inl w12) =>
    (evening_guests x0).bind fun v13 =>
    (if v13 = true then some (w12 == 0) else some false).bind fun j15 =>
    some j15
  | (.inr w17) =>
    some w17
def cs_evening_fit : Cs (Int × (List Int) × Unit) := (csC cdI (csC (cdL 1 cdI) csN))
def er_evening_fit (r : Bool) : AV := cdB.enc r
noncomputable def cb_evening_fit : Code := codeOf Tryd.f68
set_option maxRecDepth 100000 in
theorem evening_fit_1_ok (x0 : Int) (x1 : (List Int)) : ∀ (f : Nat) (c1 : Int) (c2 : Int) (r : (Int) ⊕ (Bool)), evening_fit_1 x0 x1 f c1 c2 = some r → SemN e_evening_fit ⟨none, false⟩ (pc cb_evening_fit [1, 1, 0, 1, 0, 0]) f ⟨Fr 32 [(0, .v (.int .i64 x0)), (5, .v (.int .i64 c1)), (9, .sl 1 (x1.map cdI.enc)), (10, .v (.int .i64 (x1.length : Int))), (11, .v (.int .i64 c2))], []⟩ (fun e s => match r with
  | (.inl w) => e = (.exit 0) ∧ Wk e_evening_fit s ⟨Fr 32 [(0, .v (.int .i64 x0)), (5, .v (.int .i64 w))], []⟩
  | (.inr w) => e = .ret ∧ Wk e_evening_fit s ⟨Fr 32 [(4, .v (.bool w))], []⟩) := by
  intro f
  induction f with
  | zero => intro c1 c2 r h; cases h
  | succ f ih0 =>
    intro c1 c2 r h
    have ih := fun (c1 : Int) (c2 : Int) => ih0 c1 c2 r
    unfold evening_fit_1 at h
    refine SemN.succ ?_
    refine Sem.seq ?_
    refine Sem.runS (s1 := ⟨Fr 32 [(0, .v (.int .i64 x0)), (5, .v (.int .i64 c1)), (9, .sl 1 (x1.map cdI.enc)), (10, .v (.int .i64 (x1.length : Int))), (11, .v (.int .i64 c2)), (12, .v (.bool (decide (c2 < (x1.length : Int)))))], []⟩) ?_ ?_
    · refine RunS.seg e_evening_fit_ok 1 (s1 := ⟨Fr 32 [(0, .v (.int .i64 x0)), (5, .v (.int .i64 c1)), (9, .sl 1 (x1.map cdI.enc)), (10, .v (.int .i64 (x1.length : Int))), (11, .v (.int .i64 c2)), (12, .v (.bool (decide (c2 < (x1.length : Int)))))], []⟩) (by kernel_rfl) ?_
      exact RunS.done rfl (Wk.fr (by kernel_rfl))
    refine Sem.seq ?_
    refine Sem.cond (b := (decide (c2 < (x1.length : Int)))) (by kernel_rfl) (fun hb3 => ?_) (fun hb3 => ?_)
    · rw [if_pos hb3] at h
      refine Sem.skip ?_
      refine Sem.seq ?_
      refine Sem.block ?_
      refine Sem.seq ?_
      obtain ⟨v4, hv4, h⟩ := Option.bind_eq_some_iff.1 h
      refine Sem.runS (s1 := ⟨Fr 32 [(0, .v (.int .i64 x0)), (5, .v (.int .i64 c1)), (7, .v (.int .i64 v4)), (9, .sl 1 (x1.map cdI.enc)), (10, .v (.int .i64 (x1.length : Int))), (11, .v (.int .i64 c2))], []⟩) ?_ ?_
      · refine RunS.one e_evening_fit_ok 0 rfl (op_q (wantedA_none rfl) rfl (q_indexAddr (a := .sl 1 (x1.map cdI.enc)) (b := .v (.int .i64 c2)) (by kernel_rfl) (by kernel_rfl) (ix_sl (e := cdI.enc) (el := 3) (k := 1) (ki := .i64) (by kernel_rfl) (by kernel_rfl) hv4))) ?_
        refine RunS.seg e_evening_fit_ok 2 (s1 := ⟨Fr 32 [(0, .v (.int .i64 x0)), (5, .v (.int .i64 c1)), (7, .v (.int .i64 v4)), (9, .sl 1 (x1.map cdI.enc)), (10, .v (.int .i64 (x1.length : Int))), (11, .v (.int .i64 c2)), (12, .v (.bool (decide (c2 < (x1.length : Int))))), (13, .pe (.v (.int .i64 v4)) 0), (14, .v (.int .i64 v4))], []⟩) (by kernel_rfl) ?_
        exact RunS.done rfl (Wk.fr (by kernel_rfl))
      refine Sem.seq ?_
      refine Sem.seq ?_
      obtain ⟨j6, hj6, h⟩ := Option.bind_eq_some_iff.1 h
      refine Sem.runS (s1 := ⟨Fr 32 [(0, .v (.int .i64 x0)), (5, .v (.int .i64 c1)), (7, .v (.int .i64 v4)), (9, .sl 1 (x1.map cdI.enc)), (10, .v (.int .i64 (x1.length : Int))), (11, .v (.int .i64 c2)), (21, .v (.bool j6))], []⟩) ?_ ?_
      · refine RunS.seg e_evening_fit_ok 3 (s1 := ⟨Fr 32 [(0, .v (.int .i64 x0)), (5, .v (.int .i64 c1)), (7, .v (.int .i64 v4)), (9, .sl 1 (x1.map cdI.enc)), (10, .v (.int .i64 (x1.length : Int))), (11, .v (.int .i64 c2)), (15, .v (.int .i64 v4)), (16, .v (.bool (decide (v4 < 1)))), (17, .v (.bool (decide (v4 < 1))))], []⟩) (by kernel_rfl) ?_
        rcases Bool.eq_false_or_eq_true (decide (v4 < 1)) with hc9 | hc9
        · rw [if_pos hc9] at hj6
          rw [hc9]
          refine RunS.seg e_evening_fit_ok 4 (s1 := ⟨Fr 32 [(0, .v (.int .i64 x0)), (5, .v (.int .i64 c1)), (7, .v (.int .i64 v4)), (9, .sl 1 (x1.map cdI.enc)), (10, .v (.int .i64 (x1.length : Int))), (11, .v (.int .i64 c2)), (15, .v (.int .i64 v4)), (16, .v (.bool true)), (17, .v (.bool true)), (18, .tp []), (19, .tp []), (20, .tp []), (21, .v (.bool true))], []⟩) (by kernel_rfl) ?_
          have hq := Option.some.inj hj6; subst hq
          exact RunS.done rfl (Wk.fr (by kernel_rfl))
        · rw [if_f hc9] at hj6
          rw [hc9]
          refine RunS.seg e_evening_fit_ok 4 (s1 := ⟨Fr 32 [(0, .v (.int .i64 x0)), (5, .v (.int .i64 c1)), (7, .v (.int .i64 v4)), (9, .sl 1 (x1.map cdI.enc)), (10, .v (.int .i64 (x1.length : Int))), (11, .v (.int .i64 c2)), (15, .v (.int .i64 v4)), (16, .v (.bool false)), (17, .v (.bool false)), (18, .v (.int .i64 v4)), (19, .v (.int .i64 c1)), (20, .v (.bool (decide (v4 > c1)))), (21, .v (.bool (decide (v4 > c1))))], []⟩) (by kernel_rfl) ?_
          have hq := Option.some.inj hj6; subst hq
          exact RunS.done rfl (Wk.fr (by kernel_rfl))
      refine Sem.cond (b := j6) (by kernel_rfl) (fun hb7 => ?_) (fun hb7 => ?_)
      · rw [if_pos hb7] at h
        refine Sem.seq ?_
        refine Sem.runS (s1 := ⟨Fr 32 [(4, .v (.bool false))], []⟩) ?_ ?_
        · refine RunS.seg e_evening_fit_ok 1 (s1 := ⟨Fr 32 [(0, .v (.int .i64 x0)), (4, .v (.bool false)), (5, .v (.int .i64 c1)), (7, .v (.int .i64 v4)), (9, .sl 1 (x1.map cdI.enc)), (10, .v (.int .i64 (x1.length : Int))), (11, .v (.int .i64 c2)), (21, .v (.bool j6))], []⟩) (by kernel_rfl) ?_
          exact RunS.done rfl (Wk.fr (by kernel_rfl))
        refine Sem.ret ?_
        have hq := Option.some.inj h; subst hq
        exact ⟨rfl, (Wk.fr (by kernel_rfl))⟩
      · rw [if_f hb7] at h
        refine Sem.skip ?_
        refine Sem.runS (s1 := ⟨Fr 32 [(0, .v (.int .i64 x0)), (5, .v (.int .i64 (wr .i64 (c1 - v4)))), (9, .sl 1 (x1.map cdI.enc)), (10, .v (.int .i64 (x1.length : Int))), (11, .v (.int .i64 c2))], []⟩) ?_ ?_
        · refine RunS.seg e_evening_fit_ok 4 (s1 := ⟨Fr 32 [(0, .v (.int .i64 x0)), (5, .v (.int .i64 (wr .i64 (c1 - v4)))), (7, .v (.int .i64 v4)), (9, .sl 1 (x1.map cdI.enc)), (10, .v (.int .i64 (x1.length : Int))), (11, .v (.int .i64 c2)), (21, .v (.bool j6)), (22, .v (.int .i64 c1)), (23, .v (.int .i64 v4)), (24, .v (.int .i64 (wr .i64 (c1 - v4))))], []⟩) (by kernel_rfl) ?_
          exact RunS.done rfl (Wk.fr (by kernel_rfl))
        refine Sem.runS (s1 := ⟨Fr 32 [(0, .v (.int .i64 x0)), (5, .v (.int .i64 (wr .i64 (c1 - v4)))), (9, .sl 1 (x1.map cdI.enc)), (10, .v (.int .i64 (x1.length : Int))), (11, .v (.int .i64 (wr .i64 (c2 + 1))))], []⟩) ?_ ?_
        · refine RunS.seg e_evening_fit_ok 2 (s1 := ⟨Fr 32 [(0, .v (.int .i64 x0)), (5, .v (.int .i64 (wr .i64 (c1 - v4)))), (9, .sl 1 (x1.map cdI.enc)), (10, .v (.int .i64 (x1.length : Int))), (11, .v (.int .i64 (wr .i64 (c2 + 1)))), (25, .v (.int .i64 (wr .i64 (c2 + 1))))], []⟩) (by kernel_rfl) ?_
          exact RunS.done rfl (Wk.fr (by kernel_rfl))
        exact SemN.wk (s1 := ⟨Fr 32 [(0, .v (.int .i64 x0)), (5, .v (.int .i64 (wr .i64 (c1 - v4)))), (9, .sl 1 (x1.map cdI.enc)), (10, .v (.int .i64 (x1.length : Int))), (11, .v (.int .i64 (wr .i64 (c2 + 1))))], []⟩) (Wk.fr (by kernel_rfl)) (ih (wr .i64 (c1 - v4)) (wr .i64 (c2 + 1)) h)
    · rw [if_f hb3] at h
      refine Sem.exit ?_
      have hq := Option.some.inj h; subst hq
      exact ⟨rfl, (Wk.fr (by kernel_rfl))⟩
set_option maxRecDepth 100000 in
theorem evening_fit_sem (x0 : Int) (x1 : (List Int)) (r : Bool) (h : evening_fit x0 x1 = some r) : Sem e_evening_fit ⟨none, false⟩ cb_evening_fit ⟨Fr 32 (pairs0 0 (cs_evening_fit.enc (x0, x1, ()))), []⟩ fun e s' => (e = .normal ∨ e = .ret) ∧ ∃ xs, resA e_evening_fit.P s'.fr s'.hp Tryd.f68.results.toList = some xs ∧ retA xs = er_evening_fit r := by
  unfold evening_fit at h
  refine Sem.wkQ (Sem.wk (s1 := ⟨Fr 32 [(0, .v (.int .i64 x0)), (1, .sl 1 (x1.map cdI.enc))], []⟩) (Wk.fr (by kernel_rfl)) ?_)
  refine Sem.seq ?_
  refine Sem.runS (s1 := ⟨Fr 32 [(0, .v (.int .i64 x0)), (1, .sl 1 (x1.map cdI.enc))], []⟩) ?_ ?_
  · refine RunS.seg e_evening_fit_ok 1 (s1 := ⟨Fr 32 [(0, .v (.int .i64 x0)), (1, .sl 1 (x1.map cdI.enc)), (4, .v (.bool false))], []⟩) (by kernel_rfl) ?_
    exact RunS.done rfl (Wk.fr (by kernel_rfl))
  refine Sem.seq ?_
  refine Sem.runS (s1 := ⟨Fr 32 [(0, .v (.int .i64 x0)), (1, .sl 1 (x1.map cdI.enc)), (5, .v (.int .i64 x0))], []⟩) ?_ ?_
  · refine RunS.seg e_evening_fit_ok 2 (s1 := ⟨Fr 32 [(0, .v (.int .i64 x0)), (1, .sl 1 (x1.map cdI.enc)), (5, .v (.int .i64 x0)), (8, .v (.int .i64 x0))], []⟩) (by kernel_rfl) ?_
    exact RunS.done rfl (Wk.fr (by kernel_rfl))
  refine Sem.seq ?_
  refine Sem.seq ?_
  refine Sem.runS (s1 := ⟨Fr 32 [(0, .v (.int .i64 x0)), (5, .v (.int .i64 x0)), (9, .sl 1 (x1.map cdI.enc)), (10, .v (.int .i64 (x1.length : Int))), (11, .v (.int .i64 0))], []⟩) ?_ ?_
  · refine RunS.seg e_evening_fit_ok 1 (s1 := ⟨Fr 32 [(0, .v (.int .i64 x0)), (1, .sl 1 (x1.map cdI.enc)), (5, .v (.int .i64 x0)), (9, .sl 1 (x1.map cdI.enc))], []⟩) (by kernel_rfl) ?_
    refine RunS.one e_evening_fit_ok 0 rfl (op_q (wantedA_none rfl) rfl (q_len (a := .sl 1 (x1.map cdI.enc)) (by kernel_rfl) (len_sl (el := 3) (by kernel_rfl)))) ?_
    refine RunS.seg e_evening_fit_ok 1 (s1 := ⟨Fr 32 [(0, .v (.int .i64 x0)), (1, .sl 1 (x1.map cdI.enc)), (5, .v (.int .i64 x0)), (9, .sl 1 (x1.map cdI.enc)), (10, .v (.int .i64 (x1.length : Int))), (11, .v (.int .i64 0))], []⟩) (by kernel_rfl) ?_
    exact RunS.done rfl (Wk.fr (by kernel_rfl))
  refine Sem.block ?_
  obtain ⟨r11, hr11, h⟩ := Option.bind_eq_some_iff.1 h
  refine Sem.loop (n := 100000) ?_
  rcases r11 with w12 | w17
  · refine Sem.cutN (SemN.wk (s1 := ⟨Fr 32 [(0, .v (.int .i64 x0)), (5, .v (.int .i64 x0)), (9, .sl 1 (x1.map cdI.enc)), (10, .v (.int .i64 (x1.length : Int))), (11, .v (.int .i64 0))], []⟩) (Wk.fr (by kernel_rfl)) (evening_fit_1_ok x0 x1 _ x0 0 _ hr11)) ?_
    refine Sem.seq ?_
    obtain ⟨v13, hv13, h⟩ := Option.bind_eq_some_iff.1 h
    obtain ⟨j15, hj15, h⟩ := Option.bind_eq_some_iff.1 h
    refine Sem.runS (s1 := ⟨Fr 32 [(4, .v (.bool j15))], []⟩) ?_ ?_
    · refine RunS.seg e_evening_fit_ok 1 (s1 := ⟨Fr 32 [(0, .v (.int .i64 x0)), (5, .v (.int .i64 w12)), (26, .v (.int .i64 x0))], []⟩) (by kernel_rfl) ?_
      refine RunS.call e_evening_fit_ok (fid := 67) (s := cs_evening_guests) (F := fun a => evening_guests a.1) (er := er_evening_guests) (xs := [.v (.int .i64 x0)]) (a := (x0, ())) rfl (wantedA_none rfl) (by kernel_rfl) (by kernel_rfl) (by kernel_rfl) (by kernel_rfl) (Sns.cons (Sn.enc (c := cdI) (v := x0)) Sns.nil) (.inl (by kernel_rfl)) hv13 ?_
      refine RunS.seg e_evening_fit_ok 1 (s1 := ⟨Fr 32 [(0, .v (.int .i64 x0)), (5, .v (.int .i64 w12)), (26, .v (.int .i64 x0)), (27, .v (.bool v13)), (28, .v (.bool v13))], []⟩) (by kernel_rfl) ?_
      rcases Bool.eq_false_or_eq_true v13 with hc16 | hc16
      · rw [if_pos hc16] at hj15
        rw [hc16]
        refine RunS.seg e_evening_fit_ok 4 (s1 := ⟨Fr 32 [(0, .v (.int .i64 x0)), (4, .v (.bool (w12 == 0))), (5, .v (.int .i64 w12)), (26, .v (.int .i64 x0)), (27, .v (.bool true)), (28, .v (.bool true)), (29, .v (.int .i64 w12)), (30, .v (.bool (w12 == 0))), (31, .v (.bool (w12 == 0)))], []⟩) (by kernel_rfl) ?_
        have hq := Option.some.inj hj15; subst hq
        exact RunS.done rfl (Wk.fr (by kernel_rfl))
      · rw [if_f hc16] at hj15
        rw [hc16]
        refine RunS.seg e_evening_fit_ok 4 (s1 := ⟨Fr 32 [(0, .v (.int .i64 x0)), (4, .v (.bool false)), (5, .v (.int .i64 w12)), (26, .v (.int .i64 x0)), (27, .v (.bool false)), (28, .v (.bool false)), (29, .tp []), (30, .tp []), (31, .v (.bool false))], []⟩) (by kernel_rfl) ?_
        have hq := Option.some.inj hj15; subst hq
        exact RunS.done rfl (Wk.fr (by kernel_rfl))
    refine Sem.ret ?_
    have hq := Option.some.inj h; subst hq
    exact ⟨⟨Fr 32 [(4, .v (.bool j15))], []⟩, (Wk.fr (by kernel_rfl)), .inr rfl, [.v (.bool j15)], (by kernel_rfl), (by kernel_rfl)⟩
  · refine Sem.cutN (SemN.wk (s1 := ⟨Fr 32 [(0, .v (.int .i64 x0)), (5, .v (.int .i64 x0)), (9, .sl 1 (x1.map cdI.enc)), (10, .v (.int .i64 (x1.length : Int))), (11, .v (.int .i64 0))], []⟩) (Wk.fr (by kernel_rfl)) (evening_fit_1_ok x0 x1 _ x0 0 _ hr11)) ?_
    have hq := Option.some.inj h; subst hq
    exact ⟨⟨Fr 32 [(4, .v (.bool w17))], []⟩, (Wk.fr (by kernel_rfl)), .inr rfl, [.v (.bool w17)], (by kernel_rfl), (by kernel_rfl)⟩
def t_evening_fit : List AV → Option AV := told cs_evening_fit (fun a => evening_fit a.1 a.2.1) er_evening_fit
theorem x_evening_fit : XOk 68 t_evening_fit := by
  refine EnvOk.x (E := e_evening_fit) (contract_ok e_evening_fit_ok (fn := Tryd.f68) (c := cb_evening_fit) ?h1 ?h2 ⟨Tryd.call68⟩ cs_evening_fit (fun a => evening_fit a.1 a.2.1) er_evening_fit (fun a => (by show 2 ≤ 32; decide)) ?h3 ?h4) rfl rfl
  case h1 => kernel_rfl
  case h2 => kernel_rfl
  case h3 => intro b; kernel_rfl
  case h4 => exact fun a b h => evening_fit_sem a.1 a.2.1 b h
end Go.Proofs.YthofgamegondnaaDoor
