/- A function of plain data that the program's function 67 computes. By a program of mine. -/
import Derived.Test.YthofgamegondnaaDoorCx
namespace Go.Proofs.YthofgamegondnaaDoor
open Go.RowKit
/- trestle/evening.guests -/
noncomputable def e_evening_guests : Env := E0
theorem e_evening_guests_ok : EnvOk e_evening_guests := E0_ok
def evening_guests (x0 : Int) : Option (Bool) :=
  (if (decide (x0 ≥ 1)) = true then some (decide (x0 ≤ 64)) else some false).bind fun j2 =>
  some j2
def cs_evening_guests : Cs (Int × Unit) := (csC cdI csN)
def er_evening_guests (r : Bool) : AV := cdB.enc r
noncomputable def cb_evening_guests : Code := codeOf Tryd.f67
set_option maxRecDepth 100000 in
theorem evening_guests_sem (x0 : Int) (r : Bool) (h : evening_guests x0 = some r) : Sem e_evening_guests ⟨none, false⟩ cb_evening_guests ⟨Fr 9 (pairs0 0 (cs_evening_guests.enc (x0, ()))), []⟩ fun e s' => (e = .normal ∨ e = .ret) ∧ ∃ xs, resA e_evening_guests.P s'.fr s'.hp Tryd.f67.results.toList = some xs ∧ retA xs = er_evening_guests r := by
  unfold evening_guests at h
  refine Sem.wkQ (Sem.wk (s1 := ⟨Fr 9 [(0, .v (.int .i64 x0))], []⟩) (Wk.fr (by kernel_rfl)) ?_)
  refine Sem.seq ?_
  refine Sem.runS (s1 := ⟨Fr 9 [(0, .v (.int .i64 x0))], []⟩) ?_ ?_
  · refine RunS.seg e_evening_guests_ok 1 (s1 := ⟨Fr 9 [(0, .v (.int .i64 x0)), (2, .v (.bool false))], []⟩) (by kernel_rfl) ?_
    exact RunS.done rfl (Wk.fr (by kernel_rfl))
  refine Sem.seq ?_
  obtain ⟨j2, hj2, h⟩ := Option.bind_eq_some_iff.1 h
  refine Sem.runS (s1 := ⟨Fr 9 [(2, .v (.bool j2))], []⟩) ?_ ?_
  · refine RunS.seg e_evening_guests_ok 3 (s1 := ⟨Fr 9 [(0, .v (.int .i64 x0)), (3, .v (.int .i64 x0)), (4, .v (.bool (decide (x0 ≥ 1)))), (5, .v (.bool (decide (x0 ≥ 1))))], []⟩) (by kernel_rfl) ?_
    rcases Bool.eq_false_or_eq_true (decide (x0 ≥ 1)) with hc3 | hc3
    · rw [if_pos hc3] at hj2
      rw [hc3]
      refine RunS.seg e_evening_guests_ok 4 (s1 := ⟨Fr 9 [(0, .v (.int .i64 x0)), (2, .v (.bool (decide (x0 ≤ 64)))), (3, .v (.int .i64 x0)), (4, .v (.bool true)), (5, .v (.bool true)), (6, .v (.int .i64 x0)), (7, .v (.bool (decide (x0 ≤ 64)))), (8, .v (.bool (decide (x0 ≤ 64))))], []⟩) (by kernel_rfl) ?_
      have hq := Option.some.inj hj2; subst hq
      exact RunS.done rfl (Wk.fr (by kernel_rfl))
    · rw [if_f hc3] at hj2
      rw [hc3]
      refine RunS.seg e_evening_guests_ok 4 (s1 := ⟨Fr 9 [(0, .v (.int .i64 x0)), (2, .v (.bool false)), (3, .v (.int .i64 x0)), (4, .v (.bool false)), (5, .v (.bool false)), (6, .tp []), (7, .tp []), (8, .v (.bool false))], []⟩) (by kernel_rfl) ?_
      have hq := Option.some.inj hj2; subst hq
      exact RunS.done rfl (Wk.fr (by kernel_rfl))
  refine Sem.ret ?_
  have hq := Option.some.inj h; subst hq
  exact ⟨⟨Fr 9 [(2, .v (.bool j2))], []⟩, (Wk.fr (by kernel_rfl)), .inr rfl, [.v (.bool j2)], (by kernel_rfl), (by kernel_rfl)⟩
def t_evening_guests : List AV → Option AV := told cs_evening_guests (fun a => evening_guests a.1) er_evening_guests
theorem x_evening_guests : XOk 67 t_evening_guests := by
  refine EnvOk.x (E := e_evening_guests) (contract_ok e_evening_guests_ok (fn := Tryd.f67) (c := cb_evening_guests) ?h1 ?h2 ⟨Tryd.call67⟩ cs_evening_guests (fun a => evening_guests a.1) er_evening_guests (fun a => (by show 1 ≤ 9; decide)) ?h3 ?h4) rfl rfl
  case h1 => kernel_rfl
  case h2 => kernel_rfl
  case h3 => intro b; kernel_rfl
  case h4 => exact fun a b h => evening_guests_sem a.1 b h
end Go.Proofs.YthofgamegondnaaDoor
