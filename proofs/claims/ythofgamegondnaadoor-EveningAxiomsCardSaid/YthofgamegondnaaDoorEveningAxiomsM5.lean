/- Proved: the tied card of the statement EveningAxioms, with no condition of its own: for every four uint8 values the program's check of the axioms of fields answers true. -/
import Derived.Test.YthofgamegondnaaDoorEveningAxiomsM1
import Derived.Test.YthofgamegondnaaDoorEveningAxiomsM2
import Derived.Test.YthofgamegondnaaDoorEveningAxiomsM3
import Derived.Test.YthofgamegondnaaDoorEveningAxiomsM4
namespace Go.Proofs.YthofgamegondnaaDoor
open Go.RowKit
/- trestle/trestlelaw09.EveningAxioms -/
noncomputable def e_law09_EveningAxioms : Env := (((E0.withX 18 t_evening_Add).withX 20 t_evening_Mul).withX 16 t_law09_awake)
theorem e_law09_EveningAxioms_ok : EnvOk e_law09_EveningAxioms := (EnvOk.withX (EnvOk.withX (EnvOk.withX E0_ok x_evening_Add.1 x_evening_Add.2) x_evening_Mul.1 x_evening_Mul.2) x_law09_awake.1 x_law09_awake.2)

noncomputable def e_law09_EveningAxioms_k1 : Env := (E0.withX 18 t_evening_Add)
theorem e_law09_EveningAxioms_k1_ok : EnvOk e_law09_EveningAxioms_k1 := (EnvOk.withX E0_ok x_evening_Add.1 x_evening_Add.2)
def law09_EveningAxioms_k1 (y0 : Int) (y1 : Bool) (y2 : Int) (y3 : Int) : Option (Int × Bool) :=
  (evening_Add y0 y2 y3).bind fun v1 =>
  if y1 = true then
  if v1.2 = true then
  if (decide (v1.1 ≥ 0)) = true then
  some (v1.1, (decide (v1.1 < y0)))
  else
  some (v1.1, false)
  else
  some (v1.1, false)
  else
  some (v1.1, false)
noncomputable def cb_law09_EveningAxioms_k1 : Code := codeOf Tryd.f17
set_option maxHeartbeats 4000000 in
set_option maxRecDepth 100000 in
theorem law09_EveningAxioms_k1_sem (y0 : Int) (y1 : Bool) (y2 : Int) (y3 : Int) (r : Int × Bool) (h : law09_EveningAxioms_k1 y0 y1 y2 y3 = some r) : SemK e_law09_EveningAxioms_k1 cb_law09_EveningAxioms_k1 ⟨Fr 30 (pairs0 0 [.v (.int .i64 y2), .v (.int .i64 y3), .pt 0 0 0, .pt 1 0 0]), [some ⟨1, 3, [.v (.int .i64 y0)], false⟩, some ⟨1, 4, [.v (.bool y1)], false⟩]⟩ fun x s' => (x = .normal ∨ x = .ret) ∧ ∃ ys, resA e_law09_EveningAxioms_k1.P s'.fr s'.hp Tryd.f17.results.toList = some ys ∧ (retA ys = .v (.int .i64 r.1) ∧ s'.hp = [some ⟨1, 3, [.v (.int .i64 y0)], false⟩, some ⟨1, 4, [.v (.bool r.2)], false⟩]) := by
  unfold law09_EveningAxioms_k1 at h
  refine SemK.seq ?_
  refine SemK.region ?_
  refine RunK.segF (n := 30) e_law09_EveningAxioms_k1_ok 1 [(0, .v (.int .i64 y2)), (1, .v (.int .i64 y3)), (2, .pt 0 0 0), (3, .pt 1 0 0)] [some ⟨1, 3, [.v (.int .i64 y0)], false⟩, some ⟨1, 4, [.v (.bool y1)], false⟩] (by kernel_rfl) ?_
  refine RunK.done rfl (SemK.fr (l' := [(0, .v (.int .i64 y2)), (1, .v (.int .i64 y3)), (2, .pt 0 0 0), (3, .pt 1 0 0)]) (by kernel_rfl) ?_)
  refine SemK.seq ?_
  refine SemK.region ?_
  refine RunK.segF (n := 30) e_law09_EveningAxioms_k1_ok 3 [(2, .pt 0 0 0), (3, .pt 1 0 0), (10, .v (.int .i64 y0)), (11, .v (.int .i64 y2)), (12, .v (.int .i64 y3))] [some ⟨1, 3, [.v (.int .i64 y0)], false⟩, some ⟨1, 4, [.v (.bool y1)], false⟩] (by kernel_rfl) ?_
  obtain ⟨v1, hv1, h⟩ := Option.bind_eq_some_iff.1 h
  refine RunK.call e_law09_EveningAxioms_k1_ok (fid := 18) (s := cs_evening_Add) (F := fun a => evening_Add a.1 a.2.1 a.2.2.1) (er := er_evening_Add) (xs := [.v (.int .i64 y0), .v (.int .i64 y2), .v (.int .i64 y3)]) (a := (y0, y2, y3, ())) rfl (wantedA_none rfl) (by kernel_rfl) (by kernel_rfl) (by kernel_rfl) (by kernel_rfl) (Sns.cons (Sn.enc (c := cdI) (v := y0)) (Sns.cons (Sn.enc (c := cdI) (v := y2)) (Sns.cons (Sn.enc (c := cdI) (v := y3)) Sns.nil))) (.inl (by kernel_rfl)) hv1 ?_
  refine RunK.segF (n := 30) e_law09_EveningAxioms_k1_ok 5 [(2, .pt 0 0 0), (3, .pt 1 0 0), (7, .v (.int .i64 v1.1)), (8, .v (.bool v1.2))] [some ⟨1, 3, [.v (.int .i64 y0)], false⟩, some ⟨1, 4, [.v (.bool y1)], false⟩] (by kernel_rfl) ?_
  refine RunK.done rfl (SemK.fr (l' := [(2, .pt 0 0 0), (3, .pt 1 0 0), (7, .v (.int .i64 v1.1)), (8, .v (.bool v1.2))]) (by kernel_rfl) ?_)
  refine SemK.seq ?_
  refine SemK.region ?_
  refine RunK.segF (n := 30) e_law09_EveningAxioms_k1_ok 2 [(2, .pt 0 0 0), (3, .pt 1 0 0), (7, .v (.int .i64 v1.1)), (8, .v (.bool v1.2)), (17, .v (.bool y1))] [some ⟨1, 3, [.v (.int .i64 y0)], false⟩, some ⟨1, 4, [.v (.bool y1)], false⟩] (by kernel_rfl) ?_
  rcases Bool.eq_false_or_eq_true y1 with hc2 | hc2
  · rw [if_pos hc2] at h
    rw [hc2]
    refine RunK.segF (n := 30) e_law09_EveningAxioms_k1_ok 3 [(2, .pt 0 0 0), (3, .pt 1 0 0), (7, .v (.int .i64 v1.1)), (20, .v (.bool v1.2))] [some ⟨1, 3, [.v (.int .i64 y0)], false⟩, some ⟨1, 4, [.v (.bool true)], false⟩] (by kernel_rfl) ?_
    rcases Bool.eq_false_or_eq_true v1.2 with hc3 | hc3
    · rw [if_pos hc3] at h
      rw [hc3]
      refine RunK.segF (n := 30) e_law09_EveningAxioms_k1_ok 4 [(2, .pt 0 0 0), (3, .pt 1 0 0), (7, .v (.int .i64 v1.1)), (24, .v (.bool (decide (v1.1 ≥ 0))))] [some ⟨1, 3, [.v (.int .i64 y0)], false⟩, some ⟨1, 4, [.v (.bool true)], false⟩] (by kernel_rfl) ?_
      rcases Bool.eq_false_or_eq_true (decide (v1.1 ≥ 0)) with hc4 | hc4
      · rw [if_pos hc4] at h
        rw [hc4]
        refine RunK.segF (n := 30) e_law09_EveningAxioms_k1_ok 5 [(7, .v (.int .i64 v1.1))] [some ⟨1, 3, [.v (.int .i64 y0)], false⟩, some ⟨1, 4, [.v (.bool (decide (v1.1 < y0)))], false⟩] (by kernel_rfl) ?_
        refine RunK.done rfl (SemK.fr (l' := [(7, .v (.int .i64 v1.1))]) (by kernel_rfl) ?_)
        refine SemK.seq ?_
        refine SemK.region ?_
        refine RunK.segF (n := 30) e_law09_EveningAxioms_k1_ok 2 [(6, .v (.int .i64 v1.1))] [some ⟨1, 3, [.v (.int .i64 y0)], false⟩, some ⟨1, 4, [.v (.bool (decide (v1.1 < y0)))], false⟩] (by kernel_rfl) ?_
        refine RunK.done rfl (SemK.fr (l' := [(6, .v (.int .i64 v1.1))]) (by kernel_rfl) ?_)
        refine SemK.ret ?_
        have hq := Option.some.inj h; subst hq
        exact ⟨.inr rfl, [.v (.int .i64 v1.1)], (by kernel_rfl), (by kernel_rfl), (by kernel_rfl)⟩
      · rw [if_f hc4] at h
        rw [hc4]
        refine RunK.segF (n := 30) e_law09_EveningAxioms_k1_ok 5 [(7, .v (.int .i64 v1.1))] [some ⟨1, 3, [.v (.int .i64 y0)], false⟩, some ⟨1, 4, [.v (.bool false)], false⟩] (by kernel_rfl) ?_
        refine RunK.done rfl (SemK.fr (l' := [(7, .v (.int .i64 v1.1))]) (by kernel_rfl) ?_)
        refine SemK.seq ?_
        refine SemK.region ?_
        refine RunK.segF (n := 30) e_law09_EveningAxioms_k1_ok 2 [(6, .v (.int .i64 v1.1))] [some ⟨1, 3, [.v (.int .i64 y0)], false⟩, some ⟨1, 4, [.v (.bool false)], false⟩] (by kernel_rfl) ?_
        refine RunK.done rfl (SemK.fr (l' := [(6, .v (.int .i64 v1.1))]) (by kernel_rfl) ?_)
        refine SemK.ret ?_
        have hq := Option.some.inj h; subst hq
        exact ⟨.inr rfl, [.v (.int .i64 v1.1)], (by kernel_rfl), (by kernel_rfl), (by kernel_rfl)⟩
    · rw [if_f hc3] at h
      rw [hc3]
      refine RunK.segF (n := 30) e_law09_EveningAxioms_k1_ok 9 [(7, .v (.int .i64 v1.1))] [some ⟨1, 3, [.v (.int .i64 y0)], false⟩, some ⟨1, 4, [.v (.bool false)], false⟩] (by kernel_rfl) ?_
      refine RunK.done rfl (SemK.fr (l' := [(7, .v (.int .i64 v1.1))]) (by kernel_rfl) ?_)
      refine SemK.seq ?_
      refine SemK.region ?_
      refine RunK.segF (n := 30) e_law09_EveningAxioms_k1_ok 2 [(6, .v (.int .i64 v1.1))] [some ⟨1, 3, [.v (.int .i64 y0)], false⟩, some ⟨1, 4, [.v (.bool false)], false⟩] (by kernel_rfl) ?_
      refine RunK.done rfl (SemK.fr (l' := [(6, .v (.int .i64 v1.1))]) (by kernel_rfl) ?_)
      refine SemK.ret ?_
      have hq := Option.some.inj h; subst hq
      exact ⟨.inr rfl, [.v (.int .i64 v1.1)], (by kernel_rfl), (by kernel_rfl), (by kernel_rfl)⟩
  · rw [if_f hc2] at h
    rw [hc2]
    refine RunK.segF (n := 30) e_law09_EveningAxioms_k1_ok 12 [(7, .v (.int .i64 v1.1))] [some ⟨1, 3, [.v (.int .i64 y0)], false⟩, some ⟨1, 4, [.v (.bool false)], false⟩] (by kernel_rfl) ?_
    refine RunK.done rfl (SemK.fr (l' := [(7, .v (.int .i64 v1.1))]) (by kernel_rfl) ?_)
    refine SemK.seq ?_
    refine SemK.region ?_
    refine RunK.segF (n := 30) e_law09_EveningAxioms_k1_ok 2 [(6, .v (.int .i64 v1.1))] [some ⟨1, 3, [.v (.int .i64 y0)], false⟩, some ⟨1, 4, [.v (.bool false)], false⟩] (by kernel_rfl) ?_
    refine RunK.done rfl (SemK.fr (l' := [(6, .v (.int .i64 v1.1))]) (by kernel_rfl) ?_)
    refine SemK.ret ?_
    have hq := Option.some.inj h; subst hq
    exact ⟨.inr rfl, [.v (.int .i64 v1.1)], (by kernel_rfl), (by kernel_rfl), (by kernel_rfl)⟩

noncomputable def e_law09_EveningAxioms_k2 : Env := (E0.withX 20 t_evening_Mul)
theorem e_law09_EveningAxioms_k2_ok : EnvOk e_law09_EveningAxioms_k2 := (EnvOk.withX E0_ok x_evening_Mul.1 x_evening_Mul.2)
def law09_EveningAxioms_k2 (y0 : Int) (y1 : Bool) (y2 : Int) (y3 : Int) : Option (Int × Bool) :=
  (evening_Mul y0 y2 y3).bind fun v1 =>
  if y1 = true then
  if v1.2 = true then
  if (decide (v1.1 ≥ 0)) = true then
  some (v1.1, (decide (v1.1 < y0)))
  else
  some (v1.1, false)
  else
  some (v1.1, false)
  else
  some (v1.1, false)
noncomputable def cb_law09_EveningAxioms_k2 : Code := codeOf Tryd.f19
set_option maxHeartbeats 4000000 in
set_option maxRecDepth 100000 in
theorem law09_EveningAxioms_k2_sem (y0 : Int) (y1 : Bool) (y2 : Int) (y3 : Int) (r : Int × Bool) (h : law09_EveningAxioms_k2 y0 y1 y2 y3 = some r) : SemK e_law09_EveningAxioms_k2 cb_law09_EveningAxioms_k2 ⟨Fr 30 (pairs0 0 [.v (.int .i64 y2), .v (.int .i64 y3), .pt 0 0 0, .pt 1 0 0]), [some ⟨1, 3, [.v (.int .i64 y0)], false⟩, some ⟨1, 4, [.v (.bool y1)], false⟩]⟩ fun x s' => (x = .normal ∨ x = .ret) ∧ ∃ ys, resA e_law09_EveningAxioms_k2.P s'.fr s'.hp Tryd.f19.results.toList = some ys ∧ (retA ys = .v (.int .i64 r.1) ∧ s'.hp = [some ⟨1, 3, [.v (.int .i64 y0)], false⟩, some ⟨1, 4, [.v (.bool r.2)], false⟩]) := by
  unfold law09_EveningAxioms_k2 at h
  refine SemK.seq ?_
  refine SemK.region ?_
  refine RunK.segF (n := 30) e_law09_EveningAxioms_k2_ok 1 [(0, .v (.int .i64 y2)), (1, .v (.int .i64 y3)), (2, .pt 0 0 0), (3, .pt 1 0 0)] [some ⟨1, 3, [.v (.int .i64 y0)], false⟩, some ⟨1, 4, [.v (.bool y1)], false⟩] (by kernel_rfl) ?_
  refine RunK.done rfl (SemK.fr (l' := [(0, .v (.int .i64 y2)), (1, .v (.int .i64 y3)), (2, .pt 0 0 0), (3, .pt 1 0 0)]) (by kernel_rfl) ?_)
  refine SemK.seq ?_
  refine SemK.region ?_
  refine RunK.segF (n := 30) e_law09_EveningAxioms_k2_ok 3 [(2, .pt 0 0 0), (3, .pt 1 0 0), (10, .v (.int .i64 y0)), (11, .v (.int .i64 y2)), (12, .v (.int .i64 y3))] [some ⟨1, 3, [.v (.int .i64 y0)], false⟩, some ⟨1, 4, [.v (.bool y1)], false⟩] (by kernel_rfl) ?_
  obtain ⟨v1, hv1, h⟩ := Option.bind_eq_some_iff.1 h
  refine RunK.call e_law09_EveningAxioms_k2_ok (fid := 20) (s := cs_evening_Mul) (F := fun a => evening_Mul a.1 a.2.1 a.2.2.1) (er := er_evening_Mul) (xs := [.v (.int .i64 y0), .v (.int .i64 y2), .v (.int .i64 y3)]) (a := (y0, y2, y3, ())) rfl (wantedA_none rfl) (by kernel_rfl) (by kernel_rfl) (by kernel_rfl) (by kernel_rfl) (Sns.cons (Sn.enc (c := cdI) (v := y0)) (Sns.cons (Sn.enc (c := cdI) (v := y2)) (Sns.cons (Sn.enc (c := cdI) (v := y3)) Sns.nil))) (.inl (by kernel_rfl)) hv1 ?_
  refine RunK.segF (n := 30) e_law09_EveningAxioms_k2_ok 5 [(2, .pt 0 0 0), (3, .pt 1 0 0), (7, .v (.int .i64 v1.1)), (8, .v (.bool v1.2))] [some ⟨1, 3, [.v (.int .i64 y0)], false⟩, some ⟨1, 4, [.v (.bool y1)], false⟩] (by kernel_rfl) ?_
  refine RunK.done rfl (SemK.fr (l' := [(2, .pt 0 0 0), (3, .pt 1 0 0), (7, .v (.int .i64 v1.1)), (8, .v (.bool v1.2))]) (by kernel_rfl) ?_)
  refine SemK.seq ?_
  refine SemK.region ?_
  refine RunK.segF (n := 30) e_law09_EveningAxioms_k2_ok 2 [(2, .pt 0 0 0), (3, .pt 1 0 0), (7, .v (.int .i64 v1.1)), (8, .v (.bool v1.2)), (17, .v (.bool y1))] [some ⟨1, 3, [.v (.int .i64 y0)], false⟩, some ⟨1, 4, [.v (.bool y1)], false⟩] (by kernel_rfl) ?_
  rcases Bool.eq_false_or_eq_true y1 with hc2 | hc2
  · rw [if_pos hc2] at h
    rw [hc2]
    refine RunK.segF (n := 30) e_law09_EveningAxioms_k2_ok 3 [(2, .pt 0 0 0), (3, .pt 1 0 0), (7, .v (.int .i64 v1.1)), (20, .v (.bool v1.2))] [some ⟨1, 3, [.v (.int .i64 y0)], false⟩, some ⟨1, 4, [.v (.bool true)], false⟩] (by kernel_rfl) ?_
    rcases Bool.eq_false_or_eq_true v1.2 with hc3 | hc3
    · rw [if_pos hc3] at h
      rw [hc3]
      refine RunK.segF (n := 30) e_law09_EveningAxioms_k2_ok 4 [(2, .pt 0 0 0), (3, .pt 1 0 0), (7, .v (.int .i64 v1.1)), (24, .v (.bool (decide (v1.1 ≥ 0))))] [some ⟨1, 3, [.v (.int .i64 y0)], false⟩, some ⟨1, 4, [.v (.bool true)], false⟩] (by kernel_rfl) ?_
      rcases Bool.eq_false_or_eq_true (decide (v1.1 ≥ 0)) with hc4 | hc4
      · rw [if_pos hc4] at h
        rw [hc4]
        refine RunK.segF (n := 30) e_law09_EveningAxioms_k2_ok 5 [(7, .v (.int .i64 v1.1))] [some ⟨1, 3, [.v (.int .i64 y0)], false⟩, some ⟨1, 4, [.v (.bool (decide (v1.1 < y0)))], false⟩] (by kernel_rfl) ?_
        refine RunK.done rfl (SemK.fr (l' := [(7, .v (.int .i64 v1.1))]) (by kernel_rfl) ?_)
        refine SemK.seq ?_
        refine SemK.region ?_
        refine RunK.segF (n := 30) e_law09_EveningAxioms_k2_ok 2 [(6, .v (.int .i64 v1.1))] [some ⟨1, 3, [.v (.int .i64 y0)], false⟩, some ⟨1, 4, [.v (.bool (decide (v1.1 < y0)))], false⟩] (by kernel_rfl) ?_
        refine RunK.done rfl (SemK.fr (l' := [(6, .v (.int .i64 v1.1))]) (by kernel_rfl) ?_)
        refine SemK.ret ?_
        have hq := Option.some.inj h; subst hq
        exact ⟨.inr rfl, [.v (.int .i64 v1.1)], (by kernel_rfl), (by kernel_rfl), (by kernel_rfl)⟩
      · rw [if_f hc4] at h
        rw [hc4]
        refine RunK.segF (n := 30) e_law09_EveningAxioms_k2_ok 5 [(7, .v (.int .i64 v1.1))] [some ⟨1, 3, [.v (.int .i64 y0)], false⟩, some ⟨1, 4, [.v (.bool false)], false⟩] (by kernel_rfl) ?_
        refine RunK.done rfl (SemK.fr (l' := [(7, .v (.int .i64 v1.1))]) (by kernel_rfl) ?_)
        refine SemK.seq ?_
        refine SemK.region ?_
        refine RunK.segF (n := 30) e_law09_EveningAxioms_k2_ok 2 [(6, .v (.int .i64 v1.1))] [some ⟨1, 3, [.v (.int .i64 y0)], false⟩, some ⟨1, 4, [.v (.bool false)], false⟩] (by kernel_rfl) ?_
        refine RunK.done rfl (SemK.fr (l' := [(6, .v (.int .i64 v1.1))]) (by kernel_rfl) ?_)
        refine SemK.ret ?_
        have hq := Option.some.inj h; subst hq
        exact ⟨.inr rfl, [.v (.int .i64 v1.1)], (by kernel_rfl), (by kernel_rfl), (by kernel_rfl)⟩
    · rw [if_f hc3] at h
      rw [hc3]
      refine RunK.segF (n := 30) e_law09_EveningAxioms_k2_ok 9 [(7, .v (.int .i64 v1.1))] [some ⟨1, 3, [.v (.int .i64 y0)], false⟩, some ⟨1, 4, [.v (.bool false)], false⟩] (by kernel_rfl) ?_
      refine RunK.done rfl (SemK.fr (l' := [(7, .v (.int .i64 v1.1))]) (by kernel_rfl) ?_)
      refine SemK.seq ?_
      refine SemK.region ?_
      refine RunK.segF (n := 30) e_law09_EveningAxioms_k2_ok 2 [(6, .v (.int .i64 v1.1))] [some ⟨1, 3, [.v (.int .i64 y0)], false⟩, some ⟨1, 4, [.v (.bool false)], false⟩] (by kernel_rfl) ?_
      refine RunK.done rfl (SemK.fr (l' := [(6, .v (.int .i64 v1.1))]) (by kernel_rfl) ?_)
      refine SemK.ret ?_
      have hq := Option.some.inj h; subst hq
      exact ⟨.inr rfl, [.v (.int .i64 v1.1)], (by kernel_rfl), (by kernel_rfl), (by kernel_rfl)⟩
  · rw [if_f hc2] at h
    rw [hc2]
    refine RunK.segF (n := 30) e_law09_EveningAxioms_k2_ok 12 [(7, .v (.int .i64 v1.1))] [some ⟨1, 3, [.v (.int .i64 y0)], false⟩, some ⟨1, 4, [.v (.bool false)], false⟩] (by kernel_rfl) ?_
    refine RunK.done rfl (SemK.fr (l' := [(7, .v (.int .i64 v1.1))]) (by kernel_rfl) ?_)
    refine SemK.seq ?_
    refine SemK.region ?_
    refine RunK.segF (n := 30) e_law09_EveningAxioms_k2_ok 2 [(6, .v (.int .i64 v1.1))] [some ⟨1, 3, [.v (.int .i64 y0)], false⟩, some ⟨1, 4, [.v (.bool false)], false⟩] (by kernel_rfl) ?_
    refine RunK.done rfl (SemK.fr (l' := [(6, .v (.int .i64 v1.1))]) (by kernel_rfl) ?_)
    refine SemK.ret ?_
    have hq := Option.some.inj h; subst hq
    exact ⟨.inr rfl, [.v (.int .i64 v1.1)], (by kernel_rfl), (by kernel_rfl), (by kernel_rfl)⟩
def law09_EveningAxioms_j2 (x1 : Int) (v1 : Int) (j28 : Int × Bool × Bool) (c29 : Int) (c31 : Bool) (c32 : Int) (c33 : Int) (c34 : Int) (v36 : Int × Bool) : Option ((Int)) :=
  if (v36.1 == 0) = true then
  some (wr .i64 (c32 + 1))
  else
  some c32
def law09_EveningAxioms_j3 (x1 : Int) (v1 : Int) (j28 : Int × Bool × Bool) (c29 : Int) (c31 : Bool) (c33 : Int) (c34 : Int) (r39 : Int) (v40 : Int × Bool) : Option ((Int)) :=
  if (v40.1 == 1) = true then
  some (wr .i64 (c33 + 1))
  else
  some c33
def law09_EveningAxioms_1 (x1 : Int) (v1 : Int) (j28 : Int × Bool × Bool) : Nat → Int → Bool → Bool → Int → Int → Int → Option ((Int × Bool × Bool × Int × Int))
  | 0, _, _, _, _, _, _ => none
  | f + 1, c29, c30, c31, c32, c33, c34 =>
    if (decide (c34 < j28.1)) = true then
    (law09_EveningAxioms_k1 c29 c30 ((wr .i64 x1).tmod v1) c34).bind fun v36 =>
    (law09_EveningAxioms_j2 x1 v1 j28 c29 c31 c32 c33 c34 v36).bind fun r39 =>
    (law09_EveningAxioms_k2 c29 v36.2 ((wr .i64 x1).tmod v1) c34).bind fun v40 =>
    (law09_EveningAxioms_j3 x1 v1 j28 c29 c31 c33 c34 r39 v40).bind fun r43 =>
    (if c31 = true then (law09_EveningAxioms_k2 c29 v40.2 ((wr .i64 x1).tmod v1) c34).bind fun v44 =>
    if (((wr .i64 x1).tmod v1) == 0) = true then some (c29, v44.2, ((v44.1 == 0) == true)) else some (c29, v44.2, ((v44.1 == 0) == (c34 == 0))) else some (c29, v40.2, false)).bind fun j48 =>
    law09_EveningAxioms_1 x1 v1 j28 f j48.1 j48.2.1 j48.2.2 r39 r43 (wr .i64 (c34 + 1))
    else
    some (c29, c30, c31, c32, c33)
def law09_EveningAxioms (x0 : Int) (x1 : Int) (x2 : Int) (x3 : Int) : Option (Bool) :=
  (idx [2, 3, 4, 5, 7, 8, 9, 11, 13, 16] (x0.tmod 10)).bind fun v1 =>
  if v1 = (0 : Int) then none else
  if v1 = (0 : Int) then none else
  if v1 = (0 : Int) then none else
  (law09_EveningAxioms_k1 v1 true ((wr .i64 x2).tmod v1) ((wr .i64 x3).tmod v1)).bind fun v5 =>
  (law09_EveningAxioms_k1 v1 v5.2 ((wr .i64 x1).tmod v1) v5.1).bind fun v6 =>
  (law09_EveningAxioms_k1 v1 v6.2 ((wr .i64 x1).tmod v1) ((wr .i64 x2).tmod v1)).bind fun v7 =>
  (law09_EveningAxioms_k1 v1 v7.2 v7.1 ((wr .i64 x3).tmod v1)).bind fun v8 =>
  (if (v6.1 == v8.1) = true then (law09_EveningAxioms_k2 v1 v8.2 ((wr .i64 x2).tmod v1) ((wr .i64 x3).tmod v1)).bind fun v9 =>
  (law09_EveningAxioms_k2 v1 v9.2 ((wr .i64 x1).tmod v1) v9.1).bind fun v10 =>
  (law09_EveningAxioms_k2 v1 v10.2 ((wr .i64 x1).tmod v1) ((wr .i64 x2).tmod v1)).bind fun v11 =>
  (law09_EveningAxioms_k2 v1 v11.2 v11.1 ((wr .i64 x3).tmod v1)).bind fun v12 =>
  if (v10.1 == v12.1) = true then (law09_EveningAxioms_k1 v1 v12.2 ((wr .i64 x1).tmod v1) ((wr .i64 x2).tmod v1)).bind fun v13 =>
  (law09_EveningAxioms_k1 v1 v13.2 ((wr .i64 x2).tmod v1) ((wr .i64 x1).tmod v1)).bind fun v14 =>
  if (v13.1 == v14.1) = true then (law09_EveningAxioms_k2 v1 v14.2 ((wr .i64 x1).tmod v1) ((wr .i64 x2).tmod v1)).bind fun v15 =>
  (law09_EveningAxioms_k2 v1 v15.2 ((wr .i64 x2).tmod v1) ((wr .i64 x1).tmod v1)).bind fun v16 =>
  if (v15.1 == v16.1) = true then (law09_EveningAxioms_k1 v1 v16.2 ((wr .i64 x2).tmod v1) ((wr .i64 x3).tmod v1)).bind fun v17 =>
  (law09_EveningAxioms_k2 v1 v17.2 ((wr .i64 x1).tmod v1) v17.1).bind fun v18 =>
  (law09_EveningAxioms_k2 v1 v18.2 ((wr .i64 x1).tmod v1) ((wr .i64 x2).tmod v1)).bind fun v19 =>
  (law09_EveningAxioms_k2 v1 v19.2 ((wr .i64 x1).tmod v1) ((wr .i64 x3).tmod v1)).bind fun v20 =>
  (law09_EveningAxioms_k1 v1 v20.2 v19.1 v20.1).bind fun v21 =>
  if (v18.1 == v21.1) = true then (law09_EveningAxioms_k1 v1 v21.2 ((wr .i64 x1).tmod v1) 0).bind fun v22 =>
  if (v22.1 == ((wr .i64 x1).tmod v1)) = true then (law09_EveningAxioms_k2 v1 v22.2 ((wr .i64 x1).tmod v1) 1).bind fun v23 =>
  if (v23.1 == ((wr .i64 x1).tmod v1)) = true then (law09_EveningAxioms_k2 v1 v23.2 ((wr .i64 x1).tmod v1) 0).bind fun v24 =>
  some (v1, v24.2, (v24.1 == 0)) else some (v1, v23.2, false) else some (v1, v22.2, false) else some (v1, v21.2, false) else some (v1, v16.2, false) else some (v1, v14.2, false) else some (v1, v12.2, false) else some (v1, v8.2, false)).bind fun j28 =>
  (law09_EveningAxioms_1 x1 v1 j28 100000 j28.1 j28.2.1 j28.2.2 0 0 0).bind fun r56 =>
  (evening_Mul r56.1 ((wr .i64 x1).tmod v1) r56.1).bind fun v57 =>
  (idx [0, 1, 6, 10, 12, 14, 15, 17] (x1.tmod 8)).bind fun v58 =>
  (evening_Add v58 0 0).bind fun v59 =>
  (if r56.2.1 = true then if r56.2.2.1 = true then if (r56.2.2.2.1 == 1) = true then if (r56.2.2.2.2 == (mnI ((wr .i64 x1).tmod v1) 1)) = true then if (!v57.2) = true then if (!v59.2) = true then law09_awake.bind fun v60 =>
  some v60 else some false else some false else some false else some false else some false else some false).bind fun j62 =>
  some j62
def cs_law09_EveningAxioms : Cs (Int × Int × Int × Int × Unit) := (csC (cdK .u8) (csC (cdK .u8) (csC (cdK .u8) (csC (cdK .u8) csN))))
def er_law09_EveningAxioms (r : Bool) : AV := cdB.enc r
noncomputable def cb_law09_EveningAxioms : Code := codeOf Tryd.f4
set_option maxHeartbeats 4000000 in
set_option maxRecDepth 100000 in
theorem law09_EveningAxioms_j2_ok (x1 : Int) (v1 : Int) (j28 : Int × Bool × Bool) (c29 : Int) (c31 : Bool) (c32 : Int) (c33 : Int) (c34 : Int) (v36 : Int × Bool) (r : (Int)) (h : law09_EveningAxioms_j2 x1 v1 j28 c29 c31 c32 c33 c34 v36 = some r) : Sem e_law09_EveningAxioms ⟨none, false⟩ (pc cb_law09_EveningAxioms [1, 1, 1, 1, 1, 1, 1, 1, 0, 1, 0, 0, 1, 1, 0, 0, 1, 0, 1]) ⟨Fr 212 [(1, .v (.int .u8 x1)), (9, .pt 0 0 0), (10, .v (.int .i64 ((wr .i64 x1).tmod v1))), (13, .pt 1 0 0), (14, .fn 17 [] [.pt 0 0 0, .pt 1 0 0]), (15, .fn 19 [] [.pt 0 0 0, .pt 1 0 0]), (16, .v (.bool c31)), (17, .v (.int .i64 c32)), (18, .v (.int .i64 c33)), (19, .v (.int .i64 c34)), (137, .v (.int .i64 j28.1)), (138, .v (.int .i64 c34)), (145, .v (.bool (v36.1 == 0)))], [some ⟨1, 3, [.v (.int .i64 c29)], false⟩, some ⟨1, 4, [.v (.bool v36.2)], false⟩]⟩ (fun e s => e = .normal ∧ Wk e_law09_EveningAxioms s ⟨Fr 212 [(1, .v (.int .u8 x1)), (9, .pt 0 0 0), (10, .v (.int .i64 ((wr .i64 x1).tmod v1))), (13, .pt 1 0 0), (14, .fn 17 [] [.pt 0 0 0, .pt 1 0 0]), (15, .fn 19 [] [.pt 0 0 0, .pt 1 0 0]), (16, .v (.bool c31)), (17, .v (.int .i64 r)), (18, .v (.int .i64 c33)), (19, .v (.int .i64 c34)), (137, .v (.int .i64 j28.1)), (138, .v (.int .i64 c34))], [some ⟨1, 3, [.v (.int .i64 c29)], false⟩, some ⟨1, 4, [.v (.bool v36.2)], false⟩]⟩) := by
  unfold law09_EveningAxioms_j2 at h
  refine Sem.cond (b := (v36.1 == 0)) (by kernel_rfl) (fun hb37 => ?_) (fun hb37 => ?_)
  · rw [if_pos hb37] at h
    refine Sem.runS (s1 := ⟨Fr 212 [(1, .v (.int .u8 x1)), (9, .pt 0 0 0), (10, .v (.int .i64 ((wr .i64 x1).tmod v1))), (13, .pt 1 0 0), (14, .fn 17 [] [.pt 0 0 0, .pt 1 0 0]), (15, .fn 19 [] [.pt 0 0 0, .pt 1 0 0]), (16, .v (.bool c31)), (17, .v (.int .i64 (wr .i64 (c32 + 1)))), (18, .v (.int .i64 c33)), (19, .v (.int .i64 c34)), (137, .v (.int .i64 j28.1)), (138, .v (.int .i64 c34))], [some ⟨1, 3, [.v (.int .i64 c29)], false⟩, some ⟨1, 4, [.v (.bool v36.2)], false⟩]⟩) ?_ ?_
    · refine RunS.segF (n := 212) e_law09_EveningAxioms_ok 3 [(1, .v (.int .u8 x1)), (9, .pt 0 0 0), (10, .v (.int .i64 ((wr .i64 x1).tmod v1))), (13, .pt 1 0 0), (14, .fn 17 [] [.pt 0 0 0, .pt 1 0 0]), (15, .fn 19 [] [.pt 0 0 0, .pt 1 0 0]), (16, .v (.bool c31)), (17, .v (.int .i64 (wr .i64 (c32 + 1)))), (18, .v (.int .i64 c33)), (19, .v (.int .i64 c34)), (137, .v (.int .i64 j28.1)), (138, .v (.int .i64 c34))] [some ⟨1, 3, [.v (.int .i64 c29)], false⟩, some ⟨1, 4, [.v (.bool v36.2)], false⟩] (by kernel_rfl) ?_
      exact RunS.done rfl (Wk.sel2 [0, 1] (by kernel_rfl) (by kernel_rfl) (by kernel_rfl) ⟨⟨_, rfl, bu_c (by kernel_rfl) (by kernel_rfl)⟩, ⟨_, rfl, bu_c (by kernel_rfl) (by kernel_rfl)⟩, trivial⟩ ⟨lu (by kernel_rfl) (by kernel_rfl), lu (by kernel_rfl) (by kernel_rfl), lu (by kernel_rfl) (by kernel_rfl), lu (by kernel_rfl) (by kernel_rfl), lu (by kernel_rfl) (by kernel_rfl), lu (by kernel_rfl) (by kernel_rfl), lu (by kernel_rfl) (by kernel_rfl), lu (by kernel_rfl) (by kernel_rfl), lu (by kernel_rfl) (by kernel_rfl), lu (by kernel_rfl) (by kernel_rfl), lu (by kernel_rfl) (by kernel_rfl), lu (by kernel_rfl) (by kernel_rfl), trivial⟩)
    have hq := Option.some.inj h; subst hq
    exact ⟨rfl, (Wk.sel2 [0, 1] (by kernel_rfl) (by kernel_rfl) (by kernel_rfl) ⟨⟨_, rfl, bu_c (by kernel_rfl) (by kernel_rfl)⟩, ⟨_, rfl, bu_c (by kernel_rfl) (by kernel_rfl)⟩, trivial⟩ ⟨lu (by kernel_rfl) (by kernel_rfl), lu (by kernel_rfl) (by kernel_rfl), lu (by kernel_rfl) (by kernel_rfl), lu (by kernel_rfl) (by kernel_rfl), lu (by kernel_rfl) (by kernel_rfl), lu (by kernel_rfl) (by kernel_rfl), lu (by kernel_rfl) (by kernel_rfl), lu (by kernel_rfl) (by kernel_rfl), lu (by kernel_rfl) (by kernel_rfl), lu (by kernel_rfl) (by kernel_rfl), lu (by kernel_rfl) (by kernel_rfl), lu (by kernel_rfl) (by kernel_rfl), trivial⟩)⟩
  · rw [if_f hb37] at h
    refine Sem.skip ?_
    have hq := Option.some.inj h; subst hq
    exact ⟨rfl, (Wk.sel2 [0, 1] (by kernel_rfl) (by kernel_rfl) (by kernel_rfl) ⟨⟨_, rfl, bu_c (by kernel_rfl) (by kernel_rfl)⟩, ⟨_, rfl, bu_c (by kernel_rfl) (by kernel_rfl)⟩, trivial⟩ ⟨lu (by kernel_rfl) (by kernel_rfl), lu (by kernel_rfl) (by kernel_rfl), lu (by kernel_rfl) (by kernel_rfl), lu (by kernel_rfl) (by kernel_rfl), lu (by kernel_rfl) (by kernel_rfl), lu (by kernel_rfl) (by kernel_rfl), lu (by kernel_rfl) (by kernel_rfl), lu (by kernel_rfl) (by kernel_rfl), lu (by kernel_rfl) (by kernel_rfl), lu (by kernel_rfl) (by kernel_rfl), lu (by kernel_rfl) (by kernel_rfl), lu (by kernel_rfl) (by kernel_rfl), trivial⟩)⟩
set_option maxHeartbeats 4000000 in
set_option maxRecDepth 100000 in
theorem law09_EveningAxioms_j3_ok (x1 : Int) (v1 : Int) (j28 : Int × Bool × Bool) (c29 : Int) (c31 : Bool) (c33 : Int) (c34 : Int) (r39 : Int) (v40 : Int × Bool) (r : (Int)) (h : law09_EveningAxioms_j3 x1 v1 j28 c29 c31 c33 c34 r39 v40 = some r) : Sem e_law09_EveningAxioms ⟨none, false⟩ (pc cb_law09_EveningAxioms [1, 1, 1, 1, 1, 1, 1, 1, 0, 1, 0, 0, 1, 1, 0, 0, 1, 1, 0, 1]) ⟨Fr 212 [(1, .v (.int .u8 x1)), (9, .pt 0 0 0), (10, .v (.int .i64 ((wr .i64 x1).tmod v1))), (13, .pt 1 0 0), (14, .fn 17 [] [.pt 0 0 0, .pt 1 0 0]), (15, .fn 19 [] [.pt 0 0 0, .pt 1 0 0]), (16, .v (.bool c31)), (17, .v (.int .i64 r39)), (18, .v (.int .i64 c33)), (19, .v (.int .i64 c34)), (137, .v (.int .i64 j28.1)), (138, .v (.int .i64 c34)), (152, .v (.bool (v40.1 == 1)))], [some ⟨1, 3, [.v (.int .i64 c29)], false⟩, some ⟨1, 4, [.v (.bool v40.2)], false⟩]⟩ (fun e s => e = .normal ∧ Wk e_law09_EveningAxioms s ⟨Fr 212 [(1, .v (.int .u8 x1)), (9, .pt 0 0 0), (10, .v (.int .i64 ((wr .i64 x1).tmod v1))), (13, .pt 1 0 0), (14, .fn 17 [] [.pt 0 0 0, .pt 1 0 0]), (15, .fn 19 [] [.pt 0 0 0, .pt 1 0 0]), (16, .v (.bool c31)), (17, .v (.int .i64 r39)), (18, .v (.int .i64 r)), (19, .v (.int .i64 c34)), (137, .v (.int .i64 j28.1)), (138, .v (.int .i64 c34))], [some ⟨1, 3, [.v (.int .i64 c29)], false⟩, some ⟨1, 4, [.v (.bool v40.2)], false⟩]⟩) := by
  unfold law09_EveningAxioms_j3 at h
  refine Sem.cond (b := (v40.1 == 1)) (by kernel_rfl) (fun hb41 => ?_) (fun hb41 => ?_)
  · rw [if_pos hb41] at h
    refine Sem.runS (s1 := ⟨Fr 212 [(1, .v (.int .u8 x1)), (9, .pt 0 0 0), (10, .v (.int .i64 ((wr .i64 x1).tmod v1))), (13, .pt 1 0 0), (14, .fn 17 [] [.pt 0 0 0, .pt 1 0 0]), (15, .fn 19 [] [.pt 0 0 0, .pt 1 0 0]), (16, .v (.bool c31)), (17, .v (.int .i64 r39)), (18, .v (.int .i64 (wr .i64 (c33 + 1)))), (19, .v (.int .i64 c34)), (137, .v (.int .i64 j28.1)), (138, .v (.int .i64 c34))], [some ⟨1, 3, [.v (.int .i64 c29)], false⟩, some ⟨1, 4, [.v (.bool v40.2)], false⟩]⟩) ?_ ?_
    · refine RunS.segF (n := 212) e_law09_EveningAxioms_ok 3 [(1, .v (.int .u8 x1)), (9, .pt 0 0 0), (10, .v (.int .i64 ((wr .i64 x1).tmod v1))), (13, .pt 1 0 0), (14, .fn 17 [] [.pt 0 0 0, .pt 1 0 0]), (15, .fn 19 [] [.pt 0 0 0, .pt 1 0 0]), (16, .v (.bool c31)), (17, .v (.int .i64 r39)), (18, .v (.int .i64 (wr .i64 (c33 + 1)))), (19, .v (.int .i64 c34)), (137, .v (.int .i64 j28.1)), (138, .v (.int .i64 c34))] [some ⟨1, 3, [.v (.int .i64 c29)], false⟩, some ⟨1, 4, [.v (.bool v40.2)], false⟩] (by kernel_rfl) ?_
      exact RunS.done rfl (Wk.sel2 [0, 1] (by kernel_rfl) (by kernel_rfl) (by kernel_rfl) ⟨⟨_, rfl, bu_c (by kernel_rfl) (by kernel_rfl)⟩, ⟨_, rfl, bu_c (by kernel_rfl) (by kernel_rfl)⟩, trivial⟩ ⟨lu (by kernel_rfl) (by kernel_rfl), lu (by kernel_rfl) (by kernel_rfl), lu (by kernel_rfl) (by kernel_rfl), lu (by kernel_rfl) (by kernel_rfl), lu (by kernel_rfl) (by kernel_rfl), lu (by kernel_rfl) (by kernel_rfl), lu (by kernel_rfl) (by kernel_rfl), lu (by kernel_rfl) (by kernel_rfl), lu (by kernel_rfl) (by kernel_rfl), lu (by kernel_rfl) (by kernel_rfl), lu (by kernel_rfl) (by kernel_rfl), lu (by kernel_rfl) (by kernel_rfl), trivial⟩)
    have hq := Option.some.inj h; subst hq
    exact ⟨rfl, (Wk.sel2 [0, 1] (by kernel_rfl) (by kernel_rfl) (by kernel_rfl) ⟨⟨_, rfl, bu_c (by kernel_rfl) (by kernel_rfl)⟩, ⟨_, rfl, bu_c (by kernel_rfl) (by kernel_rfl)⟩, trivial⟩ ⟨lu (by kernel_rfl) (by kernel_rfl), lu (by kernel_rfl) (by kernel_rfl), lu (by kernel_rfl) (by kernel_rfl), lu (by kernel_rfl) (by kernel_rfl), lu (by kernel_rfl) (by kernel_rfl), lu (by kernel_rfl) (by kernel_rfl), lu (by kernel_rfl) (by kernel_rfl), lu (by kernel_rfl) (by kernel_rfl), lu (by kernel_rfl) (by kernel_rfl), lu (by kernel_rfl) (by kernel_rfl), lu (by kernel_rfl) (by kernel_rfl), lu (by kernel_rfl) (by kernel_rfl), trivial⟩)⟩
  · rw [if_f hb41] at h
    refine Sem.skip ?_
    have hq := Option.some.inj h; subst hq
    exact ⟨rfl, (Wk.sel2 [0, 1] (by kernel_rfl) (by kernel_rfl) (by kernel_rfl) ⟨⟨_, rfl, bu_c (by kernel_rfl) (by kernel_rfl)⟩, ⟨_, rfl, bu_c (by kernel_rfl) (by kernel_rfl)⟩, trivial⟩ ⟨lu (by kernel_rfl) (by kernel_rfl), lu (by kernel_rfl) (by kernel_rfl), lu (by kernel_rfl) (by kernel_rfl), lu (by kernel_rfl) (by kernel_rfl), lu (by kernel_rfl) (by kernel_rfl), lu (by kernel_rfl) (by kernel_rfl), lu (by kernel_rfl) (by kernel_rfl), lu (by kernel_rfl) (by kernel_rfl), lu (by kernel_rfl) (by kernel_rfl), lu (by kernel_rfl) (by kernel_rfl), lu (by kernel_rfl) (by kernel_rfl), lu (by kernel_rfl) (by kernel_rfl), trivial⟩)⟩
set_option maxHeartbeats 4000000 in
set_option maxRecDepth 100000 in
theorem law09_EveningAxioms_1_ok (x1 : Int) (v1 : Int) (j28 : Int × Bool × Bool) : ∀ (f : Nat) (c29 : Int) (c30 : Bool) (c31 : Bool) (c32 : Int) (c33 : Int) (c34 : Int) (r : (Int × Bool × Bool × Int × Int)), law09_EveningAxioms_1 x1 v1 j28 f c29 c30 c31 c32 c33 c34 = some r → SemN e_law09_EveningAxioms ⟨none, false⟩ (pc cb_law09_EveningAxioms [1, 1, 1, 1, 1, 1, 1, 1, 0, 1, 0, 0]) f ⟨Fr 212 [(1, .v (.int .u8 x1)), (9, .pt 0 0 0), (10, .v (.int .i64 ((wr .i64 x1).tmod v1))), (13, .pt 1 0 0), (14, .fn 17 [] [.pt 0 0 0, .pt 1 0 0]), (15, .fn 19 [] [.pt 0 0 0, .pt 1 0 0]), (16, .v (.bool c31)), (17, .v (.int .i64 c32)), (18, .v (.int .i64 c33)), (137, .v (.int .i64 j28.1)), (138, .v (.int .i64 c34))], [some ⟨1, 3, [.v (.int .i64 c29)], false⟩, some ⟨1, 4, [.v (.bool c30)], false⟩]⟩ (fun e s => e = (.exit 0) ∧ Wk e_law09_EveningAxioms s ⟨Fr 212 [(1, .v (.int .u8 x1)), (9, .pt 0 0 0), (10, .v (.int .i64 ((wr .i64 x1).tmod v1))), (13, .pt 1 0 0), (16, .v (.bool r.2.2.1)), (17, .v (.int .i64 r.2.2.2.1)), (18, .v (.int .i64 r.2.2.2.2))], [some ⟨1, 3, [.v (.int .i64 r.1)], false⟩, some ⟨1, 4, [.v (.bool r.2.1)], false⟩]⟩) := by
  intro f
  induction f with
  | zero => intro c29 c30 c31 c32 c33 c34 r h; cases h
  | succ f ih0 =>
    intro c29 c30 c31 c32 c33 c34 r h
    have ih := fun (c29 : Int) (c30 : Bool) (c31 : Bool) (c32 : Int) (c33 : Int) (c34 : Int) => ih0 c29 c30 c31 c32 c33 c34 r
    unfold law09_EveningAxioms_1 at h
    refine SemN.succ ?_
    refine Sem.seq ?_
    refine Sem.runS (s1 := ⟨Fr 212 [(1, .v (.int .u8 x1)), (9, .pt 0 0 0), (10, .v (.int .i64 ((wr .i64 x1).tmod v1))), (13, .pt 1 0 0), (14, .fn 17 [] [.pt 0 0 0, .pt 1 0 0]), (15, .fn 19 [] [.pt 0 0 0, .pt 1 0 0]), (16, .v (.bool c31)), (17, .v (.int .i64 c32)), (18, .v (.int .i64 c33)), (137, .v (.int .i64 j28.1)), (138, .v (.int .i64 c34)), (139, .v (.bool (decide (c34 < j28.1))))], [some ⟨1, 3, [.v (.int .i64 c29)], false⟩, some ⟨1, 4, [.v (.bool c30)], false⟩]⟩) ?_ ?_
    · refine RunS.segF (n := 212) e_law09_EveningAxioms_ok 1 [(1, .v (.int .u8 x1)), (9, .pt 0 0 0), (10, .v (.int .i64 ((wr .i64 x1).tmod v1))), (13, .pt 1 0 0), (14, .fn 17 [] [.pt 0 0 0, .pt 1 0 0]), (15, .fn 19 [] [.pt 0 0 0, .pt 1 0 0]), (16, .v (.bool c31)), (17, .v (.int .i64 c32)), (18, .v (.int .i64 c33)), (137, .v (.int .i64 j28.1)), (138, .v (.int .i64 c34)), (139, .v (.bool (decide (c34 < j28.1))))] [some ⟨1, 3, [.v (.int .i64 c29)], false⟩, some ⟨1, 4, [.v (.bool c30)], false⟩] (by kernel_rfl) ?_
      exact RunS.done rfl (Wk.sel2 [0, 1] (by kernel_rfl) (by kernel_rfl) (by kernel_rfl) ⟨⟨_, rfl, bu_c (by kernel_rfl) (by kernel_rfl)⟩, ⟨_, rfl, bu_c (by kernel_rfl) (by kernel_rfl)⟩, trivial⟩ ⟨lu (by kernel_rfl) (by kernel_rfl), lu (by kernel_rfl) (by kernel_rfl), lu (by kernel_rfl) (by kernel_rfl), lu (by kernel_rfl) (by kernel_rfl), lu (by kernel_rfl) (by kernel_rfl), lu (by kernel_rfl) (by kernel_rfl), lu (by kernel_rfl) (by kernel_rfl), lu (by kernel_rfl) (by kernel_rfl), lu (by kernel_rfl) (by kernel_rfl), lu (by kernel_rfl) (by kernel_rfl), lu (by kernel_rfl) (by kernel_rfl), lu (by kernel_rfl) (by kernel_rfl), trivial⟩)
    refine Sem.seq ?_
    refine Sem.cond (b := (decide (c34 < j28.1))) (by kernel_rfl) (fun hb35 => ?_) (fun hb35 => ?_)
    · rw [if_pos hb35] at h
      refine Sem.skip ?_
      refine Sem.seq ?_
      refine Sem.block ?_
      refine Sem.seq ?_
      refine Sem.runS (s1 := ⟨Fr 212 [(1, .v (.int .u8 x1)), (9, .pt 0 0 0), (10, .v (.int .i64 ((wr .i64 x1).tmod v1))), (13, .pt 1 0 0), (14, .fn 17 [] [.pt 0 0 0, .pt 1 0 0]), (15, .fn 19 [] [.pt 0 0 0, .pt 1 0 0]), (16, .v (.bool c31)), (17, .v (.int .i64 c32)), (18, .v (.int .i64 c33)), (19, .v (.int .i64 c34)), (137, .v (.int .i64 j28.1)), (138, .v (.int .i64 c34))], [some ⟨1, 3, [.v (.int .i64 c29)], false⟩, some ⟨1, 4, [.v (.bool c30)], false⟩]⟩) ?_ ?_
      · refine RunS.segF (n := 212) e_law09_EveningAxioms_ok 2 [(1, .v (.int .u8 x1)), (9, .pt 0 0 0), (10, .v (.int .i64 ((wr .i64 x1).tmod v1))), (13, .pt 1 0 0), (14, .fn 17 [] [.pt 0 0 0, .pt 1 0 0]), (15, .fn 19 [] [.pt 0 0 0, .pt 1 0 0]), (16, .v (.bool c31)), (17, .v (.int .i64 c32)), (18, .v (.int .i64 c33)), (19, .v (.int .i64 c34)), (137, .v (.int .i64 j28.1)), (138, .v (.int .i64 c34))] [some ⟨1, 3, [.v (.int .i64 c29)], false⟩, some ⟨1, 4, [.v (.bool c30)], false⟩] (by kernel_rfl) ?_
        exact RunS.done rfl (Wk.sel2 [0, 1] (by kernel_rfl) (by kernel_rfl) (by kernel_rfl) ⟨⟨_, rfl, bu_c (by kernel_rfl) (by kernel_rfl)⟩, ⟨_, rfl, bu_c (by kernel_rfl) (by kernel_rfl)⟩, trivial⟩ ⟨lu (by kernel_rfl) (by kernel_rfl), lu (by kernel_rfl) (by kernel_rfl), lu (by kernel_rfl) (by kernel_rfl), lu (by kernel_rfl) (by kernel_rfl), lu (by kernel_rfl) (by kernel_rfl), lu (by kernel_rfl) (by kernel_rfl), lu (by kernel_rfl) (by kernel_rfl), lu (by kernel_rfl) (by kernel_rfl), lu (by kernel_rfl) (by kernel_rfl), lu (by kernel_rfl) (by kernel_rfl), lu (by kernel_rfl) (by kernel_rfl), lu (by kernel_rfl) (by kernel_rfl), trivial⟩)
      refine Sem.seq ?_
      refine Sem.seq ?_
      obtain ⟨v36, hv36, h⟩ := Option.bind_eq_some_iff.1 h
      refine Sem.runS (s1 := ⟨Fr 212 [(1, .v (.int .u8 x1)), (9, .pt 0 0 0), (10, .v (.int .i64 ((wr .i64 x1).tmod v1))), (13, .pt 1 0 0), (14, .fn 17 [] [.pt 0 0 0, .pt 1 0 0]), (15, .fn 19 [] [.pt 0 0 0, .pt 1 0 0]), (16, .v (.bool c31)), (17, .v (.int .i64 c32)), (18, .v (.int .i64 c33)), (19, .v (.int .i64 c34)), (137, .v (.int .i64 j28.1)), (138, .v (.int .i64 c34)), (145, .v (.bool (v36.1 == 0)))], [some ⟨1, 3, [.v (.int .i64 c29)], false⟩, some ⟨1, 4, [.v (.bool v36.2)], false⟩]⟩) ?_ ?_
      · refine RunS.segF (n := 212) e_law09_EveningAxioms_ok 3 [(1, .v (.int .u8 x1)), (9, .pt 0 0 0), (10, .v (.int .i64 ((wr .i64 x1).tmod v1))), (13, .pt 1 0 0), (14, .fn 17 [] [.pt 0 0 0, .pt 1 0 0]), (15, .fn 19 [] [.pt 0 0 0, .pt 1 0 0]), (16, .v (.bool c31)), (17, .v (.int .i64 c32)), (18, .v (.int .i64 c33)), (19, .v (.int .i64 c34)), (137, .v (.int .i64 j28.1)), (138, .v (.int .i64 c34)), (141, .fn 17 [] [.pt 0 0 0, .pt 1 0 0]), (142, .v (.int .i64 ((wr .i64 x1).tmod v1))), (143, .v (.int .i64 c34))] [some ⟨1, 3, [.v (.int .i64 c29)], false⟩, some ⟨1, 4, [.v (.bool c30)], false⟩] (by kernel_rfl) ?_
        refine RunS.inl (fid := 17) (caps := [.pt 0 0 0, .pt 1 0 0]) (xs := [.v (.int .i64 ((wr .i64 x1).tmod v1)), .v (.int .i64 c34)]) (fn := Tryd.f17) (Out := fun x h' => x = .v (.int .i64 v36.1) ∧ h' = [some ⟨1, 3, [.v (.int .i64 c29)], false⟩, some ⟨1, 4, [.v (.bool v36.2)], false⟩]) rfl rfl e_law09_EveningAxioms_k1_ok rfl rfl rfl (wantedA_none rfl) (by kernel_rfl) (by kernel_rfl) (by kernel_rfl) (by kernel_rfl) (by show 4 ≤ 30; decide) (law09_EveningAxioms_k1_sem c29 c30 ((wr .i64 x1).tmod v1) c34 _ hv36) ?_
        rintro x h' ⟨rfl, rfl⟩
        refine RunS.segF (n := 212) e_law09_EveningAxioms_ok 1 [(1, .v (.int .u8 x1)), (9, .pt 0 0 0), (10, .v (.int .i64 ((wr .i64 x1).tmod v1))), (13, .pt 1 0 0), (14, .fn 17 [] [.pt 0 0 0, .pt 1 0 0]), (15, .fn 19 [] [.pt 0 0 0, .pt 1 0 0]), (16, .v (.bool c31)), (17, .v (.int .i64 c32)), (18, .v (.int .i64 c33)), (19, .v (.int .i64 c34)), (137, .v (.int .i64 j28.1)), (138, .v (.int .i64 c34)), (145, .v (.bool (v36.1 == 0)))] [some ⟨1, 3, [.v (.int .i64 c29)], false⟩, some ⟨1, 4, [.v (.bool v36.2)], false⟩] (by kernel_rfl) ?_
        exact RunS.done rfl (Wk.sel2 [0, 1] (by kernel_rfl) (by kernel_rfl) (by kernel_rfl) ⟨⟨_, rfl, bu_c (by kernel_rfl) (by kernel_rfl)⟩, ⟨_, rfl, bu_c (by kernel_rfl) (by kernel_rfl)⟩, trivial⟩ ⟨lu (by kernel_rfl) (by kernel_rfl), lu (by kernel_rfl) (by kernel_rfl), lu (by kernel_rfl) (by kernel_rfl), lu (by kernel_rfl) (by kernel_rfl), lu (by kernel_rfl) (by kernel_rfl), lu (by kernel_rfl) (by kernel_rfl), lu (by kernel_rfl) (by kernel_rfl), lu (by kernel_rfl) (by kernel_rfl), lu (by kernel_rfl) (by kernel_rfl), lu (by kernel_rfl) (by kernel_rfl), lu (by kernel_rfl) (by kernel_rfl), lu (by kernel_rfl) (by kernel_rfl), lu (by kernel_rfl) (by kernel_rfl), trivial⟩)
      obtain ⟨r39, hr39, h⟩ := Option.bind_eq_some_iff.1 h
      refine Sem.cut (law09_EveningAxioms_j2_ok x1 v1 j28 c29 c31 c32 c33 c34 v36 _ hr39) ?_
      refine Sem.seq ?_
      refine Sem.seq ?_
      obtain ⟨v40, hv40, h⟩ := Option.bind_eq_some_iff.1 h
      refine Sem.runS (s1 := ⟨Fr 212 [(1, .v (.int .u8 x1)), (9, .pt 0 0 0), (10, .v (.int .i64 ((wr .i64 x1).tmod v1))), (13, .pt 1 0 0), (14, .fn 17 [] [.pt 0 0 0, .pt 1 0 0]), (15, .fn 19 [] [.pt 0 0 0, .pt 1 0 0]), (16, .v (.bool c31)), (17, .v (.int .i64 r39)), (18, .v (.int .i64 c33)), (19, .v (.int .i64 c34)), (137, .v (.int .i64 j28.1)), (138, .v (.int .i64 c34)), (152, .v (.bool (v40.1 == 1)))], [some ⟨1, 3, [.v (.int .i64 c29)], false⟩, some ⟨1, 4, [.v (.bool v40.2)], false⟩]⟩) ?_ ?_
      · refine RunS.segF (n := 212) e_law09_EveningAxioms_ok 3 [(1, .v (.int .u8 x1)), (9, .pt 0 0 0), (10, .v (.int .i64 ((wr .i64 x1).tmod v1))), (13, .pt 1 0 0), (14, .fn 17 [] [.pt 0 0 0, .pt 1 0 0]), (15, .fn 19 [] [.pt 0 0 0, .pt 1 0 0]), (16, .v (.bool c31)), (17, .v (.int .i64 r39)), (18, .v (.int .i64 c33)), (19, .v (.int .i64 c34)), (137, .v (.int .i64 j28.1)), (138, .v (.int .i64 c34)), (148, .fn 19 [] [.pt 0 0 0, .pt 1 0 0]), (149, .v (.int .i64 ((wr .i64 x1).tmod v1))), (150, .v (.int .i64 c34))] [some ⟨1, 3, [.v (.int .i64 c29)], false⟩, some ⟨1, 4, [.v (.bool v36.2)], false⟩] (by kernel_rfl) ?_
        refine RunS.inl (fid := 19) (caps := [.pt 0 0 0, .pt 1 0 0]) (xs := [.v (.int .i64 ((wr .i64 x1).tmod v1)), .v (.int .i64 c34)]) (fn := Tryd.f19) (Out := fun x h' => x = .v (.int .i64 v40.1) ∧ h' = [some ⟨1, 3, [.v (.int .i64 c29)], false⟩, some ⟨1, 4, [.v (.bool v40.2)], false⟩]) rfl rfl e_law09_EveningAxioms_k2_ok rfl rfl rfl (wantedA_none rfl) (by kernel_rfl) (by kernel_rfl) (by kernel_rfl) (by kernel_rfl) (by show 4 ≤ 30; decide) (law09_EveningAxioms_k2_sem c29 v36.2 ((wr .i64 x1).tmod v1) c34 _ hv40) ?_
        rintro x h' ⟨rfl, rfl⟩
        refine RunS.segF (n := 212) e_law09_EveningAxioms_ok 1 [(1, .v (.int .u8 x1)), (9, .pt 0 0 0), (10, .v (.int .i64 ((wr .i64 x1).tmod v1))), (13, .pt 1 0 0), (14, .fn 17 [] [.pt 0 0 0, .pt 1 0 0]), (15, .fn 19 [] [.pt 0 0 0, .pt 1 0 0]), (16, .v (.bool c31)), (17, .v (.int .i64 r39)), (18, .v (.int .i64 c33)), (19, .v (.int .i64 c34)), (137, .v (.int .i64 j28.1)), (138, .v (.int .i64 c34)), (152, .v (.bool (v40.1 == 1)))] [some ⟨1, 3, [.v (.int .i64 c29)], false⟩, some ⟨1, 4, [.v (.bool v40.2)], false⟩] (by kernel_rfl) ?_
        exact RunS.done rfl (Wk.sel2 [0, 1] (by kernel_rfl) (by kernel_rfl) (by kernel_rfl) ⟨⟨_, rfl, bu_c (by kernel_rfl) (by kernel_rfl)⟩, ⟨_, rfl, bu_c (by kernel_rfl) (by kernel_rfl)⟩, trivial⟩ ⟨lu (by kernel_rfl) (by kernel_rfl), lu (by kernel_rfl) (by kernel_rfl), lu (by kernel_rfl) (by kernel_rfl), lu (by kernel_rfl) (by kernel_rfl), lu (by kernel_rfl) (by kernel_rfl), lu (by kernel_rfl) (by kernel_rfl), lu (by kernel_rfl) (by kernel_rfl), lu (by kernel_rfl) (by kernel_rfl), lu (by kernel_rfl) (by kernel_rfl), lu (by kernel_rfl) (by kernel_rfl), lu (by kernel_rfl) (by kernel_rfl), lu (by kernel_rfl) (by kernel_rfl), lu (by kernel_rfl) (by kernel_rfl), trivial⟩)
      obtain ⟨r43, hr43, h⟩ := Option.bind_eq_some_iff.1 h
      refine Sem.cut (law09_EveningAxioms_j3_ok x1 v1 j28 c29 c31 c33 c34 r39 v40 _ hr43) ?_
      obtain ⟨j48, hj48, h⟩ := Option.bind_eq_some_iff.1 h
      refine Sem.runS (s1 := ⟨Fr 212 [(1, .v (.int .u8 x1)), (9, .pt 0 0 0), (10, .v (.int .i64 ((wr .i64 x1).tmod v1))), (13, .pt 1 0 0), (14, .fn 17 [] [.pt 0 0 0, .pt 1 0 0]), (15, .fn 19 [] [.pt 0 0 0, .pt 1 0 0]), (16, .v (.bool j48.2.2)), (17, .v (.int .i64 r39)), (18, .v (.int .i64 r43)), (137, .v (.int .i64 j28.1)), (138, .v (.int .i64 c34))], [some ⟨1, 3, [.v (.int .i64 j48.1)], false⟩, some ⟨1, 4, [.v (.bool j48.2.1)], false⟩]⟩) ?_ ?_
      · refine RunS.segF (n := 212) e_law09_EveningAxioms_ok 2 [(1, .v (.int .u8 x1)), (9, .pt 0 0 0), (10, .v (.int .i64 ((wr .i64 x1).tmod v1))), (13, .pt 1 0 0), (14, .fn 17 [] [.pt 0 0 0, .pt 1 0 0]), (15, .fn 19 [] [.pt 0 0 0, .pt 1 0 0]), (17, .v (.int .i64 r39)), (18, .v (.int .i64 r43)), (19, .v (.int .i64 c34)), (137, .v (.int .i64 j28.1)), (138, .v (.int .i64 c34)), (156, .v (.bool c31))] [some ⟨1, 3, [.v (.int .i64 c29)], false⟩, some ⟨1, 4, [.v (.bool v40.2)], false⟩] (by kernel_rfl) ?_
        rcases Bool.eq_false_or_eq_true c31 with hc49 | hc49
        · rw [if_pos hc49] at hj48
          rw [hc49]
          refine RunS.segF (n := 212) e_law09_EveningAxioms_ok 3 [(1, .v (.int .u8 x1)), (9, .pt 0 0 0), (10, .v (.int .i64 ((wr .i64 x1).tmod v1))), (13, .pt 1 0 0), (14, .fn 17 [] [.pt 0 0 0, .pt 1 0 0]), (15, .fn 19 [] [.pt 0 0 0, .pt 1 0 0]), (17, .v (.int .i64 r39)), (18, .v (.int .i64 r43)), (19, .v (.int .i64 c34)), (137, .v (.int .i64 j28.1)), (138, .v (.int .i64 c34)), (156, .v (.bool true)), (157, .fn 19 [] [.pt 0 0 0, .pt 1 0 0]), (158, .v (.int .i64 ((wr .i64 x1).tmod v1))), (159, .v (.int .i64 c34))] [some ⟨1, 3, [.v (.int .i64 c29)], false⟩, some ⟨1, 4, [.v (.bool v40.2)], false⟩] (by kernel_rfl) ?_
          obtain ⟨v44, hv44, hj48⟩ := Option.bind_eq_some_iff.1 hj48
          refine RunS.inl (fid := 19) (caps := [.pt 0 0 0, .pt 1 0 0]) (xs := [.v (.int .i64 ((wr .i64 x1).tmod v1)), .v (.int .i64 c34)]) (fn := Tryd.f19) (Out := fun x h' => x = .v (.int .i64 v44.1) ∧ h' = [some ⟨1, 3, [.v (.int .i64 c29)], false⟩, some ⟨1, 4, [.v (.bool v44.2)], false⟩]) rfl rfl e_law09_EveningAxioms_k2_ok rfl rfl rfl (by kernel_rfl) (by kernel_rfl) (by kernel_rfl) (by kernel_rfl) (by kernel_rfl) (by show 4 ≤ 30; decide) (law09_EveningAxioms_k2_sem c29 v40.2 ((wr .i64 x1).tmod v1) c34 _ hv44) ?_
          rintro x h' ⟨rfl, rfl⟩
          refine RunS.segF (n := 212) e_law09_EveningAxioms_ok 4 [(1, .v (.int .u8 x1)), (9, .pt 0 0 0), (10, .v (.int .i64 ((wr .i64 x1).tmod v1))), (13, .pt 1 0 0), (14, .fn 17 [] [.pt 0 0 0, .pt 1 0 0]), (15, .fn 19 [] [.pt 0 0 0, .pt 1 0 0]), (17, .v (.int .i64 r39)), (18, .v (.int .i64 r43)), (19, .v (.int .i64 c34)), (137, .v (.int .i64 j28.1)), (138, .v (.int .i64 c34)), (156, .v (.bool true)), (157, .fn 19 [] [.pt 0 0 0, .pt 1 0 0]), (158, .v (.int .i64 ((wr .i64 x1).tmod v1))), (159, .v (.int .i64 c34)), (160, .v (.int .i64 v44.1)), (161, .v (.bool (v44.1 == 0))), (162, .v (.int .i64 ((wr .i64 x1).tmod v1))), (163, .v (.bool (((wr .i64 x1).tmod v1) == 0))), (164, .v (.bool (((wr .i64 x1).tmod v1) == 0)))] [some ⟨1, 3, [.v (.int .i64 c29)], false⟩, some ⟨1, 4, [.v (.bool v44.2)], false⟩] (by kernel_rfl) ?_
          rcases Bool.eq_false_or_eq_true (((wr .i64 x1).tmod v1) == 0) with hc50 | hc50
          · rw [if_pos hc50] at hj48
            rw [hc50]
            refine RunS.segF (n := 212) e_law09_EveningAxioms_ok 6 [(1, .v (.int .u8 x1)), (9, .pt 0 0 0), (10, .v (.int .i64 ((wr .i64 x1).tmod v1))), (13, .pt 1 0 0), (14, .fn 17 [] [.pt 0 0 0, .pt 1 0 0]), (15, .fn 19 [] [.pt 0 0 0, .pt 1 0 0]), (16, .v (.bool ((v44.1 == 0) == true))), (17, .v (.int .i64 r39)), (18, .v (.int .i64 r43)), (137, .v (.int .i64 j28.1)), (138, .v (.int .i64 c34)), (157, .fn 19 [] [.pt 0 0 0, .pt 1 0 0]), (158, .v (.int .i64 ((wr .i64 x1).tmod v1))), (159, .v (.int .i64 c34)), (160, .v (.int .i64 v44.1)), (161, .v (.bool (v44.1 == 0))), (162, .v (.int .i64 ((wr .i64 x1).tmod v1))), (163, .v (.bool true)), (164, .v (.bool true)), (165, .tp []), (166, .tp []), (167, .v (.bool true)), (168, .v (.bool ((v44.1 == 0) == true)))] [some ⟨1, 3, [.v (.int .i64 c29)], false⟩, some ⟨1, 4, [.v (.bool v44.2)], false⟩] (by kernel_rfl) ?_
            have hq := Option.some.inj hj48; subst hq
            exact RunS.done rfl (Wk.sel2 [0, 1] (by kernel_rfl) (by kernel_rfl) (by kernel_rfl) ⟨⟨_, rfl, bu_c (by kernel_rfl) (by kernel_rfl)⟩, ⟨_, rfl, bu_c (by kernel_rfl) (by kernel_rfl)⟩, trivial⟩ ⟨lu (by kernel_rfl) (by kernel_rfl), lu (by kernel_rfl) (by kernel_rfl), lu (by kernel_rfl) (by kernel_rfl), lu (by kernel_rfl) (by kernel_rfl), lu (by kernel_rfl) (by kernel_rfl), lu (by kernel_rfl) (by kernel_rfl), lu (by kernel_rfl) (by kernel_rfl), lu (by kernel_rfl) (by kernel_rfl), lu (by kernel_rfl) (by kernel_rfl), lu (by kernel_rfl) (by kernel_rfl), lu (by kernel_rfl) (by kernel_rfl), trivial⟩)
          · rw [if_f hc50] at hj48
            rw [hc50]
            refine RunS.segF (n := 212) e_law09_EveningAxioms_ok 6 [(1, .v (.int .u8 x1)), (9, .pt 0 0 0), (10, .v (.int .i64 ((wr .i64 x1).tmod v1))), (13, .pt 1 0 0), (14, .fn 17 [] [.pt 0 0 0, .pt 1 0 0]), (15, .fn 19 [] [.pt 0 0 0, .pt 1 0 0]), (16, .v (.bool ((v44.1 == 0) == (c34 == 0)))), (17, .v (.int .i64 r39)), (18, .v (.int .i64 r43)), (137, .v (.int .i64 j28.1)), (138, .v (.int .i64 c34)), (157, .fn 19 [] [.pt 0 0 0, .pt 1 0 0]), (158, .v (.int .i64 ((wr .i64 x1).tmod v1))), (159, .v (.int .i64 c34)), (160, .v (.int .i64 v44.1)), (161, .v (.bool (v44.1 == 0))), (162, .v (.int .i64 ((wr .i64 x1).tmod v1))), (163, .v (.bool false)), (164, .v (.bool false)), (165, .v (.int .i64 c34)), (166, .v (.bool (c34 == 0))), (167, .v (.bool (c34 == 0))), (168, .v (.bool ((v44.1 == 0) == (c34 == 0))))] [some ⟨1, 3, [.v (.int .i64 c29)], false⟩, some ⟨1, 4, [.v (.bool v44.2)], false⟩] (by kernel_rfl) ?_
            have hq := Option.some.inj hj48; subst hq
            exact RunS.done rfl (Wk.sel2 [0, 1] (by kernel_rfl) (by kernel_rfl) (by kernel_rfl) ⟨⟨_, rfl, bu_c (by kernel_rfl) (by kernel_rfl)⟩, ⟨_, rfl, bu_c (by kernel_rfl) (by kernel_rfl)⟩, trivial⟩ ⟨lu (by kernel_rfl) (by kernel_rfl), lu (by kernel_rfl) (by kernel_rfl), lu (by kernel_rfl) (by kernel_rfl), lu (by kernel_rfl) (by kernel_rfl), lu (by kernel_rfl) (by kernel_rfl), lu (by kernel_rfl) (by kernel_rfl), lu (by kernel_rfl) (by kernel_rfl), lu (by kernel_rfl) (by kernel_rfl), lu (by kernel_rfl) (by kernel_rfl), lu (by kernel_rfl) (by kernel_rfl), lu (by kernel_rfl) (by kernel_rfl), trivial⟩)
        · rw [if_f hc49] at hj48
          rw [hc49]
          refine RunS.segF (n := 212) e_law09_EveningAxioms_ok 14 [(1, .v (.int .u8 x1)), (9, .pt 0 0 0), (10, .v (.int .i64 ((wr .i64 x1).tmod v1))), (13, .pt 1 0 0), (14, .fn 17 [] [.pt 0 0 0, .pt 1 0 0]), (15, .fn 19 [] [.pt 0 0 0, .pt 1 0 0]), (16, .v (.bool false)), (17, .v (.int .i64 r39)), (18, .v (.int .i64 r43)), (137, .v (.int .i64 j28.1)), (138, .v (.int .i64 c34)), (157, .tp []), (158, .tp []), (159, .tp []), (160, .tp []), (161, .tp []), (162, .tp []), (163, .tp []), (164, .tp []), (165, .tp []), (166, .tp []), (167, .tp []), (168, .tp [])] [some ⟨1, 3, [.v (.int .i64 c29)], false⟩, some ⟨1, 4, [.v (.bool v40.2)], false⟩] (by kernel_rfl) ?_
          have hq := Option.some.inj hj48; subst hq
          exact RunS.done rfl (Wk.sel2 [0, 1] (by kernel_rfl) (by kernel_rfl) (by kernel_rfl) ⟨⟨_, rfl, bu_c (by kernel_rfl) (by kernel_rfl)⟩, ⟨_, rfl, bu_c (by kernel_rfl) (by kernel_rfl)⟩, trivial⟩ ⟨lu (by kernel_rfl) (by kernel_rfl), lu (by kernel_rfl) (by kernel_rfl), lu (by kernel_rfl) (by kernel_rfl), lu (by kernel_rfl) (by kernel_rfl), lu (by kernel_rfl) (by kernel_rfl), lu (by kernel_rfl) (by kernel_rfl), lu (by kernel_rfl) (by kernel_rfl), lu (by kernel_rfl) (by kernel_rfl), lu (by kernel_rfl) (by kernel_rfl), lu (by kernel_rfl) (by kernel_rfl), lu (by kernel_rfl) (by kernel_rfl), trivial⟩)
      refine Sem.runS (s1 := ⟨Fr 212 [(1, .v (.int .u8 x1)), (9, .pt 0 0 0), (10, .v (.int .i64 ((wr .i64 x1).tmod v1))), (13, .pt 1 0 0), (14, .fn 17 [] [.pt 0 0 0, .pt 1 0 0]), (15, .fn 19 [] [.pt 0 0 0, .pt 1 0 0]), (16, .v (.bool j48.2.2)), (17, .v (.int .i64 r39)), (18, .v (.int .i64 r43)), (137, .v (.int .i64 j28.1)), (138, .v (.int .i64 (wr .i64 (c34 + 1))))], [some ⟨1, 3, [.v (.int .i64 j48.1)], false⟩, some ⟨1, 4, [.v (.bool j48.2.1)], false⟩]⟩) ?_ ?_
      · refine RunS.segF (n := 212) e_law09_EveningAxioms_ok 2 [(1, .v (.int .u8 x1)), (9, .pt 0 0 0), (10, .v (.int .i64 ((wr .i64 x1).tmod v1))), (13, .pt 1 0 0), (14, .fn 17 [] [.pt 0 0 0, .pt 1 0 0]), (15, .fn 19 [] [.pt 0 0 0, .pt 1 0 0]), (16, .v (.bool j48.2.2)), (17, .v (.int .i64 r39)), (18, .v (.int .i64 r43)), (137, .v (.int .i64 j28.1)), (138, .v (.int .i64 (wr .i64 (c34 + 1))))] [some ⟨1, 3, [.v (.int .i64 j48.1)], false⟩, some ⟨1, 4, [.v (.bool j48.2.1)], false⟩] (by kernel_rfl) ?_
        exact RunS.done rfl (Wk.sel2 [0, 1] (by kernel_rfl) (by kernel_rfl) (by kernel_rfl) ⟨⟨_, rfl, bu_c (by kernel_rfl) (by kernel_rfl)⟩, ⟨_, rfl, bu_c (by kernel_rfl) (by kernel_rfl)⟩, trivial⟩ ⟨lu (by kernel_rfl) (by kernel_rfl), lu (by kernel_rfl) (by kernel_rfl), lu (by kernel_rfl) (by kernel_rfl), lu (by kernel_rfl) (by kernel_rfl), lu (by kernel_rfl) (by kernel_rfl), lu (by kernel_rfl) (by kernel_rfl), lu (by kernel_rfl) (by kernel_rfl), lu (by kernel_rfl) (by kernel_rfl), lu (by kernel_rfl) (by kernel_rfl), lu (by kernel_rfl) (by kernel_rfl), lu (by kernel_rfl) (by kernel_rfl), trivial⟩)
      exact SemN.wk (s1 := ⟨Fr 212 [(1, .v (.int .u8 x1)), (9, .pt 0 0 0), (10, .v (.int .i64 ((wr .i64 x1).tmod v1))), (13, .pt 1 0 0), (14, .fn 17 [] [.pt 0 0 0, .pt 1 0 0]), (15, .fn 19 [] [.pt 0 0 0, .pt 1 0 0]), (16, .v (.bool j48.2.2)), (17, .v (.int .i64 r39)), (18, .v (.int .i64 r43)), (137, .v (.int .i64 j28.1)), (138, .v (.int .i64 (wr .i64 (c34 + 1))))], [some ⟨1, 3, [.v (.int .i64 j48.1)], false⟩, some ⟨1, 4, [.v (.bool j48.2.1)], false⟩]⟩) (Wk.sel2 [0, 1] (by kernel_rfl) (by kernel_rfl) (by kernel_rfl) ⟨⟨_, rfl, bu_c (by kernel_rfl) (by kernel_rfl)⟩, ⟨_, rfl, bu_c (by kernel_rfl) (by kernel_rfl)⟩, trivial⟩ ⟨lu (by kernel_rfl) (by kernel_rfl), lu (by kernel_rfl) (by kernel_rfl), lu (by kernel_rfl) (by kernel_rfl), lu (by kernel_rfl) (by kernel_rfl), lu (by kernel_rfl) (by kernel_rfl), lu (by kernel_rfl) (by kernel_rfl), lu (by kernel_rfl) (by kernel_rfl), lu (by kernel_rfl) (by kernel_rfl), lu (by kernel_rfl) (by kernel_rfl), lu (by kernel_rfl) (by kernel_rfl), lu (by kernel_rfl) (by kernel_rfl), trivial⟩) (ih j48.1 j48.2.1 j48.2.2 r39 r43 (wr .i64 (c34 + 1)) h)
    · rw [if_f hb35] at h
      refine Sem.exit ?_
      have hq := Option.some.inj h; subst hq
      exact ⟨rfl, (Wk.sel2 [0, 1] (by kernel_rfl) (by kernel_rfl) (by kernel_rfl) ⟨⟨_, rfl, bu_c (by kernel_rfl) (by kernel_rfl)⟩, ⟨_, rfl, bu_c (by kernel_rfl) (by kernel_rfl)⟩, trivial⟩ ⟨lu (by kernel_rfl) (by kernel_rfl), lu (by kernel_rfl) (by kernel_rfl), lu (by kernel_rfl) (by kernel_rfl), lu (by kernel_rfl) (by kernel_rfl), lu (by kernel_rfl) (by kernel_rfl), lu (by kernel_rfl) (by kernel_rfl), lu (by kernel_rfl) (by kernel_rfl), trivial⟩)⟩
set_option maxHeartbeats 4000000 in
set_option maxRecDepth 100000 in
theorem law09_EveningAxioms_sem (x0 : Int) (x1 : Int) (x2 : Int) (x3 : Int) (r : Bool) (h : law09_EveningAxioms x0 x1 x2 x3 = some r) : Sem e_law09_EveningAxioms ⟨none, false⟩ cb_law09_EveningAxioms ⟨Fr 212 (pairs0 0 (cs_law09_EveningAxioms.enc (x0, x1, x2, x3, ()))), []⟩ fun e s' => (e = .normal ∨ e = .ret) ∧ ∃ xs, resA e_law09_EveningAxioms.P s'.fr s'.hp Tryd.f4.results.toList = some xs ∧ retA xs = er_law09_EveningAxioms r := by
  unfold law09_EveningAxioms at h
  refine Sem.wkQ (Sem.wk (s1 := ⟨Fr 212 [(0, .v (.int .u8 x0)), (1, .v (.int .u8 x1)), (2, .v (.int .u8 x2)), (3, .v (.int .u8 x3))], []⟩) (Wk.fr (by kernel_rfl)) ?_)
  refine Sem.seq ?_
  refine Sem.runS (s1 := ⟨Fr 212 [(0, .v (.int .u8 x0)), (1, .v (.int .u8 x1)), (2, .v (.int .u8 x2)), (3, .v (.int .u8 x3))], []⟩) ?_ ?_
  · refine RunS.segF (n := 212) e_law09_EveningAxioms_ok 1 [(0, .v (.int .u8 x0)), (1, .v (.int .u8 x1)), (2, .v (.int .u8 x2)), (3, .v (.int .u8 x3))] [] (by kernel_rfl) ?_
    exact RunS.done rfl (Wk.fr (by kernel_rfl))
  refine Sem.seq ?_
  obtain ⟨v1, hv1, h⟩ := Option.bind_eq_some_iff.1 h
  refine Sem.runS (s1 := ⟨Fr 212 [(1, .v (.int .u8 x1)), (2, .v (.int .u8 x2)), (3, .v (.int .u8 x3)), (9, .pt 0 0 0)], [some ⟨1, 3, [.v (.int .i64 v1)], false⟩]⟩) ?_ ?_
  · refine RunS.segF (n := 212) e_law09_EveningAxioms_ok 3 [(1, .v (.int .u8 x1)), (2, .v (.int .u8 x2)), (3, .v (.int .u8 x3)), (24, hd 0 ([2, 3, 4, 5, 7, 8, 9, 11, 13, 16].map cdI.enc)), (26, .v (.int .u8 (x0.tmod 10)))] [mk 1 3 ([2, 3, 4, 5, 7, 8, 9, 11, 13, 16].map cdI.enc)] (by kernel_rfl) ?_
    refine RunS.one e_law09_EveningAxioms_ok 0 rfl (op_q (wantedA_none rfl) rfl (q_indexAddr (a := hd 0 ([2, 3, 4, 5, 7, 8, 9, 11, 13, 16].map cdI.enc)) (b := .v (.int .u8 (x0.tmod 10))) (by kernel_rfl) (by kernel_rfl) (ix_hd (e := cdI.enc) (xs := [2, 3, 4, 5, 7, 8, 9, 11, 13, 16]) (t' := 3) (el := 3) (k := 1) (ki := .u8) (by kernel_rfl) (by kernel_rfl) (by kernel_rfl) hv1))) ?_
    refine RunS.one e_law09_EveningAxioms_ok 0 rfl (op_q (wantedA_none rfl) rfl (q_load (p := .pt 0 ((x0.tmod 10).toNat) 0) (by kernel_rfl) (ld_mk (t' := 3) (k := 1) (m := 1) (g := false) (e := cdI.enc) (xs := [2, 3, 4, 5, 7, 8, 9, 11, 13, 16]) (by kernel_rfl) (by kernel_rfl) (by kernel_rfl) (idx_at hv1).2 (by kernel_rfl)))) ?_
    refine RunS.segF (n := 212) e_law09_EveningAxioms_ok 2 [(1, .v (.int .u8 x1)), (2, .v (.int .u8 x2)), (3, .v (.int .u8 x3)), (9, .pt 1 0 0)] [mk 1 3 ([2, 3, 4, 5, 7, 8, 9, 11, 13, 16].map cdI.enc), some ⟨1, 3, [.v (.int .i64 v1)], false⟩] (by kernel_rfl) ?_
    exact RunS.done rfl (Wk.sel2 [1] (by kernel_rfl) (by kernel_rfl) (by kernel_rfl) ⟨⟨_, rfl, bu_c (by kernel_rfl) (by kernel_rfl)⟩, trivial⟩ ⟨lu (by kernel_rfl) (by kernel_rfl), lu (by kernel_rfl) (by kernel_rfl), lu (by kernel_rfl) (by kernel_rfl), lu (by kernel_rfl) (by kernel_rfl), trivial⟩)
  refine Sem.seq ?_
  by_cases hz2 : v1 = (0 : Int)
  · rw [if_pos hz2] at h; cases h
  rw [if_neg hz2] at h
  by_cases hz3 : v1 = (0 : Int)
  · rw [if_pos hz3] at h; cases h
  rw [if_neg hz3] at h
  by_cases hz4 : v1 = (0 : Int)
  · rw [if_pos hz4] at h; cases h
  rw [if_neg hz4] at h
  refine Sem.runDS e_law09_EveningAxioms_ok (s1 := ⟨Fr 212 [(1, .v (.int .u8 x1)), (9, .pt 0 0 0), (10, .v (.int .i64 ((wr .i64 x1).tmod v1))), (11, .v (.int .i64 ((wr .i64 x2).tmod v1))), (12, .v (.int .i64 ((wr .i64 x3).tmod v1)))], [some ⟨1, 3, [.v (.int .i64 v1)], false⟩]⟩) (by kernel_rfl) ?_ ?_
  · refine RunDS.segF (n := 212) e_law09_EveningAxioms_ok 3 [(1, .v (.int .u8 x1)), (2, .v (.int .u8 x2)), (3, .v (.int .u8 x3)), (9, .pt 0 0 0), (30, .v (.int .i64 (wr .i64 x1))), (31, .v (.int .i64 v1))] [some ⟨1, 3, [.v (.int .i64 v1)], false⟩] (by kernel_rfl) (by kernel_rfl) ?_
    refine RunDS.one e_law09_EveningAxioms_ok rfl (by kernel_rfl) (opd_q (by kernel_rfl) (wantedA_none rfl) rfl (q_bin (a := .v (.int .i64 (wr .i64 x1))) (b := .v (.int .i64 v1)) (by kernel_rfl) (by kernel_rfl) (bin_rem hz2)) (by kernel_rfl)) ?_
    refine RunDS.segF (n := 212) e_law09_EveningAxioms_ok 3 [(1, .v (.int .u8 x1)), (3, .v (.int .u8 x3)), (9, .pt 0 0 0), (32, .v (.int .i64 ((wr .i64 x1).tmod v1))), (34, .v (.int .i64 (wr .i64 x2))), (35, .v (.int .i64 v1))] [some ⟨1, 3, [.v (.int .i64 v1)], false⟩] (by kernel_rfl) (by kernel_rfl) ?_
    refine RunDS.one e_law09_EveningAxioms_ok rfl (by kernel_rfl) (opd_q (by kernel_rfl) (wantedA_none rfl) rfl (q_bin (a := .v (.int .i64 (wr .i64 x2))) (b := .v (.int .i64 v1)) (by kernel_rfl) (by kernel_rfl) (bin_rem hz3)) (by kernel_rfl)) ?_
    refine RunDS.segF (n := 212) e_law09_EveningAxioms_ok 3 [(1, .v (.int .u8 x1)), (9, .pt 0 0 0), (32, .v (.int .i64 ((wr .i64 x1).tmod v1))), (36, .v (.int .i64 ((wr .i64 x2).tmod v1))), (38, .v (.int .i64 (wr .i64 x3))), (39, .v (.int .i64 v1))] [some ⟨1, 3, [.v (.int .i64 v1)], false⟩] (by kernel_rfl) (by kernel_rfl) ?_
    refine RunDS.one e_law09_EveningAxioms_ok rfl (by kernel_rfl) (opd_q (by kernel_rfl) (wantedA_none rfl) rfl (q_bin (a := .v (.int .i64 (wr .i64 x3))) (b := .v (.int .i64 v1)) (by kernel_rfl) (by kernel_rfl) (bin_rem hz4)) (by kernel_rfl)) ?_
    refine RunDS.segF (n := 212) e_law09_EveningAxioms_ok 3 [(1, .v (.int .u8 x1)), (9, .pt 0 0 0), (10, .v (.int .i64 ((wr .i64 x1).tmod v1))), (11, .v (.int .i64 ((wr .i64 x2).tmod v1))), (12, .v (.int .i64 ((wr .i64 x3).tmod v1)))] [some ⟨1, 3, [.v (.int .i64 v1)], false⟩] (by kernel_rfl) (by kernel_rfl) ?_
    exact RunDS.done rfl (Wk.sel2 [0] (by kernel_rfl) (by kernel_rfl) (by kernel_rfl) ⟨⟨_, rfl, bu_c (by kernel_rfl) (by kernel_rfl)⟩, trivial⟩ ⟨lu (by kernel_rfl) (by kernel_rfl), lu (by kernel_rfl) (by kernel_rfl), lu (by kernel_rfl) (by kernel_rfl), lu (by kernel_rfl) (by kernel_rfl), lu (by kernel_rfl) (by kernel_rfl), trivial⟩)
  refine Sem.seq ?_
  refine Sem.runS (s1 := ⟨Fr 212 [(1, .v (.int .u8 x1)), (9, .pt 0 0 0), (10, .v (.int .i64 ((wr .i64 x1).tmod v1))), (11, .v (.int .i64 ((wr .i64 x2).tmod v1))), (12, .v (.int .i64 ((wr .i64 x3).tmod v1))), (13, .pt 1 0 0)], [some ⟨1, 3, [.v (.int .i64 v1)], false⟩, some ⟨1, 4, [.v (.bool true)], false⟩]⟩) ?_ ?_
  · refine RunS.segF (n := 212) e_law09_EveningAxioms_ok 2 [(1, .v (.int .u8 x1)), (9, .pt 0 0 0), (10, .v (.int .i64 ((wr .i64 x1).tmod v1))), (11, .v (.int .i64 ((wr .i64 x2).tmod v1))), (12, .v (.int .i64 ((wr .i64 x3).tmod v1))), (13, .pt 1 0 0)] [some ⟨1, 3, [.v (.int .i64 v1)], false⟩, some ⟨1, 4, [.v (.bool true)], false⟩] (by kernel_rfl) ?_
    exact RunS.done rfl (Wk.sel2 [0, 1] (by kernel_rfl) (by kernel_rfl) (by kernel_rfl) ⟨⟨_, rfl, bu_c (by kernel_rfl) (by kernel_rfl)⟩, ⟨_, rfl, bu_c (by kernel_rfl) (by kernel_rfl)⟩, trivial⟩ ⟨lu (by kernel_rfl) (by kernel_rfl), lu (by kernel_rfl) (by kernel_rfl), lu (by kernel_rfl) (by kernel_rfl), lu (by kernel_rfl) (by kernel_rfl), lu (by kernel_rfl) (by kernel_rfl), lu (by kernel_rfl) (by kernel_rfl), trivial⟩)
  refine Sem.seq ?_
  refine Sem.runS (s1 := ⟨Fr 212 [(1, .v (.int .u8 x1)), (9, .pt 0 0 0), (10, .v (.int .i64 ((wr .i64 x1).tmod v1))), (11, .v (.int .i64 ((wr .i64 x2).tmod v1))), (12, .v (.int .i64 ((wr .i64 x3).tmod v1))), (13, .pt 1 0 0), (14, .fn 17 [] [.pt 0 0 0, .pt 1 0 0])], [some ⟨1, 3, [.v (.int .i64 v1)], false⟩, some ⟨1, 4, [.v (.bool true)], false⟩]⟩) ?_ ?_
  · refine RunS.segF (n := 212) e_law09_EveningAxioms_ok 2 [(1, .v (.int .u8 x1)), (9, .pt 0 0 0), (10, .v (.int .i64 ((wr .i64 x1).tmod v1))), (11, .v (.int .i64 ((wr .i64 x2).tmod v1))), (12, .v (.int .i64 ((wr .i64 x3).tmod v1))), (13, .pt 1 0 0), (14, .fn 17 [] [.pt 0 0 0, .pt 1 0 0])] [some ⟨1, 3, [.v (.int .i64 v1)], false⟩, some ⟨1, 4, [.v (.bool true)], false⟩] (by kernel_rfl) ?_
    exact RunS.done rfl (Wk.sel2 [0, 1] (by kernel_rfl) (by kernel_rfl) (by kernel_rfl) ⟨⟨_, rfl, bu_c (by kernel_rfl) (by kernel_rfl)⟩, ⟨_, rfl, bu_c (by kernel_rfl) (by kernel_rfl)⟩, trivial⟩ ⟨lu (by kernel_rfl) (by kernel_rfl), lu (by kernel_rfl) (by kernel_rfl), lu (by kernel_rfl) (by kernel_rfl), lu (by kernel_rfl) (by kernel_rfl), lu (by kernel_rfl) (by kernel_rfl), lu (by kernel_rfl) (by kernel_rfl), lu (by kernel_rfl) (by kernel_rfl), trivial⟩)
  refine Sem.seq ?_
  refine Sem.runS (s1 := ⟨Fr 212 [(1, .v (.int .u8 x1)), (9, .pt 0 0 0), (10, .v (.int .i64 ((wr .i64 x1).tmod v1))), (11, .v (.int .i64 ((wr .i64 x2).tmod v1))), (12, .v (.int .i64 ((wr .i64 x3).tmod v1))), (13, .pt 1 0 0), (14, .fn 17 [] [.pt 0 0 0, .pt 1 0 0]), (15, .fn 19 [] [.pt 0 0 0, .pt 1 0 0])], [some ⟨1, 3, [.v (.int .i64 v1)], false⟩, some ⟨1, 4, [.v (.bool true)], false⟩]⟩) ?_ ?_
  · refine RunS.segF (n := 212) e_law09_EveningAxioms_ok 2 [(1, .v (.int .u8 x1)), (9, .pt 0 0 0), (10, .v (.int .i64 ((wr .i64 x1).tmod v1))), (11, .v (.int .i64 ((wr .i64 x2).tmod v1))), (12, .v (.int .i64 ((wr .i64 x3).tmod v1))), (13, .pt 1 0 0), (14, .fn 17 [] [.pt 0 0 0, .pt 1 0 0]), (15, .fn 19 [] [.pt 0 0 0, .pt 1 0 0])] [some ⟨1, 3, [.v (.int .i64 v1)], false⟩, some ⟨1, 4, [.v (.bool true)], false⟩] (by kernel_rfl) ?_
    exact RunS.done rfl (Wk.sel2 [0, 1] (by kernel_rfl) (by kernel_rfl) (by kernel_rfl) ⟨⟨_, rfl, bu_c (by kernel_rfl) (by kernel_rfl)⟩, ⟨_, rfl, bu_c (by kernel_rfl) (by kernel_rfl)⟩, trivial⟩ ⟨lu (by kernel_rfl) (by kernel_rfl), lu (by kernel_rfl) (by kernel_rfl), lu (by kernel_rfl) (by kernel_rfl), lu (by kernel_rfl) (by kernel_rfl), lu (by kernel_rfl) (by kernel_rfl), lu (by kernel_rfl) (by kernel_rfl), lu (by kernel_rfl) (by kernel_rfl), lu (by kernel_rfl) (by kernel_rfl), trivial⟩)
  refine Sem.seq ?_
  obtain ⟨v5, hv5, h⟩ := Option.bind_eq_some_iff.1 h
  obtain ⟨v6, hv6, h⟩ := Option.bind_eq_some_iff.1 h
  obtain ⟨v7, hv7, h⟩ := Option.bind_eq_some_iff.1 h
  obtain ⟨v8, hv8, h⟩ := Option.bind_eq_some_iff.1 h
  obtain ⟨j28, hj28, h⟩ := Option.bind_eq_some_iff.1 h
  refine Sem.runS (s1 := ⟨Fr 212 [(1, .v (.int .u8 x1)), (9, .pt 0 0 0), (10, .v (.int .i64 ((wr .i64 x1).tmod v1))), (13, .pt 1 0 0), (14, .fn 17 [] [.pt 0 0 0, .pt 1 0 0]), (15, .fn 19 [] [.pt 0 0 0, .pt 1 0 0]), (16, .v (.bool j28.2.2))], [some ⟨1, 3, [.v (.int .i64 j28.1)], false⟩, some ⟨1, 4, [.v (.bool j28.2.1)], false⟩]⟩) ?_ ?_
  · refine RunS.segF (n := 212) e_law09_EveningAxioms_ok 5 [(1, .v (.int .u8 x1)), (9, .pt 0 0 0), (10, .v (.int .i64 ((wr .i64 x1).tmod v1))), (11, .v (.int .i64 ((wr .i64 x2).tmod v1))), (12, .v (.int .i64 ((wr .i64 x3).tmod v1))), (13, .pt 1 0 0), (14, .fn 17 [] [.pt 0 0 0, .pt 1 0 0]), (15, .fn 19 [] [.pt 0 0 0, .pt 1 0 0]), (43, .fn 17 [] [.pt 0 0 0, .pt 1 0 0]), (44, .v (.int .i64 ((wr .i64 x1).tmod v1))), (45, .fn 17 [] [.pt 0 0 0, .pt 1 0 0]), (46, .v (.int .i64 ((wr .i64 x2).tmod v1))), (47, .v (.int .i64 ((wr .i64 x3).tmod v1)))] [some ⟨1, 3, [.v (.int .i64 v1)], false⟩, some ⟨1, 4, [.v (.bool true)], false⟩] (by kernel_rfl) ?_
    refine RunS.inl (fid := 17) (caps := [.pt 0 0 0, .pt 1 0 0]) (xs := [.v (.int .i64 ((wr .i64 x2).tmod v1)), .v (.int .i64 ((wr .i64 x3).tmod v1))]) (fn := Tryd.f17) (Out := fun x h' => x = .v (.int .i64 v5.1) ∧ h' = [some ⟨1, 3, [.v (.int .i64 v1)], false⟩, some ⟨1, 4, [.v (.bool v5.2)], false⟩]) rfl rfl e_law09_EveningAxioms_k1_ok rfl rfl rfl (wantedA_none rfl) (by kernel_rfl) (by kernel_rfl) (by kernel_rfl) (by kernel_rfl) (by show 4 ≤ 30; decide) (law09_EveningAxioms_k1_sem v1 true ((wr .i64 x2).tmod v1) ((wr .i64 x3).tmod v1) _ hv5) ?_
    rintro x h' ⟨rfl, rfl⟩
    refine RunS.inl (fid := 17) (caps := [.pt 0 0 0, .pt 1 0 0]) (xs := [.v (.int .i64 ((wr .i64 x1).tmod v1)), .v (.int .i64 v5.1)]) (fn := Tryd.f17) (Out := fun x h' => x = .v (.int .i64 v6.1) ∧ h' = [some ⟨1, 3, [.v (.int .i64 v1)], false⟩, some ⟨1, 4, [.v (.bool v6.2)], false⟩]) rfl rfl e_law09_EveningAxioms_k1_ok rfl rfl rfl (wantedA_none rfl) (by kernel_rfl) (by kernel_rfl) (by kernel_rfl) (by kernel_rfl) (by show 4 ≤ 30; decide) (law09_EveningAxioms_k1_sem v1 v5.2 ((wr .i64 x1).tmod v1) v5.1 _ hv6) ?_
    rintro x h' ⟨rfl, rfl⟩
    refine RunS.segF (n := 212) e_law09_EveningAxioms_ok 4 [(1, .v (.int .u8 x1)), (9, .pt 0 0 0), (10, .v (.int .i64 ((wr .i64 x1).tmod v1))), (11, .v (.int .i64 ((wr .i64 x2).tmod v1))), (12, .v (.int .i64 ((wr .i64 x3).tmod v1))), (13, .pt 1 0 0), (14, .fn 17 [] [.pt 0 0 0, .pt 1 0 0]), (15, .fn 19 [] [.pt 0 0 0, .pt 1 0 0]), (49, .v (.int .i64 v6.1)), (50, .fn 17 [] [.pt 0 0 0, .pt 1 0 0]), (51, .fn 17 [] [.pt 0 0 0, .pt 1 0 0]), (52, .v (.int .i64 ((wr .i64 x1).tmod v1))), (53, .v (.int .i64 ((wr .i64 x2).tmod v1)))] [some ⟨1, 3, [.v (.int .i64 v1)], false⟩, some ⟨1, 4, [.v (.bool v6.2)], false⟩] (by kernel_rfl) ?_
    refine RunS.inl (fid := 17) (caps := [.pt 0 0 0, .pt 1 0 0]) (xs := [.v (.int .i64 ((wr .i64 x1).tmod v1)), .v (.int .i64 ((wr .i64 x2).tmod v1))]) (fn := Tryd.f17) (Out := fun x h' => x = .v (.int .i64 v7.1) ∧ h' = [some ⟨1, 3, [.v (.int .i64 v1)], false⟩, some ⟨1, 4, [.v (.bool v7.2)], false⟩]) rfl rfl e_law09_EveningAxioms_k1_ok rfl rfl rfl (wantedA_none rfl) (by kernel_rfl) (by kernel_rfl) (by kernel_rfl) (by kernel_rfl) (by show 4 ≤ 30; decide) (law09_EveningAxioms_k1_sem v1 v6.2 ((wr .i64 x1).tmod v1) ((wr .i64 x2).tmod v1) _ hv7) ?_
    rintro x h' ⟨rfl, rfl⟩
    refine RunS.segF (n := 212) e_law09_EveningAxioms_ok 1 [(1, .v (.int .u8 x1)), (9, .pt 0 0 0), (10, .v (.int .i64 ((wr .i64 x1).tmod v1))), (11, .v (.int .i64 ((wr .i64 x2).tmod v1))), (12, .v (.int .i64 ((wr .i64 x3).tmod v1))), (13, .pt 1 0 0), (14, .fn 17 [] [.pt 0 0 0, .pt 1 0 0]), (15, .fn 19 [] [.pt 0 0 0, .pt 1 0 0]), (49, .v (.int .i64 v6.1)), (50, .fn 17 [] [.pt 0 0 0, .pt 1 0 0]), (54, .v (.int .i64 v7.1)), (55, .v (.int .i64 ((wr .i64 x3).tmod v1)))] [some ⟨1, 3, [.v (.int .i64 v1)], false⟩, some ⟨1, 4, [.v (.bool v7.2)], false⟩] (by kernel_rfl) ?_
    refine RunS.inl (fid := 17) (caps := [.pt 0 0 0, .pt 1 0 0]) (xs := [.v (.int .i64 v7.1), .v (.int .i64 ((wr .i64 x3).tmod v1))]) (fn := Tryd.f17) (Out := fun x h' => x = .v (.int .i64 v8.1) ∧ h' = [some ⟨1, 3, [.v (.int .i64 v1)], false⟩, some ⟨1, 4, [.v (.bool v8.2)], false⟩]) rfl rfl e_law09_EveningAxioms_k1_ok rfl rfl rfl (wantedA_none rfl) (by kernel_rfl) (by kernel_rfl) (by kernel_rfl) (by kernel_rfl) (by show 4 ≤ 30; decide) (law09_EveningAxioms_k1_sem v1 v7.2 v7.1 ((wr .i64 x3).tmod v1) _ hv8) ?_
    rintro x h' ⟨rfl, rfl⟩
    refine RunS.segF (n := 212) e_law09_EveningAxioms_ok 2 [(1, .v (.int .u8 x1)), (9, .pt 0 0 0), (10, .v (.int .i64 ((wr .i64 x1).tmod v1))), (11, .v (.int .i64 ((wr .i64 x2).tmod v1))), (12, .v (.int .i64 ((wr .i64 x3).tmod v1))), (13, .pt 1 0 0), (14, .fn 17 [] [.pt 0 0 0, .pt 1 0 0]), (15, .fn 19 [] [.pt 0 0 0, .pt 1 0 0]), (58, .v (.bool (v6.1 == v8.1)))] [some ⟨1, 3, [.v (.int .i64 v1)], false⟩, some ⟨1, 4, [.v (.bool v8.2)], false⟩] (by kernel_rfl) ?_
    rcases Bool.eq_false_or_eq_true (v6.1 == v8.1) with hc69 | hc69
    · rw [if_pos hc69] at hj28
      rw [hc69]
      refine RunS.segF (n := 212) e_law09_EveningAxioms_ok 5 [(1, .v (.int .u8 x1)), (9, .pt 0 0 0), (10, .v (.int .i64 ((wr .i64 x1).tmod v1))), (11, .v (.int .i64 ((wr .i64 x2).tmod v1))), (12, .v (.int .i64 ((wr .i64 x3).tmod v1))), (13, .pt 1 0 0), (14, .fn 17 [] [.pt 0 0 0, .pt 1 0 0]), (15, .fn 19 [] [.pt 0 0 0, .pt 1 0 0]), (58, .v (.bool true)), (59, .fn 19 [] [.pt 0 0 0, .pt 1 0 0]), (60, .v (.int .i64 ((wr .i64 x1).tmod v1))), (61, .fn 19 [] [.pt 0 0 0, .pt 1 0 0]), (62, .v (.int .i64 ((wr .i64 x2).tmod v1))), (63, .v (.int .i64 ((wr .i64 x3).tmod v1)))] [some ⟨1, 3, [.v (.int .i64 v1)], false⟩, some ⟨1, 4, [.v (.bool v8.2)], false⟩] (by kernel_rfl) ?_
      obtain ⟨v9, hv9, hj28⟩ := Option.bind_eq_some_iff.1 hj28
      refine RunS.inl (fid := 19) (caps := [.pt 0 0 0, .pt 1 0 0]) (xs := [.v (.int .i64 ((wr .i64 x2).tmod v1)), .v (.int .i64 ((wr .i64 x3).tmod v1))]) (fn := Tryd.f19) (Out := fun x h' => x = .v (.int .i64 v9.1) ∧ h' = [some ⟨1, 3, [.v (.int .i64 v1)], false⟩, some ⟨1, 4, [.v (.bool v9.2)], false⟩]) rfl rfl e_law09_EveningAxioms_k2_ok rfl rfl rfl (by kernel_rfl) (by kernel_rfl) (by kernel_rfl) (by kernel_rfl) (by kernel_rfl) (by show 4 ≤ 30; decide) (law09_EveningAxioms_k2_sem v1 v8.2 ((wr .i64 x2).tmod v1) ((wr .i64 x3).tmod v1) _ hv9) ?_
      rintro x h' ⟨rfl, rfl⟩
      obtain ⟨v10, hv10, hj28⟩ := Option.bind_eq_some_iff.1 hj28
      refine RunS.inl (fid := 19) (caps := [.pt 0 0 0, .pt 1 0 0]) (xs := [.v (.int .i64 ((wr .i64 x1).tmod v1)), .v (.int .i64 v9.1)]) (fn := Tryd.f19) (Out := fun x h' => x = .v (.int .i64 v10.1) ∧ h' = [some ⟨1, 3, [.v (.int .i64 v1)], false⟩, some ⟨1, 4, [.v (.bool v10.2)], false⟩]) rfl rfl e_law09_EveningAxioms_k2_ok rfl rfl rfl (by kernel_rfl) (by kernel_rfl) (by kernel_rfl) (by kernel_rfl) (by kernel_rfl) (by show 4 ≤ 30; decide) (law09_EveningAxioms_k2_sem v1 v9.2 ((wr .i64 x1).tmod v1) v9.1 _ hv10) ?_
      rintro x h' ⟨rfl, rfl⟩
      refine RunS.segF (n := 212) e_law09_EveningAxioms_ok 4 [(1, .v (.int .u8 x1)), (9, .pt 0 0 0), (10, .v (.int .i64 ((wr .i64 x1).tmod v1))), (11, .v (.int .i64 ((wr .i64 x2).tmod v1))), (12, .v (.int .i64 ((wr .i64 x3).tmod v1))), (13, .pt 1 0 0), (14, .fn 17 [] [.pt 0 0 0, .pt 1 0 0]), (15, .fn 19 [] [.pt 0 0 0, .pt 1 0 0]), (58, .v (.bool true)), (65, .v (.int .i64 v10.1)), (66, .fn 19 [] [.pt 0 0 0, .pt 1 0 0]), (67, .fn 19 [] [.pt 0 0 0, .pt 1 0 0]), (68, .v (.int .i64 ((wr .i64 x1).tmod v1))), (69, .v (.int .i64 ((wr .i64 x2).tmod v1)))] [some ⟨1, 3, [.v (.int .i64 v1)], false⟩, some ⟨1, 4, [.v (.bool v10.2)], false⟩] (by kernel_rfl) ?_
      obtain ⟨v11, hv11, hj28⟩ := Option.bind_eq_some_iff.1 hj28
      refine RunS.inl (fid := 19) (caps := [.pt 0 0 0, .pt 1 0 0]) (xs := [.v (.int .i64 ((wr .i64 x1).tmod v1)), .v (.int .i64 ((wr .i64 x2).tmod v1))]) (fn := Tryd.f19) (Out := fun x h' => x = .v (.int .i64 v11.1) ∧ h' = [some ⟨1, 3, [.v (.int .i64 v1)], false⟩, some ⟨1, 4, [.v (.bool v11.2)], false⟩]) rfl rfl e_law09_EveningAxioms_k2_ok rfl rfl rfl (by kernel_rfl) (by kernel_rfl) (by kernel_rfl) (by kernel_rfl) (by kernel_rfl) (by show 4 ≤ 30; decide) (law09_EveningAxioms_k2_sem v1 v10.2 ((wr .i64 x1).tmod v1) ((wr .i64 x2).tmod v1) _ hv11) ?_
      rintro x h' ⟨rfl, rfl⟩
      refine RunS.segF (n := 212) e_law09_EveningAxioms_ok 1 [(1, .v (.int .u8 x1)), (9, .pt 0 0 0), (10, .v (.int .i64 ((wr .i64 x1).tmod v1))), (11, .v (.int .i64 ((wr .i64 x2).tmod v1))), (12, .v (.int .i64 ((wr .i64 x3).tmod v1))), (13, .pt 1 0 0), (14, .fn 17 [] [.pt 0 0 0, .pt 1 0 0]), (15, .fn 19 [] [.pt 0 0 0, .pt 1 0 0]), (58, .v (.bool true)), (65, .v (.int .i64 v10.1)), (66, .fn 19 [] [.pt 0 0 0, .pt 1 0 0]), (70, .v (.int .i64 v11.1)), (71, .v (.int .i64 ((wr .i64 x3).tmod v1)))] [some ⟨1, 3, [.v (.int .i64 v1)], false⟩, some ⟨1, 4, [.v (.bool v11.2)], false⟩] (by kernel_rfl) ?_
      obtain ⟨v12, hv12, hj28⟩ := Option.bind_eq_some_iff.1 hj28
      refine RunS.inl (fid := 19) (caps := [.pt 0 0 0, .pt 1 0 0]) (xs := [.v (.int .i64 v11.1), .v (.int .i64 ((wr .i64 x3).tmod v1))]) (fn := Tryd.f19) (Out := fun x h' => x = .v (.int .i64 v12.1) ∧ h' = [some ⟨1, 3, [.v (.int .i64 v1)], false⟩, some ⟨1, 4, [.v (.bool v12.2)], false⟩]) rfl rfl e_law09_EveningAxioms_k2_ok rfl rfl rfl (by kernel_rfl) (by kernel_rfl) (by kernel_rfl) (by kernel_rfl) (by kernel_rfl) (by show 4 ≤ 30; decide) (law09_EveningAxioms_k2_sem v1 v11.2 v11.1 ((wr .i64 x3).tmod v1) _ hv12) ?_
      rintro x h' ⟨rfl, rfl⟩
      refine RunS.segF (n := 212) e_law09_EveningAxioms_ok 3 [(1, .v (.int .u8 x1)), (9, .pt 0 0 0), (10, .v (.int .i64 ((wr .i64 x1).tmod v1))), (11, .v (.int .i64 ((wr .i64 x2).tmod v1))), (12, .v (.int .i64 ((wr .i64 x3).tmod v1))), (13, .pt 1 0 0), (14, .fn 17 [] [.pt 0 0 0, .pt 1 0 0]), (15, .fn 19 [] [.pt 0 0 0, .pt 1 0 0]), (75, .v (.bool (v10.1 == v12.1)))] [some ⟨1, 3, [.v (.int .i64 v1)], false⟩, some ⟨1, 4, [.v (.bool v12.2)], false⟩] (by kernel_rfl) ?_
      rcases Bool.eq_false_or_eq_true (v10.1 == v12.1) with hc70 | hc70
      · rw [if_pos hc70] at hj28
        rw [hc70]
        refine RunS.segF (n := 212) e_law09_EveningAxioms_ok 3 [(1, .v (.int .u8 x1)), (9, .pt 0 0 0), (10, .v (.int .i64 ((wr .i64 x1).tmod v1))), (11, .v (.int .i64 ((wr .i64 x2).tmod v1))), (12, .v (.int .i64 ((wr .i64 x3).tmod v1))), (13, .pt 1 0 0), (14, .fn 17 [] [.pt 0 0 0, .pt 1 0 0]), (15, .fn 19 [] [.pt 0 0 0, .pt 1 0 0]), (75, .v (.bool true)), (76, .fn 17 [] [.pt 0 0 0, .pt 1 0 0]), (77, .v (.int .i64 ((wr .i64 x1).tmod v1))), (78, .v (.int .i64 ((wr .i64 x2).tmod v1)))] [some ⟨1, 3, [.v (.int .i64 v1)], false⟩, some ⟨1, 4, [.v (.bool v12.2)], false⟩] (by kernel_rfl) ?_
        obtain ⟨v13, hv13, hj28⟩ := Option.bind_eq_some_iff.1 hj28
        refine RunS.inl (fid := 17) (caps := [.pt 0 0 0, .pt 1 0 0]) (xs := [.v (.int .i64 ((wr .i64 x1).tmod v1)), .v (.int .i64 ((wr .i64 x2).tmod v1))]) (fn := Tryd.f17) (Out := fun x h' => x = .v (.int .i64 v13.1) ∧ h' = [some ⟨1, 3, [.v (.int .i64 v1)], false⟩, some ⟨1, 4, [.v (.bool v13.2)], false⟩]) rfl rfl e_law09_EveningAxioms_k1_ok rfl rfl rfl (by kernel_rfl) (by kernel_rfl) (by kernel_rfl) (by kernel_rfl) (by kernel_rfl) (by show 4 ≤ 30; decide) (law09_EveningAxioms_k1_sem v1 v12.2 ((wr .i64 x1).tmod v1) ((wr .i64 x2).tmod v1) _ hv13) ?_
        rintro x h' ⟨rfl, rfl⟩
        refine RunS.segF (n := 212) e_law09_EveningAxioms_ok 3 [(1, .v (.int .u8 x1)), (9, .pt 0 0 0), (10, .v (.int .i64 ((wr .i64 x1).tmod v1))), (11, .v (.int .i64 ((wr .i64 x2).tmod v1))), (12, .v (.int .i64 ((wr .i64 x3).tmod v1))), (13, .pt 1 0 0), (14, .fn 17 [] [.pt 0 0 0, .pt 1 0 0]), (15, .fn 19 [] [.pt 0 0 0, .pt 1 0 0]), (75, .v (.bool true)), (79, .v (.int .i64 v13.1)), (80, .fn 17 [] [.pt 0 0 0, .pt 1 0 0]), (81, .v (.int .i64 ((wr .i64 x2).tmod v1))), (82, .v (.int .i64 ((wr .i64 x1).tmod v1)))] [some ⟨1, 3, [.v (.int .i64 v1)], false⟩, some ⟨1, 4, [.v (.bool v13.2)], false⟩] (by kernel_rfl) ?_
        obtain ⟨v14, hv14, hj28⟩ := Option.bind_eq_some_iff.1 hj28
        refine RunS.inl (fid := 17) (caps := [.pt 0 0 0, .pt 1 0 0]) (xs := [.v (.int .i64 ((wr .i64 x2).tmod v1)), .v (.int .i64 ((wr .i64 x1).tmod v1))]) (fn := Tryd.f17) (Out := fun x h' => x = .v (.int .i64 v14.1) ∧ h' = [some ⟨1, 3, [.v (.int .i64 v1)], false⟩, some ⟨1, 4, [.v (.bool v14.2)], false⟩]) rfl rfl e_law09_EveningAxioms_k1_ok rfl rfl rfl (by kernel_rfl) (by kernel_rfl) (by kernel_rfl) (by kernel_rfl) (by kernel_rfl) (by show 4 ≤ 30; decide) (law09_EveningAxioms_k1_sem v1 v13.2 ((wr .i64 x2).tmod v1) ((wr .i64 x1).tmod v1) _ hv14) ?_
        rintro x h' ⟨rfl, rfl⟩
        refine RunS.segF (n := 212) e_law09_EveningAxioms_ok 3 [(1, .v (.int .u8 x1)), (9, .pt 0 0 0), (10, .v (.int .i64 ((wr .i64 x1).tmod v1))), (11, .v (.int .i64 ((wr .i64 x2).tmod v1))), (12, .v (.int .i64 ((wr .i64 x3).tmod v1))), (13, .pt 1 0 0), (14, .fn 17 [] [.pt 0 0 0, .pt 1 0 0]), (15, .fn 19 [] [.pt 0 0 0, .pt 1 0 0]), (86, .v (.bool (v13.1 == v14.1)))] [some ⟨1, 3, [.v (.int .i64 v1)], false⟩, some ⟨1, 4, [.v (.bool v14.2)], false⟩] (by kernel_rfl) ?_
        rcases Bool.eq_false_or_eq_true (v13.1 == v14.1) with hc71 | hc71
        · rw [if_pos hc71] at hj28
          rw [hc71]
          refine RunS.segF (n := 212) e_law09_EveningAxioms_ok 3 [(1, .v (.int .u8 x1)), (9, .pt 0 0 0), (10, .v (.int .i64 ((wr .i64 x1).tmod v1))), (11, .v (.int .i64 ((wr .i64 x2).tmod v1))), (12, .v (.int .i64 ((wr .i64 x3).tmod v1))), (13, .pt 1 0 0), (14, .fn 17 [] [.pt 0 0 0, .pt 1 0 0]), (15, .fn 19 [] [.pt 0 0 0, .pt 1 0 0]), (86, .v (.bool true)), (87, .fn 19 [] [.pt 0 0 0, .pt 1 0 0]), (88, .v (.int .i64 ((wr .i64 x1).tmod v1))), (89, .v (.int .i64 ((wr .i64 x2).tmod v1)))] [some ⟨1, 3, [.v (.int .i64 v1)], false⟩, some ⟨1, 4, [.v (.bool v14.2)], false⟩] (by kernel_rfl) ?_
          obtain ⟨v15, hv15, hj28⟩ := Option.bind_eq_some_iff.1 hj28
          refine RunS.inl (fid := 19) (caps := [.pt 0 0 0, .pt 1 0 0]) (xs := [.v (.int .i64 ((wr .i64 x1).tmod v1)), .v (.int .i64 ((wr .i64 x2).tmod v1))]) (fn := Tryd.f19) (Out := fun x h' => x = .v (.int .i64 v15.1) ∧ h' = [some ⟨1, 3, [.v (.int .i64 v1)], false⟩, some ⟨1, 4, [.v (.bool v15.2)], false⟩]) rfl rfl e_law09_EveningAxioms_k2_ok rfl rfl rfl (by kernel_rfl) (by kernel_rfl) (by kernel_rfl) (by kernel_rfl) (by kernel_rfl) (by show 4 ≤ 30; decide) (law09_EveningAxioms_k2_sem v1 v14.2 ((wr .i64 x1).tmod v1) ((wr .i64 x2).tmod v1) _ hv15) ?_
          rintro x h' ⟨rfl, rfl⟩
          refine RunS.segF (n := 212) e_law09_EveningAxioms_ok 3 [(1, .v (.int .u8 x1)), (9, .pt 0 0 0), (10, .v (.int .i64 ((wr .i64 x1).tmod v1))), (11, .v (.int .i64 ((wr .i64 x2).tmod v1))), (12, .v (.int .i64 ((wr .i64 x3).tmod v1))), (13, .pt 1 0 0), (14, .fn 17 [] [.pt 0 0 0, .pt 1 0 0]), (15, .fn 19 [] [.pt 0 0 0, .pt 1 0 0]), (86, .v (.bool true)), (90, .v (.int .i64 v15.1)), (91, .fn 19 [] [.pt 0 0 0, .pt 1 0 0]), (92, .v (.int .i64 ((wr .i64 x2).tmod v1))), (93, .v (.int .i64 ((wr .i64 x1).tmod v1)))] [some ⟨1, 3, [.v (.int .i64 v1)], false⟩, some ⟨1, 4, [.v (.bool v15.2)], false⟩] (by kernel_rfl) ?_
          obtain ⟨v16, hv16, hj28⟩ := Option.bind_eq_some_iff.1 hj28
          refine RunS.inl (fid := 19) (caps := [.pt 0 0 0, .pt 1 0 0]) (xs := [.v (.int .i64 ((wr .i64 x2).tmod v1)), .v (.int .i64 ((wr .i64 x1).tmod v1))]) (fn := Tryd.f19) (Out := fun x h' => x = .v (.int .i64 v16.1) ∧ h' = [some ⟨1, 3, [.v (.int .i64 v1)], false⟩, some ⟨1, 4, [.v (.bool v16.2)], false⟩]) rfl rfl e_law09_EveningAxioms_k2_ok rfl rfl rfl (by kernel_rfl) (by kernel_rfl) (by kernel_rfl) (by kernel_rfl) (by kernel_rfl) (by show 4 ≤ 30; decide) (law09_EveningAxioms_k2_sem v1 v15.2 ((wr .i64 x2).tmod v1) ((wr .i64 x1).tmod v1) _ hv16) ?_
          rintro x h' ⟨rfl, rfl⟩
          refine RunS.segF (n := 212) e_law09_EveningAxioms_ok 3 [(1, .v (.int .u8 x1)), (9, .pt 0 0 0), (10, .v (.int .i64 ((wr .i64 x1).tmod v1))), (11, .v (.int .i64 ((wr .i64 x2).tmod v1))), (12, .v (.int .i64 ((wr .i64 x3).tmod v1))), (13, .pt 1 0 0), (14, .fn 17 [] [.pt 0 0 0, .pt 1 0 0]), (15, .fn 19 [] [.pt 0 0 0, .pt 1 0 0]), (97, .v (.bool (v15.1 == v16.1)))] [some ⟨1, 3, [.v (.int .i64 v1)], false⟩, some ⟨1, 4, [.v (.bool v16.2)], false⟩] (by kernel_rfl) ?_
          rcases Bool.eq_false_or_eq_true (v15.1 == v16.1) with hc72 | hc72
          · rw [if_pos hc72] at hj28
            rw [hc72]
            refine RunS.segF (n := 212) e_law09_EveningAxioms_ok 5 [(1, .v (.int .u8 x1)), (9, .pt 0 0 0), (10, .v (.int .i64 ((wr .i64 x1).tmod v1))), (11, .v (.int .i64 ((wr .i64 x2).tmod v1))), (12, .v (.int .i64 ((wr .i64 x3).tmod v1))), (13, .pt 1 0 0), (14, .fn 17 [] [.pt 0 0 0, .pt 1 0 0]), (15, .fn 19 [] [.pt 0 0 0, .pt 1 0 0]), (97, .v (.bool true)), (98, .fn 19 [] [.pt 0 0 0, .pt 1 0 0]), (99, .v (.int .i64 ((wr .i64 x1).tmod v1))), (100, .fn 17 [] [.pt 0 0 0, .pt 1 0 0]), (101, .v (.int .i64 ((wr .i64 x2).tmod v1))), (102, .v (.int .i64 ((wr .i64 x3).tmod v1)))] [some ⟨1, 3, [.v (.int .i64 v1)], false⟩, some ⟨1, 4, [.v (.bool v16.2)], false⟩] (by kernel_rfl) ?_
            obtain ⟨v17, hv17, hj28⟩ := Option.bind_eq_some_iff.1 hj28
            refine RunS.inl (fid := 17) (caps := [.pt 0 0 0, .pt 1 0 0]) (xs := [.v (.int .i64 ((wr .i64 x2).tmod v1)), .v (.int .i64 ((wr .i64 x3).tmod v1))]) (fn := Tryd.f17) (Out := fun x h' => x = .v (.int .i64 v17.1) ∧ h' = [some ⟨1, 3, [.v (.int .i64 v1)], false⟩, some ⟨1, 4, [.v (.bool v17.2)], false⟩]) rfl rfl e_law09_EveningAxioms_k1_ok rfl rfl rfl (by kernel_rfl) (by kernel_rfl) (by kernel_rfl) (by kernel_rfl) (by kernel_rfl) (by show 4 ≤ 30; decide) (law09_EveningAxioms_k1_sem v1 v16.2 ((wr .i64 x2).tmod v1) ((wr .i64 x3).tmod v1) _ hv17) ?_
            rintro x h' ⟨rfl, rfl⟩
            obtain ⟨v18, hv18, hj28⟩ := Option.bind_eq_some_iff.1 hj28
            refine RunS.inl (fid := 19) (caps := [.pt 0 0 0, .pt 1 0 0]) (xs := [.v (.int .i64 ((wr .i64 x1).tmod v1)), .v (.int .i64 v17.1)]) (fn := Tryd.f19) (Out := fun x h' => x = .v (.int .i64 v18.1) ∧ h' = [some ⟨1, 3, [.v (.int .i64 v1)], false⟩, some ⟨1, 4, [.v (.bool v18.2)], false⟩]) rfl rfl e_law09_EveningAxioms_k2_ok rfl rfl rfl (by kernel_rfl) (by kernel_rfl) (by kernel_rfl) (by kernel_rfl) (by kernel_rfl) (by show 4 ≤ 30; decide) (law09_EveningAxioms_k2_sem v1 v17.2 ((wr .i64 x1).tmod v1) v17.1 _ hv18) ?_
            rintro x h' ⟨rfl, rfl⟩
            refine RunS.segF (n := 212) e_law09_EveningAxioms_ok 4 [(1, .v (.int .u8 x1)), (9, .pt 0 0 0), (10, .v (.int .i64 ((wr .i64 x1).tmod v1))), (12, .v (.int .i64 ((wr .i64 x3).tmod v1))), (13, .pt 1 0 0), (14, .fn 17 [] [.pt 0 0 0, .pt 1 0 0]), (15, .fn 19 [] [.pt 0 0 0, .pt 1 0 0]), (97, .v (.bool true)), (104, .v (.int .i64 v18.1)), (105, .fn 17 [] [.pt 0 0 0, .pt 1 0 0]), (106, .fn 19 [] [.pt 0 0 0, .pt 1 0 0]), (107, .v (.int .i64 ((wr .i64 x1).tmod v1))), (108, .v (.int .i64 ((wr .i64 x2).tmod v1)))] [some ⟨1, 3, [.v (.int .i64 v1)], false⟩, some ⟨1, 4, [.v (.bool v18.2)], false⟩] (by kernel_rfl) ?_
            obtain ⟨v19, hv19, hj28⟩ := Option.bind_eq_some_iff.1 hj28
            refine RunS.inl (fid := 19) (caps := [.pt 0 0 0, .pt 1 0 0]) (xs := [.v (.int .i64 ((wr .i64 x1).tmod v1)), .v (.int .i64 ((wr .i64 x2).tmod v1))]) (fn := Tryd.f19) (Out := fun x h' => x = .v (.int .i64 v19.1) ∧ h' = [some ⟨1, 3, [.v (.int .i64 v1)], false⟩, some ⟨1, 4, [.v (.bool v19.2)], false⟩]) rfl rfl e_law09_EveningAxioms_k2_ok rfl rfl rfl (by kernel_rfl) (by kernel_rfl) (by kernel_rfl) (by kernel_rfl) (by kernel_rfl) (by show 4 ≤ 30; decide) (law09_EveningAxioms_k2_sem v1 v18.2 ((wr .i64 x1).tmod v1) ((wr .i64 x2).tmod v1) _ hv19) ?_
            rintro x h' ⟨rfl, rfl⟩
            refine RunS.segF (n := 212) e_law09_EveningAxioms_ok 3 [(1, .v (.int .u8 x1)), (9, .pt 0 0 0), (10, .v (.int .i64 ((wr .i64 x1).tmod v1))), (13, .pt 1 0 0), (14, .fn 17 [] [.pt 0 0 0, .pt 1 0 0]), (15, .fn 19 [] [.pt 0 0 0, .pt 1 0 0]), (97, .v (.bool true)), (104, .v (.int .i64 v18.1)), (105, .fn 17 [] [.pt 0 0 0, .pt 1 0 0]), (109, .v (.int .i64 v19.1)), (110, .fn 19 [] [.pt 0 0 0, .pt 1 0 0]), (111, .v (.int .i64 ((wr .i64 x1).tmod v1))), (112, .v (.int .i64 ((wr .i64 x3).tmod v1)))] [some ⟨1, 3, [.v (.int .i64 v1)], false⟩, some ⟨1, 4, [.v (.bool v19.2)], false⟩] (by kernel_rfl) ?_
            obtain ⟨v20, hv20, hj28⟩ := Option.bind_eq_some_iff.1 hj28
            refine RunS.inl (fid := 19) (caps := [.pt 0 0 0, .pt 1 0 0]) (xs := [.v (.int .i64 ((wr .i64 x1).tmod v1)), .v (.int .i64 ((wr .i64 x3).tmod v1))]) (fn := Tryd.f19) (Out := fun x h' => x = .v (.int .i64 v20.1) ∧ h' = [some ⟨1, 3, [.v (.int .i64 v1)], false⟩, some ⟨1, 4, [.v (.bool v20.2)], false⟩]) rfl rfl e_law09_EveningAxioms_k2_ok rfl rfl rfl (by kernel_rfl) (by kernel_rfl) (by kernel_rfl) (by kernel_rfl) (by kernel_rfl) (by show 4 ≤ 30; decide) (law09_EveningAxioms_k2_sem v1 v19.2 ((wr .i64 x1).tmod v1) ((wr .i64 x3).tmod v1) _ hv20) ?_
            rintro x h' ⟨rfl, rfl⟩
            obtain ⟨v21, hv21, hj28⟩ := Option.bind_eq_some_iff.1 hj28
            refine RunS.inl (fid := 17) (caps := [.pt 0 0 0, .pt 1 0 0]) (xs := [.v (.int .i64 v19.1), .v (.int .i64 v20.1)]) (fn := Tryd.f17) (Out := fun x h' => x = .v (.int .i64 v21.1) ∧ h' = [some ⟨1, 3, [.v (.int .i64 v1)], false⟩, some ⟨1, 4, [.v (.bool v21.2)], false⟩]) rfl rfl e_law09_EveningAxioms_k1_ok rfl rfl rfl (by kernel_rfl) (by kernel_rfl) (by kernel_rfl) (by kernel_rfl) (by kernel_rfl) (by show 4 ≤ 30; decide) (law09_EveningAxioms_k1_sem v1 v20.2 v19.1 v20.1 _ hv21) ?_
            rintro x h' ⟨rfl, rfl⟩
            refine RunS.segF (n := 212) e_law09_EveningAxioms_ok 3 [(1, .v (.int .u8 x1)), (9, .pt 0 0 0), (10, .v (.int .i64 ((wr .i64 x1).tmod v1))), (13, .pt 1 0 0), (14, .fn 17 [] [.pt 0 0 0, .pt 1 0 0]), (15, .fn 19 [] [.pt 0 0 0, .pt 1 0 0]), (117, .v (.bool (v18.1 == v21.1)))] [some ⟨1, 3, [.v (.int .i64 v1)], false⟩, some ⟨1, 4, [.v (.bool v21.2)], false⟩] (by kernel_rfl) ?_
            rcases Bool.eq_false_or_eq_true (v18.1 == v21.1) with hc73 | hc73
            · rw [if_pos hc73] at hj28
              rw [hc73]
              refine RunS.segF (n := 212) e_law09_EveningAxioms_ok 2 [(1, .v (.int .u8 x1)), (9, .pt 0 0 0), (10, .v (.int .i64 ((wr .i64 x1).tmod v1))), (13, .pt 1 0 0), (14, .fn 17 [] [.pt 0 0 0, .pt 1 0 0]), (15, .fn 19 [] [.pt 0 0 0, .pt 1 0 0]), (117, .v (.bool true)), (118, .fn 17 [] [.pt 0 0 0, .pt 1 0 0]), (119, .v (.int .i64 ((wr .i64 x1).tmod v1)))] [some ⟨1, 3, [.v (.int .i64 v1)], false⟩, some ⟨1, 4, [.v (.bool v21.2)], false⟩] (by kernel_rfl) ?_
              obtain ⟨v22, hv22, hj28⟩ := Option.bind_eq_some_iff.1 hj28
              refine RunS.inl (fid := 17) (caps := [.pt 0 0 0, .pt 1 0 0]) (xs := [.v (.int .i64 ((wr .i64 x1).tmod v1)), .v (.int .i64 0)]) (fn := Tryd.f17) (Out := fun x h' => x = .v (.int .i64 v22.1) ∧ h' = [some ⟨1, 3, [.v (.int .i64 v1)], false⟩, some ⟨1, 4, [.v (.bool v22.2)], false⟩]) rfl rfl e_law09_EveningAxioms_k1_ok rfl rfl rfl (by kernel_rfl) (by kernel_rfl) (by kernel_rfl) (by kernel_rfl) (by kernel_rfl) (by show 4 ≤ 30; decide) (law09_EveningAxioms_k1_sem v1 v21.2 ((wr .i64 x1).tmod v1) 0 _ hv22) ?_
              rintro x h' ⟨rfl, rfl⟩
              refine RunS.segF (n := 212) e_law09_EveningAxioms_ok 4 [(1, .v (.int .u8 x1)), (9, .pt 0 0 0), (10, .v (.int .i64 ((wr .i64 x1).tmod v1))), (13, .pt 1 0 0), (14, .fn 17 [] [.pt 0 0 0, .pt 1 0 0]), (15, .fn 19 [] [.pt 0 0 0, .pt 1 0 0]), (124, .v (.bool (v22.1 == ((wr .i64 x1).tmod v1))))] [some ⟨1, 3, [.v (.int .i64 v1)], false⟩, some ⟨1, 4, [.v (.bool v22.2)], false⟩] (by kernel_rfl) ?_
              rcases Bool.eq_false_or_eq_true (v22.1 == ((wr .i64 x1).tmod v1)) with hc74 | hc74
              · rw [if_pos hc74] at hj28
                rw [hc74]
                refine RunS.segF (n := 212) e_law09_EveningAxioms_ok 2 [(1, .v (.int .u8 x1)), (9, .pt 0 0 0), (10, .v (.int .i64 ((wr .i64 x1).tmod v1))), (13, .pt 1 0 0), (14, .fn 17 [] [.pt 0 0 0, .pt 1 0 0]), (15, .fn 19 [] [.pt 0 0 0, .pt 1 0 0]), (124, .v (.bool true)), (125, .fn 19 [] [.pt 0 0 0, .pt 1 0 0]), (126, .v (.int .i64 ((wr .i64 x1).tmod v1)))] [some ⟨1, 3, [.v (.int .i64 v1)], false⟩, some ⟨1, 4, [.v (.bool v22.2)], false⟩] (by kernel_rfl) ?_
                obtain ⟨v23, hv23, hj28⟩ := Option.bind_eq_some_iff.1 hj28
                refine RunS.inl (fid := 19) (caps := [.pt 0 0 0, .pt 1 0 0]) (xs := [.v (.int .i64 ((wr .i64 x1).tmod v1)), .v (.int .i64 1)]) (fn := Tryd.f19) (Out := fun x h' => x = .v (.int .i64 v23.1) ∧ h' = [some ⟨1, 3, [.v (.int .i64 v1)], false⟩, some ⟨1, 4, [.v (.bool v23.2)], false⟩]) rfl rfl e_law09_EveningAxioms_k2_ok rfl rfl rfl (by kernel_rfl) (by kernel_rfl) (by kernel_rfl) (by kernel_rfl) (by kernel_rfl) (by show 4 ≤ 30; decide) (law09_EveningAxioms_k2_sem v1 v22.2 ((wr .i64 x1).tmod v1) 1 _ hv23) ?_
                rintro x h' ⟨rfl, rfl⟩
                refine RunS.segF (n := 212) e_law09_EveningAxioms_ok 4 [(1, .v (.int .u8 x1)), (9, .pt 0 0 0), (10, .v (.int .i64 ((wr .i64 x1).tmod v1))), (13, .pt 1 0 0), (14, .fn 17 [] [.pt 0 0 0, .pt 1 0 0]), (15, .fn 19 [] [.pt 0 0 0, .pt 1 0 0]), (131, .v (.bool (v23.1 == ((wr .i64 x1).tmod v1))))] [some ⟨1, 3, [.v (.int .i64 v1)], false⟩, some ⟨1, 4, [.v (.bool v23.2)], false⟩] (by kernel_rfl) ?_
                rcases Bool.eq_false_or_eq_true (v23.1 == ((wr .i64 x1).tmod v1)) with hc75 | hc75
                · rw [if_pos hc75] at hj28
                  rw [hc75]
                  refine RunS.segF (n := 212) e_law09_EveningAxioms_ok 2 [(1, .v (.int .u8 x1)), (9, .pt 0 0 0), (10, .v (.int .i64 ((wr .i64 x1).tmod v1))), (13, .pt 1 0 0), (14, .fn 17 [] [.pt 0 0 0, .pt 1 0 0]), (15, .fn 19 [] [.pt 0 0 0, .pt 1 0 0]), (131, .v (.bool true)), (132, .fn 19 [] [.pt 0 0 0, .pt 1 0 0]), (133, .v (.int .i64 ((wr .i64 x1).tmod v1)))] [some ⟨1, 3, [.v (.int .i64 v1)], false⟩, some ⟨1, 4, [.v (.bool v23.2)], false⟩] (by kernel_rfl) ?_
                  obtain ⟨v24, hv24, hj28⟩ := Option.bind_eq_some_iff.1 hj28
                  refine RunS.inl (fid := 19) (caps := [.pt 0 0 0, .pt 1 0 0]) (xs := [.v (.int .i64 ((wr .i64 x1).tmod v1)), .v (.int .i64 0)]) (fn := Tryd.f19) (Out := fun x h' => x = .v (.int .i64 v24.1) ∧ h' = [some ⟨1, 3, [.v (.int .i64 v1)], false⟩, some ⟨1, 4, [.v (.bool v24.2)], false⟩]) rfl rfl e_law09_EveningAxioms_k2_ok rfl rfl rfl (by kernel_rfl) (by kernel_rfl) (by kernel_rfl) (by kernel_rfl) (by kernel_rfl) (by show 4 ≤ 30; decide) (law09_EveningAxioms_k2_sem v1 v23.2 ((wr .i64 x1).tmod v1) 0 _ hv24) ?_
                  rintro x h' ⟨rfl, rfl⟩
                  refine RunS.segF (n := 212) e_law09_EveningAxioms_ok 3 [(1, .v (.int .u8 x1)), (9, .pt 0 0 0), (10, .v (.int .i64 ((wr .i64 x1).tmod v1))), (13, .pt 1 0 0), (14, .fn 17 [] [.pt 0 0 0, .pt 1 0 0]), (15, .fn 19 [] [.pt 0 0 0, .pt 1 0 0]), (16, .v (.bool (v24.1 == 0)))] [some ⟨1, 3, [.v (.int .i64 v1)], false⟩, some ⟨1, 4, [.v (.bool v24.2)], false⟩] (by kernel_rfl) ?_
                  have hq := Option.some.inj hj28; subst hq
                  exact RunS.done rfl (Wk.sel2 [0, 1] (by kernel_rfl) (by kernel_rfl) (by kernel_rfl) ⟨⟨_, rfl, bu_c (by kernel_rfl) (by kernel_rfl)⟩, ⟨_, rfl, bu_c (by kernel_rfl) (by kernel_rfl)⟩, trivial⟩ ⟨lu (by kernel_rfl) (by kernel_rfl), lu (by kernel_rfl) (by kernel_rfl), lu (by kernel_rfl) (by kernel_rfl), lu (by kernel_rfl) (by kernel_rfl), lu (by kernel_rfl) (by kernel_rfl), lu (by kernel_rfl) (by kernel_rfl), lu (by kernel_rfl) (by kernel_rfl), trivial⟩)
                · rw [if_f hc75] at hj28
                  rw [hc75]
                  refine RunS.segF (n := 212) e_law09_EveningAxioms_ok 6 [(1, .v (.int .u8 x1)), (9, .pt 0 0 0), (10, .v (.int .i64 ((wr .i64 x1).tmod v1))), (13, .pt 1 0 0), (14, .fn 17 [] [.pt 0 0 0, .pt 1 0 0]), (15, .fn 19 [] [.pt 0 0 0, .pt 1 0 0]), (16, .v (.bool false))] [some ⟨1, 3, [.v (.int .i64 v1)], false⟩, some ⟨1, 4, [.v (.bool v23.2)], false⟩] (by kernel_rfl) ?_
                  have hq := Option.some.inj hj28; subst hq
                  exact RunS.done rfl (Wk.sel2 [0, 1] (by kernel_rfl) (by kernel_rfl) (by kernel_rfl) ⟨⟨_, rfl, bu_c (by kernel_rfl) (by kernel_rfl)⟩, ⟨_, rfl, bu_c (by kernel_rfl) (by kernel_rfl)⟩, trivial⟩ ⟨lu (by kernel_rfl) (by kernel_rfl), lu (by kernel_rfl) (by kernel_rfl), lu (by kernel_rfl) (by kernel_rfl), lu (by kernel_rfl) (by kernel_rfl), lu (by kernel_rfl) (by kernel_rfl), lu (by kernel_rfl) (by kernel_rfl), lu (by kernel_rfl) (by kernel_rfl), trivial⟩)
              · rw [if_f hc74] at hj28
                rw [hc74]
                refine RunS.segF (n := 212) e_law09_EveningAxioms_ok 13 [(1, .v (.int .u8 x1)), (9, .pt 0 0 0), (10, .v (.int .i64 ((wr .i64 x1).tmod v1))), (13, .pt 1 0 0), (14, .fn 17 [] [.pt 0 0 0, .pt 1 0 0]), (15, .fn 19 [] [.pt 0 0 0, .pt 1 0 0]), (16, .v (.bool false))] [some ⟨1, 3, [.v (.int .i64 v1)], false⟩, some ⟨1, 4, [.v (.bool v22.2)], false⟩] (by kernel_rfl) ?_
                have hq := Option.some.inj hj28; subst hq
                exact RunS.done rfl (Wk.sel2 [0, 1] (by kernel_rfl) (by kernel_rfl) (by kernel_rfl) ⟨⟨_, rfl, bu_c (by kernel_rfl) (by kernel_rfl)⟩, ⟨_, rfl, bu_c (by kernel_rfl) (by kernel_rfl)⟩, trivial⟩ ⟨lu (by kernel_rfl) (by kernel_rfl), lu (by kernel_rfl) (by kernel_rfl), lu (by kernel_rfl) (by kernel_rfl), lu (by kernel_rfl) (by kernel_rfl), lu (by kernel_rfl) (by kernel_rfl), lu (by kernel_rfl) (by kernel_rfl), lu (by kernel_rfl) (by kernel_rfl), trivial⟩)
            · rw [if_f hc73] at hj28
              rw [hc73]
              refine RunS.segF (n := 212) e_law09_EveningAxioms_ok 20 [(1, .v (.int .u8 x1)), (9, .pt 0 0 0), (10, .v (.int .i64 ((wr .i64 x1).tmod v1))), (13, .pt 1 0 0), (14, .fn 17 [] [.pt 0 0 0, .pt 1 0 0]), (15, .fn 19 [] [.pt 0 0 0, .pt 1 0 0]), (16, .v (.bool false))] [some ⟨1, 3, [.v (.int .i64 v1)], false⟩, some ⟨1, 4, [.v (.bool v21.2)], false⟩] (by kernel_rfl) ?_
              have hq := Option.some.inj hj28; subst hq
              exact RunS.done rfl (Wk.sel2 [0, 1] (by kernel_rfl) (by kernel_rfl) (by kernel_rfl) ⟨⟨_, rfl, bu_c (by kernel_rfl) (by kernel_rfl)⟩, ⟨_, rfl, bu_c (by kernel_rfl) (by kernel_rfl)⟩, trivial⟩ ⟨lu (by kernel_rfl) (by kernel_rfl), lu (by kernel_rfl) (by kernel_rfl), lu (by kernel_rfl) (by kernel_rfl), lu (by kernel_rfl) (by kernel_rfl), lu (by kernel_rfl) (by kernel_rfl), lu (by kernel_rfl) (by kernel_rfl), lu (by kernel_rfl) (by kernel_rfl), trivial⟩)
          · rw [if_f hc72] at hj28
            rw [hc72]
            refine RunS.segF (n := 212) e_law09_EveningAxioms_ok 40 [(1, .v (.int .u8 x1)), (9, .pt 0 0 0), (10, .v (.int .i64 ((wr .i64 x1).tmod v1))), (13, .pt 1 0 0), (14, .fn 17 [] [.pt 0 0 0, .pt 1 0 0]), (15, .fn 19 [] [.pt 0 0 0, .pt 1 0 0]), (16, .v (.bool false))] [some ⟨1, 3, [.v (.int .i64 v1)], false⟩, some ⟨1, 4, [.v (.bool v16.2)], false⟩] (by kernel_rfl) ?_
            have hq := Option.some.inj hj28; subst hq
            exact RunS.done rfl (Wk.sel2 [0, 1] (by kernel_rfl) (by kernel_rfl) (by kernel_rfl) ⟨⟨_, rfl, bu_c (by kernel_rfl) (by kernel_rfl)⟩, ⟨_, rfl, bu_c (by kernel_rfl) (by kernel_rfl)⟩, trivial⟩ ⟨lu (by kernel_rfl) (by kernel_rfl), lu (by kernel_rfl) (by kernel_rfl), lu (by kernel_rfl) (by kernel_rfl), lu (by kernel_rfl) (by kernel_rfl), lu (by kernel_rfl) (by kernel_rfl), lu (by kernel_rfl) (by kernel_rfl), lu (by kernel_rfl) (by kernel_rfl), trivial⟩)
        · rw [if_f hc71] at hj28
          rw [hc71]
          refine RunS.segF (n := 212) e_law09_EveningAxioms_ok 51 [(1, .v (.int .u8 x1)), (9, .pt 0 0 0), (10, .v (.int .i64 ((wr .i64 x1).tmod v1))), (13, .pt 1 0 0), (14, .fn 17 [] [.pt 0 0 0, .pt 1 0 0]), (15, .fn 19 [] [.pt 0 0 0, .pt 1 0 0]), (16, .v (.bool false))] [some ⟨1, 3, [.v (.int .i64 v1)], false⟩, some ⟨1, 4, [.v (.bool v14.2)], false⟩] (by kernel_rfl) ?_
          have hq := Option.some.inj hj28; subst hq
          exact RunS.done rfl (Wk.sel2 [0, 1] (by kernel_rfl) (by kernel_rfl) (by kernel_rfl) ⟨⟨_, rfl, bu_c (by kernel_rfl) (by kernel_rfl)⟩, ⟨_, rfl, bu_c (by kernel_rfl) (by kernel_rfl)⟩, trivial⟩ ⟨lu (by kernel_rfl) (by kernel_rfl), lu (by kernel_rfl) (by kernel_rfl), lu (by kernel_rfl) (by kernel_rfl), lu (by kernel_rfl) (by kernel_rfl), lu (by kernel_rfl) (by kernel_rfl), lu (by kernel_rfl) (by kernel_rfl), lu (by kernel_rfl) (by kernel_rfl), trivial⟩)
      · rw [if_f hc70] at hj28
        rw [hc70]
        refine RunS.segF (n := 212) e_law09_EveningAxioms_ok 62 [(1, .v (.int .u8 x1)), (9, .pt 0 0 0), (10, .v (.int .i64 ((wr .i64 x1).tmod v1))), (13, .pt 1 0 0), (14, .fn 17 [] [.pt 0 0 0, .pt 1 0 0]), (15, .fn 19 [] [.pt 0 0 0, .pt 1 0 0]), (16, .v (.bool false))] [some ⟨1, 3, [.v (.int .i64 v1)], false⟩, some ⟨1, 4, [.v (.bool v12.2)], false⟩] (by kernel_rfl) ?_
        have hq := Option.some.inj hj28; subst hq
        exact RunS.done rfl (Wk.sel2 [0, 1] (by kernel_rfl) (by kernel_rfl) (by kernel_rfl) ⟨⟨_, rfl, bu_c (by kernel_rfl) (by kernel_rfl)⟩, ⟨_, rfl, bu_c (by kernel_rfl) (by kernel_rfl)⟩, trivial⟩ ⟨lu (by kernel_rfl) (by kernel_rfl), lu (by kernel_rfl) (by kernel_rfl), lu (by kernel_rfl) (by kernel_rfl), lu (by kernel_rfl) (by kernel_rfl), lu (by kernel_rfl) (by kernel_rfl), lu (by kernel_rfl) (by kernel_rfl), lu (by kernel_rfl) (by kernel_rfl), trivial⟩)
    · rw [if_f hc69] at hj28
      rw [hc69]
      refine RunS.segF (n := 212) e_law09_EveningAxioms_ok 79 [(1, .v (.int .u8 x1)), (9, .pt 0 0 0), (10, .v (.int .i64 ((wr .i64 x1).tmod v1))), (13, .pt 1 0 0), (14, .fn 17 [] [.pt 0 0 0, .pt 1 0 0]), (15, .fn 19 [] [.pt 0 0 0, .pt 1 0 0]), (16, .v (.bool false))] [some ⟨1, 3, [.v (.int .i64 v1)], false⟩, some ⟨1, 4, [.v (.bool v8.2)], false⟩] (by kernel_rfl) ?_
      have hq := Option.some.inj hj28; subst hq
      exact RunS.done rfl (Wk.sel2 [0, 1] (by kernel_rfl) (by kernel_rfl) (by kernel_rfl) ⟨⟨_, rfl, bu_c (by kernel_rfl) (by kernel_rfl)⟩, ⟨_, rfl, bu_c (by kernel_rfl) (by kernel_rfl)⟩, trivial⟩ ⟨lu (by kernel_rfl) (by kernel_rfl), lu (by kernel_rfl) (by kernel_rfl), lu (by kernel_rfl) (by kernel_rfl), lu (by kernel_rfl) (by kernel_rfl), lu (by kernel_rfl) (by kernel_rfl), lu (by kernel_rfl) (by kernel_rfl), lu (by kernel_rfl) (by kernel_rfl), trivial⟩)
  refine Sem.seq ?_
  refine Sem.runS (s1 := ⟨Fr 212 [(1, .v (.int .u8 x1)), (9, .pt 0 0 0), (10, .v (.int .i64 ((wr .i64 x1).tmod v1))), (13, .pt 1 0 0), (14, .fn 17 [] [.pt 0 0 0, .pt 1 0 0]), (15, .fn 19 [] [.pt 0 0 0, .pt 1 0 0]), (16, .v (.bool j28.2.2)), (17, .v (.int .i64 0)), (18, .v (.int .i64 0))], [some ⟨1, 3, [.v (.int .i64 j28.1)], false⟩, some ⟨1, 4, [.v (.bool j28.2.1)], false⟩]⟩) ?_ ?_
  · refine RunS.segF (n := 212) e_law09_EveningAxioms_ok 2 [(1, .v (.int .u8 x1)), (9, .pt 0 0 0), (10, .v (.int .i64 ((wr .i64 x1).tmod v1))), (13, .pt 1 0 0), (14, .fn 17 [] [.pt 0 0 0, .pt 1 0 0]), (15, .fn 19 [] [.pt 0 0 0, .pt 1 0 0]), (16, .v (.bool j28.2.2)), (17, .v (.int .i64 0)), (18, .v (.int .i64 0))] [some ⟨1, 3, [.v (.int .i64 j28.1)], false⟩, some ⟨1, 4, [.v (.bool j28.2.1)], false⟩] (by kernel_rfl) ?_
    exact RunS.done rfl (Wk.sel2 [0, 1] (by kernel_rfl) (by kernel_rfl) (by kernel_rfl) ⟨⟨_, rfl, bu_c (by kernel_rfl) (by kernel_rfl)⟩, ⟨_, rfl, bu_c (by kernel_rfl) (by kernel_rfl)⟩, trivial⟩ ⟨lu (by kernel_rfl) (by kernel_rfl), lu (by kernel_rfl) (by kernel_rfl), lu (by kernel_rfl) (by kernel_rfl), lu (by kernel_rfl) (by kernel_rfl), lu (by kernel_rfl) (by kernel_rfl), lu (by kernel_rfl) (by kernel_rfl), lu (by kernel_rfl) (by kernel_rfl), lu (by kernel_rfl) (by kernel_rfl), lu (by kernel_rfl) (by kernel_rfl), trivial⟩)
  refine Sem.seq ?_
  refine Sem.seq ?_
  refine Sem.runS (s1 := ⟨Fr 212 [(1, .v (.int .u8 x1)), (9, .pt 0 0 0), (10, .v (.int .i64 ((wr .i64 x1).tmod v1))), (13, .pt 1 0 0), (14, .fn 17 [] [.pt 0 0 0, .pt 1 0 0]), (15, .fn 19 [] [.pt 0 0 0, .pt 1 0 0]), (16, .v (.bool j28.2.2)), (17, .v (.int .i64 0)), (18, .v (.int .i64 0)), (137, .v (.int .i64 j28.1)), (138, .v (.int .i64 0))], [some ⟨1, 3, [.v (.int .i64 j28.1)], false⟩, some ⟨1, 4, [.v (.bool j28.2.1)], false⟩]⟩) ?_ ?_
  · refine RunS.segF (n := 212) e_law09_EveningAxioms_ok 2 [(1, .v (.int .u8 x1)), (9, .pt 0 0 0), (10, .v (.int .i64 ((wr .i64 x1).tmod v1))), (13, .pt 1 0 0), (14, .fn 17 [] [.pt 0 0 0, .pt 1 0 0]), (15, .fn 19 [] [.pt 0 0 0, .pt 1 0 0]), (16, .v (.bool j28.2.2)), (17, .v (.int .i64 0)), (18, .v (.int .i64 0)), (137, .v (.int .i64 j28.1)), (138, .v (.int .i64 0))] [some ⟨1, 3, [.v (.int .i64 j28.1)], false⟩, some ⟨1, 4, [.v (.bool j28.2.1)], false⟩] (by kernel_rfl) ?_
    exact RunS.done rfl (Wk.sel2 [0, 1] (by kernel_rfl) (by kernel_rfl) (by kernel_rfl) ⟨⟨_, rfl, bu_c (by kernel_rfl) (by kernel_rfl)⟩, ⟨_, rfl, bu_c (by kernel_rfl) (by kernel_rfl)⟩, trivial⟩ ⟨lu (by kernel_rfl) (by kernel_rfl), lu (by kernel_rfl) (by kernel_rfl), lu (by kernel_rfl) (by kernel_rfl), lu (by kernel_rfl) (by kernel_rfl), lu (by kernel_rfl) (by kernel_rfl), lu (by kernel_rfl) (by kernel_rfl), lu (by kernel_rfl) (by kernel_rfl), lu (by kernel_rfl) (by kernel_rfl), lu (by kernel_rfl) (by kernel_rfl), lu (by kernel_rfl) (by kernel_rfl), lu (by kernel_rfl) (by kernel_rfl), trivial⟩)
  refine Sem.block ?_
  obtain ⟨r56, hr56, h⟩ := Option.bind_eq_some_iff.1 h
  refine Sem.loop (n := 100000) ?_
  refine Sem.cutN (SemN.wk (s1 := ⟨Fr 212 [(1, .v (.int .u8 x1)), (9, .pt 0 0 0), (10, .v (.int .i64 ((wr .i64 x1).tmod v1))), (13, .pt 1 0 0), (14, .fn 17 [] [.pt 0 0 0, .pt 1 0 0]), (15, .fn 19 [] [.pt 0 0 0, .pt 1 0 0]), (16, .v (.bool j28.2.2)), (17, .v (.int .i64 0)), (18, .v (.int .i64 0)), (137, .v (.int .i64 j28.1)), (138, .v (.int .i64 0))], [some ⟨1, 3, [.v (.int .i64 j28.1)], false⟩, some ⟨1, 4, [.v (.bool j28.2.1)], false⟩]⟩) (Wk.sel2 [0, 1] (by kernel_rfl) (by kernel_rfl) (by kernel_rfl) ⟨⟨_, rfl, bu_c (by kernel_rfl) (by kernel_rfl)⟩, ⟨_, rfl, bu_c (by kernel_rfl) (by kernel_rfl)⟩, trivial⟩ ⟨lu (by kernel_rfl) (by kernel_rfl), lu (by kernel_rfl) (by kernel_rfl), lu (by kernel_rfl) (by kernel_rfl), lu (by kernel_rfl) (by kernel_rfl), lu (by kernel_rfl) (by kernel_rfl), lu (by kernel_rfl) (by kernel_rfl), lu (by kernel_rfl) (by kernel_rfl), lu (by kernel_rfl) (by kernel_rfl), lu (by kernel_rfl) (by kernel_rfl), lu (by kernel_rfl) (by kernel_rfl), lu (by kernel_rfl) (by kernel_rfl), trivial⟩) (law09_EveningAxioms_1_ok x1 v1 j28 _ j28.1 j28.2.1 j28.2.2 0 0 0 _ hr56)) ?_
  refine Sem.seq ?_
  obtain ⟨v57, hv57, h⟩ := Option.bind_eq_some_iff.1 h
  refine Sem.runS (s1 := ⟨Fr 212 [(1, .v (.int .u8 x1)), (10, .v (.int .i64 ((wr .i64 x1).tmod v1))), (13, .pt 0 0 0), (16, .v (.bool r56.2.2.1)), (17, .v (.int .i64 r56.2.2.2.1)), (18, .v (.int .i64 r56.2.2.2.2)), (21, .v (.bool v57.2))], [some ⟨1, 4, [.v (.bool r56.2.1)], false⟩]⟩) ?_ ?_
  · refine RunS.segF (n := 212) e_law09_EveningAxioms_ok 3 [(1, .v (.int .u8 x1)), (10, .v (.int .i64 ((wr .i64 x1).tmod v1))), (13, .pt 1 0 0), (16, .v (.bool r56.2.2.1)), (17, .v (.int .i64 r56.2.2.2.1)), (18, .v (.int .i64 r56.2.2.2.2)), (172, .v (.int .i64 r56.1)), (173, .v (.int .i64 ((wr .i64 x1).tmod v1))), (174, .v (.int .i64 r56.1))] [some ⟨1, 3, [.v (.int .i64 r56.1)], false⟩, some ⟨1, 4, [.v (.bool r56.2.1)], false⟩] (by kernel_rfl) ?_
    refine RunS.call e_law09_EveningAxioms_ok (fid := 20) (s := cs_evening_Mul) (F := fun a => evening_Mul a.1 a.2.1 a.2.2.1) (er := er_evening_Mul) (xs := [.v (.int .i64 r56.1), .v (.int .i64 ((wr .i64 x1).tmod v1)), .v (.int .i64 r56.1)]) (a := (r56.1, ((wr .i64 x1).tmod v1), r56.1, ())) rfl (wantedA_none rfl) (by kernel_rfl) (by kernel_rfl) (by kernel_rfl) (by kernel_rfl) (Sns.cons (Sn.enc (c := cdI) (v := r56.1)) (Sns.cons (Sn.enc (c := cdI) (v := ((wr .i64 x1).tmod v1))) (Sns.cons (Sn.enc (c := cdI) (v := r56.1)) Sns.nil))) (.inl (by kernel_rfl)) hv57 ?_
    refine RunS.segF (n := 212) e_law09_EveningAxioms_ok 5 [(1, .v (.int .u8 x1)), (10, .v (.int .i64 ((wr .i64 x1).tmod v1))), (13, .pt 1 0 0), (16, .v (.bool r56.2.2.1)), (17, .v (.int .i64 r56.2.2.2.1)), (18, .v (.int .i64 r56.2.2.2.2)), (21, .v (.bool v57.2))] [some ⟨1, 3, [.v (.int .i64 r56.1)], false⟩, some ⟨1, 4, [.v (.bool r56.2.1)], false⟩] (by kernel_rfl) ?_
    exact RunS.done rfl (Wk.sel2 [1] (by kernel_rfl) (by kernel_rfl) (by kernel_rfl) ⟨⟨_, rfl, bu_c (by kernel_rfl) (by kernel_rfl)⟩, trivial⟩ ⟨lu (by kernel_rfl) (by kernel_rfl), lu (by kernel_rfl) (by kernel_rfl), lu (by kernel_rfl) (by kernel_rfl), lu (by kernel_rfl) (by kernel_rfl), lu (by kernel_rfl) (by kernel_rfl), lu (by kernel_rfl) (by kernel_rfl), lu (by kernel_rfl) (by kernel_rfl), trivial⟩)
  refine Sem.seq ?_
  obtain ⟨v58, hv58, h⟩ := Option.bind_eq_some_iff.1 h
  obtain ⟨v59, hv59, h⟩ := Option.bind_eq_some_iff.1 h
  refine Sem.runS (s1 := ⟨Fr 212 [(10, .v (.int .i64 ((wr .i64 x1).tmod v1))), (13, .pt 0 0 0), (16, .v (.bool r56.2.2.1)), (17, .v (.int .i64 r56.2.2.2.1)), (18, .v (.int .i64 r56.2.2.2.2)), (21, .v (.bool v57.2)), (23, .v (.bool v59.2))], [some ⟨1, 4, [.v (.bool r56.2.1)], false⟩]⟩) ?_ ?_
  · refine RunS.segF (n := 212) e_law09_EveningAxioms_ok 3 [(10, .v (.int .i64 ((wr .i64 x1).tmod v1))), (13, .pt 0 0 0), (16, .v (.bool r56.2.2.1)), (17, .v (.int .i64 r56.2.2.2.1)), (18, .v (.int .i64 r56.2.2.2.2)), (21, .v (.bool v57.2)), (179, hd 1 ([0, 1, 6, 10, 12, 14, 15, 17].map cdI.enc)), (181, .v (.int .u8 (x1.tmod 8)))] [some ⟨1, 4, [.v (.bool r56.2.1)], false⟩, mk 1 3 ([0, 1, 6, 10, 12, 14, 15, 17].map cdI.enc)] (by kernel_rfl) ?_
    refine RunS.one e_law09_EveningAxioms_ok 0 rfl (op_q (wantedA_none rfl) rfl (q_indexAddr (a := hd 1 ([0, 1, 6, 10, 12, 14, 15, 17].map cdI.enc)) (b := .v (.int .u8 (x1.tmod 8))) (by kernel_rfl) (by kernel_rfl) (ix_hd (e := cdI.enc) (xs := [0, 1, 6, 10, 12, 14, 15, 17]) (t' := 3) (el := 3) (k := 1) (ki := .u8) (by kernel_rfl) (by kernel_rfl) (by kernel_rfl) hv58))) ?_
    refine RunS.one e_law09_EveningAxioms_ok 0 rfl (op_q (wantedA_none rfl) rfl (q_load (p := .pt 1 ((x1.tmod 8).toNat) 0) (by kernel_rfl) (ld_mk (t' := 3) (k := 1) (m := 1) (g := false) (e := cdI.enc) (xs := [0, 1, 6, 10, 12, 14, 15, 17]) (by kernel_rfl) (by kernel_rfl) (by kernel_rfl) (idx_at hv58).2 (by kernel_rfl)))) ?_
    refine RunS.call e_law09_EveningAxioms_ok (fid := 18) (s := cs_evening_Add) (F := fun a => evening_Add a.1 a.2.1 a.2.2.1) (er := er_evening_Add) (xs := [.v (.int .i64 v58), .v (.int .i64 0), .v (.int .i64 0)]) (a := (v58, 0, 0, ())) rfl (wantedA_none rfl) (by kernel_rfl) (by kernel_rfl) (by kernel_rfl) (by kernel_rfl) (Sns.cons (Sn.enc (c := cdI) (v := v58)) (Sns.cons (Sn.enc (c := cdI) (v := 0)) (Sns.cons (Sn.enc (c := cdI) (v := 0)) Sns.nil))) (.inl (by kernel_rfl)) hv59 ?_
    refine RunS.segF (n := 212) e_law09_EveningAxioms_ok 5 [(10, .v (.int .i64 ((wr .i64 x1).tmod v1))), (13, .pt 0 0 0), (16, .v (.bool r56.2.2.1)), (17, .v (.int .i64 r56.2.2.2.1)), (18, .v (.int .i64 r56.2.2.2.2)), (21, .v (.bool v57.2)), (23, .v (.bool v59.2))] [some ⟨1, 4, [.v (.bool r56.2.1)], false⟩, mk 1 3 ([0, 1, 6, 10, 12, 14, 15, 17].map cdI.enc)] (by kernel_rfl) ?_
    exact RunS.done rfl (Wk.sel2 [0] (by kernel_rfl) (by kernel_rfl) (by kernel_rfl) ⟨⟨_, rfl, bu_c (by kernel_rfl) (by kernel_rfl)⟩, trivial⟩ ⟨lu (by kernel_rfl) (by kernel_rfl), lu (by kernel_rfl) (by kernel_rfl), lu (by kernel_rfl) (by kernel_rfl), lu (by kernel_rfl) (by kernel_rfl), lu (by kernel_rfl) (by kernel_rfl), lu (by kernel_rfl) (by kernel_rfl), lu (by kernel_rfl) (by kernel_rfl), trivial⟩)
  refine Sem.seq ?_
  obtain ⟨j62, hj62, h⟩ := Option.bind_eq_some_iff.1 h
  refine Sem.runS (s1 := ⟨Fr 212 [(8, .v (.bool j62))], []⟩) ?_ ?_
  · refine RunS.segF (n := 212) e_law09_EveningAxioms_ok 2 [(10, .v (.int .i64 ((wr .i64 x1).tmod v1))), (16, .v (.bool r56.2.2.1)), (17, .v (.int .i64 r56.2.2.2.1)), (18, .v (.int .i64 r56.2.2.2.2)), (21, .v (.bool v57.2)), (23, .v (.bool v59.2)), (188, .v (.bool r56.2.1))] [some ⟨1, 4, [.v (.bool r56.2.1)], false⟩] (by kernel_rfl) ?_
    rcases Bool.eq_false_or_eq_true r56.2.1 with hc63 | hc63
    · rw [if_pos hc63] at hj62
      rw [hc63]
      refine RunS.segF (n := 212) e_law09_EveningAxioms_ok 3 [(10, .v (.int .i64 ((wr .i64 x1).tmod v1))), (17, .v (.int .i64 r56.2.2.2.1)), (18, .v (.int .i64 r56.2.2.2.2)), (21, .v (.bool v57.2)), (23, .v (.bool v59.2)), (191, .v (.bool r56.2.2.1))] [some ⟨1, 4, [.v (.bool true)], false⟩] (by kernel_rfl) ?_
      rcases Bool.eq_false_or_eq_true r56.2.2.1 with hc64 | hc64
      · rw [if_pos hc64] at hj62
        rw [hc64]
        refine RunS.segF (n := 212) e_law09_EveningAxioms_ok 4 [(10, .v (.int .i64 ((wr .i64 x1).tmod v1))), (18, .v (.int .i64 r56.2.2.2.2)), (21, .v (.bool v57.2)), (23, .v (.bool v59.2)), (195, .v (.bool (r56.2.2.2.1 == 1)))] [some ⟨1, 4, [.v (.bool true)], false⟩] (by kernel_rfl) ?_
        rcases Bool.eq_false_or_eq_true (r56.2.2.2.1 == 1) with hc65 | hc65
        · rw [if_pos hc65] at hj62
          rw [hc65]
          refine RunS.segF (n := 212) e_law09_EveningAxioms_ok 6 [(21, .v (.bool v57.2)), (23, .v (.bool v59.2)), (201, .v (.bool (r56.2.2.2.2 == (mnI ((wr .i64 x1).tmod v1) 1))))] [some ⟨1, 4, [.v (.bool true)], false⟩] (by kernel_rfl) ?_
          rcases Bool.eq_false_or_eq_true (r56.2.2.2.2 == (mnI ((wr .i64 x1).tmod v1) 1)) with hc66 | hc66
          · rw [if_pos hc66] at hj62
            rw [hc66]
            refine RunS.segF (n := 212) e_law09_EveningAxioms_ok 4 [(23, .v (.bool v59.2)), (205, .v (.bool (!v57.2)))] [some ⟨1, 4, [.v (.bool true)], false⟩] (by kernel_rfl) ?_
            rcases Bool.eq_false_or_eq_true (!v57.2) with hc67 | hc67
            · rw [if_pos hc67] at hj62
              rw [hc67]
              refine RunS.segF (n := 212) e_law09_EveningAxioms_ok 4 [(209, .v (.bool (!v59.2)))] [some ⟨1, 4, [.v (.bool true)], false⟩] (by kernel_rfl) ?_
              rcases Bool.eq_false_or_eq_true (!v59.2) with hc68 | hc68
              · rw [if_pos hc68] at hj62
                rw [hc68]
                obtain ⟨v60, hv60, hj62⟩ := Option.bind_eq_some_iff.1 hj62
                refine RunS.call e_law09_EveningAxioms_ok (fid := 16) (s := cs_law09_awake) (F := fun a => law09_awake ) (er := er_law09_awake) (xs := []) (a := (())) rfl (by kernel_rfl) (by kernel_rfl) (by kernel_rfl) (by kernel_rfl) (by kernel_rfl) Sns.nil (.inl (by kernel_rfl)) hv60 ?_
                refine RunS.segF (n := 212) e_law09_EveningAxioms_ok 2 [(8, .v (.bool v60))] [some ⟨1, 4, [.v (.bool true)], false⟩] (by kernel_rfl) ?_
                have hq := Option.some.inj hj62; subst hq
                exact RunS.done rfl (Wk.sel2 [] (by kernel_rfl) (by kernel_rfl) (by kernel_rfl) trivial ⟨lu (by kernel_rfl) (by kernel_rfl), trivial⟩)
              · rw [if_f hc68] at hj62
                rw [hc68]
                refine RunS.segF (n := 212) e_law09_EveningAxioms_ok 3 [(8, .v (.bool false))] [some ⟨1, 4, [.v (.bool true)], false⟩] (by kernel_rfl) ?_
                have hq := Option.some.inj hj62; subst hq
                exact RunS.done rfl (Wk.sel2 [] (by kernel_rfl) (by kernel_rfl) (by kernel_rfl) trivial ⟨lu (by kernel_rfl) (by kernel_rfl), trivial⟩)
            · rw [if_f hc67] at hj62
              rw [hc67]
              refine RunS.segF (n := 212) e_law09_EveningAxioms_ok 7 [(8, .v (.bool false))] [some ⟨1, 4, [.v (.bool true)], false⟩] (by kernel_rfl) ?_
              have hq := Option.some.inj hj62; subst hq
              exact RunS.done rfl (Wk.sel2 [] (by kernel_rfl) (by kernel_rfl) (by kernel_rfl) trivial ⟨lu (by kernel_rfl) (by kernel_rfl), trivial⟩)
          · rw [if_f hc66] at hj62
            rw [hc66]
            refine RunS.segF (n := 212) e_law09_EveningAxioms_ok 11 [(8, .v (.bool false))] [some ⟨1, 4, [.v (.bool true)], false⟩] (by kernel_rfl) ?_
            have hq := Option.some.inj hj62; subst hq
            exact RunS.done rfl (Wk.sel2 [] (by kernel_rfl) (by kernel_rfl) (by kernel_rfl) trivial ⟨lu (by kernel_rfl) (by kernel_rfl), trivial⟩)
        · rw [if_f hc65] at hj62
          rw [hc65]
          refine RunS.segF (n := 212) e_law09_EveningAxioms_ok 17 [(8, .v (.bool false))] [some ⟨1, 4, [.v (.bool true)], false⟩] (by kernel_rfl) ?_
          have hq := Option.some.inj hj62; subst hq
          exact RunS.done rfl (Wk.sel2 [] (by kernel_rfl) (by kernel_rfl) (by kernel_rfl) trivial ⟨lu (by kernel_rfl) (by kernel_rfl), trivial⟩)
      · rw [if_f hc64] at hj62
        rw [hc64]
        refine RunS.segF (n := 212) e_law09_EveningAxioms_ok 21 [(8, .v (.bool false))] [some ⟨1, 4, [.v (.bool true)], false⟩] (by kernel_rfl) ?_
        have hq := Option.some.inj hj62; subst hq
        exact RunS.done rfl (Wk.sel2 [] (by kernel_rfl) (by kernel_rfl) (by kernel_rfl) trivial ⟨lu (by kernel_rfl) (by kernel_rfl), trivial⟩)
    · rw [if_f hc63] at hj62
      rw [hc63]
      refine RunS.segF (n := 212) e_law09_EveningAxioms_ok 24 [(8, .v (.bool false))] [some ⟨1, 4, [.v (.bool false)], false⟩] (by kernel_rfl) ?_
      have hq := Option.some.inj hj62; subst hq
      exact RunS.done rfl (Wk.sel2 [] (by kernel_rfl) (by kernel_rfl) (by kernel_rfl) trivial ⟨lu (by kernel_rfl) (by kernel_rfl), trivial⟩)
  refine Sem.ret ?_
  have hq := Option.some.inj h; subst hq
  exact ⟨⟨Fr 212 [(8, .v (.bool j62))], []⟩, (Wk.fr (by kernel_rfl)), .inr rfl, [.v (.bool j62)], (by kernel_rfl), (by kernel_rfl)⟩
def t_law09_EveningAxioms : List AV → Option AV := told cs_law09_EveningAxioms (fun a => law09_EveningAxioms a.1 a.2.1 a.2.2.1 a.2.2.2.1) er_law09_EveningAxioms
theorem x_law09_EveningAxioms : XOk 4 t_law09_EveningAxioms := by
  refine EnvOk.x (E := e_law09_EveningAxioms) (contract_ok e_law09_EveningAxioms_ok (fn := Tryd.f4) (c := cb_law09_EveningAxioms) ?h1 ?h2 ⟨Tryd.call4⟩ cs_law09_EveningAxioms (fun a => law09_EveningAxioms a.1 a.2.1 a.2.2.1 a.2.2.2.1) er_law09_EveningAxioms (fun a => (by show 4 ≤ 212; decide)) ?h3 ?h4) rfl rfl
  case h1 => kernel_rfl
  case h2 => kernel_rfl
  case h3 => intro b; kernel_rfl
  case h4 => exact fun a b h => law09_EveningAxioms_sem a.1 a.2.1 a.2.2.1 a.2.2.2.1 b h
end Go.Proofs.YthofgamegondnaaDoor

namespace Go.Proofs.YthofgamegondnaaDoor
open Go.RowKit
def in64 (n : Int) : Prop := -9223372036854775808 ≤ n ∧ n ≤ 9223372036854775807
theorem wr_i {n : Int} (h1 : -9223372036854775808 ≤ n) (h2 : n ≤ 9223372036854775807) : wr .i64 n = n := by
  show (if _ then n else _) = n
  rw [if_pos ⟨h1, h2⟩]
theorem idx_app {α : Type} (pre : List α) (v : α) (r : List α) : idx (pre ++ v :: r) (pre.length : Int) = some v := by
  unfold idx
  rw [if_pos (by omega)]
  simp
theorem idx_lt {α : Type} {xs : List α} {i : Nat} (h : i < xs.length) : idx xs (i : Int) = some xs[i] := by
  unfold idx
  rw [if_pos (by omega)]
  simp [h]
theorem snoc_len {α : Type} (pre : List α) (v : α) : ((pre.length : Int) + 1) = ((pre ++ [v]).length : Int) := by simp
theorem snoc_app {α : Type} (pre : List α) (v : α) (r : List α) : pre ++ v :: r = (pre ++ [v]) ++ r := by simp
theorem wr_snoc {α : Type} (pre : List α) (v : α) (r : List α) (h : (pre ++ v :: r).length ≤ 1000000000) : wr .i64 ((pre.length : Int) + 1) = ((pre ++ [v]).length : Int) := by
  simp at h
  rw [wr_i (by omega) (by omega)]; simp
theorem lt_len {α : Type} (pre : List α) (v : α) (r : List α) : decide ((pre.length : Int) < ((pre ++ v :: r).length : Int)) = true := by
  simp; omega
theorem nlt_len {α : Type} (pre : List α) : decide ((pre.length : Int) < ((pre ++ []).length : Int)) = false := by simp
theorem capOk_le {b n : Nat} (hb : b ≤ 1000) (h : n ≤ 1000000000) : capOk b n = true := by
  have h1 : n * b ≤ 1000000000 * 1000 := Nat.mul_le_mul h hb
  unfold capOk
  rw [Bool.and_eq_true]
  exact ⟨Nat.ble_eq_true_of_le (by omega), Nat.ble_eq_true_of_le (by omega)⟩
theorem tdiv2 (n : Int) (h : 0 ≤ n) : n.tdiv 2 = n / 2 := Int.tdiv_eq_ediv_of_nonneg h

/-- A loop over a list, told by the list. -/
def goL {α σ ρ : Type} (B : α → Int → σ → (σ → Option ρ) → Option ρ) (D : σ → Option ρ) : List α → Int → σ → Option ρ
  | [], _, s => D s
  | v :: r, i, s => B v i s (fun s' => goL B D r (i + 1) s')
theorem loop_list {α σ ρ : Type} (xs : List α) (hxs : xs.length ≤ 1000000) (L : Nat → σ → Int → Option ρ) (B : α → Int → σ → (σ → Option ρ) → Option ρ) (D : σ → Option ρ)
    (h : ∀ f s i, L (f + 1) s i = if decide (i < (xs.length : Int)) = true then (idx xs i).bind fun v => B v i s (fun s' => L f s' (wr .i64 (i + 1))) else D s) :
    ∀ (r pre : List α) (s : σ) (f : Nat), xs = pre ++ r → r.length < f → L f s pre.length = goL B D r pre.length s
  | [], pre, s, f + 1, hx, _ => by
    subst hx
    rw [h, nlt_len]
    rfl
  | v :: r, pre, s, f + 1, hx, hf => by
    have ih := loop_list xs hxs L B D h r (pre ++ [v])
    subst hx
    rw [h, if_pos (lt_len pre v r), idx_app]
    show B v pre.length s _ = B v pre.length s _
    congr 1
    funext s'
    rw [wr_snoc pre v r (by omega), ih s' f (by simp) (by simp at hf; omega)]
    congr 1
    exact (snoc_len pre v).symm
theorem loop0 {α σ ρ : Type} (xs : List α) (hxs : xs.length ≤ 1000000) (L : Nat → σ → Int → Option ρ) (B : α → Int → σ → (σ → Option ρ) → Option ρ) (D : σ → Option ρ)
    (h : ∀ f s i, L (f + 1) s i = if decide (i < (xs.length : Int)) = true then (idx xs i).bind fun v => B v i s (fun s' => L f s' (wr .i64 (i + 1))) else D s) (s : σ) (f : Nat) (hf : xs.length < f) : L f s 0 = goL B D xs 0 s :=
  loop_list xs hxs L B D h xs [] s f rfl hf
/-- A loop over numbers. -/
def goN {σ ρ : Type} (B : Int → σ → (σ → Option ρ) → Option ρ) (D : σ → Option ρ) : Nat → Int → σ → Option ρ
  | 0, _, s => D s
  | k + 1, i, s => B i s (fun s' => goN B D k (i + 1) s')
theorem loop_num {σ ρ : Type} (n : Int) (hn : n ≤ 1000000) (L : Nat → σ → Int → Option ρ) (B : Int → σ → (σ → Option ρ) → Option ρ) (D : σ → Option ρ)
    (h : ∀ f s i, L (f + 1) s i = if decide (i < n) = true then B i s (fun s' => L f s' (wr .i64 (i + 1))) else D s) :
    ∀ (k : Nat) (i : Int) (s : σ) (f : Nat), (k : Int) = n - i → 0 ≤ i → k < f → L f s i = goN B D k i s
  | 0, i, s, f + 1, hk, _, _ => by
    rw [h, if_neg (by simp; omega)]
    rfl
  | k + 1, i, s, f + 1, hk, hi, hf => by
    have ih := loop_num n hn L B D h k (i + 1)
    rw [h, if_pos (by simp; omega)]
    show B i s _ = B i s _
    congr 1
    funext s'
    rw [wr_i (by omega) (by omega), ih s' f (by omega) (by omega) (by omega)]
theorem idx_some {α : Type} {xs : List α} {i : Int} {v : α} (h : idx xs i = some v) : v ∈ xs := by
  unfold idx at h
  split at h
  · exact List.mem_of_getElem? h
  · cases h
end Go.Proofs.YthofgamegondnaaDoor

namespace Go.Proofs.YthofgamegondnaaDoor

theorem fitGo_bd : ∀ (xs : List Int) (n : Int), fitGo n xs = true → (∀ x ∈ xs, 1 ≤ x ∧ x ≤ n) ∧ (xs.length : Int) ≤ n
  | [], n, h => by simp [fitGo] at h; subst h; simp
  | x :: xs, n, h => by
    unfold fitGo at h
    split at h
    · cases h
    · next hx =>
      have ih := fitGo_bd xs (n - x) h
      refine ⟨fun y hy => ?_, by simp; omega⟩
      rcases List.mem_cons.1 hy with rfl | hy
      · omega
      · have := ih.1 y hy; omega
theorem fitB_bd {n : Int} {xs : List Int} (h : fitB n xs = true) : (1 ≤ n ∧ n ≤ 64) ∧ (∀ x ∈ xs, 1 ≤ x ∧ x ≤ 64) ∧ xs.length ≤ 64 := by
  unfold fitB at h
  simp only [Bool.and_eq_true, decide_eq_true_eq] at h
  have h1 := fitGo_bd xs n h.1
  exact ⟨h.2, fun x hx => by have := h1.1 x hx; omega, by omega⟩
def metL : List Int → Int
  | [] => 0
  | x :: xs => x * (x - 1) / 2 + metL xs
theorem metL_drop (xs : List Int) (k : Nat) (h : k < xs.length) : metL (xs.drop k) = xs.getD k 0 * (xs.getD k 0 - 1) / 2 + metL (xs.drop (k + 1)) := by
  rw [drop_getD xs k h, metL]
theorem tri_bd {x : Int} (h : 1 ≤ x ∧ x ≤ 64) : 0 ≤ x * (x - 1) ∧ x * (x - 1) ≤ 4032 ∧ 0 ≤ x * (x - 1) / 2 ∧ x * (x - 1) / 2 ≤ 2016 := by
  have := mul_bd (show 0 ≤ x by omega) h.2 (show 0 ≤ x - 1 by omega) (show x - 1 ≤ 63 by omega)
  omega
theorem metL_bd : ∀ (xs : List Int), (∀ x ∈ xs, 1 ≤ x ∧ x ≤ 64) → 0 ≤ metL xs ∧ metL xs ≤ 2016 * (xs.length : Int)
  | [], _ => by simp [metL]
  | x :: xs, h => by
    have h1 := tri_bd (h x (by simp))
    have h2 := metL_bd xs fun y hy => h y (by simp [hy])
    simp only [metL, List.length_cons]
    omega
theorem metL_one : ∀ (xs : List Int), (∀ x ∈ xs, x = 1) → metL xs = 0
  | [], _ => rfl
  | x :: xs, h => by
    have h1 := h x (by simp)
    have h2 := metL_one xs fun y hy => h y (by simp [hy])
    subst h1
    simp [metL, h2]
theorem met_two {n : Int} {xs : List Int} (h : fitB n xs = true) (hm : metL xs ≠ 0) : 1 ≤ n * (n - 1) / 2 := by
  unfold fitB at h
  simp only [Bool.and_eq_true, decide_eq_true_eq] at h
  have h1 := fitGo_bd xs n h.1
  by_cases h2 : n = 1
  · exact absurd (metL_one xs fun x hx => by have := h1.1 x hx; omega) hm
  · have h3 : 2 * 1 ≤ n * (n - 1) := Int.mul_le_mul (by omega) (by omega) (by omega) (by omega)
    omega
def leastMostL (n : Int) (xs : List Int) (ev : Int) : Int :=
  if fitB n xs = true ∧ 1 ≤ ev ∧ metL xs ≠ 0 then (min ev 64 * metL xs + n * (n - 1) / 2 - 1) / (n * (n - 1) / 2) else 0
def mostEveningsL (n : Int) (xs : List Int) (often : Int) : Int :=
  if fitB n xs = true ∧ 0 ≤ often then (if metL xs = 0 then 64 else min 64 (min often 64 * (n * (n - 1) / 2) / metL xs)) else 0
def spanL (a : Int) (k : Nat) : List Int := (List.range k).map fun i : Nat => a + (i : Int)
theorem spanL_succ (a : Int) (k : Nat) : spanL a k ++ [a + (k : Int)] = spanL a (k + 1) := by simp [spanL, List.range_succ]

/-! ## Round robins -/
def pairM (n : Nat) : Nat := n + n % 2
def pairTab (m e i : Nat) : List Int := [((e : Int) + ((i : Int) + 1)) % ((m : Int) - 1), ((e : Int) - ((i : Int) + 1) + (m : Int) - 1) % ((m : Int) - 1)]
def pairFirst (n e : Nat) : List Int := if (n : Int) % 2 = 1 then [(e : Int)] else [(pairM n : Int) - 1, (e : Int)]
def pairGo (n e j : Nat) : List (List Int) := pairFirst n e :: (List.range j).map (pairTab (pairM n) e)
def pairEv (n e : Nat) : List (List Int) := pairGo n e (pairM n / 2 - 1)
def pairsL (n : Nat) : List (List (List Int)) := (List.range (pairM n - 1)).map (pairEv n)
theorem map_succ {α : Type} (f : Nat → α) (k : Nat) : (List.range k).map f ++ [f k] = (List.range (k + 1)).map f := by simp [List.range_succ]
theorem pairGo_succ (n e j : Nat) : pairGo n e j ++ [pairTab (pairM n) e j] = pairGo n e (j + 1) := by simp [pairGo, List.range_succ]
theorem pairGo_len (n e j : Nat) : (pairGo n e j).length = j + 1 := by simp [pairGo]

/-! ## Nets -/
theorem addL_bd (p : Int) (mn : Nat) (a b : Int) (hp : 2 ≤ p ∧ p ≤ 13) (hm : mn ≤ 4) : 0 ≤ addL p mn a b ∧ addL p mn a b ≤ 28561 := by
  have h := numberL_bd p hp (List.zipWith (· + ·) (digitsL p mn a) (digitsL p mn b))
  have hl : (List.zipWith (· + ·) (digitsL p mn a) (digitsL p mn b)).length = mn := by simp [digitsL_len]
  have h2 := pow_le4 p hp mn hm
  rw [hl] at h
  unfold addL
  omega
theorem foldr_len (p : Int) (pl xd : List Int) (mn : Nat) : ∀ (ks : List Int), (ks.foldr (mulStep p pl xd) (List.replicate mn 0)).length = mn
  | [] => by simp
  | k :: ks => by rw [List.foldr_cons, mulStep_len, foldr_len p pl xd mn ks]
theorem mulL_bd (p : Int) (mn : Nat) (pl : List Int) (a b : Int) (hp : 2 ≤ p ∧ p ≤ 13) (hm : mn ≤ 4) : 0 ≤ mulL p mn pl a b ∧ mulL p mn pl a b ≤ 28561 := by
  unfold mulL
  split
  · have := mod_bd p hp (a * b); omega
  · have h := numberL_bd p hp ((digitsL p mn b).foldr (mulStep p pl (digitsL p mn a)) (List.replicate mn 0))
    rw [foldr_len] at h
    have h2 := pow_le4 p hp mn hm
    omega
def netCell (p : Int) (m : Nat) (pl : List Int) (q : Int) (a b r : Nat) : Int := (r : Int) * q + addL p m (mulL p m pl (a : Int) (r : Int)) (b : Int)
def netTab (p : Int) (m : Nat) (pl : List Int) (k : Nat) (q : Int) (a b : Nat) : List Int := (List.range k).map (netCell p m pl q a b)
def netEv (p : Int) (m : Nat) (pl : List Int) (k : Nat) (q : Int) (a : Nat) : List (List Int) := (List.range q.toNat).map (netTab p m pl k q a)
def netRows (p : Int) (m : Nat) (pl : List Int) (k : Nat) (q : Int) : List (List (List Int)) := (List.range q.toNat).map (netEv p m pl k q)
def netL (k q : Int) : List (List (List Int)) := match fieldL q with
  | some (p, m, pl) => if 1 ≤ k ∧ k ≤ q ∧ k * q ≤ 64 then netRows p m pl k.toNat q else []
  | none => []
def netE (k q : Int) : Int := match fieldL q with
  | some _ => if 1 ≤ k ∧ k ≤ q ∧ k * q ≤ 64 then 0 else 90
  | none => 90
theorem net_no {k q : Int} (h : fieldL q = none) : netL k q = [] ∧ netE k q = 90 := by unfold netL netE; rw [h]; exact ⟨rfl, rfl⟩
theorem net_out {k q : Int} (h : ¬ (1 ≤ k ∧ k ≤ q ∧ k * q ≤ 64)) : netL k q = [] ∧ netE k q = 90 := by
  unfold netL netE
  cases fieldL q with
  | none => exact ⟨rfl, rfl⟩
  | some f => exact ⟨if_neg h, if_neg h⟩
theorem net_in {k q p : Int} {m : Nat} {pl : List Int} (hf : fieldL q = some (p, m, pl)) (h : 1 ≤ k ∧ k ≤ q ∧ k * q ≤ 64) : netL k q = netRows p m pl k.toNat q ∧ netE k q = 0 := by
  unfold netL netE
  rw [hf]
  exact ⟨if_pos h, if_pos h⟩
def planeLast (q : Int) : List (List Int) := (List.range q.toNat).map fun r : Nat => spanL ((r : Int) * q) q.toNat
def planeL (q : Int) : List (List (List Int)) := if netE q q = 0 then netL q q ++ [planeLast q] else []

theorem netE_bd {k q : Int} (h : netE k q = 0) : 1 ≤ k ∧ k ≤ q ∧ k * q ≤ 64 ∧ 2 ≤ q ∧ q ≤ 16 ∧ (netL k q).length = q.toNat := by
  cases hf : fieldL q with
  | none => rw [(net_no hf).2] at h; cases h
  | some f =>
    obtain ⟨p, m, pl⟩ := f
    have hb := fieldL_bd hf
    by_cases hc : 1 ≤ k ∧ k ≤ q ∧ k * q ≤ 64
    · refine ⟨hc.1, hc.2.1, hc.2.2, hb.2.2.2.2.2.2.1, hb.2.2.2.2.2.2.2, ?_⟩
      rw [(net_in hf hc).1]
      simp [netRows]
    · rw [(net_out hc).2] at h; cases h

/-! ## Schedules that are valid -/
structure CkSt where
  sn : List Bool
  mn : Int
  tw : Bool
  un : Bool
def ckStep (n : Int) (st : CkSt) (x : Int) : CkSt :=
  if x < 0 ∨ n ≤ x then { st with un := true }
  else ⟨st.sn.set x.toNat true, if st.sn.getD x.toNat false = true then st.mn else st.mn + 1, st.tw || st.sn.getD x.toNat false, st.un⟩
def ckEv (n : Int) (sz : List Int) : Nat → List (List Int) → CkSt → Option CkSt
  | _, [], st => some st
  | t, tb :: r, st => if tb = [] ∨ (sz ≠ [] ∧ (tb.length : Int) ≠ sz.getD t 0) then none else ckEv n sz (t + 1) r (tb.foldl (ckStep n) st)
def ckEnd (n : Int) : Option CkSt → Int
  | none => 2
  | some st => if st.un = true then 6 else if st.tw = true then 5 else if st.mn < n then 2 else 0
def checkL (n : Int) (sz : List Int) (ev : List (List Int)) : Int :=
  if sz ≠ [] ∧ sz.length ≠ ev.length then 2 else ckEnd n (ckEv n sz 0 ev ⟨List.replicate n.toNat false, 0, false, false⟩)
theorem foldl_drop {β : Type} (f : β → Int → β) (xs : List Int) (k : Nat) (st : β) (h : k < xs.length) : (xs.drop k).foldl f st = (xs.drop (k + 1)).foldl f (f st (xs.getD k 0)) := by
  rw [drop_getD xs k h, List.foldl_cons]
theorem ckEv_drop (n : Int) (sz : List Int) (t k : Nat) (ev : List (List Int)) (st : CkSt) (h : k < ev.length) (hc : ¬ (ev.getD k [] = [] ∨ (sz ≠ [] ∧ ((ev.getD k []).length : Int) ≠ sz.getD t 0))) :
    ckEv n sz t (ev.drop k) st = ckEv n sz (t + 1) (ev.drop (k + 1)) ((ev.getD k []).foldl (ckStep n) st) := by
  have e : ev.drop k = ev.getD k [] :: ev.drop (k + 1) := by
    rw [List.drop_eq_getElem_cons h, List.getD_eq_getElem?_getD, List.getElem?_eq_getElem h]; rfl
  rw [e, ckEv, if_neg hc]
theorem ckEv_none (n : Int) (sz : List Int) (t k : Nat) (ev : List (List Int)) (st : CkSt) (h : k < ev.length) (hc : ev.getD k [] = [] ∨ (sz ≠ [] ∧ ((ev.getD k []).length : Int) ≠ sz.getD t 0)) :
    ckEv n sz t (ev.drop k) st = none := by
  have e : ev.drop k = ev.getD k [] :: ev.drop (k + 1) := by
    rw [List.drop_eq_getElem_cons h, List.getD_eq_getElem?_getD, List.getElem?_eq_getElem h]; rfl
  rw [e, ckEv, if_pos hc]
def cntT : List Bool → Int
  | [] => 0
  | b :: bs => (if b = true then 1 else 0) + cntT bs
theorem cntT_bd : ∀ (bs : List Bool), 0 ≤ cntT bs ∧ cntT bs ≤ (bs.length : Int)
  | [] => by simp [cntT]
  | b :: bs => by
    have := cntT_bd bs
    simp only [cntT, List.length_cons]
    split <;> omega
theorem cntT_set : ∀ (bs : List Bool) (i : Nat), i < bs.length → cntT (bs.set i true) = cntT bs + (if bs.getD i false = true then 0 else 1)
  | b :: bs, 0, _ => by cases b <;> simp [cntT] <;> omega
  | b :: bs, i + 1, h => by
    have := cntT_set bs i (by simp at h; omega)
    simp only [List.set_cons_succ, cntT, List.getD_cons_succ, this]
    omega
theorem cntT_rep (n : Nat) : cntT (List.replicate n false) = 0 := by
  induction n with
  | zero => rfl
  | succ n ih => simp [List.replicate_succ, cntT, ih]
theorem ckStep_out {n : Int} {st : CkSt} {x : Int} (h : x < 0 ∨ n ≤ x) : ckStep n st x = { st with un := true } := by unfold ckStep; rw [if_pos h]
theorem ckStep_in {n : Int} {st : CkSt} {x : Int} (h : 0 ≤ x ∧ x < n) : ckStep n st x = ⟨st.sn.set x.toNat true, if st.sn.getD x.toNat false = true then st.mn else st.mn + 1, st.tw || st.sn.getD x.toNat false, st.un⟩ := by unfold ckStep; rw [if_neg (by omega)]
theorem ne_nil {α : Type} {xs : List α} : xs ≠ [] ↔ 0 < (xs.length : Int) := by cases xs <;> simp <;> omega
theorem eq_nil {α : Type} {xs : List α} : xs = [] ↔ (xs.length : Int) = 0 := by cases xs <;> simp <;> omega

def chkGo (n : Int) (sz : List Int) : Nat → List (List (List Int)) → Int × Int
  | _, [] => (0, 0)
  | i, ev :: r => if checkL n sz ev ≠ 0 then ((i : Int), checkL n sz ev) else chkGo n sz (i + 1) r
def chkL (n : Int) (sz : List Int) (s : List (List (List Int))) : Int × Int :=
  if ¬ (1 ≤ n ∧ n ≤ 64) ∨ (sz ≠ [] ∧ fitB n sz = false) then (0, 90) else if 64 < (s.length : Int) then (0, 7) else chkGo n sz 0 s
theorem chkGo_drop (n : Int) (sz : List Int) (k : Nat) (s : List (List (List Int))) (h : k < s.length) : chkGo n sz k (s.drop k) = if checkL n sz (s.getD k []) ≠ 0 then ((k : Int), checkL n sz (s.getD k [])) else chkGo n sz (k + 1) (s.drop (k + 1)) := by
  have e : s.drop k = s.getD k [] :: s.drop (k + 1) := by
    rw [List.drop_eq_getElem_cons h, List.getD_eq_getElem?_getD, List.getElem?_eq_getElem h]; rfl
  rw [e, chkGo]

/-! ## Meetings: the pairs of an evening, in order -/
def cellP (tb : List Int) (i k : Nat) : List (Int × Int) := if i = k then [] else [(tb.getD i 0, tb.getD k 0)]
def rowRest (tb : List Int) (i j : Nat) : List (Int × Int) := ((List.range tb.length).drop j).flatMap (cellP tb i)
def tabRest (tb : List Int) (i : Nat) : List (Int × Int) := ((List.range tb.length).drop i).flatMap fun i => rowRest tb i 0
def evRest (ev : List (List Int)) (t : Nat) : List (Int × Int) := (ev.drop t).flatMap fun tb => tabRest tb 0
theorem range_drop (n k : Nat) (h : k < n) : (List.range n).drop k = k :: (List.range n).drop (k + 1) := by
  rw [List.drop_eq_getElem_cons (by simpa using h)]; simp
theorem rowRest_step (tb : List Int) (i j : Nat) (h : j < tb.length) : rowRest tb i j = cellP tb i j ++ rowRest tb i (j + 1) := by
  unfold rowRest; rw [range_drop _ _ h, List.flatMap_cons]
theorem rowRest_end (tb : List Int) (i j : Nat) (h : tb.length ≤ j) : rowRest tb i j = [] := by
  unfold rowRest; rw [List.drop_of_length_le (by simpa using h)]; rfl
theorem tabRest_step (tb : List Int) (i : Nat) (h : i < tb.length) : tabRest tb i = rowRest tb i 0 ++ tabRest tb (i + 1) := by
  unfold tabRest; rw [range_drop _ _ h, List.flatMap_cons]
theorem tabRest_end (tb : List Int) (i : Nat) (h : tb.length ≤ i) : tabRest tb i = [] := by
  unfold tabRest; rw [List.drop_of_length_le (by simpa using h)]; rfl
theorem evRest_step (ev : List (List Int)) (t : Nat) (h : t < ev.length) : evRest ev t = tabRest (ev.getD t []) 0 ++ evRest ev (t + 1) := by
  unfold evRest
  have e : ev.drop t = ev.getD t [] :: ev.drop (t + 1) := by
    rw [List.drop_eq_getElem_cons h, List.getD_eq_getElem?_getD, List.getElem?_eq_getElem h]; rfl
  rw [e, List.flatMap_cons]
theorem evRest_end (ev : List (List Int)) (t : Nat) (h : ev.length ≤ t) : evRest ev t = [] := by
  unfold evRest; rw [List.drop_of_length_le h]; rfl
end Go.Proofs.YthofgamegondnaaDoor

namespace Go.Proofs.YthofgamegondnaaDoor
open Go.RowKit
def aA (q u v : Int) : Int := (evAdd q u v).1
def aM (q u v : Int) : Int := (evMul q u v).1
def rngI (q : Int) : List Int := (List.range q.toNat).map Int.ofNat
theorem rng_mem {q u : Int} (h0 : 0 ≤ u) (h1 : u < q) : u ∈ rngI q := List.mem_map.2 ⟨u.toNat, by simp; omega, by show ((u.toNat : Nat) : Int) = u; omega⟩
def fldQ : List Int := [2, 3, 4, 5, 7, 8, 9, 11, 13, 16]
def axT (q a b c : Int) : Bool := aA q a (aA q b c) == aA q (aA q a b) c && aM q a (aM q b c) == aM q (aM q a b) c && aM q a (aA q b c) == aA q (aM q a b) (aM q a c)
def axP (q a b : Int) : Bool := aA q a b == aA q b a && aM q a b == aM q b a && (evAdd q a b).2 && (evMul q a b).2 && decide (0 ≤ aA q a b) && decide (aA q a b < q) && decide (0 ≤ aM q a b) && decide (aM q a b < q) && ((aM q a b == 0) == (a == 0 || b == 0))
def cntI (p : Int → Bool) : Nat → Int → Int
  | 0, _ => 0
  | k + 1, i => (if p i then 1 else 0) + cntI p k (i + 1)
def ax1 (q a : Int) : Bool := aA q a 0 == a && aM q a 1 == a && aM q a 0 == 0 && cntI (fun u => aA q a u == 0) q.toNat 0 == 1 && cntI (fun u => aM q a u == 1) q.toNat 0 == mnI a 1 && !(evMul q a q).2
def tA (q : Nat) : Nat :=
  if Nat.beq q 2 then 18446744073709551632
  else if Nat.beq q 3 then 87792850665602123574159391271828613759504
  else if Nat.beq q 4 then 1826636604997524103687025415407641796770237830395656339993104
  else if Nat.beq q 5 then 23744325819004059034406350039066560157511542246644346540764386605092696850526646800
  else if Nat.beq q 7 then 3478623690343450189344135562249338476532584588467764427001429982800215446745271625268546827762217480443917131115877490766352
  else if Nat.beq q 8 then 13874437610526695973432030937281792794508753341615275460032961883811228700950539972536064596195808715573671356327488034696840624189815766921744
  else if Nat.beq q 9 then 242280702199725469974352990928395429226526593484772418668161944328841606494906220325586153284455581685689327813808656503597945483892057202906626319625518304218853904
  else if Nat.beq q 11 then 47801256700862043884254755031597379698302990695283899141412257882146020190621083950061315865283666969764863811388089464880391574791307388108407416765586075869961916621518697839661709194056553661440086782480
  else if Nat.beq q 13 then 5096332728548082069550025266041584509188004531269844101955021339290952149362303233226047325008983535190781031862781861491610551473830180381547968324462846126141658343850264751256541395366141382817658748651597524911171831391961899910866176572666384
  else if Nat.beq q 16 then 798974726605473726946832238011593618400339158202517049033210936078539962612148351302787556971974837864606271200763683943951953866025539096785282858647326000342156170857478456413950631519959977197563975844721619162716127815821009475742892049151496040916675244806998969647283770674449648040311876430683451920
  else 0
def tM (q : Nat) : Nat :=
  if Nat.beq q 2 then 295147905179352825856
  else if Nat.beq q 3 then 98001321673230277487191767811267888152576
  else if Nat.beq q 4 then 53330256343845239771214889408017248588558707406201035998363648
  else if Nat.beq q 5 then 8633458173534295531708957194668506359272841672193293788818684081649949418234839040
  else if Nat.beq q 7 then 752134494153338365622163830121678227156171018913178456748888587115968116127437694089971613802901525030371665776032251641856
  else if Nat.beq q 8 then 638732648260906949777959678038565379125696596219037394524801015071477239970190909606175165633671146960191918252948923319017128185934182682198016
  else if Nat.beq q 9 then 350271593073168926145148751542696170272942420121852288454124347193083665193360404733703433787666620839746384371830655548203159746643362737104589857648376464715808768
  else if Nat.beq q 11 then 5707612740341513482889274215300219212607810937975125163326021618047279574149327542673081591604818746784293751015793188419071153316961378705602856340041906233280890908852574691014268478255257506201311641600
  else if Nat.beq q 13 then 497203193029057548978455390703706481544668932005568052453289575683692794108682690124607659936678962065035569766277507777915876887660390400113997489778725659446389730475565544531550620901614322287356732407761353473585146035747697513696149221933056
  else if Nat.beq q 16 then 116196760129267793630862849262464326346044543732748708940920453221664288556434379745879494961270582141731748813355742142288220638766218855867759359510984593843506004200114943278699875244065120512813025380665946106619127097398772031257643617143689515450995722003729973585221105779229319991106539050771048038400
  else 0
/-- An entry of a table. -/
def lkT (T a b : Nat) : Nat := (T >>> (4 * (16 * a + b))) % 16
def allB (p : Nat → Bool) : Nat → Bool
  | 0 => true
  | k + 1 => p k && allB p k
theorem allB_at {p : Nat → Bool} : ∀ {k : Nat}, allB p k = true → ∀ i, i < k → p i = true
  | 0, _, i, hi => by omega
  | k + 1, h, i, hi => by
    simp only [allB, Bool.and_eq_true] at h
    by_cases e : i = k
    · subst e; exact h.1
    · exact allB_at h.2 i (by omega)
def tP (q a b : Nat) : Bool := Nat.blt (lkT (tA q) a b) q && Nat.blt (lkT (tM q) a b) q && decide (aA (Int.ofNat q) (Int.ofNat a) (Int.ofNat b) = Int.ofNat (lkT (tA q) a b)) && decide (aM (Int.ofNat q) (Int.ofNat a) (Int.ofNat b) = Int.ofNat (lkT (tM q) a b))
def tT (q a b c : Nat) : Bool := Nat.beq (lkT (tA q) a (lkT (tA q) b c)) (lkT (tA q) (lkT (tA q) a b) c) && Nat.beq (lkT (tM q) a (lkT (tM q) b c)) (lkT (tM q) (lkT (tM q) a b) c) && Nat.beq (lkT (tM q) a (lkT (tA q) b c)) (lkT (tA q) (lkT (tM q) a b) (lkT (tM q) a c))
def fldN : List Nat := [2, 3, 4, 5, 7, 8, 9, 11, 13, 16]
theorem tP_all : (fldN.all fun q => allB (fun a => allB (fun b => tP q a b) q) q) = true := by kernel_rfl
theorem tT_all : (fldN.all fun q => allB (fun a => allB (fun b => allB (fun c => tT q a b c) q) q) q) = true := by kernel_rfl
theorem axP_all : (fldQ.all fun q => (rngI q).all fun a => (rngI q).all fun b => axP q a b) = true := by kernel_rfl
theorem ax1_all : (fldQ.all fun q => (rngI q).all fun a => ax1 q a) = true := by kernel_rfl
theorem no_all : ([0, 1, 6, 10, 12, 14, 15, 17].all fun q => !(evAdd q 0 0).2) = true := by kernel_rfl
theorem tab_T {q a b c : Nat} (hq : q ∈ fldN) (ha : a < q) (hb : b < q) (hc : c < q) : axT (Int.ofNat q) (Int.ofNat a) (Int.ofNat b) (Int.ofNat c) = true := by
  have hP : ∀ u v, u < q → v < q → tP q u v = true := fun u v hu hv => allB_at (allB_at (List.all_eq_true.1 tP_all q hq) u hu) v hv
  have hA : ∀ u v, u < q → v < q → aA (Int.ofNat q) (Int.ofNat u) (Int.ofNat v) = Int.ofNat (lkT (tA q) u v) ∧ aM (Int.ofNat q) (Int.ofNat u) (Int.ofNat v) = Int.ofNat (lkT (tM q) u v) ∧ lkT (tA q) u v < q ∧ lkT (tM q) u v < q := fun u v hu hv => by
    have := hP u v hu hv
    simp only [tP, Bool.and_eq_true, decide_eq_true_eq] at this
    exact ⟨this.1.2, this.2, Nat.le_of_ble_eq_true this.1.1.1, Nat.le_of_ble_eq_true this.1.1.2⟩
  have hT := allB_at (allB_at (allB_at (List.all_eq_true.1 tT_all q hq) a ha) b hb) c hc
  simp only [tT, Bool.and_eq_true] at hT
  obtain ⟨⟨t1, t2⟩, t3⟩ := hT
  have t1 := Nat.eq_of_beq_eq_true t1
  have t2 := Nat.eq_of_beq_eq_true t2
  have t3 := Nat.eq_of_beq_eq_true t3
  obtain ⟨b1, b2, b3, b4⟩ := hA b c hb hc
  obtain ⟨c1, c2, c3, c4⟩ := hA a b ha hb
  obtain ⟨d1, d2, d3, d4⟩ := hA a c ha hc
  unfold axT
  rw [b1, b2, c1, c2, d2, (hA a _ ha b3).1, (hA a _ ha b4).2.1, (hA _ c c3 hc).1, (hA _ c c4 hc).2.1, (hA a _ ha b3).2.1, (hA _ _ c4 d4).1, t1, t2, t3]
  simp
theorem fldN_of {q : Int} (hq : q ∈ fldQ) : ∃ n ∈ fldN, q = Int.ofNat n := by
  have : ∀ q ∈ fldQ, q.toNat ∈ fldN ∧ q = Int.ofNat q.toNat := by decide
  exact ⟨q.toNat, (this q hq).1, (this q hq).2⟩
end Go.Proofs.YthofgamegondnaaDoor

namespace Go.Proofs.YthofgamegondnaaDoor
open Go.RowKit
structure VQ (q u : Int) : Prop where
  lo : 0 ≤ u
  hi : u < q
theorem VQ.mem {q u : Int} (h : VQ q u) : u ∈ rngI q := rng_mem h.lo h.hi
theorem ax_P {q : Int} (hq : q ∈ fldQ) {a b : Int} (ha : VQ q a) (hb : VQ q b) : axP q a b = true :=
  List.all_eq_true.1 (List.all_eq_true.1 (List.all_eq_true.1 axP_all q hq) a ha.mem) b hb.mem
theorem ax_1 {q : Int} (hq : q ∈ fldQ) {a : Int} (ha : VQ q a) : ax1 q a = true :=
  List.all_eq_true.1 (List.all_eq_true.1 ax1_all q hq) a ha.mem
theorem ax_T {q : Int} (hq : q ∈ fldQ) {a b c : Int} (ha : VQ q a) (hb : VQ q b) (hc : VQ q c) : axT q a b c = true := by
  obtain ⟨n, hn, rfl⟩ := fldN_of hq
  obtain ⟨a, rfl⟩ := Int.eq_ofNat_of_zero_le ha.lo
  obtain ⟨b, rfl⟩ := Int.eq_ofNat_of_zero_le hb.lo
  obtain ⟨c, rfl⟩ := Int.eq_ofNat_of_zero_le hc.lo
  exact tab_T hn (Int.ofNat_lt.1 ha.hi) (Int.ofNat_lt.1 hb.hi) (Int.ofNat_lt.1 hc.hi)
theorem aA_v {q : Int} (hq : q ∈ fldQ) {a b : Int} (ha : VQ q a) (hb : VQ q b) : VQ q (aA q a b) := by
  have := ax_P hq ha hb
  simp only [axP, Bool.and_eq_true, decide_eq_true_eq] at this
  exact ⟨this.1.1.1.1.2, this.1.1.1.2⟩
theorem aM_v {q : Int} (hq : q ∈ fldQ) {a b : Int} (ha : VQ q a) (hb : VQ q b) : VQ q (aM q a b) := by
  have := ax_P hq ha hb
  simp only [axP, Bool.and_eq_true, decide_eq_true_eq] at this
  exact ⟨this.1.1.2, this.1.2⟩
theorem k1_eq {q : Int} (hq : q ∈ fldQ) {a b : Int} (ha : VQ q a) (hb : VQ q b) : law09_EveningAxioms_k1 q true a b = some (aA q a b, true) := by
  have h := ax_P hq ha hb
  simp only [axP, Bool.and_eq_true, decide_eq_true_eq] at h
  unfold law09_EveningAxioms_k1 evening_Add
  simp only [Option.bind_some, if_true]
  have h1 : (evAdd q a b).2 = true := h.1.1.1.1.1.1.2
  have h2 : 0 ≤ (evAdd q a b).1 := h.1.1.1.1.2
  have h3 : (evAdd q a b).1 < q := h.1.1.1.2
  simp [h1, h2, h3, aA]
theorem k2_eq {q : Int} (hq : q ∈ fldQ) {a b : Int} (ha : VQ q a) (hb : VQ q b) : law09_EveningAxioms_k2 q true a b = some (aM q a b, true) := by
  have h := ax_P hq ha hb
  simp only [axP, Bool.and_eq_true, decide_eq_true_eq] at h
  unfold law09_EveningAxioms_k2 evening_Mul
  simp only [Option.bind_some, if_true]
  have h1 : (evMul q a b).2 = true := h.1.1.1.1.1.2
  have h2 : 0 ≤ (evMul q a b).1 := h.1.1.2
  have h3 : (evMul q a b).1 < q := h.1.2
  simp [h1, h2, h3, aM]
theorem cnt_nn (p : Int → Bool) : ∀ (k : Nat) (i : Int), 0 ≤ cntI p k i ∧ cntI p k i ≤ k
  | 0, i => by simp [cntI]
  | k + 1, i => by
    have := cnt_nn p k (i + 1)
    simp only [cntI]
    split <;> push_cast <;> omega
theorem ax_loop (x1 q : Int) (hq : q ∈ fldQ) (hq64 : q ≤ 64) (j : Int × Bool × Bool) (hj : j.1 = q) (a : Int) (ha : VQ q a) (hxa : (wr .i64 x1).tmod q = a) : ∀ (k : Nat) (i : Int) (c d : Int) (f : Nat), (k : Int) = q - i → k < f → 0 ≤ i → 0 ≤ c → c ≤ 1000 + i → 0 ≤ d → d ≤ 1000 + i → law09_EveningAxioms_1 x1 q j f q true true c d i = some (q, true, true, c + cntI (fun u => aA q a u == 0) k i, d + cntI (fun u => aM q a u == 1) k i)
  | 0, i, c, d, f + 1, hk, _, _, _, _, _, _ => by
    unfold law09_EveningAxioms_1
    rw [hj, if_neg (by simp; omega)]
    simp [cntI]
  | k + 1, i, c, d, f + 1, hk, hf, hi, hc, hc2, hd, hd2 => by
    have hv : VQ q i := ⟨hi, by omega⟩
    unfold law09_EveningAxioms_1
    rw [hj, if_pos (by simp; omega), hxa, k1_eq hq ha hv]
    simp only [Option.bind_some]
    have e1 : law09_EveningAxioms_j2 x1 q j i true c d i (aA q a i, true) = some (c + (if (aA q a i == 0) = true then 1 else 0)) := by
      unfold law09_EveningAxioms_j2
      simp only
      split
      · rw [wr_i (by omega) (by omega)]
      · simp
    have e1' : law09_EveningAxioms_j2 x1 q j q true c d i (aA q a i, true) = some (c + (if (aA q a i == 0) = true then 1 else 0)) := e1
    rw [e1']
    simp only [Option.bind_some]
    rw [k2_eq hq ha hv]
    simp only [Option.bind_some]
    have e2 : ∀ r39, law09_EveningAxioms_j3 x1 q j q true d i r39 (aM q a i, true) = some (d + (if (aM q a i == 1) = true then 1 else 0)) := fun r39 => by
      unfold law09_EveningAxioms_j3
      simp only
      split
      · rw [wr_i (by omega) (by omega)]
      · simp
    rw [e2]
    simp only [Option.bind_some, if_true]
    have hz : (aM q a i == 0) = (a == 0 || i == 0) := by
      have h := ax_P hq ha hv
      simp only [axP, Bool.and_eq_true, beq_iff_eq] at h
      exact h.2
    rw [k2_eq hq ha hv]
    simp only [Option.bind_some]
    have e3 : (if (a == 0) = true then some (q, true, ((aM q a i == 0) == true)) else some (q, true, ((aM q a i == 0) == (i == 0)))) = some (q, true, true) := by
      rw [hz]
      cases (a == 0) <;> cases (i == 0) <;> rfl
    rw [e3]
    simp only [Option.bind_some]
    rw [wr_i (by omega) (by omega), ax_loop x1 q hq hq64 j hj a ha hxa k (i + 1) _ _ f (by omega) (by omega) (by omega) (by split <;> omega) (by split <;> omega) (by split <;> omega) (by split <;> omega)]
    simp only [cntI, Int.add_assoc]
theorem fldQ_idx (x : Int) (h0 : 0 ≤ x) : ∃ q, idx [2, 3, 4, 5, 7, 8, 9, 11, 13, 16] (x.tmod 10) = some q ∧ q ∈ fldQ ∧ 2 ≤ q ∧ q ≤ 16 := by
  have h1 : x.tmod 10 = x % 10 := Int.tmod_eq_emod_of_nonneg h0
  rw [h1]
  have h2 : x % 10 = 0 ∨ x % 10 = 1 ∨ x % 10 = 2 ∨ x % 10 = 3 ∨ x % 10 = 4 ∨ x % 10 = 5 ∨ x % 10 = 6 ∨ x % 10 = 7 ∨ x % 10 = 8 ∨ x % 10 = 9 := by omega
  rcases h2 with h | h | h | h | h | h | h | h | h | h <;> rw [h] <;> exact ⟨_, rfl, by decide, by decide, by decide⟩
theorem noQ_idx (x : Int) (h0 : 0 ≤ x) : ∃ q, idx [0, 1, 6, 10, 12, 14, 15, 17] (x.tmod 8) = some q ∧ (evAdd q 0 0).2 = false := by
  have h1 : x.tmod 8 = x % 8 := Int.tmod_eq_emod_of_nonneg h0
  rw [h1]
  have key : ∀ q ∈ [0, 1, 6, 10, 12, 14, 15, 17], (evAdd q 0 0).2 = false := fun q hq => by
    have := List.all_eq_true.1 no_all q hq
    simpa using this
  have h2 : x % 8 = 0 ∨ x % 8 = 1 ∨ x % 8 = 2 ∨ x % 8 = 3 ∨ x % 8 = 4 ∨ x % 8 = 5 ∨ x % 8 = 6 ∨ x % 8 = 7 := by omega
  rcases h2 with h | h | h | h | h | h | h | h <;> rw [h] <;> exact ⟨_, rfl, key _ (by decide)⟩
theorem vq_mod (q : Int) (hq : 2 ≤ q) (x : Int) (h0 : 0 ≤ x) (h1 : x ≤ 255) : wr .i64 x = x ∧ VQ q (x.tmod q) := by
  refine ⟨wr_i (by omega) (by omega), ?_⟩
  rw [Int.tmod_eq_emod_of_nonneg h0]
  exact ⟨Int.emod_nonneg _ (by omega), Int.emod_lt_of_pos _ (by omega)⟩
theorem axioms_law (f x y z : Int) (hf : 0 ≤ f ∧ f ≤ 255) (hx : 0 ≤ x ∧ x ≤ 255) (hy : 0 ≤ y ∧ y ≤ 255) (hz : 0 ≤ z ∧ z ≤ 255) : law09_EveningAxioms f x y z = some true := by
  obtain ⟨q, hq1, hq, hq2, hq16⟩ := fldQ_idx f hf.1
  obtain ⟨n, hn1, hn2⟩ := noQ_idx x hx.1
  obtain ⟨wx, ha⟩ := vq_mod q hq2 x hx.1 hx.2
  obtain ⟨wy, hb⟩ := vq_mod q hq2 y hy.1 hy.2
  obtain ⟨wz, hc⟩ := vq_mod q hq2 z hz.1 hz.2
  have hloop := ax_loop x q hq (by omega) (q, true, true) rfl (x.tmod q) ha (by rw [wx]) q.toNat 0 0 0 100000 (by omega) (by omega) (by omega) (by omega) (by omega) (by omega) (by omega)
  unfold law09_EveningAxioms
  rw [hq1]
  simp only [Option.bind_some]
  rw [if_neg (by omega), if_neg (by omega), if_neg (by omega), wx, wy, wz]
  generalize x.tmod q = a at *
  generalize y.tmod q = b at *
  generalize z.tmod q = c at *
  have hT := ax_T hq ha hb hc
  simp only [axT, Bool.and_eq_true] at hT
  obtain ⟨⟨t1, t2⟩, t3⟩ := hT
  have hP := ax_P hq ha hb
  simp only [axP, Bool.and_eq_true] at hP
  obtain ⟨⟨⟨⟨⟨⟨⟨⟨p1, p2⟩, _⟩, _⟩, _⟩, _⟩, _⟩, _⟩, _⟩ := hP
  have h1 := ax_1 hq ha
  simp only [ax1, Bool.and_eq_true] at h1
  obtain ⟨⟨⟨⟨⟨o1, o2⟩, o3⟩, o4⟩, o5⟩, o6⟩ := h1
  have v0 : VQ q 0 := ⟨by omega, by omega⟩
  have v1 : VQ q 1 := ⟨by omega, by omega⟩
  have hAb := aA_v hq hb hc
  have hAab := aA_v hq ha hb
  have hMbc := aM_v hq hb hc
  have hMab := aM_v hq ha hb
  have hMac := aM_v hq ha hc
  simp only [k1_eq hq hb hc, k1_eq hq ha hAb, k1_eq hq ha hb, k1_eq hq hAab hc, k2_eq hq hb hc, k2_eq hq ha hMbc, k2_eq hq ha hb, k2_eq hq hMab hc, k1_eq hq hb ha, k2_eq hq hb ha, k2_eq hq ha hAb, k2_eq hq ha hc, k1_eq hq hMab hMac, k1_eq hq ha v0, k2_eq hq ha v1, k2_eq hq ha v0, Option.bind_some, t1, t2, t3, p1, p2, o1, o2, o3, if_true]
  rw [hloop]
  simp only [Option.bind_some, evening_Mul, evening_Add, hn1, if_true]
  have o4' : (0 + cntI (fun u => aA q a u == 0) q.toNat 0 == 1) = true := by rw [Int.zero_add]; exact o4
  have o5' : (0 + cntI (fun u => aM q a u == 1) q.toNat 0 == mnI a 1) = true := by rw [Int.zero_add]; exact o5
  simp only [o4', o5', o6, hn2, if_true, Bool.not_false, law09_awake, Option.bind_some]
end Go.Proofs.YthofgamegondnaaDoor

namespace Go.Proofs.YthofgamegondnaaDoor.eveningAxioms
open Go.ChangeShapes Go.WideShapes Go.ChangeAt Go.RowKit
theorem law_ret (a0 : Int) (a1 : Int) (a2 : Int) (a3 : Int) (h : law09_EveningAxioms a0 a1 a2 a3 = some true) {w : World} {v0 v1 v2 v3 : Value} (h0 : VR w (fun c => c < w.heap.size) [] ((cdK .u8).enc a0) v0) (h1 : VR w (fun c => c < w.heap.size) [] ((cdK .u8).enc a1) v1) (h2 : VR w (fun c => c < w.heap.size) [] ((cdK .u8).enc a2) v2) (h3 : VR w (fun c => c < w.heap.size) [] ((cdK .u8).enc a3) v3) : Ret Tryd.prog 4 #[v0, v1, v2, v3] w fun v w' => v = .bool true ∧ w.grownBy w' none :=
  Ret.mono (x_law09_EveningAxioms.2 (cs_law09_EveningAxioms.enc (a0, a1, a2, a3, ())) (er_law09_EveningAxioms true) (told_enc (s := cs_law09_EveningAxioms) (a := (a0, a1, a2, a3, ())) h) w (fun c => c < w.heap.size) [v0, v1, v2, v3] (fun c hc => hc) (fun g x h => by cases h) (.cons h0 (.cons h1 (.cons h2 (.cons h3 .nil))))) fun v w' h => ⟨h.2.v_inv, h.1⟩
set_option maxRecDepth 100000 in
theorem contract (H : Type) (enc : TypeId × Value → H) (W : World) (base : Nat) (args : Array Value) (ds gs : List (DataW H)) (before : List MemPlace)
    (hval : ∀ (j : Nat) t v, Tryd.f4.params[j]? = some t → args[j]? = some v → Value.okWide Tryd.prog W .any base t v)
    (hW : DataW.Whole enc Tryd.prog Tryd.f4.params.toList Rows.eveningAxiomsSpec.vars false W args.toList ds gs before)
    (hsz : (DataW.weightsEach Tryd.prog (Tryd.f4.params.toList ++ (OpenSpec.ofChange Rows.eveningAxiomsSpec).bare.plain.varTypes Tryd.prog) (ds ++ gs)).all (· ≤ reachBytes) = true) :
    Calls Tryd.prog 4 args W fun e W' => ∃ v, e = .returned v ∧ Rows.eveningAxiomsSpec.post enc Tryd.prog Tryd.f4 false true false false W args v W' := by
  have hW' := hW
  obtain ⟨p, q, hA0, hV, rfl, hfz, hnd⟩ := hW
  have hA : DataW.TrodAll enc Tryd.prog W 0 (fun _ => true) true Tryd.f4.params.toList args.toList ds p := hA0
  have hpar : Tryd.f4.params = #[5, 5, 5, 5] := by kernel_rfl
  rw [hpar] at hA hval
  obtain ⟨v0, vs0, d0, ds0, p0, q0, hargs, rfl, rfl, h0, r0⟩ := trodAll_cons hA
  obtain ⟨v1, vs1, d1, ds1, p1, q1, rfl, rfl, rfl, h1, r1⟩ := trodAll_cons r0
  obtain ⟨v2, vs2, d2, ds2, p2, q2, rfl, rfl, rfl, h2, r2⟩ := trodAll_cons r1
  obtain ⟨v3, vs3, d3, ds3, p3, q3, rfl, rfl, rfl, h3, r3⟩ := trodAll_cons r2
  obtain ⟨rfl, rfl, rfl⟩ := trodAll_nil r3
  obtain rfl : args = #[v0, v1, v2, v3] := by apply Array.ext'; simpa using hargs
  obtain ⟨a0, k0, g0⟩ := rd_arg (rd_int (by kernel_rfl : Tryd.prog.underlying 5 = some (.int .u8))) (one_int (by kernel_rfl : Tryd.prog.underlying 5 = some (.int .u8)) (hval 0 5 v0 rfl rfl)) h0 hsz (j := 0) (by kernel_rfl) rfl
  obtain ⟨a1, k1, g1⟩ := rd_arg (rd_int (by kernel_rfl : Tryd.prog.underlying 5 = some (.int .u8))) (one_int (by kernel_rfl : Tryd.prog.underlying 5 = some (.int .u8)) (hval 1 5 v1 rfl rfl)) h1 hsz (j := 1) (by kernel_rfl) rfl
  obtain ⟨a2, k2, g2⟩ := rd_arg (rd_int (by kernel_rfl : Tryd.prog.underlying 5 = some (.int .u8))) (one_int (by kernel_rfl : Tryd.prog.underlying 5 = some (.int .u8)) (hval 2 5 v2 rfl rfl)) h2 hsz (j := 2) (by kernel_rfl) rfl
  obtain ⟨a3, k3, g3⟩ := rd_arg (rd_int (by kernel_rfl : Tryd.prog.underlying 5 = some (.int .u8))) (one_int (by kernel_rfl : Tryd.prog.underlying 5 = some (.int .u8)) (hval 3 5 v3 rfl rfl)) h3 hsz (j := 3) (by kernel_rfl) rfl
  have hc := law_ret a0 a1 a2 a3 (axioms_law a0 a1 a2 a3 (bounds_u8 g0) (bounds_u8 g1) (bounds_u8 g2) (bounds_u8 g3)) k0 k1 k2 k3
  unfold Ret at hc
  refine hc.mono fun e W' he => ?_
  cases e with
  | returned v =>
    obtain ⟨rfl, hg⟩ := he
    exact ⟨_, rfl, post_true laidOut (fun t ht => ⟨mem_of_laid (fun t => Tryd.prog.readableRec t) (by kernel_rfl) ht, of_decide_eq_true (mem_of_laid (fun t => decide (t < Tryd.prog.types.size)) (by kernel_rfl) ht)⟩) hW' rfl (by kernel_rfl) (by kernel_rfl : Tryd.prog.underlying 4 = some .bool) rfl hg⟩
  | panicked c => exact he.elim
  | outgrown => exact he.elim
theorem laid_met (os : Os) : laidMet Tryd.prog Rows.eveningAxiomsRow.laid ((laidWorld os).forCall (fun _ _ => 0) ⟨#[], #[Value.int .u8 0, Value.int .u8 0, Value.int .u8 0, Value.int .u8 0], []⟩).memory :=
  laidMet_of_run' 8 (by kernel_rfl) (by kernel_rfl)
theorem reads (os : Os) {H : Type} (enc : TypeId × Value → H) : ∃ places, DataW.whole enc Tryd.prog ((laidWorld os).forCall (fun _ _ => 0) ⟨#[], #[Value.int .u8 0, Value.int .u8 0, Value.int .u8 0, Value.int .u8 0], []⟩).memory Tryd.f4.params.toList Rows.eveningAxiomsSpec.vars false #[Value.int .u8 0, Value.int .u8 0, Value.int .u8 0, Value.int .u8 0].toList 8 = some ([.lit (.int .u8 0), .lit (.int .u8 0), .lit (.int .u8 0), .lit (.int .u8 0)], [], places) :=
  ⟨[], by kernel_rfl⟩
set_option maxRecDepth 100000 in
theorem lifted (os : Os) (started : os.Started) (H : Type) (enc : TypeId × Value → H) (F : Stop.Interp) :
    ReturnsInHanded {} Tryd.checked os 4 .any ((OpenSpec.ofChange Rows.eveningAxiomsSpec).preRow enc Tryd.prog Tryd.f4 Rows.eveningAxiomsRow.domain false Rows.eveningAxiomsRow.laid) (((OpenSpec.ofChange Rows.eveningAxiomsSpec).at F).post enc Tryd.prog Tryd.f4 false true false false) := by
  obtain ⟨places, hx⟩ := reads os enc
  refine returnsInHanded_of_row (C := Tryd.checked) (s := OpenSpec.ofChange Rows.eveningAxiomsSpec) ownKnob0 started (by kernel_rfl) Tryd.func4
    (witness_row_at (enc := enc) (C := Tryd.checked) false (laidWorld os) #[Value.int .u8 0, Value.int .u8 0, Value.int .u8 0, Value.int .u8 0] rfl (by kernel_rfl) (by kernel_rfl) (by kernel_rfl)
      (OpenSpec.preRow_of_cond 8 hx (by kernel_rfl) (fun k hk => by cases hk) (by kernel_rfl) (laid_met os))) ?_
  intro W base args ds gs before hval hW _ _ hsz _ _ _
  exact contract H enc W base args ds gs before hval hW hsz
theorem said : Rows.EveningAxiomsSaid :=
  OpenClaim.holds_of_cond 4 Tryd.f4 rfl rfl rfl rfl rfl rfl rfl ⟨rfl, rfl, rfl, rfl, rfl⟩ rfl rfl rfl rfl rfl (by kernel_rfl) Tryd.func4 (by kernel_rfl)
    (of_decide_eq_true (by kernel_rfl)) (by unfold Func.isWrapper; first | (rw [if_pos (by decide +kernel)]; kernel_rfl) | (rw [if_neg (by decide +kernel)]; exact ⟨rfl, rfl⟩))
    (fun os started H enc _ F => by rw [OpenClaim.pre_eq_preRow]; exact lifted os started H enc F)
theorem plain (f : FuncId) (fn : Func) (hf : Tryd.pinned.checked.prog.funcNamed "trestle/trestlelaw09.EveningAxioms" = some f) (hfn : Tryd.pinned.checked.prog.funcs[f]? = some fn) :
    false = Tryd.pinned.checked.prog.looks [] ∧ ∀ (j : Nat) t, fn.params[j]? = some t → Tryd.pinned.checked.prog.wantsStandIn t = false := by
  obtain rfl : f = 4 := Option.some.inj ((show Tryd.prog.funcNamed "trestle/trestlelaw09.EveningAxioms" = some 4 by kernel_rfl).symm.trans hf) |>.symm
  obtain rfl : fn = Tryd.f4 := (Option.some.inj (Tryd.func4.symm.trans hfn)).symm
  refine ⟨by kernel_rfl, fun j t ht => ?_⟩
  have hm : t ∈ Tryd.f4.params.toList := by simpa using Array.mem_of_getElem? ht
  exact (show Tryd.prog.wantsStandIn t = false from Bool.not_eq_true' _ |>.mp (mem_of_laid (fun t => !Tryd.prog.wantsStandIn t) (by kernel_rfl) hm))
theorem card : Rows.EveningAxiomsCardSaid :=
  Claim7.holds_tied_plain_at .later [] _ _ _ _ said (fun _ h => by cases h) (by kernel_rfl) (fun _ h => by cases h) eveningAxioms_row_tie rfl ⟨rfl, rfl⟩ (by kernel_rfl) rfl plain (by kernel_rfl)
end Go.Proofs.YthofgamegondnaaDoor.eveningAxioms
