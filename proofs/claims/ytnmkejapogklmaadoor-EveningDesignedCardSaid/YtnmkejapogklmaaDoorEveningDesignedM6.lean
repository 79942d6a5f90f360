/- Lemmas for the proof. -/
import Derived.Test.YtnmkejapogklmaaDoorEveningDesignedM1
import Derived.Test.YtnmkejapogklmaaDoorEveningDesignedM2
import Derived.Test.YtnmkejapogklmaaDoorEveningDesignedM3
import Derived.Test.YtnmkejapogklmaaDoorEveningDesignedM4
import Derived.Test.YtnmkejapogklmaaDoorEveningDesignedM5
namespace Go.Proofs.YtnmkejapogklmaaDoor
open Go.RowKit
/- trestle/evening.check -/
noncomputable def e_evening_check : Env := E0
theorem e_evening_check_ok : EnvOk e_evening_check := E0_ok
noncomputable def cb_evening_check : Code := codeOf Tryd.f42
def evening_check_j3 (x0 : Int) (x1 : (List Int)) (x2 : (List (List Int))) (c9 : Int) (v11 : (List Int)) (c18 : Int) (c20 : Bool) (c22 : Int) (v24 : Int) (j32 : Bool × (List Bool)) (v33 : Bool) : Option ((Int)) :=
  if (!v33) = true then
  some (wr .i64 (c18 + 1))
  else
  some c18
def evening_check_2 (x0 : Int) (x1 : (List Int)) (x2 : (List (List Int))) (c9 : Int) (v11 : (List Int)) : Nat → Int → Bool → Bool → (List Bool) → Int → Option ((Int × Bool × Bool × (List Bool)))
  | 0, _, _, _, _, _ => none
  | f + 1, c18, c19, c20, c21, c22 =>
    if (decide (c22 < (v11.length : Int))) = true then
    (idx v11 c22).bind fun v24 =>
    (if (decide (v24 < 0)) = true then some (c21, true) else some (c21, (decide (v24 ≥ x0)))).bind fun j27 =>
    if j27.2 = true then
    evening_check_2 x0 x1 x2 c9 v11 f c18 c19 true j27.1 (wr .i64 (c22 + 1))
    else
    (if c19 = true then some (true, j27.1) else (idx j27.1 v24).bind fun v29 =>
    some (v29, j27.1)).bind fun j32 =>
    (idx j32.2 v24).bind fun v33 =>
    (evening_check_j3 x0 x1 x2 c9 v11 c18 c20 c22 v24 j32 v33).bind fun r36 =>
    (idx j32.2 v24).bind fun v37 =>
    evening_check_2 x0 x1 x2 c9 v11 f r36 j32.1 c20 (j32.2.set v24.toNat true) (wr .i64 (c22 + 1))
    else
    some (c18, c19, c20, c21)
def evening_check_1 (x0 : Int) (x1 : (List Int)) (x2 : (List (List Int))) : Nat → Int → Bool → Bool → (List Bool) → Int → Option ((Int × Bool × Bool) ⊕ (Int))
  | 0, _, _, _, _, _ => none
  | f + 1, c5, c6, c7, c8, c9 =>
    if (decide (c9 < (x2.length : Int))) = true then
    (idx x2 c9).bind fun v11 =>
    (if ((v11.length : Int) == 0) = true then some (c8, true) else if (decide ((x1.length : Int) > 0)) = true then (idx x1 c9).bind fun v12 =>
    some (c8, ((v11.length : Int) != v12)) else some (c8, false)).bind fun j15 =>
    if j15.2 = true then
    some (.inr 2)
    else
    (evening_check_2 x0 x1 x2 c9 v11 100000 c5 c6 c7 j15.1 0).bind fun r44 =>
    evening_check_1 x0 x1 x2 f r44.1 r44.2.1 r44.2.2.1 r44.2.2.2 (wr .i64 (c9 + 1))
    else
    some (.inl (c5, c6, c7))
def evening_check (x0 : Int) (x1 : (List Int)) (x2 : (List (List Int))) : Option (Int) :=
  (if (decide ((x1.length : Int) > 0)) = true then some ((x1.length : Int) != (x2.length : Int)) else some false).bind fun j2 =>
  if j2 = true then
  some 2
  else
  if (mkOk 1 x0) = true then
  (evening_check_1 x0 x1 x2 100000 0 false false (List.replicate x0.toNat false) 0).bind fun r50 =>
  match r50 with
  | (.inl w51) =>
    if w51.2.2 = true then
    some 6
    else
    if w51.2.1 = true then
    some 5
    else
    if (decide (w51.1 < x0)) = true then
    some 2
    else
    some 0
  | (.inr w55) =>
    some w55
  else none
def cs_evening_check : Cs (Int × (List Int) × (List (List Int)) × Unit) := (csC cdI (csC (cdL 1 cdI) (csC (cdL 1 (cdL 1 cdI)) csN)))
def er_evening_check (r : Int) : AV := cdI.enc r
set_option maxHeartbeats 4000000 in
set_option maxRecDepth 100000 in
theorem evening_check_j3_ok (x0 : Int) (x1 : (List Int)) (x2 : (List (List Int))) (c9 : Int) (v11 : (List Int)) (c18 : Int) (c20 : Bool) (c22 : Int) (v24 : Int) (j32 : Bool × (List Bool)) (v33 : Bool) (r : (Int)) (h : evening_check_j3 x0 x1 x2 c9 v11 c18 c20 c22 v24 j32 v33 = some r) : Sem e_evening_check ⟨none, false⟩ (pc cb_evening_check [1, 1, 1, 1, 0, 1, 0, 0, 1, 1, 0, 0, 1, 1, 1, 0, 0, 1, 1, 0, 0, 1, 1, 1, 0, 1]) ⟨Fr 91 [(0, .v (.int .i64 x0)), (1, .sl 1 (x1.map cdI.enc)), (7, .v (.int .i64 c18)), (8, .v (.bool j32.1)), (9, .v (.bool c20)), (10, .rf 0 0 j32.2.length j32.2.length), (14, .v (.int .i64 v24)), (27, .sl 1 (x2.map (cdL 1 cdI).enc)), (28, .v (.int .i64 (x2.length : Int))), (29, .v (.int .i64 c9)), (51, .sl 1 (v11.map cdI.enc)), (52, .v (.int .i64 (v11.length : Int))), (53, .v (.int .i64 c22)), (75, .v (.bool (!v33)))], [some ⟨1, 4, (j32.2.map cdB.enc), false⟩]⟩ (fun e s => e = .normal ∧ Wk e_evening_check s ⟨Fr 91 [(0, .v (.int .i64 x0)), (1, .sl 1 (x1.map cdI.enc)), (7, .v (.int .i64 r)), (8, .v (.bool j32.1)), (9, .v (.bool c20)), (10, .rf 0 0 j32.2.length j32.2.length), (14, .v (.int .i64 v24)), (27, .sl 1 (x2.map (cdL 1 cdI).enc)), (28, .v (.int .i64 (x2.length : Int))), (29, .v (.int .i64 c9)), (51, .sl 1 (v11.map cdI.enc)), (52, .v (.int .i64 (v11.length : Int))), (53, .v (.int .i64 c22))], [some ⟨1, 4, (j32.2.map cdB.enc), false⟩]⟩) := by
  unfold evening_check_j3 at h
  refine Sem.cond (b := (!v33)) (by kernel_rfl) (fun hb34 => ?_) (fun hb34 => ?_)
  · rw [if_pos hb34] at h
    refine Sem.runS (s1 := ⟨Fr 91 [(0, .v (.int .i64 x0)), (1, .sl 1 (x1.map cdI.enc)), (7, .v (.int .i64 (wr .i64 (c18 + 1)))), (8, .v (.bool j32.1)), (9, .v (.bool c20)), (10, .rf 0 0 j32.2.length j32.2.length), (14, .v (.int .i64 v24)), (27, .sl 1 (x2.map (cdL 1 cdI).enc)), (28, .v (.int .i64 (x2.length : Int))), (29, .v (.int .i64 c9)), (51, .sl 1 (v11.map cdI.enc)), (52, .v (.int .i64 (v11.length : Int))), (53, .v (.int .i64 c22))], [some ⟨1, 4, (j32.2.map cdB.enc), false⟩]⟩) ?_ ?_
    · refine RunS.segF (n := 91) e_evening_check_ok 3 [(0, .v (.int .i64 x0)), (1, .sl 1 (x1.map cdI.enc)), (7, .v (.int .i64 (wr .i64 (c18 + 1)))), (8, .v (.bool j32.1)), (9, .v (.bool c20)), (10, .rf 0 0 j32.2.length j32.2.length), (14, .v (.int .i64 v24)), (27, .sl 1 (x2.map (cdL 1 cdI).enc)), (28, .v (.int .i64 (x2.length : Int))), (29, .v (.int .i64 c9)), (51, .sl 1 (v11.map cdI.enc)), (52, .v (.int .i64 (v11.length : Int))), (53, .v (.int .i64 c22))] [some ⟨1, 4, (j32.2.map cdB.enc), false⟩] (by kernel_rfl) ?_
      exact RunS.done rfl (Wk.sel2 [0] (by kernel_rfl) (by kernel_rfl) (by kernel_rfl) ⟨⟨_, rfl, bu_own⟩, trivial⟩ ⟨lu (by kernel_rfl) (by kernel_rfl), lu (by kernel_rfl) (by kernel_rfl), lu (by kernel_rfl) (by kernel_rfl), lu (by kernel_rfl) (by kernel_rfl), lu (by kernel_rfl) (by kernel_rfl), lu (by kernel_rfl) (by kernel_rfl), lu (by kernel_rfl) (by kernel_rfl), lu (by kernel_rfl) (by kernel_rfl), lu (by kernel_rfl) (by kernel_rfl), lu (by kernel_rfl) (by kernel_rfl), lu (by kernel_rfl) (by kernel_rfl), lu (by kernel_rfl) (by kernel_rfl), lu (by kernel_rfl) (by kernel_rfl), trivial⟩)
    have hq := Option.some.inj h; subst hq
    exact ⟨rfl, (Wk.sel2 [0] (by kernel_rfl) (by kernel_rfl) (by kernel_rfl) ⟨⟨_, rfl, bu_own⟩, trivial⟩ ⟨lu (by kernel_rfl) (by kernel_rfl), lu (by kernel_rfl) (by kernel_rfl), lu (by kernel_rfl) (by kernel_rfl), lu (by kernel_rfl) (by kernel_rfl), lu (by kernel_rfl) (by kernel_rfl), lu (by kernel_rfl) (by kernel_rfl), lu (by kernel_rfl) (by kernel_rfl), lu (by kernel_rfl) (by kernel_rfl), lu (by kernel_rfl) (by kernel_rfl), lu (by kernel_rfl) (by kernel_rfl), lu (by kernel_rfl) (by kernel_rfl), lu (by kernel_rfl) (by kernel_rfl), lu (by kernel_rfl) (by kernel_rfl), trivial⟩)⟩
  · rw [if_f hb34] at h
    refine Sem.skip ?_
    have hq := Option.some.inj h; subst hq
    exact ⟨rfl, (Wk.sel2 [0] (by kernel_rfl) (by kernel_rfl) (by kernel_rfl) ⟨⟨_, rfl, bu_own⟩, trivial⟩ ⟨lu (by kernel_rfl) (by kernel_rfl), lu (by kernel_rfl) (by kernel_rfl), lu (by kernel_rfl) (by kernel_rfl), lu (by kernel_rfl) (by kernel_rfl), lu (by kernel_rfl) (by kernel_rfl), lu (by kernel_rfl) (by kernel_rfl), lu (by kernel_rfl) (by kernel_rfl), lu (by kernel_rfl) (by kernel_rfl), lu (by kernel_rfl) (by kernel_rfl), lu (by kernel_rfl) (by kernel_rfl), lu (by kernel_rfl) (by kernel_rfl), lu (by kernel_rfl) (by kernel_rfl), lu (by kernel_rfl) (by kernel_rfl), trivial⟩)⟩
set_option maxHeartbeats 4000000 in
set_option maxRecDepth 100000 in
theorem evening_check_2_ok (x0 : Int) (x1 : (List Int)) (x2 : (List (List Int))) (c9 : Int) (v11 : (List Int)) : ∀ (f : Nat) (c18 : Int) (c19 : Bool) (c20 : Bool) (c21 : (List Bool)) (c22 : Int) (r : (Int × Bool × Bool × (List Bool))), evening_check_2 x0 x1 x2 c9 v11 f c18 c19 c20 c21 c22 = some r → SemN e_evening_check ⟨none, false⟩ (pc cb_evening_check [1, 1, 1, 1, 0, 1, 0, 0, 1, 1, 0, 0, 1, 1, 1, 0, 0]) f ⟨Fr 91 [(0, .v (.int .i64 x0)), (1, .sl 1 (x1.map cdI.enc)), (7, .v (.int .i64 c18)), (8, .v (.bool c19)), (9, .v (.bool c20)), (10, .rf 0 0 c21.length c21.length), (27, .sl 1 (x2.map (cdL 1 cdI).enc)), (28, .v (.int .i64 (x2.length : Int))), (29, .v (.int .i64 c9)), (51, .sl 1 (v11.map cdI.enc)), (52, .v (.int .i64 (v11.length : Int))), (53, .v (.int .i64 c22))], [some ⟨1, 4, (c21.map cdB.enc), false⟩]⟩ (fun e s => e = (.exit 2) ∧ Wk e_evening_check s ⟨Fr 91 [(0, .v (.int .i64 x0)), (1, .sl 1 (x1.map cdI.enc)), (7, .v (.int .i64 r.1)), (8, .v (.bool r.2.1)), (9, .v (.bool r.2.2.1)), (10, .rf 0 0 r.2.2.2.length r.2.2.2.length), (27, .sl 1 (x2.map (cdL 1 cdI).enc)), (28, .v (.int .i64 (x2.length : Int))), (29, .v (.int .i64 c9))], [some ⟨1, 4, (r.2.2.2.map cdB.enc), false⟩]⟩) := by
  intro f
  induction f with
  | zero => intro c18 c19 c20 c21 c22 r h; cases h
  | succ f ih0 =>
    intro c18 c19 c20 c21 c22 r h
    have ih := fun (c18 : Int) (c19 : Bool) (c20 : Bool) (c21 : (List Bool)) (c22 : Int) => ih0 c18 c19 c20 c21 c22 r
    unfold evening_check_2 at h
    refine SemN.succ ?_
    refine Sem.seq ?_
    refine Sem.runS (s1 := ⟨Fr 91 [(0, .v (.int .i64 x0)), (1, .sl 1 (x1.map cdI.enc)), (7, .v (.int .i64 c18)), (8, .v (.bool c19)), (9, .v (.bool c20)), (10, .rf 0 0 c21.length c21.length), (27, .sl 1 (x2.map (cdL 1 cdI).enc)), (28, .v (.int .i64 (x2.length : Int))), (29, .v (.int .i64 c9)), (51, .sl 1 (v11.map cdI.enc)), (52, .v (.int .i64 (v11.length : Int))), (53, .v (.int .i64 c22)), (54, .v (.bool (decide (c22 < (v11.length : Int)))))], [some ⟨1, 4, (c21.map cdB.enc), false⟩]⟩) ?_ ?_
    · refine RunS.segF (n := 91) e_evening_check_ok 1 [(0, .v (.int .i64 x0)), (1, .sl 1 (x1.map cdI.enc)), (7, .v (.int .i64 c18)), (8, .v (.bool c19)), (9, .v (.bool c20)), (10, .rf 0 0 c21.length c21.length), (27, .sl 1 (x2.map (cdL 1 cdI).enc)), (28, .v (.int .i64 (x2.length : Int))), (29, .v (.int .i64 c9)), (51, .sl 1 (v11.map cdI.enc)), (52, .v (.int .i64 (v11.length : Int))), (53, .v (.int .i64 c22)), (54, .v (.bool (decide (c22 < (v11.length : Int)))))] [some ⟨1, 4, (c21.map cdB.enc), false⟩] (by kernel_rfl) ?_
      exact RunS.done rfl (Wk.sel2 [0] (by kernel_rfl) (by kernel_rfl) (by kernel_rfl) ⟨⟨_, rfl, bu_own⟩, trivial⟩ ⟨lu (by kernel_rfl) (by kernel_rfl), lu (by kernel_rfl) (by kernel_rfl), lu (by kernel_rfl) (by kernel_rfl), lu (by kernel_rfl) (by kernel_rfl), lu (by kernel_rfl) (by kernel_rfl), lu (by kernel_rfl) (by kernel_rfl), lu (by kernel_rfl) (by kernel_rfl), lu (by kernel_rfl) (by kernel_rfl), lu (by kernel_rfl) (by kernel_rfl), lu (by kernel_rfl) (by kernel_rfl), lu (by kernel_rfl) (by kernel_rfl), lu (by kernel_rfl) (by kernel_rfl), lu (by kernel_rfl) (by kernel_rfl), trivial⟩)
    refine Sem.seq ?_
    refine Sem.cond (b := (decide (c22 < (v11.length : Int)))) (by kernel_rfl) (fun hb23 => ?_) (fun hb23 => ?_)
    · rw [if_pos hb23] at h
      refine Sem.skip ?_
      refine Sem.seq ?_
      refine Sem.block ?_
      refine Sem.seq ?_
      obtain ⟨v24, hv24, h⟩ := Option.bind_eq_some_iff.1 h
      refine Sem.runS (s1 := ⟨Fr 91 [(0, .v (.int .i64 x0)), (1, .sl 1 (x1.map cdI.enc)), (7, .v (.int .i64 c18)), (8, .v (.bool c19)), (9, .v (.bool c20)), (10, .rf 0 0 c21.length c21.length), (14, .v (.int .i64 v24)), (27, .sl 1 (x2.map (cdL 1 cdI).enc)), (28, .v (.int .i64 (x2.length : Int))), (29, .v (.int .i64 c9)), (51, .sl 1 (v11.map cdI.enc)), (52, .v (.int .i64 (v11.length : Int))), (53, .v (.int .i64 c22))], [some ⟨1, 4, (c21.map cdB.enc), false⟩]⟩) ?_ ?_
      · refine RunS.one e_evening_check_ok 0 rfl (op_q (wantedA_none rfl) rfl (q_indexAddr (a := .sl 1 (v11.map cdI.enc)) (b := .v (.int .i64 c22)) (by kernel_rfl) (by kernel_rfl) (ix_sl (e := cdI.enc) (el := 3) (k := 1) (ki := .i64) (by kernel_rfl) (by kernel_rfl) hv24))) ?_
        refine RunS.segF (n := 91) e_evening_check_ok 2 [(0, .v (.int .i64 x0)), (1, .sl 1 (x1.map cdI.enc)), (7, .v (.int .i64 c18)), (8, .v (.bool c19)), (9, .v (.bool c20)), (10, .rf 0 0 c21.length c21.length), (14, .v (.int .i64 v24)), (27, .sl 1 (x2.map (cdL 1 cdI).enc)), (28, .v (.int .i64 (x2.length : Int))), (29, .v (.int .i64 c9)), (51, .sl 1 (v11.map cdI.enc)), (52, .v (.int .i64 (v11.length : Int))), (53, .v (.int .i64 c22))] [some ⟨1, 4, (c21.map cdB.enc), false⟩] (by kernel_rfl) ?_
        exact RunS.done rfl (Wk.sel2 [0] (by kernel_rfl) (by kernel_rfl) (by kernel_rfl) ⟨⟨_, rfl, bu_own⟩, trivial⟩ ⟨lu (by kernel_rfl) (by kernel_rfl), lu (by kernel_rfl) (by kernel_rfl), lu (by kernel_rfl) (by kernel_rfl), lu (by kernel_rfl) (by kernel_rfl), lu (by kernel_rfl) (by kernel_rfl), lu (by kernel_rfl) (by kernel_rfl), lu (by kernel_rfl) (by kernel_rfl), lu (by kernel_rfl) (by kernel_rfl), lu (by kernel_rfl) (by kernel_rfl), lu (by kernel_rfl) (by kernel_rfl), lu (by kernel_rfl) (by kernel_rfl), lu (by kernel_rfl) (by kernel_rfl), lu (by kernel_rfl) (by kernel_rfl), trivial⟩)
      refine Sem.seq ?_
      refine Sem.seq ?_
      obtain ⟨j27, hj27, h⟩ := Option.bind_eq_some_iff.1 h
      refine Sem.runS (s1 := ⟨Fr 91 [(0, .v (.int .i64 x0)), (1, .sl 1 (x1.map cdI.enc)), (7, .v (.int .i64 c18)), (8, .v (.bool c19)), (9, .v (.bool c20)), (10, .rf 0 0 j27.1.length j27.1.length), (14, .v (.int .i64 v24)), (27, .sl 1 (x2.map (cdL 1 cdI).enc)), (28, .v (.int .i64 (x2.length : Int))), (29, .v (.int .i64 c9)), (51, .sl 1 (v11.map cdI.enc)), (52, .v (.int .i64 (v11.length : Int))), (53, .v (.int .i64 c22)), (63, .v (.bool j27.2))], [some ⟨1, 4, (j27.1.map cdB.enc), false⟩]⟩) ?_ ?_
      · refine RunS.segF (n := 91) e_evening_check_ok 3 [(0, .v (.int .i64 x0)), (1, .sl 1 (x1.map cdI.enc)), (7, .v (.int .i64 c18)), (8, .v (.bool c19)), (9, .v (.bool c20)), (10, .rf 0 0 c21.length c21.length), (14, .v (.int .i64 v24)), (27, .sl 1 (x2.map (cdL 1 cdI).enc)), (28, .v (.int .i64 (x2.length : Int))), (29, .v (.int .i64 c9)), (51, .sl 1 (v11.map cdI.enc)), (52, .v (.int .i64 (v11.length : Int))), (53, .v (.int .i64 c22)), (59, .v (.bool (decide (v24 < 0))))] [some ⟨1, 4, (c21.map cdB.enc), false⟩] (by kernel_rfl) ?_
        rcases Bool.eq_false_or_eq_true (decide (v24 < 0)) with hc39 | hc39
        · rw [if_pos hc39] at hj27
          rw [hc39]
          refine RunS.segF (n := 91) e_evening_check_ok 4 [(0, .v (.int .i64 x0)), (1, .sl 1 (x1.map cdI.enc)), (7, .v (.int .i64 c18)), (8, .v (.bool c19)), (9, .v (.bool c20)), (10, .rf 0 0 c21.length c21.length), (14, .v (.int .i64 v24)), (27, .sl 1 (x2.map (cdL 1 cdI).enc)), (28, .v (.int .i64 (x2.length : Int))), (29, .v (.int .i64 c9)), (51, .sl 1 (v11.map cdI.enc)), (52, .v (.int .i64 (v11.length : Int))), (53, .v (.int .i64 c22)), (60, .tp []), (61, .tp []), (62, .tp []), (63, .v (.bool true))] [some ⟨1, 4, (c21.map cdB.enc), false⟩] (by kernel_rfl) ?_
          have hq := Option.some.inj hj27; subst hq
          exact RunS.done rfl (Wk.sel2 [0] (by kernel_rfl) (by kernel_rfl) (by kernel_rfl) ⟨⟨_, rfl, bu_own⟩, trivial⟩ ⟨lu (by kernel_rfl) (by kernel_rfl), lu (by kernel_rfl) (by kernel_rfl), lu (by kernel_rfl) (by kernel_rfl), lu (by kernel_rfl) (by kernel_rfl), lu (by kernel_rfl) (by kernel_rfl), lu (by kernel_rfl) (by kernel_rfl), lu (by kernel_rfl) (by kernel_rfl), lu (by kernel_rfl) (by kernel_rfl), lu (by kernel_rfl) (by kernel_rfl), lu (by kernel_rfl) (by kernel_rfl), lu (by kernel_rfl) (by kernel_rfl), lu (by kernel_rfl) (by kernel_rfl), lu (by kernel_rfl) (by kernel_rfl), lu (by kernel_rfl) (by kernel_rfl), trivial⟩)
        · rw [if_f hc39] at hj27
          rw [hc39]
          refine RunS.segF (n := 91) e_evening_check_ok 4 [(0, .v (.int .i64 x0)), (1, .sl 1 (x1.map cdI.enc)), (7, .v (.int .i64 c18)), (8, .v (.bool c19)), (9, .v (.bool c20)), (10, .rf 0 0 c21.length c21.length), (14, .v (.int .i64 v24)), (27, .sl 1 (x2.map (cdL 1 cdI).enc)), (28, .v (.int .i64 (x2.length : Int))), (29, .v (.int .i64 c9)), (51, .sl 1 (v11.map cdI.enc)), (52, .v (.int .i64 (v11.length : Int))), (53, .v (.int .i64 c22)), (60, .v (.int .i64 v24)), (61, .v (.int .i64 x0)), (62, .v (.bool (decide (v24 ≥ x0)))), (63, .v (.bool (decide (v24 ≥ x0))))] [some ⟨1, 4, (c21.map cdB.enc), false⟩] (by kernel_rfl) ?_
          have hq := Option.some.inj hj27; subst hq
          exact RunS.done rfl (Wk.sel2 [0] (by kernel_rfl) (by kernel_rfl) (by kernel_rfl) ⟨⟨_, rfl, bu_own⟩, trivial⟩ ⟨lu (by kernel_rfl) (by kernel_rfl), lu (by kernel_rfl) (by kernel_rfl), lu (by kernel_rfl) (by kernel_rfl), lu (by kernel_rfl) (by kernel_rfl), lu (by kernel_rfl) (by kernel_rfl), lu (by kernel_rfl) (by kernel_rfl), lu (by kernel_rfl) (by kernel_rfl), lu (by kernel_rfl) (by kernel_rfl), lu (by kernel_rfl) (by kernel_rfl), lu (by kernel_rfl) (by kernel_rfl), lu (by kernel_rfl) (by kernel_rfl), lu (by kernel_rfl) (by kernel_rfl), lu (by kernel_rfl) (by kernel_rfl), lu (by kernel_rfl) (by kernel_rfl), trivial⟩)
      refine Sem.cond (b := j27.2) (by kernel_rfl) (fun hb28 => ?_) (fun hb28 => ?_)
      · rw [if_pos hb28] at h
        refine Sem.seq ?_
        refine Sem.runS (s1 := ⟨Fr 91 [(0, .v (.int .i64 x0)), (1, .sl 1 (x1.map cdI.enc)), (7, .v (.int .i64 c18)), (8, .v (.bool c19)), (9, .v (.bool true)), (10, .rf 0 0 j27.1.length j27.1.length), (27, .sl 1 (x2.map (cdL 1 cdI).enc)), (28, .v (.int .i64 (x2.length : Int))), (29, .v (.int .i64 c9)), (51, .sl 1 (v11.map cdI.enc)), (52, .v (.int .i64 (v11.length : Int))), (53, .v (.int .i64 c22))], [some ⟨1, 4, (j27.1.map cdB.enc), false⟩]⟩) ?_ ?_
        · refine RunS.segF (n := 91) e_evening_check_ok 1 [(0, .v (.int .i64 x0)), (1, .sl 1 (x1.map cdI.enc)), (7, .v (.int .i64 c18)), (8, .v (.bool c19)), (9, .v (.bool true)), (10, .rf 0 0 j27.1.length j27.1.length), (27, .sl 1 (x2.map (cdL 1 cdI).enc)), (28, .v (.int .i64 (x2.length : Int))), (29, .v (.int .i64 c9)), (51, .sl 1 (v11.map cdI.enc)), (52, .v (.int .i64 (v11.length : Int))), (53, .v (.int .i64 c22))] [some ⟨1, 4, (j27.1.map cdB.enc), false⟩] (by kernel_rfl) ?_
          exact RunS.done rfl (Wk.sel2 [0] (by kernel_rfl) (by kernel_rfl) (by kernel_rfl) ⟨⟨_, rfl, bu_own⟩, trivial⟩ ⟨lu (by kernel_rfl) (by kernel_rfl), lu (by kernel_rfl) (by kernel_rfl), lu (by kernel_rfl) (by kernel_rfl), lu (by kernel_rfl) (by kernel_rfl), lu (by kernel_rfl) (by kernel_rfl), lu (by kernel_rfl) (by kernel_rfl), lu (by kernel_rfl) (by kernel_rfl), lu (by kernel_rfl) (by kernel_rfl), lu (by kernel_rfl) (by kernel_rfl), lu (by kernel_rfl) (by kernel_rfl), lu (by kernel_rfl) (by kernel_rfl), lu (by kernel_rfl) (by kernel_rfl), trivial⟩)
        refine Sem.exit ?_
        refine Sem.runS (s1 := ⟨Fr 91 [(0, .v (.int .i64 x0)), (1, .sl 1 (x1.map cdI.enc)), (7, .v (.int .i64 c18)), (8, .v (.bool c19)), (9, .v (.bool true)), (10, .rf 0 0 j27.1.length j27.1.length), (27, .sl 1 (x2.map (cdL 1 cdI).enc)), (28, .v (.int .i64 (x2.length : Int))), (29, .v (.int .i64 c9)), (51, .sl 1 (v11.map cdI.enc)), (52, .v (.int .i64 (v11.length : Int))), (53, .v (.int .i64 (wr .i64 (c22 + 1))))], [some ⟨1, 4, (j27.1.map cdB.enc), false⟩]⟩) ?_ ?_
        · refine RunS.segF (n := 91) e_evening_check_ok 2 [(0, .v (.int .i64 x0)), (1, .sl 1 (x1.map cdI.enc)), (7, .v (.int .i64 c18)), (8, .v (.bool c19)), (9, .v (.bool true)), (10, .rf 0 0 j27.1.length j27.1.length), (27, .sl 1 (x2.map (cdL 1 cdI).enc)), (28, .v (.int .i64 (x2.length : Int))), (29, .v (.int .i64 c9)), (51, .sl 1 (v11.map cdI.enc)), (52, .v (.int .i64 (v11.length : Int))), (53, .v (.int .i64 (wr .i64 (c22 + 1))))] [some ⟨1, 4, (j27.1.map cdB.enc), false⟩] (by kernel_rfl) ?_
          exact RunS.done rfl (Wk.sel2 [0] (by kernel_rfl) (by kernel_rfl) (by kernel_rfl) ⟨⟨_, rfl, bu_own⟩, trivial⟩ ⟨lu (by kernel_rfl) (by kernel_rfl), lu (by kernel_rfl) (by kernel_rfl), lu (by kernel_rfl) (by kernel_rfl), lu (by kernel_rfl) (by kernel_rfl), lu (by kernel_rfl) (by kernel_rfl), lu (by kernel_rfl) (by kernel_rfl), lu (by kernel_rfl) (by kernel_rfl), lu (by kernel_rfl) (by kernel_rfl), lu (by kernel_rfl) (by kernel_rfl), lu (by kernel_rfl) (by kernel_rfl), lu (by kernel_rfl) (by kernel_rfl), lu (by kernel_rfl) (by kernel_rfl), trivial⟩)
        exact SemN.wk (s1 := ⟨Fr 91 [(0, .v (.int .i64 x0)), (1, .sl 1 (x1.map cdI.enc)), (7, .v (.int .i64 c18)), (8, .v (.bool c19)), (9, .v (.bool true)), (10, .rf 0 0 j27.1.length j27.1.length), (27, .sl 1 (x2.map (cdL 1 cdI).enc)), (28, .v (.int .i64 (x2.length : Int))), (29, .v (.int .i64 c9)), (51, .sl 1 (v11.map cdI.enc)), (52, .v (.int .i64 (v11.length : Int))), (53, .v (.int .i64 (wr .i64 (c22 + 1))))], [some ⟨1, 4, (j27.1.map cdB.enc), false⟩]⟩) (Wk.sel2 [0] (by kernel_rfl) (by kernel_rfl) (by kernel_rfl) ⟨⟨_, rfl, bu_own⟩, trivial⟩ ⟨lu (by kernel_rfl) (by kernel_rfl), lu (by kernel_rfl) (by kernel_rfl), lu (by kernel_rfl) (by kernel_rfl), lu (by kernel_rfl) (by kernel_rfl), lu (by kernel_rfl) (by kernel_rfl), lu (by kernel_rfl) (by kernel_rfl), lu (by kernel_rfl) (by kernel_rfl), lu (by kernel_rfl) (by kernel_rfl), lu (by kernel_rfl) (by kernel_rfl), lu (by kernel_rfl) (by kernel_rfl), lu (by kernel_rfl) (by kernel_rfl), lu (by kernel_rfl) (by kernel_rfl), trivial⟩) (ih c18 c19 true j27.1 (wr .i64 (c22 + 1)) h)
      · rw [if_f hb28] at h
        refine Sem.skip ?_
        refine Sem.seq ?_
        obtain ⟨j32, hj32, h⟩ := Option.bind_eq_some_iff.1 h
        refine Sem.runS (s1 := ⟨Fr 91 [(0, .v (.int .i64 x0)), (1, .sl 1 (x1.map cdI.enc)), (7, .v (.int .i64 c18)), (8, .v (.bool j32.1)), (9, .v (.bool c20)), (10, .rf 0 0 j32.2.length j32.2.length), (14, .v (.int .i64 v24)), (27, .sl 1 (x2.map (cdL 1 cdI).enc)), (28, .v (.int .i64 (x2.length : Int))), (29, .v (.int .i64 c9)), (51, .sl 1 (v11.map cdI.enc)), (52, .v (.int .i64 (v11.length : Int))), (53, .v (.int .i64 c22))], [some ⟨1, 4, (j32.2.map cdB.enc), false⟩]⟩) ?_ ?_
        · refine RunS.segF (n := 91) e_evening_check_ok 2 [(0, .v (.int .i64 x0)), (1, .sl 1 (x1.map cdI.enc)), (7, .v (.int .i64 c18)), (9, .v (.bool c20)), (10, .rf 0 0 j27.1.length j27.1.length), (14, .v (.int .i64 v24)), (27, .sl 1 (x2.map (cdL 1 cdI).enc)), (28, .v (.int .i64 (x2.length : Int))), (29, .v (.int .i64 c9)), (51, .sl 1 (v11.map cdI.enc)), (52, .v (.int .i64 (v11.length : Int))), (53, .v (.int .i64 c22)), (65, .v (.bool c19))] [some ⟨1, 4, (j27.1.map cdB.enc), false⟩] (by kernel_rfl) ?_
          rcases Bool.eq_false_or_eq_true c19 with hc38 | hc38
          · rw [if_pos hc38] at hj32
            rw [hc38]
            refine RunS.segF (n := 91) e_evening_check_ok 6 [(0, .v (.int .i64 x0)), (1, .sl 1 (x1.map cdI.enc)), (7, .v (.int .i64 c18)), (8, .v (.bool true)), (9, .v (.bool c20)), (10, .rf 0 0 j27.1.length j27.1.length), (14, .v (.int .i64 v24)), (27, .sl 1 (x2.map (cdL 1 cdI).enc)), (28, .v (.int .i64 (x2.length : Int))), (29, .v (.int .i64 c9)), (51, .sl 1 (v11.map cdI.enc)), (52, .v (.int .i64 (v11.length : Int))), (53, .v (.int .i64 c22)), (66, .tp []), (67, .tp []), (68, .tp []), (69, .tp [])] [some ⟨1, 4, (j27.1.map cdB.enc), false⟩] (by kernel_rfl) ?_
            have hq := Option.some.inj hj32; subst hq
            exact RunS.done rfl (Wk.sel2 [0] (by kernel_rfl) (by kernel_rfl) (by kernel_rfl) ⟨⟨_, rfl, bu_own⟩, trivial⟩ ⟨lu (by kernel_rfl) (by kernel_rfl), lu (by kernel_rfl) (by kernel_rfl), lu (by kernel_rfl) (by kernel_rfl), lu (by kernel_rfl) (by kernel_rfl), lu (by kernel_rfl) (by kernel_rfl), lu (by kernel_rfl) (by kernel_rfl), lu (by kernel_rfl) (by kernel_rfl), lu (by kernel_rfl) (by kernel_rfl), lu (by kernel_rfl) (by kernel_rfl), lu (by kernel_rfl) (by kernel_rfl), lu (by kernel_rfl) (by kernel_rfl), lu (by kernel_rfl) (by kernel_rfl), lu (by kernel_rfl) (by kernel_rfl), trivial⟩)
          · rw [if_f hc38] at hj32
            rw [hc38]
            refine RunS.segF (n := 91) e_evening_check_ok 2 [(0, .v (.int .i64 x0)), (1, .sl 1 (x1.map cdI.enc)), (7, .v (.int .i64 c18)), (9, .v (.bool c20)), (10, .rf 0 0 j27.1.length j27.1.length), (14, .v (.int .i64 v24)), (27, .sl 1 (x2.map (cdL 1 cdI).enc)), (28, .v (.int .i64 (x2.length : Int))), (29, .v (.int .i64 c9)), (51, .sl 1 (v11.map cdI.enc)), (52, .v (.int .i64 (v11.length : Int))), (53, .v (.int .i64 c22)), (65, .v (.bool false)), (66, .rf 0 0 j27.1.length j27.1.length), (67, .v (.int .i64 v24))] [some ⟨1, 4, (j27.1.map cdB.enc), false⟩] (by kernel_rfl) ?_
            obtain ⟨v29, hv29, hj32⟩ := Option.bind_eq_some_iff.1 hj32
            refine RunS.one e_evening_check_ok 0 rfl (op_q (by kernel_rfl) rfl (q_indexAddr (a := .rf 0 0 j27.1.length j27.1.length) (b := .v (.int .i64 v24)) (by kernel_rfl) (by kernel_rfl) (ix_rl (e := cdB.enc) (xs := j27.1) (t' := 4) (el := 4) (k := 1) (ki := .i64) (by kernel_rfl) (by kernel_rfl) (by kernel_rfl) hv29))) ?_
            refine RunS.one e_evening_check_ok 0 rfl (op_q (by kernel_rfl) rfl (q_load (p := .pt 0 v24.toNat 0) (by kernel_rfl) (ld_blk (B := ⟨1, 4, (j27.1.map cdB.enc), false⟩) (m := 1) (g := false) (e := cdB.enc) (xs := j27.1) (by kernel_rfl) (by kernel_rfl) (by kernel_rfl) rfl (idx_at hv29).2 (by kernel_rfl)))) ?_
            refine RunS.segF (n := 91) e_evening_check_ok 2 [(0, .v (.int .i64 x0)), (1, .sl 1 (x1.map cdI.enc)), (7, .v (.int .i64 c18)), (8, .v (.bool v29)), (9, .v (.bool c20)), (10, .rf 0 0 j27.1.length j27.1.length), (14, .v (.int .i64 v24)), (27, .sl 1 (x2.map (cdL 1 cdI).enc)), (28, .v (.int .i64 (x2.length : Int))), (29, .v (.int .i64 c9)), (51, .sl 1 (v11.map cdI.enc)), (52, .v (.int .i64 (v11.length : Int))), (53, .v (.int .i64 c22)), (66, .rf 0 0 j27.1.length j27.1.length), (67, .v (.int .i64 v24)), (68, .pt 0 v24.toNat 0), (69, .v (.bool v29))] [some ⟨1, 4, (j27.1.map cdB.enc), false⟩] (by kernel_rfl) ?_
            have hq := Option.some.inj hj32; subst hq
            exact RunS.done rfl (Wk.sel2 [0] (by kernel_rfl) (by kernel_rfl) (by kernel_rfl) ⟨⟨_, rfl, bu_own⟩, trivial⟩ ⟨lu (by kernel_rfl) (by kernel_rfl), lu (by kernel_rfl) (by kernel_rfl), lu (by kernel_rfl) (by kernel_rfl), lu (by kernel_rfl) (by kernel_rfl), lu (by kernel_rfl) (by kernel_rfl), lu (by kernel_rfl) (by kernel_rfl), lu (by kernel_rfl) (by kernel_rfl), lu (by kernel_rfl) (by kernel_rfl), lu (by kernel_rfl) (by kernel_rfl), lu (by kernel_rfl) (by kernel_rfl), lu (by kernel_rfl) (by kernel_rfl), lu (by kernel_rfl) (by kernel_rfl), lu (by kernel_rfl) (by kernel_rfl), trivial⟩)
        refine Sem.seq ?_
        refine Sem.seq ?_
        obtain ⟨v33, hv33, h⟩ := Option.bind_eq_some_iff.1 h
        refine Sem.runS (s1 := ⟨Fr 91 [(0, .v (.int .i64 x0)), (1, .sl 1 (x1.map cdI.enc)), (7, .v (.int .i64 c18)), (8, .v (.bool j32.1)), (9, .v (.bool c20)), (10, .rf 0 0 j32.2.length j32.2.length), (14, .v (.int .i64 v24)), (27, .sl 1 (x2.map (cdL 1 cdI).enc)), (28, .v (.int .i64 (x2.length : Int))), (29, .v (.int .i64 c9)), (51, .sl 1 (v11.map cdI.enc)), (52, .v (.int .i64 (v11.length : Int))), (53, .v (.int .i64 c22)), (75, .v (.bool (!v33)))], [some ⟨1, 4, (j32.2.map cdB.enc), false⟩]⟩) ?_ ?_
        · refine RunS.segF (n := 91) e_evening_check_ok 2 [(0, .v (.int .i64 x0)), (1, .sl 1 (x1.map cdI.enc)), (7, .v (.int .i64 c18)), (8, .v (.bool j32.1)), (9, .v (.bool c20)), (10, .rf 0 0 j32.2.length j32.2.length), (14, .v (.int .i64 v24)), (27, .sl 1 (x2.map (cdL 1 cdI).enc)), (28, .v (.int .i64 (x2.length : Int))), (29, .v (.int .i64 c9)), (51, .sl 1 (v11.map cdI.enc)), (52, .v (.int .i64 (v11.length : Int))), (53, .v (.int .i64 c22)), (71, .rf 0 0 j32.2.length j32.2.length), (72, .v (.int .i64 v24))] [some ⟨1, 4, (j32.2.map cdB.enc), false⟩] (by kernel_rfl) ?_
          refine RunS.one e_evening_check_ok 0 rfl (op_q (wantedA_none rfl) rfl (q_indexAddr (a := .rf 0 0 j32.2.length j32.2.length) (b := .v (.int .i64 v24)) (by kernel_rfl) (by kernel_rfl) (ix_rl (e := cdB.enc) (xs := j32.2) (t' := 4) (el := 4) (k := 1) (ki := .i64) (by kernel_rfl) (by kernel_rfl) (by kernel_rfl) hv33))) ?_
          refine RunS.one e_evening_check_ok 0 rfl (op_q (wantedA_none rfl) rfl (q_load (p := .pt 0 v24.toNat 0) (by kernel_rfl) (ld_blk (B := ⟨1, 4, (j32.2.map cdB.enc), false⟩) (m := 1) (g := false) (e := cdB.enc) (xs := j32.2) (by kernel_rfl) (by kernel_rfl) (by kernel_rfl) rfl (idx_at hv33).2 (by kernel_rfl)))) ?_
          refine RunS.segF (n := 91) e_evening_check_ok 1 [(0, .v (.int .i64 x0)), (1, .sl 1 (x1.map cdI.enc)), (7, .v (.int .i64 c18)), (8, .v (.bool j32.1)), (9, .v (.bool c20)), (10, .rf 0 0 j32.2.length j32.2.length), (14, .v (.int .i64 v24)), (27, .sl 1 (x2.map (cdL 1 cdI).enc)), (28, .v (.int .i64 (x2.length : Int))), (29, .v (.int .i64 c9)), (51, .sl 1 (v11.map cdI.enc)), (52, .v (.int .i64 (v11.length : Int))), (53, .v (.int .i64 c22)), (75, .v (.bool (!v33)))] [some ⟨1, 4, (j32.2.map cdB.enc), false⟩] (by kernel_rfl) ?_
          exact RunS.done rfl (Wk.sel2 [0] (by kernel_rfl) (by kernel_rfl) (by kernel_rfl) ⟨⟨_, rfl, bu_own⟩, trivial⟩ ⟨lu (by kernel_rfl) (by kernel_rfl), lu (by kernel_rfl) (by kernel_rfl), lu (by kernel_rfl) (by kernel_rfl), lu (by kernel_rfl) (by kernel_rfl), lu (by kernel_rfl) (by kernel_rfl), lu (by kernel_rfl) (by kernel_rfl), lu (by kernel_rfl) (by kernel_rfl), lu (by kernel_rfl) (by kernel_rfl), lu (by kernel_rfl) (by kernel_rfl), lu (by kernel_rfl) (by kernel_rfl), lu (by kernel_rfl) (by kernel_rfl), lu (by kernel_rfl) (by kernel_rfl), lu (by kernel_rfl) (by kernel_rfl), lu (by kernel_rfl) (by kernel_rfl), trivial⟩)
        obtain ⟨r36, hr36, h⟩ := Option.bind_eq_some_iff.1 h
        refine Sem.cut (evening_check_j3_ok x0 x1 x2 c9 v11 c18 c20 c22 v24 j32 v33 _ hr36) ?_
        obtain ⟨v37, hv37, h⟩ := Option.bind_eq_some_iff.1 h
        refine Sem.runS (s1 := ⟨Fr 91 [(0, .v (.int .i64 x0)), (1, .sl 1 (x1.map cdI.enc)), (7, .v (.int .i64 r36)), (8, .v (.bool j32.1)), (9, .v (.bool c20)), (10, .rf 0 0 (j32.2.set v24.toNat true).length (j32.2.set v24.toNat true).length), (27, .sl 1 (x2.map (cdL 1 cdI).enc)), (28, .v (.int .i64 (x2.length : Int))), (29, .v (.int .i64 c9)), (51, .sl 1 (v11.map cdI.enc)), (52, .v (.int .i64 (v11.length : Int))), (53, .v (.int .i64 c22))], [some ⟨1, 4, ((j32.2.set v24.toNat true).map cdB.enc), false⟩]⟩) ?_ ?_
        · refine RunS.segF (n := 91) e_evening_check_ok 2 [(0, .v (.int .i64 x0)), (1, .sl 1 (x1.map cdI.enc)), (7, .v (.int .i64 r36)), (8, .v (.bool j32.1)), (9, .v (.bool c20)), (10, .rf 0 0 j32.2.length j32.2.length), (27, .sl 1 (x2.map (cdL 1 cdI).enc)), (28, .v (.int .i64 (x2.length : Int))), (29, .v (.int .i64 c9)), (51, .sl 1 (v11.map cdI.enc)), (52, .v (.int .i64 (v11.length : Int))), (53, .v (.int .i64 c22)), (78, .rf 0 0 j32.2.length j32.2.length), (79, .v (.int .i64 v24))] [some ⟨1, 4, (j32.2.map cdB.enc), false⟩] (by kernel_rfl) ?_
          refine RunS.one e_evening_check_ok 0 rfl (op_q (wantedA_none rfl) rfl (q_indexAddr (a := .rf 0 0 j32.2.length j32.2.length) (b := .v (.int .i64 v24)) (by kernel_rfl) (by kernel_rfl) (ix_rl (e := cdB.enc) (xs := j32.2) (t' := 4) (el := 4) (k := 1) (ki := .i64) (by kernel_rfl) (by kernel_rfl) (by kernel_rfl) hv37))) ?_
          refine RunS.store e_evening_check_ok (y := .pt 0 v24.toNat 0) (z := .v (.bool true)) rfl (wantedA_none rfl) (by kernel_rfl) (by kernel_rfl) (st_blk (t' := 4) (k := 1) (e := cdB.enc) (xs := j32.2) (v := v37) (v' := true) (by kernel_rfl) (idx_at hv37).2 (by kernel_rfl) (by kernel_rfl) (by kernel_rfl)) ?_
          exact RunS.done rfl (Wk.sel2 [0] (by kernel_rfl) (by kernel_rfl) (by kernel_rfl) ⟨⟨_, rfl, bu_own⟩, trivial⟩ ⟨lu (by kernel_rfl) (by kernel_rfl), lu (by kernel_rfl) (by kernel_rfl), lu (by kernel_rfl) (by kernel_rfl), lu (by kernel_rfl) (by kernel_rfl), lu (by kernel_rfl) (by kernel_rfl), lu_rl (b' := 0) (n := j32.2.length) (by kernel_rfl) (by simp) (by kernel_rfl), lu (by kernel_rfl) (by kernel_rfl), lu (by kernel_rfl) (by kernel_rfl), lu (by kernel_rfl) (by kernel_rfl), lu (by kernel_rfl) (by kernel_rfl), lu (by kernel_rfl) (by kernel_rfl), lu (by kernel_rfl) (by kernel_rfl), trivial⟩)
        refine Sem.runS (s1 := ⟨Fr 91 [(0, .v (.int .i64 x0)), (1, .sl 1 (x1.map cdI.enc)), (7, .v (.int .i64 r36)), (8, .v (.bool j32.1)), (9, .v (.bool c20)), (10, .rf 0 0 (j32.2.set v24.toNat true).length (j32.2.set v24.toNat true).length), (27, .sl 1 (x2.map (cdL 1 cdI).enc)), (28, .v (.int .i64 (x2.length : Int))), (29, .v (.int .i64 c9)), (51, .sl 1 (v11.map cdI.enc)), (52, .v (.int .i64 (v11.length : Int))), (53, .v (.int .i64 (wr .i64 (c22 + 1))))], [some ⟨1, 4, ((j32.2.set v24.toNat true).map cdB.enc), false⟩]⟩) ?_ ?_
        · refine RunS.segF (n := 91) e_evening_check_ok 2 [(0, .v (.int .i64 x0)), (1, .sl 1 (x1.map cdI.enc)), (7, .v (.int .i64 r36)), (8, .v (.bool j32.1)), (9, .v (.bool c20)), (10, .rf 0 0 (j32.2.set v24.toNat true).length (j32.2.set v24.toNat true).length), (27, .sl 1 (x2.map (cdL 1 cdI).enc)), (28, .v (.int .i64 (x2.length : Int))), (29, .v (.int .i64 c9)), (51, .sl 1 (v11.map cdI.enc)), (52, .v (.int .i64 (v11.length : Int))), (53, .v (.int .i64 (wr .i64 (c22 + 1))))] [some ⟨1, 4, ((j32.2.set v24.toNat true).map cdB.enc), false⟩] (by kernel_rfl) ?_
          exact RunS.done rfl (Wk.sel2 [0] (by kernel_rfl) (by kernel_rfl) (by kernel_rfl) ⟨⟨_, rfl, bu_own⟩, trivial⟩ ⟨lu (by kernel_rfl) (by kernel_rfl), lu (by kernel_rfl) (by kernel_rfl), lu (by kernel_rfl) (by kernel_rfl), lu (by kernel_rfl) (by kernel_rfl), lu (by kernel_rfl) (by kernel_rfl), lu (by kernel_rfl) (by kernel_rfl), lu (by kernel_rfl) (by kernel_rfl), lu (by kernel_rfl) (by kernel_rfl), lu (by kernel_rfl) (by kernel_rfl), lu (by kernel_rfl) (by kernel_rfl), lu (by kernel_rfl) (by kernel_rfl), lu (by kernel_rfl) (by kernel_rfl), trivial⟩)
        exact SemN.wk (s1 := ⟨Fr 91 [(0, .v (.int .i64 x0)), (1, .sl 1 (x1.map cdI.enc)), (7, .v (.int .i64 r36)), (8, .v (.bool j32.1)), (9, .v (.bool c20)), (10, .rf 0 0 (j32.2.set v24.toNat true).length (j32.2.set v24.toNat true).length), (27, .sl 1 (x2.map (cdL 1 cdI).enc)), (28, .v (.int .i64 (x2.length : Int))), (29, .v (.int .i64 c9)), (51, .sl 1 (v11.map cdI.enc)), (52, .v (.int .i64 (v11.length : Int))), (53, .v (.int .i64 (wr .i64 (c22 + 1))))], [some ⟨1, 4, ((j32.2.set v24.toNat true).map cdB.enc), false⟩]⟩) (Wk.sel2 [0] (by kernel_rfl) (by kernel_rfl) (by kernel_rfl) ⟨⟨_, rfl, bu_own⟩, trivial⟩ ⟨lu (by kernel_rfl) (by kernel_rfl), lu (by kernel_rfl) (by kernel_rfl), lu (by kernel_rfl) (by kernel_rfl), lu (by kernel_rfl) (by kernel_rfl), lu (by kernel_rfl) (by kernel_rfl), lu (by kernel_rfl) (by kernel_rfl), lu (by kernel_rfl) (by kernel_rfl), lu (by kernel_rfl) (by kernel_rfl), lu (by kernel_rfl) (by kernel_rfl), lu (by kernel_rfl) (by kernel_rfl), lu (by kernel_rfl) (by kernel_rfl), lu (by kernel_rfl) (by kernel_rfl), trivial⟩) (ih r36 j32.1 c20 (j32.2.set v24.toNat true) (wr .i64 (c22 + 1)) h)
    · rw [if_f hb23] at h
      refine Sem.exit ?_
      have hq := Option.some.inj h; subst hq
      exact ⟨rfl, (Wk.sel2 [0] (by kernel_rfl) (by kernel_rfl) (by kernel_rfl) ⟨⟨_, rfl, bu_own⟩, trivial⟩ ⟨lu (by kernel_rfl) (by kernel_rfl), lu (by kernel_rfl) (by kernel_rfl), lu (by kernel_rfl) (by kernel_rfl), lu (by kernel_rfl) (by kernel_rfl), lu (by kernel_rfl) (by kernel_rfl), lu (by kernel_rfl) (by kernel_rfl), lu (by kernel_rfl) (by kernel_rfl), lu (by kernel_rfl) (by kernel_rfl), lu (by kernel_rfl) (by kernel_rfl), trivial⟩)⟩
set_option maxHeartbeats 4000000 in
set_option maxRecDepth 100000 in
theorem evening_check_1_ok (x0 : Int) (x1 : (List Int)) (x2 : (List (List Int))) : ∀ (f : Nat) (c5 : Int) (c6 : Bool) (c7 : Bool) (c8 : (List Bool)) (c9 : Int) (r : (Int × Bool × Bool) ⊕ (Int)), evening_check_1 x0 x1 x2 f c5 c6 c7 c8 c9 = some r → SemN e_evening_check ⟨none, false⟩ (pc cb_evening_check [1, 1, 1, 1, 0, 1, 0, 0]) f ⟨Fr 91 [(0, .v (.int .i64 x0)), (1, .sl 1 (x1.map cdI.enc)), (7, .v (.int .i64 c5)), (8, .v (.bool c6)), (9, .v (.bool c7)), (10, .rf 0 0 c8.length c8.length), (27, .sl 1 (x2.map (cdL 1 cdI).enc)), (28, .v (.int .i64 (x2.length : Int))), (29, .v (.int .i64 c9))], [some ⟨1, 4, (c8.map cdB.enc), false⟩]⟩ (fun e s => match r with
  | (.inl w) => e = (.exit 0) ∧ Wk e_evening_check s ⟨Fr 91 [(0, .v (.int .i64 x0)), (7, .v (.int .i64 w.1)), (8, .v (.bool w.2.1)), (9, .v (.bool w.2.2))], []⟩
  | (.inr w) => e = .ret ∧ Wk e_evening_check s ⟨Fr 91 [(6, .v (.int .i64 w))], []⟩) := by
  intro f
  induction f with
  | zero => intro c5 c6 c7 c8 c9 r h; cases h
  | succ f ih0 =>
    intro c5 c6 c7 c8 c9 r h
    have ih := fun (c5 : Int) (c6 : Bool) (c7 : Bool) (c8 : (List Bool)) (c9 : Int) => ih0 c5 c6 c7 c8 c9 r
    unfold evening_check_1 at h
    refine SemN.succ ?_
    refine Sem.seq ?_
    refine Sem.runS (s1 := ⟨Fr 91 [(0, .v (.int .i64 x0)), (1, .sl 1 (x1.map cdI.enc)), (7, .v (.int .i64 c5)), (8, .v (.bool c6)), (9, .v (.bool c7)), (10, .rf 0 0 c8.length c8.length), (27, .sl 1 (x2.map (cdL 1 cdI).enc)), (28, .v (.int .i64 (x2.length : Int))), (29, .v (.int .i64 c9)), (30, .v (.bool (decide (c9 < (x2.length : Int)))))], [some ⟨1, 4, (c8.map cdB.enc), false⟩]⟩) ?_ ?_
    · refine RunS.segF (n := 91) e_evening_check_ok 1 [(0, .v (.int .i64 x0)), (1, .sl 1 (x1.map cdI.enc)), (7, .v (.int .i64 c5)), (8, .v (.bool c6)), (9, .v (.bool c7)), (10, .rf 0 0 c8.length c8.length), (27, .sl 1 (x2.map (cdL 1 cdI).enc)), (28, .v (.int .i64 (x2.length : Int))), (29, .v (.int .i64 c9)), (30, .v (.bool (decide (c9 < (x2.length : Int)))))] [some ⟨1, 4, (c8.map cdB.enc), false⟩] (by kernel_rfl) ?_
      exact RunS.done rfl (Wk.sel2 [0] (by kernel_rfl) (by kernel_rfl) (by kernel_rfl) ⟨⟨_, rfl, bu_own⟩, trivial⟩ ⟨lu (by kernel_rfl) (by kernel_rfl), lu (by kernel_rfl) (by kernel_rfl), lu (by kernel_rfl) (by kernel_rfl), lu (by kernel_rfl) (by kernel_rfl), lu (by kernel_rfl) (by kernel_rfl), lu (by kernel_rfl) (by kernel_rfl), lu (by kernel_rfl) (by kernel_rfl), lu (by kernel_rfl) (by kernel_rfl), lu (by kernel_rfl) (by kernel_rfl), lu (by kernel_rfl) (by kernel_rfl), trivial⟩)
    refine Sem.seq ?_
    refine Sem.cond (b := (decide (c9 < (x2.length : Int)))) (by kernel_rfl) (fun hb10 => ?_) (fun hb10 => ?_)
    · rw [if_pos hb10] at h
      refine Sem.skip ?_
      refine Sem.seq ?_
      refine Sem.block ?_
      refine Sem.seq ?_
      obtain ⟨v11, hv11, h⟩ := Option.bind_eq_some_iff.1 h
      refine Sem.runS (s1 := ⟨Fr 91 [(0, .v (.int .i64 x0)), (1, .sl 1 (x1.map cdI.enc)), (7, .v (.int .i64 c5)), (8, .v (.bool c6)), (9, .v (.bool c7)), (10, .rf 0 0 c8.length c8.length), (11, .v (.int .i64 c9)), (12, .sl 1 (v11.map cdI.enc)), (27, .sl 1 (x2.map (cdL 1 cdI).enc)), (28, .v (.int .i64 (x2.length : Int))), (29, .v (.int .i64 c9))], [some ⟨1, 4, (c8.map cdB.enc), false⟩]⟩) ?_ ?_
      · refine RunS.segF (n := 91) e_evening_check_ok 1 [(0, .v (.int .i64 x0)), (1, .sl 1 (x1.map cdI.enc)), (7, .v (.int .i64 c5)), (8, .v (.bool c6)), (9, .v (.bool c7)), (10, .rf 0 0 c8.length c8.length), (27, .sl 1 (x2.map (cdL 1 cdI).enc)), (28, .v (.int .i64 (x2.length : Int))), (29, .v (.int .i64 c9)), (31, .v (.int .i64 c9))] [some ⟨1, 4, (c8.map cdB.enc), false⟩] (by kernel_rfl) ?_
        refine RunS.one e_evening_check_ok 0 rfl (op_q (wantedA_none rfl) rfl (q_indexAddr (a := .sl 1 (x2.map (cdL 1 cdI).enc)) (b := .v (.int .i64 c9)) (by kernel_rfl) (by kernel_rfl) (ix_sl (e := (cdL 1 cdI).enc) (el := 29) (k := 1) (ki := .i64) (by kernel_rfl) (by kernel_rfl) hv11))) ?_
        refine RunS.segF (n := 91) e_evening_check_ok 3 [(0, .v (.int .i64 x0)), (1, .sl 1 (x1.map cdI.enc)), (7, .v (.int .i64 c5)), (8, .v (.bool c6)), (9, .v (.bool c7)), (10, .rf 0 0 c8.length c8.length), (11, .v (.int .i64 c9)), (12, .sl 1 (v11.map cdI.enc)), (27, .sl 1 (x2.map (cdL 1 cdI).enc)), (28, .v (.int .i64 (x2.length : Int))), (29, .v (.int .i64 c9))] [some ⟨1, 4, (c8.map cdB.enc), false⟩] (by kernel_rfl) ?_
        exact RunS.done rfl (Wk.sel2 [0] (by kernel_rfl) (by kernel_rfl) (by kernel_rfl) ⟨⟨_, rfl, bu_own⟩, trivial⟩ ⟨lu (by kernel_rfl) (by kernel_rfl), lu (by kernel_rfl) (by kernel_rfl), lu (by kernel_rfl) (by kernel_rfl), lu (by kernel_rfl) (by kernel_rfl), lu (by kernel_rfl) (by kernel_rfl), lu (by kernel_rfl) (by kernel_rfl), lu (by kernel_rfl) (by kernel_rfl), lu (by kernel_rfl) (by kernel_rfl), lu (by kernel_rfl) (by kernel_rfl), lu (by kernel_rfl) (by kernel_rfl), lu (by kernel_rfl) (by kernel_rfl), trivial⟩)
      refine Sem.seq ?_
      refine Sem.seq ?_
      obtain ⟨j15, hj15, h⟩ := Option.bind_eq_some_iff.1 h
      refine Sem.runS (s1 := ⟨Fr 91 [(0, .v (.int .i64 x0)), (1, .sl 1 (x1.map cdI.enc)), (7, .v (.int .i64 c5)), (8, .v (.bool c6)), (9, .v (.bool c7)), (10, .rf 0 0 j15.1.length j15.1.length), (12, .sl 1 (v11.map cdI.enc)), (27, .sl 1 (x2.map (cdL 1 cdI).enc)), (28, .v (.int .i64 (x2.length : Int))), (29, .v (.int .i64 c9)), (50, .v (.bool j15.2))], [some ⟨1, 4, (j15.1.map cdB.enc), false⟩]⟩) ?_ ?_
      · refine RunS.segF (n := 91) e_evening_check_ok 1 [(0, .v (.int .i64 x0)), (1, .sl 1 (x1.map cdI.enc)), (7, .v (.int .i64 c5)), (8, .v (.bool c6)), (9, .v (.bool c7)), (10, .rf 0 0 c8.length c8.length), (11, .v (.int .i64 c9)), (12, .sl 1 (v11.map cdI.enc)), (27, .sl 1 (x2.map (cdL 1 cdI).enc)), (28, .v (.int .i64 (x2.length : Int))), (29, .v (.int .i64 c9)), (34, .sl 1 (v11.map cdI.enc))] [some ⟨1, 4, (c8.map cdB.enc), false⟩] (by kernel_rfl) ?_
        refine RunS.one e_evening_check_ok 0 rfl (op_q (wantedA_none rfl) rfl (q_len (a := .sl 1 (v11.map cdI.enc)) (by kernel_rfl) (len_sl (el := 3) (by kernel_rfl)))) ?_
        refine RunS.segF (n := 91) e_evening_check_ok 2 [(0, .v (.int .i64 x0)), (1, .sl 1 (x1.map cdI.enc)), (7, .v (.int .i64 c5)), (8, .v (.bool c6)), (9, .v (.bool c7)), (10, .rf 0 0 c8.length c8.length), (11, .v (.int .i64 c9)), (12, .sl 1 (v11.map cdI.enc)), (27, .sl 1 (x2.map (cdL 1 cdI).enc)), (28, .v (.int .i64 (x2.length : Int))), (29, .v (.int .i64 c9)), (37, .v (.bool ((v11.length : Int) == 0)))] [some ⟨1, 4, (c8.map cdB.enc), false⟩] (by kernel_rfl) ?_
        rcases Bool.eq_false_or_eq_true ((v11.length : Int) == 0) with hc45 | hc45
        · rw [if_pos hc45] at hj15
          rw [hc45]
          refine RunS.segF (n := 91) e_evening_check_ok 13 [(0, .v (.int .i64 x0)), (1, .sl 1 (x1.map cdI.enc)), (7, .v (.int .i64 c5)), (8, .v (.bool c6)), (9, .v (.bool c7)), (10, .rf 0 0 c8.length c8.length), (12, .sl 1 (v11.map cdI.enc)), (27, .sl 1 (x2.map (cdL 1 cdI).enc)), (28, .v (.int .i64 (x2.length : Int))), (29, .v (.int .i64 c9)), (38, .tp []), (39, .tp []), (40, .tp []), (41, .tp []), (42, .tp []), (43, .tp []), (44, .tp []), (45, .tp []), (46, .tp []), (47, .tp []), (48, .tp []), (49, .tp []), (50, .v (.bool true))] [some ⟨1, 4, (c8.map cdB.enc), false⟩] (by kernel_rfl) ?_
          have hq := Option.some.inj hj15; subst hq
          exact RunS.done rfl (Wk.sel2 [0] (by kernel_rfl) (by kernel_rfl) (by kernel_rfl) ⟨⟨_, rfl, bu_own⟩, trivial⟩ ⟨lu (by kernel_rfl) (by kernel_rfl), lu (by kernel_rfl) (by kernel_rfl), lu (by kernel_rfl) (by kernel_rfl), lu (by kernel_rfl) (by kernel_rfl), lu (by kernel_rfl) (by kernel_rfl), lu (by kernel_rfl) (by kernel_rfl), lu (by kernel_rfl) (by kernel_rfl), lu (by kernel_rfl) (by kernel_rfl), lu (by kernel_rfl) (by kernel_rfl), lu (by kernel_rfl) (by kernel_rfl), lu (by kernel_rfl) (by kernel_rfl), trivial⟩)
        · rw [if_f hc45] at hj15
          rw [hc45]
          refine RunS.segF (n := 91) e_evening_check_ok 1 [(0, .v (.int .i64 x0)), (1, .sl 1 (x1.map cdI.enc)), (7, .v (.int .i64 c5)), (8, .v (.bool c6)), (9, .v (.bool c7)), (10, .rf 0 0 c8.length c8.length), (11, .v (.int .i64 c9)), (12, .sl 1 (v11.map cdI.enc)), (27, .sl 1 (x2.map (cdL 1 cdI).enc)), (28, .v (.int .i64 (x2.length : Int))), (29, .v (.int .i64 c9)), (37, .v (.bool false)), (38, .sl 1 (x1.map cdI.enc))] [some ⟨1, 4, (c8.map cdB.enc), false⟩] (by kernel_rfl) ?_
          refine RunS.one e_evening_check_ok 0 rfl (op_q (by kernel_rfl) rfl (q_len (a := .sl 1 (x1.map cdI.enc)) (by kernel_rfl) (len_sl (el := 3) (by kernel_rfl)))) ?_
          refine RunS.segF (n := 91) e_evening_check_ok 2 [(0, .v (.int .i64 x0)), (1, .sl 1 (x1.map cdI.enc)), (7, .v (.int .i64 c5)), (8, .v (.bool c6)), (9, .v (.bool c7)), (10, .rf 0 0 c8.length c8.length), (11, .v (.int .i64 c9)), (12, .sl 1 (v11.map cdI.enc)), (27, .sl 1 (x2.map (cdL 1 cdI).enc)), (28, .v (.int .i64 (x2.length : Int))), (29, .v (.int .i64 c9)), (37, .v (.bool false)), (38, .sl 1 (x1.map cdI.enc)), (39, .v (.int .i64 (x1.length : Int))), (40, .v (.bool (decide ((x1.length : Int) > 0)))), (41, .v (.bool (decide ((x1.length : Int) > 0))))] [some ⟨1, 4, (c8.map cdB.enc), false⟩] (by kernel_rfl) ?_
          rcases Bool.eq_false_or_eq_true (decide ((x1.length : Int) > 0)) with hc46 | hc46
          · rw [if_pos hc46] at hj15
            rw [hc46]
            refine RunS.segF (n := 91) e_evening_check_ok 1 [(0, .v (.int .i64 x0)), (1, .sl 1 (x1.map cdI.enc)), (7, .v (.int .i64 c5)), (8, .v (.bool c6)), (9, .v (.bool c7)), (10, .rf 0 0 c8.length c8.length), (11, .v (.int .i64 c9)), (12, .sl 1 (v11.map cdI.enc)), (27, .sl 1 (x2.map (cdL 1 cdI).enc)), (28, .v (.int .i64 (x2.length : Int))), (29, .v (.int .i64 c9)), (37, .v (.bool false)), (38, .sl 1 (x1.map cdI.enc)), (39, .v (.int .i64 (x1.length : Int))), (40, .v (.bool true)), (41, .v (.bool true)), (42, .sl 1 (v11.map cdI.enc))] [some ⟨1, 4, (c8.map cdB.enc), false⟩] (by kernel_rfl) ?_
            refine RunS.one e_evening_check_ok 0 rfl (op_q (by kernel_rfl) rfl (q_len (a := .sl 1 (v11.map cdI.enc)) (by kernel_rfl) (len_sl (el := 3) (by kernel_rfl)))) ?_
            refine RunS.segF (n := 91) e_evening_check_ok 2 [(0, .v (.int .i64 x0)), (1, .sl 1 (x1.map cdI.enc)), (7, .v (.int .i64 c5)), (8, .v (.bool c6)), (9, .v (.bool c7)), (10, .rf 0 0 c8.length c8.length), (12, .sl 1 (v11.map cdI.enc)), (27, .sl 1 (x2.map (cdL 1 cdI).enc)), (28, .v (.int .i64 (x2.length : Int))), (29, .v (.int .i64 c9)), (37, .v (.bool false)), (38, .sl 1 (x1.map cdI.enc)), (39, .v (.int .i64 (x1.length : Int))), (40, .v (.bool true)), (41, .v (.bool true)), (42, .sl 1 (v11.map cdI.enc)), (43, .v (.int .i64 (v11.length : Int))), (44, .sl 1 (x1.map cdI.enc)), (45, .v (.int .i64 c9))] [some ⟨1, 4, (c8.map cdB.enc), false⟩] (by kernel_rfl) ?_
            obtain ⟨v12, hv12, hj15⟩ := Option.bind_eq_some_iff.1 hj15
            refine RunS.one e_evening_check_ok 0 rfl (op_q (by kernel_rfl) rfl (q_indexAddr (a := .sl 1 (x1.map cdI.enc)) (b := .v (.int .i64 c9)) (by kernel_rfl) (by kernel_rfl) (ix_sl (e := cdI.enc) (el := 3) (k := 1) (ki := .i64) (by kernel_rfl) (by kernel_rfl) hv12))) ?_
            refine RunS.segF (n := 91) e_evening_check_ok 4 [(0, .v (.int .i64 x0)), (1, .sl 1 (x1.map cdI.enc)), (7, .v (.int .i64 c5)), (8, .v (.bool c6)), (9, .v (.bool c7)), (10, .rf 0 0 c8.length c8.length), (12, .sl 1 (v11.map cdI.enc)), (27, .sl 1 (x2.map (cdL 1 cdI).enc)), (28, .v (.int .i64 (x2.length : Int))), (29, .v (.int .i64 c9)), (38, .sl 1 (x1.map cdI.enc)), (39, .v (.int .i64 (x1.length : Int))), (40, .v (.bool true)), (41, .v (.bool true)), (42, .sl 1 (v11.map cdI.enc)), (43, .v (.int .i64 (v11.length : Int))), (44, .sl 1 (x1.map cdI.enc)), (45, .v (.int .i64 c9)), (46, .pe (.v (.int .i64 v12)) 0), (47, .v (.int .i64 v12)), (48, .v (.bool ((v11.length : Int) != v12))), (49, .v (.bool ((v11.length : Int) != v12))), (50, .v (.bool ((v11.length : Int) != v12)))] [some ⟨1, 4, (c8.map cdB.enc), false⟩] (by kernel_rfl) ?_
            have hq := Option.some.inj hj15; subst hq
            exact RunS.done rfl (Wk.sel2 [0] (by kernel_rfl) (by kernel_rfl) (by kernel_rfl) ⟨⟨_, rfl, bu_own⟩, trivial⟩ ⟨lu (by kernel_rfl) (by kernel_rfl), lu (by kernel_rfl) (by kernel_rfl), lu (by kernel_rfl) (by kernel_rfl), lu (by kernel_rfl) (by kernel_rfl), lu (by kernel_rfl) (by kernel_rfl), lu (by kernel_rfl) (by kernel_rfl), lu (by kernel_rfl) (by kernel_rfl), lu (by kernel_rfl) (by kernel_rfl), lu (by kernel_rfl) (by kernel_rfl), lu (by kernel_rfl) (by kernel_rfl), lu (by kernel_rfl) (by kernel_rfl), trivial⟩)
          · rw [if_f hc46] at hj15
            rw [hc46]
            refine RunS.segF (n := 91) e_evening_check_ok 9 [(0, .v (.int .i64 x0)), (1, .sl 1 (x1.map cdI.enc)), (7, .v (.int .i64 c5)), (8, .v (.bool c6)), (9, .v (.bool c7)), (10, .rf 0 0 c8.length c8.length), (12, .sl 1 (v11.map cdI.enc)), (27, .sl 1 (x2.map (cdL 1 cdI).enc)), (28, .v (.int .i64 (x2.length : Int))), (29, .v (.int .i64 c9)), (38, .sl 1 (x1.map cdI.enc)), (39, .v (.int .i64 (x1.length : Int))), (40, .v (.bool false)), (41, .v (.bool false)), (42, .tp []), (43, .tp []), (44, .tp []), (45, .tp []), (46, .tp []), (47, .tp []), (48, .tp []), (49, .v (.bool false)), (50, .v (.bool false))] [some ⟨1, 4, (c8.map cdB.enc), false⟩] (by kernel_rfl) ?_
            have hq := Option.some.inj hj15; subst hq
            exact RunS.done rfl (Wk.sel2 [0] (by kernel_rfl) (by kernel_rfl) (by kernel_rfl) ⟨⟨_, rfl, bu_own⟩, trivial⟩ ⟨lu (by kernel_rfl) (by kernel_rfl), lu (by kernel_rfl) (by kernel_rfl), lu (by kernel_rfl) (by kernel_rfl), lu (by kernel_rfl) (by kernel_rfl), lu (by kernel_rfl) (by kernel_rfl), lu (by kernel_rfl) (by kernel_rfl), lu (by kernel_rfl) (by kernel_rfl), lu (by kernel_rfl) (by kernel_rfl), lu (by kernel_rfl) (by kernel_rfl), lu (by kernel_rfl) (by kernel_rfl), lu (by kernel_rfl) (by kernel_rfl), trivial⟩)
      refine Sem.cond (b := j15.2) (by kernel_rfl) (fun hb16 => ?_) (fun hb16 => ?_)
      · rw [if_pos hb16] at h
        refine Sem.seq ?_
        refine Sem.runS (s1 := ⟨Fr 91 [(6, .v (.int .i64 2))], []⟩) ?_ ?_
        · refine RunS.segF (n := 91) e_evening_check_ok 1 [(6, .v (.int .i64 2))] [some ⟨1, 4, (j15.1.map cdB.enc), false⟩] (by kernel_rfl) ?_
          exact RunS.done rfl (Wk.sel2 [] (by kernel_rfl) (by kernel_rfl) (by kernel_rfl) trivial ⟨lu (by kernel_rfl) (by kernel_rfl), trivial⟩)
        refine Sem.ret ?_
        have hq := Option.some.inj h; subst hq
        exact ⟨rfl, (Wk.fr (by kernel_rfl))⟩
      · rw [if_f hb16] at h
        refine Sem.skip ?_
        refine Sem.seq ?_
        refine Sem.runS (s1 := ⟨Fr 91 [(0, .v (.int .i64 x0)), (1, .sl 1 (x1.map cdI.enc)), (7, .v (.int .i64 c5)), (8, .v (.bool c6)), (9, .v (.bool c7)), (10, .rf 0 0 j15.1.length j15.1.length), (27, .sl 1 (x2.map (cdL 1 cdI).enc)), (28, .v (.int .i64 (x2.length : Int))), (29, .v (.int .i64 c9)), (51, .sl 1 (v11.map cdI.enc)), (52, .v (.int .i64 (v11.length : Int))), (53, .v (.int .i64 0))], [some ⟨1, 4, (j15.1.map cdB.enc), false⟩]⟩) ?_ ?_
        · refine RunS.segF (n := 91) e_evening_check_ok 1 [(0, .v (.int .i64 x0)), (1, .sl 1 (x1.map cdI.enc)), (7, .v (.int .i64 c5)), (8, .v (.bool c6)), (9, .v (.bool c7)), (10, .rf 0 0 j15.1.length j15.1.length), (27, .sl 1 (x2.map (cdL 1 cdI).enc)), (28, .v (.int .i64 (x2.length : Int))), (29, .v (.int .i64 c9)), (51, .sl 1 (v11.map cdI.enc))] [some ⟨1, 4, (j15.1.map cdB.enc), false⟩] (by kernel_rfl) ?_
          refine RunS.one e_evening_check_ok 0 rfl (op_q (wantedA_none rfl) rfl (q_len (a := .sl 1 (v11.map cdI.enc)) (by kernel_rfl) (len_sl (el := 3) (by kernel_rfl)))) ?_
          refine RunS.segF (n := 91) e_evening_check_ok 1 [(0, .v (.int .i64 x0)), (1, .sl 1 (x1.map cdI.enc)), (7, .v (.int .i64 c5)), (8, .v (.bool c6)), (9, .v (.bool c7)), (10, .rf 0 0 j15.1.length j15.1.length), (27, .sl 1 (x2.map (cdL 1 cdI).enc)), (28, .v (.int .i64 (x2.length : Int))), (29, .v (.int .i64 c9)), (51, .sl 1 (v11.map cdI.enc)), (52, .v (.int .i64 (v11.length : Int))), (53, .v (.int .i64 0))] [some ⟨1, 4, (j15.1.map cdB.enc), false⟩] (by kernel_rfl) ?_
          exact RunS.done rfl (Wk.sel2 [0] (by kernel_rfl) (by kernel_rfl) (by kernel_rfl) ⟨⟨_, rfl, bu_own⟩, trivial⟩ ⟨lu (by kernel_rfl) (by kernel_rfl), lu (by kernel_rfl) (by kernel_rfl), lu (by kernel_rfl) (by kernel_rfl), lu (by kernel_rfl) (by kernel_rfl), lu (by kernel_rfl) (by kernel_rfl), lu (by kernel_rfl) (by kernel_rfl), lu (by kernel_rfl) (by kernel_rfl), lu (by kernel_rfl) (by kernel_rfl), lu (by kernel_rfl) (by kernel_rfl), lu (by kernel_rfl) (by kernel_rfl), lu (by kernel_rfl) (by kernel_rfl), lu (by kernel_rfl) (by kernel_rfl), trivial⟩)
        refine Sem.block ?_
        obtain ⟨r44, hr44, h⟩ := Option.bind_eq_some_iff.1 h
        refine Sem.loop (n := 100000) ?_
        refine Sem.cutN (SemN.wk (s1 := ⟨Fr 91 [(0, .v (.int .i64 x0)), (1, .sl 1 (x1.map cdI.enc)), (7, .v (.int .i64 c5)), (8, .v (.bool c6)), (9, .v (.bool c7)), (10, .rf 0 0 j15.1.length j15.1.length), (27, .sl 1 (x2.map (cdL 1 cdI).enc)), (28, .v (.int .i64 (x2.length : Int))), (29, .v (.int .i64 c9)), (51, .sl 1 (v11.map cdI.enc)), (52, .v (.int .i64 (v11.length : Int))), (53, .v (.int .i64 0))], [some ⟨1, 4, (j15.1.map cdB.enc), false⟩]⟩) (Wk.sel2 [0] (by kernel_rfl) (by kernel_rfl) (by kernel_rfl) ⟨⟨_, rfl, bu_own⟩, trivial⟩ ⟨lu (by kernel_rfl) (by kernel_rfl), lu (by kernel_rfl) (by kernel_rfl), lu (by kernel_rfl) (by kernel_rfl), lu (by kernel_rfl) (by kernel_rfl), lu (by kernel_rfl) (by kernel_rfl), lu (by kernel_rfl) (by kernel_rfl), lu (by kernel_rfl) (by kernel_rfl), lu (by kernel_rfl) (by kernel_rfl), lu (by kernel_rfl) (by kernel_rfl), lu (by kernel_rfl) (by kernel_rfl), lu (by kernel_rfl) (by kernel_rfl), lu (by kernel_rfl) (by kernel_rfl), trivial⟩) (evening_check_2_ok x0 x1 x2 c9 v11 _ c5 c6 c7 j15.1 0 _ hr44)) ?_
        refine Sem.runS (s1 := ⟨Fr 91 [(0, .v (.int .i64 x0)), (1, .sl 1 (x1.map cdI.enc)), (7, .v (.int .i64 r44.1)), (8, .v (.bool r44.2.1)), (9, .v (.bool r44.2.2.1)), (10, .rf 0 0 r44.2.2.2.length r44.2.2.2.length), (27, .sl 1 (x2.map (cdL 1 cdI).enc)), (28, .v (.int .i64 (x2.length : Int))), (29, .v (.int .i64 (wr .i64 (c9 + 1))))], [some ⟨1, 4, (r44.2.2.2.map cdB.enc), false⟩]⟩) ?_ ?_
        · refine RunS.segF (n := 91) e_evening_check_ok 2 [(0, .v (.int .i64 x0)), (1, .sl 1 (x1.map cdI.enc)), (7, .v (.int .i64 r44.1)), (8, .v (.bool r44.2.1)), (9, .v (.bool r44.2.2.1)), (10, .rf 0 0 r44.2.2.2.length r44.2.2.2.length), (27, .sl 1 (x2.map (cdL 1 cdI).enc)), (28, .v (.int .i64 (x2.length : Int))), (29, .v (.int .i64 (wr .i64 (c9 + 1))))] [some ⟨1, 4, (r44.2.2.2.map cdB.enc), false⟩] (by kernel_rfl) ?_
          exact RunS.done rfl (Wk.sel2 [0] (by kernel_rfl) (by kernel_rfl) (by kernel_rfl) ⟨⟨_, rfl, bu_own⟩, trivial⟩ ⟨lu (by kernel_rfl) (by kernel_rfl), lu (by kernel_rfl) (by kernel_rfl), lu (by kernel_rfl) (by kernel_rfl), lu (by kernel_rfl) (by kernel_rfl), lu (by kernel_rfl) (by kernel_rfl), lu (by kernel_rfl) (by kernel_rfl), lu (by kernel_rfl) (by kernel_rfl), lu (by kernel_rfl) (by kernel_rfl), lu (by kernel_rfl) (by kernel_rfl), trivial⟩)
        exact SemN.wk (s1 := ⟨Fr 91 [(0, .v (.int .i64 x0)), (1, .sl 1 (x1.map cdI.enc)), (7, .v (.int .i64 r44.1)), (8, .v (.bool r44.2.1)), (9, .v (.bool r44.2.2.1)), (10, .rf 0 0 r44.2.2.2.length r44.2.2.2.length), (27, .sl 1 (x2.map (cdL 1 cdI).enc)), (28, .v (.int .i64 (x2.length : Int))), (29, .v (.int .i64 (wr .i64 (c9 + 1))))], [some ⟨1, 4, (r44.2.2.2.map cdB.enc), false⟩]⟩) (Wk.sel2 [0] (by kernel_rfl) (by kernel_rfl) (by kernel_rfl) ⟨⟨_, rfl, bu_own⟩, trivial⟩ ⟨lu (by kernel_rfl) (by kernel_rfl), lu (by kernel_rfl) (by kernel_rfl), lu (by kernel_rfl) (by kernel_rfl), lu (by kernel_rfl) (by kernel_rfl), lu (by kernel_rfl) (by kernel_rfl), lu (by kernel_rfl) (by kernel_rfl), lu (by kernel_rfl) (by kernel_rfl), lu (by kernel_rfl) (by kernel_rfl), lu (by kernel_rfl) (by kernel_rfl), trivial⟩) (ih r44.1 r44.2.1 r44.2.2.1 r44.2.2.2 (wr .i64 (c9 + 1)) h)
    · rw [if_f hb10] at h
      refine Sem.exit ?_
      have hq := Option.some.inj h; subst hq
      exact ⟨rfl, (Wk.sel2 [] (by kernel_rfl) (by kernel_rfl) (by kernel_rfl) trivial ⟨lu (by kernel_rfl) (by kernel_rfl), lu (by kernel_rfl) (by kernel_rfl), lu (by kernel_rfl) (by kernel_rfl), lu (by kernel_rfl) (by kernel_rfl), trivial⟩)⟩
set_option maxHeartbeats 4000000 in
set_option maxRecDepth 100000 in
theorem evening_check_sem (x0 : Int) (x1 : (List Int)) (x2 : (List (List Int))) (r : Int) (h : evening_check x0 x1 x2 = some r) : Sem e_evening_check ⟨none, false⟩ cb_evening_check ⟨Fr 91 (pairs0 0 (cs_evening_check.enc (x0, x1, x2, ()))), []⟩ fun e s' => (e = .normal ∨ e = .ret) ∧ ∃ xs, resA e_evening_check.P s'.fr s'.hp Tryd.f42.results.toList = some xs ∧ retA xs = er_evening_check r := by
  unfold evening_check at h
  refine Sem.wkQ (Sem.wk (s1 := ⟨Fr 91 [(0, .v (.int .i64 x0)), (1, .sl 1 (x1.map cdI.enc)), (2, .sl 1 (x2.map (cdL 1 cdI).enc))], []⟩) (Wk.fr (by kernel_rfl)) ?_)
  refine Sem.seq ?_
  refine Sem.runS (s1 := ⟨Fr 91 [(0, .v (.int .i64 x0)), (1, .sl 1 (x1.map cdI.enc)), (2, .sl 1 (x2.map (cdL 1 cdI).enc))], []⟩) ?_ ?_
  · refine RunS.segF (n := 91) e_evening_check_ok 1 [(0, .v (.int .i64 x0)), (1, .sl 1 (x1.map cdI.enc)), (2, .sl 1 (x2.map (cdL 1 cdI).enc))] [] (by kernel_rfl) ?_
    exact RunS.done rfl (Wk.fr (by kernel_rfl))
  refine Sem.seq ?_
  refine Sem.seq ?_
  obtain ⟨j2, hj2, h⟩ := Option.bind_eq_some_iff.1 h
  refine Sem.runS (s1 := ⟨Fr 91 [(0, .v (.int .i64 x0)), (1, .sl 1 (x1.map cdI.enc)), (2, .sl 1 (x2.map (cdL 1 cdI).enc)), (24, .v (.bool j2))], []⟩) ?_ ?_
  · refine RunS.segF (n := 91) e_evening_check_ok 1 [(0, .v (.int .i64 x0)), (1, .sl 1 (x1.map cdI.enc)), (2, .sl 1 (x2.map (cdL 1 cdI).enc)), (15, .sl 1 (x1.map cdI.enc))] [] (by kernel_rfl) ?_
    refine RunS.one e_evening_check_ok 0 rfl (op_q (wantedA_none rfl) rfl (q_len (a := .sl 1 (x1.map cdI.enc)) (by kernel_rfl) (len_sl (el := 3) (by kernel_rfl)))) ?_
    refine RunS.segF (n := 91) e_evening_check_ok 2 [(0, .v (.int .i64 x0)), (1, .sl 1 (x1.map cdI.enc)), (2, .sl 1 (x2.map (cdL 1 cdI).enc)), (18, .v (.bool (decide ((x1.length : Int) > 0))))] [] (by kernel_rfl) ?_
    rcases Bool.eq_false_or_eq_true (decide ((x1.length : Int) > 0)) with hc56 | hc56
    · rw [if_pos hc56] at hj2
      rw [hc56]
      refine RunS.segF (n := 91) e_evening_check_ok 1 [(0, .v (.int .i64 x0)), (1, .sl 1 (x1.map cdI.enc)), (2, .sl 1 (x2.map (cdL 1 cdI).enc)), (18, .v (.bool true)), (19, .sl 1 (x1.map cdI.enc))] [] (by kernel_rfl) ?_
      refine RunS.one e_evening_check_ok 0 rfl (op_q (by kernel_rfl) rfl (q_len (a := .sl 1 (x1.map cdI.enc)) (by kernel_rfl) (len_sl (el := 3) (by kernel_rfl)))) ?_
      refine RunS.segF (n := 91) e_evening_check_ok 1 [(0, .v (.int .i64 x0)), (1, .sl 1 (x1.map cdI.enc)), (2, .sl 1 (x2.map (cdL 1 cdI).enc)), (18, .v (.bool true)), (20, .v (.int .i64 (x1.length : Int))), (21, .sl 1 (x2.map (cdL 1 cdI).enc))] [] (by kernel_rfl) ?_
      refine RunS.one e_evening_check_ok 0 rfl (op_q (by kernel_rfl) rfl (q_len (a := .sl 1 (x2.map (cdL 1 cdI).enc)) (by kernel_rfl) (len_sl (el := 29) (by kernel_rfl)))) ?_
      refine RunS.segF (n := 91) e_evening_check_ok 2 [(0, .v (.int .i64 x0)), (1, .sl 1 (x1.map cdI.enc)), (2, .sl 1 (x2.map (cdL 1 cdI).enc)), (24, .v (.bool ((x1.length : Int) != (x2.length : Int))))] [] (by kernel_rfl) ?_
      have hq := Option.some.inj hj2; subst hq
      exact RunS.done rfl (Wk.fr (by kernel_rfl))
    · rw [if_f hc56] at hj2
      rw [hc56]
      refine RunS.segF (n := 91) e_evening_check_ok 6 [(0, .v (.int .i64 x0)), (1, .sl 1 (x1.map cdI.enc)), (2, .sl 1 (x2.map (cdL 1 cdI).enc)), (24, .v (.bool false))] [] (by kernel_rfl) ?_
      have hq := Option.some.inj hj2; subst hq
      exact RunS.done rfl (Wk.fr (by kernel_rfl))
  refine Sem.cond (b := j2) (by kernel_rfl) (fun hb3 => ?_) (fun hb3 => ?_)
  · rw [if_pos hb3] at h
    refine Sem.seq ?_
    refine Sem.runS (s1 := ⟨Fr 91 [(6, .v (.int .i64 2))], []⟩) ?_ ?_
    · refine RunS.segF (n := 91) e_evening_check_ok 1 [(6, .v (.int .i64 2))] [] (by kernel_rfl) ?_
      exact RunS.done rfl (Wk.fr (by kernel_rfl))
    refine Sem.ret ?_
    have hq := Option.some.inj h; subst hq
    exact ⟨⟨Fr 91 [(6, .v (.int .i64 2))], []⟩, (Wk.fr (by kernel_rfl)), .inr rfl, [.v (.int .i64 2)], (by kernel_rfl), (by kernel_rfl)⟩
  · rw [if_f hb3] at h
    refine Sem.skip ?_
    refine Sem.seq ?_
    refine Sem.runS (s1 := ⟨Fr 91 [(0, .v (.int .i64 x0)), (1, .sl 1 (x1.map cdI.enc)), (2, .sl 1 (x2.map (cdL 1 cdI).enc)), (7, .v (.int .i64 0)), (8, .v (.bool false)), (9, .v (.bool false))], []⟩) ?_ ?_
    · refine RunS.segF (n := 91) e_evening_check_ok 3 [(0, .v (.int .i64 x0)), (1, .sl 1 (x1.map cdI.enc)), (2, .sl 1 (x2.map (cdL 1 cdI).enc)), (7, .v (.int .i64 0)), (8, .v (.bool false)), (9, .v (.bool false))] [] (by kernel_rfl) ?_
      exact RunS.done rfl (Wk.fr (by kernel_rfl))
    refine Sem.seq ?_
    by_cases hk4 : (mkOk 1 x0) = true
    case neg => rw [if_neg hk4] at h; cases h
    rw [if_pos hk4] at h
    refine Sem.runS (s1 := ⟨Fr 91 [(0, .v (.int .i64 x0)), (1, .sl 1 (x1.map cdI.enc)), (2, .sl 1 (x2.map (cdL 1 cdI).enc)), (7, .v (.int .i64 0)), (8, .v (.bool false)), (9, .v (.bool false)), (10, .rf 0 0 (List.replicate x0.toNat false).length (List.replicate x0.toNat false).length)], [some ⟨1, 4, ((List.replicate x0.toNat false).map cdB.enc), false⟩]⟩) ?_ ?_
    · refine RunS.segF (n := 91) e_evening_check_ok 1 [(0, .v (.int .i64 x0)), (1, .sl 1 (x1.map cdI.enc)), (2, .sl 1 (x2.map (cdL 1 cdI).enc)), (7, .v (.int .i64 0)), (8, .v (.bool false)), (9, .v (.bool false)), (25, .v (.int .i64 x0))] [] (by kernel_rfl) ?_
      refine RunS.one e_evening_check_ok 0 rfl (op_n (wantedA_none rfl) rfl (by kernel_rfl) (n_make (x := .v (.int .i64 x0)) (y := .v (.int .i64 x0)) (by kernel_rfl) (by kernel_rfl) (make_B (c := cdB) (z := false) (k := 1) (bytes := 1) (el := 4) (by kernel_rfl) (by kernel_rfl) hk4))) ?_
      refine RunS.segF (n := 91) e_evening_check_ok 1 [(0, .v (.int .i64 x0)), (1, .sl 1 (x1.map cdI.enc)), (2, .sl 1 (x2.map (cdL 1 cdI).enc)), (7, .v (.int .i64 0)), (8, .v (.bool false)), (9, .v (.bool false)), (10, .rf 0 0 (List.replicate x0.toNat false).length (List.replicate x0.toNat false).length)] [some ⟨1, 4, ((List.replicate x0.toNat false).map cdB.enc), false⟩] (by kernel_rfl) ?_
      exact RunS.done rfl (Wk.sel2 [0] (by kernel_rfl) (by kernel_rfl) (by kernel_rfl) ⟨⟨_, rfl, bu_own⟩, trivial⟩ ⟨lu (by kernel_rfl) (by kernel_rfl), lu (by kernel_rfl) (by kernel_rfl), lu (by kernel_rfl) (by kernel_rfl), lu (by kernel_rfl) (by kernel_rfl), lu (by kernel_rfl) (by kernel_rfl), lu (by kernel_rfl) (by kernel_rfl), lu (by kernel_rfl) (by kernel_rfl), trivial⟩)
    refine Sem.seq ?_
    refine Sem.seq ?_
    refine Sem.runS (s1 := ⟨Fr 91 [(0, .v (.int .i64 x0)), (1, .sl 1 (x1.map cdI.enc)), (7, .v (.int .i64 0)), (8, .v (.bool false)), (9, .v (.bool false)), (10, .rf 0 0 (List.replicate x0.toNat false).length (List.replicate x0.toNat false).length), (27, .sl 1 (x2.map (cdL 1 cdI).enc)), (28, .v (.int .i64 (x2.length : Int))), (29, .v (.int .i64 0))], [some ⟨1, 4, ((List.replicate x0.toNat false).map cdB.enc), false⟩]⟩) ?_ ?_
    · refine RunS.segF (n := 91) e_evening_check_ok 1 [(0, .v (.int .i64 x0)), (1, .sl 1 (x1.map cdI.enc)), (7, .v (.int .i64 0)), (8, .v (.bool false)), (9, .v (.bool false)), (10, .rf 0 0 (List.replicate x0.toNat false).length (List.replicate x0.toNat false).length), (27, .sl 1 (x2.map (cdL 1 cdI).enc))] [some ⟨1, 4, ((List.replicate x0.toNat false).map cdB.enc), false⟩] (by kernel_rfl) ?_
      refine RunS.one e_evening_check_ok 0 rfl (op_q (wantedA_none rfl) rfl (q_len (a := .sl 1 (x2.map (cdL 1 cdI).enc)) (by kernel_rfl) (len_sl (el := 29) (by kernel_rfl)))) ?_
      refine RunS.segF (n := 91) e_evening_check_ok 1 [(0, .v (.int .i64 x0)), (1, .sl 1 (x1.map cdI.enc)), (7, .v (.int .i64 0)), (8, .v (.bool false)), (9, .v (.bool false)), (10, .rf 0 0 (List.replicate x0.toNat false).length (List.replicate x0.toNat false).length), (27, .sl 1 (x2.map (cdL 1 cdI).enc)), (28, .v (.int .i64 (x2.length : Int))), (29, .v (.int .i64 0))] [some ⟨1, 4, ((List.replicate x0.toNat false).map cdB.enc), false⟩] (by kernel_rfl) ?_
      exact RunS.done rfl (Wk.sel2 [0] (by kernel_rfl) (by kernel_rfl) (by kernel_rfl) ⟨⟨_, rfl, bu_own⟩, trivial⟩ ⟨lu (by kernel_rfl) (by kernel_rfl), lu (by kernel_rfl) (by kernel_rfl), lu (by kernel_rfl) (by kernel_rfl), lu (by kernel_rfl) (by kernel_rfl), lu (by kernel_rfl) (by kernel_rfl), lu (by kernel_rfl) (by kernel_rfl), lu (by kernel_rfl) (by kernel_rfl), lu (by kernel_rfl) (by kernel_rfl), lu (by kernel_rfl) (by kernel_rfl), trivial⟩)
    refine Sem.block ?_
    obtain ⟨r50, hr50, h⟩ := Option.bind_eq_some_iff.1 h
    refine Sem.loop (n := 100000) ?_
    rcases r50 with w51 | w55
    · try dsimp only at h
      refine Sem.cutN (SemN.wk (s1 := ⟨Fr 91 [(0, .v (.int .i64 x0)), (1, .sl 1 (x1.map cdI.enc)), (7, .v (.int .i64 0)), (8, .v (.bool false)), (9, .v (.bool false)), (10, .rf 0 0 (List.replicate x0.toNat false).length (List.replicate x0.toNat false).length), (27, .sl 1 (x2.map (cdL 1 cdI).enc)), (28, .v (.int .i64 (x2.length : Int))), (29, .v (.int .i64 0))], [some ⟨1, 4, ((List.replicate x0.toNat false).map cdB.enc), false⟩]⟩) (Wk.sel2 [0] (by kernel_rfl) (by kernel_rfl) (by kernel_rfl) ⟨⟨_, rfl, bu_own⟩, trivial⟩ ⟨lu (by kernel_rfl) (by kernel_rfl), lu (by kernel_rfl) (by kernel_rfl), lu (by kernel_rfl) (by kernel_rfl), lu (by kernel_rfl) (by kernel_rfl), lu (by kernel_rfl) (by kernel_rfl), lu (by kernel_rfl) (by kernel_rfl), lu (by kernel_rfl) (by kernel_rfl), lu (by kernel_rfl) (by kernel_rfl), lu (by kernel_rfl) (by kernel_rfl), trivial⟩) (evening_check_1_ok x0 x1 x2 _ 0 false false (List.replicate x0.toNat false) 0 _ hr50)) ?_
      refine Sem.seq ?_
      refine Sem.block ?_
      refine Sem.seq ?_
      refine Sem.runS (s1 := ⟨Fr 91 [(0, .v (.int .i64 x0)), (7, .v (.int .i64 w51.1)), (8, .v (.bool w51.2.1)), (83, .v (.bool w51.2.2))], []⟩) ?_ ?_
      · refine RunS.segF (n := 91) e_evening_check_ok 2 [(0, .v (.int .i64 x0)), (7, .v (.int .i64 w51.1)), (8, .v (.bool w51.2.1)), (83, .v (.bool w51.2.2))] [] (by kernel_rfl) ?_
        exact RunS.done rfl (Wk.fr (by kernel_rfl))
      refine Sem.cond (b := w51.2.2) (by kernel_rfl) (fun hb52 => ?_) (fun hb52 => ?_)
      · rw [if_pos hb52] at h
        refine Sem.seq ?_
        refine Sem.runS (s1 := ⟨Fr 91 [(6, .v (.int .i64 6))], []⟩) ?_ ?_
        · refine RunS.segF (n := 91) e_evening_check_ok 1 [(6, .v (.int .i64 6))] [] (by kernel_rfl) ?_
          exact RunS.done rfl (Wk.fr (by kernel_rfl))
        refine Sem.ret ?_
        have hq := Option.some.inj h; subst hq
        exact ⟨⟨Fr 91 [(6, .v (.int .i64 6))], []⟩, (Wk.fr (by kernel_rfl)), .inr rfl, [.v (.int .i64 6)], (by kernel_rfl), (by kernel_rfl)⟩
      · rw [if_f hb52] at h
        refine Sem.seq ?_
        refine Sem.runS (s1 := ⟨Fr 91 [(0, .v (.int .i64 x0)), (7, .v (.int .i64 w51.1)), (85, .v (.bool w51.2.1))], []⟩) ?_ ?_
        · refine RunS.segF (n := 91) e_evening_check_ok 2 [(0, .v (.int .i64 x0)), (7, .v (.int .i64 w51.1)), (85, .v (.bool w51.2.1))] [] (by kernel_rfl) ?_
          exact RunS.done rfl (Wk.fr (by kernel_rfl))
        refine Sem.cond (b := w51.2.1) (by kernel_rfl) (fun hb53 => ?_) (fun hb53 => ?_)
        · rw [if_pos hb53] at h
          refine Sem.seq ?_
          refine Sem.runS (s1 := ⟨Fr 91 [(6, .v (.int .i64 5))], []⟩) ?_ ?_
          · refine RunS.segF (n := 91) e_evening_check_ok 1 [(6, .v (.int .i64 5))] [] (by kernel_rfl) ?_
            exact RunS.done rfl (Wk.fr (by kernel_rfl))
          refine Sem.ret ?_
          have hq := Option.some.inj h; subst hq
          exact ⟨⟨Fr 91 [(6, .v (.int .i64 5))], []⟩, (Wk.fr (by kernel_rfl)), .inr rfl, [.v (.int .i64 5)], (by kernel_rfl), (by kernel_rfl)⟩
        · rw [if_f hb53] at h
          refine Sem.seq ?_
          refine Sem.runS (s1 := ⟨Fr 91 [(87, .v (.bool (decide (w51.1 < x0))))], []⟩) ?_ ?_
          · refine RunS.segF (n := 91) e_evening_check_ok 4 [(87, .v (.bool (decide (w51.1 < x0))))] [] (by kernel_rfl) ?_
            exact RunS.done rfl (Wk.fr (by kernel_rfl))
          refine Sem.cond (b := (decide (w51.1 < x0))) (by kernel_rfl) (fun hb54 => ?_) (fun hb54 => ?_)
          · rw [if_pos hb54] at h
            refine Sem.seq ?_
            refine Sem.runS (s1 := ⟨Fr 91 [(6, .v (.int .i64 2))], []⟩) ?_ ?_
            · refine RunS.segF (n := 91) e_evening_check_ok 1 [(6, .v (.int .i64 2))] [] (by kernel_rfl) ?_
              exact RunS.done rfl (Wk.fr (by kernel_rfl))
            refine Sem.ret ?_
            have hq := Option.some.inj h; subst hq
            exact ⟨⟨Fr 91 [(6, .v (.int .i64 2))], []⟩, (Wk.fr (by kernel_rfl)), .inr rfl, [.v (.int .i64 2)], (by kernel_rfl), (by kernel_rfl)⟩
          · rw [if_f hb54] at h
            refine Sem.skip ?_
            refine Sem.seq ?_
            refine Sem.runS (s1 := ⟨Fr 91 [(6, .v (.int .i64 0))], []⟩) ?_ ?_
            · refine RunS.segF (n := 91) e_evening_check_ok 1 [(6, .v (.int .i64 0))] [] (by kernel_rfl) ?_
              exact RunS.done rfl (Wk.fr (by kernel_rfl))
            refine Sem.ret ?_
            have hq := Option.some.inj h; subst hq
            exact ⟨⟨Fr 91 [(6, .v (.int .i64 0))], []⟩, (Wk.fr (by kernel_rfl)), .inr rfl, [.v (.int .i64 0)], (by kernel_rfl), (by kernel_rfl)⟩
    · try dsimp only at h
      refine Sem.cutN (SemN.wk (s1 := ⟨Fr 91 [(0, .v (.int .i64 x0)), (1, .sl 1 (x1.map cdI.enc)), (7, .v (.int .i64 0)), (8, .v (.bool false)), (9, .v (.bool false)), (10, .rf 0 0 (List.replicate x0.toNat false).length (List.replicate x0.toNat false).length), (27, .sl 1 (x2.map (cdL 1 cdI).enc)), (28, .v (.int .i64 (x2.length : Int))), (29, .v (.int .i64 0))], [some ⟨1, 4, ((List.replicate x0.toNat false).map cdB.enc), false⟩]⟩) (Wk.sel2 [0] (by kernel_rfl) (by kernel_rfl) (by kernel_rfl) ⟨⟨_, rfl, bu_own⟩, trivial⟩ ⟨lu (by kernel_rfl) (by kernel_rfl), lu (by kernel_rfl) (by kernel_rfl), lu (by kernel_rfl) (by kernel_rfl), lu (by kernel_rfl) (by kernel_rfl), lu (by kernel_rfl) (by kernel_rfl), lu (by kernel_rfl) (by kernel_rfl), lu (by kernel_rfl) (by kernel_rfl), lu (by kernel_rfl) (by kernel_rfl), lu (by kernel_rfl) (by kernel_rfl), trivial⟩) (evening_check_1_ok x0 x1 x2 _ 0 false false (List.replicate x0.toNat false) 0 _ hr50)) ?_
      have hq := Option.some.inj h; subst hq
      exact ⟨⟨Fr 91 [(6, .v (.int .i64 w55))], []⟩, (Wk.fr (by kernel_rfl)), .inr rfl, [.v (.int .i64 w55)], (by kernel_rfl), (by kernel_rfl)⟩
def t_evening_check : List AV → Option AV := told cs_evening_check (fun a => evening_check a.1 a.2.1 a.2.2.1) er_evening_check
theorem x_evening_check : XOk 42 t_evening_check := by
  refine EnvOk.x (E := e_evening_check) (contract_ok e_evening_check_ok (fn := Tryd.f42) (c := cb_evening_check) ?h1 ?h2 ⟨Tryd.call42⟩ cs_evening_check (fun a => evening_check a.1 a.2.1 a.2.2.1) er_evening_check (fun a => (by show 3 ≤ 91; decide)) ?h3 ?h4) rfl rfl
  case h1 => kernel_rfl
  case h2 => kernel_rfl
  case h3 => intro b; kernel_rfl
  case h4 => exact fun a b h => evening_check_sem a.1 a.2.1 a.2.2.1 b h
end Go.Proofs.YtnmkejapogklmaaDoor

namespace Go.Proofs.YtnmkejapogklmaaDoor
open Go.RowKit
/- trestle/evening.Check -/
noncomputable def e_evening_Check : Env := (((E0.withX 34 t_evening_guests).withX 40 t_evening_fit).withX 42 t_evening_check)
theorem e_evening_Check_ok : EnvOk e_evening_Check := (EnvOk.withX (EnvOk.withX (EnvOk.withX E0_ok x_evening_guests.1 x_evening_guests.2) x_evening_fit.1 x_evening_fit.2) x_evening_check.1 x_evening_check.2)
noncomputable def cb_evening_Check : Code := codeOf Tryd.f11
def evening_Check_1 (x0 : Int) (x1 : (List Int)) (x2 : (List (List (List Int)))) : Nat → Int → Option ((Unit) ⊕ (Int × Int))
  | 0, _ => none
  | f + 1, c7 =>
    if (decide (c7 < (x2.length : Int))) = true then
    (idx x2 c7).bind fun v9 =>
    (evening_check x0 x1 v9).bind fun v10 =>
    if (v10 != 0) = true then
    some (.inr (c7, v10))
    else
    evening_Check_1 x0 x1 x2 f (wr .i64 (c7 + 1))
    else
    some (.inl ())
def evening_Check (x0 : Int) (x1 : (List Int)) (x2 : (List (List (List Int)))) : Option (Int × Int) :=
  (evening_guests x0).bind fun v1 =>
  (if (!v1) = true then some true else if (decide ((x1.length : Int) > 0)) = true then (evening_fit x0 x1).bind fun v2 =>
  some (!v2) else some false).bind fun j4 =>
  if j4 = true then
  some (0, 90)
  else
  if (decide ((x2.length : Int) > 64)) = true then
  some (0, 7)
  else
  (evening_Check_1 x0 x1 x2 100000 0).bind fun r14 =>
  match r14 with
  | (.inl w15) =>
    some (0, 0)
  | (.inr w16) =>
    some (w16.1, w16.2)
def cs_evening_Check : Cs (Int × (List Int) × (List (List (List Int))) × Unit) := (csC cdI (csC (cdL 1 cdI) (csC (cdL 1 (cdL 1 (cdL 1 cdI))) csN)))
def er_evening_Check (r : Int × Int) : AV := .tp [cdI.enc r.1, cdI.enc r.2]
set_option maxHeartbeats 4000000 in
set_option maxRecDepth 100000 in
theorem evening_Check_1_ok (x0 : Int) (x1 : (List Int)) (x2 : (List (List (List Int)))) : ∀ (f : Nat) (c7 : Int) (r : (Unit) ⊕ (Int × Int)), evening_Check_1 x0 x1 x2 f c7 = some r → SemN e_evening_Check ⟨none, false⟩ (pc cb_evening_Check [1, 1, 0, 1, 0, 0]) f ⟨Fr 46 [(0, .v (.int .i64 x0)), (1, .sl 1 (x1.map cdI.enc)), (30, .sl 1 (x2.map (cdL 1 (cdL 1 cdI)).enc)), (31, .v (.int .i64 (x2.length : Int))), (32, .v (.int .i64 c7))], []⟩ (fun e s => match r with
  | (.inl w) => e = (.exit 1) ∧ Wk e_evening_Check s ⟨Fr 46 [], []⟩
  | (.inr w) => e = .ret ∧ Wk e_evening_Check s ⟨Fr 46 [(6, .v (.int .i64 w.1)), (7, .v (.int .i64 w.2))], []⟩) := by
  intro f
  induction f with
  | zero => intro c7 r h; cases h
  | succ f ih0 =>
    intro c7 r h
    have ih := fun (c7 : Int) => ih0 c7 r
    unfold evening_Check_1 at h
    refine SemN.succ ?_
    refine Sem.seq ?_
    refine Sem.runS (s1 := ⟨Fr 46 [(0, .v (.int .i64 x0)), (1, .sl 1 (x1.map cdI.enc)), (30, .sl 1 (x2.map (cdL 1 (cdL 1 cdI)).enc)), (31, .v (.int .i64 (x2.length : Int))), (32, .v (.int .i64 c7)), (33, .v (.bool (decide (c7 < (x2.length : Int)))))], []⟩) ?_ ?_
    · refine RunS.segF (n := 46) e_evening_Check_ok 1 [(0, .v (.int .i64 x0)), (1, .sl 1 (x1.map cdI.enc)), (30, .sl 1 (x2.map (cdL 1 (cdL 1 cdI)).enc)), (31, .v (.int .i64 (x2.length : Int))), (32, .v (.int .i64 c7)), (33, .v (.bool (decide (c7 < (x2.length : Int)))))] [] (by kernel_rfl) ?_
      exact RunS.done rfl (Wk.fr (by kernel_rfl))
    refine Sem.seq ?_
    refine Sem.cond (b := (decide (c7 < (x2.length : Int)))) (by kernel_rfl) (fun hb8 => ?_) (fun hb8 => ?_)
    · rw [if_pos hb8] at h
      refine Sem.skip ?_
      refine Sem.seq ?_
      refine Sem.block ?_
      refine Sem.seq ?_
      obtain ⟨v9, hv9, h⟩ := Option.bind_eq_some_iff.1 h
      refine Sem.runS (s1 := ⟨Fr 46 [(0, .v (.int .i64 x0)), (1, .sl 1 (x1.map cdI.enc)), (8, .v (.int .i64 c7)), (9, .sl 1 (v9.map (cdL 1 cdI).enc)), (30, .sl 1 (x2.map (cdL 1 (cdL 1 cdI)).enc)), (31, .v (.int .i64 (x2.length : Int))), (32, .v (.int .i64 c7))], []⟩) ?_ ?_
      · refine RunS.segF (n := 46) e_evening_Check_ok 1 [(0, .v (.int .i64 x0)), (1, .sl 1 (x1.map cdI.enc)), (30, .sl 1 (x2.map (cdL 1 (cdL 1 cdI)).enc)), (31, .v (.int .i64 (x2.length : Int))), (32, .v (.int .i64 c7)), (34, .v (.int .i64 c7))] [] (by kernel_rfl) ?_
        refine RunS.one e_evening_Check_ok 0 rfl (op_q (wantedA_none rfl) rfl (q_indexAddr (a := .sl 1 (x2.map (cdL 1 (cdL 1 cdI)).enc)) (b := .v (.int .i64 c7)) (by kernel_rfl) (by kernel_rfl) (ix_sl (e := (cdL 1 (cdL 1 cdI)).enc) (el := 36) (k := 1) (ki := .i64) (by kernel_rfl) (by kernel_rfl) hv9))) ?_
        refine RunS.segF (n := 46) e_evening_Check_ok 3 [(0, .v (.int .i64 x0)), (1, .sl 1 (x1.map cdI.enc)), (8, .v (.int .i64 c7)), (9, .sl 1 (v9.map (cdL 1 cdI).enc)), (30, .sl 1 (x2.map (cdL 1 (cdL 1 cdI)).enc)), (31, .v (.int .i64 (x2.length : Int))), (32, .v (.int .i64 c7))] [] (by kernel_rfl) ?_
        exact RunS.done rfl (Wk.fr (by kernel_rfl))
      refine Sem.seq ?_
      obtain ⟨v10, hv10, h⟩ := Option.bind_eq_some_iff.1 h
      refine Sem.runS (s1 := ⟨Fr 46 [(0, .v (.int .i64 x0)), (1, .sl 1 (x1.map cdI.enc)), (8, .v (.int .i64 c7)), (10, .v (.int .i64 v10)), (30, .sl 1 (x2.map (cdL 1 (cdL 1 cdI)).enc)), (31, .v (.int .i64 (x2.length : Int))), (32, .v (.int .i64 c7))], []⟩) ?_ ?_
      · refine RunS.segF (n := 46) e_evening_Check_ok 3 [(0, .v (.int .i64 x0)), (1, .sl 1 (x1.map cdI.enc)), (8, .v (.int .i64 c7)), (30, .sl 1 (x2.map (cdL 1 (cdL 1 cdI)).enc)), (31, .v (.int .i64 (x2.length : Int))), (32, .v (.int .i64 c7)), (37, .v (.int .i64 x0)), (38, .sl 1 (x1.map cdI.enc)), (39, .sl 1 (v9.map (cdL 1 cdI).enc))] [] (by kernel_rfl) ?_
        refine RunS.call e_evening_Check_ok (fid := 42) (s := cs_evening_check) (F := fun a => evening_check a.1 a.2.1 a.2.2.1) (er := er_evening_check) (xs := [.v (.int .i64 x0), .sl 1 (x1.map cdI.enc), .sl 1 (v9.map (cdL 1 cdI).enc)]) (a := (x0, x1, v9, ())) rfl (wantedA_none rfl) (by kernel_rfl) (by kernel_rfl) (by kernel_rfl) (by kernel_rfl) (Sns.cons (Sn.enc (c := cdI) (v := x0)) (Sns.cons (Sn.enc (c := (cdL 1 cdI)) (v := x1)) (Sns.cons (Sn.enc (c := (cdL 1 (cdL 1 cdI))) (v := v9)) Sns.nil))) (.inl (by kernel_rfl)) hv10 ?_
        refine RunS.segF (n := 46) e_evening_Check_ok 1 [(0, .v (.int .i64 x0)), (1, .sl 1 (x1.map cdI.enc)), (8, .v (.int .i64 c7)), (10, .v (.int .i64 v10)), (30, .sl 1 (x2.map (cdL 1 (cdL 1 cdI)).enc)), (31, .v (.int .i64 (x2.length : Int))), (32, .v (.int .i64 c7))] [] (by kernel_rfl) ?_
        exact RunS.done rfl (Wk.fr (by kernel_rfl))
      refine Sem.seq ?_
      refine Sem.runS (s1 := ⟨Fr 46 [(0, .v (.int .i64 x0)), (1, .sl 1 (x1.map cdI.enc)), (8, .v (.int .i64 c7)), (10, .v (.int .i64 v10)), (30, .sl 1 (x2.map (cdL 1 (cdL 1 cdI)).enc)), (31, .v (.int .i64 (x2.length : Int))), (32, .v (.int .i64 c7)), (42, .v (.bool (v10 != 0)))], []⟩) ?_ ?_
      · refine RunS.segF (n := 46) e_evening_Check_ok 2 [(0, .v (.int .i64 x0)), (1, .sl 1 (x1.map cdI.enc)), (8, .v (.int .i64 c7)), (10, .v (.int .i64 v10)), (30, .sl 1 (x2.map (cdL 1 (cdL 1 cdI)).enc)), (31, .v (.int .i64 (x2.length : Int))), (32, .v (.int .i64 c7)), (42, .v (.bool (v10 != 0)))] [] (by kernel_rfl) ?_
        exact RunS.done rfl (Wk.fr (by kernel_rfl))
      refine Sem.cond (b := (v10 != 0)) (by kernel_rfl) (fun hb11 => ?_) (fun hb11 => ?_)
      · rw [if_pos hb11] at h
        refine Sem.seq ?_
        refine Sem.runS (s1 := ⟨Fr 46 [(6, .v (.int .i64 c7)), (7, .v (.int .i64 v10))], []⟩) ?_ ?_
        · refine RunS.segF (n := 46) e_evening_Check_ok 4 [(6, .v (.int .i64 c7)), (7, .v (.int .i64 v10))] [] (by kernel_rfl) ?_
          exact RunS.done rfl (Wk.fr (by kernel_rfl))
        refine Sem.ret ?_
        have hq := Option.some.inj h; subst hq
        exact ⟨rfl, (Wk.fr (by kernel_rfl))⟩
      · rw [if_f hb11] at h
        refine Sem.skip ?_
        refine Sem.runS (s1 := ⟨Fr 46 [(0, .v (.int .i64 x0)), (1, .sl 1 (x1.map cdI.enc)), (30, .sl 1 (x2.map (cdL 1 (cdL 1 cdI)).enc)), (31, .v (.int .i64 (x2.length : Int))), (32, .v (.int .i64 (wr .i64 (c7 + 1))))], []⟩) ?_ ?_
        · refine RunS.segF (n := 46) e_evening_Check_ok 2 [(0, .v (.int .i64 x0)), (1, .sl 1 (x1.map cdI.enc)), (30, .sl 1 (x2.map (cdL 1 (cdL 1 cdI)).enc)), (31, .v (.int .i64 (x2.length : Int))), (32, .v (.int .i64 (wr .i64 (c7 + 1))))] [] (by kernel_rfl) ?_
          exact RunS.done rfl (Wk.fr (by kernel_rfl))
        exact SemN.wk (s1 := ⟨Fr 46 [(0, .v (.int .i64 x0)), (1, .sl 1 (x1.map cdI.enc)), (30, .sl 1 (x2.map (cdL 1 (cdL 1 cdI)).enc)), (31, .v (.int .i64 (x2.length : Int))), (32, .v (.int .i64 (wr .i64 (c7 + 1))))], []⟩) (Wk.fr (by kernel_rfl)) (ih (wr .i64 (c7 + 1)) h)
    · rw [if_f hb8] at h
      refine Sem.exit ?_
      have hq := Option.some.inj h; subst hq
      exact ⟨rfl, (Wk.fr (by kernel_rfl))⟩
set_option maxHeartbeats 4000000 in
set_option maxRecDepth 100000 in
theorem evening_Check_sem (x0 : Int) (x1 : (List Int)) (x2 : (List (List (List Int)))) (r : Int × Int) (h : evening_Check x0 x1 x2 = some r) : Sem e_evening_Check ⟨none, false⟩ cb_evening_Check ⟨Fr 46 (pairs0 0 (cs_evening_Check.enc (x0, x1, x2, ()))), []⟩ fun e s' => (e = .normal ∨ e = .ret) ∧ ∃ xs, resA e_evening_Check.P s'.fr s'.hp Tryd.f11.results.toList = some xs ∧ retA xs = er_evening_Check r := by
  unfold evening_Check at h
  refine Sem.wkQ (Sem.wk (s1 := ⟨Fr 46 [(0, .v (.int .i64 x0)), (1, .sl 1 (x1.map cdI.enc)), (2, .sl 1 (x2.map (cdL 1 (cdL 1 cdI)).enc))], []⟩) (Wk.fr (by kernel_rfl)) ?_)
  refine Sem.seq ?_
  refine Sem.runS (s1 := ⟨Fr 46 [(0, .v (.int .i64 x0)), (1, .sl 1 (x1.map cdI.enc)), (2, .sl 1 (x2.map (cdL 1 (cdL 1 cdI)).enc))], []⟩) ?_ ?_
  · refine RunS.segF (n := 46) e_evening_Check_ok 2 [(0, .v (.int .i64 x0)), (1, .sl 1 (x1.map cdI.enc)), (2, .sl 1 (x2.map (cdL 1 (cdL 1 cdI)).enc))] [] (by kernel_rfl) ?_
    exact RunS.done rfl (Wk.fr (by kernel_rfl))
  refine Sem.seq ?_
  refine Sem.block ?_
  refine Sem.seq ?_
  obtain ⟨v1, hv1, h⟩ := Option.bind_eq_some_iff.1 h
  obtain ⟨j4, hj4, h⟩ := Option.bind_eq_some_iff.1 h
  refine Sem.runS (s1 := ⟨Fr 46 [(0, .v (.int .i64 x0)), (1, .sl 1 (x1.map cdI.enc)), (2, .sl 1 (x2.map (cdL 1 (cdL 1 cdI)).enc)), (11, .v (.bool j4))], []⟩) ?_ ?_
  · refine RunS.segF (n := 46) e_evening_Check_ok 1 [(0, .v (.int .i64 x0)), (1, .sl 1 (x1.map cdI.enc)), (2, .sl 1 (x2.map (cdL 1 (cdL 1 cdI)).enc)), (12, .v (.int .i64 x0))] [] (by kernel_rfl) ?_
    refine RunS.call e_evening_Check_ok (fid := 34) (s := cs_evening_guests) (F := fun a => evening_guests a.1) (er := er_evening_guests) (xs := [.v (.int .i64 x0)]) (a := (x0, ())) rfl (wantedA_none rfl) (by kernel_rfl) (by kernel_rfl) (by kernel_rfl) (by kernel_rfl) (Sns.cons (Sn.enc (c := cdI) (v := x0)) Sns.nil) (.inl (by kernel_rfl)) hv1 ?_
    refine RunS.segF (n := 46) e_evening_Check_ok 2 [(0, .v (.int .i64 x0)), (1, .sl 1 (x1.map cdI.enc)), (2, .sl 1 (x2.map (cdL 1 (cdL 1 cdI)).enc)), (15, .v (.bool (!v1)))] [] (by kernel_rfl) ?_
    rcases Bool.eq_false_or_eq_true (!v1) with hc17 | hc17
    · rw [if_pos hc17] at hj4
      rw [hc17]
      refine RunS.segF (n := 46) e_evening_Check_ok 11 [(0, .v (.int .i64 x0)), (1, .sl 1 (x1.map cdI.enc)), (2, .sl 1 (x2.map (cdL 1 (cdL 1 cdI)).enc)), (11, .v (.bool true))] [] (by kernel_rfl) ?_
      have hq := Option.some.inj hj4; subst hq
      exact RunS.done rfl (Wk.fr (by kernel_rfl))
    · rw [if_f hc17] at hj4
      rw [hc17]
      refine RunS.segF (n := 46) e_evening_Check_ok 1 [(0, .v (.int .i64 x0)), (1, .sl 1 (x1.map cdI.enc)), (2, .sl 1 (x2.map (cdL 1 (cdL 1 cdI)).enc)), (15, .v (.bool false)), (16, .sl 1 (x1.map cdI.enc))] [] (by kernel_rfl) ?_
      refine RunS.one e_evening_Check_ok 0 rfl (op_q (by kernel_rfl) rfl (q_len (a := .sl 1 (x1.map cdI.enc)) (by kernel_rfl) (len_sl (el := 3) (by kernel_rfl)))) ?_
      refine RunS.segF (n := 46) e_evening_Check_ok 2 [(0, .v (.int .i64 x0)), (1, .sl 1 (x1.map cdI.enc)), (2, .sl 1 (x2.map (cdL 1 (cdL 1 cdI)).enc)), (15, .v (.bool false)), (19, .v (.bool (decide ((x1.length : Int) > 0))))] [] (by kernel_rfl) ?_
      rcases Bool.eq_false_or_eq_true (decide ((x1.length : Int) > 0)) with hc18 | hc18
      · rw [if_pos hc18] at hj4
        rw [hc18]
        refine RunS.segF (n := 46) e_evening_Check_ok 2 [(0, .v (.int .i64 x0)), (1, .sl 1 (x1.map cdI.enc)), (2, .sl 1 (x2.map (cdL 1 (cdL 1 cdI)).enc)), (15, .v (.bool false)), (19, .v (.bool true)), (20, .v (.int .i64 x0)), (21, .sl 1 (x1.map cdI.enc))] [] (by kernel_rfl) ?_
        obtain ⟨v2, hv2, hj4⟩ := Option.bind_eq_some_iff.1 hj4
        refine RunS.call e_evening_Check_ok (fid := 40) (s := cs_evening_fit) (F := fun a => evening_fit a.1 a.2.1) (er := er_evening_fit) (xs := [.v (.int .i64 x0), .sl 1 (x1.map cdI.enc)]) (a := (x0, x1, ())) rfl (by kernel_rfl) (by kernel_rfl) (by kernel_rfl) (by kernel_rfl) (by kernel_rfl) (Sns.cons (Sn.enc (c := cdI) (v := x0)) (Sns.cons (Sn.enc (c := (cdL 1 cdI)) (v := x1)) Sns.nil)) (.inl (by kernel_rfl)) hv2 ?_
        refine RunS.segF (n := 46) e_evening_Check_ok 4 [(0, .v (.int .i64 x0)), (1, .sl 1 (x1.map cdI.enc)), (2, .sl 1 (x2.map (cdL 1 (cdL 1 cdI)).enc)), (11, .v (.bool (!v2)))] [] (by kernel_rfl) ?_
        have hq := Option.some.inj hj4; subst hq
        exact RunS.done rfl (Wk.fr (by kernel_rfl))
      · rw [if_f hc18] at hj4
        rw [hc18]
        refine RunS.segF (n := 46) e_evening_Check_ok 7 [(0, .v (.int .i64 x0)), (1, .sl 1 (x1.map cdI.enc)), (2, .sl 1 (x2.map (cdL 1 (cdL 1 cdI)).enc)), (11, .v (.bool false))] [] (by kernel_rfl) ?_
        have hq := Option.some.inj hj4; subst hq
        exact RunS.done rfl (Wk.fr (by kernel_rfl))
  refine Sem.cond (b := j4) (by kernel_rfl) (fun hb5 => ?_) (fun hb5 => ?_)
  · rw [if_pos hb5] at h
    refine Sem.seq ?_
    refine Sem.runS (s1 := ⟨Fr 46 [(6, .v (.int .i64 0)), (7, .v (.int .i64 90))], []⟩) ?_ ?_
    · refine RunS.segF (n := 46) e_evening_Check_ok 2 [(6, .v (.int .i64 0)), (7, .v (.int .i64 90))] [] (by kernel_rfl) ?_
      exact RunS.done rfl (Wk.fr (by kernel_rfl))
    refine Sem.ret ?_
    have hq := Option.some.inj h; subst hq
    exact ⟨⟨Fr 46 [(6, .v (.int .i64 0)), (7, .v (.int .i64 90))], []⟩, (Wk.fr (by kernel_rfl)), .inr rfl, [.v (.int .i64 0), .v (.int .i64 90)], (by kernel_rfl), (by kernel_rfl)⟩
  · rw [if_f hb5] at h
    refine Sem.seq ?_
    refine Sem.runS (s1 := ⟨Fr 46 [(0, .v (.int .i64 x0)), (1, .sl 1 (x1.map cdI.enc)), (2, .sl 1 (x2.map (cdL 1 (cdL 1 cdI)).enc)), (26, .v (.bool (decide ((x2.length : Int) > 64))))], []⟩) ?_ ?_
    · refine RunS.segF (n := 46) e_evening_Check_ok 1 [(0, .v (.int .i64 x0)), (1, .sl 1 (x1.map cdI.enc)), (2, .sl 1 (x2.map (cdL 1 (cdL 1 cdI)).enc)), (27, .sl 1 (x2.map (cdL 1 (cdL 1 cdI)).enc))] [] (by kernel_rfl) ?_
      refine RunS.one e_evening_Check_ok 0 rfl (op_q (wantedA_none rfl) rfl (q_len (a := .sl 1 (x2.map (cdL 1 (cdL 1 cdI)).enc)) (by kernel_rfl) (len_sl (el := 36) (by kernel_rfl)))) ?_
      refine RunS.segF (n := 46) e_evening_Check_ok 2 [(0, .v (.int .i64 x0)), (1, .sl 1 (x1.map cdI.enc)), (2, .sl 1 (x2.map (cdL 1 (cdL 1 cdI)).enc)), (26, .v (.bool (decide ((x2.length : Int) > 64))))] [] (by kernel_rfl) ?_
      exact RunS.done rfl (Wk.fr (by kernel_rfl))
    refine Sem.cond (b := (decide ((x2.length : Int) > 64))) (by kernel_rfl) (fun hb6 => ?_) (fun hb6 => ?_)
    · rw [if_pos hb6] at h
      refine Sem.seq ?_
      refine Sem.runS (s1 := ⟨Fr 46 [(6, .v (.int .i64 0)), (7, .v (.int .i64 7))], []⟩) ?_ ?_
      · refine RunS.segF (n := 46) e_evening_Check_ok 2 [(6, .v (.int .i64 0)), (7, .v (.int .i64 7))] [] (by kernel_rfl) ?_
        exact RunS.done rfl (Wk.fr (by kernel_rfl))
      refine Sem.ret ?_
      have hq := Option.some.inj h; subst hq
      exact ⟨⟨Fr 46 [(6, .v (.int .i64 0)), (7, .v (.int .i64 7))], []⟩, (Wk.fr (by kernel_rfl)), .inr rfl, [.v (.int .i64 0), .v (.int .i64 7)], (by kernel_rfl), (by kernel_rfl)⟩
    · rw [if_f hb6] at h
      refine Sem.skip ?_
      refine Sem.seq ?_
      refine Sem.seq ?_
      refine Sem.runS (s1 := ⟨Fr 46 [(0, .v (.int .i64 x0)), (1, .sl 1 (x1.map cdI.enc)), (30, .sl 1 (x2.map (cdL 1 (cdL 1 cdI)).enc)), (31, .v (.int .i64 (x2.length : Int))), (32, .v (.int .i64 0))], []⟩) ?_ ?_
      · refine RunS.segF (n := 46) e_evening_Check_ok 1 [(0, .v (.int .i64 x0)), (1, .sl 1 (x1.map cdI.enc)), (30, .sl 1 (x2.map (cdL 1 (cdL 1 cdI)).enc))] [] (by kernel_rfl) ?_
        refine RunS.one e_evening_Check_ok 0 rfl (op_q (wantedA_none rfl) rfl (q_len (a := .sl 1 (x2.map (cdL 1 (cdL 1 cdI)).enc)) (by kernel_rfl) (len_sl (el := 36) (by kernel_rfl)))) ?_
        refine RunS.segF (n := 46) e_evening_Check_ok 1 [(0, .v (.int .i64 x0)), (1, .sl 1 (x1.map cdI.enc)), (30, .sl 1 (x2.map (cdL 1 (cdL 1 cdI)).enc)), (31, .v (.int .i64 (x2.length : Int))), (32, .v (.int .i64 0))] [] (by kernel_rfl) ?_
        exact RunS.done rfl (Wk.fr (by kernel_rfl))
      refine Sem.block ?_
      obtain ⟨r14, hr14, h⟩ := Option.bind_eq_some_iff.1 h
      refine Sem.loop (n := 100000) ?_
      rcases r14 with w15 | w16
      · try dsimp only at h
        refine Sem.cutN (SemN.wk (s1 := ⟨Fr 46 [(0, .v (.int .i64 x0)), (1, .sl 1 (x1.map cdI.enc)), (30, .sl 1 (x2.map (cdL 1 (cdL 1 cdI)).enc)), (31, .v (.int .i64 (x2.length : Int))), (32, .v (.int .i64 0))], []⟩) (Wk.fr (by kernel_rfl)) (evening_Check_1_ok x0 x1 x2 _ 0 _ hr14)) ?_
        refine Sem.seq ?_
        refine Sem.runS (s1 := ⟨Fr 46 [(6, .v (.int .i64 0)), (7, .v (.int .i64 0))], []⟩) ?_ ?_
        · refine RunS.segF (n := 46) e_evening_Check_ok 2 [(6, .v (.int .i64 0)), (7, .v (.int .i64 0))] [] (by kernel_rfl) ?_
          exact RunS.done rfl (Wk.fr (by kernel_rfl))
        refine Sem.ret ?_
        have hq := Option.some.inj h; subst hq
        exact ⟨⟨Fr 46 [(6, .v (.int .i64 0)), (7, .v (.int .i64 0))], []⟩, (Wk.fr (by kernel_rfl)), .inr rfl, [.v (.int .i64 0), .v (.int .i64 0)], (by kernel_rfl), (by kernel_rfl)⟩
      · try dsimp only at h
        refine Sem.cutN (SemN.wk (s1 := ⟨Fr 46 [(0, .v (.int .i64 x0)), (1, .sl 1 (x1.map cdI.enc)), (30, .sl 1 (x2.map (cdL 1 (cdL 1 cdI)).enc)), (31, .v (.int .i64 (x2.length : Int))), (32, .v (.int .i64 0))], []⟩) (Wk.fr (by kernel_rfl)) (evening_Check_1_ok x0 x1 x2 _ 0 _ hr14)) ?_
        have hq := Option.some.inj h; subst hq
        exact ⟨⟨Fr 46 [(6, .v (.int .i64 w16.1)), (7, .v (.int .i64 w16.2))], []⟩, (Wk.fr (by kernel_rfl)), .inr rfl, [.v (.int .i64 w16.1), .v (.int .i64 w16.2)], (by kernel_rfl), (by kernel_rfl)⟩
def t_evening_Check : List AV → Option AV := told cs_evening_Check (fun a => evening_Check a.1 a.2.1 a.2.2.1) er_evening_Check
theorem x_evening_Check : XOk 11 t_evening_Check := by
  refine EnvOk.x (E := e_evening_Check) (contract_ok e_evening_Check_ok (fn := Tryd.f11) (c := cb_evening_Check) ?h1 ?h2 ⟨Tryd.call11⟩ cs_evening_Check (fun a => evening_Check a.1 a.2.1 a.2.2.1) er_evening_Check (fun a => (by show 3 ≤ 46; decide)) ?h3 ?h4) rfl rfl
  case h1 => kernel_rfl
  case h2 => kernel_rfl
  case h3 => intro b; kernel_rfl
  case h4 => exact fun a b h => evening_Check_sem a.1 a.2.1 a.2.2.1 b h
end Go.Proofs.YtnmkejapogklmaaDoor

namespace Go.Proofs.YtnmkejapogklmaaDoor
open Go.RowKit
/- trestle/evening.valid -/
noncomputable def e_evening_valid : Env := (E0.withX 11 t_evening_Check)
theorem e_evening_valid_ok : EnvOk e_evening_valid := (EnvOk.withX E0_ok x_evening_Check.1 x_evening_Check.2)
noncomputable def cb_evening_valid : Code := codeOf Tryd.f43
def evening_valid (x0 : Int) (x1 : (List (List (List Int)))) : Option (Bool) :=
  (evening_Check x0 [] x1).bind fun v1 =>
  some (v1.2 == 0)
def cs_evening_valid : Cs (Int × (List (List (List Int))) × Unit) := (csC cdI (csC (cdL 1 (cdL 1 (cdL 1 cdI))) csN))
def er_evening_valid (r : Bool) : AV := cdB.enc r
set_option maxHeartbeats 4000000 in
set_option maxRecDepth 100000 in
theorem evening_valid_sem (x0 : Int) (x1 : (List (List (List Int)))) (r : Bool) (h : evening_valid x0 x1 = some r) : Sem e_evening_valid ⟨none, false⟩ cb_evening_valid ⟨Fr 15 (pairs0 0 (cs_evening_valid.enc (x0, x1, ()))), []⟩ fun e s' => (e = .normal ∨ e = .ret) ∧ ∃ xs, resA e_evening_valid.P s'.fr s'.hp Tryd.f43.results.toList = some xs ∧ retA xs = er_evening_valid r := by
  unfold evening_valid at h
  refine Sem.wkQ (Sem.wk (s1 := ⟨Fr 15 [(0, .v (.int .i64 x0)), (1, .sl 1 (x1.map (cdL 1 (cdL 1 cdI)).enc))], []⟩) (Wk.fr (by kernel_rfl)) ?_)
  refine Sem.seq ?_
  refine Sem.runS (s1 := ⟨Fr 15 [(0, .v (.int .i64 x0)), (1, .sl 1 (x1.map (cdL 1 (cdL 1 cdI)).enc))], []⟩) ?_ ?_
  · refine RunS.segF (n := 15) e_evening_valid_ok 1 [(0, .v (.int .i64 x0)), (1, .sl 1 (x1.map (cdL 1 (cdL 1 cdI)).enc))] [] (by kernel_rfl) ?_
    exact RunS.done rfl (Wk.fr (by kernel_rfl))
  refine Sem.seq ?_
  obtain ⟨v1, hv1, h⟩ := Option.bind_eq_some_iff.1 h
  refine Sem.runS (s1 := ⟨Fr 15 [(6, .v (.int .i64 v1.2))], []⟩) ?_ ?_
  · refine RunS.segF (n := 15) e_evening_valid_ok 2 [(8, .v (.int .i64 x0)), (9, .sl 1 (x1.map (cdL 1 (cdL 1 cdI)).enc))] [] (by kernel_rfl) ?_
    refine RunS.call e_evening_valid_ok (fid := 11) (s := cs_evening_Check) (F := fun a => evening_Check a.1 a.2.1 a.2.2.1) (er := er_evening_Check) (xs := [.v (.int .i64 x0), .e0, .sl 1 (x1.map (cdL 1 (cdL 1 cdI)).enc)]) (a := (x0, [], x1, ())) rfl (wantedA_none rfl) (by kernel_rfl) (by kernel_rfl) (by kernel_rfl) (by kernel_rfl) (Sns.cons (Sn.enc (c := cdI) (v := x0)) (Sns.cons Sn.e0 (Sns.cons (Sn.enc (c := (cdL 1 (cdL 1 (cdL 1 cdI)))) (v := x1)) Sns.nil))) (.inl (by kernel_rfl)) hv1 ?_
    refine RunS.segF (n := 15) e_evening_valid_ok 5 [(6, .v (.int .i64 v1.2))] [] (by kernel_rfl) ?_
    exact RunS.done rfl (Wk.fr (by kernel_rfl))
  refine Sem.seq ?_
  refine Sem.runS (s1 := ⟨Fr 15 [(4, .v (.bool (v1.2 == 0)))], []⟩) ?_ ?_
  · refine RunS.segF (n := 15) e_evening_valid_ok 3 [(4, .v (.bool (v1.2 == 0)))] [] (by kernel_rfl) ?_
    exact RunS.done rfl (Wk.fr (by kernel_rfl))
  refine Sem.ret ?_
  have hq := Option.some.inj h; subst hq
  exact ⟨⟨Fr 15 [(4, .v (.bool (v1.2 == 0)))], []⟩, (Wk.fr (by kernel_rfl)), .inr rfl, [.v (.bool (v1.2 == 0))], (by kernel_rfl), (by kernel_rfl)⟩
def t_evening_valid : List AV → Option AV := told cs_evening_valid (fun a => evening_valid a.1 a.2.1) er_evening_valid
theorem x_evening_valid : XOk 43 t_evening_valid := by
  refine EnvOk.x (E := e_evening_valid) (contract_ok e_evening_valid_ok (fn := Tryd.f43) (c := cb_evening_valid) ?h1 ?h2 ⟨Tryd.call43⟩ cs_evening_valid (fun a => evening_valid a.1 a.2.1) er_evening_valid (fun a => (by show 2 ≤ 15; decide)) ?h3 ?h4) rfl rfl
  case h1 => kernel_rfl
  case h2 => kernel_rfl
  case h3 => intro b; kernel_rfl
  case h4 => exact fun a b h => evening_valid_sem a.1 a.2.1 b h
end Go.Proofs.YtnmkejapogklmaaDoor

namespace Go.Proofs.YtnmkejapogklmaaDoor
open Go.RowKit
set_option linter.unusedSimpArgs false
set_option linter.unusedVariables false

set_option maxRecDepth 100000 in
theorem atZ_ok (n x y : Int) (a0 : Addr) (L c : Nat) (w : World) (hn : 0 ≤ n ∧ n ≤ 64) (hx : 0 ≤ x ∧ x < n) (hy : 0 ≤ y ∧ y < n) (hl : x * n + y < (L : Int)) : Ret Tryd.prog 49 #[.agg #[.int .i64 n, .slice (some a0) L c], .int .i64 x, .int .i64 y] w fun v w' => w.grownBy w' none ∧ v = .pointer (some (Addr.add a0 ((x * n + y).toNat * 1))) := by
  refine ret_in Tryd.func49 rfl rfl rfl ?_
  have pw := pu_refl w
  have h1 := mul_bd hx.1 (show x ≤ n - 1 by omega) hn.1 (Int.le_refl n)
  rw [Int.sub_mul, Int.one_mul] at h1
  have h2 := mul_bd hn.1 hn.2 hn.1 hn.2
  refine wc_seq ?_
  refine wc_region ?_
  refine wl_boxG (cs := [.int .i64 (n), .slice (some a0) L c]) rfl rfl ?_
  intro w2 g1 hg3 hs4 hb5 hn6
  have pw := pu_trans pw hn6
  refine wl_v (st_assign (v := .pointer none) rfl) rfl rfl rfl ?_
  refine wl_nil ?_
  refine wq_then ?_
  refine wc_seq ?_
  refine wc_region ?_
  refine wl_v (st_fieldAddr ty65 (ft := 29) (off := 1) (by kernel_rfl) ty29 rfl) rfl rfl rfl ?_
  refine wl_v (st_load (v := .slice (some a0) L c) ty29 rfl rfl (Bk.cell hb5 (i := 1) rfl)) rfl rfl rfl ?_
  refine wl_v (st_move (v := .int .i64 (x)) rfl) rfl rfl rfl ?_
  refine wl_v (st_fieldAddr ty65 (ft := 3) (off := 0) (by kernel_rfl) ty3 rfl) rfl rfl rfl ?_
  refine wl_v (st_load (v := .int .i64 (n)) ty3 rfl rfl (Bk.cell hb5 (i := 0) rfl)) rfl rfl rfl ?_
  refine wl_v (st_mul rfl rfl (by omega) (by omega)) rfl rfl rfl ?_
  refine wl_v (st_move (v := .int .i64 (y)) rfl) rfl rfl rfl ?_
  refine wl_v (st_add rfl rfl (by omega) (by omega)) rfl rfl rfl ?_
  refine wl_v (st_indexAddr ((x * n) + y).toNat ty29 ty3 rfl rfl (by omega) (by omega)) rfl rfl rfl ?_
  refine wl_v (st_assign (v := .pointer (some (Addr.add a0 (((x * n) + y).toNat * 1)))) rfl) rfl rfl rfl ?_
  refine wl_nil ?_
  refine wq_then ?_
  refine wc_ret ?_
  refine wq_ret1 (v := .pointer (some (Addr.add a0 (((x * n) + y).toNat * 1)))) rfl rfl rfl ?_
  exact ⟨pw, rfl⟩

end Go.Proofs.YtnmkejapogklmaaDoor

namespace Go.Proofs.YtnmkejapogklmaaDoor
open Go.RowKit
/-- What is told of a function that only looks: the frozen memory is that of before. -/
def POk (f : FuncId) (g : List AV → Option AV) : Prop := Callable E0.P f ∧ ∀ xs x, g xs = some x → ∀ w Z us, (∀ c, Z c → c < w.heap.size) → VRs w Z [] xs us → Ret E0.P f us.toArray w fun v w' => w.grownBy w' none ∧ VR w' Z [] x v
theorem vr_nil {w : World} {Z : Nat → Prop} {R : List RI} {x : AV} {v : Value} (hv : VR w Z [] x v) (hnx : noRf x = true) : VR w Z R x v := by
  cases hv with
  | v h => exact .v h
  | st h hn => exact .st h hn
  | e0 => exact .e0
  | sl hn hl hc hm ha hx => exact .sl hn hl hc hm ha hx
  | pe hs h3 h1 hu hx => exact .pe hs h3 h1 hu hx
  | _ => simp [noRf] at hnx
section
variable {E : Env} {ops : Array Oper} {rest rest' : List Oper} {K : St → Prop} {n n0 k : Nat} {l : List (Nat × AV)} {hp : Hp}
theorem RunDS.peek (hP : E.P = E0.P) {α β : Type} {s : Cs α} {F : α → Option β} {er : β → AV} {u : α} {v : β} {fid : FuncId} (hX : POk fid (told s F er)) {d : Nat} {f : Operand} {args : Array Operand} {tys : Array TypeId} {ty : TypeId} {pos : String} {af : Array Edge} {g : Option (Nat × Bool)} (hr : rest = ⟨some d, .call ⟨.value f, args, tys⟩, ty, pos, af, g⟩ :: rest') (hw : wantedA ops (Fr n l) ⟨some d, .call ⟨.value f, args, tys⟩, ty, pos, af, g⟩ = some true)
    (hf : opA E (Fr n l) f = some (.fn fid [] [])) (ha : opds (opA E (Fr n l)) args.toList = some (s.enc u)) (hnx : noRf (er v) = true) (hF : F u = some v) (kk : RunDS E ops n0 (k + 1) rest' ⟨Fr n ((d, er v) :: l), hp⟩ K) : RunDS E ops n0 k rest ⟨Fr n l, hp⟩ K := by
  subst hr
  intro base Q w0 Z R0 h0 a w R hh0 hn0 hT sr hgr st hpre hTk hlen hops q
  have hok : ops[k]? = some ⟨some d, .call ⟨.value f, args, tys⟩, ty, pos, af, g⟩ := by have := hops 0; simpa using this.symm
  have hops' : ∀ j, rest'[j]? = ops[k + 1 + j]? := fun j => by have := hops (j + 1); simpa [Nat.add_assoc, Nat.add_comm 1 j] using this
  have hlen' : k + 1 + rest'.length = ops.size := by simp at hlen ⊢; omega
  have hTk' : tailAt ops = tailGo rest' (k + 1) := by
    rw [hTk]
    conv => lhs; unfold tailGo; rw [if_neg (by simp [isW])]
  refine ⟨fun _ => hgr, ?_⟩
  rw [if_pos (wantedA_eq sr hw)]
  have hq : isQ (.call ⟨.value f, args, tys⟩ : Op) = false := rfl
  rw [if_pos (by simp [hok, hq])]
  have hρ : ∀ o x, opA E (Fr n l) o = some x → VR w Z R x (a.eval o) := fun o x e => opA_vr sr o x e
  have hva : a.eval f = .func (.func fid) #[] #[] := by
    have := hρ _ _ hf
    generalize a.eval f = vf at this
    cases this with
    | fn hl hl' hx hy =>
      rename_i u1 u2
      have e1 : u1 = [] := by simpa using hl
      have e2 : u2 = [] := by simpa using hl'
      subst e1 e2; rfl
  have hcl : Callable E.P fid := hP ▸ hX.1
  unfold Lw
  rw [run_call (uf := []) (uc := []) rfl hva rfl hcl w]
  simp only [List.nil_append, List.append_nil]
  have hret := hX.2 (s.enc u) (er v) (told_enc hF) w Z _ sr.hh.zlt (noRfs_vr (s.nr u) (opds_vr hρ ha))
  rw [← hP] at hret
  refine Ret.mono hret fun v w' ⟨hg1, hv⟩ => ?_
  have stp : Step w Z R hp w' Z R hp := ⟨hg1.os, hg1.tape, hg1.output, hg1.size, fun c hc _ => hg1.block c hc (by simp), fun _ h => .inl h, fun _ h => h, fun _ h => .inl h, fun _ _ h => h⟩
  have hh' : HR w' Z R hp := sr.hh.keep hg1.size (fun c hc => hg1.block c hc (by simp))
  have sr' : SR E base w' Z R ⟨Fr n l, hp⟩ a := sr.step hh' stp
  exact kk base Q w0 Z R0 h0 _ w' R hh0 hn0 hT (by have := sr'.put (d := some d) (vr_nil hv hnx); rwa [putA_Fr] at this) (pu_trans hgr hg1) (st.trans stp) hpre hTk' hlen' hops' q
end
end Go.Proofs.YtnmkejapogklmaaDoor

namespace Go.Proofs.YtnmkejapogklmaaDoor
open Go.RowKit
def square_at (s : Int × List Int) (x y : Int) : Option Int := if 0 ≤ s.1 ∧ s.1 ≤ 64 ∧ 0 ≤ x ∧ x < s.1 ∧ 0 ≤ y ∧ y < s.1 then idx s.2 (x * s.1 + y) else none
def cs_square_at : Cs ((Int × List Int) × Int × Int × Unit) := (csC (cdG2 cdI (cdL 1 cdI) (fun _ => rfl) (fun _ => rfl)) (csC cdI (csC cdI csN)))
def er_square_at (r : Int) : AV := .pe (cdI.enc r) 0
theorem x_square_at : POk 49 (told cs_square_at (fun a => square_at a.1 a.2.1 a.2.2.1) er_square_at) := by
  refine ⟨⟨Tryd.call49⟩, fun xs x h w Z us hz hv => ?_⟩
  obtain ⟨⟨⟨n, cells⟩, p, q, u⟩, ha, hh⟩ := Option.bind_eq_some_iff.1 h
  obtain ⟨r, hb, rfl⟩ := Option.map_eq_some_iff.1 hh
  clear h hh
  replace hv := cs_square_at.vr ha hv
  clear ha
  obtain ⟨u1, r1, rfl, h1, hv1⟩ := hv.head
  obtain ⟨u2, r2, rfl, h2, hv2⟩ := hv1.head
  obtain ⟨u3, r3, rfl, h3, hv3⟩ := hv2.head
  have hr3 : r3 = [] := List.eq_nil_of_length_eq_zero hv3.len
  subst hr3
  clear hv hv1 hv2 hv3
  rw [h2.v_inv, h3.v_inv]
  simp only [square_at] at hb
  split at hb
  · next hc =>
    obtain ⟨c1, c2, c3, c4, c5, c6⟩ := hc
    have hi : 0 ≤ p * n + q := Int.add_nonneg (Int.mul_nonneg c3 c1) c5
    unfold idx at hb
    rw [if_pos hi] at hb
    obtain ⟨hlt, hge⟩ := List.getElem?_eq_some_iff.1 hb
    cases h1 with
    | ag hl hh hx =>
      rename_i us
      match us, hl, hx with
      | [v1, v2], hl0, hx0 =>
        have e1 := (hx0 0 _ v1 rfl rfl).v_inv
        have e2 : VR w Z [] (.sl 1 (cells.map cdI.enc)) v2 := hx0 1 _ v2 rfl rfl
        clear hx0 hl0
        rw [e1]
        cases e2 with
        | sl hn hl hc hm ha hx =>
          rename_i c n' A us
          rw [List.length_map] at hn hl
          obtain ⟨a, h1, h2, h3, h4⟩ := ha (by omega)
          have hus : (p * n + q).toNat < us.length := by omega
          have hu := List.getElem?_eq_getElem hus
          have e3 := (hx _ (cdI.enc cells[(p * n + q).toNat]) _ (by rw [List.getElem?_map, List.getElem?_eq_getElem hlt]; rfl) hu).v_inv
          rw [hge] at e3
          have h5 := (h4 _ _ hu).2.2 0 (.int .i64 r) (by rw [e3]; rfl)
          subst h1
          have hblk := hz _ h3
          refine Ret.mono (atZ_ok n p q a n' c w ⟨c1, c2⟩ ⟨c3, c4⟩ ⟨c5, c6⟩ (by omega)) fun v w' ⟨hg, hv⟩ => ⟨hg, ?_⟩
          subst hv
          have ea : a.add ((p * n + q).toNat * 1) = ⟨a.block, a.off + (p * n + q).toNat + 0, none⟩ := by
            cases a
            simp only at h2
            subst h2
            simp [Addr.add]
          rw [ea]
          refine .pe (a := ⟨a.block, a.off + (p * n + q).toNat, none⟩) (u := .int .i64 r) rfl h3 (fun s hs => ?_) (fun j s hs => ?_) (.v rfl)
          · have : s = .int .i64 r := by simpa [Value.cells] using hs
            rw [this]; rfl
          · match j, hs with
            | 0, hs =>
              have hs' : s = .int .i64 r := by simpa [Value.cells] using hs.symm
              subst hs'
              have h6 : w.cell? ⟨a.block, a.off + (p * n + q).toNat + 0, none⟩ = some (.int .i64 r) := by
                simpa using h5
              have h7 : w'.cell? ⟨a.block, a.off + (p * n + q).toNat + 0, none⟩ = w.cell? ⟨a.block, a.off + (p * n + q).toNat + 0, none⟩ := World.cell?_of_block (hg.block _ hblk (by simp))
              exact h7.trans h6
            | j + 1, hs => simp [Value.cells] at hs
  · cases hb
end Go.Proofs.YtnmkejapogklmaaDoor

namespace Go.Proofs.YtnmkejapogklmaaDoor
open Go.RowKit
/- trestle/evening.meetings -/
noncomputable def e_evening_meetings : Env := E0
theorem e_evening_meetings_ok : EnvOk e_evening_meetings := E0_ok
noncomputable def cb_evening_meetings : Code := codeOf Tryd.f46

noncomputable def e_evening_meetings_k1 : Env := E0
theorem e_evening_meetings_k1_ok : EnvOk e_evening_meetings_k1 := E0_ok
noncomputable def cb_evening_meetings_k1 : Code := codeOf Tryd.f48
def evening_meetings_k1 (y0 : Int) (y1 : Int) : Option (Int × Int × (List Int)) :=
  if (mkOk 8 (wr .i64 (y1 * y1))) = true then
  some (y1, y1, (List.replicate (wr .i64 (y1 * y1)).toNat (0 : Int)))
  else none
set_option maxHeartbeats 4000000 in
set_option maxRecDepth 100000 in
theorem evening_meetings_k1_sem (y0 : Int) (y1 : Int) (r : Int × Int × (List Int)) (h : evening_meetings_k1 y0 y1 = some r) : SemY e_evening_meetings_k1 ⟨none, false⟩ cb_evening_meetings_k1 ⟨Fr 9 (pairs0 0 [.v (.int .i64 y1)]), [some ⟨2, 65, [.ag [.v (.int .i64 y0), .e0]], false⟩]⟩ fun x s' => (x = .normal ∨ x = .ret) ∧ ∃ ys, resA e_evening_meetings_k1.P s'.fr s'.hp Tryd.f48.results.toList = some ys ∧ (retA ys = .ag [.v (.int .i64 r.1), .rf 2 0 r.2.2.length r.2.2.length] ∧ s'.hp = [some ⟨2, 65, [.ag [.v (.int .i64 y0), .e0]], false⟩, some ⟨2, 65, [.ag [.v (.int .i64 r.2.1), .rf 2 0 r.2.2.length r.2.2.length]], false⟩, some ⟨1, 3, (r.2.2.map cdI.enc), false⟩]) := by
  unfold evening_meetings_k1 at h
  refine SemY.seq ?_
  refine SemY.region ?_
  refine RunY.segF (n := 9) e_evening_meetings_k1_ok 1 [(0, .v (.int .i64 y1)), (2, .pt 1 0 0)] [some ⟨2, 65, [.ag [.v (.int .i64 y0), .e0]], false⟩, some ⟨2, 65, [.ag [.v (.int .i64 0), .e0]], false⟩] (by kernel_rfl) ?_
  refine RunY.done rfl (SemY.fr (l' := [(0, .v (.int .i64 y1)), (2, .pt 1 0 0)]) (by kernel_rfl) ?_)
  refine SemY.seq ?_
  refine SemY.region ?_
  refine RunY.segF (n := 9) e_evening_meetings_k1_ok 4 [(2, .pt 1 0 0), (3, .v (.int .i64 y1)), (6, .v (.int .i64 (wr .i64 (y1 * y1))))] [some ⟨2, 65, [.ag [.v (.int .i64 y0), .e0]], false⟩, some ⟨2, 65, [.ag [.v (.int .i64 0), .e0]], false⟩] (by kernel_rfl) ?_
  by_cases hk1 : (mkOk 8 (wr .i64 (y1 * y1))) = true
  case neg => rw [if_neg hk1] at h; cases h
  rw [if_pos hk1] at h
  refine RunY.one e_evening_meetings_k1_ok 0 rfl (op_n (wantedA_none rfl) rfl (by kernel_rfl) (n_make (x := .v (.int .i64 (wr .i64 (y1 * y1)))) (y := .v (.int .i64 (wr .i64 (y1 * y1)))) (by kernel_rfl) (by kernel_rfl) (make_B (c := cdI) (z := (0 : Int)) (k := 1) (bytes := 8) (el := 3) (by kernel_rfl) (by kernel_rfl) hk1))) ?_
  refine RunY.segF (n := 9) e_evening_meetings_k1_ok 2 [(2, .pt 1 0 0)] [some ⟨2, 65, [.ag [.v (.int .i64 y0), .e0]], false⟩, some ⟨2, 65, [.ag [.v (.int .i64 y1), .rf 2 0 (List.replicate (wr .i64 (y1 * y1)).toNat (0 : Int)).length (List.replicate (wr .i64 (y1 * y1)).toNat (0 : Int)).length]], false⟩, some ⟨1, 3, ((List.replicate (wr .i64 (y1 * y1)).toNat (0 : Int)).map cdI.enc), false⟩] (by kernel_rfl) ?_
  refine RunY.done rfl (SemY.fr (l' := [(2, .pt 1 0 0)]) (by kernel_rfl) ?_)
  refine SemY.ret ?_
  have hq := Option.some.inj h; subst hq
  exact ⟨.inr rfl, [.ag [.v (.int .i64 y1), .rf 2 0 (List.replicate (wr .i64 (y1 * y1)).toNat (0 : Int)).length (List.replicate (wr .i64 (y1 * y1)).toNat (0 : Int)).length]], (by kernel_rfl), (by kernel_rfl), (by kernel_rfl)⟩

noncomputable def e_evening_meetings_k2 : Env := E0
theorem e_evening_meetings_k2_ok : EnvOk e_evening_meetings_k2 := E0_ok
noncomputable def cb_evening_meetings_k2 : Code := codeOf Tryd.f67
def evening_meetings_k2 (y0 : Int) (y1 : Int) (y2 : (List Int)) (y3 : (List (List Int))) : Option ((List (List Int))) :=
  some y3
set_option maxHeartbeats 4000000 in
set_option maxRecDepth 100000 in
theorem evening_meetings_k2_sem (y0 : Int) (y1 : Int) (y2 : (List Int)) (y3 : (List (List Int))) (r : (List (List Int))) (h : evening_meetings_k2 y0 y1 y2 y3 = some r) : SemY e_evening_meetings_k2 ⟨none, false⟩ cb_evening_meetings_k2 ⟨Fr 4 (pairs0 0 [.sl 1 (y3.map (cdL 1 cdI).enc)]), [some ⟨2, 65, [.ag [.v (.int .i64 y0), .e0]], false⟩, some ⟨2, 65, [.ag [.v (.int .i64 y1), .rf 2 0 y2.length y2.length]], false⟩, some ⟨1, 3, (y2.map cdI.enc), false⟩]⟩ fun x s' => (x = .normal ∨ x = .ret) ∧ ∃ ys, resA e_evening_meetings_k2.P s'.fr s'.hp Tryd.f67.results.toList = some ys ∧ (retA ys = .fn 76 [] [.pt 3 0 0] ∧ s'.hp = [some ⟨2, 65, [.ag [.v (.int .i64 y0), .e0]], false⟩, some ⟨2, 65, [.ag [.v (.int .i64 y1), .rf 2 0 y2.length y2.length]], false⟩, some ⟨1, 3, (y2.map cdI.enc), false⟩, some ⟨1, 36, [.sl 1 (r.map (cdL 1 cdI).enc)], false⟩]) := by
  unfold evening_meetings_k2 at h
  refine SemY.seq ?_
  refine SemY.region ?_
  refine RunY.segF (n := 4) e_evening_meetings_k2_ok 2 [(1, .pt 3 0 0)] [some ⟨2, 65, [.ag [.v (.int .i64 y0), .e0]], false⟩, some ⟨2, 65, [.ag [.v (.int .i64 y1), .rf 2 0 y2.length y2.length]], false⟩, some ⟨1, 3, (y2.map cdI.enc), false⟩, some ⟨1, 36, [.sl 1 (y3.map (cdL 1 cdI).enc)], false⟩] (by kernel_rfl) ?_
  refine RunY.done rfl (SemY.fr (l' := [(1, .pt 3 0 0)]) (by kernel_rfl) ?_)
  refine SemY.seq ?_
  refine SemY.region ?_
  refine RunY.segF (n := 4) e_evening_meetings_k2_ok 2 [(2, .fn 76 [] [.pt 3 0 0])] [some ⟨2, 65, [.ag [.v (.int .i64 y0), .e0]], false⟩, some ⟨2, 65, [.ag [.v (.int .i64 y1), .rf 2 0 y2.length y2.length]], false⟩, some ⟨1, 3, (y2.map cdI.enc), false⟩, some ⟨1, 36, [.sl 1 (y3.map (cdL 1 cdI).enc)], false⟩] (by kernel_rfl) ?_
  refine RunY.done rfl (SemY.fr (l' := [(2, .fn 76 [] [.pt 3 0 0])]) (by kernel_rfl) ?_)
  refine SemY.ret ?_
  have hq := Option.some.inj h; subst hq
  exact ⟨.inr rfl, [.fn 76 [] [.pt 3 0 0]], (by kernel_rfl), (by kernel_rfl), (by kernel_rfl)⟩

noncomputable def e_evening_meetings_k3 : Env := E0
theorem e_evening_meetings_k3_ok : EnvOk e_evening_meetings_k3 := E0_ok
noncomputable def cb_evening_meetings_k3 : Code := codeOf Tryd.f76
noncomputable def cx_evening_meetings_k3 (y4 : (List (List (List Int)))) (y5 : Int) (y6 : Int) : Cx := ⟨some ⟨4, Fr 32 [(4, .pt 0 0 0), (5, .pt 1 0 0), (12, .sl 1 (y4.map (cdL 1 (cdL 1 cdI)).enc)), (13, .v (.int .i64 y5)), (14, .v (.int .i64 y6)), (19, .fn 76 [] [.pt 3 0 0])], [20, 21], asgOf (pc cb_evening_meetings [1, 1, 0, 1, 0, 0, 1, 1, 0, 0, 1, 1, 0]), bdyOf (pc cb_evening_meetings [1, 1, 0, 1, 0, 0, 1, 1, 0, 0, 1, 1, 0])⟩, false⟩


noncomputable def e_evening_meetings_k3_y_k1 : Env := E0
theorem e_evening_meetings_k3_y_k1_ok : EnvOk e_evening_meetings_k3_y_k1 := E0_ok
noncomputable def cb_evening_meetings_k3_y_k1 : Code := codeOf Tryd.f49
def evening_meetings_k3_y_k1 (y0 : Int) (y1 : Int) (y2 : (List Int)) (y3 : (List (List Int))) (y4 : Int) (y5 : Int) (y6 : Int) : Option (Int) :=
  (idx y2 (wr .i64 ((wr .i64 (y5 * y4)) + y6))).bind fun v1 =>
  some y4
set_option maxHeartbeats 4000000 in
set_option maxRecDepth 100000 in
theorem evening_meetings_k3_y_k1_sem (y0 : Int) (y1 : Int) (y2 : (List Int)) (y3 : (List (List Int))) (y4 : Int) (y5 : Int) (y6 : Int) (r : Int) (h : evening_meetings_k3_y_k1 y0 y1 y2 y3 y4 y5 y6 = some r) : SemY e_evening_meetings_k3_y_k1 ⟨none, false⟩ cb_evening_meetings_k3_y_k1 ⟨Fr 16 (pairs0 0 [.ag [.v (.int .i64 y4), .rf 2 0 y2.length y2.length], .v (.int .i64 y5), .v (.int .i64 y6)]), [some ⟨2, 65, [.ag [.v (.int .i64 y0), .e0]], false⟩, some ⟨2, 65, [.ag [.v (.int .i64 y1), .rf 2 0 y2.length y2.length]], false⟩, some ⟨1, 3, (y2.map cdI.enc), false⟩, some ⟨1, 36, [.sl 1 (y3.map (cdL 1 cdI).enc)], false⟩, none]⟩ fun x s' => (x = .normal ∨ x = .ret) ∧ ∃ ys, resA e_evening_meetings_k3_y_k1.P s'.fr s'.hp Tryd.f49.results.toList = some ys ∧ (retA ys = .pt 2 ((wr .i64 ((wr .i64 (y5 * y4)) + y6)).toNat) 0 ∧ s'.hp = [some ⟨2, 65, [.ag [.v (.int .i64 y0), .e0]], false⟩, some ⟨2, 65, [.ag [.v (.int .i64 y1), .rf 2 0 y2.length y2.length]], false⟩, some ⟨1, 3, (y2.map cdI.enc), false⟩, some ⟨1, 36, [.sl 1 (y3.map (cdL 1 cdI).enc)], false⟩, none, some ⟨2, 65, [.ag [.v (.int .i64 r), .rf 2 0 y2.length y2.length]], false⟩]) := by
  unfold evening_meetings_k3_y_k1 at h
  refine SemY.seq ?_
  refine SemY.region ?_
  refine RunY.segF (n := 16) e_evening_meetings_k3_y_k1_ok 2 [(1, .v (.int .i64 y5)), (2, .v (.int .i64 y6)), (3, .pt 5 0 0)] [some ⟨2, 65, [.ag [.v (.int .i64 y0), .e0]], false⟩, some ⟨2, 65, [.ag [.v (.int .i64 y1), .rf 2 0 y2.length y2.length]], false⟩, some ⟨1, 3, (y2.map cdI.enc), false⟩, some ⟨1, 36, [.sl 1 (y3.map (cdL 1 cdI).enc)], false⟩, none, some ⟨2, 65, [.ag [.v (.int .i64 y4), .rf 2 0 y2.length y2.length]], false⟩] (by kernel_rfl) ?_
  refine RunY.done rfl (SemY.fr (l' := [(1, .v (.int .i64 y5)), (2, .v (.int .i64 y6)), (3, .pt 5 0 0)]) (by kernel_rfl) ?_)
  refine SemY.seq ?_
  refine SemY.region ?_
  refine RunY.segF (n := 16) e_evening_meetings_k3_y_k1_ok 8 [(8, .rf 2 0 y2.length y2.length), (14, .v (.int .i64 (wr .i64 ((wr .i64 (y5 * y4)) + y6))))] [some ⟨2, 65, [.ag [.v (.int .i64 y0), .e0]], false⟩, some ⟨2, 65, [.ag [.v (.int .i64 y1), .rf 2 0 y2.length y2.length]], false⟩, some ⟨1, 3, (y2.map cdI.enc), false⟩, some ⟨1, 36, [.sl 1 (y3.map (cdL 1 cdI).enc)], false⟩, none, some ⟨2, 65, [.ag [.v (.int .i64 y4), .rf 2 0 y2.length y2.length]], false⟩] (by kernel_rfl) ?_
  obtain ⟨v1, hv1, h⟩ := Option.bind_eq_some_iff.1 h
  refine RunY.one e_evening_meetings_k3_y_k1_ok 0 rfl (op_q (wantedA_none rfl) rfl (q_indexAddr (a := .rf 2 0 y2.length y2.length) (b := .v (.int .i64 (wr .i64 ((wr .i64 (y5 * y4)) + y6)))) (by kernel_rfl) (by kernel_rfl) (ix_rl (e := cdI.enc) (xs := y2) (t' := 3) (el := 3) (k := 1) (ki := .i64) (by kernel_rfl) (by kernel_rfl) (by kernel_rfl) hv1))) ?_
  refine RunY.segF (n := 16) e_evening_meetings_k3_y_k1_ok 1 [(6, .pt 2 ((wr .i64 ((wr .i64 (y5 * y4)) + y6)).toNat) 0)] [some ⟨2, 65, [.ag [.v (.int .i64 y0), .e0]], false⟩, some ⟨2, 65, [.ag [.v (.int .i64 y1), .rf 2 0 y2.length y2.length]], false⟩, some ⟨1, 3, (y2.map cdI.enc), false⟩, some ⟨1, 36, [.sl 1 (y3.map (cdL 1 cdI).enc)], false⟩, none, some ⟨2, 65, [.ag [.v (.int .i64 y4), .rf 2 0 y2.length y2.length]], false⟩] (by kernel_rfl) ?_
  refine RunY.done rfl (SemY.fr (l' := [(6, .pt 2 ((wr .i64 ((wr .i64 (y5 * y4)) + y6)).toNat) 0)]) (by kernel_rfl) ?_)
  refine SemY.ret ?_
  have hq := Option.some.inj h; subst hq
  exact ⟨.inr rfl, [.pt 2 ((wr .i64 ((wr .i64 (y5 * y4)) + y6)).toNat) 0], (by kernel_rfl), (by kernel_rfl), (by kernel_rfl)⟩
def evening_meetings_k3_y (y0 : Int) (y1 : Int) (y2 : (List Int)) (y3 : (List (List Int))) (y4 : (List (List (List Int)))) (y5 : Int) (y6 : Int) (y7 : Int) (y8 : Int) : Option ((List Int)) :=
  (evening_meetings_k3_y_k1 y0 y1 y2 y3 y1 y7 y8).bind fun v1 =>
  (idx y2 (wr .i64 ((wr .i64 (y7 * y1)) + y8))).bind fun v2 =>
  some (y2.set ((wr .i64 ((wr .i64 (y7 * y1)) + y8)).toNat) (wr .i64 (v2 + 1)))
set_option maxHeartbeats 4000000 in
set_option maxRecDepth 100000 in
theorem evening_meetings_k3_y_sem (y0 : Int) (y1 : Int) (y2 : (List Int)) (y3 : (List (List Int))) (y4 : (List (List (List Int)))) (y5 : Int) (y6 : Int) (y7 : Int) (y8 : Int) (r : (List Int)) (h : evening_meetings_k3_y y0 y1 y2 y3 y4 y5 y6 y7 y8 = some r) : SemY e_evening_meetings ⟨none, true⟩ (asgOf (pc cb_evening_meetings [1, 1, 0, 1, 0, 0, 1, 1, 0, 0, 1, 1, 0])) ⟨Fr 32 [(21, .v (.int .i64 y8)), (20, .v (.int .i64 y7)), (4, .pt 0 0 0), (5, .pt 1 0 0), (12, .sl 1 (y4.map (cdL 1 (cdL 1 cdI)).enc)), (13, .v (.int .i64 y5)), (14, .v (.int .i64 y6)), (19, .fn 76 [] [.pt 3 0 0])], [some ⟨2, 65, [.ag [.v (.int .i64 y0), .e0]], false⟩, some ⟨2, 65, [.ag [.v (.int .i64 y1), .rf 2 0 y2.length y2.length]], false⟩, some ⟨1, 3, (y2.map cdI.enc), false⟩, some ⟨1, 36, [.sl 1 (y3.map (cdL 1 cdI).enc)], false⟩, none]⟩ fun e s1 => e = .normal ∧ SemY e_evening_meetings ⟨none, true⟩ (bdyOf (pc cb_evening_meetings [1, 1, 0, 1, 0, 0, 1, 1, 0, 0, 1, 1, 0])) s1 fun e s2 => e = .normal ∧ s2.hp = [some ⟨2, 65, [.ag [.v (.int .i64 y0), .e0]], false⟩, some ⟨2, 65, [.ag [.v (.int .i64 y1), .rf 2 0 r.length r.length]], false⟩, some ⟨1, 3, (r.map cdI.enc), false⟩, some ⟨1, 36, [.sl 1 (y3.map (cdL 1 cdI).enc)], false⟩, none] := by
  unfold evening_meetings_k3_y at h
  refine SemY.seq ?_
  refine SemY.region ?_
  refine RunY.segF (n := 32) e_evening_meetings_ok 1 [(5, .pt 1 0 0), (8, .v (.int .i64 y7)), (21, .v (.int .i64 y8))] [some ⟨2, 65, [.ag [.v (.int .i64 y0), .e0]], false⟩, some ⟨2, 65, [.ag [.v (.int .i64 y1), .rf 2 0 y2.length y2.length]], false⟩, some ⟨1, 3, (y2.map cdI.enc), false⟩, some ⟨1, 36, [.sl 1 (y3.map (cdL 1 cdI).enc)], false⟩, none] (by kernel_rfl) ?_
  refine RunY.done rfl (SemY.fr (l' := [(5, .pt 1 0 0), (8, .v (.int .i64 y7)), (21, .v (.int .i64 y8))]) (by kernel_rfl) ?_)
  refine SemY.region ?_
  refine RunY.segF (n := 32) e_evening_meetings_ok 1 [(5, .pt 1 0 0), (8, .v (.int .i64 y7)), (9, .v (.int .i64 y8))] [some ⟨2, 65, [.ag [.v (.int .i64 y0), .e0]], false⟩, some ⟨2, 65, [.ag [.v (.int .i64 y1), .rf 2 0 y2.length y2.length]], false⟩, some ⟨1, 3, (y2.map cdI.enc), false⟩, some ⟨1, 36, [.sl 1 (y3.map (cdL 1 cdI).enc)], false⟩, none] (by kernel_rfl) ?_
  refine RunY.done rfl ?_
  refine ⟨rfl, ?_⟩
  refine SemY.block ?_
  refine SemY.region ?_
  refine RunY.segF (n := 32) e_evening_meetings_ok 3 [(22, .ag [.v (.int .i64 y1), .rf 2 0 y2.length y2.length]), (23, .v (.int .i64 y7)), (24, .v (.int .i64 y8))] [some ⟨2, 65, [.ag [.v (.int .i64 y0), .e0]], false⟩, some ⟨2, 65, [.ag [.v (.int .i64 y1), .rf 2 0 y2.length y2.length]], false⟩, some ⟨1, 3, (y2.map cdI.enc), false⟩, some ⟨1, 36, [.sl 1 (y3.map (cdL 1 cdI).enc)], false⟩, none] (by kernel_rfl) ?_
  obtain ⟨v1, hv1, h⟩ := Option.bind_eq_some_iff.1 h
  obtain ⟨v2, hv2, h⟩ := Option.bind_eq_some_iff.1 h
  refine RunY.inl (fid := 49) (caps := []) (xs := [.ag [.v (.int .i64 y1), .rf 2 0 y2.length y2.length], .v (.int .i64 y7), .v (.int .i64 y8)]) (fn := Tryd.f49) (Out := fun x h' => x = .pt 2 ((wr .i64 ((wr .i64 (y7 * y1)) + y8)).toNat) 0 ∧ h' = [some ⟨2, 65, [.ag [.v (.int .i64 y0), .e0]], false⟩, some ⟨2, 65, [.ag [.v (.int .i64 y1), .rf 2 0 y2.length y2.length]], false⟩, some ⟨1, 3, (y2.map cdI.enc), false⟩, some ⟨1, 36, [.sl 1 (y3.map (cdL 1 cdI).enc)], false⟩, none, some ⟨2, 65, [.ag [.v (.int .i64 v1), .rf 2 0 y2.length y2.length]], false⟩]) rfl rfl e_evening_meetings_k3_y_k1_ok rfl rfl 5 (by kernel_rfl) rfl (wantedA_none rfl) (by kernel_rfl) (by kernel_rfl) (by kernel_rfl) (by kernel_rfl) (by show 3 ≤ 16; decide) (evening_meetings_k3_y_k1_sem y0 y1 y2 y3 y1 y7 y8 _ hv1) ?_
  rintro x h' ⟨rfl, rfl⟩
  refine ⟨[some ⟨2, 65, [.ag [.v (.int .i64 y0), .e0]], false⟩, some ⟨2, 65, [.ag [.v (.int .i64 y1), .rf 2 0 y2.length y2.length]], false⟩, some ⟨1, 3, (y2.map cdI.enc), false⟩, some ⟨1, 36, [.sl 1 (y3.map (cdL 1 cdI).enc)], false⟩, none], by kernel_rfl, ⟨⟨_, rfl, bu_c (by kernel_rfl) (by kernel_rfl)⟩, ⟨_, rfl, bu_c (by kernel_rfl) (by kernel_rfl)⟩, ⟨_, rfl, bu_own⟩, ⟨_, rfl, bu_c (by kernel_rfl) (by kernel_rfl)⟩, ⟨_, rfl, bu_none⟩, trivial⟩, ⟨by kernel_rfl, by kernel_rfl⟩, ?_⟩
  refine RunY.segF (n := 32) e_evening_meetings_ok 1 [(25, .pt 2 ((wr .i64 ((wr .i64 (y7 * y1)) + y8)).toNat) 0), (26, .pt 2 ((wr .i64 ((wr .i64 (y7 * y1)) + y8)).toNat) 0)] [some ⟨2, 65, [.ag [.v (.int .i64 y0), .e0]], false⟩, some ⟨2, 65, [.ag [.v (.int .i64 y1), .rf 2 0 y2.length y2.length]], false⟩, some ⟨1, 3, (y2.map cdI.enc), false⟩, some ⟨1, 36, [.sl 1 (y3.map (cdL 1 cdI).enc)], false⟩, none] (by kernel_rfl) ?_
  refine RunY.one e_evening_meetings_ok 0 rfl (op_q (wantedA_none rfl) rfl (q_load (p := .pt 2 ((wr .i64 ((wr .i64 (y7 * y1)) + y8)).toNat) 0) (by kernel_rfl) (ld_blk (B := ⟨1, 3, (y2.map cdI.enc), false⟩) (m := 1) (g := false) (e := cdI.enc) (xs := y2) (by kernel_rfl) (by kernel_rfl) (by kernel_rfl) rfl (idx_at hv2).2 (by kernel_rfl)))) ?_
  refine RunY.segF (n := 32) e_evening_meetings_ok 2 [(28, .v (.int .i64 (wr .i64 (v2 + 1)))), (29, .pt 2 ((wr .i64 ((wr .i64 (y7 * y1)) + y8)).toNat) 0)] [some ⟨2, 65, [.ag [.v (.int .i64 y0), .e0]], false⟩, some ⟨2, 65, [.ag [.v (.int .i64 y1), .rf 2 0 y2.length y2.length]], false⟩, some ⟨1, 3, (y2.map cdI.enc), false⟩, some ⟨1, 36, [.sl 1 (y3.map (cdL 1 cdI).enc)], false⟩, none] (by kernel_rfl) ?_
  refine RunY.store e_evening_meetings_ok (y := .pt 2 ((wr .i64 ((wr .i64 (y7 * y1)) + y8)).toNat) 0) (z := .v (.int .i64 (wr .i64 (v2 + 1)))) rfl (wantedA_none rfl) (by kernel_rfl) (by kernel_rfl) (st_blk (t' := 3) (k := 1) (e := cdI.enc) (xs := y2) (v := v2) (v' := (wr .i64 (v2 + 1))) (by kernel_rfl) (idx_at hv2).2 (by kernel_rfl) (by kernel_rfl) (by kernel_rfl)) ?_
  refine RunY.done rfl ?_
  have hq := Option.some.inj h; subst hq
  exact ⟨rfl, Eq.trans (b := [some ⟨2, 65, [.ag [.v (.int .i64 y0), .e0]], false⟩, some ⟨2, 65, [.ag [.v (.int .i64 y1), .rf 2 0 y2.length y2.length]], false⟩, some ⟨1, 3, ((y2.set ((wr .i64 ((wr .i64 (y7 * y1)) + y8)).toNat) (wr .i64 (v2 + 1))).map cdI.enc), false⟩, some ⟨1, 36, [.sl 1 (y3.map (cdL 1 cdI).enc)], false⟩, none]) (by kernel_rfl) (by simp only [List.length_set])⟩
def evening_meetings_k3_3 (y0 : Int) (y1 : Int) (y3 : (List (List Int))) (y4 : (List (List (List Int)))) (y5 : Int) (y6 : Int) (c186 : Int) (v189 : (List Int)) (c222 : Int) (v225 : Int) : Nat → Int → (List Int) → Option (((List Int)))
  | 0, _, _ => none
  | f + 1, c239, c240 =>
    if (decide (c239 < (v189.length : Int))) = true then
    (idx v189 c239).bind fun v242 =>
    if (c222 != c239) = true then
    (evening_meetings_k3_y y0 y1 c240 y3 y4 y5 y6 v225 v242).bind fun v243 =>
    evening_meetings_k3_3 y0 y1 y3 y4 y5 y6 c186 v189 c222 v225 f (wr .i64 (c239 + 1)) v243
    else
    evening_meetings_k3_3 y0 y1 y3 y4 y5 y6 c186 v189 c222 v225 f (wr .i64 (c239 + 1)) c240
    else
    some c240
def evening_meetings_k3_2 (y0 : Int) (y1 : Int) (y3 : (List (List Int))) (y4 : (List (List (List Int)))) (y5 : Int) (y6 : Int) (c186 : Int) (v189 : (List Int)) : Nat → Int → (List Int) → Option (((List Int)))
  | 0, _, _ => none
  | f + 1, c222, c223 =>
    if (decide (c222 < (v189.length : Int))) = true then
    (idx v189 c222).bind fun v225 =>
    (evening_meetings_k3_3 y0 y1 y3 y4 y5 y6 c186 v189 c222 v225 100000 0 c223).bind fun r246 =>
    evening_meetings_k3_2 y0 y1 y3 y4 y5 y6 c186 v189 f (wr .i64 (c222 + 1)) r246
    else
    some c223
def evening_meetings_k3_1 (y0 : Int) (y1 : Int) (y3 : (List (List Int))) (y4 : (List (List (List Int)))) (y5 : Int) (y6 : Int) : Nat → Int → (List Int) → Option (((List Int)))
  | 0, _, _ => none
  | f + 1, c186, c187 =>
    if (decide (c186 < (y3.length : Int))) = true then
    (idx y3 c186).bind fun v189 =>
    (evening_meetings_k3_2 y0 y1 y3 y4 y5 y6 c186 v189 100000 0 c187).bind fun r248 =>
    evening_meetings_k3_1 y0 y1 y3 y4 y5 y6 f (wr .i64 (c186 + 1)) r248
    else
    some c187
def evening_meetings_k3 (y0 : Int) (y1 : Int) (y2 : (List Int)) (y3 : (List (List Int))) (y4 : (List (List (List Int)))) (y5 : Int) (y6 : Int) : Option ((List Int)) :=
  (evening_meetings_k3_1 y0 y1 y3 y4 y5 y6 100000 0 y2).bind fun r250 =>
  some r250
set_option maxHeartbeats 4000000 in
set_option maxRecDepth 100000 in
theorem evening_meetings_k3_3_ok (y0 : Int) (y1 : Int) (y3 : (List (List Int))) (y4 : (List (List (List Int)))) (y5 : Int) (y6 : Int) (c186 : Int) (v189 : (List Int)) (c222 : Int) (v225 : Int) : ∀ (f : Nat) (c239 : Int) (c240 : (List Int)) (r : ((List Int))), evening_meetings_k3_3 y0 y1 y3 y4 y5 y6 c186 v189 c222 v225 f c239 c240 = some r → SemYN e_evening_meetings_k3 (cx_evening_meetings_k3 y4 y5 y6) (pc cb_evening_meetings_k3 [1, 0, 0, 1, 1, 0, 0, 1, 1, 0, 0, 1, 1, 0, 0, 1, 1, 0, 0]) f ⟨Fr 42 [(0, .yl 4), (4, .sl 1 (v189.map cdI.enc)), (5, .v (.int .i64 c222)), (6, .v (.int .i64 v225)), (9, .sl 1 (y3.map (cdL 1 cdI).enc)), (10, .v (.int .i64 (y3.length : Int))), (11, .v (.int .i64 c186)), (15, .sl 1 (v189.map cdI.enc)), (16, .v (.int .i64 (v189.length : Int))), (17, .v (.int .i64 c222)), (22, .sl 1 (v189.map cdI.enc)), (23, .v (.int .i64 (v189.length : Int))), (24, .v (.int .i64 c239))], [some ⟨2, 65, [.ag [.v (.int .i64 y0), .e0]], false⟩, some ⟨2, 65, [.ag [.v (.int .i64 y1), .rf 2 0 c240.length c240.length]], false⟩, some ⟨1, 3, (c240.map cdI.enc), false⟩, some ⟨1, 36, [.sl 1 (y3.map (cdL 1 cdI).enc)], false⟩, none]⟩ (fun e s => e = (.exit 4) ∧ WkY e_evening_meetings_k3 s ⟨Fr 42 [(0, .yl 4), (4, .sl 1 (v189.map cdI.enc)), (9, .sl 1 (y3.map (cdL 1 cdI).enc)), (10, .v (.int .i64 (y3.length : Int))), (11, .v (.int .i64 c186)), (15, .sl 1 (v189.map cdI.enc)), (16, .v (.int .i64 (v189.length : Int))), (17, .v (.int .i64 c222))], [some ⟨2, 65, [.ag [.v (.int .i64 y0), .e0]], false⟩, some ⟨2, 65, [.ag [.v (.int .i64 y1), .rf 2 0 r.length r.length]], false⟩, some ⟨1, 3, (r.map cdI.enc), false⟩, some ⟨1, 36, [.sl 1 (y3.map (cdL 1 cdI).enc)], false⟩, none]⟩) := by
  intro f
  induction f with
  | zero => intro c239 c240 r h; cases h
  | succ f ih0 =>
    intro c239 c240 r h
    have ih := fun (c239 : Int) (c240 : (List Int)) => ih0 c239 c240 r
    unfold evening_meetings_k3_3 at h
    refine SemYN.succ ?_
    refine SemY.seq ?_
    refine SemY.region ?_
    refine RunY.segF (n := 42) e_evening_meetings_k3_ok 1 [(0, .yl 4), (4, .sl 1 (v189.map cdI.enc)), (5, .v (.int .i64 c222)), (6, .v (.int .i64 v225)), (9, .sl 1 (y3.map (cdL 1 cdI).enc)), (10, .v (.int .i64 (y3.length : Int))), (11, .v (.int .i64 c186)), (15, .sl 1 (v189.map cdI.enc)), (16, .v (.int .i64 (v189.length : Int))), (17, .v (.int .i64 c222)), (22, .sl 1 (v189.map cdI.enc)), (23, .v (.int .i64 (v189.length : Int))), (24, .v (.int .i64 c239)), (25, .v (.bool (decide (c239 < (v189.length : Int)))))] [some ⟨2, 65, [.ag [.v (.int .i64 y0), .e0]], false⟩, some ⟨2, 65, [.ag [.v (.int .i64 y1), .rf 2 0 c240.length c240.length]], false⟩, some ⟨1, 3, (c240.map cdI.enc), false⟩, some ⟨1, 36, [.sl 1 (y3.map (cdL 1 cdI).enc)], false⟩, none] (by kernel_rfl) ?_
    refine RunY.done rfl (SemY.fr (l' := [(0, .yl 4), (4, .sl 1 (v189.map cdI.enc)), (5, .v (.int .i64 c222)), (6, .v (.int .i64 v225)), (9, .sl 1 (y3.map (cdL 1 cdI).enc)), (10, .v (.int .i64 (y3.length : Int))), (11, .v (.int .i64 c186)), (15, .sl 1 (v189.map cdI.enc)), (16, .v (.int .i64 (v189.length : Int))), (17, .v (.int .i64 c222)), (22, .sl 1 (v189.map cdI.enc)), (23, .v (.int .i64 (v189.length : Int))), (24, .v (.int .i64 c239)), (25, .v (.bool (decide (c239 < (v189.length : Int)))))]) (by kernel_rfl) ?_)
    refine SemY.seq ?_
    refine SemY.cond (b := (decide (c239 < (v189.length : Int)))) (by kernel_rfl) (fun hb241 => ?_) (fun hb241 => ?_)
    · rw [if_pos hb241] at h
      refine SemY.skip ?_
      refine SemY.seq ?_
      refine SemY.block ?_
      refine SemY.seq ?_
      refine SemY.region ?_
      refine RunY.segF (n := 42) e_evening_meetings_k3_ok 1 [(0, .yl 4), (4, .sl 1 (v189.map cdI.enc)), (5, .v (.int .i64 c222)), (6, .v (.int .i64 v225)), (9, .sl 1 (y3.map (cdL 1 cdI).enc)), (10, .v (.int .i64 (y3.length : Int))), (11, .v (.int .i64 c186)), (15, .sl 1 (v189.map cdI.enc)), (16, .v (.int .i64 (v189.length : Int))), (17, .v (.int .i64 c222)), (22, .sl 1 (v189.map cdI.enc)), (23, .v (.int .i64 (v189.length : Int))), (24, .v (.int .i64 c239)), (26, .v (.int .i64 c239))] [some ⟨2, 65, [.ag [.v (.int .i64 y0), .e0]], false⟩, some ⟨2, 65, [.ag [.v (.int .i64 y1), .rf 2 0 c240.length c240.length]], false⟩, some ⟨1, 3, (c240.map cdI.enc), false⟩, some ⟨1, 36, [.sl 1 (y3.map (cdL 1 cdI).enc)], false⟩, none] (by kernel_rfl) ?_
      obtain ⟨v242, hv242, h⟩ := Option.bind_eq_some_iff.1 h
      refine RunY.one e_evening_meetings_k3_ok 0 rfl (op_q (wantedA_none rfl) rfl (q_indexAddr (a := .sl 1 (v189.map cdI.enc)) (b := .v (.int .i64 c239)) (by kernel_rfl) (by kernel_rfl) (ix_sl (e := cdI.enc) (el := 3) (k := 1) (ki := .i64) (by kernel_rfl) (by kernel_rfl) hv242))) ?_
      refine RunY.segF (n := 42) e_evening_meetings_k3_ok 3 [(0, .yl 4), (4, .sl 1 (v189.map cdI.enc)), (5, .v (.int .i64 c222)), (6, .v (.int .i64 v225)), (7, .v (.int .i64 c239)), (8, .v (.int .i64 v242)), (9, .sl 1 (y3.map (cdL 1 cdI).enc)), (10, .v (.int .i64 (y3.length : Int))), (11, .v (.int .i64 c186)), (15, .sl 1 (v189.map cdI.enc)), (16, .v (.int .i64 (v189.length : Int))), (17, .v (.int .i64 c222)), (22, .sl 1 (v189.map cdI.enc)), (23, .v (.int .i64 (v189.length : Int))), (24, .v (.int .i64 c239))] [some ⟨2, 65, [.ag [.v (.int .i64 y0), .e0]], false⟩, some ⟨2, 65, [.ag [.v (.int .i64 y1), .rf 2 0 c240.length c240.length]], false⟩, some ⟨1, 3, (c240.map cdI.enc), false⟩, some ⟨1, 36, [.sl 1 (y3.map (cdL 1 cdI).enc)], false⟩, none] (by kernel_rfl) ?_
      refine RunY.done rfl (SemY.fr (l' := [(0, .yl 4), (4, .sl 1 (v189.map cdI.enc)), (5, .v (.int .i64 c222)), (6, .v (.int .i64 v225)), (7, .v (.int .i64 c239)), (8, .v (.int .i64 v242)), (9, .sl 1 (y3.map (cdL 1 cdI).enc)), (10, .v (.int .i64 (y3.length : Int))), (11, .v (.int .i64 c186)), (15, .sl 1 (v189.map cdI.enc)), (16, .v (.int .i64 (v189.length : Int))), (17, .v (.int .i64 c222)), (22, .sl 1 (v189.map cdI.enc)), (23, .v (.int .i64 (v189.length : Int))), (24, .v (.int .i64 c239))]) (by kernel_rfl) ?_)
      refine SemY.seq ?_
      refine SemY.region ?_
      refine RunY.segF (n := 42) e_evening_meetings_k3_ok 4 [(0, .yl 4), (4, .sl 1 (v189.map cdI.enc)), (5, .v (.int .i64 c222)), (6, .v (.int .i64 v225)), (8, .v (.int .i64 v242)), (9, .sl 1 (y3.map (cdL 1 cdI).enc)), (10, .v (.int .i64 (y3.length : Int))), (11, .v (.int .i64 c186)), (15, .sl 1 (v189.map cdI.enc)), (16, .v (.int .i64 (v189.length : Int))), (17, .v (.int .i64 c222)), (22, .sl 1 (v189.map cdI.enc)), (23, .v (.int .i64 (v189.length : Int))), (24, .v (.int .i64 c239)), (32, .v (.bool (c222 != c239)))] [some ⟨2, 65, [.ag [.v (.int .i64 y0), .e0]], false⟩, some ⟨2, 65, [.ag [.v (.int .i64 y1), .rf 2 0 c240.length c240.length]], false⟩, some ⟨1, 3, (c240.map cdI.enc), false⟩, some ⟨1, 36, [.sl 1 (y3.map (cdL 1 cdI).enc)], false⟩, none] (by kernel_rfl) ?_
      rcases Bool.eq_false_or_eq_true (c222 != c239) with hc244 | hc244
      · rw [if_pos hc244] at h
        rw [hc244]
        refine RunY.segF (n := 42) e_evening_meetings_k3_ok 3 [(0, .yl 4), (4, .sl 1 (v189.map cdI.enc)), (5, .v (.int .i64 c222)), (6, .v (.int .i64 v225)), (9, .sl 1 (y3.map (cdL 1 cdI).enc)), (10, .v (.int .i64 (y3.length : Int))), (11, .v (.int .i64 c186)), (15, .sl 1 (v189.map cdI.enc)), (16, .v (.int .i64 (v189.length : Int))), (17, .v (.int .i64 c222)), (22, .sl 1 (v189.map cdI.enc)), (23, .v (.int .i64 (v189.length : Int))), (24, .v (.int .i64 c239)), (32, .v (.bool true)), (33, .yl 4), (34, .v (.int .i64 v225)), (35, .v (.int .i64 v242))] [some ⟨2, 65, [.ag [.v (.int .i64 y0), .e0]], false⟩, some ⟨2, 65, [.ag [.v (.int .i64 y1), .rf 2 0 c240.length c240.length]], false⟩, some ⟨1, 3, (c240.map cdI.enc), false⟩, some ⟨1, 36, [.sl 1 (y3.map (cdL 1 cdI).enc)], false⟩, none] (by kernel_rfl) ?_
        obtain ⟨v243, hv243, h⟩ := Option.bind_eq_some_iff.1 h
        refine RunY.yield (K1 := fun h' => h' = [some ⟨2, 65, [.ag [.v (.int .i64 y0), .e0]], false⟩, some ⟨2, 65, [.ag [.v (.int .i64 y1), .rf 2 0 v243.length v243.length]], false⟩, some ⟨1, 3, (v243.map cdI.enc), false⟩, some ⟨1, 36, [.sl 1 (y3.map (cdL 1 cdI).enc)], false⟩, none]) rfl rfl (eb := e_evening_meetings) rfl rfl rfl rfl rfl (by kernel_rfl) (by kernel_rfl) (xs := [.v (.int .i64 v225), .v (.int .i64 v242)]) (by kernel_rfl) rfl rfl (evening_meetings_k3_y_sem y0 y1 c240 y3 y4 y5 y6 v225 v242 _ hv243) ?_
        rintro h' rfl
        refine RunY.segF (n := 42) e_evening_meetings_k3_ok 2 [(0, .yl 4), (4, .sl 1 (v189.map cdI.enc)), (5, .v (.int .i64 c222)), (6, .v (.int .i64 v225)), (9, .sl 1 (y3.map (cdL 1 cdI).enc)), (10, .v (.int .i64 (y3.length : Int))), (11, .v (.int .i64 c186)), (15, .sl 1 (v189.map cdI.enc)), (16, .v (.int .i64 (v189.length : Int))), (17, .v (.int .i64 c222)), (22, .sl 1 (v189.map cdI.enc)), (23, .v (.int .i64 (v189.length : Int))), (24, .v (.int .i64 c239)), (33, .yl 4), (34, .v (.int .i64 v225)), (35, .v (.int .i64 v242)), (36, .v (.bool true)), (37, .v (.bool false)), (38, .v (.bool false))] [some ⟨2, 65, [.ag [.v (.int .i64 y0), .e0]], false⟩, some ⟨2, 65, [.ag [.v (.int .i64 y1), .rf 2 0 v243.length v243.length]], false⟩, some ⟨1, 3, (v243.map cdI.enc), false⟩, some ⟨1, 36, [.sl 1 (y3.map (cdL 1 cdI).enc)], false⟩, none] (by kernel_rfl) ?_
        refine RunY.done rfl (SemY.fr (l' := [(0, .yl 4), (4, .sl 1 (v189.map cdI.enc)), (5, .v (.int .i64 c222)), (6, .v (.int .i64 v225)), (9, .sl 1 (y3.map (cdL 1 cdI).enc)), (10, .v (.int .i64 (y3.length : Int))), (11, .v (.int .i64 c186)), (15, .sl 1 (v189.map cdI.enc)), (16, .v (.int .i64 (v189.length : Int))), (17, .v (.int .i64 c222)), (22, .sl 1 (v189.map cdI.enc)), (23, .v (.int .i64 (v189.length : Int))), (24, .v (.int .i64 c239)), (33, .yl 4), (34, .v (.int .i64 v225)), (35, .v (.int .i64 v242)), (36, .v (.bool true)), (37, .v (.bool false)), (38, .v (.bool false))]) (by kernel_rfl) ?_)
        refine SemY.cond_false (by kernel_rfl) ?_
        refine SemY.skip ?_
        refine SemY.region ?_
        refine RunY.segF (n := 42) e_evening_meetings_k3_ok 2 [(0, .yl 4), (4, .sl 1 (v189.map cdI.enc)), (5, .v (.int .i64 c222)), (6, .v (.int .i64 v225)), (9, .sl 1 (y3.map (cdL 1 cdI).enc)), (10, .v (.int .i64 (y3.length : Int))), (11, .v (.int .i64 c186)), (15, .sl 1 (v189.map cdI.enc)), (16, .v (.int .i64 (v189.length : Int))), (17, .v (.int .i64 c222)), (22, .sl 1 (v189.map cdI.enc)), (23, .v (.int .i64 (v189.length : Int))), (24, .v (.int .i64 (wr .i64 (c239 + 1)))), (33, .yl 4), (34, .v (.int .i64 v225)), (35, .v (.int .i64 v242)), (36, .v (.bool true)), (37, .v (.bool false))] [some ⟨2, 65, [.ag [.v (.int .i64 y0), .e0]], false⟩, some ⟨2, 65, [.ag [.v (.int .i64 y1), .rf 2 0 v243.length v243.length]], false⟩, some ⟨1, 3, (v243.map cdI.enc), false⟩, some ⟨1, 36, [.sl 1 (y3.map (cdL 1 cdI).enc)], false⟩, none] (by kernel_rfl) ?_
        refine RunY.done rfl ?_
        exact SemYN.wk (s1 := ⟨Fr 42 [(0, .yl 4), (4, .sl 1 (v189.map cdI.enc)), (5, .v (.int .i64 c222)), (6, .v (.int .i64 v225)), (9, .sl 1 (y3.map (cdL 1 cdI).enc)), (10, .v (.int .i64 (y3.length : Int))), (11, .v (.int .i64 c186)), (15, .sl 1 (v189.map cdI.enc)), (16, .v (.int .i64 (v189.length : Int))), (17, .v (.int .i64 c222)), (22, .sl 1 (v189.map cdI.enc)), (23, .v (.int .i64 (v189.length : Int))), (24, .v (.int .i64 (wr .i64 (c239 + 1))))], [some ⟨2, 65, [.ag [.v (.int .i64 y0), .e0]], false⟩, some ⟨2, 65, [.ag [.v (.int .i64 y1), .rf 2 0 v243.length v243.length]], false⟩, some ⟨1, 3, (v243.map cdI.enc), false⟩, some ⟨1, 36, [.sl 1 (y3.map (cdL 1 cdI).enc)], false⟩, none]⟩) (WkY.fr (by kernel_rfl)) (ih (wr .i64 (c239 + 1)) v243 h)
      · rw [if_f hc244] at h
        rw [hc244]
        refine RunY.segF (n := 42) e_evening_meetings_k3_ok 6 [(0, .yl 4), (4, .sl 1 (v189.map cdI.enc)), (5, .v (.int .i64 c222)), (6, .v (.int .i64 v225)), (9, .sl 1 (y3.map (cdL 1 cdI).enc)), (10, .v (.int .i64 (y3.length : Int))), (11, .v (.int .i64 c186)), (15, .sl 1 (v189.map cdI.enc)), (16, .v (.int .i64 (v189.length : Int))), (17, .v (.int .i64 c222)), (22, .sl 1 (v189.map cdI.enc)), (23, .v (.int .i64 (v189.length : Int))), (24, .v (.int .i64 c239)), (33, .tp []), (34, .tp []), (35, .tp []), (36, .tp []), (37, .tp []), (38, .v (.bool false))] [some ⟨2, 65, [.ag [.v (.int .i64 y0), .e0]], false⟩, some ⟨2, 65, [.ag [.v (.int .i64 y1), .rf 2 0 c240.length c240.length]], false⟩, some ⟨1, 3, (c240.map cdI.enc), false⟩, some ⟨1, 36, [.sl 1 (y3.map (cdL 1 cdI).enc)], false⟩, none] (by kernel_rfl) ?_
        refine RunY.done rfl (SemY.fr (l' := [(0, .yl 4), (4, .sl 1 (v189.map cdI.enc)), (5, .v (.int .i64 c222)), (6, .v (.int .i64 v225)), (9, .sl 1 (y3.map (cdL 1 cdI).enc)), (10, .v (.int .i64 (y3.length : Int))), (11, .v (.int .i64 c186)), (15, .sl 1 (v189.map cdI.enc)), (16, .v (.int .i64 (v189.length : Int))), (17, .v (.int .i64 c222)), (22, .sl 1 (v189.map cdI.enc)), (23, .v (.int .i64 (v189.length : Int))), (24, .v (.int .i64 c239)), (33, .tp []), (34, .tp []), (35, .tp []), (36, .tp []), (37, .tp []), (38, .v (.bool false))]) (by kernel_rfl) ?_)
        refine SemY.cond_false (by kernel_rfl) ?_
        refine SemY.skip ?_
        refine SemY.region ?_
        refine RunY.segF (n := 42) e_evening_meetings_k3_ok 2 [(0, .yl 4), (4, .sl 1 (v189.map cdI.enc)), (5, .v (.int .i64 c222)), (6, .v (.int .i64 v225)), (9, .sl 1 (y3.map (cdL 1 cdI).enc)), (10, .v (.int .i64 (y3.length : Int))), (11, .v (.int .i64 c186)), (15, .sl 1 (v189.map cdI.enc)), (16, .v (.int .i64 (v189.length : Int))), (17, .v (.int .i64 c222)), (22, .sl 1 (v189.map cdI.enc)), (23, .v (.int .i64 (v189.length : Int))), (24, .v (.int .i64 (wr .i64 (c239 + 1)))), (33, .tp []), (34, .tp []), (35, .tp []), (36, .tp []), (37, .tp [])] [some ⟨2, 65, [.ag [.v (.int .i64 y0), .e0]], false⟩, some ⟨2, 65, [.ag [.v (.int .i64 y1), .rf 2 0 c240.length c240.length]], false⟩, some ⟨1, 3, (c240.map cdI.enc), false⟩, some ⟨1, 36, [.sl 1 (y3.map (cdL 1 cdI).enc)], false⟩, none] (by kernel_rfl) ?_
        refine RunY.done rfl ?_
        exact SemYN.wk (s1 := ⟨Fr 42 [(0, .yl 4), (4, .sl 1 (v189.map cdI.enc)), (5, .v (.int .i64 c222)), (6, .v (.int .i64 v225)), (9, .sl 1 (y3.map (cdL 1 cdI).enc)), (10, .v (.int .i64 (y3.length : Int))), (11, .v (.int .i64 c186)), (15, .sl 1 (v189.map cdI.enc)), (16, .v (.int .i64 (v189.length : Int))), (17, .v (.int .i64 c222)), (22, .sl 1 (v189.map cdI.enc)), (23, .v (.int .i64 (v189.length : Int))), (24, .v (.int .i64 (wr .i64 (c239 + 1))))], [some ⟨2, 65, [.ag [.v (.int .i64 y0), .e0]], false⟩, some ⟨2, 65, [.ag [.v (.int .i64 y1), .rf 2 0 c240.length c240.length]], false⟩, some ⟨1, 3, (c240.map cdI.enc), false⟩, some ⟨1, 36, [.sl 1 (y3.map (cdL 1 cdI).enc)], false⟩, none]⟩) (WkY.fr (by kernel_rfl)) (ih (wr .i64 (c239 + 1)) c240 h)
    · rw [if_f hb241] at h
      refine SemY.exit ?_
      have hq := Option.some.inj h; subst hq
      exact ⟨rfl, (WkY.fr (by kernel_rfl))⟩
set_option maxHeartbeats 4000000 in
set_option maxRecDepth 100000 in
theorem evening_meetings_k3_2_ok (y0 : Int) (y1 : Int) (y3 : (List (List Int))) (y4 : (List (List (List Int)))) (y5 : Int) (y6 : Int) (c186 : Int) (v189 : (List Int)) : ∀ (f : Nat) (c222 : Int) (c223 : (List Int)) (r : ((List Int))), evening_meetings_k3_2 y0 y1 y3 y4 y5 y6 c186 v189 f c222 c223 = some r → SemYN e_evening_meetings_k3 (cx_evening_meetings_k3 y4 y5 y6) (pc cb_evening_meetings_k3 [1, 0, 0, 1, 1, 0, 0, 1, 1, 0, 0]) f ⟨Fr 42 [(0, .yl 4), (4, .sl 1 (v189.map cdI.enc)), (9, .sl 1 (y3.map (cdL 1 cdI).enc)), (10, .v (.int .i64 (y3.length : Int))), (11, .v (.int .i64 c186)), (15, .sl 1 (v189.map cdI.enc)), (16, .v (.int .i64 (v189.length : Int))), (17, .v (.int .i64 c222))], [some ⟨2, 65, [.ag [.v (.int .i64 y0), .e0]], false⟩, some ⟨2, 65, [.ag [.v (.int .i64 y1), .rf 2 0 c223.length c223.length]], false⟩, some ⟨1, 3, (c223.map cdI.enc), false⟩, some ⟨1, 36, [.sl 1 (y3.map (cdL 1 cdI).enc)], false⟩, none]⟩ (fun e s => e = (.exit 2) ∧ WkY e_evening_meetings_k3 s ⟨Fr 42 [(0, .yl 4), (9, .sl 1 (y3.map (cdL 1 cdI).enc)), (10, .v (.int .i64 (y3.length : Int))), (11, .v (.int .i64 c186))], [some ⟨2, 65, [.ag [.v (.int .i64 y0), .e0]], false⟩, some ⟨2, 65, [.ag [.v (.int .i64 y1), .rf 2 0 r.length r.length]], false⟩, some ⟨1, 3, (r.map cdI.enc), false⟩, some ⟨1, 36, [.sl 1 (y3.map (cdL 1 cdI).enc)], false⟩, none]⟩) := by
  intro f
  induction f with
  | zero => intro c222 c223 r h; cases h
  | succ f ih0 =>
    intro c222 c223 r h
    have ih := fun (c222 : Int) (c223 : (List Int)) => ih0 c222 c223 r
    unfold evening_meetings_k3_2 at h
    refine SemYN.succ ?_
    refine SemY.seq ?_
    refine SemY.region ?_
    refine RunY.segF (n := 42) e_evening_meetings_k3_ok 1 [(0, .yl 4), (4, .sl 1 (v189.map cdI.enc)), (9, .sl 1 (y3.map (cdL 1 cdI).enc)), (10, .v (.int .i64 (y3.length : Int))), (11, .v (.int .i64 c186)), (15, .sl 1 (v189.map cdI.enc)), (16, .v (.int .i64 (v189.length : Int))), (17, .v (.int .i64 c222)), (18, .v (.bool (decide (c222 < (v189.length : Int)))))] [some ⟨2, 65, [.ag [.v (.int .i64 y0), .e0]], false⟩, some ⟨2, 65, [.ag [.v (.int .i64 y1), .rf 2 0 c223.length c223.length]], false⟩, some ⟨1, 3, (c223.map cdI.enc), false⟩, some ⟨1, 36, [.sl 1 (y3.map (cdL 1 cdI).enc)], false⟩, none] (by kernel_rfl) ?_
    refine RunY.done rfl (SemY.fr (l' := [(0, .yl 4), (4, .sl 1 (v189.map cdI.enc)), (9, .sl 1 (y3.map (cdL 1 cdI).enc)), (10, .v (.int .i64 (y3.length : Int))), (11, .v (.int .i64 c186)), (15, .sl 1 (v189.map cdI.enc)), (16, .v (.int .i64 (v189.length : Int))), (17, .v (.int .i64 c222)), (18, .v (.bool (decide (c222 < (v189.length : Int)))))]) (by kernel_rfl) ?_)
    refine SemY.seq ?_
    refine SemY.cond (b := (decide (c222 < (v189.length : Int)))) (by kernel_rfl) (fun hb224 => ?_) (fun hb224 => ?_)
    · rw [if_pos hb224] at h
      refine SemY.skip ?_
      refine SemY.seq ?_
      refine SemY.block ?_
      refine SemY.seq ?_
      refine SemY.region ?_
      refine RunY.segF (n := 42) e_evening_meetings_k3_ok 1 [(0, .yl 4), (4, .sl 1 (v189.map cdI.enc)), (9, .sl 1 (y3.map (cdL 1 cdI).enc)), (10, .v (.int .i64 (y3.length : Int))), (11, .v (.int .i64 c186)), (15, .sl 1 (v189.map cdI.enc)), (16, .v (.int .i64 (v189.length : Int))), (17, .v (.int .i64 c222)), (19, .v (.int .i64 c222))] [some ⟨2, 65, [.ag [.v (.int .i64 y0), .e0]], false⟩, some ⟨2, 65, [.ag [.v (.int .i64 y1), .rf 2 0 c223.length c223.length]], false⟩, some ⟨1, 3, (c223.map cdI.enc), false⟩, some ⟨1, 36, [.sl 1 (y3.map (cdL 1 cdI).enc)], false⟩, none] (by kernel_rfl) ?_
      obtain ⟨v225, hv225, h⟩ := Option.bind_eq_some_iff.1 h
      refine RunY.one e_evening_meetings_k3_ok 0 rfl (op_q (wantedA_none rfl) rfl (q_indexAddr (a := .sl 1 (v189.map cdI.enc)) (b := .v (.int .i64 c222)) (by kernel_rfl) (by kernel_rfl) (ix_sl (e := cdI.enc) (el := 3) (k := 1) (ki := .i64) (by kernel_rfl) (by kernel_rfl) hv225))) ?_
      refine RunY.segF (n := 42) e_evening_meetings_k3_ok 3 [(0, .yl 4), (4, .sl 1 (v189.map cdI.enc)), (5, .v (.int .i64 c222)), (6, .v (.int .i64 v225)), (9, .sl 1 (y3.map (cdL 1 cdI).enc)), (10, .v (.int .i64 (y3.length : Int))), (11, .v (.int .i64 c186)), (15, .sl 1 (v189.map cdI.enc)), (16, .v (.int .i64 (v189.length : Int))), (17, .v (.int .i64 c222))] [some ⟨2, 65, [.ag [.v (.int .i64 y0), .e0]], false⟩, some ⟨2, 65, [.ag [.v (.int .i64 y1), .rf 2 0 c223.length c223.length]], false⟩, some ⟨1, 3, (c223.map cdI.enc), false⟩, some ⟨1, 36, [.sl 1 (y3.map (cdL 1 cdI).enc)], false⟩, none] (by kernel_rfl) ?_
      refine RunY.done rfl (SemY.fr (l' := [(0, .yl 4), (4, .sl 1 (v189.map cdI.enc)), (5, .v (.int .i64 c222)), (6, .v (.int .i64 v225)), (9, .sl 1 (y3.map (cdL 1 cdI).enc)), (10, .v (.int .i64 (y3.length : Int))), (11, .v (.int .i64 c186)), (15, .sl 1 (v189.map cdI.enc)), (16, .v (.int .i64 (v189.length : Int))), (17, .v (.int .i64 c222))]) (by kernel_rfl) ?_)
      refine SemY.seq ?_
      refine SemY.region ?_
      refine RunY.segF (n := 42) e_evening_meetings_k3_ok 1 [(0, .yl 4), (4, .sl 1 (v189.map cdI.enc)), (5, .v (.int .i64 c222)), (6, .v (.int .i64 v225)), (9, .sl 1 (y3.map (cdL 1 cdI).enc)), (10, .v (.int .i64 (y3.length : Int))), (11, .v (.int .i64 c186)), (15, .sl 1 (v189.map cdI.enc)), (16, .v (.int .i64 (v189.length : Int))), (17, .v (.int .i64 c222)), (22, .sl 1 (v189.map cdI.enc))] [some ⟨2, 65, [.ag [.v (.int .i64 y0), .e0]], false⟩, some ⟨2, 65, [.ag [.v (.int .i64 y1), .rf 2 0 c223.length c223.length]], false⟩, some ⟨1, 3, (c223.map cdI.enc), false⟩, some ⟨1, 36, [.sl 1 (y3.map (cdL 1 cdI).enc)], false⟩, none] (by kernel_rfl) ?_
      refine RunY.one e_evening_meetings_k3_ok 0 rfl (op_q (wantedA_none rfl) rfl (q_len (a := .sl 1 (v189.map cdI.enc)) (by kernel_rfl) (len_sl (el := 3) (by kernel_rfl)))) ?_
      refine RunY.segF (n := 42) e_evening_meetings_k3_ok 1 [(0, .yl 4), (4, .sl 1 (v189.map cdI.enc)), (5, .v (.int .i64 c222)), (6, .v (.int .i64 v225)), (9, .sl 1 (y3.map (cdL 1 cdI).enc)), (10, .v (.int .i64 (y3.length : Int))), (11, .v (.int .i64 c186)), (15, .sl 1 (v189.map cdI.enc)), (16, .v (.int .i64 (v189.length : Int))), (17, .v (.int .i64 c222)), (22, .sl 1 (v189.map cdI.enc)), (23, .v (.int .i64 (v189.length : Int))), (24, .v (.int .i64 0))] [some ⟨2, 65, [.ag [.v (.int .i64 y0), .e0]], false⟩, some ⟨2, 65, [.ag [.v (.int .i64 y1), .rf 2 0 c223.length c223.length]], false⟩, some ⟨1, 3, (c223.map cdI.enc), false⟩, some ⟨1, 36, [.sl 1 (y3.map (cdL 1 cdI).enc)], false⟩, none] (by kernel_rfl) ?_
      refine RunY.done rfl (SemY.fr (l' := [(0, .yl 4), (4, .sl 1 (v189.map cdI.enc)), (5, .v (.int .i64 c222)), (6, .v (.int .i64 v225)), (9, .sl 1 (y3.map (cdL 1 cdI).enc)), (10, .v (.int .i64 (y3.length : Int))), (11, .v (.int .i64 c186)), (15, .sl 1 (v189.map cdI.enc)), (16, .v (.int .i64 (v189.length : Int))), (17, .v (.int .i64 c222)), (22, .sl 1 (v189.map cdI.enc)), (23, .v (.int .i64 (v189.length : Int))), (24, .v (.int .i64 0))]) (by kernel_rfl) ?_)
      refine SemY.block ?_
      obtain ⟨r246, hr246, h⟩ := Option.bind_eq_some_iff.1 h
      refine SemY.loop (n := 100000) ?_
      refine SemY.cutN (SemYN.wk (s1 := ⟨Fr 42 [(0, .yl 4), (4, .sl 1 (v189.map cdI.enc)), (5, .v (.int .i64 c222)), (6, .v (.int .i64 v225)), (9, .sl 1 (y3.map (cdL 1 cdI).enc)), (10, .v (.int .i64 (y3.length : Int))), (11, .v (.int .i64 c186)), (15, .sl 1 (v189.map cdI.enc)), (16, .v (.int .i64 (v189.length : Int))), (17, .v (.int .i64 c222)), (22, .sl 1 (v189.map cdI.enc)), (23, .v (.int .i64 (v189.length : Int))), (24, .v (.int .i64 0))], [some ⟨2, 65, [.ag [.v (.int .i64 y0), .e0]], false⟩, some ⟨2, 65, [.ag [.v (.int .i64 y1), .rf 2 0 c223.length c223.length]], false⟩, some ⟨1, 3, (c223.map cdI.enc), false⟩, some ⟨1, 36, [.sl 1 (y3.map (cdL 1 cdI).enc)], false⟩, none]⟩) (WkY.fr (by kernel_rfl)) (evening_meetings_k3_3_ok y0 y1 y3 y4 y5 y6 c186 v189 c222 v225 _ 0 c223 _ hr246)) ?_
      refine SemY.region ?_
      refine RunY.segF (n := 42) e_evening_meetings_k3_ok 2 [(0, .yl 4), (4, .sl 1 (v189.map cdI.enc)), (9, .sl 1 (y3.map (cdL 1 cdI).enc)), (10, .v (.int .i64 (y3.length : Int))), (11, .v (.int .i64 c186)), (15, .sl 1 (v189.map cdI.enc)), (16, .v (.int .i64 (v189.length : Int))), (17, .v (.int .i64 (wr .i64 (c222 + 1))))] [some ⟨2, 65, [.ag [.v (.int .i64 y0), .e0]], false⟩, some ⟨2, 65, [.ag [.v (.int .i64 y1), .rf 2 0 r246.length r246.length]], false⟩, some ⟨1, 3, (r246.map cdI.enc), false⟩, some ⟨1, 36, [.sl 1 (y3.map (cdL 1 cdI).enc)], false⟩, none] (by kernel_rfl) ?_
      refine RunY.done rfl ?_
      exact SemYN.wk (s1 := ⟨Fr 42 [(0, .yl 4), (4, .sl 1 (v189.map cdI.enc)), (9, .sl 1 (y3.map (cdL 1 cdI).enc)), (10, .v (.int .i64 (y3.length : Int))), (11, .v (.int .i64 c186)), (15, .sl 1 (v189.map cdI.enc)), (16, .v (.int .i64 (v189.length : Int))), (17, .v (.int .i64 (wr .i64 (c222 + 1))))], [some ⟨2, 65, [.ag [.v (.int .i64 y0), .e0]], false⟩, some ⟨2, 65, [.ag [.v (.int .i64 y1), .rf 2 0 r246.length r246.length]], false⟩, some ⟨1, 3, (r246.map cdI.enc), false⟩, some ⟨1, 36, [.sl 1 (y3.map (cdL 1 cdI).enc)], false⟩, none]⟩) (WkY.fr (by kernel_rfl)) (ih (wr .i64 (c222 + 1)) r246 h)
    · rw [if_f hb224] at h
      refine SemY.exit ?_
      have hq := Option.some.inj h; subst hq
      exact ⟨rfl, (WkY.fr (by kernel_rfl))⟩
set_option maxHeartbeats 4000000 in
set_option maxRecDepth 100000 in
theorem evening_meetings_k3_1_ok (y0 : Int) (y1 : Int) (y3 : (List (List Int))) (y4 : (List (List (List Int)))) (y5 : Int) (y6 : Int) : ∀ (f : Nat) (c186 : Int) (c187 : (List Int)) (r : ((List Int))), evening_meetings_k3_1 y0 y1 y3 y4 y5 y6 f c186 c187 = some r → SemYN e_evening_meetings_k3 (cx_evening_meetings_k3 y4 y5 y6) (pc cb_evening_meetings_k3 [1, 0, 0]) f ⟨Fr 42 [(0, .yl 4), (9, .sl 1 (y3.map (cdL 1 cdI).enc)), (10, .v (.int .i64 (y3.length : Int))), (11, .v (.int .i64 c186))], [some ⟨2, 65, [.ag [.v (.int .i64 y0), .e0]], false⟩, some ⟨2, 65, [.ag [.v (.int .i64 y1), .rf 2 0 c187.length c187.length]], false⟩, some ⟨1, 3, (c187.map cdI.enc), false⟩, some ⟨1, 36, [.sl 1 (y3.map (cdL 1 cdI).enc)], false⟩, none]⟩ (fun e s => e = (.exit 0) ∧ WkY e_evening_meetings_k3 s ⟨Fr 42 [], [some ⟨2, 65, [.ag [.v (.int .i64 y0), .e0]], false⟩, some ⟨2, 65, [.ag [.v (.int .i64 y1), .rf 2 0 r.length r.length]], false⟩, some ⟨1, 3, (r.map cdI.enc), false⟩, some ⟨1, 36, [.sl 1 (y3.map (cdL 1 cdI).enc)], false⟩, none]⟩) := by
  intro f
  induction f with
  | zero => intro c186 c187 r h; cases h
  | succ f ih0 =>
    intro c186 c187 r h
    have ih := fun (c186 : Int) (c187 : (List Int)) => ih0 c186 c187 r
    unfold evening_meetings_k3_1 at h
    refine SemYN.succ ?_
    refine SemY.seq ?_
    refine SemY.region ?_
    refine RunY.segF (n := 42) e_evening_meetings_k3_ok 1 [(0, .yl 4), (9, .sl 1 (y3.map (cdL 1 cdI).enc)), (10, .v (.int .i64 (y3.length : Int))), (11, .v (.int .i64 c186)), (12, .v (.bool (decide (c186 < (y3.length : Int)))))] [some ⟨2, 65, [.ag [.v (.int .i64 y0), .e0]], false⟩, some ⟨2, 65, [.ag [.v (.int .i64 y1), .rf 2 0 c187.length c187.length]], false⟩, some ⟨1, 3, (c187.map cdI.enc), false⟩, some ⟨1, 36, [.sl 1 (y3.map (cdL 1 cdI).enc)], false⟩, none] (by kernel_rfl) ?_
    refine RunY.done rfl (SemY.fr (l' := [(0, .yl 4), (9, .sl 1 (y3.map (cdL 1 cdI).enc)), (10, .v (.int .i64 (y3.length : Int))), (11, .v (.int .i64 c186)), (12, .v (.bool (decide (c186 < (y3.length : Int)))))]) (by kernel_rfl) ?_)
    refine SemY.seq ?_
    refine SemY.cond (b := (decide (c186 < (y3.length : Int)))) (by kernel_rfl) (fun hb188 => ?_) (fun hb188 => ?_)
    · rw [if_pos hb188] at h
      refine SemY.skip ?_
      refine SemY.seq ?_
      refine SemY.block ?_
      refine SemY.seq ?_
      refine SemY.region ?_
      obtain ⟨v189, hv189, h⟩ := Option.bind_eq_some_iff.1 h
      refine RunY.one e_evening_meetings_k3_ok 0 rfl (op_q (wantedA_none rfl) rfl (q_indexAddr (a := .sl 1 (y3.map (cdL 1 cdI).enc)) (b := .v (.int .i64 c186)) (by kernel_rfl) (by kernel_rfl) (ix_sl (e := (cdL 1 cdI).enc) (el := 29) (k := 1) (ki := .i64) (by kernel_rfl) (by kernel_rfl) hv189))) ?_
      refine RunY.segF (n := 42) e_evening_meetings_k3_ok 2 [(0, .yl 4), (4, .sl 1 (v189.map cdI.enc)), (9, .sl 1 (y3.map (cdL 1 cdI).enc)), (10, .v (.int .i64 (y3.length : Int))), (11, .v (.int .i64 c186))] [some ⟨2, 65, [.ag [.v (.int .i64 y0), .e0]], false⟩, some ⟨2, 65, [.ag [.v (.int .i64 y1), .rf 2 0 c187.length c187.length]], false⟩, some ⟨1, 3, (c187.map cdI.enc), false⟩, some ⟨1, 36, [.sl 1 (y3.map (cdL 1 cdI).enc)], false⟩, none] (by kernel_rfl) ?_
      refine RunY.done rfl (SemY.fr (l' := [(0, .yl 4), (4, .sl 1 (v189.map cdI.enc)), (9, .sl 1 (y3.map (cdL 1 cdI).enc)), (10, .v (.int .i64 (y3.length : Int))), (11, .v (.int .i64 c186))]) (by kernel_rfl) ?_)
      refine SemY.seq ?_
      refine SemY.region ?_
      refine RunY.segF (n := 42) e_evening_meetings_k3_ok 1 [(0, .yl 4), (4, .sl 1 (v189.map cdI.enc)), (9, .sl 1 (y3.map (cdL 1 cdI).enc)), (10, .v (.int .i64 (y3.length : Int))), (11, .v (.int .i64 c186)), (15, .sl 1 (v189.map cdI.enc))] [some ⟨2, 65, [.ag [.v (.int .i64 y0), .e0]], false⟩, some ⟨2, 65, [.ag [.v (.int .i64 y1), .rf 2 0 c187.length c187.length]], false⟩, some ⟨1, 3, (c187.map cdI.enc), false⟩, some ⟨1, 36, [.sl 1 (y3.map (cdL 1 cdI).enc)], false⟩, none] (by kernel_rfl) ?_
      refine RunY.one e_evening_meetings_k3_ok 0 rfl (op_q (wantedA_none rfl) rfl (q_len (a := .sl 1 (v189.map cdI.enc)) (by kernel_rfl) (len_sl (el := 3) (by kernel_rfl)))) ?_
      refine RunY.segF (n := 42) e_evening_meetings_k3_ok 1 [(0, .yl 4), (4, .sl 1 (v189.map cdI.enc)), (9, .sl 1 (y3.map (cdL 1 cdI).enc)), (10, .v (.int .i64 (y3.length : Int))), (11, .v (.int .i64 c186)), (15, .sl 1 (v189.map cdI.enc)), (16, .v (.int .i64 (v189.length : Int))), (17, .v (.int .i64 0))] [some ⟨2, 65, [.ag [.v (.int .i64 y0), .e0]], false⟩, some ⟨2, 65, [.ag [.v (.int .i64 y1), .rf 2 0 c187.length c187.length]], false⟩, some ⟨1, 3, (c187.map cdI.enc), false⟩, some ⟨1, 36, [.sl 1 (y3.map (cdL 1 cdI).enc)], false⟩, none] (by kernel_rfl) ?_
      refine RunY.done rfl (SemY.fr (l' := [(0, .yl 4), (4, .sl 1 (v189.map cdI.enc)), (9, .sl 1 (y3.map (cdL 1 cdI).enc)), (10, .v (.int .i64 (y3.length : Int))), (11, .v (.int .i64 c186)), (15, .sl 1 (v189.map cdI.enc)), (16, .v (.int .i64 (v189.length : Int))), (17, .v (.int .i64 0))]) (by kernel_rfl) ?_)
      refine SemY.block ?_
      obtain ⟨r248, hr248, h⟩ := Option.bind_eq_some_iff.1 h
      refine SemY.loop (n := 100000) ?_
      refine SemY.cutN (SemYN.wk (s1 := ⟨Fr 42 [(0, .yl 4), (4, .sl 1 (v189.map cdI.enc)), (9, .sl 1 (y3.map (cdL 1 cdI).enc)), (10, .v (.int .i64 (y3.length : Int))), (11, .v (.int .i64 c186)), (15, .sl 1 (v189.map cdI.enc)), (16, .v (.int .i64 (v189.length : Int))), (17, .v (.int .i64 0))], [some ⟨2, 65, [.ag [.v (.int .i64 y0), .e0]], false⟩, some ⟨2, 65, [.ag [.v (.int .i64 y1), .rf 2 0 c187.length c187.length]], false⟩, some ⟨1, 3, (c187.map cdI.enc), false⟩, some ⟨1, 36, [.sl 1 (y3.map (cdL 1 cdI).enc)], false⟩, none]⟩) (WkY.fr (by kernel_rfl)) (evening_meetings_k3_2_ok y0 y1 y3 y4 y5 y6 c186 v189 _ 0 c187 _ hr248)) ?_
      refine SemY.region ?_
      refine RunY.segF (n := 42) e_evening_meetings_k3_ok 2 [(0, .yl 4), (9, .sl 1 (y3.map (cdL 1 cdI).enc)), (10, .v (.int .i64 (y3.length : Int))), (11, .v (.int .i64 (wr .i64 (c186 + 1))))] [some ⟨2, 65, [.ag [.v (.int .i64 y0), .e0]], false⟩, some ⟨2, 65, [.ag [.v (.int .i64 y1), .rf 2 0 r248.length r248.length]], false⟩, some ⟨1, 3, (r248.map cdI.enc), false⟩, some ⟨1, 36, [.sl 1 (y3.map (cdL 1 cdI).enc)], false⟩, none] (by kernel_rfl) ?_
      refine RunY.done rfl ?_
      exact SemYN.wk (s1 := ⟨Fr 42 [(0, .yl 4), (9, .sl 1 (y3.map (cdL 1 cdI).enc)), (10, .v (.int .i64 (y3.length : Int))), (11, .v (.int .i64 (wr .i64 (c186 + 1))))], [some ⟨2, 65, [.ag [.v (.int .i64 y0), .e0]], false⟩, some ⟨2, 65, [.ag [.v (.int .i64 y1), .rf 2 0 r248.length r248.length]], false⟩, some ⟨1, 3, (r248.map cdI.enc), false⟩, some ⟨1, 36, [.sl 1 (y3.map (cdL 1 cdI).enc)], false⟩, none]⟩) (WkY.fr (by kernel_rfl)) (ih (wr .i64 (c186 + 1)) r248 h)
    · rw [if_f hb188] at h
      refine SemY.exit ?_
      have hq := Option.some.inj h; subst hq
      exact ⟨rfl, (WkY.fr (by kernel_rfl))⟩
set_option maxHeartbeats 4000000 in
set_option maxRecDepth 100000 in
theorem evening_meetings_k3_sem (y0 : Int) (y1 : Int) (y2 : (List Int)) (y3 : (List (List Int))) (y4 : (List (List (List Int)))) (y5 : Int) (y6 : Int) (r : (List Int)) (h : evening_meetings_k3 y0 y1 y2 y3 y4 y5 y6 = some r) : SemY e_evening_meetings_k3 (cx_evening_meetings_k3 y4 y5 y6) cb_evening_meetings_k3 ⟨Fr 42 (pairs0 0 [.yl 4, .pt 3 0 0]), [some ⟨2, 65, [.ag [.v (.int .i64 y0), .e0]], false⟩, some ⟨2, 65, [.ag [.v (.int .i64 y1), .rf 2 0 y2.length y2.length]], false⟩, some ⟨1, 3, (y2.map cdI.enc), false⟩, some ⟨1, 36, [.sl 1 (y3.map (cdL 1 cdI).enc)], false⟩, none]⟩ fun x s' => (x = .normal ∨ x = .ret) ∧ ∃ ys, resA e_evening_meetings_k3.P s'.fr s'.hp Tryd.f76.results.toList = some ys ∧ (retA ys = .tp [] ∧ s'.hp = [some ⟨2, 65, [.ag [.v (.int .i64 y0), .e0]], false⟩, some ⟨2, 65, [.ag [.v (.int .i64 y1), .rf 2 0 r.length r.length]], false⟩, some ⟨1, 3, (r.map cdI.enc), false⟩, some ⟨1, 36, [.sl 1 (y3.map (cdL 1 cdI).enc)], false⟩, none]) := by
  unfold evening_meetings_k3 at h
  refine SemY.seq ?_
  refine SemY.region ?_
  refine RunY.segF (n := 42) e_evening_meetings_k3_ok 1 [(0, .yl 4), (9, .sl 1 (y3.map (cdL 1 cdI).enc))] [some ⟨2, 65, [.ag [.v (.int .i64 y0), .e0]], false⟩, some ⟨2, 65, [.ag [.v (.int .i64 y1), .rf 2 0 y2.length y2.length]], false⟩, some ⟨1, 3, (y2.map cdI.enc), false⟩, some ⟨1, 36, [.sl 1 (y3.map (cdL 1 cdI).enc)], false⟩, none] (by kernel_rfl) ?_
  refine RunY.one e_evening_meetings_k3_ok 0 rfl (op_q (wantedA_none rfl) rfl (q_len (a := .sl 1 (y3.map (cdL 1 cdI).enc)) (by kernel_rfl) (len_sl (el := 29) (by kernel_rfl)))) ?_
  refine RunY.segF (n := 42) e_evening_meetings_k3_ok 1 [(0, .yl 4), (9, .sl 1 (y3.map (cdL 1 cdI).enc)), (10, .v (.int .i64 (y3.length : Int))), (11, .v (.int .i64 0))] [some ⟨2, 65, [.ag [.v (.int .i64 y0), .e0]], false⟩, some ⟨2, 65, [.ag [.v (.int .i64 y1), .rf 2 0 y2.length y2.length]], false⟩, some ⟨1, 3, (y2.map cdI.enc), false⟩, some ⟨1, 36, [.sl 1 (y3.map (cdL 1 cdI).enc)], false⟩, none] (by kernel_rfl) ?_
  refine RunY.done rfl (SemY.fr (l' := [(0, .yl 4), (9, .sl 1 (y3.map (cdL 1 cdI).enc)), (10, .v (.int .i64 (y3.length : Int))), (11, .v (.int .i64 0))]) (by kernel_rfl) ?_)
  refine SemY.block ?_
  obtain ⟨r250, hr250, h⟩ := Option.bind_eq_some_iff.1 h
  refine SemY.loop (n := 100000) ?_
  refine SemY.cutN (SemYN.wk (s1 := ⟨Fr 42 [(0, .yl 4), (9, .sl 1 (y3.map (cdL 1 cdI).enc)), (10, .v (.int .i64 (y3.length : Int))), (11, .v (.int .i64 0))], [some ⟨2, 65, [.ag [.v (.int .i64 y0), .e0]], false⟩, some ⟨2, 65, [.ag [.v (.int .i64 y1), .rf 2 0 y2.length y2.length]], false⟩, some ⟨1, 3, (y2.map cdI.enc), false⟩, some ⟨1, 36, [.sl 1 (y3.map (cdL 1 cdI).enc)], false⟩, none]⟩) (WkY.fr (by kernel_rfl)) (evening_meetings_k3_1_ok y0 y1 y3 y4 y5 y6 _ 0 y2 _ hr250)) ?_
  have hq := Option.some.inj h; subst hq
  exact ⟨.inl rfl, [], (by kernel_rfl), (by kernel_rfl), (by kernel_rfl)⟩
def evening_meetings_1 (x1 : (List (List (List Int)))) (v1 : Int × Int × (List Int)) : Nat → (List Int) → Int → Option (((List Int)))
  | 0, _, _ => none
  | f + 1, c13, c14 =>
    if (decide (c14 < (x1.length : Int))) = true then
    (idx x1 c14).bind fun v16 =>
    (evening_meetings_k2 0 v1.1 c13 v16).bind fun v17 =>
    (evening_meetings_k3 0 v1.1 c13 v17 x1 (x1.length : Int) c14).bind fun v18 =>
    evening_meetings_1 x1 v1 f v18 (wr .i64 (c14 + 1))
    else
    some c13
def evening_meetings (x0 : Int) (x1 : (List (List (List Int)))) : Option ((Int × (List Int))) :=
  (evening_meetings_k1 0 x0).bind fun v1 =>
  (evening_meetings_1 x1 v1 100000 v1.2.2 0).bind fun r20 =>
  some (v1.1, r20)
def cs_evening_meetings : Cs (Int × (List (List (List Int))) × Unit) := (csC cdI (csC (cdL 1 (cdL 1 (cdL 1 cdI))) csN))
def er_evening_meetings (r : (Int × (List Int))) : AV := (cdG2 cdI (cdL 1 cdI) (fun _ => rfl) (fun _ => rfl)).enc r
set_option maxHeartbeats 4000000 in
set_option maxRecDepth 100000 in
theorem evening_meetings_1_ok (x1 : (List (List (List Int)))) (v1 : Int × Int × (List Int)) : ∀ (f : Nat) (c13 : (List Int)) (c14 : Int) (r : ((List Int))), evening_meetings_1 x1 v1 f c13 c14 = some r → SemN e_evening_meetings ⟨none, false⟩ (pc cb_evening_meetings [1, 1, 0, 1, 0, 0]) f ⟨Fr 32 [(4, .pt 0 0 0), (5, .pt 1 0 0), (12, .sl 1 (x1.map (cdL 1 (cdL 1 cdI)).enc)), (13, .v (.int .i64 (x1.length : Int))), (14, .v (.int .i64 c14))], [some ⟨2, 65, [.ag [.v (.int .i64 0), .e0]], false⟩, some ⟨2, 65, [.ag [.v (.int .i64 v1.1), .rf 2 0 c13.length c13.length]], false⟩, some ⟨1, 3, (c13.map cdI.enc), false⟩]⟩ (fun e s => e = (.exit 0) ∧ Wk e_evening_meetings s ⟨Fr 32 [(4, .pt 0 0 0), (5, .pt 1 0 0)], [some ⟨2, 65, [.ag [.v (.int .i64 0), .e0]], false⟩, some ⟨2, 65, [.ag [.v (.int .i64 v1.1), .rf 2 0 r.length r.length]], false⟩, some ⟨1, 3, (r.map cdI.enc), false⟩]⟩) := by
  intro f
  induction f with
  | zero => intro c13 c14 r h; cases h
  | succ f ih0 =>
    intro c13 c14 r h
    have ih := fun (c13 : (List Int)) (c14 : Int) => ih0 c13 c14 r
    unfold evening_meetings_1 at h
    refine SemN.succ ?_
    refine Sem.seq ?_
    refine Sem.runS (s1 := ⟨Fr 32 [(4, .pt 0 0 0), (5, .pt 1 0 0), (12, .sl 1 (x1.map (cdL 1 (cdL 1 cdI)).enc)), (13, .v (.int .i64 (x1.length : Int))), (14, .v (.int .i64 c14)), (15, .v (.bool (decide (c14 < (x1.length : Int)))))], [some ⟨2, 65, [.ag [.v (.int .i64 0), .e0]], false⟩, some ⟨2, 65, [.ag [.v (.int .i64 v1.1), .rf 2 0 c13.length c13.length]], false⟩, some ⟨1, 3, (c13.map cdI.enc), false⟩]⟩) ?_ ?_
    · refine RunS.segF (n := 32) e_evening_meetings_ok 1 [(4, .pt 0 0 0), (5, .pt 1 0 0), (12, .sl 1 (x1.map (cdL 1 (cdL 1 cdI)).enc)), (13, .v (.int .i64 (x1.length : Int))), (14, .v (.int .i64 c14)), (15, .v (.bool (decide (c14 < (x1.length : Int)))))] [some ⟨2, 65, [.ag [.v (.int .i64 0), .e0]], false⟩, some ⟨2, 65, [.ag [.v (.int .i64 v1.1), .rf 2 0 c13.length c13.length]], false⟩, some ⟨1, 3, (c13.map cdI.enc), false⟩] (by kernel_rfl) ?_
      exact RunS.done rfl (Wk.sel2 [0, 1, 2] (by kernel_rfl) (by kernel_rfl) (by kernel_rfl) ⟨⟨_, rfl, bu_c (by kernel_rfl) (by kernel_rfl)⟩, ⟨_, rfl, bu_c (by kernel_rfl) (by kernel_rfl)⟩, ⟨_, rfl, bu_own⟩, trivial⟩ ⟨lu (by kernel_rfl) (by kernel_rfl), lu (by kernel_rfl) (by kernel_rfl), lu (by kernel_rfl) (by kernel_rfl), lu (by kernel_rfl) (by kernel_rfl), lu (by kernel_rfl) (by kernel_rfl), lu (by kernel_rfl) (by kernel_rfl), trivial⟩)
    refine Sem.seq ?_
    refine Sem.cond (b := (decide (c14 < (x1.length : Int)))) (by kernel_rfl) (fun hb15 => ?_) (fun hb15 => ?_)
    · rw [if_pos hb15] at h
      refine Sem.skip ?_
      refine Sem.seq ?_
      refine Sem.block ?_
      refine Sem.seq ?_
      obtain ⟨v16, hv16, h⟩ := Option.bind_eq_some_iff.1 h
      refine Sem.runS (s1 := ⟨Fr 32 [(4, .pt 0 0 0), (5, .pt 1 0 0), (7, .sl 1 (v16.map (cdL 1 cdI).enc)), (12, .sl 1 (x1.map (cdL 1 (cdL 1 cdI)).enc)), (13, .v (.int .i64 (x1.length : Int))), (14, .v (.int .i64 c14))], [some ⟨2, 65, [.ag [.v (.int .i64 0), .e0]], false⟩, some ⟨2, 65, [.ag [.v (.int .i64 v1.1), .rf 2 0 c13.length c13.length]], false⟩, some ⟨1, 3, (c13.map cdI.enc), false⟩]⟩) ?_ ?_
      · refine RunS.one e_evening_meetings_ok 0 rfl (op_q (wantedA_none rfl) rfl (q_indexAddr (a := .sl 1 (x1.map (cdL 1 (cdL 1 cdI)).enc)) (b := .v (.int .i64 c14)) (by kernel_rfl) (by kernel_rfl) (ix_sl (e := (cdL 1 (cdL 1 cdI)).enc) (el := 36) (k := 1) (ki := .i64) (by kernel_rfl) (by kernel_rfl) hv16))) ?_
        refine RunS.segF (n := 32) e_evening_meetings_ok 2 [(4, .pt 0 0 0), (5, .pt 1 0 0), (7, .sl 1 (v16.map (cdL 1 cdI).enc)), (12, .sl 1 (x1.map (cdL 1 (cdL 1 cdI)).enc)), (13, .v (.int .i64 (x1.length : Int))), (14, .v (.int .i64 c14))] [some ⟨2, 65, [.ag [.v (.int .i64 0), .e0]], false⟩, some ⟨2, 65, [.ag [.v (.int .i64 v1.1), .rf 2 0 c13.length c13.length]], false⟩, some ⟨1, 3, (c13.map cdI.enc), false⟩] (by kernel_rfl) ?_
        exact RunS.done rfl (Wk.sel2 [0, 1, 2] (by kernel_rfl) (by kernel_rfl) (by kernel_rfl) ⟨⟨_, rfl, bu_c (by kernel_rfl) (by kernel_rfl)⟩, ⟨_, rfl, bu_c (by kernel_rfl) (by kernel_rfl)⟩, ⟨_, rfl, bu_own⟩, trivial⟩ ⟨lu (by kernel_rfl) (by kernel_rfl), lu (by kernel_rfl) (by kernel_rfl), lu (by kernel_rfl) (by kernel_rfl), lu (by kernel_rfl) (by kernel_rfl), lu (by kernel_rfl) (by kernel_rfl), lu (by kernel_rfl) (by kernel_rfl), trivial⟩)
      refine Sem.seq ?_
      obtain ⟨v17, hv17, h⟩ := Option.bind_eq_some_iff.1 h
      refine Sem.runS (s1 := ⟨Fr 32 [(4, .pt 0 0 0), (5, .pt 1 0 0), (12, .sl 1 (x1.map (cdL 1 (cdL 1 cdI)).enc)), (13, .v (.int .i64 (x1.length : Int))), (14, .v (.int .i64 c14)), (19, .fn 76 [] [.pt 3 0 0])], [some ⟨2, 65, [.ag [.v (.int .i64 0), .e0]], false⟩, some ⟨2, 65, [.ag [.v (.int .i64 v1.1), .rf 2 0 c13.length c13.length]], false⟩, some ⟨1, 3, (c13.map cdI.enc), false⟩, some ⟨1, 36, [.sl 1 (v17.map (cdL 1 cdI).enc)], false⟩]⟩) ?_ ?_
      · refine RunS.segF (n := 32) e_evening_meetings_ok 1 [(4, .pt 0 0 0), (5, .pt 1 0 0), (12, .sl 1 (x1.map (cdL 1 (cdL 1 cdI)).enc)), (13, .v (.int .i64 (x1.length : Int))), (14, .v (.int .i64 c14)), (18, .sl 1 (v16.map (cdL 1 cdI).enc))] [some ⟨2, 65, [.ag [.v (.int .i64 0), .e0]], false⟩, some ⟨2, 65, [.ag [.v (.int .i64 v1.1), .rf 2 0 c13.length c13.length]], false⟩, some ⟨1, 3, (c13.map cdI.enc), false⟩] (by kernel_rfl) ?_
        refine RunS.inlY (fid := 67) (caps := []) (xs := [.sl 1 (v16.map (cdL 1 cdI).enc)]) (fn := Tryd.f67) (Out := fun x h' => x = .fn 76 [] [.pt 3 0 0] ∧ h' = [some ⟨2, 65, [.ag [.v (.int .i64 0), .e0]], false⟩, some ⟨2, 65, [.ag [.v (.int .i64 v1.1), .rf 2 0 c13.length c13.length]], false⟩, some ⟨1, 3, (c13.map cdI.enc), false⟩, some ⟨1, 36, [.sl 1 (v17.map (cdL 1 cdI).enc)], false⟩]) rfl rfl e_evening_meetings_k2_ok rfl rfl rfl (wantedA_none rfl) (by kernel_rfl) (by kernel_rfl) (by kernel_rfl) (by kernel_rfl) (by show 1 ≤ 4; decide) (evening_meetings_k2_sem 0 v1.1 c13 v16 _ hv17) ?_
        rintro x h' ⟨rfl, rfl⟩
        exact RunS.done rfl (Wk.sel2 [0, 1, 2, 3] (by kernel_rfl) (by kernel_rfl) (by kernel_rfl) ⟨⟨_, rfl, bu_c (by kernel_rfl) (by kernel_rfl)⟩, ⟨_, rfl, bu_c (by kernel_rfl) (by kernel_rfl)⟩, ⟨_, rfl, bu_own⟩, ⟨_, rfl, bu_c (by kernel_rfl) (by kernel_rfl)⟩, trivial⟩ ⟨lu (by kernel_rfl) (by kernel_rfl), lu (by kernel_rfl) (by kernel_rfl), lu (by kernel_rfl) (by kernel_rfl), lu (by kernel_rfl) (by kernel_rfl), lu (by kernel_rfl) (by kernel_rfl), lu (by kernel_rfl) (by kernel_rfl), trivial⟩)
      refine Sem.block ?_
      obtain ⟨v18, hv18, h⟩ := Option.bind_eq_some_iff.1 h
      refine Sem.range (gid := 76) (caps := [.pt 3 0 0]) (fn := Tryd.f76) (Out := fun x h' => x = .tp [] ∧ h' = [some ⟨2, 65, [.ag [.v (.int .i64 0), .e0]], false⟩, some ⟨2, 65, [.ag [.v (.int .i64 v1.1), .rf 2 0 v18.length v18.length]], false⟩, some ⟨1, 3, (v18.map cdI.enc), false⟩, some ⟨1, 36, [.sl 1 (v17.map (cdL 1 cdI).enc)], false⟩, none]) rfl rfl e_evening_meetings_k3_ok rfl rfl rfl (by kernel_rfl) (by kernel_rfl) (by kernel_rfl) (by kernel_rfl) (by kernel_rfl) (by show 2 ≤ 42; decide) (evening_meetings_k3_sem 0 v1.1 c13 v17 x1 (x1.length : Int) c14 _ hv18) ?_
      rintro x h' ⟨-, rfl⟩
      refine Sem.runS (s1 := ⟨Fr 32 [(4, .pt 0 0 0), (5, .pt 1 0 0), (12, .sl 1 (x1.map (cdL 1 (cdL 1 cdI)).enc)), (13, .v (.int .i64 (x1.length : Int))), (14, .v (.int .i64 (wr .i64 (c14 + 1))))], [some ⟨2, 65, [.ag [.v (.int .i64 0), .e0]], false⟩, some ⟨2, 65, [.ag [.v (.int .i64 v1.1), .rf 2 0 v18.length v18.length]], false⟩, some ⟨1, 3, (v18.map cdI.enc), false⟩]⟩) ?_ ?_
      · refine RunS.segF (n := 32) e_evening_meetings_ok 2 [(4, .pt 0 0 0), (5, .pt 1 0 0), (12, .sl 1 (x1.map (cdL 1 (cdL 1 cdI)).enc)), (13, .v (.int .i64 (x1.length : Int))), (14, .v (.int .i64 (wr .i64 (c14 + 1))))] [some ⟨2, 65, [.ag [.v (.int .i64 0), .e0]], false⟩, some ⟨2, 65, [.ag [.v (.int .i64 v1.1), .rf 2 0 v18.length v18.length]], false⟩, some ⟨1, 3, (v18.map cdI.enc), false⟩, some ⟨1, 36, [.sl 1 (v17.map (cdL 1 cdI).enc)], false⟩, none] (by kernel_rfl) ?_
        exact RunS.done rfl (Wk.sel2 [0, 1, 2] (by kernel_rfl) (by kernel_rfl) (by kernel_rfl) ⟨⟨_, rfl, bu_c (by kernel_rfl) (by kernel_rfl)⟩, ⟨_, rfl, bu_c (by kernel_rfl) (by kernel_rfl)⟩, ⟨_, rfl, bu_own⟩, trivial⟩ ⟨lu (by kernel_rfl) (by kernel_rfl), lu (by kernel_rfl) (by kernel_rfl), lu (by kernel_rfl) (by kernel_rfl), lu (by kernel_rfl) (by kernel_rfl), lu (by kernel_rfl) (by kernel_rfl), trivial⟩)
      exact SemN.wk (s1 := ⟨Fr 32 [(4, .pt 0 0 0), (5, .pt 1 0 0), (12, .sl 1 (x1.map (cdL 1 (cdL 1 cdI)).enc)), (13, .v (.int .i64 (x1.length : Int))), (14, .v (.int .i64 (wr .i64 (c14 + 1))))], [some ⟨2, 65, [.ag [.v (.int .i64 0), .e0]], false⟩, some ⟨2, 65, [.ag [.v (.int .i64 v1.1), .rf 2 0 v18.length v18.length]], false⟩, some ⟨1, 3, (v18.map cdI.enc), false⟩]⟩) (Wk.sel2 [0, 1, 2] (by kernel_rfl) (by kernel_rfl) (by kernel_rfl) ⟨⟨_, rfl, bu_c (by kernel_rfl) (by kernel_rfl)⟩, ⟨_, rfl, bu_c (by kernel_rfl) (by kernel_rfl)⟩, ⟨_, rfl, bu_own⟩, trivial⟩ ⟨lu (by kernel_rfl) (by kernel_rfl), lu (by kernel_rfl) (by kernel_rfl), lu (by kernel_rfl) (by kernel_rfl), lu (by kernel_rfl) (by kernel_rfl), lu (by kernel_rfl) (by kernel_rfl), trivial⟩) (ih v18 (wr .i64 (c14 + 1)) h)
    · rw [if_f hb15] at h
      refine Sem.exit ?_
      have hq := Option.some.inj h; subst hq
      exact ⟨rfl, (Wk.sel2 [0, 1, 2] (by kernel_rfl) (by kernel_rfl) (by kernel_rfl) ⟨⟨_, rfl, bu_c (by kernel_rfl) (by kernel_rfl)⟩, ⟨_, rfl, bu_c (by kernel_rfl) (by kernel_rfl)⟩, ⟨_, rfl, bu_own⟩, trivial⟩ ⟨lu (by kernel_rfl) (by kernel_rfl), lu (by kernel_rfl) (by kernel_rfl), trivial⟩)⟩
set_option maxHeartbeats 4000000 in
set_option maxRecDepth 100000 in
theorem evening_meetings_sem (x0 : Int) (x1 : (List (List (List Int)))) (r : (Int × (List Int))) (h : evening_meetings x0 x1 = some r) : Sem e_evening_meetings ⟨none, false⟩ cb_evening_meetings ⟨Fr 32 (pairs0 0 (cs_evening_meetings.enc (x0, x1, ()))), []⟩ fun e s' => (e = .normal ∨ e = .ret) ∧ ∃ xs, resA e_evening_meetings.P s'.fr s'.hp Tryd.f46.results.toList = some xs ∧ retA xs = er_evening_meetings r := by
  unfold evening_meetings at h
  refine Sem.wkQ (Sem.wk (s1 := ⟨Fr 32 [(0, .v (.int .i64 x0)), (1, .sl 1 (x1.map (cdL 1 (cdL 1 cdI)).enc))], []⟩) (Wk.fr (by kernel_rfl)) ?_)
  refine Sem.seq ?_
  refine Sem.runS (s1 := ⟨Fr 32 [(0, .v (.int .i64 x0)), (1, .sl 1 (x1.map (cdL 1 (cdL 1 cdI)).enc)), (4, .pt 0 0 0)], [some ⟨2, 65, [.ag [.v (.int .i64 0), .e0]], false⟩]⟩) ?_ ?_
  · refine RunS.segF (n := 32) e_evening_meetings_ok 1 [(0, .v (.int .i64 x0)), (1, .sl 1 (x1.map (cdL 1 (cdL 1 cdI)).enc)), (4, .pt 0 0 0)] [some ⟨2, 65, [.ag [.v (.int .i64 0), .e0]], false⟩] (by kernel_rfl) ?_
    exact RunS.done rfl (Wk.sel2 [0] (by kernel_rfl) (by kernel_rfl) (by kernel_rfl) ⟨⟨_, rfl, bu_c (by kernel_rfl) (by kernel_rfl)⟩, trivial⟩ ⟨lu (by kernel_rfl) (by kernel_rfl), lu (by kernel_rfl) (by kernel_rfl), lu (by kernel_rfl) (by kernel_rfl), trivial⟩)
  refine Sem.seq ?_
  obtain ⟨v1, hv1, h⟩ := Option.bind_eq_some_iff.1 h
  refine Sem.runS (s1 := ⟨Fr 32 [(1, .sl 1 (x1.map (cdL 1 (cdL 1 cdI)).enc)), (4, .pt 0 0 0), (5, .pt 1 0 0)], [some ⟨2, 65, [.ag [.v (.int .i64 0), .e0]], false⟩, some ⟨2, 65, [.ag [.v (.int .i64 v1.1), .rf 2 0 v1.2.2.length v1.2.2.length]], false⟩, some ⟨1, 3, (v1.2.2.map cdI.enc), false⟩]⟩) ?_ ?_
  · refine RunS.segF (n := 32) e_evening_meetings_ok 1 [(1, .sl 1 (x1.map (cdL 1 (cdL 1 cdI)).enc)), (4, .pt 0 0 0), (10, .v (.int .i64 x0))] [some ⟨2, 65, [.ag [.v (.int .i64 0), .e0]], false⟩] (by kernel_rfl) ?_
    refine RunS.inlY (fid := 48) (caps := []) (xs := [.v (.int .i64 x0)]) (fn := Tryd.f48) (Out := fun x h' => x = .ag [.v (.int .i64 v1.1), .rf 2 0 v1.2.2.length v1.2.2.length] ∧ h' = [some ⟨2, 65, [.ag [.v (.int .i64 0), .e0]], false⟩, some ⟨2, 65, [.ag [.v (.int .i64 v1.2.1), .rf 2 0 v1.2.2.length v1.2.2.length]], false⟩, some ⟨1, 3, (v1.2.2.map cdI.enc), false⟩]) rfl rfl e_evening_meetings_k1_ok rfl rfl rfl (wantedA_none rfl) (by kernel_rfl) (by kernel_rfl) (by kernel_rfl) (by kernel_rfl) (by show 1 ≤ 9; decide) (evening_meetings_k1_sem 0 x0 _ hv1) ?_
    rintro x h' ⟨rfl, rfl⟩
    refine RunS.segF (n := 32) e_evening_meetings_ok 2 [(1, .sl 1 (x1.map (cdL 1 (cdL 1 cdI)).enc)), (4, .pt 0 0 0), (5, .pt 3 0 0)] [some ⟨2, 65, [.ag [.v (.int .i64 0), .e0]], false⟩, some ⟨2, 65, [.ag [.v (.int .i64 v1.2.1), .rf 2 0 v1.2.2.length v1.2.2.length]], false⟩, some ⟨1, 3, (v1.2.2.map cdI.enc), false⟩, some ⟨2, 65, [.ag [.v (.int .i64 v1.1), .rf 2 0 v1.2.2.length v1.2.2.length]], false⟩] (by kernel_rfl) ?_
    exact RunS.done rfl (Wk.sel2 [0, 3, 2] (by kernel_rfl) (by kernel_rfl) (by kernel_rfl) ⟨⟨_, rfl, bu_c (by kernel_rfl) (by kernel_rfl)⟩, ⟨_, rfl, bu_c (by kernel_rfl) (by kernel_rfl)⟩, ⟨_, rfl, bu_own⟩, trivial⟩ ⟨lu (by kernel_rfl) (by kernel_rfl), lu (by kernel_rfl) (by kernel_rfl), lu (by kernel_rfl) (by kernel_rfl), trivial⟩)
  refine Sem.seq ?_
  refine Sem.seq ?_
  refine Sem.runS (s1 := ⟨Fr 32 [(4, .pt 0 0 0), (5, .pt 1 0 0), (12, .sl 1 (x1.map (cdL 1 (cdL 1 cdI)).enc)), (13, .v (.int .i64 (x1.length : Int))), (14, .v (.int .i64 0))], [some ⟨2, 65, [.ag [.v (.int .i64 0), .e0]], false⟩, some ⟨2, 65, [.ag [.v (.int .i64 v1.1), .rf 2 0 v1.2.2.length v1.2.2.length]], false⟩, some ⟨1, 3, (v1.2.2.map cdI.enc), false⟩]⟩) ?_ ?_
  · refine RunS.segF (n := 32) e_evening_meetings_ok 1 [(4, .pt 0 0 0), (5, .pt 1 0 0), (12, .sl 1 (x1.map (cdL 1 (cdL 1 cdI)).enc))] [some ⟨2, 65, [.ag [.v (.int .i64 0), .e0]], false⟩, some ⟨2, 65, [.ag [.v (.int .i64 v1.1), .rf 2 0 v1.2.2.length v1.2.2.length]], false⟩, some ⟨1, 3, (v1.2.2.map cdI.enc), false⟩] (by kernel_rfl) ?_
    refine RunS.one e_evening_meetings_ok 0 rfl (op_q (wantedA_none rfl) rfl (q_len (a := .sl 1 (x1.map (cdL 1 (cdL 1 cdI)).enc)) (by kernel_rfl) (len_sl (el := 36) (by kernel_rfl)))) ?_
    refine RunS.segF (n := 32) e_evening_meetings_ok 1 [(4, .pt 0 0 0), (5, .pt 1 0 0), (12, .sl 1 (x1.map (cdL 1 (cdL 1 cdI)).enc)), (13, .v (.int .i64 (x1.length : Int))), (14, .v (.int .i64 0))] [some ⟨2, 65, [.ag [.v (.int .i64 0), .e0]], false⟩, some ⟨2, 65, [.ag [.v (.int .i64 v1.1), .rf 2 0 v1.2.2.length v1.2.2.length]], false⟩, some ⟨1, 3, (v1.2.2.map cdI.enc), false⟩] (by kernel_rfl) ?_
    exact RunS.done rfl (Wk.sel2 [0, 1, 2] (by kernel_rfl) (by kernel_rfl) (by kernel_rfl) ⟨⟨_, rfl, bu_c (by kernel_rfl) (by kernel_rfl)⟩, ⟨_, rfl, bu_c (by kernel_rfl) (by kernel_rfl)⟩, ⟨_, rfl, bu_own⟩, trivial⟩ ⟨lu (by kernel_rfl) (by kernel_rfl), lu (by kernel_rfl) (by kernel_rfl), lu (by kernel_rfl) (by kernel_rfl), lu (by kernel_rfl) (by kernel_rfl), lu (by kernel_rfl) (by kernel_rfl), trivial⟩)
  refine Sem.block ?_
  obtain ⟨r20, hr20, h⟩ := Option.bind_eq_some_iff.1 h
  refine Sem.loop (n := 100000) ?_
  refine Sem.cutN (SemN.wk (s1 := ⟨Fr 32 [(4, .pt 0 0 0), (5, .pt 1 0 0), (12, .sl 1 (x1.map (cdL 1 (cdL 1 cdI)).enc)), (13, .v (.int .i64 (x1.length : Int))), (14, .v (.int .i64 0))], [some ⟨2, 65, [.ag [.v (.int .i64 0), .e0]], false⟩, some ⟨2, 65, [.ag [.v (.int .i64 v1.1), .rf 2 0 v1.2.2.length v1.2.2.length]], false⟩, some ⟨1, 3, (v1.2.2.map cdI.enc), false⟩]⟩) (Wk.sel2 [0, 1, 2] (by kernel_rfl) (by kernel_rfl) (by kernel_rfl) ⟨⟨_, rfl, bu_c (by kernel_rfl) (by kernel_rfl)⟩, ⟨_, rfl, bu_c (by kernel_rfl) (by kernel_rfl)⟩, ⟨_, rfl, bu_own⟩, trivial⟩ ⟨lu (by kernel_rfl) (by kernel_rfl), lu (by kernel_rfl) (by kernel_rfl), lu (by kernel_rfl) (by kernel_rfl), lu (by kernel_rfl) (by kernel_rfl), lu (by kernel_rfl) (by kernel_rfl), trivial⟩) (evening_meetings_1_ok x1 v1 _ v1.2.2 0 _ hr20)) ?_
  refine Sem.seq ?_
  refine Sem.runS (s1 := ⟨Fr 32 [(4, .pt 0 0 0)], [some ⟨2, 65, [.ag [.v (.int .i64 v1.1), .rf 1 0 r20.length r20.length]], false⟩, some ⟨1, 3, (r20.map cdI.enc), false⟩]⟩) ?_ ?_
  · refine RunS.segF (n := 32) e_evening_meetings_ok 2 [(4, .pt 0 0 0)] [some ⟨2, 65, [.ag [.v (.int .i64 v1.1), .rf 2 0 r20.length r20.length]], false⟩, some ⟨2, 65, [.ag [.v (.int .i64 v1.1), .rf 2 0 r20.length r20.length]], false⟩, some ⟨1, 3, (r20.map cdI.enc), false⟩] (by kernel_rfl) ?_
    exact RunS.done rfl (Wk.sel2 [0, 2] (by kernel_rfl) (by kernel_rfl) (by kernel_rfl) ⟨⟨_, rfl, bu_c (by kernel_rfl) (by kernel_rfl)⟩, ⟨_, rfl, bu_own⟩, trivial⟩ ⟨lu (by kernel_rfl) (by kernel_rfl), trivial⟩)
  refine Sem.ret ?_
  have hq := Option.some.inj h; subst hq
  exact ⟨⟨Fr 32 [(4, .pt 0 0 0)], [some ⟨2, 65, [.ag [.v (.int .i64 v1.1), .sl 1 (r20.map cdI.enc)]], false⟩]⟩, (Wk.trans (s1 := ⟨Fr 32 [(4, .pt 0 0 0)], [some ⟨2, 65, [.ag [.v (.int .i64 v1.1), .sl 1 (r20.map cdI.enc)]], false⟩, none]⟩) (Wk.frzG2 1 (.inl (by kernel_rfl)) ⟨.inr (.inr ⟨_, _, _, _, rfl, rfl, ⟨(.inr ⟨_, _, rfl, rfl, ⟨.inl rfl, fz_rlT (c := cdI) (xs := r20) (t := 3) (by kernel_rfl), trivial⟩⟩), trivial⟩⟩), .inl rfl, trivial⟩ ⟨⟨.pt 0 0 0, (by kernel_rfl), (.inl (.inl rfl))⟩, trivial⟩) (Wk.sel2 [0] (by kernel_rfl) (by kernel_rfl) (by kernel_rfl) ⟨⟨_, rfl, bu_c (by kernel_rfl) (by kernel_rfl)⟩, trivial⟩ ⟨lu (by kernel_rfl) (by kernel_rfl), trivial⟩)), .inr rfl, [.ag [.v (.int .i64 v1.1), .sl 1 (r20.map cdI.enc)]], (by kernel_rfl), (by kernel_rfl)⟩
def t_evening_meetings : List AV → Option AV := told cs_evening_meetings (fun a => evening_meetings a.1 a.2.1) er_evening_meetings
theorem x_evening_meetings : XOk 46 t_evening_meetings := by
  refine EnvOk.x (E := e_evening_meetings) (contract_ok e_evening_meetings_ok (fn := Tryd.f46) (c := cb_evening_meetings) ?h1 ?h2 ⟨Tryd.call46⟩ cs_evening_meetings (fun a => evening_meetings a.1 a.2.1) er_evening_meetings (fun a => (by show 2 ≤ 32; decide)) ?h3 ?h4) rfl rfl
  case h1 => kernel_rfl
  case h2 => kernel_rfl
  case h3 => intro b; kernel_rfl
  case h4 => exact fun a b h => evening_meetings_sem a.1 a.2.1 b h
end Go.Proofs.YtnmkejapogklmaaDoor

namespace Go.Proofs.YtnmkejapogklmaaDoor
open Go.RowKit
/- trestle/evening.extremes -/
noncomputable def e_evening_extremes : Env := (E0.withX 46 t_evening_meetings)
theorem e_evening_extremes_ok : EnvOk e_evening_extremes := (EnvOk.withX E0_ok x_evening_meetings.1 x_evening_meetings.2)
noncomputable def cb_evening_extremes : Code := codeOf Tryd.f44
def evening_extremes_2 (x0 : Int) (v1 : (Int × (List Int))) (c33 : Int) : Nat → Int → Int → Int → Option ((Int × Int))
  | 0, _, _, _ => none
  | f + 1, c47, c48, c49 =>
    if (decide (c49 < c33)) = true then
    (square_at (v1.1, v1.2) c33 c49).bind fun v51 =>
    (square_at (v1.1, v1.2) c33 c49).bind fun v52 =>
    evening_extremes_2 x0 v1 c33 f (mnI c47 v51) (mxI c48 v52) (wr .i64 (c49 + 1))
    else
    some (c47, c48)
def evening_extremes_1 (x0 : Int) (v1 : (Int × (List Int))) : Nat → Int → Int → Int → Option ((Int × Int))
  | 0, _, _, _ => none
  | f + 1, c31, c32, c33 =>
    if (decide (c33 < x0)) = true then
    (evening_extremes_2 x0 v1 c33 100000 c31 c32 0).bind fun r55 =>
    evening_extremes_1 x0 v1 f r55.1 r55.2 (wr .i64 (c33 + 1))
    else
    some (c31, c32)
def evening_extremes_j3 (x0 : Int) (r58 : Int × Int) : Option ((Int)) :=
  if (x0 == 1) = true then
  some 0
  else
  some r58.1
def evening_extremes (x0 : Int) (x1 : (List (List (List Int)))) : Option (Int × Int) :=
  (evening_meetings x0 x1).bind fun v1 =>
  (evening_extremes_1 x0 v1 100000 64 0 0).bind fun r58 =>
  (evening_extremes_j3 x0 r58).bind fun r61 =>
  some (r61, r58.2)
def cs_evening_extremes : Cs (Int × (List (List (List Int))) × Unit) := (csC cdI (csC (cdL 1 (cdL 1 (cdL 1 cdI))) csN))
def er_evening_extremes (r : Int × Int) : AV := .tp [cdI.enc r.1, cdI.enc r.2]
set_option maxHeartbeats 4000000 in
set_option maxRecDepth 100000 in
theorem evening_extremes_2_ok (x0 : Int) (v1 : (Int × (List Int))) (c33 : Int) : ∀ (f : Nat) (c47 : Int) (c48 : Int) (c49 : Int) (r : (Int × Int)), evening_extremes_2 x0 v1 c33 f c47 c48 c49 = some r → SemN e_evening_extremes ⟨none, false⟩ (pc cb_evening_extremes [1, 1, 1, 0, 1, 0, 0, 1, 1, 0, 0, 1, 1, 0, 0]) f ⟨Fr 44 [(0, .v (.int .i64 x0)), (6, .pt 0 0 0), (7, .v (.int .i64 c47)), (8, .v (.int .i64 c48)), (9, .v (.int .i64 c33)), (14, .v (.int .i64 x0)), (15, .v (.int .i64 c33)), (18, .v (.int .i64 c33)), (19, .v (.int .i64 c49))], [some ⟨2, 65, [.ag [.v (.int .i64 v1.1), .sl 1 (v1.2.map cdI.enc)]], false⟩]⟩ (fun e s => e = (.exit 2) ∧ Wk e_evening_extremes s ⟨Fr 44 [(0, .v (.int .i64 x0)), (6, .pt 0 0 0), (7, .v (.int .i64 r.1)), (8, .v (.int .i64 r.2)), (14, .v (.int .i64 x0)), (15, .v (.int .i64 c33))], [some ⟨2, 65, [.ag [.v (.int .i64 v1.1), .sl 1 (v1.2.map cdI.enc)]], false⟩]⟩) := by
  intro f
  induction f with
  | zero => intro c47 c48 c49 r h; cases h
  | succ f ih0 =>
    intro c47 c48 c49 r h
    have ih := fun (c47 : Int) (c48 : Int) (c49 : Int) => ih0 c47 c48 c49 r
    unfold evening_extremes_2 at h
    refine SemN.succ ?_
    refine Sem.seq ?_
    refine Sem.runS (s1 := ⟨Fr 44 [(0, .v (.int .i64 x0)), (6, .pt 0 0 0), (7, .v (.int .i64 c47)), (8, .v (.int .i64 c48)), (9, .v (.int .i64 c33)), (14, .v (.int .i64 x0)), (15, .v (.int .i64 c33)), (18, .v (.int .i64 c33)), (19, .v (.int .i64 c49)), (20, .v (.bool (decide (c49 < c33))))], [some ⟨2, 65, [.ag [.v (.int .i64 v1.1), .sl 1 (v1.2.map cdI.enc)]], false⟩]⟩) ?_ ?_
    · refine RunS.segF (n := 44) e_evening_extremes_ok 1 [(0, .v (.int .i64 x0)), (6, .pt 0 0 0), (7, .v (.int .i64 c47)), (8, .v (.int .i64 c48)), (9, .v (.int .i64 c33)), (14, .v (.int .i64 x0)), (15, .v (.int .i64 c33)), (18, .v (.int .i64 c33)), (19, .v (.int .i64 c49)), (20, .v (.bool (decide (c49 < c33))))] [some ⟨2, 65, [.ag [.v (.int .i64 v1.1), .sl 1 (v1.2.map cdI.enc)]], false⟩] (by kernel_rfl) ?_
      exact RunS.done rfl (Wk.sel2 [0] (by kernel_rfl) (by kernel_rfl) (by kernel_rfl) ⟨⟨_, rfl, bu_c (by kernel_rfl) (by kernel_rfl)⟩, trivial⟩ ⟨lu (by kernel_rfl) (by kernel_rfl), lu (by kernel_rfl) (by kernel_rfl), lu (by kernel_rfl) (by kernel_rfl), lu (by kernel_rfl) (by kernel_rfl), lu (by kernel_rfl) (by kernel_rfl), lu (by kernel_rfl) (by kernel_rfl), lu (by kernel_rfl) (by kernel_rfl), lu (by kernel_rfl) (by kernel_rfl), lu (by kernel_rfl) (by kernel_rfl), lu (by kernel_rfl) (by kernel_rfl), trivial⟩)
    refine Sem.seq ?_
    refine Sem.cond (b := (decide (c49 < c33))) (by kernel_rfl) (fun hb50 => ?_) (fun hb50 => ?_)
    · rw [if_pos hb50] at h
      refine Sem.skip ?_
      refine Sem.seq ?_
      refine Sem.block ?_
      refine Sem.seq ?_
      refine Sem.runS (s1 := ⟨Fr 44 [(0, .v (.int .i64 x0)), (6, .pt 0 0 0), (7, .v (.int .i64 c47)), (8, .v (.int .i64 c48)), (9, .v (.int .i64 c33)), (10, .v (.int .i64 c49)), (14, .v (.int .i64 x0)), (15, .v (.int .i64 c33)), (18, .v (.int .i64 c33)), (19, .v (.int .i64 c49))], [some ⟨2, 65, [.ag [.v (.int .i64 v1.1), .sl 1 (v1.2.map cdI.enc)]], false⟩]⟩) ?_ ?_
      · refine RunS.segF (n := 44) e_evening_extremes_ok 2 [(0, .v (.int .i64 x0)), (6, .pt 0 0 0), (7, .v (.int .i64 c47)), (8, .v (.int .i64 c48)), (9, .v (.int .i64 c33)), (10, .v (.int .i64 c49)), (14, .v (.int .i64 x0)), (15, .v (.int .i64 c33)), (18, .v (.int .i64 c33)), (19, .v (.int .i64 c49))] [some ⟨2, 65, [.ag [.v (.int .i64 v1.1), .sl 1 (v1.2.map cdI.enc)]], false⟩] (by kernel_rfl) ?_
        exact RunS.done rfl (Wk.sel2 [0] (by kernel_rfl) (by kernel_rfl) (by kernel_rfl) ⟨⟨_, rfl, bu_c (by kernel_rfl) (by kernel_rfl)⟩, trivial⟩ ⟨lu (by kernel_rfl) (by kernel_rfl), lu (by kernel_rfl) (by kernel_rfl), lu (by kernel_rfl) (by kernel_rfl), lu (by kernel_rfl) (by kernel_rfl), lu (by kernel_rfl) (by kernel_rfl), lu (by kernel_rfl) (by kernel_rfl), lu (by kernel_rfl) (by kernel_rfl), lu (by kernel_rfl) (by kernel_rfl), lu (by kernel_rfl) (by kernel_rfl), lu (by kernel_rfl) (by kernel_rfl), trivial⟩)
      obtain ⟨v51, hv51, h⟩ := Option.bind_eq_some_iff.1 h
      obtain ⟨v52, hv52, h⟩ := Option.bind_eq_some_iff.1 h
      refine Sem.runDS e_evening_extremes_ok (s1 := ⟨Fr 44 [(0, .v (.int .i64 x0)), (6, .pt 0 0 0), (7, .v (.int .i64 (mnI c47 v51))), (8, .v (.int .i64 (mxI c48 v52))), (9, .v (.int .i64 c33)), (14, .v (.int .i64 x0)), (15, .v (.int .i64 c33)), (18, .v (.int .i64 c33)), (19, .v (.int .i64 c49))], [some ⟨2, 65, [.ag [.v (.int .i64 v1.1), .sl 1 (v1.2.map cdI.enc)]], false⟩]⟩) (by kernel_rfl) ?_ ?_
      · refine RunDS.segF (n := 44) e_evening_extremes_ok 4 [(0, .v (.int .i64 x0)), (6, .pt 0 0 0), (8, .v (.int .i64 c48)), (9, .v (.int .i64 c33)), (10, .v (.int .i64 c49)), (14, .v (.int .i64 x0)), (15, .v (.int .i64 c33)), (18, .v (.int .i64 c33)), (19, .v (.int .i64 c49)), (22, .v (.int .i64 c47)), (23, .ag [.v (.int .i64 v1.1), .sl 1 (v1.2.map cdI.enc)]), (24, .v (.int .i64 c33)), (25, .v (.int .i64 c49))] [some ⟨2, 65, [.ag [.v (.int .i64 v1.1), .sl 1 (v1.2.map cdI.enc)]], false⟩] (by kernel_rfl) (by kernel_rfl) ?_
        refine RunDS.peek rfl x_square_at (u := ((v1.1, v1.2), c33, c49, ())) rfl (wantedA_none rfl) (by kernel_rfl) (by kernel_rfl) rfl hv51 ?_
        refine RunDS.segF (n := 44) e_evening_extremes_ok 7 [(0, .v (.int .i64 x0)), (6, .pt 0 0 0), (9, .v (.int .i64 c33)), (14, .v (.int .i64 x0)), (15, .v (.int .i64 c33)), (18, .v (.int .i64 c33)), (19, .v (.int .i64 c49)), (29, .v (.int .i64 (mnI c47 v51))), (30, .v (.int .i64 c48)), (31, .ag [.v (.int .i64 v1.1), .sl 1 (v1.2.map cdI.enc)]), (32, .v (.int .i64 c33)), (33, .v (.int .i64 c49))] [some ⟨2, 65, [.ag [.v (.int .i64 v1.1), .sl 1 (v1.2.map cdI.enc)]], false⟩] (by kernel_rfl) (by kernel_rfl) ?_
        refine RunDS.peek rfl x_square_at (u := ((v1.1, v1.2), c33, c49, ())) rfl (wantedA_none rfl) (by kernel_rfl) (by kernel_rfl) rfl hv52 ?_
        refine RunDS.segF (n := 44) e_evening_extremes_ok 5 [(0, .v (.int .i64 x0)), (6, .pt 0 0 0), (7, .v (.int .i64 (mnI c47 v51))), (8, .v (.int .i64 (mxI c48 v52))), (9, .v (.int .i64 c33)), (14, .v (.int .i64 x0)), (15, .v (.int .i64 c33)), (18, .v (.int .i64 c33)), (19, .v (.int .i64 c49))] [some ⟨2, 65, [.ag [.v (.int .i64 v1.1), .sl 1 (v1.2.map cdI.enc)]], false⟩] (by kernel_rfl) (by kernel_rfl) ?_
        exact RunDS.done rfl (Wk.sel2 [0] (by kernel_rfl) (by kernel_rfl) (by kernel_rfl) ⟨⟨_, rfl, bu_c (by kernel_rfl) (by kernel_rfl)⟩, trivial⟩ ⟨lu (by kernel_rfl) (by kernel_rfl), lu (by kernel_rfl) (by kernel_rfl), lu (by kernel_rfl) (by kernel_rfl), lu (by kernel_rfl) (by kernel_rfl), lu (by kernel_rfl) (by kernel_rfl), lu (by kernel_rfl) (by kernel_rfl), lu (by kernel_rfl) (by kernel_rfl), lu (by kernel_rfl) (by kernel_rfl), lu (by kernel_rfl) (by kernel_rfl), trivial⟩)
      refine Sem.runS (s1 := ⟨Fr 44 [(0, .v (.int .i64 x0)), (6, .pt 0 0 0), (7, .v (.int .i64 (mnI c47 v51))), (8, .v (.int .i64 (mxI c48 v52))), (9, .v (.int .i64 c33)), (14, .v (.int .i64 x0)), (15, .v (.int .i64 c33)), (18, .v (.int .i64 c33)), (19, .v (.int .i64 (wr .i64 (c49 + 1))))], [some ⟨2, 65, [.ag [.v (.int .i64 v1.1), .sl 1 (v1.2.map cdI.enc)]], false⟩]⟩) ?_ ?_
      · refine RunS.segF (n := 44) e_evening_extremes_ok 2 [(0, .v (.int .i64 x0)), (6, .pt 0 0 0), (7, .v (.int .i64 (mnI c47 v51))), (8, .v (.int .i64 (mxI c48 v52))), (9, .v (.int .i64 c33)), (14, .v (.int .i64 x0)), (15, .v (.int .i64 c33)), (18, .v (.int .i64 c33)), (19, .v (.int .i64 (wr .i64 (c49 + 1))))] [some ⟨2, 65, [.ag [.v (.int .i64 v1.1), .sl 1 (v1.2.map cdI.enc)]], false⟩] (by kernel_rfl) ?_
        exact RunS.done rfl (Wk.sel2 [0] (by kernel_rfl) (by kernel_rfl) (by kernel_rfl) ⟨⟨_, rfl, bu_c (by kernel_rfl) (by kernel_rfl)⟩, trivial⟩ ⟨lu (by kernel_rfl) (by kernel_rfl), lu (by kernel_rfl) (by kernel_rfl), lu (by kernel_rfl) (by kernel_rfl), lu (by kernel_rfl) (by kernel_rfl), lu (by kernel_rfl) (by kernel_rfl), lu (by kernel_rfl) (by kernel_rfl), lu (by kernel_rfl) (by kernel_rfl), lu (by kernel_rfl) (by kernel_rfl), lu (by kernel_rfl) (by kernel_rfl), trivial⟩)
      exact SemN.wk (s1 := ⟨Fr 44 [(0, .v (.int .i64 x0)), (6, .pt 0 0 0), (7, .v (.int .i64 (mnI c47 v51))), (8, .v (.int .i64 (mxI c48 v52))), (9, .v (.int .i64 c33)), (14, .v (.int .i64 x0)), (15, .v (.int .i64 c33)), (18, .v (.int .i64 c33)), (19, .v (.int .i64 (wr .i64 (c49 + 1))))], [some ⟨2, 65, [.ag [.v (.int .i64 v1.1), .sl 1 (v1.2.map cdI.enc)]], false⟩]⟩) (Wk.sel2 [0] (by kernel_rfl) (by kernel_rfl) (by kernel_rfl) ⟨⟨_, rfl, bu_c (by kernel_rfl) (by kernel_rfl)⟩, trivial⟩ ⟨lu (by kernel_rfl) (by kernel_rfl), lu (by kernel_rfl) (by kernel_rfl), lu (by kernel_rfl) (by kernel_rfl), lu (by kernel_rfl) (by kernel_rfl), lu (by kernel_rfl) (by kernel_rfl), lu (by kernel_rfl) (by kernel_rfl), lu (by kernel_rfl) (by kernel_rfl), lu (by kernel_rfl) (by kernel_rfl), lu (by kernel_rfl) (by kernel_rfl), trivial⟩) (ih (mnI c47 v51) (mxI c48 v52) (wr .i64 (c49 + 1)) h)
    · rw [if_f hb50] at h
      refine Sem.exit ?_
      have hq := Option.some.inj h; subst hq
      exact ⟨rfl, (Wk.sel2 [0] (by kernel_rfl) (by kernel_rfl) (by kernel_rfl) ⟨⟨_, rfl, bu_c (by kernel_rfl) (by kernel_rfl)⟩, trivial⟩ ⟨lu (by kernel_rfl) (by kernel_rfl), lu (by kernel_rfl) (by kernel_rfl), lu (by kernel_rfl) (by kernel_rfl), lu (by kernel_rfl) (by kernel_rfl), lu (by kernel_rfl) (by kernel_rfl), lu (by kernel_rfl) (by kernel_rfl), trivial⟩)⟩
set_option maxHeartbeats 4000000 in
set_option maxRecDepth 100000 in
theorem evening_extremes_1_ok (x0 : Int) (v1 : (Int × (List Int))) : ∀ (f : Nat) (c31 : Int) (c32 : Int) (c33 : Int) (r : (Int × Int)), evening_extremes_1 x0 v1 f c31 c32 c33 = some r → SemN e_evening_extremes ⟨none, false⟩ (pc cb_evening_extremes [1, 1, 1, 0, 1, 0, 0]) f ⟨Fr 44 [(0, .v (.int .i64 x0)), (6, .pt 0 0 0), (7, .v (.int .i64 c31)), (8, .v (.int .i64 c32)), (14, .v (.int .i64 x0)), (15, .v (.int .i64 c33))], [some ⟨2, 65, [.ag [.v (.int .i64 v1.1), .sl 1 (v1.2.map cdI.enc)]], false⟩]⟩ (fun e s => e = (.exit 0) ∧ Wk e_evening_extremes s ⟨Fr 44 [(0, .v (.int .i64 x0)), (7, .v (.int .i64 r.1)), (8, .v (.int .i64 r.2))], []⟩) := by
  intro f
  induction f with
  | zero => intro c31 c32 c33 r h; cases h
  | succ f ih0 =>
    intro c31 c32 c33 r h
    have ih := fun (c31 : Int) (c32 : Int) (c33 : Int) => ih0 c31 c32 c33 r
    unfold evening_extremes_1 at h
    refine SemN.succ ?_
    refine Sem.seq ?_
    refine Sem.runS (s1 := ⟨Fr 44 [(0, .v (.int .i64 x0)), (6, .pt 0 0 0), (7, .v (.int .i64 c31)), (8, .v (.int .i64 c32)), (14, .v (.int .i64 x0)), (15, .v (.int .i64 c33)), (16, .v (.bool (decide (c33 < x0))))], [some ⟨2, 65, [.ag [.v (.int .i64 v1.1), .sl 1 (v1.2.map cdI.enc)]], false⟩]⟩) ?_ ?_
    · refine RunS.segF (n := 44) e_evening_extremes_ok 1 [(0, .v (.int .i64 x0)), (6, .pt 0 0 0), (7, .v (.int .i64 c31)), (8, .v (.int .i64 c32)), (14, .v (.int .i64 x0)), (15, .v (.int .i64 c33)), (16, .v (.bool (decide (c33 < x0))))] [some ⟨2, 65, [.ag [.v (.int .i64 v1.1), .sl 1 (v1.2.map cdI.enc)]], false⟩] (by kernel_rfl) ?_
      exact RunS.done rfl (Wk.sel2 [0] (by kernel_rfl) (by kernel_rfl) (by kernel_rfl) ⟨⟨_, rfl, bu_c (by kernel_rfl) (by kernel_rfl)⟩, trivial⟩ ⟨lu (by kernel_rfl) (by kernel_rfl), lu (by kernel_rfl) (by kernel_rfl), lu (by kernel_rfl) (by kernel_rfl), lu (by kernel_rfl) (by kernel_rfl), lu (by kernel_rfl) (by kernel_rfl), lu (by kernel_rfl) (by kernel_rfl), lu (by kernel_rfl) (by kernel_rfl), trivial⟩)
    refine Sem.seq ?_
    refine Sem.cond (b := (decide (c33 < x0))) (by kernel_rfl) (fun hb34 => ?_) (fun hb34 => ?_)
    · rw [if_pos hb34] at h
      refine Sem.skip ?_
      refine Sem.seq ?_
      refine Sem.block ?_
      refine Sem.seq ?_
      refine Sem.runS (s1 := ⟨Fr 44 [(0, .v (.int .i64 x0)), (6, .pt 0 0 0), (7, .v (.int .i64 c31)), (8, .v (.int .i64 c32)), (9, .v (.int .i64 c33)), (14, .v (.int .i64 x0)), (15, .v (.int .i64 c33))], [some ⟨2, 65, [.ag [.v (.int .i64 v1.1), .sl 1 (v1.2.map cdI.enc)]], false⟩]⟩) ?_ ?_
      · refine RunS.segF (n := 44) e_evening_extremes_ok 2 [(0, .v (.int .i64 x0)), (6, .pt 0 0 0), (7, .v (.int .i64 c31)), (8, .v (.int .i64 c32)), (9, .v (.int .i64 c33)), (14, .v (.int .i64 x0)), (15, .v (.int .i64 c33))] [some ⟨2, 65, [.ag [.v (.int .i64 v1.1), .sl 1 (v1.2.map cdI.enc)]], false⟩] (by kernel_rfl) ?_
        exact RunS.done rfl (Wk.sel2 [0] (by kernel_rfl) (by kernel_rfl) (by kernel_rfl) ⟨⟨_, rfl, bu_c (by kernel_rfl) (by kernel_rfl)⟩, trivial⟩ ⟨lu (by kernel_rfl) (by kernel_rfl), lu (by kernel_rfl) (by kernel_rfl), lu (by kernel_rfl) (by kernel_rfl), lu (by kernel_rfl) (by kernel_rfl), lu (by kernel_rfl) (by kernel_rfl), lu (by kernel_rfl) (by kernel_rfl), lu (by kernel_rfl) (by kernel_rfl), trivial⟩)
      refine Sem.seq ?_
      refine Sem.runS (s1 := ⟨Fr 44 [(0, .v (.int .i64 x0)), (6, .pt 0 0 0), (7, .v (.int .i64 c31)), (8, .v (.int .i64 c32)), (9, .v (.int .i64 c33)), (14, .v (.int .i64 x0)), (15, .v (.int .i64 c33)), (18, .v (.int .i64 c33)), (19, .v (.int .i64 0))], [some ⟨2, 65, [.ag [.v (.int .i64 v1.1), .sl 1 (v1.2.map cdI.enc)]], false⟩]⟩) ?_ ?_
      · refine RunS.segF (n := 44) e_evening_extremes_ok 2 [(0, .v (.int .i64 x0)), (6, .pt 0 0 0), (7, .v (.int .i64 c31)), (8, .v (.int .i64 c32)), (9, .v (.int .i64 c33)), (14, .v (.int .i64 x0)), (15, .v (.int .i64 c33)), (18, .v (.int .i64 c33)), (19, .v (.int .i64 0))] [some ⟨2, 65, [.ag [.v (.int .i64 v1.1), .sl 1 (v1.2.map cdI.enc)]], false⟩] (by kernel_rfl) ?_
        exact RunS.done rfl (Wk.sel2 [0] (by kernel_rfl) (by kernel_rfl) (by kernel_rfl) ⟨⟨_, rfl, bu_c (by kernel_rfl) (by kernel_rfl)⟩, trivial⟩ ⟨lu (by kernel_rfl) (by kernel_rfl), lu (by kernel_rfl) (by kernel_rfl), lu (by kernel_rfl) (by kernel_rfl), lu (by kernel_rfl) (by kernel_rfl), lu (by kernel_rfl) (by kernel_rfl), lu (by kernel_rfl) (by kernel_rfl), lu (by kernel_rfl) (by kernel_rfl), lu (by kernel_rfl) (by kernel_rfl), lu (by kernel_rfl) (by kernel_rfl), trivial⟩)
      refine Sem.block ?_
      obtain ⟨r55, hr55, h⟩ := Option.bind_eq_some_iff.1 h
      refine Sem.loop (n := 100000) ?_
      refine Sem.cutN (SemN.wk (s1 := ⟨Fr 44 [(0, .v (.int .i64 x0)), (6, .pt 0 0 0), (7, .v (.int .i64 c31)), (8, .v (.int .i64 c32)), (9, .v (.int .i64 c33)), (14, .v (.int .i64 x0)), (15, .v (.int .i64 c33)), (18, .v (.int .i64 c33)), (19, .v (.int .i64 0))], [some ⟨2, 65, [.ag [.v (.int .i64 v1.1), .sl 1 (v1.2.map cdI.enc)]], false⟩]⟩) (Wk.sel2 [0] (by kernel_rfl) (by kernel_rfl) (by kernel_rfl) ⟨⟨_, rfl, bu_c (by kernel_rfl) (by kernel_rfl)⟩, trivial⟩ ⟨lu (by kernel_rfl) (by kernel_rfl), lu (by kernel_rfl) (by kernel_rfl), lu (by kernel_rfl) (by kernel_rfl), lu (by kernel_rfl) (by kernel_rfl), lu (by kernel_rfl) (by kernel_rfl), lu (by kernel_rfl) (by kernel_rfl), lu (by kernel_rfl) (by kernel_rfl), lu (by kernel_rfl) (by kernel_rfl), lu (by kernel_rfl) (by kernel_rfl), trivial⟩) (evening_extremes_2_ok x0 v1 c33 _ c31 c32 0 _ hr55)) ?_
      refine Sem.runS (s1 := ⟨Fr 44 [(0, .v (.int .i64 x0)), (6, .pt 0 0 0), (7, .v (.int .i64 r55.1)), (8, .v (.int .i64 r55.2)), (14, .v (.int .i64 x0)), (15, .v (.int .i64 (wr .i64 (c33 + 1))))], [some ⟨2, 65, [.ag [.v (.int .i64 v1.1), .sl 1 (v1.2.map cdI.enc)]], false⟩]⟩) ?_ ?_
      · refine RunS.segF (n := 44) e_evening_extremes_ok 2 [(0, .v (.int .i64 x0)), (6, .pt 0 0 0), (7, .v (.int .i64 r55.1)), (8, .v (.int .i64 r55.2)), (14, .v (.int .i64 x0)), (15, .v (.int .i64 (wr .i64 (c33 + 1))))] [some ⟨2, 65, [.ag [.v (.int .i64 v1.1), .sl 1 (v1.2.map cdI.enc)]], false⟩] (by kernel_rfl) ?_
        exact RunS.done rfl (Wk.sel2 [0] (by kernel_rfl) (by kernel_rfl) (by kernel_rfl) ⟨⟨_, rfl, bu_c (by kernel_rfl) (by kernel_rfl)⟩, trivial⟩ ⟨lu (by kernel_rfl) (by kernel_rfl), lu (by kernel_rfl) (by kernel_rfl), lu (by kernel_rfl) (by kernel_rfl), lu (by kernel_rfl) (by kernel_rfl), lu (by kernel_rfl) (by kernel_rfl), lu (by kernel_rfl) (by kernel_rfl), trivial⟩)
      exact SemN.wk (s1 := ⟨Fr 44 [(0, .v (.int .i64 x0)), (6, .pt 0 0 0), (7, .v (.int .i64 r55.1)), (8, .v (.int .i64 r55.2)), (14, .v (.int .i64 x0)), (15, .v (.int .i64 (wr .i64 (c33 + 1))))], [some ⟨2, 65, [.ag [.v (.int .i64 v1.1), .sl 1 (v1.2.map cdI.enc)]], false⟩]⟩) (Wk.sel2 [0] (by kernel_rfl) (by kernel_rfl) (by kernel_rfl) ⟨⟨_, rfl, bu_c (by kernel_rfl) (by kernel_rfl)⟩, trivial⟩ ⟨lu (by kernel_rfl) (by kernel_rfl), lu (by kernel_rfl) (by kernel_rfl), lu (by kernel_rfl) (by kernel_rfl), lu (by kernel_rfl) (by kernel_rfl), lu (by kernel_rfl) (by kernel_rfl), lu (by kernel_rfl) (by kernel_rfl), trivial⟩) (ih r55.1 r55.2 (wr .i64 (c33 + 1)) h)
    · rw [if_f hb34] at h
      refine Sem.exit ?_
      have hq := Option.some.inj h; subst hq
      exact ⟨rfl, (Wk.sel2 [] (by kernel_rfl) (by kernel_rfl) (by kernel_rfl) trivial ⟨lu (by kernel_rfl) (by kernel_rfl), lu (by kernel_rfl) (by kernel_rfl), lu (by kernel_rfl) (by kernel_rfl), trivial⟩)⟩
set_option maxHeartbeats 4000000 in
set_option maxRecDepth 100000 in
theorem evening_extremes_j3_ok (x0 : Int) (r58 : Int × Int) (r : (Int)) (h : evening_extremes_j3 x0 r58 = some r) : Sem e_evening_extremes ⟨none, false⟩ (pc cb_evening_extremes [1, 1, 1, 1, 0, 1]) ⟨Fr 44 [(7, .v (.int .i64 r58.1)), (8, .v (.int .i64 r58.2)), (41, .v (.bool (x0 == 1)))], []⟩ (fun e s => e = .normal ∧ Wk e_evening_extremes s ⟨Fr 44 [(7, .v (.int .i64 r)), (8, .v (.int .i64 r58.2))], []⟩) := by
  unfold evening_extremes_j3 at h
  refine Sem.cond (b := (x0 == 1)) (by kernel_rfl) (fun hb59 => ?_) (fun hb59 => ?_)
  · rw [if_pos hb59] at h
    refine Sem.runS (s1 := ⟨Fr 44 [(7, .v (.int .i64 0)), (8, .v (.int .i64 r58.2))], []⟩) ?_ ?_
    · refine RunS.segF (n := 44) e_evening_extremes_ok 1 [(7, .v (.int .i64 0)), (8, .v (.int .i64 r58.2))] [] (by kernel_rfl) ?_
      exact RunS.done rfl (Wk.fr (by kernel_rfl))
    have hq := Option.some.inj h; subst hq
    exact ⟨rfl, (Wk.fr (by kernel_rfl))⟩
  · rw [if_f hb59] at h
    refine Sem.skip ?_
    have hq := Option.some.inj h; subst hq
    exact ⟨rfl, (Wk.fr (by kernel_rfl))⟩
set_option maxHeartbeats 4000000 in
set_option maxRecDepth 100000 in
theorem evening_extremes_sem (x0 : Int) (x1 : (List (List (List Int)))) (r : Int × Int) (h : evening_extremes x0 x1 = some r) : Sem e_evening_extremes ⟨none, false⟩ cb_evening_extremes ⟨Fr 44 (pairs0 0 (cs_evening_extremes.enc (x0, x1, ()))), []⟩ fun e s' => (e = .normal ∨ e = .ret) ∧ ∃ xs, resA e_evening_extremes.P s'.fr s'.hp Tryd.f44.results.toList = some xs ∧ retA xs = er_evening_extremes r := by
  unfold evening_extremes at h
  refine Sem.wkQ (Sem.wk (s1 := ⟨Fr 44 [(0, .v (.int .i64 x0)), (1, .sl 1 (x1.map (cdL 1 (cdL 1 cdI)).enc))], []⟩) (Wk.fr (by kernel_rfl)) ?_)
  refine Sem.seq ?_
  refine Sem.runS (s1 := ⟨Fr 44 [(0, .v (.int .i64 x0)), (1, .sl 1 (x1.map (cdL 1 (cdL 1 cdI)).enc))], []⟩) ?_ ?_
  · refine RunS.segF (n := 44) e_evening_extremes_ok 2 [(0, .v (.int .i64 x0)), (1, .sl 1 (x1.map (cdL 1 (cdL 1 cdI)).enc))] [] (by kernel_rfl) ?_
    exact RunS.done rfl (Wk.fr (by kernel_rfl))
  refine Sem.seq ?_
  obtain ⟨v1, hv1, h⟩ := Option.bind_eq_some_iff.1 h
  refine Sem.runS (s1 := ⟨Fr 44 [(0, .v (.int .i64 x0)), (6, .pt 0 0 0)], [some ⟨2, 65, [.ag [.v (.int .i64 v1.1), .sl 1 (v1.2.map cdI.enc)]], false⟩]⟩) ?_ ?_
  · refine RunS.segF (n := 44) e_evening_extremes_ok 2 [(0, .v (.int .i64 x0)), (11, .v (.int .i64 x0)), (12, .sl 1 (x1.map (cdL 1 (cdL 1 cdI)).enc))] [] (by kernel_rfl) ?_
    refine RunS.call e_evening_extremes_ok (fid := 46) (s := cs_evening_meetings) (F := fun a => evening_meetings a.1 a.2.1) (er := er_evening_meetings) (xs := [.v (.int .i64 x0), .sl 1 (x1.map (cdL 1 (cdL 1 cdI)).enc)]) (a := (x0, x1, ())) rfl (wantedA_none rfl) (by kernel_rfl) (by kernel_rfl) (by kernel_rfl) (by kernel_rfl) (Sns.cons (Sn.enc (c := cdI) (v := x0)) (Sns.cons (Sn.enc (c := (cdL 1 (cdL 1 (cdL 1 cdI)))) (v := x1)) Sns.nil)) (.inl (by kernel_rfl)) hv1 ?_
    refine RunS.segF (n := 44) e_evening_extremes_ok 2 [(0, .v (.int .i64 x0)), (6, .pt 0 0 0)] [some ⟨2, 65, [.ag [.v (.int .i64 v1.1), .sl 1 (v1.2.map cdI.enc)]], false⟩] (by kernel_rfl) ?_
    exact RunS.done rfl (Wk.sel2 [0] (by kernel_rfl) (by kernel_rfl) (by kernel_rfl) ⟨⟨_, rfl, bu_c (by kernel_rfl) (by kernel_rfl)⟩, trivial⟩ ⟨lu (by kernel_rfl) (by kernel_rfl), lu (by kernel_rfl) (by kernel_rfl), trivial⟩)
  refine Sem.seq ?_
  refine Sem.runS (s1 := ⟨Fr 44 [(0, .v (.int .i64 x0)), (6, .pt 0 0 0), (7, .v (.int .i64 64)), (8, .v (.int .i64 0))], [some ⟨2, 65, [.ag [.v (.int .i64 v1.1), .sl 1 (v1.2.map cdI.enc)]], false⟩]⟩) ?_ ?_
  · refine RunS.segF (n := 44) e_evening_extremes_ok 2 [(0, .v (.int .i64 x0)), (6, .pt 0 0 0), (7, .v (.int .i64 64)), (8, .v (.int .i64 0))] [some ⟨2, 65, [.ag [.v (.int .i64 v1.1), .sl 1 (v1.2.map cdI.enc)]], false⟩] (by kernel_rfl) ?_
    exact RunS.done rfl (Wk.sel2 [0] (by kernel_rfl) (by kernel_rfl) (by kernel_rfl) ⟨⟨_, rfl, bu_c (by kernel_rfl) (by kernel_rfl)⟩, trivial⟩ ⟨lu (by kernel_rfl) (by kernel_rfl), lu (by kernel_rfl) (by kernel_rfl), lu (by kernel_rfl) (by kernel_rfl), lu (by kernel_rfl) (by kernel_rfl), trivial⟩)
  refine Sem.seq ?_
  refine Sem.seq ?_
  refine Sem.runS (s1 := ⟨Fr 44 [(0, .v (.int .i64 x0)), (6, .pt 0 0 0), (7, .v (.int .i64 64)), (8, .v (.int .i64 0)), (14, .v (.int .i64 x0)), (15, .v (.int .i64 0))], [some ⟨2, 65, [.ag [.v (.int .i64 v1.1), .sl 1 (v1.2.map cdI.enc)]], false⟩]⟩) ?_ ?_
  · refine RunS.segF (n := 44) e_evening_extremes_ok 2 [(0, .v (.int .i64 x0)), (6, .pt 0 0 0), (7, .v (.int .i64 64)), (8, .v (.int .i64 0)), (14, .v (.int .i64 x0)), (15, .v (.int .i64 0))] [some ⟨2, 65, [.ag [.v (.int .i64 v1.1), .sl 1 (v1.2.map cdI.enc)]], false⟩] (by kernel_rfl) ?_
    exact RunS.done rfl (Wk.sel2 [0] (by kernel_rfl) (by kernel_rfl) (by kernel_rfl) ⟨⟨_, rfl, bu_c (by kernel_rfl) (by kernel_rfl)⟩, trivial⟩ ⟨lu (by kernel_rfl) (by kernel_rfl), lu (by kernel_rfl) (by kernel_rfl), lu (by kernel_rfl) (by kernel_rfl), lu (by kernel_rfl) (by kernel_rfl), lu (by kernel_rfl) (by kernel_rfl), lu (by kernel_rfl) (by kernel_rfl), trivial⟩)
  refine Sem.block ?_
  obtain ⟨r58, hr58, h⟩ := Option.bind_eq_some_iff.1 h
  refine Sem.loop (n := 100000) ?_
  refine Sem.cutN (SemN.wk (s1 := ⟨Fr 44 [(0, .v (.int .i64 x0)), (6, .pt 0 0 0), (7, .v (.int .i64 64)), (8, .v (.int .i64 0)), (14, .v (.int .i64 x0)), (15, .v (.int .i64 0))], [some ⟨2, 65, [.ag [.v (.int .i64 v1.1), .sl 1 (v1.2.map cdI.enc)]], false⟩]⟩) (Wk.sel2 [0] (by kernel_rfl) (by kernel_rfl) (by kernel_rfl) ⟨⟨_, rfl, bu_c (by kernel_rfl) (by kernel_rfl)⟩, trivial⟩ ⟨lu (by kernel_rfl) (by kernel_rfl), lu (by kernel_rfl) (by kernel_rfl), lu (by kernel_rfl) (by kernel_rfl), lu (by kernel_rfl) (by kernel_rfl), lu (by kernel_rfl) (by kernel_rfl), lu (by kernel_rfl) (by kernel_rfl), trivial⟩) (evening_extremes_1_ok x0 v1 _ 64 0 0 _ hr58)) ?_
  refine Sem.seq ?_
  refine Sem.seq ?_
  refine Sem.runS (s1 := ⟨Fr 44 [(7, .v (.int .i64 r58.1)), (8, .v (.int .i64 r58.2)), (41, .v (.bool (x0 == 1)))], []⟩) ?_ ?_
  · refine RunS.segF (n := 44) e_evening_extremes_ok 2 [(7, .v (.int .i64 r58.1)), (8, .v (.int .i64 r58.2)), (41, .v (.bool (x0 == 1)))] [] (by kernel_rfl) ?_
    exact RunS.done rfl (Wk.fr (by kernel_rfl))
  obtain ⟨r61, hr61, h⟩ := Option.bind_eq_some_iff.1 h
  refine Sem.cut (evening_extremes_j3_ok x0 r58 _ hr61) ?_
  refine Sem.seq ?_
  refine Sem.runS (s1 := ⟨Fr 44 [(4, .v (.int .i64 r61)), (5, .v (.int .i64 r58.2))], []⟩) ?_ ?_
  · refine RunS.segF (n := 44) e_evening_extremes_ok 4 [(4, .v (.int .i64 r61)), (5, .v (.int .i64 r58.2))] [] (by kernel_rfl) ?_
    exact RunS.done rfl (Wk.fr (by kernel_rfl))
  refine Sem.ret ?_
  have hq := Option.some.inj h; subst hq
  exact ⟨⟨Fr 44 [(4, .v (.int .i64 r61)), (5, .v (.int .i64 r58.2))], []⟩, (Wk.fr (by kernel_rfl)), .inr rfl, [.v (.int .i64 r61), .v (.int .i64 r58.2)], (by kernel_rfl), (by kernel_rfl)⟩
def t_evening_extremes : List AV → Option AV := told cs_evening_extremes (fun a => evening_extremes a.1 a.2.1) er_evening_extremes
theorem x_evening_extremes : XOk 44 t_evening_extremes := by
  refine EnvOk.x (E := e_evening_extremes) (contract_ok e_evening_extremes_ok (fn := Tryd.f44) (c := cb_evening_extremes) ?h1 ?h2 ⟨Tryd.call44⟩ cs_evening_extremes (fun a => evening_extremes a.1 a.2.1) er_evening_extremes (fun a => (by show 2 ≤ 44; decide)) ?h3 ?h4) rfl rfl
  case h1 => kernel_rfl
  case h2 => kernel_rfl
  case h3 => intro b; kernel_rfl
  case h4 => exact fun a b h => evening_extremes_sem a.1 a.2.1 b h
end Go.Proofs.YtnmkejapogklmaaDoor

namespace Go.Proofs.YtnmkejapogklmaaDoor
open Go.RowKit
/- trestle/evening.Most -/
noncomputable def e_evening_Most : Env := ((E0.withX 43 t_evening_valid).withX 44 t_evening_extremes)
theorem e_evening_Most_ok : EnvOk e_evening_Most := (EnvOk.withX (EnvOk.withX E0_ok x_evening_valid.1 x_evening_valid.2) x_evening_extremes.1 x_evening_extremes.2)
noncomputable def cb_evening_Most : Code := codeOf Tryd.f12
def evening_Most (x0 : Int) (x1 : (List (List (List Int)))) : Option (Int) :=
  (evening_valid x0 x1).bind fun v1 =>
  if (!v1) = true then
  some 0
  else
  (evening_extremes x0 x1).bind fun v3 =>
  some v3.2
def cs_evening_Most : Cs (Int × (List (List (List Int))) × Unit) := (csC cdI (csC (cdL 1 (cdL 1 (cdL 1 cdI))) csN))
def er_evening_Most (r : Int) : AV := cdI.enc r
set_option maxHeartbeats 4000000 in
set_option maxRecDepth 100000 in
theorem evening_Most_sem (x0 : Int) (x1 : (List (List (List Int)))) (r : Int) (h : evening_Most x0 x1 = some r) : Sem e_evening_Most ⟨none, false⟩ cb_evening_Most ⟨Fr 18 (pairs0 0 (cs_evening_Most.enc (x0, x1, ()))), []⟩ fun e s' => (e = .normal ∨ e = .ret) ∧ ∃ xs, resA e_evening_Most.P s'.fr s'.hp Tryd.f12.results.toList = some xs ∧ retA xs = er_evening_Most r := by
  unfold evening_Most at h
  refine Sem.wkQ (Sem.wk (s1 := ⟨Fr 18 [(0, .v (.int .i64 x0)), (1, .sl 1 (x1.map (cdL 1 (cdL 1 cdI)).enc))], []⟩) (Wk.fr (by kernel_rfl)) ?_)
  refine Sem.seq ?_
  refine Sem.runS (s1 := ⟨Fr 18 [(0, .v (.int .i64 x0)), (1, .sl 1 (x1.map (cdL 1 (cdL 1 cdI)).enc))], []⟩) ?_ ?_
  · refine RunS.segF (n := 18) e_evening_Most_ok 1 [(0, .v (.int .i64 x0)), (1, .sl 1 (x1.map (cdL 1 (cdL 1 cdI)).enc))] [] (by kernel_rfl) ?_
    exact RunS.done rfl (Wk.fr (by kernel_rfl))
  refine Sem.seq ?_
  refine Sem.seq ?_
  obtain ⟨v1, hv1, h⟩ := Option.bind_eq_some_iff.1 h
  refine Sem.runS (s1 := ⟨Fr 18 [(0, .v (.int .i64 x0)), (1, .sl 1 (x1.map (cdL 1 (cdL 1 cdI)).enc)), (10, .v (.bool (!v1)))], []⟩) ?_ ?_
  · refine RunS.segF (n := 18) e_evening_Most_ok 2 [(0, .v (.int .i64 x0)), (1, .sl 1 (x1.map (cdL 1 (cdL 1 cdI)).enc)), (7, .v (.int .i64 x0)), (8, .sl 1 (x1.map (cdL 1 (cdL 1 cdI)).enc))] [] (by kernel_rfl) ?_
    refine RunS.call e_evening_Most_ok (fid := 43) (s := cs_evening_valid) (F := fun a => evening_valid a.1 a.2.1) (er := er_evening_valid) (xs := [.v (.int .i64 x0), .sl 1 (x1.map (cdL 1 (cdL 1 cdI)).enc)]) (a := (x0, x1, ())) rfl (wantedA_none rfl) (by kernel_rfl) (by kernel_rfl) (by kernel_rfl) (by kernel_rfl) (Sns.cons (Sn.enc (c := cdI) (v := x0)) (Sns.cons (Sn.enc (c := (cdL 1 (cdL 1 (cdL 1 cdI)))) (v := x1)) Sns.nil)) (.inl (by kernel_rfl)) hv1 ?_
    refine RunS.segF (n := 18) e_evening_Most_ok 1 [(0, .v (.int .i64 x0)), (1, .sl 1 (x1.map (cdL 1 (cdL 1 cdI)).enc)), (10, .v (.bool (!v1)))] [] (by kernel_rfl) ?_
    exact RunS.done rfl (Wk.fr (by kernel_rfl))
  refine Sem.cond (b := (!v1)) (by kernel_rfl) (fun hb2 => ?_) (fun hb2 => ?_)
  · rw [if_pos hb2] at h
    refine Sem.seq ?_
    refine Sem.runS (s1 := ⟨Fr 18 [(4, .v (.int .i64 0))], []⟩) ?_ ?_
    · refine RunS.segF (n := 18) e_evening_Most_ok 1 [(4, .v (.int .i64 0))] [] (by kernel_rfl) ?_
      exact RunS.done rfl (Wk.fr (by kernel_rfl))
    refine Sem.ret ?_
    have hq := Option.some.inj h; subst hq
    exact ⟨⟨Fr 18 [(4, .v (.int .i64 0))], []⟩, (Wk.fr (by kernel_rfl)), .inr rfl, [.v (.int .i64 0)], (by kernel_rfl), (by kernel_rfl)⟩
  · rw [if_f hb2] at h
    refine Sem.skip ?_
    refine Sem.seq ?_
    obtain ⟨v3, hv3, h⟩ := Option.bind_eq_some_iff.1 h
    refine Sem.runS (s1 := ⟨Fr 18 [(6, .v (.int .i64 v3.2))], []⟩) ?_ ?_
    · refine RunS.segF (n := 18) e_evening_Most_ok 2 [(12, .v (.int .i64 x0)), (13, .sl 1 (x1.map (cdL 1 (cdL 1 cdI)).enc))] [] (by kernel_rfl) ?_
      refine RunS.call e_evening_Most_ok (fid := 44) (s := cs_evening_extremes) (F := fun a => evening_extremes a.1 a.2.1) (er := er_evening_extremes) (xs := [.v (.int .i64 x0), .sl 1 (x1.map (cdL 1 (cdL 1 cdI)).enc)]) (a := (x0, x1, ())) rfl (wantedA_none rfl) (by kernel_rfl) (by kernel_rfl) (by kernel_rfl) (by kernel_rfl) (Sns.cons (Sn.enc (c := cdI) (v := x0)) (Sns.cons (Sn.enc (c := (cdL 1 (cdL 1 (cdL 1 cdI)))) (v := x1)) Sns.nil)) (.inl (by kernel_rfl)) hv3 ?_
      refine RunS.segF (n := 18) e_evening_Most_ok 5 [(6, .v (.int .i64 v3.2))] [] (by kernel_rfl) ?_
      exact RunS.done rfl (Wk.fr (by kernel_rfl))
    refine Sem.seq ?_
    refine Sem.runS (s1 := ⟨Fr 18 [(4, .v (.int .i64 v3.2))], []⟩) ?_ ?_
    · refine RunS.segF (n := 18) e_evening_Most_ok 2 [(4, .v (.int .i64 v3.2))] [] (by kernel_rfl) ?_
      exact RunS.done rfl (Wk.fr (by kernel_rfl))
    refine Sem.ret ?_
    have hq := Option.some.inj h; subst hq
    exact ⟨⟨Fr 18 [(4, .v (.int .i64 v3.2))], []⟩, (Wk.fr (by kernel_rfl)), .inr rfl, [.v (.int .i64 v3.2)], (by kernel_rfl), (by kernel_rfl)⟩
def t_evening_Most : List AV → Option AV := told cs_evening_Most (fun a => evening_Most a.1 a.2.1) er_evening_Most
theorem x_evening_Most : XOk 12 t_evening_Most := by
  refine EnvOk.x (E := e_evening_Most) (contract_ok e_evening_Most_ok (fn := Tryd.f12) (c := cb_evening_Most) ?h1 ?h2 ⟨Tryd.call12⟩ cs_evening_Most (fun a => evening_Most a.1 a.2.1) er_evening_Most (fun a => (by show 2 ≤ 18; decide)) ?h3 ?h4) rfl rfl
  case h1 => kernel_rfl
  case h2 => kernel_rfl
  case h3 => intro b; kernel_rfl
  case h4 => exact fun a b h => evening_Most_sem a.1 a.2.1 b h
end Go.Proofs.YtnmkejapogklmaaDoor
