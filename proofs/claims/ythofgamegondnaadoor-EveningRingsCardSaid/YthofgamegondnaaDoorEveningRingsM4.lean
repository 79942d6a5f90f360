/- Lemmas for the proof. -/
import Derived.Test.YthofgamegondnaaDoorEveningRingsM1
import Derived.Test.YthofgamegondnaaDoorEveningRingsM2
import Derived.Test.YthofgamegondnaaDoorEveningRingsM3
namespace Go.Proofs.YthofgamegondnaaDoor
open Go.RowKit
/- trestle/evening.check -/
noncomputable def e_evening_check : Env := E0
theorem e_evening_check_ok : EnvOk e_evening_check := E0_ok
noncomputable def cb_evening_check : Code := codeOf Tryd.f69
def evening_check_j3 (x0 : Int) (x1 : (List Int)) (x2 : (List (List Int))) (c9 : Int) (v11 : (List Int)) (c18 : Int) (c20 : Bool) (c22 : Int) (v24 : Int) (j32 : Bool × (List Bool)) (v33 : Bool) : Option ((Int)) :=
  if (!v33) = true then
  some (wr .i64 (c18 + 1))
  else
  some c18
def evening_check_2 (x0 : Int) (x1 : (List Int)) (x2 : (List (List Int))) (c9 : Int) (v11 : (List Int)) : Nat → Int → Bool → Bool → (List Bool) → Int → Option ((Int × Bool × Bool × (List Bool)))
  | 0, _, _, _, _, _ => none
  | f + 1, c18, c19, c20, c21, c22 =>
    if (decide (c22 < (v11.length : Int))) = true then
    (idx v11 c22).bind fun v24 =>
    (if (decide (v24 < 0)) = true then some (c21, true) else some (c21, (decide (v24 ≥ x0)))).bind fun j27 =>
    if j27.2 = true then
    evening_check_2 x0 x1 x2 c9 v11 f c18 c19 true j27.1 (wr .i64 (c22 + 1))
    else
    (if c19 = true then some (true, j27.1) else (idx j27.1 v24).bind fun v29 =>
    some (v29, j27.1)).bind fun j32 =>
    (idx j32.2 v24).bind fun v33 =>
    (evening_check_j3 x0 x1 x2 c9 v11 c18 c20 c22 v24 j32 v33).bind fun r36 =>
    (idx j32.2 v24).bind fun v37 =>
    evening_check_2 x0 x1 x2 c9 v11 f r36 j32.1 c20 (j32.2.set v24.toNat true) (wr .i64 (c22 + 1))
    else
    some (c18, c19, c20, c21)
def evening_check_1 (x0 : Int) (x1 : (List Int)) (x2 : (List (List Int))) : Nat → Int → Bool → Bool → (List Bool) → Int → Option ((Int × Bool × Bool) ⊕ (Int))
  | 0, _, _, _, _, _ => none
  | f + 1, c5, c6, c7, c8, c9 =>
    if (decide (c9 < (x2.length : Int))) = true then
    (idx x2 c9).bind fun v11 =>
    (if ((v11.length : Int) == 0) = true then some (c8, true) else if (decide ((x1.length : Int) > 0)) = true then (idx x1 c9).bind fun v12 =>
    some (c8, ((v11.length : Int) != v12)) else some (c8, false)).bind fun j15 =>
    if j15.2 = true then
    some (.inr 2)
    else
    (evening_check_2 x0 x1 x2 c9 v11 100000 c5 c6 c7 j15.1 0).bind fun r44 =>
    evening_check_1 x0 x1 x2 f r44.1 r44.2.1 r44.2.2.1 r44.2.2.2 (wr .i64 (c9 + 1))
    else
    some (.inl (c5, c6, c7))
def evening_check (x0 : Int) (x1 : (List Int)) (x2 : (List (List Int))) : Option (Int) :=
  (if (decide ((x1.length : Int) > 0)) = true then some ((x1.length : Int) != (x2.length : Int)) else some false).bind fun j2 =>
  if j2 = true then
  some 2
  else
  if (mkOk 1 x0) = true then
  (evening_check_1 x0 x1 x2 100000 0 false false (List.replicate x0.toNat false) 0).bind fun r50 =>
  match r50 with
  | (.inl w51) =>
    if w51.2.2 = true then
    some 6
    else
    if w51.2.1 = true then
    some 5
    else
    if (decide (w51.1 < x0)) = true then
    some 2
    else
    some 0
  | (.inr w55) =>
    some w55
  else none
def cs_evening_check : Cs (Int × (List Int) × (List (List Int)) × Unit) := (csC cdI (csC (cdL 1 cdI) (csC (cdL 1 (cdL 1 cdI)) csN)))
def er_evening_check (r : Int) : AV := cdI.enc r
set_option maxHeartbeats 4000000 in
set_option maxRecDepth 100000 in
theorem evening_check_j3_ok (x0 : Int) (x1 : (List Int)) (x2 : (List (List Int))) (c9 : Int) (v11 : (List Int)) (c18 : Int) (c20 : Bool) (c22 : Int) (v24 : Int) (j32 : Bool × (List Bool)) (v33 : Bool) (r : (Int)) (h : evening_check_j3 x0 x1 x2 c9 v11 c18 c20 c22 v24 j32 v33 = some r) : Sem e_evening_check ⟨none, false⟩ (pc cb_evening_check [1, 1, 1, 1, 0, 1, 0, 0, 1, 1, 0, 0, 1, 1, 1, 0, 0, 1, 1, 0, 0, 1, 1, 1, 0, 1]) ⟨Fr 91 [(0, .v (.int .i64 x0)), (1, .sl 1 (x1.map cdI.enc)), (7, .v (.int .i64 c18)), (8, .v (.bool j32.1)), (9, .v (.bool c20)), (10, .rf 0 0 j32.2.length j32.2.length), (14, .v (.int .i64 v24)), (27, .sl 1 (x2.map (cdL 1 cdI).enc)), (28, .v (.int .i64 (x2.length : Int))), (29, .v (.int .i64 c9)), (51, .sl 1 (v11.map cdI.enc)), (52, .v (.int .i64 (v11.length : Int))), (53, .v (.int .i64 c22)), (75, .v (.bool (!v33)))], [some ⟨1, 4, (j32.2.map cdB.enc), false⟩]⟩ (fun e s => e = .normal ∧ Wk e_evening_check s ⟨Fr 91 [(0, .v (.int .i64 x0)), (1, .sl 1 (x1.map cdI.enc)), (7, .v (.int .i64 r)), (8, .v (.bool j32.1)), (9, .v (.bool c20)), (10, .rf 0 0 j32.2.length j32.2.length), (14, .v (.int .i64 v24)), (27, .sl 1 (x2.map (cdL 1 cdI).enc)), (28, .v (.int .i64 (x2.length : Int))), (29, .v (.int .i64 c9)), (51, .sl 1 (v11.map cdI.enc)), (52, .v (.int .i64 (v11.length : Int))), (53, .v (.int .i64 c22))], [some ⟨1, 4, (j32.2.map cdB.enc), false⟩]⟩) := by
  unfold evening_check_j3 at h
  refine Sem.cond (b := (!v33)) (by kernel_rfl) (fun hb34 => ?_) (fun hb34 => ?_)
  · rw [if_pos hb34] at h
    refine Sem.runS (s1 := ⟨Fr 91 [(0, .v (.int .i64 x0)), (1, .sl 1 (x1.map cdI.enc)), (7, .v (.int .i64 (wr .i64 (c18 + 1)))), (8, .v (.bool j32.1)), (9, .v (.bool c20)), (10, .rf 0 0 j32.2.length j32.2.length), (14, .v (.int .i64 v24)), (27, .sl 1 (x2.map (cdL 1 cdI).enc)), (28, .v (.int .i64 (x2.length : Int))), (29, .v (.int .i64 c9)), (51, .sl 1 (v11.map cdI.enc)), (52, .v (.int .i64 (v11.length : Int))), (53, .v (.int .i64 c22))], [some ⟨1, 4, (j32.2.map cdB.enc), false⟩]⟩) ?_ ?_
    · refine RunS.segF (n := 91) e_evening_check_ok 3 [(0, .v (.int .i64 x0)), (1, .sl 1 (x1.map cdI.enc)), (7, .v (.int .i64 (wr .i64 (c18 + 1)))), (8, .v (.bool j32.1)), (9, .v (.bool c20)), (10, .rf 0 0 j32.2.length j32.2.length), (14, .v (.int .i64 v24)), (27, .sl 1 (x2.map (cdL 1 cdI).enc)), (28, .v (.int .i64 (x2.length : Int))), (29, .v (.int .i64 c9)), (51, .sl 1 (v11.map cdI.enc)), (52, .v (.int .i64 (v11.length : Int))), (53, .v (.int .i64 c22))] [some ⟨1, 4, (j32.2.map cdB.enc), false⟩] (by kernel_rfl) ?_
      exact RunS.done rfl (Wk.sel2 [0] (by kernel_rfl) (by kernel_rfl) (by kernel_rfl) ⟨⟨_, rfl, bu_own⟩, trivial⟩ ⟨lu (by kernel_rfl) (by kernel_rfl), lu (by kernel_rfl) (by kernel_rfl), lu (by kernel_rfl) (by kernel_rfl), lu (by kernel_rfl) (by kernel_rfl), lu (by kernel_rfl) (by kernel_rfl), lu (by kernel_rfl) (by kernel_rfl), lu (by kernel_rfl) (by kernel_rfl), lu (by kernel_rfl) (by kernel_rfl), lu (by kernel_rfl) (by kernel_rfl), lu (by kernel_rfl) (by kernel_rfl), lu (by kernel_rfl) (by kernel_rfl), lu (by kernel_rfl) (by kernel_rfl), lu (by kernel_rfl) (by kernel_rfl), trivial⟩)
    have hq := Option.some.inj h; subst hq
    exact ⟨rfl, (Wk.sel2 [0] (by kernel_rfl) (by kernel_rfl) (by kernel_rfl) ⟨⟨_, rfl, bu_own⟩, trivial⟩ ⟨lu (by kernel_rfl) (by kernel_rfl), lu (by kernel_rfl) (by kernel_rfl), lu (by kernel_rfl) (by kernel_rfl), lu (by kernel_rfl) (by kernel_rfl), lu (by kernel_rfl) (by kernel_rfl), lu (by kernel_rfl) (by kernel_rfl), lu (by kernel_rfl) (by kernel_rfl), lu (by kernel_rfl) (by kernel_rfl), lu (by kernel_rfl) (by kernel_rfl), lu (by kernel_rfl) (by kernel_rfl), lu (by kernel_rfl) (by kernel_rfl), lu (by kernel_rfl) (by kernel_rfl), lu (by kernel_rfl) (by kernel_rfl), trivial⟩)⟩
  · rw [if_f hb34] at h
    refine Sem.skip ?_
    have hq := Option.some.inj h; subst hq
    exact ⟨rfl, (Wk.sel2 [0] (by kernel_rfl) (by kernel_rfl) (by kernel_rfl) ⟨⟨_, rfl, bu_own⟩, trivial⟩ ⟨lu (by kernel_rfl) (by kernel_rfl), lu (by kernel_rfl) (by kernel_rfl), lu (by kernel_rfl) (by kernel_rfl), lu (by kernel_rfl) (by kernel_rfl), lu (by kernel_rfl) (by kernel_rfl), lu (by kernel_rfl) (by kernel_rfl), lu (by kernel_rfl) (by kernel_rfl), lu (by kernel_rfl) (by kernel_rfl), lu (by kernel_rfl) (by kernel_rfl), lu (by kernel_rfl) (by kernel_rfl), lu (by kernel_rfl) (by kernel_rfl), lu (by kernel_rfl) (by kernel_rfl), lu (by kernel_rfl) (by kernel_rfl), trivial⟩)⟩
set_option maxHeartbeats 4000000 in
set_option maxRecDepth 100000 in
theorem evening_check_2_ok (x0 : Int) (x1 : (List Int)) (x2 : (List (List Int))) (c9 : Int) (v11 : (List Int)) : ∀ (f : Nat) (c18 : Int) (c19 : Bool) (c20 : Bool) (c21 : (List Bool)) (c22 : Int) (r : (Int × Bool × Bool × (List Bool))), evening_check_2 x0 x1 x2 c9 v11 f c18 c19 c20 c21 c22 = some r → SemN e_evening_check ⟨none, false⟩ (pc cb_evening_check [1, 1, 1, 1, 0, 1, 0, 0, 1, 1, 0, 0, 1, 1, 1, 0, 0]) f ⟨Fr 91 [(0, .v (.int .i64 x0)), (1, .sl 1 (x1.map cdI.enc)), (7, .v (.int .i64 c18)), (8, .v (.bool c19)), (9, .v (.bool c20)), (10, .rf 0 0 c21.length c21.length), (27, .sl 1 (x2.map (cdL 1 cdI).enc)), (28, .v (.int .i64 (x2.length : Int))), (29, .v (.int .i64 c9)), (51, .sl 1 (v11.map cdI.enc)), (52, .v (.int .i64 (v11.length : Int))), (53, .v (.int .i64 c22))], [some ⟨1, 4, (c21.map cdB.enc), false⟩]⟩ (fun e s => e = (.exit 2) ∧ Wk e_evening_check s ⟨Fr 91 [(0, .v (.int .i64 x0)), (1, .sl 1 (x1.map cdI.enc)), (7, .v (.int .i64 r.1)), (8, .v (.bool r.2.1)), (9, .v (.bool r.2.2.1)), (10, .rf 0 0 r.2.2.2.length r.2.2.2.length), (27, .sl 1 (x2.map (cdL 1 cdI).enc)), (28, .v (.int .i64 (x2.length : Int))), (29, .v (.int .i64 c9))], [some ⟨1, 4, (r.2.2.2.map cdB.enc), false⟩]⟩) := by
  intro f
  induction f with
  | zero => intro c18 c19 c20 c21 c22 r h; cases h
  | succ f ih0 =>
    intro c18 c19 c20 c21 c22 r h
    have ih := fun (c18 : Int) (c19 : Bool) (c20 : Bool) (c21 : (List Bool)) (c22 : Int) => ih0 c18 c19 c20 c21 c22 r
    unfold evening_check_2 at h
    refine SemN.succ ?_
    refine Sem.seq ?_
    refine Sem.runS (s1 := ⟨Fr 91 [(0, .v (.int .i64 x0)), (1, .sl 1 (x1.map cdI.enc)), (7, .v (.int .i64 c18)), (8, .v (.bool c19)), (9, .v (.bool c20)), (10, .rf 0 0 c21.length c21.length), (27, .sl 1 (x2.map (cdL 1 cdI).enc)), (28, .v (.int .i64 (x2.length : Int))), (29, .v (.int .i64 c9)), (51, .sl 1 (v11.map cdI.enc)), (52, .v (.int .i64 (v11.length : Int))), (53, .v (.int .i64 c22)), (54, .v (.bool (decide (c22 < (v11.length : Int)))))], [some ⟨1, 4, (c21.map cdB.enc), false⟩]⟩) ?_ ?_
    · refine RunS.segF (n := 91) e_evening_check_ok 1 [(0, .v (.int .i64 x0)), (1, .sl 1 (x1.map cdI.enc)), (7, .v (.int .i64 c18)), (8, .v (.bool c19)), (9, .v (.bool c20)), (10, .rf 0 0 c21.length c21.length), (27, .sl 1 (x2.map (cdL 1 cdI).enc)), (28, .v (.int .i64 (x2.length : Int))), (29, .v (.int .i64 c9)), (51, .sl 1 (v11.map cdI.enc)), (52, .v (.int .i64 (v11.length : Int))), (53, .v (.int .i64 c22)), (54, .v (.bool (decide (c22 < (v11.length : Int)))))] [some ⟨1, 4, (c21.map cdB.enc), false⟩] (by kernel_rfl) ?_
      exact RunS.done rfl (Wk.sel2 [0] (by kernel_rfl) (by kernel_rfl) (by kernel_rfl) ⟨⟨_, rfl, bu_own⟩, trivial⟩ ⟨lu (by kernel_rfl) (by kernel_rfl), lu (by kernel_rfl) (by kernel_rfl), lu (by kernel_rfl) (by kernel_rfl), lu (by kernel_rfl) (by kernel_rfl), lu (by kernel_rfl) (by kernel_rfl), lu (by kernel_rfl) (by kernel_rfl), lu (by kernel_rfl) (by kernel_rfl), lu (by kernel_rfl) (by kernel_rfl), lu (by kernel_rfl) (by kernel_rfl), lu (by kernel_rfl) (by kernel_rfl), lu (by kernel_rfl) (by kernel_rfl), lu (by kernel_rfl) (by kernel_rfl), lu (by kernel_rfl) (by kernel_rfl), trivial⟩)
    refine Sem.seq ?_
    refine Sem.cond (b := (decide (c22 < (v11.length : Int)))) (by kernel_rfl) (fun hb23 => ?_) (fun hb23 => ?_)
    · rw [if_pos hb23] at h
      refine Sem.skip ?_
      refine Sem.seq ?_
      refine Sem.block ?_
      refine Sem.seq ?_
      obtain ⟨v24, hv24, h⟩ := Option.bind_eq_some_iff.1 h
      refine Sem.runS (s1 := ⟨Fr 91 [(0, .v (.int .i64 x0)), (1, .sl 1 (x1.map cdI.enc)), (7, .v (.int .i64 c18)), (8, .v (.bool c19)), (9, .v (.bool c20)), (10, .rf 0 0 c21.length c21.length), (14, .v (.int .i64 v24)), (27, .sl 1 (x2.map (cdL 1 cdI).enc)), (28, .v (.int .i64 (x2.length : Int))), (29, .v (.int .i64 c9)), (51, .sl 1 (v11.map cdI.enc)), (52, .v (.int .i64 (v11.length : Int))), (53, .v (.int .i64 c22))], [some ⟨1, 4, (c21.map cdB.enc), false⟩]⟩) ?_ ?_
      · refine RunS.one e_evening_check_ok 0 rfl (op_q (wantedA_none rfl) rfl (q_indexAddr (a := .sl 1 (v11.map cdI.enc)) (b := .v (.int .i64 c22)) (by kernel_rfl) (by kernel_rfl) (ix_sl (e := cdI.enc) (el := 3) (k := 1) (ki := .i64) (by kernel_rfl) (by kernel_rfl) hv24))) ?_
        refine RunS.segF (n := 91) e_evening_check_ok 2 [(0, .v (.int .i64 x0)), (1, .sl 1 (x1.map cdI.enc)), (7, .v (.int .i64 c18)), (8, .v (.bool c19)), (9, .v (.bool c20)), (10, .rf 0 0 c21.length c21.length), (14, .v (.int .i64 v24)), (27, .sl 1 (x2.map (cdL 1 cdI).enc)), (28, .v (.int .i64 (x2.length : Int))), (29, .v (.int .i64 c9)), (51, .sl 1 (v11.map cdI.enc)), (52, .v (.int .i64 (v11.length : Int))), (53, .v (.int .i64 c22))] [some ⟨1, 4, (c21.map cdB.enc), false⟩] (by kernel_rfl) ?_
        exact RunS.done rfl (Wk.sel2 [0] (by kernel_rfl) (by kernel_rfl) (by kernel_rfl) ⟨⟨_, rfl, bu_own⟩, trivial⟩ ⟨lu (by kernel_rfl) (by kernel_rfl), lu (by kernel_rfl) (by kernel_rfl), lu (by kernel_rfl) (by kernel_rfl), lu (by kernel_rfl) (by kernel_rfl), lu (by kernel_rfl) (by kernel_rfl), lu (by kernel_rfl) (by kernel_rfl), lu (by kernel_rfl) (by kernel_rfl), lu (by kernel_rfl) (by kernel_rfl), lu (by kernel_rfl) (by kernel_rfl), lu (by kernel_rfl) (by kernel_rfl), lu (by kernel_rfl) (by kernel_rfl), lu (by kernel_rfl) (by kernel_rfl), lu (by kernel_rfl) (by kernel_rfl), trivial⟩)
      refine Sem.seq ?_
      refine Sem.seq ?_
      obtain ⟨j27, hj27, h⟩ := Option.bind_eq_some_iff.1 h
      refine Sem.runS (s1 := ⟨Fr 91 [(0, .v (.int .i64 x0)), (1, .sl 1 (x1.map cdI.enc)), (7, .v (.int .i64 c18)), (8, .v (.bool c19)), (9, .v (.bool c20)), (10, .rf 0 0 j27.1.length j27.1.length), (14, .v (.int .i64 v24)), (27, .sl 1 (x2.map (cdL 1 cdI).enc)), (28, .v (.int .i64 (x2.length : Int))), (29, .v (.int .i64 c9)), (51, .sl 1 (v11.map cdI.enc)), (52, .v (.int .i64 (v11.length : Int))), (53, .v (.int .i64 c22)), (63, .v (.bool j27.2))], [some ⟨1, 4, (j27.1.map cdB.enc), false⟩]⟩) ?_ ?_
      · refine RunS.segF (n := 91) e_evening_check_ok 3 [(0, .v (.int .i64 x0)), (1, .sl 1 (x1.map cdI.enc)), (7, .v (.int .i64 c18)), (8, .v (.bool c19)), (9, .v (.bool c20)), (10, .rf 0 0 c21.length c21.length), (14, .v (.int .i64 v24)), (27, .sl 1 (x2.map (cdL 1 cdI).enc)), (28, .v (.int .i64 (x2.length : Int))), (29, .v (.int .i64 c9)), (51, .sl 1 (v11.map cdI.enc)), (52, .v (.int .i64 (v11.length : Int))), (53, .v (.int .i64 c22)), (59, .v (.bool (decide (v24 < 0))))] [some ⟨1, 4, (c21.map cdB.enc), false⟩] (by kernel_rfl) ?_
        rcases Bool.eq_false_or_eq_true (decide (v24 < 0)) with hc39 | hc39
        · rw [if_pos hc39] at hj27
          rw [hc39]
          refine RunS.segF (n := 91) e_evening_check_ok 4 [(0, .v (.int .i64 x0)), (1, .sl 1 (x1.map cdI.enc)), (7, .v (.int .i64 c18)), (8, .v (.bool c19)), (9, .v (.bool c20)), (10, .rf 0 0 c21.length c21.length), (14, .v (.int .i64 v24)), (27, .sl 1 (x2.map (cdL 1 cdI).enc)), (28, .v (.int .i64 (x2.length : Int))), (29, .v (.int .i64 c9)), (51, .sl 1 (v11.map cdI.enc)), (52, .v (.int .i64 (v11.length : Int))), (53, .v (.int .i64 c22)), (60, .tp []), (61, .tp []), (62, .tp []), (63, .v (.bool true))] [some ⟨1, 4, (c21.map cdB.enc), false⟩] (by kernel_rfl) ?_
          have hq := Option.some.inj hj27; subst hq
          exact RunS.done rfl (Wk.sel2 [0] (by kernel_rfl) (by kernel_rfl) (by kernel_rfl) ⟨⟨_, rfl, bu_own⟩, trivial⟩ ⟨lu (by kernel_rfl) (by kernel_rfl), lu (by kernel_rfl) (by kernel_rfl), lu (by kernel_rfl) (by kernel_rfl), lu (by kernel_rfl) (by kernel_rfl), lu (by kernel_rfl) (by kernel_rfl), lu (by kernel_rfl) (by kernel_rfl), lu (by kernel_rfl) (by kernel_rfl), lu (by kernel_rfl) (by kernel_rfl), lu (by kernel_rfl) (by kernel_rfl), lu (by kernel_rfl) (by kernel_rfl), lu (by kernel_rfl) (by kernel_rfl), lu (by kernel_rfl) (by kernel_rfl), lu (by kernel_rfl) (by kernel_rfl), lu (by kernel_rfl) (by kernel_rfl), trivial⟩)
        · rw [if_f hc39] at hj27
          rw [hc39]
          refine RunS.segF (n := 91) e_evening_check_ok 4 [(0, .v (.int .i64 x0)), (1, .sl 1 (x1.map cdI.enc)), (7, .v (.int .i64 c18)), (8, .v (.bool c19)), (9, .v (.bool c20)), (10, .rf 0 0 c21.length c21.length), (14, .v (.int .i64 v24)), (27, .sl 1 (x2.map (cdL 1 cdI).enc)), (28, .v (.int .i64 (x2.length : Int))), (29, .v (.int .i64 c9)), (51, .sl 1 (v11.map cdI.enc)), (52, .v (.int .i64 (v11.length : Int))), (53, .v (.int .i64 c22)), (60, .v (.int .i64 v24)), (61, .v (.int .i64 x0)), (62, .v (.bool (decide (v24 ≥ x0)))), (63, .v (.bool (decide (v24 ≥ x0))))] [some ⟨1, 4, (c21.map cdB.enc), false⟩] (by kernel_rfl) ?_
          have hq := Option.some.inj hj27; subst hq
          exact RunS.done rfl (Wk.sel2 [0] (by kernel_rfl) (by kernel_rfl) (by kernel_rfl) ⟨⟨_, rfl, bu_own⟩, trivial⟩ ⟨lu (by kernel_rfl) (by kernel_rfl), lu (by kernel_rfl) (by kernel_rfl), lu (by kernel_rfl) (by kernel_rfl), lu (by kernel_rfl) (by kernel_rfl), lu (by kernel_rfl) (by kernel_rfl), lu (by kernel_rfl) (by kernel_rfl), lu (by kernel_rfl) (by kernel_rfl), lu (by kernel_rfl) (by kernel_rfl), lu (by kernel_rfl) (by kernel_rfl), lu (by kernel_rfl) (by kernel_rfl), lu (by kernel_rfl) (by kernel_rfl), lu (by kernel_rfl) (by kernel_rfl), lu (by kernel_rfl) (by kernel_rfl), lu (by kernel_rfl) (by kernel_rfl), trivial⟩)
      refine Sem.cond (b := j27.2) (by kernel_rfl) (fun hb28 => ?_) (fun hb28 => ?_)
      · rw [if_pos hb28] at h
        refine Sem.seq ?_
        refine Sem.runS (s1 := ⟨Fr 91 [(0, .v (.int .i64 x0)), (1, .sl 1 (x1.map cdI.enc)), (7, .v (.int .i64 c18)), (8, .v (.bool c19)), (9, .v (.bool true)), (10, .rf 0 0 j27.1.length j27.1.length), (27, .sl 1 (x2.map (cdL 1 cdI).enc)), (28, .v (.int .i64 (x2.length : Int))), (29, .v (.int .i64 c9)), (51, .sl 1 (v11.map cdI.enc)), (52, .v (.int .i64 (v11.length : Int))), (53, .v (.int .i64 c22))], [some ⟨1, 4, (j27.1.map cdB.enc), false⟩]⟩) ?_ ?_
        · refine RunS.segF (n := 91) e_evening_check_ok 1 [(0, .v (.int .i64 x0)), (1, .sl 1 (x1.map cdI.enc)), (7, .v (.int .i64 c18)), (8, .v (.bool c19)), (9, .v (.bool true)), (10, .rf 0 0 j27.1.length j27.1.length), (27, .sl 1 (x2.map (cdL 1 cdI).enc)), (28, .v (.int .i64 (x2.length : Int))), (29, .v (.int .i64 c9)), (51, .sl 1 (v11.map cdI.enc)), (52, .v (.int .i64 (v11.length : Int))), (53, .v (.int .i64 c22))] [some ⟨1, 4, (j27.1.map cdB.enc), false⟩] (by kernel_rfl) ?_
          exact RunS.done rfl (Wk.sel2 [0] (by kernel_rfl) (by kernel_rfl) (by kernel_rfl) ⟨⟨_, rfl, bu_own⟩, trivial⟩ ⟨lu (by kernel_rfl) (by kernel_rfl), lu (by kernel_rfl) (by kernel_rfl), lu (by kernel_rfl) (by kernel_rfl), lu (by kernel_rfl) (by kernel_rfl), lu (by kernel_rfl) (by kernel_rfl), lu (by kernel_rfl) (by kernel_rfl), lu (by kernel_rfl) (by kernel_rfl), lu (by kernel_rfl) (by kernel_rfl), lu (by kernel_rfl) (by kernel_rfl), lu (by kernel_rfl) (by kernel_rfl), lu (by kernel_rfl) (by kernel_rfl), lu (by kernel_rfl) (by kernel_rfl), trivial⟩)
        refine Sem.exit ?_
        refine Sem.runS (s1 := ⟨Fr 91 [(0, .v (.int .i64 x0)), (1, .sl 1 (x1.map cdI.enc)), (7, .v (.int .i64 c18)), (8, .v (.bool c19)), (9, .v (.bool true)), (10, .rf 0 0 j27.1.length j27.1.length), (27, .sl 1 (x2.map (cdL 1 cdI).enc)), (28, .v (.int .i64 (x2.length : Int))), (29, .v (.int .i64 c9)), (51, .sl 1 (v11.map cdI.enc)), (52, .v (.int .i64 (v11.length : Int))), (53, .v (.int .i64 (wr .i64 (c22 + 1))))], [some ⟨1, 4, (j27.1.map cdB.enc), false⟩]⟩) ?_ ?_
        · refine RunS.segF (n := 91) e_evening_check_ok 2 [(0, .v (.int .i64 x0)), (1, .sl 1 (x1.map cdI.enc)), (7, .v (.int .i64 c18)), (8, .v (.bool c19)), (9, .v (.bool true)), (10, .rf 0 0 j27.1.length j27.1.length), (27, .sl 1 (x2.map (cdL 1 cdI).enc)), (28, .v (.int .i64 (x2.length : Int))), (29, .v (.int .i64 c9)), (51, .sl 1 (v11.map cdI.enc)), (52, .v (.int .i64 (v11.length : Int))), (53, .v (.int .i64 (wr .i64 (c22 + 1))))] [some ⟨1, 4, (j27.1.map cdB.enc), false⟩] (by kernel_rfl) ?_
          exact RunS.done rfl (Wk.sel2 [0] (by kernel_rfl) (by kernel_rfl) (by kernel_rfl) ⟨⟨_, rfl, bu_own⟩, trivial⟩ ⟨lu (by kernel_rfl) (by kernel_rfl), lu (by kernel_rfl) (by kernel_rfl), lu (by kernel_rfl) (by kernel_rfl), lu (by kernel_rfl) (by kernel_rfl), lu (by kernel_rfl) (by kernel_rfl), lu (by kernel_rfl) (by kernel_rfl), lu (by kernel_rfl) (by kernel_rfl), lu (by kernel_rfl) (by kernel_rfl), lu (by kernel_rfl) (by kernel_rfl), lu (by kernel_rfl) (by kernel_rfl), lu (by kernel_rfl) (by kernel_rfl), lu (by kernel_rfl) (by kernel_rfl), trivial⟩)
        exact SemN.wk (s1 := ⟨Fr 91 [(0, .v (.int .i64 x0)), (1, .sl 1 (x1.map cdI.enc)), (7, .v (.int .i64 c18)), (8, .v (.bool c19)), (9, .v (.bool true)), (10, .rf 0 0 j27.1.length j27.1.length), (27, .sl 1 (x2.map (cdL 1 cdI).enc)), (28, .v (.int .i64 (x2.length : Int))), (29, .v (.int .i64 c9)), (51, .sl 1 (v11.map cdI.enc)), (52, .v (.int .i64 (v11.length : Int))), (53, .v (.int .i64 (wr .i64 (c22 + 1))))], [some ⟨1, 4, (j27.1.map cdB.enc), false⟩]⟩) (Wk.sel2 [0] (by kernel_rfl) (by kernel_rfl) (by kernel_rfl) ⟨⟨_, rfl, bu_own⟩, trivial⟩ ⟨lu (by kernel_rfl) (by kernel_rfl), lu (by kernel_rfl) (by kernel_rfl), lu (by kernel_rfl) (by kernel_rfl), lu (by kernel_rfl) (by kernel_rfl), lu (by kernel_rfl) (by kernel_rfl), lu (by kernel_rfl) (by kernel_rfl), lu (by kernel_rfl) (by kernel_rfl), lu (by kernel_rfl) (by kernel_rfl), lu (by kernel_rfl) (by kernel_rfl), lu (by kernel_rfl) (by kernel_rfl), lu (by kernel_rfl) (by kernel_rfl), lu (by kernel_rfl) (by kernel_rfl), trivial⟩) (ih c18 c19 true j27.1 (wr .i64 (c22 + 1)) h)
      · rw [if_f hb28] at h
        refine Sem.skip ?_
        refine Sem.seq ?_
        obtain ⟨j32, hj32, h⟩ := Option.bind_eq_some_iff.1 h
        refine Sem.runS (s1 := ⟨Fr 91 [(0, .v (.int .i64 x0)), (1, .sl 1 (x1.map cdI.enc)), (7, .v (.int .i64 c18)), (8, .v (.bool j32.1)), (9, .v (.bool c20)), (10, .rf 0 0 j32.2.length j32.2.length), (14, .v (.int .i64 v24)), (27, .sl 1 (x2.map (cdL 1 cdI).enc)), (28, .v (.int .i64 (x2.length : Int))), (29, .v (.int .i64 c9)), (51, .sl 1 (v11.map cdI.enc)), (52, .v (.int .i64 (v11.length : Int))), (53, .v (.int .i64 c22))], [some ⟨1, 4, (j32.2.map cdB.enc), false⟩]⟩) ?_ ?_
        · refine RunS.segF (n := 91) e_evening_check_ok 2 [(0, .v (.int .i64 x0)), (1, .sl 1 (x1.map cdI.enc)), (7, .v (.int .i64 c18)), (9, .v (.bool c20)), (10, .rf 0 0 j27.1.length j27.1.length), (14, .v (.int .i64 v24)), (27, .sl 1 (x2.map (cdL 1 cdI).enc)), (28, .v (.int .i64 (x2.length : Int))), (29, .v (.int .i64 c9)), (51, .sl 1 (v11.map cdI.enc)), (52, .v (.int .i64 (v11.length : Int))), (53, .v (.int .i64 c22)), (65, .v (.bool c19))] [some ⟨1, 4, (j27.1.map cdB.enc), false⟩] (by kernel_rfl) ?_
          rcases Bool.eq_false_or_eq_true c19 with hc38 | hc38
          · rw [if_pos hc38] at hj32
            rw [hc38]
            refine RunS.segF (n := 91) e_evening_check_ok 6 [(0, .v (.int .i64 x0)), (1, .sl 1 (x1.map cdI.enc)), (7, .v (.int .i64 c18)), (8, .v (.bool true)), (9, .v (.bool c20)), (10, .rf 0 0 j27.1.length j27.1.length), (14, .v (.int .i64 v24)), (27, .sl 1 (x2.map (cdL 1 cdI).enc)), (28, .v (.int .i64 (x2.length : Int))), (29, .v (.int .i64 c9)), (51, .sl 1 (v11.map cdI.enc)), (52, .v (.int .i64 (v11.length : Int))), (53, .v (.int .i64 c22)), (66, .tp []), (67, .tp []), (68, .tp []), (69, .tp [])] [some ⟨1, 4, (j27.1.map cdB.enc), false⟩] (by kernel_rfl) ?_
            have hq := Option.some.inj hj32; subst hq
            exact RunS.done rfl (Wk.sel2 [0] (by kernel_rfl) (by kernel_rfl) (by kernel_rfl) ⟨⟨_, rfl, bu_own⟩, trivial⟩ ⟨lu (by kernel_rfl) (by kernel_rfl), lu (by kernel_rfl) (by kernel_rfl), lu (by kernel_rfl) (by kernel_rfl), lu (by kernel_rfl) (by kernel_rfl), lu (by kernel_rfl) (by kernel_rfl), lu (by kernel_rfl) (by kernel_rfl), lu (by kernel_rfl) (by kernel_rfl), lu (by kernel_rfl) (by kernel_rfl), lu (by kernel_rfl) (by kernel_rfl), lu (by kernel_rfl) (by kernel_rfl), lu (by kernel_rfl) (by kernel_rfl), lu (by kernel_rfl) (by kernel_rfl), lu (by kernel_rfl) (by kernel_rfl), trivial⟩)
          · rw [if_f hc38] at hj32
            rw [hc38]
            refine RunS.segF (n := 91) e_evening_check_ok 2 [(0, .v (.int .i64 x0)), (1, .sl 1 (x1.map cdI.enc)), (7, .v (.int .i64 c18)), (9, .v (.bool c20)), (10, .rf 0 0 j27.1.length j27.1.length), (14, .v (.int .i64 v24)), (27, .sl 1 (x2.map (cdL 1 cdI).enc)), (28, .v (.int .i64 (x2.length : Int))), (29, .v (.int .i64 c9)), (51, .sl 1 (v11.map cdI.enc)), (52, .v (.int .i64 (v11.length : Int))), (53, .v (.int .i64 c22)), (65, .v (.bool false)), (66, .rf 0 0 j27.1.length j27.1.length), (67, .v (.int .i64 v24))] [some ⟨1, 4, (j27.1.map cdB.enc), false⟩] (by kernel_rfl) ?_
            obtain ⟨v29, hv29, hj32⟩ := Option.bind_eq_some_iff.1 hj32
            refine RunS.one e_evening_check_ok 0 rfl (op_q (by kernel_rfl) rfl (q_indexAddr (a := .rf 0 0 j27.1.length j27.1.length) (b := .v (.int .i64 v24)) (by kernel_rfl) (by kernel_rfl) (ix_rl (e := cdB.enc) (xs := j27.1) (t' := 4) (el := 4) (k := 1) (ki := .i64) (by kernel_rfl) (by kernel_rfl) (by kernel_rfl) hv29))) ?_
            refine RunS.one e_evening_check_ok 0 rfl (op_q (by kernel_rfl) rfl (q_load (p := .pt 0 v24.toNat 0) (by kernel_rfl) (ld_blk (B := ⟨1, 4, (j27.1.map cdB.enc), false⟩) (m := 1) (g := false) (e := cdB.enc) (xs := j27.1) (by kernel_rfl) (by kernel_rfl) (by kernel_rfl) rfl (idx_at hv29).2 (by kernel_rfl)))) ?_
            refine RunS.segF (n := 91) e_evening_check_ok 2 [(0, .v (.int .i64 x0)), (1, .sl 1 (x1.map cdI.enc)), (7, .v (.int .i64 c18)), (8, .v (.bool v29)), (9, .v (.bool c20)), (10, .rf 0 0 j27.1.length j27.1.length), (14, .v (.int .i64 v24)), (27, .sl 1 (x2.map (cdL 1 cdI).enc)), (28, .v (.int .i64 (x2.length : Int))), (29, .v (.int .i64 c9)), (51, .sl 1 (v11.map cdI.enc)), (52, .v (.int .i64 (v11.length : Int))), (53, .v (.int .i64 c22)), (66, .rf 0 0 j27.1.length j27.1.length), (67, .v (.int .i64 v24)), (68, .pt 0 v24.toNat 0), (69, .v (.bool v29))] [some ⟨1, 4, (j27.1.map cdB.enc), false⟩] (by kernel_rfl) ?_
            have hq := Option.some.inj hj32; subst hq
            exact RunS.done rfl (Wk.sel2 [0] (by kernel_rfl) (by kernel_rfl) (by kernel_rfl) ⟨⟨_, rfl, bu_own⟩, trivial⟩ ⟨lu (by kernel_rfl) (by kernel_rfl), lu (by kernel_rfl) (by kernel_rfl), lu (by kernel_rfl) (by kernel_rfl), lu (by kernel_rfl) (by kernel_rfl), lu (by kernel_rfl) (by kernel_rfl), lu (by kernel_rfl) (by kernel_rfl), lu (by kernel_rfl) (by kernel_rfl), lu (by kernel_rfl) (by kernel_rfl), lu (by kernel_rfl) (by kernel_rfl), lu (by kernel_rfl) (by kernel_rfl), lu (by kernel_rfl) (by kernel_rfl), lu (by kernel_rfl) (by kernel_rfl), lu (by kernel_rfl) (by kernel_rfl), trivial⟩)
        refine Sem.seq ?_
        refine Sem.seq ?_
        obtain ⟨v33, hv33, h⟩ := Option.bind_eq_some_iff.1 h
        refine Sem.runS (s1 := ⟨Fr 91 [(0, .v (.int .i64 x0)), (1, .sl 1 (x1.map cdI.enc)), (7, .v (.int .i64 c18)), (8, .v (.bool j32.1)), (9, .v (.bool c20)), (10, .rf 0 0 j32.2.length j32.2.length), (14, .v (.int .i64 v24)), (27, .sl 1 (x2.map (cdL 1 cdI).enc)), (28, .v (.int .i64 (x2.length : Int))), (29, .v (.int .i64 c9)), (51, .sl 1 (v11.map cdI.enc)), (52, .v (.int .i64 (v11.length : Int))), (53, .v (.int .i64 c22)), (75, .v (.bool (!v33)))], [some ⟨1, 4, (j32.2.map cdB.enc), false⟩]⟩) ?_ ?_
        · refine RunS.segF (n := 91) e_evening_check_ok 2 [(0, .v (.int .i64 x0)), (1, .sl 1 (x1.map cdI.enc)), (7, .v (.int .i64 c18)), (8, .v (.bool j32.1)), (9, .v (.bool c20)), (10, .rf 0 0 j32.2.length j32.2.length), (14, .v (.int .i64 v24)), (27, .sl 1 (x2.map (cdL 1 cdI).enc)), (28, .v (.int .i64 (x2.length : Int))), (29, .v (.int .i64 c9)), (51, .sl 1 (v11.map cdI.enc)), (52, .v (.int .i64 (v11.length : Int))), (53, .v (.int .i64 c22)), (71, .rf 0 0 j32.2.length j32.2.length), (72, .v (.int .i64 v24))] [some ⟨1, 4, (j32.2.map cdB.enc), false⟩] (by kernel_rfl) ?_
          refine RunS.one e_evening_check_ok 0 rfl (op_q (wantedA_none rfl) rfl (q_indexAddr (a := .rf 0 0 j32.2.length j32.2.length) (b := .v (.int .i64 v24)) (by kernel_rfl) (by kernel_rfl) (ix_rl (e := cdB.enc) (xs := j32.2) (t' := 4) (el := 4) (k := 1) (ki := .i64) (by kernel_rfl) (by kernel_rfl) (by kernel_rfl) hv33))) ?_
          refine RunS.one e_evening_check_ok 0 rfl (op_q (wantedA_none rfl) rfl (q_load (p := .pt 0 v24.toNat 0) (by kernel_rfl) (ld_blk (B := ⟨1, 4, (j32.2.map cdB.enc), false⟩) (m := 1) (g := false) (e := cdB.enc) (xs := j32.2) (by kernel_rfl) (by kernel_rfl) (by kernel_rfl) rfl (idx_at hv33).2 (by kernel_rfl)))) ?_
          refine RunS.segF (n := 91) e_evening_check_ok 1 [(0, .v (.int .i64 x0)), (1, .sl 1 (x1.map cdI.enc)), (7, .v (.int .i64 c18)), (8, .v (.bool j32.1)), (9, .v (.bool c20)), (10, .rf 0 0 j32.2.length j32.2.length), (14, .v (.int .i64 v24)), (27, .sl 1 (x2.map (cdL 1 cdI).enc)), (28, .v (.int .i64 (x2.length : Int))), (29, .v (.int .i64 c9)), (51, .sl 1 (v11.map cdI.enc)), (52, .v (.int .i64 (v11.length : Int))), (53, .v (.int .i64 c22)), (75, .v (.bool (!v33)))] [some ⟨1, 4, (j32.2.map cdB.enc), false⟩] (by kernel_rfl) ?_
          exact RunS.done rfl (Wk.sel2 [0] (by kernel_rfl) (by kernel_rfl) (by kernel_rfl) ⟨⟨_, rfl, bu_own⟩, trivial⟩ ⟨lu (by kernel_rfl) (by kernel_rfl), lu (by kernel_rfl) (by kernel_rfl), lu (by kernel_rfl) (by kernel_rfl), lu (by kernel_rfl) (by kernel_rfl), lu (by kernel_rfl) (by kernel_rfl), lu (by kernel_rfl) (by kernel_rfl), lu (by kernel_rfl) (by kernel_rfl), lu (by kernel_rfl) (by kernel_rfl), lu (by kernel_rfl) (by kernel_rfl), lu (by kernel_rfl) (by kernel_rfl), lu (by kernel_rfl) (by kernel_rfl), lu (by kernel_rfl) (by kernel_rfl), lu (by kernel_rfl) (by kernel_rfl), lu (by kernel_rfl) (by kernel_rfl), trivial⟩)
        obtain ⟨r36, hr36, h⟩ := Option.bind_eq_some_iff.1 h
        refine Sem.cut (evening_check_j3_ok x0 x1 x2 c9 v11 c18 c20 c22 v24 j32 v33 _ hr36) ?_
        obtain ⟨v37, hv37, h⟩ := Option.bind_eq_some_iff.1 h
        refine Sem.runS (s1 := ⟨Fr 91 [(0, .v (.int .i64 x0)), (1, .sl 1 (x1.map cdI.enc)), (7, .v (.int .i64 r36)), (8, .v (.bool j32.1)), (9, .v (.bool c20)), (10, .rf 0 0 (j32.2.set v24.toNat true).length (j32.2.set v24.toNat true).length), (27, .sl 1 (x2.map (cdL 1 cdI).enc)), (28, .v (.int .i64 (x2.length : Int))), (29, .v (.int .i64 c9)), (51, .sl 1 (v11.map cdI.enc)), (52, .v (.int .i64 (v11.length : Int))), (53, .v (.int .i64 c22))], [some ⟨1, 4, ((j32.2.set v24.toNat true).map cdB.enc), false⟩]⟩) ?_ ?_
        · refine RunS.segF (n := 91) e_evening_check_ok 2 [(0, .v (.int .i64 x0)), (1, .sl 1 (x1.map cdI.enc)), (7, .v (.int .i64 r36)), (8, .v (.bool j32.1)), (9, .v (.bool c20)), (10, .rf 0 0 j32.2.length j32.2.length), (27, .sl 1 (x2.map (cdL 1 cdI).enc)), (28, .v (.int .i64 (x2.length : Int))), (29, .v (.int .i64 c9)), (51, .sl 1 (v11.map cdI.enc)), (52, .v (.int .i64 (v11.length : Int))), (53, .v (.int .i64 c22)), (78, .rf 0 0 j32.2.length j32.2.length), (79, .v (.int .i64 v24))] [some ⟨1, 4, (j32.2.map cdB.enc), false⟩] (by kernel_rfl) ?_
          refine RunS.one e_evening_check_ok 0 rfl (op_q (wantedA_none rfl) rfl (q_indexAddr (a := .rf 0 0 j32.2.length j32.2.length) (b := .v (.int .i64 v24)) (by kernel_rfl) (by kernel_rfl) (ix_rl (e := cdB.enc) (xs := j32.2) (t' := 4) (el := 4) (k := 1) (ki := .i64) (by kernel_rfl) (by kernel_rfl) (by kernel_rfl) hv37))) ?_
          refine RunS.store e_evening_check_ok (y := .pt 0 v24.toNat 0) (z := .v (.bool true)) rfl (wantedA_none rfl) (by kernel_rfl) (by kernel_rfl) (st_blk (t' := 4) (k := 1) (e := cdB.enc) (xs := j32.2) (v := v37) (v' := true) (by kernel_rfl) (idx_at hv37).2 (by kernel_rfl) (by kernel_rfl) (by kernel_rfl)) ?_
          exact RunS.done rfl (Wk.sel2 [0] (by kernel_rfl) (by kernel_rfl) (by kernel_rfl) ⟨⟨_, rfl, bu_own⟩, trivial⟩ ⟨lu (by kernel_rfl) (by kernel_rfl), lu (by kernel_rfl) (by kernel_rfl), lu (by kernel_rfl) (by kernel_rfl), lu (by kernel_rfl) (by kernel_rfl), lu (by kernel_rfl) (by kernel_rfl), lu_rl (b' := 0) (n := j32.2.length) (by kernel_rfl) (by simp) (by kernel_rfl), lu (by kernel_rfl) (by kernel_rfl), lu (by kernel_rfl) (by kernel_rfl), lu (by kernel_rfl) (by kernel_rfl), lu (by kernel_rfl) (by kernel_rfl), lu (by kernel_rfl) (by kernel_rfl), lu (by kernel_rfl) (by kernel_rfl), trivial⟩)
        refine Sem.runS (s1 := ⟨Fr 91 [(0, .v (.int .i64 x0)), (1, .sl 1 (x1.map cdI.enc)), (7, .v (.int .i64 r36)), (8, .v (.bool j32.1)), (9, .v (.bool c20)), (10, .rf 0 0 (j32.2.set v24.toNat true).length (j32.2.set v24.toNat true).length), (27, .sl 1 (x2.map (cdL 1 cdI).enc)), (28, .v (.int .i64 (x2.length : Int))), (29, .v (.int .i64 c9)), (51, .sl 1 (v11.map cdI.enc)), (52, .v (.int .i64 (v11.length : Int))), (53, .v (.int .i64 (wr .i64 (c22 + 1))))], [some ⟨1, 4, ((j32.2.set v24.toNat true).map cdB.enc), false⟩]⟩) ?_ ?_
        · refine RunS.segF (n := 91) e_evening_check_ok 2 [(0, .v (.int .i64 x0)), (1, .sl 1 (x1.map cdI.enc)), (7, .v (.int .i64 r36)), (8, .v (.bool j32.1)), (9, .v (.bool c20)), (10, .rf 0 0 (j32.2.set v24.toNat true).length (j32.2.set v24.toNat true).length), (27, .sl 1 (x2.map (cdL 1 cdI).enc)), (28, .v (.int .i64 (x2.length : Int))), (29, .v (.int .i64 c9)), (51, .sl 1 (v11.map cdI.enc)), (52, .v (.int .i64 (v11.length : Int))), (53, .v (.int .i64 (wr .i64 (c22 + 1))))] [some ⟨1, 4, ((j32.2.set v24.toNat true).map cdB.enc), false⟩] (by kernel_rfl) ?_
          exact RunS.done rfl (Wk.sel2 [0] (by kernel_rfl) (by kernel_rfl) (by kernel_rfl) ⟨⟨_, rfl, bu_own⟩, trivial⟩ ⟨lu (by kernel_rfl) (by kernel_rfl), lu (by kernel_rfl) (by kernel_rfl), lu (by kernel_rfl) (by kernel_rfl), lu (by kernel_rfl) (by kernel_rfl), lu (by kernel_rfl) (by kernel_rfl), lu (by kernel_rfl) (by kernel_rfl), lu (by kernel_rfl) (by kernel_rfl), lu (by kernel_rfl) (by kernel_rfl), lu (by kernel_rfl) (by kernel_rfl), lu (by kernel_rfl) (by kernel_rfl), lu (by kernel_rfl) (by kernel_rfl), lu (by kernel_rfl) (by kernel_rfl), trivial⟩)
        exact SemN.wk (s1 := ⟨Fr 91 [(0, .v (.int .i64 x0)), (1, .sl 1 (x1.map cdI.enc)), (7, .v (.int .i64 r36)), (8, .v (.bool j32.1)), (9, .v (.bool c20)), (10, .rf 0 0 (j32.2.set v24.toNat true).length (j32.2.set v24.toNat true).length), (27, .sl 1 (x2.map (cdL 1 cdI).enc)), (28, .v (.int .i64 (x2.length : Int))), (29, .v (.int .i64 c9)), (51, .sl 1 (v11.map cdI.enc)), (52, .v (.int .i64 (v11.length : Int))), (53, .v (.int .i64 (wr .i64 (c22 + 1))))], [some ⟨1, 4, ((j32.2.set v24.toNat true).map cdB.enc), false⟩]⟩) (Wk.sel2 [0] (by kernel_rfl) (by kernel_rfl) (by kernel_rfl) ⟨⟨_, rfl, bu_own⟩, trivial⟩ ⟨lu (by kernel_rfl) (by kernel_rfl), lu (by kernel_rfl) (by kernel_rfl), lu (by kernel_rfl) (by kernel_rfl), lu (by kernel_rfl) (by kernel_rfl), lu (by kernel_rfl) (by kernel_rfl), lu (by kernel_rfl) (by kernel_rfl), lu (by kernel_rfl) (by kernel_rfl), lu (by kernel_rfl) (by kernel_rfl), lu (by kernel_rfl) (by kernel_rfl), lu (by kernel_rfl) (by kernel_rfl), lu (by kernel_rfl) (by kernel_rfl), lu (by kernel_rfl) (by kernel_rfl), trivial⟩) (ih r36 j32.1 c20 (j32.2.set v24.toNat true) (wr .i64 (c22 + 1)) h)
    · rw [if_f hb23] at h
      refine Sem.exit ?_
      have hq := Option.some.inj h; subst hq
      exact ⟨rfl, (Wk.sel2 [0] (by kernel_rfl) (by kernel_rfl) (by kernel_rfl) ⟨⟨_, rfl, bu_own⟩, trivial⟩ ⟨lu (by kernel_rfl) (by kernel_rfl), lu (by kernel_rfl) (by kernel_rfl), lu (by kernel_rfl) (by kernel_rfl), lu (by kernel_rfl) (by kernel_rfl), lu (by kernel_rfl) (by kernel_rfl), lu (by kernel_rfl) (by kernel_rfl), lu (by kernel_rfl) (by kernel_rfl), lu (by kernel_rfl) (by kernel_rfl), lu (by kernel_rfl) (by kernel_rfl), trivial⟩)⟩
set_option maxHeartbeats 4000000 in
set_option maxRecDepth 100000 in
theorem evening_check_1_ok (x0 : Int) (x1 : (List Int)) (x2 : (List (List Int))) : ∀ (f : Nat) (c5 : Int) (c6 : Bool) (c7 : Bool) (c8 : (List Bool)) (c9 : Int) (r : (Int × Bool × Bool) ⊕ (Int)), evening_check_1 x0 x1 x2 f c5 c6 c7 c8 c9 = some r → SemN e_evening_check ⟨none, false⟩ (pc cb_evening_check [1, 1, 1, 1, 0, 1, 0, 0]) f ⟨Fr 91 [(0, .v (.int .i64 x0)), (1, .sl 1 (x1.map cdI.enc)), (7, .v (.int .i64 c5)), (8, .v (.bool c6)), (9, .v (.bool c7)), (10, .rf 0 0 c8.length c8.length), (27, .sl 1 (x2.map (cdL 1 cdI).enc)), (28, .v (.int .i64 (x2.length : Int))), (29, .v (.int .i64 c9))], [some ⟨1, 4, (c8.map cdB.enc), false⟩]⟩ (fun e s => match r with
  | (.inl w) => e = (.exit 0) ∧ Wk e_evening_check s ⟨Fr 91 [(0, .v (.int .i64 x0)), (7, .v (.int .i64 w.1)), (8, .v (.bool w.2.1)), (9, .v (.bool w.2.2))], []⟩
  | (.inr w) => e = .ret ∧ Wk e_evening_check s ⟨Fr 91 [(6, .v (.int .i64 w))], []⟩) := by
  intro f
  induction f with
  | zero => intro c5 c6 c7 c8 c9 r h; cases h
  | succ f ih0 =>
    intro c5 c6 c7 c8 c9 r h
    have ih := fun (c5 : Int) (c6 : Bool) (c7 : Bool) (c8 : (List Bool)) (c9 : Int) => ih0 c5 c6 c7 c8 c9 r
    unfold evening_check_1 at h
    refine SemN.succ ?_
    refine Sem.seq ?_
    refine Sem.runS (s1 := ⟨Fr 91 [(0, .v (.int .i64 x0)), (1, .sl 1 (x1.map cdI.enc)), (7, .v (.int .i64 c5)), (8, .v (.bool c6)), (9, .v (.bool c7)), (10, .rf 0 0 c8.length c8.length), (27, .sl 1 (x2.map (cdL 1 cdI).enc)), (28, .v (.int .i64 (x2.length : Int))), (29, .v (.int .i64 c9)), (30, .v (.bool (decide (c9 < (x2.length : Int)))))], [some ⟨1, 4, (c8.map cdB.enc), false⟩]⟩) ?_ ?_
    · refine RunS.segF (n := 91) e_evening_check_ok 1 [(0, .v (.int .i64 x0)), (1, .sl 1 (x1.map cdI.enc)), (7, .v (.int .i64 c5)), (8, .v (.bool c6)), (9, .v (.bool c7)), (10, .rf 0 0 c8.length c8.length), (27, .sl 1 (x2.map (cdL 1 cdI).enc)), (28, .v (.int .i64 (x2.length : Int))), (29, .v (.int .i64 c9)), (30, .v (.bool (decide (c9 < (x2.length : Int)))))] [some ⟨1, 4, (c8.map cdB.enc), false⟩] (by kernel_rfl) ?_
      exact RunS.done rfl (Wk.sel2 [0] (by kernel_rfl) (by kernel_rfl) (by kernel_rfl) ⟨⟨_, rfl, bu_own⟩, trivial⟩ ⟨lu (by kernel_rfl) (by kernel_rfl), lu (by kernel_rfl) (by kernel_rfl), lu (by kernel_rfl) (by kernel_rfl), lu (by kernel_rfl) (by kernel_rfl), lu (by kernel_rfl) (by kernel_rfl), lu (by kernel_rfl) (by kernel_rfl), lu (by kernel_rfl) (by kernel_rfl), lu (by kernel_rfl) (by kernel_rfl), lu (by kernel_rfl) (by kernel_rfl), lu (by kernel_rfl) (by kernel_rfl), trivial⟩)
    refine Sem.seq ?_
    refine Sem.cond (b := (decide (c9 < (x2.length : Int)))) (by kernel_rfl) (fun hb10 => ?_) (fun hb10 => ?_)
    · rw [if_pos hb10] at h
      refine Sem.skip ?_
      refine Sem.seq ?_
      refine Sem.block ?_
      refine Sem.seq ?_
      obtain ⟨v11, hv11, h⟩ := Option.bind_eq_some_iff.1 h
      refine Sem.runS (s1 := ⟨Fr 91 [(0, .v (.int .i64 x0)), (1, .sl 1 (x1.map cdI.enc)), (7, .v (.int .i64 c5)), (8, .v (.bool c6)), (9, .v (.bool c7)), (10, .rf 0 0 c8.length c8.length), (11, .v (.int .i64 c9)), (12, .sl 1 (v11.map cdI.enc)), (27, .sl 1 (x2.map (cdL 1 cdI).enc)), (28, .v (.int .i64 (x2.length : Int))), (29, .v (.int .i64 c9))], [some ⟨1, 4, (c8.map cdB.enc), false⟩]⟩) ?_ ?_
      · refine RunS.segF (n := 91) e_evening_check_ok 1 [(0, .v (.int .i64 x0)), (1, .sl 1 (x1.map cdI.enc)), (7, .v (.int .i64 c5)), (8, .v (.bool c6)), (9, .v (.bool c7)), (10, .rf 0 0 c8.length c8.length), (27, .sl 1 (x2.map (cdL 1 cdI).enc)), (28, .v (.int .i64 (x2.length : Int))), (29, .v (.int .i64 c9)), (31, .v (.int .i64 c9))] [some ⟨1, 4, (c8.map cdB.enc), false⟩] (by kernel_rfl) ?_
        refine RunS.one e_evening_check_ok 0 rfl (op_q (wantedA_none rfl) rfl (q_indexAddr (a := .sl 1 (x2.map (cdL 1 cdI).enc)) (b := .v (.int .i64 c9)) (by kernel_rfl) (by kernel_rfl) (ix_sl (e := (cdL 1 cdI).enc) (el := 24) (k := 1) (ki := .i64) (by kernel_rfl) (by kernel_rfl) hv11))) ?_
        refine RunS.segF (n := 91) e_evening_check_ok 3 [(0, .v (.int .i64 x0)), (1, .sl 1 (x1.map cdI.enc)), (7, .v (.int .i64 c5)), (8, .v (.bool c6)), (9, .v (.bool c7)), (10, .rf 0 0 c8.length c8.length), (11, .v (.int .i64 c9)), (12, .sl 1 (v11.map cdI.enc)), (27, .sl 1 (x2.map (cdL 1 cdI).enc)), (28, .v (.int .i64 (x2.length : Int))), (29, .v (.int .i64 c9))] [some ⟨1, 4, (c8.map cdB.enc), false⟩] (by kernel_rfl) ?_
        exact RunS.done rfl (Wk.sel2 [0] (by kernel_rfl) (by kernel_rfl) (by kernel_rfl) ⟨⟨_, rfl, bu_own⟩, trivial⟩ ⟨lu (by kernel_rfl) (by kernel_rfl), lu (by kernel_rfl) (by kernel_rfl), lu (by kernel_rfl) (by kernel_rfl), lu (by kernel_rfl) (by kernel_rfl), lu (by kernel_rfl) (by kernel_rfl), lu (by kernel_rfl) (by kernel_rfl), lu (by kernel_rfl) (by kernel_rfl), lu (by kernel_rfl) (by kernel_rfl), lu (by kernel_rfl) (by kernel_rfl), lu (by kernel_rfl) (by kernel_rfl), lu (by kernel_rfl) (by kernel_rfl), trivial⟩)
      refine Sem.seq ?_
      refine Sem.seq ?_
      obtain ⟨j15, hj15, h⟩ := Option.bind_eq_some_iff.1 h
      refine Sem.runS (s1 := ⟨Fr 91 [(0, .v (.int .i64 x0)), (1, .sl 1 (x1.map cdI.enc)), (7, .v (.int .i64 c5)), (8, .v (.bool c6)), (9, .v (.bool c7)), (10, .rf 0 0 j15.1.length j15.1.length), (12, .sl 1 (v11.map cdI.enc)), (27, .sl 1 (x2.map (cdL 1 cdI).enc)), (28, .v (.int .i64 (x2.length : Int))), (29, .v (.int .i64 c9)), (50, .v (.bool j15.2))], [some ⟨1, 4, (j15.1.map cdB.enc), false⟩]⟩) ?_ ?_
      · refine RunS.segF (n := 91) e_evening_check_ok 1 [(0, .v (.int .i64 x0)), (1, .sl 1 (x1.map cdI.enc)), (7, .v (.int .i64 c5)), (8, .v (.bool c6)), (9, .v (.bool c7)), (10, .rf 0 0 c8.length c8.length), (11, .v (.int .i64 c9)), (12, .sl 1 (v11.map cdI.enc)), (27, .sl 1 (x2.map (cdL 1 cdI).enc)), (28, .v (.int .i64 (x2.length : Int))), (29, .v (.int .i64 c9)), (34, .sl 1 (v11.map cdI.enc))] [some ⟨1, 4, (c8.map cdB.enc), false⟩] (by kernel_rfl) ?_
        refine RunS.one e_evening_check_ok 0 rfl (op_q (wantedA_none rfl) rfl (q_len (a := .sl 1 (v11.map cdI.enc)) (by kernel_rfl) (len_sl (el := 3) (by kernel_rfl)))) ?_
        refine RunS.segF (n := 91) e_evening_check_ok 2 [(0, .v (.int .i64 x0)), (1, .sl 1 (x1.map cdI.enc)), (7, .v (.int .i64 c5)), (8, .v (.bool c6)), (9, .v (.bool c7)), (10, .rf 0 0 c8.length c8.length), (11, .v (.int .i64 c9)), (12, .sl 1 (v11.map cdI.enc)), (27, .sl 1 (x2.map (cdL 1 cdI).enc)), (28, .v (.int .i64 (x2.length : Int))), (29, .v (.int .i64 c9)), (37, .v (.bool ((v11.length : Int) == 0)))] [some ⟨1, 4, (c8.map cdB.enc), false⟩] (by kernel_rfl) ?_
        rcases Bool.eq_false_or_eq_true ((v11.length : Int) == 0) with hc45 | hc45
        · rw [if_pos hc45] at hj15
          rw [hc45]
          refine RunS.segF (n := 91) e_evening_check_ok 13 [(0, .v (.int .i64 x0)), (1, .sl 1 (x1.map cdI.enc)), (7, .v (.int .i64 c5)), (8, .v (.bool c6)), (9, .v (.bool c7)), (10, .rf 0 0 c8.length c8.length), (12, .sl 1 (v11.map cdI.enc)), (27, .sl 1 (x2.map (cdL 1 cdI).enc)), (28, .v (.int .i64 (x2.length : Int))), (29, .v (.int .i64 c9)), (38, .tp []), (39, .tp []), (40, .tp []), (41, .tp []), (42, .tp []), (43, .tp []), (44, .tp []), (45, .tp []), (46, .tp []), (47, .tp []), (48, .tp []), (49, .tp []), (50, .v (.bool true))] [some ⟨1, 4, (c8.map cdB.enc), false⟩] (by kernel_rfl) ?_
          have hq := Option.some.inj hj15; subst hq
          exact RunS.done rfl (Wk.sel2 [0] (by kernel_rfl) (by kernel_rfl) (by kernel_rfl) ⟨⟨_, rfl, bu_own⟩, trivial⟩ ⟨lu (by kernel_rfl) (by kernel_rfl), lu (by kernel_rfl) (by kernel_rfl), lu (by kernel_rfl) (by kernel_rfl), lu (by kernel_rfl) (by kernel_rfl), lu (by kernel_rfl) (by kernel_rfl), lu (by kernel_rfl) (by kernel_rfl), lu (by kernel_rfl) (by kernel_rfl), lu (by kernel_rfl) (by kernel_rfl), lu (by kernel_rfl) (by kernel_rfl), lu (by kernel_rfl) (by kernel_rfl), lu (by kernel_rfl) (by kernel_rfl), trivial⟩)
        · rw [if_f hc45] at hj15
          rw [hc45]
          refine RunS.segF (n := 91) e_evening_check_ok 1 [(0, .v (.int .i64 x0)), (1, .sl 1 (x1.map cdI.enc)), (7, .v (.int .i64 c5)), (8, .v (.bool c6)), (9, .v (.bool c7)), (10, .rf 0 0 c8.length c8.length), (11, .v (.int .i64 c9)), (12, .sl 1 (v11.map cdI.enc)), (27, .sl 1 (x2.map (cdL 1 cdI).enc)), (28, .v (.int .i64 (x2.length : Int))), (29, .v (.int .i64 c9)), (37, .v (.bool false)), (38, .sl 1 (x1.map cdI.enc))] [some ⟨1, 4, (c8.map cdB.enc), false⟩] (by kernel_rfl) ?_
          refine RunS.one e_evening_check_ok 0 rfl (op_q (by kernel_rfl) rfl (q_len (a := .sl 1 (x1.map cdI.enc)) (by kernel_rfl) (len_sl (el := 3) (by kernel_rfl)))) ?_
          refine RunS.segF (n := 91) e_evening_check_ok 2 [(0, .v (.int .i64 x0)), (1, .sl 1 (x1.map cdI.enc)), (7, .v (.int .i64 c5)), (8, .v (.bool c6)), (9, .v (.bool c7)), (10, .rf 0 0 c8.length c8.length), (11, .v (.int .i64 c9)), (12, .sl 1 (v11.map cdI.enc)), (27, .sl 1 (x2.map (cdL 1 cdI).enc)), (28, .v (.int .i64 (x2.length : Int))), (29, .v (.int .i64 c9)), (37, .v (.bool false)), (38, .sl 1 (x1.map cdI.enc)), (39, .v (.int .i64 (x1.length : Int))), (40, .v (.bool (decide ((x1.length : Int) > 0)))), (41, .v (.bool (decide ((x1.length : Int) > 0))))] [some ⟨1, 4, (c8.map cdB.enc), false⟩] (by kernel_rfl) ?_
          rcases Bool.eq_false_or_eq_true (decide ((x1.length : Int) > 0)) with hc46 | hc46
          · rw [if_pos hc46] at hj15
            rw [hc46]
            refine RunS.segF (n := 91) e_evening_check_ok 1 [(0, .v (.int .i64 x0)), (1, .sl 1 (x1.map cdI.enc)), (7, .v (.int .i64 c5)), (8, .v (.bool c6)), (9, .v (.bool c7)), (10, .rf 0 0 c8.length c8.length), (11, .v (.int .i64 c9)), (12, .sl 1 (v11.map cdI.enc)), (27, .sl 1 (x2.map (cdL 1 cdI).enc)), (28, .v (.int .i64 (x2.length : Int))), (29, .v (.int .i64 c9)), (37, .v (.bool false)), (38, .sl 1 (x1.map cdI.enc)), (39, .v (.int .i64 (x1.length : Int))), (40, .v (.bool true)), (41, .v (.bool true)), (42, .sl 1 (v11.map cdI.enc))] [some ⟨1, 4, (c8.map cdB.enc), false⟩] (by kernel_rfl) ?_
            refine RunS.one e_evening_check_ok 0 rfl (op_q (by kernel_rfl) rfl (q_len (a := .sl 1 (v11.map cdI.enc)) (by kernel_rfl) (len_sl (el := 3) (by kernel_rfl)))) ?_
            refine RunS.segF (n := 91) e_evening_check_ok 2 [(0, .v (.int .i64 x0)), (1, .sl 1 (x1.map cdI.enc)), (7, .v (.int .i64 c5)), (8, .v (.bool c6)), (9, .v (.bool c7)), (10, .rf 0 0 c8.length c8.length), (12, .sl 1 (v11.map cdI.enc)), (27, .sl 1 (x2.map (cdL 1 cdI).enc)), (28, .v (.int .i64 (x2.length : Int))), (29, .v (.int .i64 c9)), (37, .v (.bool false)), (38, .sl 1 (x1.map cdI.enc)), (39, .v (.int .i64 (x1.length : Int))), (40, .v (.bool true)), (41, .v (.bool true)), (42, .sl 1 (v11.map cdI.enc)), (43, .v (.int .i64 (v11.length : Int))), (44, .sl 1 (x1.map cdI.enc)), (45, .v (.int .i64 c9))] [some ⟨1, 4, (c8.map cdB.enc), false⟩] (by kernel_rfl) ?_
            obtain ⟨v12, hv12, hj15⟩ := Option.bind_eq_some_iff.1 hj15
            refine RunS.one e_evening_check_ok 0 rfl (op_q (by kernel_rfl) rfl (q_indexAddr (a := .sl 1 (x1.map cdI.enc)) (b := .v (.int .i64 c9)) (by kernel_rfl) (by kernel_rfl) (ix_sl (e := cdI.enc) (el := 3) (k := 1) (ki := .i64) (by kernel_rfl) (by kernel_rfl) hv12))) ?_
            refine RunS.segF (n := 91) e_evening_check_ok 4 [(0, .v (.int .i64 x0)), (1, .sl 1 (x1.map cdI.enc)), (7, .v (.int .i64 c5)), (8, .v (.bool c6)), (9, .v (.bool c7)), (10, .rf 0 0 c8.length c8.length), (12, .sl 1 (v11.map cdI.enc)), (27, .sl 1 (x2.map (cdL 1 cdI).enc)), (28, .v (.int .i64 (x2.length : Int))), (29, .v (.int .i64 c9)), (38, .sl 1 (x1.map cdI.enc)), (39, .v (.int .i64 (x1.length : Int))), (40, .v (.bool true)), (41, .v (.bool true)), (42, .sl 1 (v11.map cdI.enc)), (43, .v (.int .i64 (v11.length : Int))), (44, .sl 1 (x1.map cdI.enc)), (45, .v (.int .i64 c9)), (46, .pe (.v (.int .i64 v12)) 0), (47, .v (.int .i64 v12)), (48, .v (.bool ((v11.length : Int) != v12))), (49, .v (.bool ((v11.length : Int) != v12))), (50, .v (.bool ((v11.length : Int) != v12)))] [some ⟨1, 4, (c8.map cdB.enc), false⟩] (by kernel_rfl) ?_
            have hq := Option.some.inj hj15; subst hq
            exact RunS.done rfl (Wk.sel2 [0] (by kernel_rfl) (by kernel_rfl) (by kernel_rfl) ⟨⟨_, rfl, bu_own⟩, trivial⟩ ⟨lu (by kernel_rfl) (by kernel_rfl), lu (by kernel_rfl) (by kernel_rfl), lu (by kernel_rfl) (by kernel_rfl), lu (by kernel_rfl) (by kernel_rfl), lu (by kernel_rfl) (by kernel_rfl), lu (by kernel_rfl) (by kernel_rfl), lu (by kernel_rfl) (by kernel_rfl), lu (by kernel_rfl) (by kernel_rfl), lu (by kernel_rfl) (by kernel_rfl), lu (by kernel_rfl) (by kernel_rfl), lu (by kernel_rfl) (by kernel_rfl), trivial⟩)
          · rw [if_f hc46] at hj15
            rw [hc46]
            refine RunS.segF (n := 91) e_evening_check_ok 9 [(0, .v (.int .i64 x0)), (1, .sl 1 (x1.map cdI.enc)), (7, .v (.int .i64 c5)), (8, .v (.bool c6)), (9, .v (.bool c7)), (10, .rf 0 0 c8.length c8.length), (12, .sl 1 (v11.map cdI.enc)), (27, .sl 1 (x2.map (cdL 1 cdI).enc)), (28, .v (.int .i64 (x2.length : Int))), (29, .v (.int .i64 c9)), (38, .sl 1 (x1.map cdI.enc)), (39, .v (.int .i64 (x1.length : Int))), (40, .v (.bool false)), (41, .v (.bool false)), (42, .tp []), (43, .tp []), (44, .tp []), (45, .tp []), (46, .tp []), (47, .tp []), (48, .tp []), (49, .v (.bool false)), (50, .v (.bool false))] [some ⟨1, 4, (c8.map cdB.enc), false⟩] (by kernel_rfl) ?_
            have hq := Option.some.inj hj15; subst hq
            exact RunS.done rfl (Wk.sel2 [0] (by kernel_rfl) (by kernel_rfl) (by kernel_rfl) ⟨⟨_, rfl, bu_own⟩, trivial⟩ ⟨lu (by kernel_rfl) (by kernel_rfl), lu (by kernel_rfl) (by kernel_rfl), lu (by kernel_rfl) (by kernel_rfl), lu (by kernel_rfl) (by kernel_rfl), lu (by kernel_rfl) (by kernel_rfl), lu (by kernel_rfl) (by kernel_rfl), lu (by kernel_rfl) (by kernel_rfl), lu (by kernel_rfl) (by kernel_rfl), lu (by kernel_rfl) (by kernel_rfl), lu (by kernel_rfl) (by kernel_rfl), lu (by kernel_rfl) (by kernel_rfl), trivial⟩)
      refine Sem.cond (b := j15.2) (by kernel_rfl) (fun hb16 => ?_) (fun hb16 => ?_)
      · rw [if_pos hb16] at h
        refine Sem.seq ?_
        refine Sem.runS (s1 := ⟨Fr 91 [(6, .v (.int .i64 2))], []⟩) ?_ ?_
        · refine RunS.segF (n := 91) e_evening_check_ok 1 [(6, .v (.int .i64 2))] [some ⟨1, 4, (j15.1.map cdB.enc), false⟩] (by kernel_rfl) ?_
          exact RunS.done rfl (Wk.sel2 [] (by kernel_rfl) (by kernel_rfl) (by kernel_rfl) trivial ⟨lu (by kernel_rfl) (by kernel_rfl), trivial⟩)
        refine Sem.ret ?_
        have hq := Option.some.inj h; subst hq
        exact ⟨rfl, (Wk.fr (by kernel_rfl))⟩
      · rw [if_f hb16] at h
        refine Sem.skip ?_
        refine Sem.seq ?_
        refine Sem.runS (s1 := ⟨Fr 91 [(0, .v (.int .i64 x0)), (1, .sl 1 (x1.map cdI.enc)), (7, .v (.int .i64 c5)), (8, .v (.bool c6)), (9, .v (.bool c7)), (10, .rf 0 0 j15.1.length j15.1.length), (27, .sl 1 (x2.map (cdL 1 cdI).enc)), (28, .v (.int .i64 (x2.length : Int))), (29, .v (.int .i64 c9)), (51, .sl 1 (v11.map cdI.enc)), (52, .v (.int .i64 (v11.length : Int))), (53, .v (.int .i64 0))], [some ⟨1, 4, (j15.1.map cdB.enc), false⟩]⟩) ?_ ?_
        · refine RunS.segF (n := 91) e_evening_check_ok 1 [(0, .v (.int .i64 x0)), (1, .sl 1 (x1.map cdI.enc)), (7, .v (.int .i64 c5)), (8, .v (.bool c6)), (9, .v (.bool c7)), (10, .rf 0 0 j15.1.length j15.1.length), (27, .sl 1 (x2.map (cdL 1 cdI).enc)), (28, .v (.int .i64 (x2.length : Int))), (29, .v (.int .i64 c9)), (51, .sl 1 (v11.map cdI.enc))] [some ⟨1, 4, (j15.1.map cdB.enc), false⟩] (by kernel_rfl) ?_
          refine RunS.one e_evening_check_ok 0 rfl (op_q (wantedA_none rfl) rfl (q_len (a := .sl 1 (v11.map cdI.enc)) (by kernel_rfl) (len_sl (el := 3) (by kernel_rfl)))) ?_
          refine RunS.segF (n := 91) e_evening_check_ok 1 [(0, .v (.int .i64 x0)), (1, .sl 1 (x1.map cdI.enc)), (7, .v (.int .i64 c5)), (8, .v (.bool c6)), (9, .v (.bool c7)), (10, .rf 0 0 j15.1.length j15.1.length), (27, .sl 1 (x2.map (cdL 1 cdI).enc)), (28, .v (.int .i64 (x2.length : Int))), (29, .v (.int .i64 c9)), (51, .sl 1 (v11.map cdI.enc)), (52, .v (.int .i64 (v11.length : Int))), (53, .v (.int .i64 0))] [some ⟨1, 4, (j15.1.map cdB.enc), false⟩] (by kernel_rfl) ?_
          exact RunS.done rfl (Wk.sel2 [0] (by kernel_rfl) (by kernel_rfl) (by kernel_rfl) ⟨⟨_, rfl, bu_own⟩, trivial⟩ ⟨lu (by kernel_rfl) (by kernel_rfl), lu (by kernel_rfl) (by kernel_rfl), lu (by kernel_rfl) (by kernel_rfl), lu (by kernel_rfl) (by kernel_rfl), lu (by kernel_rfl) (by kernel_rfl), lu (by kernel_rfl) (by kernel_rfl), lu (by kernel_rfl) (by kernel_rfl), lu (by kernel_rfl) (by kernel_rfl), lu (by kernel_rfl) (by kernel_rfl), lu (by kernel_rfl) (by kernel_rfl), lu (by kernel_rfl) (by kernel_rfl), lu (by kernel_rfl) (by kernel_rfl), trivial⟩)
        refine Sem.block ?_
        obtain ⟨r44, hr44, h⟩ := Option.bind_eq_some_iff.1 h
        refine Sem.loop (n := 100000) ?_
        refine Sem.cutN (SemN.wk (s1 := ⟨Fr 91 [(0, .v (.int .i64 x0)), (1, .sl 1 (x1.map cdI.enc)), (7, .v (.int .i64 c5)), (8, .v (.bool c6)), (9, .v (.bool c7)), (10, .rf 0 0 j15.1.length j15.1.length), (27, .sl 1 (x2.map (cdL 1 cdI).enc)), (28, .v (.int .i64 (x2.length : Int))), (29, .v (.int .i64 c9)), (51, .sl 1 (v11.map cdI.enc)), (52, .v (.int .i64 (v11.length : Int))), (53, .v (.int .i64 0))], [some ⟨1, 4, (j15.1.map cdB.enc), false⟩]⟩) (Wk.sel2 [0] (by kernel_rfl) (by kernel_rfl) (by kernel_rfl) ⟨⟨_, rfl, bu_own⟩, trivial⟩ ⟨lu (by kernel_rfl) (by kernel_rfl), lu (by kernel_rfl) (by kernel_rfl), lu (by kernel_rfl) (by kernel_rfl), lu (by kernel_rfl) (by kernel_rfl), lu (by kernel_rfl) (by kernel_rfl), lu (by kernel_rfl) (by kernel_rfl), lu (by kernel_rfl) (by kernel_rfl), lu (by kernel_rfl) (by kernel_rfl), lu (by kernel_rfl) (by kernel_rfl), lu (by kernel_rfl) (by kernel_rfl), lu (by kernel_rfl) (by kernel_rfl), lu (by kernel_rfl) (by kernel_rfl), trivial⟩) (evening_check_2_ok x0 x1 x2 c9 v11 _ c5 c6 c7 j15.1 0 _ hr44)) ?_
        refine Sem.runS (s1 := ⟨Fr 91 [(0, .v (.int .i64 x0)), (1, .sl 1 (x1.map cdI.enc)), (7, .v (.int .i64 r44.1)), (8, .v (.bool r44.2.1)), (9, .v (.bool r44.2.2.1)), (10, .rf 0 0 r44.2.2.2.length r44.2.2.2.length), (27, .sl 1 (x2.map (cdL 1 cdI).enc)), (28, .v (.int .i64 (x2.length : Int))), (29, .v (.int .i64 (wr .i64 (c9 + 1))))], [some ⟨1, 4, (r44.2.2.2.map cdB.enc), false⟩]⟩) ?_ ?_
        · refine RunS.segF (n := 91) e_evening_check_ok 2 [(0, .v (.int .i64 x0)), (1, .sl 1 (x1.map cdI.enc)), (7, .v (.int .i64 r44.1)), (8, .v (.bool r44.2.1)), (9, .v (.bool r44.2.2.1)), (10, .rf 0 0 r44.2.2.2.length r44.2.2.2.length), (27, .sl 1 (x2.map (cdL 1 cdI).enc)), (28, .v (.int .i64 (x2.length : Int))), (29, .v (.int .i64 (wr .i64 (c9 + 1))))] [some ⟨1, 4, (r44.2.2.2.map cdB.enc), false⟩] (by kernel_rfl) ?_
          exact RunS.done rfl (Wk.sel2 [0] (by kernel_rfl) (by kernel_rfl) (by kernel_rfl) ⟨⟨_, rfl, bu_own⟩, trivial⟩ ⟨lu (by kernel_rfl) (by kernel_rfl), lu (by kernel_rfl) (by kernel_rfl), lu (by kernel_rfl) (by kernel_rfl), lu (by kernel_rfl) (by kernel_rfl), lu (by kernel_rfl) (by kernel_rfl), lu (by kernel_rfl) (by kernel_rfl), lu (by kernel_rfl) (by kernel_rfl), lu (by kernel_rfl) (by kernel_rfl), lu (by kernel_rfl) (by kernel_rfl), trivial⟩)
        exact SemN.wk (s1 := ⟨Fr 91 [(0, .v (.int .i64 x0)), (1, .sl 1 (x1.map cdI.enc)), (7, .v (.int .i64 r44.1)), (8, .v (.bool r44.2.1)), (9, .v (.bool r44.2.2.1)), (10, .rf 0 0 r44.2.2.2.length r44.2.2.2.length), (27, .sl 1 (x2.map (cdL 1 cdI).enc)), (28, .v (.int .i64 (x2.length : Int))), (29, .v (.int .i64 (wr .i64 (c9 + 1))))], [some ⟨1, 4, (r44.2.2.2.map cdB.enc), false⟩]⟩) (Wk.sel2 [0] (by kernel_rfl) (by kernel_rfl) (by kernel_rfl) ⟨⟨_, rfl, bu_own⟩, trivial⟩ ⟨lu (by kernel_rfl) (by kernel_rfl), lu (by kernel_rfl) (by kernel_rfl), lu (by kernel_rfl) (by kernel_rfl), lu (by kernel_rfl) (by kernel_rfl), lu (by kernel_rfl) (by kernel_rfl), lu (by kernel_rfl) (by kernel_rfl), lu (by kernel_rfl) (by kernel_rfl), lu (by kernel_rfl) (by kernel_rfl), lu (by kernel_rfl) (by kernel_rfl), trivial⟩) (ih r44.1 r44.2.1 r44.2.2.1 r44.2.2.2 (wr .i64 (c9 + 1)) h)
    · rw [if_f hb10] at h
      refine Sem.exit ?_
      have hq := Option.some.inj h; subst hq
      exact ⟨rfl, (Wk.sel2 [] (by kernel_rfl) (by kernel_rfl) (by kernel_rfl) trivial ⟨lu (by kernel_rfl) (by kernel_rfl), lu (by kernel_rfl) (by kernel_rfl), lu (by kernel_rfl) (by kernel_rfl), lu (by kernel_rfl) (by kernel_rfl), trivial⟩)⟩
set_option maxHeartbeats 4000000 in
set_option maxRecDepth 100000 in
theorem evening_check_sem (x0 : Int) (x1 : (List Int)) (x2 : (List (List Int))) (r : Int) (h : evening_check x0 x1 x2 = some r) : Sem e_evening_check ⟨none, false⟩ cb_evening_check ⟨Fr 91 (pairs0 0 (cs_evening_check.enc (x0, x1, x2, ()))), []⟩ fun e s' => (e = .normal ∨ e = .ret) ∧ ∃ xs, resA e_evening_check.P s'.fr s'.hp Tryd.f69.results.toList = some xs ∧ retA xs = er_evening_check r := by
  unfold evening_check at h
  refine Sem.wkQ (Sem.wk (s1 := ⟨Fr 91 [(0, .v (.int .i64 x0)), (1, .sl 1 (x1.map cdI.enc)), (2, .sl 1 (x2.map (cdL 1 cdI).enc))], []⟩) (Wk.fr (by kernel_rfl)) ?_)
  refine Sem.seq ?_
  refine Sem.runS (s1 := ⟨Fr 91 [(0, .v (.int .i64 x0)), (1, .sl 1 (x1.map cdI.enc)), (2, .sl 1 (x2.map (cdL 1 cdI).enc))], []⟩) ?_ ?_
  · refine RunS.segF (n := 91) e_evening_check_ok 1 [(0, .v (.int .i64 x0)), (1, .sl 1 (x1.map cdI.enc)), (2, .sl 1 (x2.map (cdL 1 cdI).enc))] [] (by kernel_rfl) ?_
    exact RunS.done rfl (Wk.fr (by kernel_rfl))
  refine Sem.seq ?_
  refine Sem.seq ?_
  obtain ⟨j2, hj2, h⟩ := Option.bind_eq_some_iff.1 h
  refine Sem.runS (s1 := ⟨Fr 91 [(0, .v (.int .i64 x0)), (1, .sl 1 (x1.map cdI.enc)), (2, .sl 1 (x2.map (cdL 1 cdI).enc)), (24, .v (.bool j2))], []⟩) ?_ ?_
  · refine RunS.segF (n := 91) e_evening_check_ok 1 [(0, .v (.int .i64 x0)), (1, .sl 1 (x1.map cdI.enc)), (2, .sl 1 (x2.map (cdL 1 cdI).enc)), (15, .sl 1 (x1.map cdI.enc))] [] (by kernel_rfl) ?_
    refine RunS.one e_evening_check_ok 0 rfl (op_q (wantedA_none rfl) rfl (q_len (a := .sl 1 (x1.map cdI.enc)) (by kernel_rfl) (len_sl (el := 3) (by kernel_rfl)))) ?_
    refine RunS.segF (n := 91) e_evening_check_ok 2 [(0, .v (.int .i64 x0)), (1, .sl 1 (x1.map cdI.enc)), (2, .sl 1 (x2.map (cdL 1 cdI).enc)), (18, .v (.bool (decide ((x1.length : Int) > 0))))] [] (by kernel_rfl) ?_
    rcases Bool.eq_false_or_eq_true (decide ((x1.length : Int) > 0)) with hc56 | hc56
    · rw [if_pos hc56] at hj2
      rw [hc56]
      refine RunS.segF (n := 91) e_evening_check_ok 1 [(0, .v (.int .i64 x0)), (1, .sl 1 (x1.map cdI.enc)), (2, .sl 1 (x2.map (cdL 1 cdI).enc)), (18, .v (.bool true)), (19, .sl 1 (x1.map cdI.enc))] [] (by kernel_rfl) ?_
      refine RunS.one e_evening_check_ok 0 rfl (op_q (by kernel_rfl) rfl (q_len (a := .sl 1 (x1.map cdI.enc)) (by kernel_rfl) (len_sl (el := 3) (by kernel_rfl)))) ?_
      refine RunS.segF (n := 91) e_evening_check_ok 1 [(0, .v (.int .i64 x0)), (1, .sl 1 (x1.map cdI.enc)), (2, .sl 1 (x2.map (cdL 1 cdI).enc)), (18, .v (.bool true)), (20, .v (.int .i64 (x1.length : Int))), (21, .sl 1 (x2.map (cdL 1 cdI).enc))] [] (by kernel_rfl) ?_
      refine RunS.one e_evening_check_ok 0 rfl (op_q (by kernel_rfl) rfl (q_len (a := .sl 1 (x2.map (cdL 1 cdI).enc)) (by kernel_rfl) (len_sl (el := 24) (by kernel_rfl)))) ?_
      refine RunS.segF (n := 91) e_evening_check_ok 2 [(0, .v (.int .i64 x0)), (1, .sl 1 (x1.map cdI.enc)), (2, .sl 1 (x2.map (cdL 1 cdI).enc)), (24, .v (.bool ((x1.length : Int) != (x2.length : Int))))] [] (by kernel_rfl) ?_
      have hq := Option.some.inj hj2; subst hq
      exact RunS.done rfl (Wk.fr (by kernel_rfl))
    · rw [if_f hc56] at hj2
      rw [hc56]
      refine RunS.segF (n := 91) e_evening_check_ok 6 [(0, .v (.int .i64 x0)), (1, .sl 1 (x1.map cdI.enc)), (2, .sl 1 (x2.map (cdL 1 cdI).enc)), (24, .v (.bool false))] [] (by kernel_rfl) ?_
      have hq := Option.some.inj hj2; subst hq
      exact RunS.done rfl (Wk.fr (by kernel_rfl))
  refine Sem.cond (b := j2) (by kernel_rfl) (fun hb3 => ?_) (fun hb3 => ?_)
  · rw [if_pos hb3] at h
    refine Sem.seq ?_
    refine Sem.runS (s1 := ⟨Fr 91 [(6, .v (.int .i64 2))], []⟩) ?_ ?_
    · refine RunS.segF (n := 91) e_evening_check_ok 1 [(6, .v (.int .i64 2))] [] (by kernel_rfl) ?_
      exact RunS.done rfl (Wk.fr (by kernel_rfl))
    refine Sem.ret ?_
    have hq := Option.some.inj h; subst hq
    exact ⟨⟨Fr 91 [(6, .v (.int .i64 2))], []⟩, (Wk.fr (by kernel_rfl)), .inr rfl, [.v (.int .i64 2)], (by kernel_rfl), (by kernel_rfl)⟩
  · rw [if_f hb3] at h
    refine Sem.skip ?_
    refine Sem.seq ?_
    refine Sem.runS (s1 := ⟨Fr 91 [(0, .v (.int .i64 x0)), (1, .sl 1 (x1.map cdI.enc)), (2, .sl 1 (x2.map (cdL 1 cdI).enc)), (7, .v (.int .i64 0)), (8, .v (.bool false)), (9, .v (.bool false))], []⟩) ?_ ?_
    · refine RunS.segF (n := 91) e_evening_check_ok 3 [(0, .v (.int .i64 x0)), (1, .sl 1 (x1.map cdI.enc)), (2, .sl 1 (x2.map (cdL 1 cdI).enc)), (7, .v (.int .i64 0)), (8, .v (.bool false)), (9, .v (.bool false))] [] (by kernel_rfl) ?_
      exact RunS.done rfl (Wk.fr (by kernel_rfl))
    refine Sem.seq ?_
    by_cases hk4 : (mkOk 1 x0) = true
    case neg => rw [if_neg hk4] at h; cases h
    rw [if_pos hk4] at h
    refine Sem.runS (s1 := ⟨Fr 91 [(0, .v (.int .i64 x0)), (1, .sl 1 (x1.map cdI.enc)), (2, .sl 1 (x2.map (cdL 1 cdI).enc)), (7, .v (.int .i64 0)), (8, .v (.bool false)), (9, .v (.bool false)), (10, .rf 0 0 (List.replicate x0.toNat false).length (List.replicate x0.toNat false).length)], [some ⟨1, 4, ((List.replicate x0.toNat false).map cdB.enc), false⟩]⟩) ?_ ?_
    · refine RunS.segF (n := 91) e_evening_check_ok 1 [(0, .v (.int .i64 x0)), (1, .sl 1 (x1.map cdI.enc)), (2, .sl 1 (x2.map (cdL 1 cdI).enc)), (7, .v (.int .i64 0)), (8, .v (.bool false)), (9, .v (.bool false)), (25, .v (.int .i64 x0))] [] (by kernel_rfl) ?_
      refine RunS.one e_evening_check_ok 0 rfl (op_n (wantedA_none rfl) rfl (by kernel_rfl) (n_make (x := .v (.int .i64 x0)) (y := .v (.int .i64 x0)) (by kernel_rfl) (by kernel_rfl) (make_B (c := cdB) (z := false) (k := 1) (bytes := 1) (el := 4) (by kernel_rfl) (by kernel_rfl) hk4))) ?_
      refine RunS.segF (n := 91) e_evening_check_ok 1 [(0, .v (.int .i64 x0)), (1, .sl 1 (x1.map cdI.enc)), (2, .sl 1 (x2.map (cdL 1 cdI).enc)), (7, .v (.int .i64 0)), (8, .v (.bool false)), (9, .v (.bool false)), (10, .rf 0 0 (List.replicate x0.toNat false).length (List.replicate x0.toNat false).length)] [some ⟨1, 4, ((List.replicate x0.toNat false).map cdB.enc), false⟩] (by kernel_rfl) ?_
      exact RunS.done rfl (Wk.sel2 [0] (by kernel_rfl) (by kernel_rfl) (by kernel_rfl) ⟨⟨_, rfl, bu_own⟩, trivial⟩ ⟨lu (by kernel_rfl) (by kernel_rfl), lu (by kernel_rfl) (by kernel_rfl), lu (by kernel_rfl) (by kernel_rfl), lu (by kernel_rfl) (by kernel_rfl), lu (by kernel_rfl) (by kernel_rfl), lu (by kernel_rfl) (by kernel_rfl), lu (by kernel_rfl) (by kernel_rfl), trivial⟩)
    refine Sem.seq ?_
    refine Sem.seq ?_
    refine Sem.runS (s1 := ⟨Fr 91 [(0, .v (.int .i64 x0)), (1, .sl 1 (x1.map cdI.enc)), (7, .v (.int .i64 0)), (8, .v (.bool false)), (9, .v (.bool false)), (10, .rf 0 0 (List.replicate x0.toNat false).length (List.replicate x0.toNat false).length), (27, .sl 1 (x2.map (cdL 1 cdI).enc)), (28, .v (.int .i64 (x2.length : Int))), (29, .v (.int .i64 0))], [some ⟨1, 4, ((List.replicate x0.toNat false).map cdB.enc), false⟩]⟩) ?_ ?_
    · refine RunS.segF (n := 91) e_evening_check_ok 1 [(0, .v (.int .i64 x0)), (1, .sl 1 (x1.map cdI.enc)), (7, .v (.int .i64 0)), (8, .v (.bool false)), (9, .v (.bool false)), (10, .rf 0 0 (List.replicate x0.toNat false).length (List.replicate x0.toNat false).length), (27, .sl 1 (x2.map (cdL 1 cdI).enc))] [some ⟨1, 4, ((List.replicate x0.toNat false).map cdB.enc), false⟩] (by kernel_rfl) ?_
      refine RunS.one e_evening_check_ok 0 rfl (op_q (wantedA_none rfl) rfl (q_len (a := .sl 1 (x2.map (cdL 1 cdI).enc)) (by kernel_rfl) (len_sl (el := 24) (by kernel_rfl)))) ?_
      refine RunS.segF (n := 91) e_evening_check_ok 1 [(0, .v (.int .i64 x0)), (1, .sl 1 (x1.map cdI.enc)), (7, .v (.int .i64 0)), (8, .v (.bool false)), (9, .v (.bool false)), (10, .rf 0 0 (List.replicate x0.toNat false).length (List.replicate x0.toNat false).length), (27, .sl 1 (x2.map (cdL 1 cdI).enc)), (28, .v (.int .i64 (x2.length : Int))), (29, .v (.int .i64 0))] [some ⟨1, 4, ((List.replicate x0.toNat false).map cdB.enc), false⟩] (by kernel_rfl) ?_
      exact RunS.done rfl (Wk.sel2 [0] (by kernel_rfl) (by kernel_rfl) (by kernel_rfl) ⟨⟨_, rfl, bu_own⟩, trivial⟩ ⟨lu (by kernel_rfl) (by kernel_rfl), lu (by kernel_rfl) (by kernel_rfl), lu (by kernel_rfl) (by kernel_rfl), lu (by kernel_rfl) (by kernel_rfl), lu (by kernel_rfl) (by kernel_rfl), lu (by kernel_rfl) (by kernel_rfl), lu (by kernel_rfl) (by kernel_rfl), lu (by kernel_rfl) (by kernel_rfl), lu (by kernel_rfl) (by kernel_rfl), trivial⟩)
    refine Sem.block ?_
    obtain ⟨r50, hr50, h⟩ := Option.bind_eq_some_iff.1 h
    refine Sem.loop (n := 100000) ?_
    rcases r50 with w51 | w55
    · try dsimp only at h
      refine Sem.cutN (SemN.wk (s1 := ⟨Fr 91 [(0, .v (.int .i64 x0)), (1, .sl 1 (x1.map cdI.enc)), (7, .v (.int .i64 0)), (8, .v (.bool false)), (9, .v (.bool false)), (10, .rf 0 0 (List.replicate x0.toNat false).length (List.replicate x0.toNat false).length), (27, .sl 1 (x2.map (cdL 1 cdI).enc)), (28, .v (.int .i64 (x2.length : Int))), (29, .v (.int .i64 0))], [some ⟨1, 4, ((List.replicate x0.toNat false).map cdB.enc), false⟩]⟩) (Wk.sel2 [0] (by kernel_rfl) (by kernel_rfl) (by kernel_rfl) ⟨⟨_, rfl, bu_own⟩, trivial⟩ ⟨lu (by kernel_rfl) (by kernel_rfl), lu (by kernel_rfl) (by kernel_rfl), lu (by kernel_rfl) (by kernel_rfl), lu (by kernel_rfl) (by kernel_rfl), lu (by kernel_rfl) (by kernel_rfl), lu (by kernel_rfl) (by kernel_rfl), lu (by kernel_rfl) (by kernel_rfl), lu (by kernel_rfl) (by kernel_rfl), lu (by kernel_rfl) (by kernel_rfl), trivial⟩) (evening_check_1_ok x0 x1 x2 _ 0 false false (List.replicate x0.toNat false) 0 _ hr50)) ?_
      refine Sem.seq ?_
      refine Sem.block ?_
      refine Sem.seq ?_
      refine Sem.runS (s1 := ⟨Fr 91 [(0, .v (.int .i64 x0)), (7, .v (.int .i64 w51.1)), (8, .v (.bool w51.2.1)), (83, .v (.bool w51.2.2))], []⟩) ?_ ?_
      · refine RunS.segF (n := 91) e_evening_check_ok 2 [(0, .v (.int .i64 x0)), (7, .v (.int .i64 w51.1)), (8, .v (.bool w51.2.1)), (83, .v (.bool w51.2.2))] [] (by kernel_rfl) ?_
        exact RunS.done rfl (Wk.fr (by kernel_rfl))
      refine Sem.cond (b := w51.2.2) (by kernel_rfl) (fun hb52 => ?_) (fun hb52 => ?_)
      · rw [if_pos hb52] at h
        refine Sem.seq ?_
        refine Sem.runS (s1 := ⟨Fr 91 [(6, .v (.int .i64 6))], []⟩) ?_ ?_
        · refine RunS.segF (n := 91) e_evening_check_ok 1 [(6, .v (.int .i64 6))] [] (by kernel_rfl) ?_
          exact RunS.done rfl (Wk.fr (by kernel_rfl))
        refine Sem.ret ?_
        have hq := Option.some.inj h; subst hq
        exact ⟨⟨Fr 91 [(6, .v (.int .i64 6))], []⟩, (Wk.fr (by kernel_rfl)), .inr rfl, [.v (.int .i64 6)], (by kernel_rfl), (by kernel_rfl)⟩
      · rw [if_f hb52] at h
        refine Sem.seq ?_
        refine Sem.runS (s1 := ⟨Fr 91 [(0, .v (.int .i64 x0)), (7, .v (.int .i64 w51.1)), (85, .v (.bool w51.2.1))], []⟩) ?_ ?_
        · refine RunS.segF (n := 91) e_evening_check_ok 2 [(0, .v (.int .i64 x0)), (7, .v (.int .i64 w51.1)), (85, .v (.bool w51.2.1))] [] (by kernel_rfl) ?_
          exact RunS.done rfl (Wk.fr (by kernel_rfl))
        refine Sem.cond (b := w51.2.1) (by kernel_rfl) (fun hb53 => ?_) (fun hb53 => ?_)
        · rw [if_pos hb53] at h
          refine Sem.seq ?_
          refine Sem.runS (s1 := ⟨Fr 91 [(6, .v (.int .i64 5))], []⟩) ?_ ?_
          · refine RunS.segF (n := 91) e_evening_check_ok 1 [(6, .v (.int .i64 5))] [] (by kernel_rfl) ?_
            exact RunS.done rfl (Wk.fr (by kernel_rfl))
          refine Sem.ret ?_
          have hq := Option.some.inj h; subst hq
          exact ⟨⟨Fr 91 [(6, .v (.int .i64 5))], []⟩, (Wk.fr (by kernel_rfl)), .inr rfl, [.v (.int .i64 5)], (by kernel_rfl), (by kernel_rfl)⟩
        · rw [if_f hb53] at h
          refine Sem.seq ?_
          refine Sem.runS (s1 := ⟨Fr 91 [(87, .v (.bool (decide (w51.1 < x0))))], []⟩) ?_ ?_
          · refine RunS.segF (n := 91) e_evening_check_ok 4 [(87, .v (.bool (decide (w51.1 < x0))))] [] (by kernel_rfl) ?_
            exact RunS.done rfl (Wk.fr (by kernel_rfl))
          refine Sem.cond (b := (decide (w51.1 < x0))) (by kernel_rfl) (fun hb54 => ?_) (fun hb54 => ?_)
          · rw [if_pos hb54] at h
            refine Sem.seq ?_
            refine Sem.runS (s1 := ⟨Fr 91 [(6, .v (.int .i64 2))], []⟩) ?_ ?_
            · refine RunS.segF (n := 91) e_evening_check_ok 1 [(6, .v (.int .i64 2))] [] (by kernel_rfl) ?_
              exact RunS.done rfl (Wk.fr (by kernel_rfl))
            refine Sem.ret ?_
            have hq := Option.some.inj h; subst hq
            exact ⟨⟨Fr 91 [(6, .v (.int .i64 2))], []⟩, (Wk.fr (by kernel_rfl)), .inr rfl, [.v (.int .i64 2)], (by kernel_rfl), (by kernel_rfl)⟩
          · rw [if_f hb54] at h
            refine Sem.skip ?_
            refine Sem.seq ?_
            refine Sem.runS (s1 := ⟨Fr 91 [(6, .v (.int .i64 0))], []⟩) ?_ ?_
            · refine RunS.segF (n := 91) e_evening_check_ok 1 [(6, .v (.int .i64 0))] [] (by kernel_rfl) ?_
              exact RunS.done rfl (Wk.fr (by kernel_rfl))
            refine Sem.ret ?_
            have hq := Option.some.inj h; subst hq
            exact ⟨⟨Fr 91 [(6, .v (.int .i64 0))], []⟩, (Wk.fr (by kernel_rfl)), .inr rfl, [.v (.int .i64 0)], (by kernel_rfl), (by kernel_rfl)⟩
    · try dsimp only at h
      refine Sem.cutN (SemN.wk (s1 := ⟨Fr 91 [(0, .v (.int .i64 x0)), (1, .sl 1 (x1.map cdI.enc)), (7, .v (.int .i64 0)), (8, .v (.bool false)), (9, .v (.bool false)), (10, .rf 0 0 (List.replicate x0.toNat false).length (List.replicate x0.toNat false).length), (27, .sl 1 (x2.map (cdL 1 cdI).enc)), (28, .v (.int .i64 (x2.length : Int))), (29, .v (.int .i64 0))], [some ⟨1, 4, ((List.replicate x0.toNat false).map cdB.enc), false⟩]⟩) (Wk.sel2 [0] (by kernel_rfl) (by kernel_rfl) (by kernel_rfl) ⟨⟨_, rfl, bu_own⟩, trivial⟩ ⟨lu (by kernel_rfl) (by kernel_rfl), lu (by kernel_rfl) (by kernel_rfl), lu (by kernel_rfl) (by kernel_rfl), lu (by kernel_rfl) (by kernel_rfl), lu (by kernel_rfl) (by kernel_rfl), lu (by kernel_rfl) (by kernel_rfl), lu (by kernel_rfl) (by kernel_rfl), lu (by kernel_rfl) (by kernel_rfl), lu (by kernel_rfl) (by kernel_rfl), trivial⟩) (evening_check_1_ok x0 x1 x2 _ 0 false false (List.replicate x0.toNat false) 0 _ hr50)) ?_
      have hq := Option.some.inj h; subst hq
      exact ⟨⟨Fr 91 [(6, .v (.int .i64 w55))], []⟩, (Wk.fr (by kernel_rfl)), .inr rfl, [.v (.int .i64 w55)], (by kernel_rfl), (by kernel_rfl)⟩
def t_evening_check : List AV → Option AV := told cs_evening_check (fun a => evening_check a.1 a.2.1 a.2.2.1) er_evening_check
theorem x_evening_check : XOk 69 t_evening_check := by
  refine EnvOk.x (E := e_evening_check) (contract_ok e_evening_check_ok (fn := Tryd.f69) (c := cb_evening_check) ?h1 ?h2 ⟨Tryd.call69⟩ cs_evening_check (fun a => evening_check a.1 a.2.1 a.2.2.1) er_evening_check (fun a => (by show 3 ≤ 91; decide)) ?h3 ?h4) rfl rfl
  case h1 => kernel_rfl
  case h2 => kernel_rfl
  case h3 => intro b; kernel_rfl
  case h4 => exact fun a b h => evening_check_sem a.1 a.2.1 a.2.2.1 b h
end Go.Proofs.YthofgamegondnaaDoor

namespace Go.Proofs.YthofgamegondnaaDoor
open Go.RowKit
/- trestle/evening.Check -/
noncomputable def e_evening_Check : Env := (((E0.withX 67 t_evening_guests).withX 68 t_evening_fit).withX 69 t_evening_check)
theorem e_evening_Check_ok : EnvOk e_evening_Check := (EnvOk.withX (EnvOk.withX (EnvOk.withX E0_ok x_evening_guests.1 x_evening_guests.2) x_evening_fit.1 x_evening_fit.2) x_evening_check.1 x_evening_check.2)
noncomputable def cb_evening_Check : Code := codeOf Tryd.f28
def evening_Check_1 (x0 : Int) (x1 : (List Int)) (x2 : (List (List (List Int)))) : Nat → Int → Option ((Unit) ⊕ (Int × Int))
  | 0, _ => none
  | f + 1, c7 =>
    if (decide (c7 < (x2.length : Int))) = true then
    (idx x2 c7).bind fun v9 =>
    (evening_check x0 x1 v9).bind fun v10 =>
    if (v10 != 0) = true then
    some (.inr (c7, v10))
    else
    evening_Check_1 x0 x1 x2 f (wr .i64 (c7 + 1))
    else
    some (.inl ())
def evening_Check (x0 : Int) (x1 : (List Int)) (x2 : (List (List (List Int)))) : Option (Int × Int) :=
  (evening_guests x0).bind fun v1 =>
  (if (!v1) = true then some true else if (decide ((x1.length : Int) > 0)) = true then (evening_fit x0 x1).bind fun v2 =>
  some (!v2) else some false).bind fun j4 =>
  if j4 = true then
  some (0, 90)
  else
  if (decide ((x2.length : Int) > 64)) = true then
  some (0, 7)
  else
  (evening_Check_1 x0 x1 x2 100000 0).bind fun r14 =>
  match r14 with
  | (.inl w15) =>
    some (0, 0)
  | (.inr w16) =>
    some (w16.1, w16.2)
def cs_evening_Check : Cs (Int × (List Int) × (List (List (List Int))) × Unit) := (csC cdI (csC (cdL 1 cdI) (csC (cdL 1 (cdL 1 (cdL 1 cdI))) csN)))
def er_evening_Check (r : Int × Int) : AV := .tp [cdI.enc r.1, cdI.enc r.2]
set_option maxHeartbeats 4000000 in
set_option maxRecDepth 100000 in
theorem evening_Check_1_ok (x0 : Int) (x1 : (List Int)) (x2 : (List (List (List Int)))) : ∀ (f : Nat) (c7 : Int) (r : (Unit) ⊕ (Int × Int)), evening_Check_1 x0 x1 x2 f c7 = some r → SemN e_evening_Check ⟨none, false⟩ (pc cb_evening_Check [1, 1, 0, 1, 0, 0]) f ⟨Fr 46 [(0, .v (.int .i64 x0)), (1, .sl 1 (x1.map cdI.enc)), (30, .sl 1 (x2.map (cdL 1 (cdL 1 cdI)).enc)), (31, .v (.int .i64 (x2.length : Int))), (32, .v (.int .i64 c7))], []⟩ (fun e s => match r with
  | (.inl w) => e = (.exit 1) ∧ Wk e_evening_Check s ⟨Fr 46 [], []⟩
  | (.inr w) => e = .ret ∧ Wk e_evening_Check s ⟨Fr 46 [(6, .v (.int .i64 w.1)), (7, .v (.int .i64 w.2))], []⟩) := by
  intro f
  induction f with
  | zero => intro c7 r h; cases h
  | succ f ih0 =>
    intro c7 r h
    have ih := fun (c7 : Int) => ih0 c7 r
    unfold evening_Check_1 at h
    refine SemN.succ ?_
    refine Sem.seq ?_
    refine Sem.runS (s1 := ⟨Fr 46 [(0, .v (.int .i64 x0)), (1, .sl 1 (x1.map cdI.enc)), (30, .sl 1 (x2.map (cdL 1 (cdL 1 cdI)).enc)), (31, .v (.int .i64 (x2.length : Int))), (32, .v (.int .i64 c7)), (33, .v (.bool (decide (c7 < (x2.length : Int)))))], []⟩) ?_ ?_
    · refine RunS.segF (n := 46) e_evening_Check_ok 1 [(0, .v (.int .i64 x0)), (1, .sl 1 (x1.map cdI.enc)), (30, .sl 1 (x2.map (cdL 1 (cdL 1 cdI)).enc)), (31, .v (.int .i64 (x2.length : Int))), (32, .v (.int .i64 c7)), (33, .v (.bool (decide (c7 < (x2.length : Int)))))] [] (by kernel_rfl) ?_
      exact RunS.done rfl (Wk.fr (by kernel_rfl))
    refine Sem.seq ?_
    refine Sem.cond (b := (decide (c7 < (x2.length : Int)))) (by kernel_rfl) (fun hb8 => ?_) (fun hb8 => ?_)
    · rw [if_pos hb8] at h
      refine Sem.skip ?_
      refine Sem.seq ?_
      refine Sem.block ?_
      refine Sem.seq ?_
      obtain ⟨v9, hv9, h⟩ := Option.bind_eq_some_iff.1 h
      refine Sem.runS (s1 := ⟨Fr 46 [(0, .v (.int .i64 x0)), (1, .sl 1 (x1.map cdI.enc)), (8, .v (.int .i64 c7)), (9, .sl 1 (v9.map (cdL 1 cdI).enc)), (30, .sl 1 (x2.map (cdL 1 (cdL 1 cdI)).enc)), (31, .v (.int .i64 (x2.length : Int))), (32, .v (.int .i64 c7))], []⟩) ?_ ?_
      · refine RunS.segF (n := 46) e_evening_Check_ok 1 [(0, .v (.int .i64 x0)), (1, .sl 1 (x1.map cdI.enc)), (30, .sl 1 (x2.map (cdL 1 (cdL 1 cdI)).enc)), (31, .v (.int .i64 (x2.length : Int))), (32, .v (.int .i64 c7)), (34, .v (.int .i64 c7))] [] (by kernel_rfl) ?_
        refine RunS.one e_evening_Check_ok 0 rfl (op_q (wantedA_none rfl) rfl (q_indexAddr (a := .sl 1 (x2.map (cdL 1 (cdL 1 cdI)).enc)) (b := .v (.int .i64 c7)) (by kernel_rfl) (by kernel_rfl) (ix_sl (e := (cdL 1 (cdL 1 cdI)).enc) (el := 49) (k := 1) (ki := .i64) (by kernel_rfl) (by kernel_rfl) hv9))) ?_
        refine RunS.segF (n := 46) e_evening_Check_ok 3 [(0, .v (.int .i64 x0)), (1, .sl 1 (x1.map cdI.enc)), (8, .v (.int .i64 c7)), (9, .sl 1 (v9.map (cdL 1 cdI).enc)), (30, .sl 1 (x2.map (cdL 1 (cdL 1 cdI)).enc)), (31, .v (.int .i64 (x2.length : Int))), (32, .v (.int .i64 c7))] [] (by kernel_rfl) ?_
        exact RunS.done rfl (Wk.fr (by kernel_rfl))
      refine Sem.seq ?_
      obtain ⟨v10, hv10, h⟩ := Option.bind_eq_some_iff.1 h
      refine Sem.runS (s1 := ⟨Fr 46 [(0, .v (.int .i64 x0)), (1, .sl 1 (x1.map cdI.enc)), (8, .v (.int .i64 c7)), (10, .v (.int .i64 v10)), (30, .sl 1 (x2.map (cdL 1 (cdL 1 cdI)).enc)), (31, .v (.int .i64 (x2.length : Int))), (32, .v (.int .i64 c7))], []⟩) ?_ ?_
      · refine RunS.segF (n := 46) e_evening_Check_ok 3 [(0, .v (.int .i64 x0)), (1, .sl 1 (x1.map cdI.enc)), (8, .v (.int .i64 c7)), (30, .sl 1 (x2.map (cdL 1 (cdL 1 cdI)).enc)), (31, .v (.int .i64 (x2.length : Int))), (32, .v (.int .i64 c7)), (37, .v (.int .i64 x0)), (38, .sl 1 (x1.map cdI.enc)), (39, .sl 1 (v9.map (cdL 1 cdI).enc))] [] (by kernel_rfl) ?_
        refine RunS.call e_evening_Check_ok (fid := 69) (s := cs_evening_check) (F := fun a => evening_check a.1 a.2.1 a.2.2.1) (er := er_evening_check) (xs := [.v (.int .i64 x0), .sl 1 (x1.map cdI.enc), .sl 1 (v9.map (cdL 1 cdI).enc)]) (a := (x0, x1, v9, ())) rfl (wantedA_none rfl) (by kernel_rfl) (by kernel_rfl) (by kernel_rfl) (by kernel_rfl) (Sns.cons (Sn.enc (c := cdI) (v := x0)) (Sns.cons (Sn.enc (c := (cdL 1 cdI)) (v := x1)) (Sns.cons (Sn.enc (c := (cdL 1 (cdL 1 cdI))) (v := v9)) Sns.nil))) (.inl (by kernel_rfl)) hv10 ?_
        refine RunS.segF (n := 46) e_evening_Check_ok 1 [(0, .v (.int .i64 x0)), (1, .sl 1 (x1.map cdI.enc)), (8, .v (.int .i64 c7)), (10, .v (.int .i64 v10)), (30, .sl 1 (x2.map (cdL 1 (cdL 1 cdI)).enc)), (31, .v (.int .i64 (x2.length : Int))), (32, .v (.int .i64 c7))] [] (by kernel_rfl) ?_
        exact RunS.done rfl (Wk.fr (by kernel_rfl))
      refine Sem.seq ?_
      refine Sem.runS (s1 := ⟨Fr 46 [(0, .v (.int .i64 x0)), (1, .sl 1 (x1.map cdI.enc)), (8, .v (.int .i64 c7)), (10, .v (.int .i64 v10)), (30, .sl 1 (x2.map (cdL 1 (cdL 1 cdI)).enc)), (31, .v (.int .i64 (x2.length : Int))), (32, .v (.int .i64 c7)), (42, .v (.bool (v10 != 0)))], []⟩) ?_ ?_
      · refine RunS.segF (n := 46) e_evening_Check_ok 2 [(0, .v (.int .i64 x0)), (1, .sl 1 (x1.map cdI.enc)), (8, .v (.int .i64 c7)), (10, .v (.int .i64 v10)), (30, .sl 1 (x2.map (cdL 1 (cdL 1 cdI)).enc)), (31, .v (.int .i64 (x2.length : Int))), (32, .v (.int .i64 c7)), (42, .v (.bool (v10 != 0)))] [] (by kernel_rfl) ?_
        exact RunS.done rfl (Wk.fr (by kernel_rfl))
      refine Sem.cond (b := (v10 != 0)) (by kernel_rfl) (fun hb11 => ?_) (fun hb11 => ?_)
      · rw [if_pos hb11] at h
        refine Sem.seq ?_
        refine Sem.runS (s1 := ⟨Fr 46 [(6, .v (.int .i64 c7)), (7, .v (.int .i64 v10))], []⟩) ?_ ?_
        · refine RunS.segF (n := 46) e_evening_Check_ok 4 [(6, .v (.int .i64 c7)), (7, .v (.int .i64 v10))] [] (by kernel_rfl) ?_
          exact RunS.done rfl (Wk.fr (by kernel_rfl))
        refine Sem.ret ?_
        have hq := Option.some.inj h; subst hq
        exact ⟨rfl, (Wk.fr (by kernel_rfl))⟩
      · rw [if_f hb11] at h
        refine Sem.skip ?_
        refine Sem.runS (s1 := ⟨Fr 46 [(0, .v (.int .i64 x0)), (1, .sl 1 (x1.map cdI.enc)), (30, .sl 1 (x2.map (cdL 1 (cdL 1 cdI)).enc)), (31, .v (.int .i64 (x2.length : Int))), (32, .v (.int .i64 (wr .i64 (c7 + 1))))], []⟩) ?_ ?_
        · refine RunS.segF (n := 46) e_evening_Check_ok 2 [(0, .v (.int .i64 x0)), (1, .sl 1 (x1.map cdI.enc)), (30, .sl 1 (x2.map (cdL 1 (cdL 1 cdI)).enc)), (31, .v (.int .i64 (x2.length : Int))), (32, .v (.int .i64 (wr .i64 (c7 + 1))))] [] (by kernel_rfl) ?_
          exact RunS.done rfl (Wk.fr (by kernel_rfl))
        exact SemN.wk (s1 := ⟨Fr 46 [(0, .v (.int .i64 x0)), (1, .sl 1 (x1.map cdI.enc)), (30, .sl 1 (x2.map (cdL 1 (cdL 1 cdI)).enc)), (31, .v (.int .i64 (x2.length : Int))), (32, .v (.int .i64 (wr .i64 (c7 + 1))))], []⟩) (Wk.fr (by kernel_rfl)) (ih (wr .i64 (c7 + 1)) h)
    · rw [if_f hb8] at h
      refine Sem.exit ?_
      have hq := Option.some.inj h; subst hq
      exact ⟨rfl, (Wk.fr (by kernel_rfl))⟩
set_option maxHeartbeats 4000000 in
set_option maxRecDepth 100000 in
theorem evening_Check_sem (x0 : Int) (x1 : (List Int)) (x2 : (List (List (List Int)))) (r : Int × Int) (h : evening_Check x0 x1 x2 = some r) : Sem e_evening_Check ⟨none, false⟩ cb_evening_Check ⟨Fr 46 (pairs0 0 (cs_evening_Check.enc (x0, x1, x2, ()))), []⟩ fun e s' => (e = .normal ∨ e = .ret) ∧ ∃ xs, resA e_evening_Check.P s'.fr s'.hp Tryd.f28.results.toList = some xs ∧ retA xs = er_evening_Check r := by
  unfold evening_Check at h
  refine Sem.wkQ (Sem.wk (s1 := ⟨Fr 46 [(0, .v (.int .i64 x0)), (1, .sl 1 (x1.map cdI.enc)), (2, .sl 1 (x2.map (cdL 1 (cdL 1 cdI)).enc))], []⟩) (Wk.fr (by kernel_rfl)) ?_)
  refine Sem.seq ?_
  refine Sem.runS (s1 := ⟨Fr 46 [(0, .v (.int .i64 x0)), (1, .sl 1 (x1.map cdI.enc)), (2, .sl 1 (x2.map (cdL 1 (cdL 1 cdI)).enc))], []⟩) ?_ ?_
  · refine RunS.segF (n := 46) e_evening_Check_ok 2 [(0, .v (.int .i64 x0)), (1, .sl 1 (x1.map cdI.enc)), (2, .sl 1 (x2.map (cdL 1 (cdL 1 cdI)).enc))] [] (by kernel_rfl) ?_
    exact RunS.done rfl (Wk.fr (by kernel_rfl))
  refine Sem.seq ?_
  refine Sem.block ?_
  refine Sem.seq ?_
  obtain ⟨v1, hv1, h⟩ := Option.bind_eq_some_iff.1 h
  obtain ⟨j4, hj4, h⟩ := Option.bind_eq_some_iff.1 h
  refine Sem.runS (s1 := ⟨Fr 46 [(0, .v (.int .i64 x0)), (1, .sl 1 (x1.map cdI.enc)), (2, .sl 1 (x2.map (cdL 1 (cdL 1 cdI)).enc)), (11, .v (.bool j4))], []⟩) ?_ ?_
  · refine RunS.segF (n := 46) e_evening_Check_ok 1 [(0, .v (.int .i64 x0)), (1, .sl 1 (x1.map cdI.enc)), (2, .sl 1 (x2.map (cdL 1 (cdL 1 cdI)).enc)), (12, .v (.int .i64 x0))] [] (by kernel_rfl) ?_
    refine RunS.call e_evening_Check_ok (fid := 67) (s := cs_evening_guests) (F := fun a => evening_guests a.1) (er := er_evening_guests) (xs := [.v (.int .i64 x0)]) (a := (x0, ())) rfl (wantedA_none rfl) (by kernel_rfl) (by kernel_rfl) (by kernel_rfl) (by kernel_rfl) (Sns.cons (Sn.enc (c := cdI) (v := x0)) Sns.nil) (.inl (by kernel_rfl)) hv1 ?_
    refine RunS.segF (n := 46) e_evening_Check_ok 2 [(0, .v (.int .i64 x0)), (1, .sl 1 (x1.map cdI.enc)), (2, .sl 1 (x2.map (cdL 1 (cdL 1 cdI)).enc)), (15, .v (.bool (!v1)))] [] (by kernel_rfl) ?_
    rcases Bool.eq_false_or_eq_true (!v1) with hc17 | hc17
    · rw [if_pos hc17] at hj4
      rw [hc17]
      refine RunS.segF (n := 46) e_evening_Check_ok 11 [(0, .v (.int .i64 x0)), (1, .sl 1 (x1.map cdI.enc)), (2, .sl 1 (x2.map (cdL 1 (cdL 1 cdI)).enc)), (11, .v (.bool true))] [] (by kernel_rfl) ?_
      have hq := Option.some.inj hj4; subst hq
      exact RunS.done rfl (Wk.fr (by kernel_rfl))
    · rw [if_f hc17] at hj4
      rw [hc17]
      refine RunS.segF (n := 46) e_evening_Check_ok 1 [(0, .v (.int .i64 x0)), (1, .sl 1 (x1.map cdI.enc)), (2, .sl 1 (x2.map (cdL 1 (cdL 1 cdI)).enc)), (15, .v (.bool false)), (16, .sl 1 (x1.map cdI.enc))] [] (by kernel_rfl) ?_
      refine RunS.one e_evening_Check_ok 0 rfl (op_q (by kernel_rfl) rfl (q_len (a := .sl 1 (x1.map cdI.enc)) (by kernel_rfl) (len_sl (el := 3) (by kernel_rfl)))) ?_
      refine RunS.segF (n := 46) e_evening_Check_ok 2 [(0, .v (.int .i64 x0)), (1, .sl 1 (x1.map cdI.enc)), (2, .sl 1 (x2.map (cdL 1 (cdL 1 cdI)).enc)), (15, .v (.bool false)), (19, .v (.bool (decide ((x1.length : Int) > 0))))] [] (by kernel_rfl) ?_
      rcases Bool.eq_false_or_eq_true (decide ((x1.length : Int) > 0)) with hc18 | hc18
      · rw [if_pos hc18] at hj4
        rw [hc18]
        refine RunS.segF (n := 46) e_evening_Check_ok 2 [(0, .v (.int .i64 x0)), (1, .sl 1 (x1.map cdI.enc)), (2, .sl 1 (x2.map (cdL 1 (cdL 1 cdI)).enc)), (15, .v (.bool false)), (19, .v (.bool true)), (20, .v (.int .i64 x0)), (21, .sl 1 (x1.map cdI.enc))] [] (by kernel_rfl) ?_
        obtain ⟨v2, hv2, hj4⟩ := Option.bind_eq_some_iff.1 hj4
        refine RunS.call e_evening_Check_ok (fid := 68) (s := cs_evening_fit) (F := fun a => evening_fit a.1 a.2.1) (er := er_evening_fit) (xs := [.v (.int .i64 x0), .sl 1 (x1.map cdI.enc)]) (a := (x0, x1, ())) rfl (by kernel_rfl) (by kernel_rfl) (by kernel_rfl) (by kernel_rfl) (by kernel_rfl) (Sns.cons (Sn.enc (c := cdI) (v := x0)) (Sns.cons (Sn.enc (c := (cdL 1 cdI)) (v := x1)) Sns.nil)) (.inl (by kernel_rfl)) hv2 ?_
        refine RunS.segF (n := 46) e_evening_Check_ok 4 [(0, .v (.int .i64 x0)), (1, .sl 1 (x1.map cdI.enc)), (2, .sl 1 (x2.map (cdL 1 (cdL 1 cdI)).enc)), (11, .v (.bool (!v2)))] [] (by kernel_rfl) ?_
        have hq := Option.some.inj hj4; subst hq
        exact RunS.done rfl (Wk.fr (by kernel_rfl))
      · rw [if_f hc18] at hj4
        rw [hc18]
        refine RunS.segF (n := 46) e_evening_Check_ok 7 [(0, .v (.int .i64 x0)), (1, .sl 1 (x1.map cdI.enc)), (2, .sl 1 (x2.map (cdL 1 (cdL 1 cdI)).enc)), (11, .v (.bool false))] [] (by kernel_rfl) ?_
        have hq := Option.some.inj hj4; subst hq
        exact RunS.done rfl (Wk.fr (by kernel_rfl))
  refine Sem.cond (b := j4) (by kernel_rfl) (fun hb5 => ?_) (fun hb5 => ?_)
  · rw [if_pos hb5] at h
    refine Sem.seq ?_
    refine Sem.runS (s1 := ⟨Fr 46 [(6, .v (.int .i64 0)), (7, .v (.int .i64 90))], []⟩) ?_ ?_
    · refine RunS.segF (n := 46) e_evening_Check_ok 2 [(6, .v (.int .i64 0)), (7, .v (.int .i64 90))] [] (by kernel_rfl) ?_
      exact RunS.done rfl (Wk.fr (by kernel_rfl))
    refine Sem.ret ?_
    have hq := Option.some.inj h; subst hq
    exact ⟨⟨Fr 46 [(6, .v (.int .i64 0)), (7, .v (.int .i64 90))], []⟩, (Wk.fr (by kernel_rfl)), .inr rfl, [.v (.int .i64 0), .v (.int .i64 90)], (by kernel_rfl), (by kernel_rfl)⟩
  · rw [if_f hb5] at h
    refine Sem.seq ?_
    refine Sem.runS (s1 := ⟨Fr 46 [(0, .v (.int .i64 x0)), (1, .sl 1 (x1.map cdI.enc)), (2, .sl 1 (x2.map (cdL 1 (cdL 1 cdI)).enc)), (26, .v (.bool (decide ((x2.length : Int) > 64))))], []⟩) ?_ ?_
    · refine RunS.segF (n := 46) e_evening_Check_ok 1 [(0, .v (.int .i64 x0)), (1, .sl 1 (x1.map cdI.enc)), (2, .sl 1 (x2.map (cdL 1 (cdL 1 cdI)).enc)), (27, .sl 1 (x2.map (cdL 1 (cdL 1 cdI)).enc))] [] (by kernel_rfl) ?_
      refine RunS.one e_evening_Check_ok 0 rfl (op_q (wantedA_none rfl) rfl (q_len (a := .sl 1 (x2.map (cdL 1 (cdL 1 cdI)).enc)) (by kernel_rfl) (len_sl (el := 49) (by kernel_rfl)))) ?_
      refine RunS.segF (n := 46) e_evening_Check_ok 2 [(0, .v (.int .i64 x0)), (1, .sl 1 (x1.map cdI.enc)), (2, .sl 1 (x2.map (cdL 1 (cdL 1 cdI)).enc)), (26, .v (.bool (decide ((x2.length : Int) > 64))))] [] (by kernel_rfl) ?_
      exact RunS.done rfl (Wk.fr (by kernel_rfl))
    refine Sem.cond (b := (decide ((x2.length : Int) > 64))) (by kernel_rfl) (fun hb6 => ?_) (fun hb6 => ?_)
    · rw [if_pos hb6] at h
      refine Sem.seq ?_
      refine Sem.runS (s1 := ⟨Fr 46 [(6, .v (.int .i64 0)), (7, .v (.int .i64 7))], []⟩) ?_ ?_
      · refine RunS.segF (n := 46) e_evening_Check_ok 2 [(6, .v (.int .i64 0)), (7, .v (.int .i64 7))] [] (by kernel_rfl) ?_
        exact RunS.done rfl (Wk.fr (by kernel_rfl))
      refine Sem.ret ?_
      have hq := Option.some.inj h; subst hq
      exact ⟨⟨Fr 46 [(6, .v (.int .i64 0)), (7, .v (.int .i64 7))], []⟩, (Wk.fr (by kernel_rfl)), .inr rfl, [.v (.int .i64 0), .v (.int .i64 7)], (by kernel_rfl), (by kernel_rfl)⟩
    · rw [if_f hb6] at h
      refine Sem.skip ?_
      refine Sem.seq ?_
      refine Sem.seq ?_
      refine Sem.runS (s1 := ⟨Fr 46 [(0, .v (.int .i64 x0)), (1, .sl 1 (x1.map cdI.enc)), (30, .sl 1 (x2.map (cdL 1 (cdL 1 cdI)).enc)), (31, .v (.int .i64 (x2.length : Int))), (32, .v (.int .i64 0))], []⟩) ?_ ?_
      · refine RunS.segF (n := 46) e_evening_Check_ok 1 [(0, .v (.int .i64 x0)), (1, .sl 1 (x1.map cdI.enc)), (30, .sl 1 (x2.map (cdL 1 (cdL 1 cdI)).enc))] [] (by kernel_rfl) ?_
        refine RunS.one e_evening_Check_ok 0 rfl (op_q (wantedA_none rfl) rfl (q_len (a := .sl 1 (x2.map (cdL 1 (cdL 1 cdI)).enc)) (by kernel_rfl) (len_sl (el := 49) (by kernel_rfl)))) ?_
        refine RunS.segF (n := 46) e_evening_Check_ok 1 [(0, .v (.int .i64 x0)), (1, .sl 1 (x1.map cdI.enc)), (30, .sl 1 (x2.map (cdL 1 (cdL 1 cdI)).enc)), (31, .v (.int .i64 (x2.length : Int))), (32, .v (.int .i64 0))] [] (by kernel_rfl) ?_
        exact RunS.done rfl (Wk.fr (by kernel_rfl))
      refine Sem.block ?_
      obtain ⟨r14, hr14, h⟩ := Option.bind_eq_some_iff.1 h
      refine Sem.loop (n := 100000) ?_
      rcases r14 with w15 | w16
      · try dsimp only at h
        refine Sem.cutN (SemN.wk (s1 := ⟨Fr 46 [(0, .v (.int .i64 x0)), (1, .sl 1 (x1.map cdI.enc)), (30, .sl 1 (x2.map (cdL 1 (cdL 1 cdI)).enc)), (31, .v (.int .i64 (x2.length : Int))), (32, .v (.int .i64 0))], []⟩) (Wk.fr (by kernel_rfl)) (evening_Check_1_ok x0 x1 x2 _ 0 _ hr14)) ?_
        refine Sem.seq ?_
        refine Sem.runS (s1 := ⟨Fr 46 [(6, .v (.int .i64 0)), (7, .v (.int .i64 0))], []⟩) ?_ ?_
        · refine RunS.segF (n := 46) e_evening_Check_ok 2 [(6, .v (.int .i64 0)), (7, .v (.int .i64 0))] [] (by kernel_rfl) ?_
          exact RunS.done rfl (Wk.fr (by kernel_rfl))
        refine Sem.ret ?_
        have hq := Option.some.inj h; subst hq
        exact ⟨⟨Fr 46 [(6, .v (.int .i64 0)), (7, .v (.int .i64 0))], []⟩, (Wk.fr (by kernel_rfl)), .inr rfl, [.v (.int .i64 0), .v (.int .i64 0)], (by kernel_rfl), (by kernel_rfl)⟩
      · try dsimp only at h
        refine Sem.cutN (SemN.wk (s1 := ⟨Fr 46 [(0, .v (.int .i64 x0)), (1, .sl 1 (x1.map cdI.enc)), (30, .sl 1 (x2.map (cdL 1 (cdL 1 cdI)).enc)), (31, .v (.int .i64 (x2.length : Int))), (32, .v (.int .i64 0))], []⟩) (Wk.fr (by kernel_rfl)) (evening_Check_1_ok x0 x1 x2 _ 0 _ hr14)) ?_
        have hq := Option.some.inj h; subst hq
        exact ⟨⟨Fr 46 [(6, .v (.int .i64 w16.1)), (7, .v (.int .i64 w16.2))], []⟩, (Wk.fr (by kernel_rfl)), .inr rfl, [.v (.int .i64 w16.1), .v (.int .i64 w16.2)], (by kernel_rfl), (by kernel_rfl)⟩
def t_evening_Check : List AV → Option AV := told cs_evening_Check (fun a => evening_Check a.1 a.2.1 a.2.2.1) er_evening_Check
theorem x_evening_Check : XOk 28 t_evening_Check := by
  refine EnvOk.x (E := e_evening_Check) (contract_ok e_evening_Check_ok (fn := Tryd.f28) (c := cb_evening_Check) ?h1 ?h2 ⟨Tryd.call28⟩ cs_evening_Check (fun a => evening_Check a.1 a.2.1 a.2.2.1) er_evening_Check (fun a => (by show 3 ≤ 46; decide)) ?h3 ?h4) rfl rfl
  case h1 => kernel_rfl
  case h2 => kernel_rfl
  case h3 => intro b; kernel_rfl
  case h4 => exact fun a b h => evening_Check_sem a.1 a.2.1 a.2.2.1 b h
end Go.Proofs.YthofgamegondnaaDoor

namespace Go.Proofs.YthofgamegondnaaDoor
open Go.RowKit

def flatO : AV → Bool
  | .v _ => true
  | .st _ => true
  | .e0 => true
  | .rf _ _ _ _ => true
  | .pt _ _ _ => true
  | _ => false
/-- Flat, but for names of own blocks. -/
def ownFlat : AV → Bool
  | .ag cs => cs.all flatO
  | .tp cs => cs.all flatO
  | x => flatO x
def sh1 (n : Nat) : AV → AV
  | .rf b lo k m => .rf (n + b) lo k m
  | .pt b i o => .pt (n + b) i o
  | x => x
def shN (n : Nat) : AV → AV
  | .ag cs => .ag (cs.map (sh1 n))
  | .tp cs => .tp (cs.map (sh1 n))
  | x => sh1 n x
def flatH : Hp → Bool
  | [] => true
  | none :: r => flatH r
  | some B :: r => !B.fz && B.es.all isFlat && flatH r
theorem flatH_at : ∀ {h : Hp}, flatH h = true → ∀ (b : Nat) (B : Blk), h[b]? = some (some B) → B.fz = false ∧ B.es.all isFlat = true
  | [], _, b, B, hb => by simp at hb
  | none :: r, h, 0, B, hb => by simp at hb
  | none :: r, h, b + 1, B, hb => flatH_at (h := r) h b B (by simpa using hb)
  | some C :: r, h, 0, B, hb => by
    simp at hb; subst hb
    simp only [flatH, Bool.and_eq_true, Bool.not_eq_true'] at h
    exact h.1
  | some C :: r, h, b + 1, B, hb => by
    simp only [flatH, Bool.and_eq_true] at h
    exact flatH_at h.2 b B (by simpa using hb)
section
variable {w w' : World} {Z Z' : Nat → Prop} {R R' : List RI} {h h' : Hp}
theorem sh1_vr {n : Nat} (hn : R.length = n) {x : AV} {u : Value} (hf : flatO x = true) (hv : VR w Z R' x u) : VR w Z' (R ++ R') (sh1 n x) u := by
  have hg : ∀ {b : Nat} {r : RI}, R'[b]? = some r → (R ++ R')[n + b]? = some r := fun {b r} hr => by
    rw [List.getElem?_append_right (by omega), ← hn, Nat.add_sub_cancel_left]; exact hr
  cases hv with
  | v h => exact .v h
  | st h hn => exact .st h hn
  | e0 => exact .e0
  | rf hr h0 h1 h2 hm => exact .rf (hg hr) h0 h1 h2 hm
  | pt hr => exact .pt (hg hr)
  | _ => simp [flatO] at hf
theorem shN_vr {n : Nat} (hn : R.length = n) {x : AV} {u : Value} (hf : ownFlat x = true) (hv : VR w Z R' x u) : VR w Z' (R ++ R') (shN n x) u := by
  have hl : ∀ {cs : List AV} {us : List Value}, cs.all flatO = true → (∀ (i : Nat) (x : AV) (u : Value), cs[i]? = some x → us[i]? = some u → VR w Z R' x u) → ∀ (i : Nat) (x : AV) (u : Value), (cs.map (sh1 n))[i]? = some x → us[i]? = some u → VR w Z' (R ++ R') x u := fun {cs us} hc hx i x u hi hu => by
    rw [List.getElem?_map] at hi
    obtain ⟨y, hy, rfl⟩ := Option.map_eq_some_iff.1 hi
    exact sh1_vr hn (List.all_eq_true.1 hc y (List.mem_of_getElem? hy)) (hx i y u hy hu)
  cases hv with
  | ag h1 h2 hx => exact .ag (by simpa using h1) h2 (hl hf hx)
  | tp h1 hx => exact .tp (by simpa using h1) (hl hf hx)
  | v h => exact sh1_vr (Z := Z) hn rfl (.v h)
  | st h hn' => exact sh1_vr (Z := Z) hn rfl (.st h hn')
  | e0 => exact sh1_vr (Z := Z) hn rfl .e0
  | rf hr h0 h1 h2 hm => exact sh1_vr (Z := Z) hn rfl (.rf hr h0 h1 h2 hm)
  | pt hr => exact sh1_vr (Z := Z) hn rfl (.pt hr)
  | _ => simp [ownFlat, flatO] at hf
/-- What a call made stands beside what was there. -/
theorem HR.join {Z0 : Nat → Prop} (hh : HR w Z R h) (hz : ∀ c, Z0 c → c < w.heap.size) (st : StepW w Z0 [] [] w' Z' R' h') (hh' : HR w' Z' R' h') (hf : flatH h' = true) : HR w' Z (R ++ R') (h ++ h') ∧ Step w Z R h w' Z (R ++ R') (h ++ h') := by
  have hold : ∀ c, c < w.heap.size → w'.heap[c]? = w.heap[c]? := fun c hc => st.block c hc fun ⟨b, B, r, hb, _⟩ => by simp at hb
  have hr : ∀ (i : Nat) (x : RI), R[i]? = some x → (R ++ R')[i]? = some x := fun i x hx => by
    rw [List.getElem?_append_left (List.getElem?_eq_some_iff.1 hx).1]; exact hx
  have hnew : ∀ c, own R' h' c → w.heap.size ≤ c := fun c hc => (st.own_ c hc).resolve_left fun ⟨b, B, r, hb, _⟩ => by simp at hb
  have hlen := hh.len
  -- where a block lies
  have hat : ∀ (b : Nat) (B : Blk), (h ++ h')[b]? = some (some B) → (b < h.length ∧ h[b]? = some (some B) ∧ (R ++ R')[b]? = R[b]?) ∨ (∃ j, b = h.length + j ∧ h'[j]? = some (some B) ∧ (R ++ R')[b]? = R'[j]?) := fun b B hb => by
    by_cases hlt : b < h.length
    · rw [List.getElem?_append_left hlt] at hb
      exact .inl ⟨hlt, hb, List.getElem?_append_left (by omega)⟩
    · rw [List.getElem?_append_right (by omega)] at hb
      exact .inr ⟨b - h.length, by omega, hb, by rw [List.getElem?_append_right (by omega), hlen]⟩
  have hRb : ∀ (b : Nat) (B : Blk) (r : RI), h[b]? = some (some B) → R[b]? = some r → r.c < w.heap.size := fun b B r h1 h2 => hh.rltL h1 h2
  have hRn : ∀ (j : Nat) (B : Blk) (r : RI), h'[j]? = some (some B) → R'[j]? = some r → w.heap.size ≤ r.c := fun j B r h1 h2 => hnew _ ⟨j, B, r, h1, (flatH_at hf j B h1).1, h2, rfl⟩
  refine ⟨⟨by simp [hh.len, hh'.len], fun b B hB => ?_, fun b b' B B' r r' hB hfz hB' hfz' h1 h2 e => ?_, fun c hc => Nat.lt_of_lt_of_le (hh.zlt c hc) st.size⟩, ⟨st.os, st.tape, st.output, st.size, fun c hc _ => hold c hc, fun c hc => ?_, fun _ h => h, fun _ h => .inl h, hr⟩⟩
  · rcases hat b B hB with ⟨hlt, hb, hRR⟩ | ⟨j, rfl, hb, hRR⟩
    · obtain ⟨r, arr, us, g1, g2, g3, g4, g5, g6, g7, g8, g9, g10⟩ := hh.blk b B hb
      exact ⟨r, arr, us, hRR.trans g1, g2, (hold _ (hRb b B r hb g1)).trans g3, g4, g5, g6, g7, g8, ⟨g9.len, fun i x u hx hu => (g9.at_ i x u hx hu).mono (fun c hc => hold c (hh.zlt c hc)) (fun _ h => h) hr⟩, g10⟩
    · obtain ⟨r, arr, us, g1, g2, g3, g4, g5, g6, g7, g8, g9, g10⟩ := hh'.blk j B hb
      obtain ⟨f1, f2⟩ := flatH_at hf j B hb
      exact ⟨r, arr, us, hRR.trans g1, g2, g3, g4, g5, g6, (fun h => by rw [f1] at h; cases h), (fun _ hz' => by have := hh.zlt _ hz'; have := hRn j B r hb g1; omega), ⟨g9.len, fun i x u hx hu => flat_vr (by have := List.all_eq_true.1 f2 x (List.mem_of_getElem? hx); cases x <;> first | exact this | (simp [isFlat] at this)) (g9.at_ i x u hx hu)⟩, g10⟩
  · rcases hat b B hB with ⟨_, hb, hRR⟩ | ⟨j, rfl, hb, hRR⟩ <;> rcases hat b' B' hB' with ⟨_, hb', hRR'⟩ | ⟨j', rfl, hb', hRR'⟩ <;> rw [hRR] at h1 <;> rw [hRR'] at h2
    · exact hh.inj b b' B B' r r' hb hfz hb' hfz' h1 h2 e
    · have := hRb b B r hb h1; have := hRn j' B' r' hb' h2; omega
    · have := hRb b' B' r' hb' h2; have := hRn j B r hb h1; omega
    · rw [hh'.inj j j' B B' r r' hb hfz hb' hfz' h1 h2 e]
  · obtain ⟨b, B, r, h1, h2, h3, rfl⟩ := hc
    rcases hat b B h1 with ⟨_, hb, hRR⟩ | ⟨j, rfl, hb, hRR⟩ <;> rw [hRR] at h3
    · exact .inl ⟨b, B, r, hb, h2, h3, rfl⟩
    · exact .inr (hRn j B r hb h3)
end

/-- What a call may hand back, and the blocks that come with it. -/
def SOk (f : FuncId) (ys : List AV) (Out : AV → Hp → Prop) : Prop := Callable E0.P f ∧ ∀ w Z us, (∀ c, Z c → c < w.heap.size) → GI E0 w Z → VRs w Z [] ys us → Ret E0.P f us.toArray w fun v w' => ∃ Z' R' x h', Out x h' ∧ HR w' Z' R' h' ∧ VR w' Z' R' x v ∧ StepW w Z [] [] w' Z' R' h'
theorem sok_of_sem {e : Env} (hE : EnvOk e) (hP : e.P = E0.P) (hG : e.G = E0.G) {f : FuncId} {fn : Func} {c : Code} (hf : e.fn f = some fn) (hc : fn.body = some c) (hcall : Callable E0.P f) {ys : List AV} (hle : ys.length ≤ fn.ntmps) {Out : AV → Hp → Prop}
    (sem : Sem e ⟨none, false⟩ c ⟨Fr fn.ntmps (pairs0 0 ys), []⟩ fun x s' => (x = .normal ∨ x = .ret) ∧ ∃ xs, resA e.P s'.fr s'.hp fn.results.toList = some xs ∧ Out (retA xs) s'.hp) : SOk f ys Out := by
  obtain ⟨P, fns, G, X, I⟩ := e
  simp only at hP hG
  subst hP hG
  refine ⟨hcall, fun w Z us hz hg hv => ?_⟩
  have hh : HR w Z [] [] := ⟨rfl, fun b B hB => by simp at hB, fun b b' B B' r r' hB => by simp at hB, hz⟩
  refine Ret.mono (ret_sem hE hf hc hle (Q := fun _ s => ∃ x, s.fr = [some x] ∧ Out x s.hp) (Sem.mono (Sem.wk (Wk.enter hle) sem) fun e s' hs => ?_) hh hv hg) fun v w' hS => ?_
  · obtain ⟨h1, xs, h2, h3⟩ := hs
    exact ⟨h1, xs, h2, _, rfl, h3⟩
  · obtain ⟨Z', R', x, h', ⟨y, hy, hO⟩, k1, k2, st⟩ := hS
    have hy : x = y := by simpa using hy
    subst hy
    exact ⟨Z', R', x, h', hO, k1, k2, st⟩
def viewF (h : Hp) : AV → Option AV
  | .fn f [] [] => some (.fn f [] [])
  | x => view2 h x
def viewsF (h : Hp) : List AV → Option (List AV)
  | [] => some []
  | x :: l => match viewF h x, viewsF h l with
    | some y, some r => some (y :: r)
    | _, _ => none
theorem viewsF_vr {w : World} {Z : Nat → Prop} {R : List RI} {h : Hp} (hh : HR w Z R h) : ∀ {xs ys : List AV} {us : List Value}, VRs w Z R xs us → viewsF h xs = some ys → VRs w (fun c => Z c ∨ own R h c) [] ys us
  | [], ys, us, hv, e => by
    injection e with e; subst e
    have : us = [] := by have := hv.len; simpa using this
    subst this
    exact .nil
  | x :: xs, ys, us, hv, e => by
    obtain ⟨u, us', rfl, hu, hn⟩ := hv.head
    unfold viewsF at e
    split at e
    · next y r h1 h2 =>
      injection e with e; subst e
      refine .cons ?_ (viewsF_vr hh hn h2)
      unfold viewF at h1
      split at h1
      · injection h1 with h1; subst h1
        cases hu with
        | fn hl hl' hx hy =>
          rename_i u1 u2
          have e1 : u1 = [] := by simpa using hl
          have e2 : u2 = [] := by simpa using hl'
          subst e1 e2
          exact .fn (us := []) (vs := []) rfl rfl (fun i x u hx => by simp at hx) (fun i x u hx => by simp at hx)
      · exact view2_vr hh hu h1
    · cases e
section
variable {E : Env} {ops : Array Oper} {rest rest' : List Oper} {K : St → Prop} {n : Nat} {l : List (Nat × AV)} {hp : Hp} {xs ys : List AV} {Out : AV → Hp → Prop}
theorem RunS.callS (hP : E.P = E0.P) (hG : E.G = E0.G) {d : Nat} {f : Operand} {args : Array Operand} {tys : Array TypeId} {ty : TypeId} {pos : String} {af : Array Edge} {g : Option (Nat × Bool)} {fid : FuncId} (hs : SOk fid ys Out) (hr : rest = ⟨some d, .call ⟨.value f, args, tys⟩, ty, pos, af, g⟩ :: rest') (hw : wantedA ops (Fr n l) ⟨some d, .call ⟨.value f, args, tys⟩, ty, pos, af, g⟩ = some true)
    (hf : opA E (Fr n l) f = some (.fn fid [] [])) (ha : opds (opA E (Fr n l)) args.toList = some xs) (hv : viewsF hp xs = some ys) (hfl : ∀ x h', Out x h' → ownFlat x = true ∧ flatH h' = true) (k : ∀ x h', Out x h' → RunS E ops rest' ⟨Fr n ((d, shN hp.length x) :: l), hp ++ h'⟩ K) : RunS E ops rest ⟨Fr n l, hp⟩ K := by
  obtain ⟨P, fns, G, X, I⟩ := E
  simp only at hP hG
  subst hP hG
  subst hr
  intro base Q a w Z R sr q
  have hρ : ∀ o x, opA ⟨E0.P, fns, E0.G, X, I⟩ (Fr n l) o = some x → VR w Z R x (a.eval o) := fun o x e => opA_vr sr o x e
  unfold LwL
  rw [if_pos (wantedA_eq sr hw)]
  have hva : a.eval f = .func (.func fid) ([] : List Value).toArray ([] : List Value).toArray := by
    have := hρ _ _ hf
    generalize a.eval f = vf at this
    cases this with
    | fn hl hl' hx hy =>
      rename_i u1 u2
      have e1 : u1 = [] := by simpa using hl
      have e2 : u2 = [] := by simpa using hl'
      subst e1 e2; rfl
  unfold Lw
  rw [run_call (uf := []) (uc := []) rfl hva rfl hs.1 w]
  simp only [List.nil_append, List.append_nil]
  have hz1 : ∀ c, (Z c ∨ own R hp c) → c < w.heap.size := fun c hc => hc.elim (sr.hh.zlt c) (fun ⟨b, B, r, h1, _, h3, h4⟩ => h4 ▸ sr.hh.rltL h1 h3)
  have hg1 : GI E0 w (fun c => Z c ∨ own R hp c) := fun q y hy => (sr.gl q y hy).mono (fun _ _ => rfl) (fun _ h => .inl h) (fun _ _ h => h)
  refine Ret.mono (hs.2 w _ _ hz1 hg1 (viewsF_vr sr.hh (opds_vr hρ ha) hv)) fun v w' hS => ?_
  obtain ⟨Z', R', x, h', hO, h1, h2, st⟩ := hS
  obtain ⟨f1, f2⟩ := hfl x h' hO
  obtain ⟨j1, j2⟩ := sr.hh.join hz1 st h1 f2
  have hlen : R.length = hp.length := sr.hh.len
  have hx := shN_vr (w := w') (Z' := Z) (R := R) hlen f1 h2
  have sr' := (sr.step j1 j2).put (d := some d) hx
  rw [show putA (⟨Fr n l, hp⟩ : St).fr (some d) (shN hp.length x) = Fr n ((d, shN hp.length x) :: l) from putA_Fr n l d _] at sr'
  exact k x h' hO base Q _ w' Z (R ++ R') sr' fun s' a' w'' Z'' R'' hK sr'' st' => q s' a' w'' Z'' R'' hK sr'' (j2.w.trans st')
end
end Go.Proofs.YthofgamegondnaaDoor

namespace Go.Proofs.YthofgamegondnaaDoor
open Go.RowKit

/-- As Fr1, and in the cells of a struct. -/
def Fr2 (h : Hp) (b : Nat) (x x' : AV) : Prop := Fr1 h b x x' ∨ ∃ cs cs', x = .ag cs ∧ x' = .ag cs' ∧ EsFz h b cs cs'
theorem Fr2.vr {w : World} {Z : Nat → Prop} {R : List RI} {h : Hp} {b : Nat} {x x' : AV} {u : Value} (f : Fr2 h b x x') (hh : HR w Z R h) (hv : VR w Z R x u) : VR w (ZFr Z R h b) R x' u := by
  rcases f with f | ⟨cs, cs', rfl, rfl, f⟩
  · exact f.vr hh hv
  · obtain ⟨k1, k2⟩ := f.at_
    cases hv with
    | ag hl h1 hx =>
      refine .ag (hl.trans k1) h1 fun i y u hy hu => ?_
      obtain ⟨x, q1, q2⟩ := k2 i y hy
      exact q2.vr hh (hx i x u q1 hu)
def EsF2 (h : Hp) (b : Nat) : List AV → List AV → Prop
  | [], [] => True
  | x :: r, x' :: r' => Fr2 h b x x' ∧ EsF2 h b r r'
  | _, _ => False
theorem EsF2.at_ {h : Hp} {b : Nat} : ∀ {es es' : List AV}, EsF2 h b es es' → es.length = es'.length ∧ ∀ (i : Nat) (x' : AV), es'[i]? = some x' → ∃ x, es[i]? = some x ∧ Fr2 h b x x'
  | [], [], _ => ⟨rfl, fun i x' hx => by simp at hx⟩
  | x :: r, x' :: r', ⟨h1, h2⟩ => by
    obtain ⟨k1, k2⟩ := h2.at_
    refine ⟨by simp [k1], fun i y hy => ?_⟩
    cases i with
    | zero => simp at hy; subst hy; exact ⟨x, rfl, h1⟩
    | succ i => simpa using k2 i y (by simpa using hy)
  | [], _ :: _, h => h.elim
  | _ :: _, [], h => h.elim
def EnF2 (h : Hp) (b : Nat) (o o' : Option Blk) : Prop := o' = none ∨ o = o' ∨ ∃ k t es es', o = some ⟨k, t, es, false⟩ ∧ o' = some ⟨k, t, es', false⟩ ∧ EsF2 h b es es'
def HpF2 (h : Hp) (b : Nat) : Hp → Hp → Prop
  | [], [] => True
  | o :: r, o' :: r' => EnF2 h b o o' ∧ HpF2 h b r r'
  | _, _ => False
theorem HpF2.at_ {h : Hp} {b : Nat} : ∀ {q q' : Hp}, HpF2 h b q q' → q.length = q'.length ∧ ∀ (j : Nat) (B' : Blk), q'[j]? = some (some B') → ∃ es, q[j]? = some (some { B' with es := es }) ∧ es.length = B'.es.length ∧ ∀ (i : Nat) (x' : AV), B'.es[i]? = some x' → ∃ x, es[i]? = some x ∧ Fr2 h b x x'
  | [], [], _ => ⟨rfl, fun j B' hx => by simp at hx⟩
  | o :: r, o' :: r', ⟨h1, h2⟩ => by
    obtain ⟨k1, k2⟩ := h2.at_
    refine ⟨by simp [k1], fun j B' hB => ?_⟩
    cases j with
    | zero =>
      simp at hB
      subst hB
      rcases h1 with h1 | h1 | ⟨k, t, es, es', rfl, h1, h3⟩
      · cases h1
      · subst h1
        exact ⟨B'.es, rfl, rfl, fun i x' hx => ⟨x', hx, .inl (.inl rfl)⟩⟩
      · have h1 := Option.some.inj h1
        subst h1
        obtain ⟨q1, q2⟩ := h3.at_
        exact ⟨es, rfl, q1, q2⟩
    | succ j => simpa using k2 j B' (by simpa using hB)
  | [], _ :: _, h => h.elim
  | _ :: _, [], h => h.elim
def LkF2 (h : Hp) (b : Nat) (l : List (Nat × AV)) : List (Nat × AV) → Prop
  | [] => True
  | (t, x') :: r => (∃ x, lk l t = some x ∧ Fr2 h b x x') ∧ LkF2 h b l r
theorem LkF2.at_ {h : Hp} {b : Nat} {l : List (Nat × AV)} : ∀ {l' : List (Nat × AV)}, LkF2 h b l l' → ∀ t x', lk l' t = some x' → ∃ x, lk l t = some x ∧ Fr2 h b x x'
  | [], _, t, x, h => by cases h
  | (k, y) :: r, hk, t, x, h => by
    rw [lk_put] at h
    split at h
    · next e => injection h with h; subst e h; exact hk.1
    · exact hk.2.at_ t x h
/-- Block b is frozen, wherever it is named. -/
theorem Wk.frzG2 {E : Env} {n : Nat} {l l' : List (Nat × AV)} {h h' : Hp} (b : Nat) (hb : h'[b]? = some Option.none ∨ h[b]? = some Option.none) (hh : HpF2 h b h h') (hl : LkF2 h b l l') : Wk E ⟨Fr n l, h⟩ ⟨Fr n l', h'⟩ := by
  intro base w Z R a sr
  obtain ⟨hlen, hblk⟩ := hh.at_
  have hne : ∀ (j : Nat) (B' B r : _), h'[j]? = some (some B') → h[b]? = some (some B) → R[b]? = some r → B.fz = false → B'.fz = false → ∀ r', R[j]? = some r' → r'.c ≠ r.c := by
    intro j B' B r hj hB hr hf hf' r' hr' e
    obtain ⟨es, k1, _⟩ := hblk j B' hj
    have := sr.hh.inj j b _ B r' r k1 hf' hB hf hr' hr e
    subst this
    rcases hb with hb | hb
    · rw [hb] at hj; cases hj
    · rw [hb] at hB; cases hB
  have hown : ∀ c, own R h' c → own R h c := fun c ⟨j, B, r, h1, h2, h3, h4⟩ => by
    obtain ⟨es, k1, _⟩ := hblk j B h1
    exact ⟨j, _, r, k1, h2, h3, h4⟩
  have hzo : ∀ c, ZFr Z R h b c → Z c ∨ own R h c := fun c hc => hc.elim .inl fun ⟨B, r, h1, h2, h3, h4⟩ => .inr ⟨b, B, r, h1, h2, h3, h4.symm⟩
  refine ⟨ZFr Z R h b, R, ⟨⟨sr.hh.len.trans hlen, fun j B' hB' => ?_, fun j j' B B' r r' hB hf hB' hf' h1 h2 e => ?_, fun c hc => ?_⟩, ⟨?_, fun t x hx => ?_⟩, ?_, fun g x hx => (sr.gl g x hx).mono (fun _ _ => rfl) (fun _ h => .inl h) (fun _ _ h => h), sr.bs⟩, ⟨rfl, rfl, rfl, Nat.le_refl _, fun _ _ _ => rfl, fun c hc => .inl (hown c hc), fun _ h => .inl h, fun c hc => (hzo c hc).elim .inl (fun h => .inr (.inl h))⟩⟩
  · obtain ⟨es, k1, k2, k3⟩ := hblk j B' hB'
    obtain ⟨r, arr, us, g1, g2, g3, g4, g5, g6, g7, g8, g9, g10⟩ := sr.hh.blk j _ k1
    refine ⟨r, arr, us, g1, g2, g3, g4, by rw [← k2]; exact g5, g6, fun hf => .inl (g7 hf), fun hf hc => ?_, ⟨by rw [g9.len]; exact k2, fun i x' u hx hu => ?_⟩, g10⟩
    · rcases hc with hc | ⟨B, r2, q1, q2, q3, q4⟩
      · exact g8 hf hc
      · exact hne j B' B r2 hB' q1 q3 q2 hf r g1 q4
    · obtain ⟨x, q1, q2⟩ := k3 i x' hx
      exact q2.vr sr.hh (g9.at_ i x u q1 hu)
  · obtain ⟨es, k1, _⟩ := hblk j B hB
    obtain ⟨es', k1', _⟩ := hblk j' B' hB'
    exact sr.hh.inj j j' _ _ r r' k1 hf k1' hf' h1 h2 e
  · rcases hc with hc | ⟨B, r, q1, q2, q3, rfl⟩
    · exact sr.hh.zlt c hc
    · exact sr.hh.rltL q1 q3
  · rw [Fr_len]; have := sr.fr.1; rw [Fr_len] at this; exact this
  · rw [Fr_get] at hx
    split at hx
    · next ht =>
      injection hx with hx
      obtain ⟨y, h1, h2⟩ := hl.at_ t x hx
      exact h2.vr sr.hh (sr.fr.2 t y (by rw [Fr_get, if_pos ht, h1]))
    · cases hx
  · have : ∀ {D : List Deferred}, Mks base w Z R h D → Mks base w (ZFr Z R h b) R h' D := by
      intro D
      induction D with
      | nil => intro _; trivial
      | cons d D ih => exact fun ⟨⟨q, h1, h2, h3, h4, h5, h6⟩, hD⟩ => ⟨⟨q, h1, h2, h3, fun hc => (hzo q hc).elim h4 h5, fun ho => h5 (hown q ho), h6⟩, ih hD⟩
    exact this sr.mks
end Go.Proofs.YthofgamegondnaaDoor

namespace Go.Proofs.YthofgamegondnaaDoor
open Go.RowKit

/-- Structs of values. -/
def cdG1 {α : Type} (c : Cd α) (hc : ∀ x, noRf (c.enc x) = true) : Cd α where
  enc x := .ag [c.enc x]
  dec a := match a with
    | .ag [y] => c.dec y
    | _ => none
  de x := c.de x
  vr := fun {w Z a x u} h hv => by
    split at h
    · cases hv with
      | ag hl h1 hx =>
        refine .ag (by simpa using hl) h1 fun i y u hy hu => ?_
        match i with
        | 0 => simp at hy; subst hy; exact c.vr h (hx 0 _ u rfl hu)
        | i + 1 => simp at hy
    · cases h
  nr x := by simp [noRf2, hc]
def cdG2 {α β : Type} (c : Cd α) (d : Cd β) (hc : ∀ x, noRf (c.enc x) = true) (hd : ∀ x, noRf (d.enc x) = true) : Cd (α × β) where
  enc x := .ag [c.enc x.1, d.enc x.2]
  dec a := match a with
    | .ag [y, z] => (c.dec y).bind fun p => (d.dec z).map fun q => (p, q)
    | _ => none
  de x := by simp [c.de, d.de]
  vr := fun {w Z a x u} h hv => by
    split at h
    · obtain ⟨p, h1, h⟩ := Option.bind_eq_some_iff.1 h
      obtain ⟨q, h2, rfl⟩ := Option.map_eq_some_iff.1 h
      cases hv with
      | ag hl hh hx =>
        refine .ag (by simpa using hl) hh fun i y u hy hu => ?_
        match i with
        | 0 => simp at hy; subst hy; exact c.vr h1 (hx 0 _ u rfl hu)
        | 1 => simp at hy; subst hy; exact d.vr h2 (hx 1 _ u rfl hu)
        | i + 2 => simp at hy
    · cases h
  nr x := by simp [noRf2, hc, hd]
def cdG3 {α β γ : Type} (c : Cd α) (d : Cd β) (f : Cd γ) (hc : ∀ x, noRf (c.enc x) = true) (hd : ∀ x, noRf (d.enc x) = true) (hf : ∀ x, noRf (f.enc x) = true) : Cd (α × β × γ) where
  enc x := .ag [c.enc x.1, d.enc x.2.1, f.enc x.2.2]
  dec a := match a with
    | .ag [y, z, t] => (c.dec y).bind fun p => (d.dec z).bind fun q => (f.dec t).map fun r => (p, q, r)
    | _ => none
  de x := by simp [c.de, d.de, f.de]
  vr := fun {w Z a x u} h hv => by
    split at h
    · obtain ⟨p, h1, h⟩ := Option.bind_eq_some_iff.1 h
      obtain ⟨q, h2, h⟩ := Option.bind_eq_some_iff.1 h
      obtain ⟨r, h3, rfl⟩ := Option.map_eq_some_iff.1 h
      cases hv with
      | ag hl hh hx =>
        refine .ag (by simpa using hl) hh fun i y u hy hu => ?_
        match i with
        | 0 => simp at hy; subst hy; exact c.vr h1 (hx 0 _ u rfl hu)
        | 1 => simp at hy; subst hy; exact d.vr h2 (hx 1 _ u rfl hu)
        | 2 => simp at hy; subst hy; exact f.vr h3 (hx 2 _ u rfl hu)
        | i + 3 => simp at hy
    · cases h
  nr x := by simp [noRf2, hc, hd, hf]
theorem viewL_2 {h : Hp} {x y : AV} : viewL h [x, y] = match view1 h x, view1 h y with | some a, some b => some [a, b] | _, _ => none := by
  unfold viewL viewL viewL
  cases view1 h x <;> cases view1 h y <;> rfl
def notAg : AV → Bool
  | .ag _ => false
  | _ => true
theorem view_notAg {h : Hp} {x : AV} (n : notAg x = true) : view2 h x = view1 h x := by
  cases x <;> first | rfl | cases n
theorem Sn.ag2 {α β : Type} {h : Hp} {c : Cd α} {d : Cd β} {hc : ∀ x, noRf (c.enc x) = true} {hd : ∀ x, noRf (d.enc x) = true} {x y : AV} {v : α} {w : β} (h1 : Sn h c x v) (h2 : Sn h d y w) (n1 : notAg x = true) (n2 : notAg y = true) : Sn h (cdG2 c d hc hd) (.ag [x, y]) (v, w) := by
  obtain ⟨x', k1, k2⟩ := h1
  obtain ⟨y', q1, q2⟩ := h2
  rw [view_notAg n1] at k1
  rw [view_notAg n2] at q1
  refine ⟨.ag [x', y'], ?_, ?_⟩
  · show (viewL h [x, y]).map AV.ag = _
    rw [viewL_2, k1, q1]; rfl
  · show ((c.dec x').bind fun p => (d.dec y').map fun q => (p, q)) = _
    rw [k2, q2]; rfl
/-- The two parts of a range over a function. -/
def asgOf : Code → Code
  | .rangeFunc _ _ a _ => a
  | c => c
def bdyOf : Code → Code
  | .rangeFunc _ _ _ b => b
  | c => c
/-- As Sem, but the numbers of the blocks are kept, and a range over a function may be under way. -/
def SemY (E : Env) (cx : Cx) (c : Code) (s : St) (Q : Ex → St → Prop) : Prop :=
  ∀ (ro : Option Nat) (base : Nat) (Qm : Exit → Act → World → Prop) (a : Act) (w : World) (Z : Nat → Prop) (R : List RI), (cx.inR = false → ro = none) → SR E base w Z R s a → YI cx w Z R s.hp →
    (∀ e s' a' w' Z' R', Q e s' → SR E base w' Z' R' s' a' → Step w Z R s.hp w' Z' R' s'.hp → Qm (exOf e) a' w') → c.wpIn (Fw ro) 0 E.P Qm a w
def SemYN (E : Env) (cx : Cx) (c : Code) (n : Nat) (s : St) (Q : Ex → St → Prop) : Prop :=
  ∀ (ro : Option Nat) (base : Nat) (Qm : Exit → Act → World → Prop) (a : Act) (w : World) (Z : Nat → Prop) (R : List RI), (cx.inR = false → ro = none) → SR E base w Z R s a → YI cx w Z R s.hp →
    (∀ e s' a' w' Z' R', Q e s' → SR E base w' Z' R' s' a' → Step w Z R s.hp w' Z' R' s'.hp → Qm (exOf e) a' w') → Code.roundsIn (Fw ro) 0 E.P c Qm n a w
def RunY (E : Env) (cx : Cx) (ops : Array Oper) (rest : List Oper) (s : St) (K : St → Prop) : Prop :=
  ∀ (ro : Option Nat) (base : Nat) (Q : Exit → Act → World → Prop) (a : Act) (w : World) (Z : Nat → Prop) (R : List RI), (cx.inR = false → ro = none) → SR E base w Z R s a → YI cx w Z R s.hp →
    (∀ s' a' w' Z' R', K s' → SR E base w' Z' R' s' a' → Step w Z R s.hp w' Z' R' s'.hp → Q .normal a' w') → wpListIn (Fw ro) 0 E.P ops Q rest a w
/-- A state that says less of the same worlds; the numbers are kept. -/
def WkY (E : Env) (s s' : St) : Prop := ∀ base w Z R a, SR E base w Z R s a → ∃ Z' R', SR E base w Z' R' s' a ∧ Step w Z R s.hp w Z' R' s'.hp
section
variable {E : Env} {cx : Cx} {ops : Array Oper} {pre rest rest' : List Oper} {s s1 : St} {K : St → Prop} {n m : Nat} {l l' : List (Nat × AV)} {hp hp' : Hp} {Q Q' : Ex → St → Prop} {id : Nat} {c c' : Code}
theorem SemY.skip (q : Q .normal s) : SemY E cx .skip s Q := fun _ _ _ a w Z R _ h2 _ k => wpIn_skip (k .normal s a w Z R q h2 (Step.refl _ _ _ _))
theorem SemY.exit {id : Nat} (q : Q (.exit id) s) : SemY E cx (.exit id) s Q := fun _ _ _ a w Z R _ h2 _ k => wpIn_exit (k (.exit id) s a w Z R q h2 (Step.refl _ _ _ _))
theorem SemY.ret (q : Q .ret s) : SemY E cx .ret s Q := fun _ _ _ a w Z R _ h2 _ k => wpIn_ret (k .ret s a w Z R q h2 (Step.refl _ _ _ _))
theorem SemY.seq (h : SemY E cx c s fun e s' => match e with | .normal => SemY E cx c' s' Q | e => Q e s') : SemY E cx (.seq c c') s Q := by
  intro ro base Qm a w Z R h1 h2 h3 k
  refine wpIn_seq (h ro base _ a w Z R h1 h2 h3 fun e s' a' w' Z' R' hQ sr st => ?_)
  cases e with
  | normal => exact hQ ro base Qm a' w' Z' R' h1 sr (h3.step h2.hh st) fun e2 s2 a2 w2 Z2 R2 hQ2 sr2 st2 => k e2 s2 a2 w2 Z2 R2 hQ2 sr2 (st.trans st2)
  | exit id => exact k _ s' a' w' Z' R' hQ sr st
  | ret => exact k _ s' a' w' Z' R' hQ sr st
theorem SemY.cond_true {x : Operand} (hx : opA E s.fr x = some (.v (.bool true))) (h : SemY E cx c s Q) : SemY E cx (.cond x c c') s Q :=
  fun ro base Qm a w Z R h1 h2 h3 k => wpIn_cond_true (opA_vr h2 _ _ hx).v_inv (h ro base Qm a w Z R h1 h2 h3 k)
theorem SemY.cond_false {x : Operand} (hx : opA E s.fr x = some (.v (.bool false))) (h : SemY E cx c' s Q) : SemY E cx (.cond x c c') s Q :=
  fun ro base Qm a w Z R h1 h2 h3 k => wpIn_cond_false (opA_vr h2 _ _ hx).v_inv (h ro base Qm a w Z R h1 h2 h3 k)
theorem SemY.cond {x : Operand} {b : Bool} (hx : opA E s.fr x = some (.v (.bool b))) (h : b = true → SemY E cx c s Q) (h' : b = false → SemY E cx c' s Q) : SemY E cx (.cond x c c') s Q := by
  cases b with
  | true => exact .cond_true hx (h rfl)
  | false => exact .cond_false hx (h' rfl)
theorem SemY.block {id : Nat} (h : SemY E cx c s fun e s' => match e with | .exit id' => if id' = id then Q .normal s' else Q (.exit id') s' | e => Q e s') : SemY E cx (.block id c) s Q := by
  intro ro base Qm a w Z R h1 h2 h3 k
  refine wpIn_block (h ro base _ a w Z R h1 h2 h3 fun e s' a' w' Z' R' hQ sr st => ?_)
  cases e with
  | normal => exact k _ s' a' w' Z' R' hQ sr st
  | exit id' =>
    show if id' = id then Qm .normal a' w' else Qm (.exit id') a' w'
    simp only at hQ
    split at hQ
    · next h => rw [if_pos h]; exact k .normal s' a' w' Z' R' hQ sr st
    · next h => rw [if_neg h]; exact k _ s' a' w' Z' R' hQ sr st
  | ret => exact k _ s' a' w' Z' R' hQ sr st
theorem SemY.loop (h : SemYN E cx c n s Q) : SemY E cx (.loop c) s Q :=
  fun ro base Qm a w Z R h1 h2 h3 k => wpIn_loop_rounds n (h ro base Qm a w Z R h1 h2 h3 k)
theorem SemYN.succ (h : SemY E cx c s fun e s' => match e with | .normal => SemYN E cx c n s' Q | e => Q e s') : SemYN E cx c (n + 1) s Q := by
  intro ro base Qm a w Z R h1 h2 h3 k
  show c.wpIn (Fw ro) 0 E.P (Exit.then (Code.roundsIn (Fw ro) 0 E.P c Qm n) Qm) a w
  refine h ro base _ a w Z R h1 h2 h3 fun e s' a' w' Z' R' hQ sr st => ?_
  cases e with
  | normal => exact hQ ro base Qm a' w' Z' R' h1 sr (h3.step h2.hh st) fun e2 s2 a2 w2 Z2 R2 hQ2 sr2 st2 => k e2 s2 a2 w2 Z2 R2 hQ2 sr2 (st.trans st2)
  | exit id => exact k _ s' a' w' Z' R' hQ sr st
  | ret => exact k _ s' a' w' Z' R' hQ sr st
theorem SemY.mono (h : SemY E cx c s Q) (hq : ∀ e s, Q e s → Q' e s) : SemY E cx c s Q' :=
  fun ro base Qm a w Z R h1 h2 h3 k => h ro base Qm a w Z R h1 h2 h3 fun e s' a' w' Z' R' hQ => k e s' a' w' Z' R' (hq e s' hQ)
theorem WkY.refl : WkY E s s := fun _ _ Z R _ h => ⟨Z, R, h, Step.refl _ _ _ _⟩
theorem WkY.of_eq (h : s = s1) : WkY E s s1 := h ▸ WkY.refl
theorem WkY.trans {s2 : St} (h : WkY E s s1) (h' : WkY E s1 s2) : WkY E s s2 := fun base w Z R a k =>
  let ⟨Z1, R1, k1, st1⟩ := h base w Z R a k
  let ⟨Z2, R2, k2, st2⟩ := h' base w Z1 R1 a k1
  ⟨Z2, R2, k2, st1.trans st2⟩
theorem WkY.fr (h : lkAll l l' = xsAll l') : WkY E ⟨Fr n l, hp⟩ ⟨Fr n l', hp⟩ := fun base w Z R a sr => by
  refine ⟨Z, R, ⟨sr.hh, ⟨?_, fun t x hx => sr.fr.2 t x ?_⟩, sr.mks, sr.gl, sr.bs⟩, Step.refl _ _ _ _⟩
  · rw [Fr_len]; have := sr.fr.1; rw [Fr_len] at this; exact this
  · rw [Fr_get] at hx ⊢
    split at hx
    · next ht => rw [if_pos ht]; injection hx with hx; rw [lk_mem h hx]
    · cases hx
theorem SemY.wk (hw : WkY E s s1) (h : SemY E cx c s1 Q) : SemY E cx c s Q := by
  intro ro base Qm a w Z R h1 h2 h3 k
  obtain ⟨Z', R', h2', st⟩ := hw base w Z R a h2
  exact h ro base Qm a w Z' R' h1 h2' (h3.step h2.hh st) fun e s' a' w' Z2 R2 hQ sr st2 => k e s' a' w' Z2 R2 hQ sr (st.trans st2)
theorem SemYN.wk (hw : WkY E s s1) (h : SemYN E cx c n s1 Q) : SemYN E cx c n s Q := by
  intro ro base Qm a w Z R h1 h2 h3 k
  obtain ⟨Z', R', h2', st⟩ := hw base w Z R a h2
  exact h ro base Qm a w Z' R' h1 h2' (h3.step h2.hh st) fun e s' a' w' Z2 R2 hQ sr st2 => k e s' a' w' Z2 R2 hQ sr (st.trans st2)
theorem SemY.fr (h : lkAll l l' = xsAll l') (k : SemY E cx c ⟨Fr n l', hp⟩ Q) : SemY E cx c ⟨Fr n l, hp⟩ Q := SemY.wk (WkY.fr h) k
/-- What a part did, told by one state for each way out. -/
theorem SemY.cut {e0 : Ex} {s2 : St} (h : SemY E cx c s fun e s' => e = e0 ∧ WkY E s' s2) (q : Q e0 s2) : SemY E cx c s Q := by
  intro ro base Qm a w Z R h1 h2 h3 k
  refine h ro base Qm a w Z R h1 h2 h3 fun e s' a' w' Z' R' hQ sr st => ?_
  obtain ⟨rfl, hw⟩ := hQ
  obtain ⟨Z2, R2, sr2, st2⟩ := hw base w' Z' R' a' sr
  exact k e s2 a' w' Z2 R2 q sr2 (st.trans st2)
theorem SemY.cutN {e0 : Ex} {s2 : St} (h : SemYN E cx c n s fun e s' => e = e0 ∧ WkY E s' s2) (q : Q e0 s2) : SemYN E cx c n s Q := by
  intro ro base Qm a w Z R h1 h2 h3 k
  refine h ro base Qm a w Z R h1 h2 h3 fun e s' a' w' Z' R' hQ sr st => ?_
  obtain ⟨rfl, hw⟩ := hQ
  obtain ⟨Z2, R2, sr2, st2⟩ := hw base w' Z' R' a' sr
  exact k e s2 a' w' Z2 R2 q sr2 (st.trans st2)
theorem RunY.done (hr : rest = []) (k : K s) : RunY E cx ops rest s K := by
  subst hr
  exact fun ro base Q a w Z R _ sr _ q => q s a w Z R k sr (Step.refl _ _ _ _)
theorem RunY.app (hE : EnvOk E) (n : Nat) : ∀ {pre : List Oper} {s : St}, opsA E (evC E n) ⟨none, false⟩ ops pre s = some s1 → RunY E cx ops rest s1 K → RunY E cx ops (pre ++ rest) s K
  | [], s, e, k => by injection e with e; subst e; exact k
  | o :: pre, s, e, kk => by
    intro ro base Q a w Z R hro sr hy q
    show wpListIn (Fw ro) 0 E.P ops Q (o :: (pre ++ rest)) a w
    unfold opsA at e
    unfold wpListIn
    split at e
    · cases e
    · next hw =>
      rw [if_neg (by rw [wantedA_eq sr hw]; simp)]
      exact ⟨fun _ _ => trivial, RunY.app hE n e kk ro base Q _ w Z R hro (sr.put undef_vr) hy q⟩
    · next hw =>
      rw [if_pos (wantedA_eq sr hw)]
      split at e
      · next s2 hs2 => exact lw_wpIn ro (op1_lw hE (code_sound hE n).1 hs2 sr fun a' w' Z' R' sr' st => RunY.app hE n e kk ro base Q a' w' Z' R' hro sr' (hy.step sr.hh st) fun s'' a'' w'' Z'' R'' hK sr'' st' => q s'' a'' w'' Z'' R'' hK sr'' (st.trans st'))
      · cases e
theorem RunY.seg (hE : EnvOk E) (m : Nat) (h : opsA E (evC E 0) ⟨none, false⟩ ops (rest.take m) s = some s1) (k : RunY E cx ops (rest.drop m) s1 K) : RunY E cx ops rest s K := by
  have := RunY.app hE 0 h k
  rwa [List.take_append_drop] at this
theorem RunY.segF (hE : EnvOk E) (m : Nat) {s : St} (l : List (Nat × AV)) (hp : Hp) (h : segB (opsA E (evC E 0) ⟨none, false⟩ ops (rest.take m) s) l = some (n, xs2 l, hp)) (k : RunY E cx ops (rest.drop m) ⟨Fr n l, hp⟩ K) : RunY E cx ops rest s K := by
  obtain ⟨fr, h1, h2, h3⟩ := segB_inv h
  refine RunY.seg hE m h1 ?_
  exact fun ro base Q a w Z R hro sr hy q => k ro base Q a w Z R hro (sr.forget h2 h3) hy q
theorem RunY.one (hE : EnvOk E) (n : Nat) {o : Oper} (hr : rest = o :: rest') (h : opsA E (evC E n) ⟨none, false⟩ ops [o] s = some s1) (k : RunY E cx ops rest' s1 K) : RunY E cx ops rest s K := by
  subst hr
  exact RunY.app hE n (pre := [o]) h k
theorem RunY.store (hE : EnvOk E) {t : TypeId} {p q : Operand} {y z : AV} {ty : TypeId} {pos : String} {af : Array Edge} {g : Option (Nat × Bool)} (hr : rest = ⟨none, .store t p q, ty, pos, af, g⟩ :: rest') (hw : wantedA ops (Fr n l) ⟨none, .store t p q, ty, pos, af, g⟩ = some true) (hp1 : opA E (Fr n l) p = some y) (hq1 : opA E (Fr n l) q = some z) (h : evStore E.P hp t y z = some hp') (k : RunY E cx ops rest' ⟨Fr n l, hp'⟩ K) : RunY E cx ops rest ⟨Fr n l, hp⟩ K :=
  RunY.one hE 0 hr (op_st hw hp1 hq1 h) k
theorem RunY.call {α β : Type} {s : Cs α} {F : α → Option β} {er : β → AV} {a : α} {b : β} {xs : List AV} (hE : EnvOk E) {d : Nat} {f : Operand} {args : Array Operand} {tys : Array TypeId} {ty : TypeId} {pos : String} {af : Array Edge} {g : Option (Nat × Bool)} {fid : FuncId} (hr : rest = ⟨some d, .call ⟨.value f, args, tys⟩, ty, pos, af, g⟩ :: rest') (hw : wantedA ops (Fr n l) ⟨some d, .call ⟨.value f, args, tys⟩, ty, pos, af, g⟩ = some true)
    (hf : opA E (Fr n l) f = some (.fn fid [] [])) (hi : E.I fid = false) (hX : E.X fid = some (told s F er)) (ha : opds (opA E (Fr n l)) args.toList = some xs) (hv : Sns hp s xs a) (hok : xs.all noRf2 = true ∨ flatTp (er b) = true) (hF : F a = some b) (k : RunY E cx ops rest' ⟨Fr n ((d, er b) :: l), hp⟩ K) : RunY E cx ops rest ⟨Fr n l, hp⟩ K :=
  RunY.one hE 0 hr (op_call hw hf hi hX ha hv hok hF) k
theorem SemY.region (h : RunY E cx ops ops.toList s fun s' => Q .normal s') : SemY E cx (.region id ops false) s Q := by
  intro ro base Qm a w Z R h1 h2 h3 kk
  exact wpIn_region_list (h ro base _ a w Z R h1 h2 h3 fun s' a' w' Z' R' hq sr st => kk .normal s' a' w' Z' R' hq sr st)
end
def pz : List Nat → List AV → List (Nat × AV) → List (Nat × AV)
  | p :: ps, x :: xs, l => pz ps xs ((p, x) :: l)
  | _, _, l => l
theorem setPs_Fr {n : Nat} : ∀ {ps : List Nat} {xs : List AV} {l : List (Nat × AV)}, setPs (Fr n l) ps xs = Fr n (pz ps xs l)
  | [], _, _ => by unfold setPs pz; rfl
  | _ :: _, [], _ => by unfold setPs pz; rfl
  | p :: ps, x :: xs, l => by
    unfold setPs pz
    rw [show (Fr n l).set p (some x) = Fr n ((p, x) :: l) from putA_Fr n l p x]
    exact setPs_Fr
theorem mark_eq {p q : Nat} (h : mark p = mark q) : p = q := by
  unfold mark at h
  injection h with h
  injection h
theorem mks_new {base : Nat} {w : World} {Z : Nat → Prop} {R : List RI} {h : Hp} {r : Nat} (hr : w.heap.size ≤ r) : ∀ {D : List Deferred}, Mks base w Z R h D → mark r ∈ D → False
  | [], _, hm => by cases hm
  | d :: D, ⟨⟨q, _, q2, q3, _⟩, hD⟩, hm => by
    rcases List.mem_cons.1 hm with hm | hm
    · rw [← hm] at q2
      have := mark_eq q2
      have := heapLt q3
      omega
    · exact mks_new hr hD hm
/-- A function, entered: what its body does. -/
theorem ret_semY {e : Env} (he : EnvOk e) {y : Option YC} {f : FuncId} {fn : Func} {c : Code} (hfn : e.fn f = some fn) (hc : fn.body = some c) {args : List AV} (hle : args.length ≤ fn.ntmps) {hp : Hp} {Out : AV → Hp → Prop}
    (sem : SemY e ⟨y, false⟩ c ⟨Fr fn.ntmps (pairs0 0 args), hp⟩ fun x s' => (x = .normal ∨ x = .ret) ∧ ∃ ys, resA e.P s'.fr s'.hp fn.results.toList = some ys ∧ Out (retA ys) s'.hp)
    {w : World} {Z : Nat → Prop} {R : List RI} {us : List Value} (hh : HR w Z R hp) (hv : VRs w Z R args us) (hg : GI e w Z) (hy : YI ⟨y, false⟩ w Z R hp) :
    Ret e.P f us.toArray w fun v w' => ∃ Z' R' x h', Out x h' ∧ HR w' Z' R' h' ∧ VR w' Z' R' x v ∧ Step w Z R hp w' Z' R' h' := by
  obtain ⟨hff, hcall, _⟩ := he.fn f fn hfn
  refine callsIn_wide.1 (callsIn_of_wp_marks (F := Fw none) (n := 0) hff hc trivial ?_)
  have hul : us.length = args.length := hv.len
  have hsr : SR e w.heap.size w Z R ⟨Fr fn.ntmps (pairs0 0 args), hp⟩ { tmps := us.toArray ++ Array.replicate (fn.ntmps - us.toArray.size) undef, defers := [] } := by
    refine ⟨hh, ⟨by rw [Fr_len]; simp; omega, fun t x hx => ?_⟩, trivial, hg, Nat.le_refl _⟩
    rw [Fr_get] at hx
    split at hx
    · injection hx with hx
      obtain ⟨j, h1, h2⟩ := lk_pairs0 _ 0 t x hx
      rw [Nat.zero_add] at h1
      subst h1
      obtain ⟨u, hu1, hu2⟩ := hv.get h2
      have e0 : us.toArray ++ Array.replicate (fn.ntmps - us.toArray.size) undef = (us ++ List.replicate (fn.ntmps - us.length) undef).toArray := by simp
      rw [e0, Array.getD_eq_getD_getElem?, List.getElem?_toArray, List.getElem?_append_left (List.getElem?_eq_some_iff.1 hu1).1, hu1]
      exact hu2
    · cases hx
  refine sem none w.heap.size _ _ w Z R (fun _ => rfl) hsr hy fun x s' a' w' Z' R' hQ sr' st => ?_
  obtain ⟨hex, ys, hys, hO⟩ := hQ
  have hl := leaves_mks (E := e) (w := w') (a := a') (fn := fn) (S := fun v w'' => ∃ Z' R' x h', Out x h' ∧ HR w'' Z' R' h' ∧ VR w'' Z' R' x v ∧ Step w Z R hp w'' Z' R' h') hys (fun w'' u g1 g2 g3 g4 g5 g6 g7 => ⟨Z', R', _, _, hO, g6, g7, ⟨g2.trans st.os, g3.trans st.tape, g4.trans st.output, by rw [g1]; exact st.size, fun c hc hn => (g5 c hc).trans (st.block c hc hn), st.own_, st.z, st.z', st.r⟩⟩) (D := a'.defers) (w1 := w') sr' rfl rfl rfl rfl (fun _ _ => rfl)
  rcases hex with rfl | rfl
  · exact hl
  · exact hl
section
variable {E : Env} {cx : Cx} {ops : Array Oper} {rest rest' : List Oper} {K : St → Prop} {n : Nat} {l : List (Nat × AV)} {hp : Hp}
/-- A call whose body is gone through. -/
theorem RunS.inlY (hP : E.P = E0.P) (hG : E.G = E0.G) {e : Env} (he : EnvOk e) (heP : e.P = E0.P) (heG : e.G = E0.G) {d : Nat} {f : Operand} {args : Array Operand} {tys : Array TypeId} {ty : TypeId} {pos : String} {af : Array Edge} {g : Option (Nat × Bool)} {fid : FuncId} {caps xs : List AV} {fn : Func} {c : Code} {Out : AV → Hp → Prop} (hr : rest = ⟨some d, .call ⟨.value f, args, tys⟩, ty, pos, af, g⟩ :: rest') (hw : wantedA ops (Fr n l) ⟨some d, .call ⟨.value f, args, tys⟩, ty, pos, af, g⟩ = some true)
    (hf : opA E (Fr n l) f = some (.fn fid [] caps)) (ha : opds (opA E (Fr n l)) args.toList = some xs) (hfn : e.fn fid = some fn) (hc : fn.body = some c) (hle : (xs ++ caps).length ≤ fn.ntmps)
    (sem : SemY e ⟨none, false⟩ c ⟨Fr fn.ntmps (pairs0 0 (xs ++ caps)), hp⟩ fun x s' => (x = .normal ∨ x = .ret) ∧ ∃ ys, resA e.P s'.fr s'.hp fn.results.toList = some ys ∧ Out (retA ys) s'.hp)
    (k : ∀ x h', Out x h' → RunS E ops rest' ⟨Fr n ((d, x) :: l), h'⟩ K) : RunS E ops rest ⟨Fr n l, hp⟩ K := by
  obtain ⟨P, fns, G, X, I⟩ := E
  obtain ⟨P', fns', G', X', I'⟩ := e
  simp only at hP hG heP heG
  subst hP hG heP heG
  subst hr
  intro base Q a w Z R sr q
  have hρ : ∀ o x, opA ⟨E0.P, fns, E0.G, X, I⟩ (Fr n l) o = some x → VR w Z R x (a.eval o) := fun o x e => opA_vr sr o x e
  unfold LwL
  rw [if_pos (wantedA_eq sr hw)]
  have hvf := hρ _ _ hf
  generalize hvq : a.eval f = vf at hvf
  cases hvf with
  | fn hl hl' hx hy =>
    rename_i u1 u2
    have e1 : u1 = [] := by simpa using hl
    subst e1
    obtain ⟨hff, hcall, _⟩ := he.fn fid fn hfn
    unfold Lw
    rw [run_call (uf := []) (uc := u2) rfl hvq rfl hcall w]
    simp only [List.nil_append]
    have hargs : VRs w Z R (xs ++ caps) (args.toList.map a.eval ++ u2) := (opds_vr hρ ha).append ⟨hl', hy⟩
    refine Ret.mono (ret_semY he hfn hc hle sem sr.hh hargs sr.gl (fun y hy => by cases hy)) fun v w' hS => ?_
    obtain ⟨Z', R', x, h', hO, h1, h2, st⟩ := hS
    have sr' := (sr.step h1 st).put (d := some d) h2
    rw [show putA (⟨Fr n l, hp⟩ : St).fr (some d) x = Fr n ((d, x) :: l) from putA_Fr n l d _] at sr'
    exact k x h' hO base Q _ w' Z' R' sr' fun s' a' w'' Z'' R'' hK sr'' st' => q s' a' w'' Z'' R'' hK sr'' (st.w.trans st')
/-- Only the first m blocks are kept. -/
theorem HR.trunc {w0 w : World} {Z0 Z : Nat → Prop} {R0 R : List RI} {h0 h h' : Hp} {m : Nat} (st : Step w0 Z0 R0 h0 w Z R h) (hl0 : R0.length = h0.length) (hm0 : h0.length ≤ m) (hh : HR w Z R h) (hm : (Nat.ble m h.length && Nat.ble h.length 1000000000) = true) (hk : HpUp (List.range m) h (List.range m) h') :
    HR w Z (newR (List.range m) R) h' ∧ Step w0 Z0 R0 h0 w Z (newR (List.range m) R) h' := by
  simp only [Bool.and_eq_true] at hm
  have hm1 := Nat.le_of_ble_eq_true hm.1
  have hb := Nat.le_of_ble_eq_true hm.2
  have hlen := hh.len
  obtain ⟨k1, k2⟩ := hk.at_
  rw [List.length_range] at k1
  have hι : ∀ i ∈ List.range m, i < R.length := fun i hi => by have := List.mem_range.1 hi; omega
  have hbR : R.length ≤ 1000000000 := by omega
  have hget : ∀ j, j < m → (newR (List.range m) R)[j]? = R[j]? := fun j hj => by
    unfold newR
    rw [List.getElem?_map, List.getElem?_range hj, Option.map_some, List.getD_eq_getElem?_getD, List.getElem?_eq_getElem (by omega : j < R.length)]; rfl
  have hrange : ∀ (j b : Nat), (List.range m)[j]? = some b → j < m ∧ b = j := fun j b hj => by
    obtain ⟨h1, h2⟩ := List.getElem?_eq_some_iff.1 hj
    rw [List.length_range] at h1
    rw [List.getElem_range] at h2
    exact ⟨h1, h2.symm⟩
  have hown : ∀ c, own (newR (List.range m) R) h' c → own R h c := fun c ⟨j, B, r, h1, h2, h3, h4⟩ => by
    obtain ⟨b, q1, q2, _⟩ := k2 j B h1
    obtain ⟨hj, rfl⟩ := hrange _ _ q1
    rw [hget b hj] at h3
    exact ⟨b, _, r, q2, h2, h3, h4⟩
  refine ⟨⟨by rw [k1]; simp [newR], fun j B hB => ?_, fun j j' B B' r r' hB hf hB' hf' h1 h2 e => ?_, hh.zlt⟩, ⟨st.os, st.tape, st.output, st.size, st.block, fun c hc => st.own_ c (hown c hc), st.z, st.z', fun i x hi => ?_⟩⟩
  · obtain ⟨b, q1, q2, q3⟩ := k2 j B hB
    obtain ⟨hj, rfl⟩ := hrange _ _ q1
    obtain ⟨r, arr, us, g1, g2, g3, g4, g5, g6, g7, g8, g9, g10⟩ := hh.blk b _ q2
    refine ⟨r, arr, us, (hget b hj).trans g1, g2, g3, g4, by simpa using g5, g6, g7, g8, ⟨by have := g9.len; simpa using this, fun i x u hx hu => ?_⟩, g10⟩
    exact up_vr hι hbR (q3 x (List.mem_of_getElem? hx)) (g9.at_ i _ u (by simp [hx]) hu)
  · obtain ⟨b, q1, q2, _⟩ := k2 j B hB
    obtain ⟨b', q1', q2', _⟩ := k2 j' B' hB'
    obtain ⟨hj, rfl⟩ := hrange _ _ q1
    obtain ⟨hj', rfl⟩ := hrange _ _ q1'
    rw [hget b hj] at h1
    rw [hget b' hj'] at h2
    exact hh.inj b b' _ _ r r' q2 hf q2' hf' h1 h2 e
  · have := (List.getElem?_eq_some_iff.1 hi).1
    rw [hget i (by omega)]
    exact st.r i x hi
/-- .. in the midst of such a body: what it made is dropped. -/
theorem RunY.inl (hP : E.P = E0.P) (hG : E.G = E0.G) {e : Env} (he : EnvOk e) (heP : e.P = E0.P) (heG : e.G = E0.G) {d : Nat} {f : Operand} {args : Array Operand} {tys : Array TypeId} {ty : TypeId} {pos : String} {af : Array Edge} {g : Option (Nat × Bool)} {fid : FuncId} {caps xs : List AV} {fn : Func} {c : Code} {Out : AV → Hp → Prop} (m : Nat) (hm0 : hp.length = m) (hr : rest = ⟨some d, .call ⟨.value f, args, tys⟩, ty, pos, af, g⟩ :: rest') (hw : wantedA ops (Fr n l) ⟨some d, .call ⟨.value f, args, tys⟩, ty, pos, af, g⟩ = some true)
    (hf : opA E (Fr n l) f = some (.fn fid [] caps)) (ha : opds (opA E (Fr n l)) args.toList = some xs) (hfn : e.fn fid = some fn) (hc : fn.body = some c) (hle : (xs ++ caps).length ≤ fn.ntmps)
    (sem : SemY e ⟨none, false⟩ c ⟨Fr fn.ntmps (pairs0 0 (xs ++ caps)), hp⟩ fun x s' => (x = .normal ∨ x = .ret) ∧ ∃ ys, resA e.P s'.fr s'.hp fn.results.toList = some ys ∧ Out (retA ys) s'.hp)
    (k : ∀ x h', Out x h' → ∃ h'', (Nat.ble m h'.length && Nat.ble h'.length 1000000000) = true ∧ HpUp (List.range m) h' (List.range m) h'' ∧ (up (List.range m) x = x ∧ flat2 x = true) ∧ RunY E cx ops rest' ⟨Fr n ((d, x) :: l), h''⟩ K) : RunY E cx ops rest ⟨Fr n l, hp⟩ K := by
  obtain ⟨P, fns, G, X, I⟩ := E
  obtain ⟨P', fns', G', X', I'⟩ := e
  simp only at hP hG heP heG
  subst hP hG heP heG
  subst hr
  intro ro base Q a w Z R hro sr hy q
  have hρ : ∀ o x, opA ⟨E0.P, fns, E0.G, X, I⟩ (Fr n l) o = some x → VR w Z R x (a.eval o) := fun o x e => opA_vr sr o x e
  unfold wpListIn
  rw [if_pos (wantedA_eq sr hw)]
  refine lw_wpIn ro ?_
  have hvf := hρ _ _ hf
  generalize hvq : a.eval f = vf at hvf
  cases hvf with
  | fn hl hl' hx hy' =>
    rename_i u1 u2
    have e1 : u1 = [] := by simpa using hl
    subst e1
    obtain ⟨hff, hcall, _⟩ := he.fn fid fn hfn
    unfold Lw
    rw [run_call (uf := []) (uc := u2) rfl hvq rfl hcall w]
    simp only [List.nil_append]
    have hargs : VRs w Z R (xs ++ caps) (args.toList.map a.eval ++ u2) := (opds_vr hρ ha).append ⟨hl', hy'⟩
    refine Ret.mono (ret_semY he hfn hc hle sem sr.hh hargs sr.gl (fun y hy => by cases hy)) fun v w' hS => ?_
    obtain ⟨Z', R', x, h', hO, h1, h2, st⟩ := hS
    obtain ⟨h'', hm, hk, ⟨hx1, hx2⟩, kk⟩ := k x h' hO
    have hl1 : R.length = hp.length := sr.hh.len
    obtain ⟨j1, j2⟩ := HR.trunc st hl1 (Nat.le_of_eq hm0) h1 hm hk
    simp only [Bool.and_eq_true] at hm
    have hm1 := Nat.le_of_ble_eq_true hm.1
    have hm2 := Nat.le_of_ble_eq_true hm.2
    have hl2 := h1.len
    have hvx : VR w' Z' (newR (List.range m) R') x v := up_vr (fun i hi => by have := List.mem_range.1 hi; omega) (by omega) hx2 (by rw [hx1]; exact h2)
    have sr' := (sr.step j1 j2).put (d := some d) hvx
    rw [show putA (⟨Fr n l, hp⟩ : St).fr (some d) x = Fr n ((d, x) :: l) from putA_Fr n l d _] at sr'
    exact kk ro base Q _ w' Z' _ hro sr' (hy.step sr.hh j2) fun s' a' w'' Z'' R'' hK sr'' st' => q s' a' w'' Z'' R'' hK sr'' (j2.trans st')
/-- A yield: a round of the range that is under way. -/
theorem RunY.yield (hP : E.P = E0.P) (hG : E.G = E0.G) {eb : Env} (hbP : eb.P = E0.P) (hbG : eb.G = E0.G) {y : YC} (hcx : cx.y = some y) (hin : cx.inR = false) {d : Nat} {f : Operand} {args : Array Operand} {tys : Array TypeId} {ty : TypeId} {pos : String} {af : Array Edge} {g : Option (Nat × Bool)} {xs : List AV} {K1 : Hp → Prop} (hr : rest = ⟨some d, .call ⟨.value f, args, tys⟩, ty, pos, af, g⟩ :: rest') (hw : wantedA ops (Fr n l) ⟨some d, .call ⟨.value f, args, tys⟩, ty, pos, af, g⟩ = some true)
    (hf : opA E (Fr n l) f = some (.yl y.b)) (ha : opds (opA E (Fr n l)) args.toList = some xs) (hlen : xs.length = y.ps.length) {n0 : Nat} {l0 : List (Nat × AV)} (hfr : y.fr = Fr n0 l0)
    (hb : SemY eb ⟨none, true⟩ y.assign ⟨Fr n0 (pz y.ps xs l0), hp⟩ fun e s1 => e = .normal ∧ SemY eb ⟨none, true⟩ y.body s1 fun e s2 => e = .normal ∧ K1 s2.hp)
    (k : ∀ h', K1 h' → RunY E cx ops rest' ⟨Fr n ((d, .v (.bool true)) :: l), h'⟩ K) : RunY E cx ops rest ⟨Fr n l, hp⟩ K := by
  obtain ⟨P, fns, G, X, I⟩ := E
  obtain ⟨P', fns', G', X', I'⟩ := eb
  simp only at hP hG hbP hbG
  subst hP hG hbP hbG
  subst hr
  intro ro base Q a w Z R hro sr hy q
  have hρ : ∀ o x, opA ⟨E0.P, fns, E0.G, X, I⟩ (Fr n l) o = some x → VR w Z R x (a.eval o) := fun o x e => opA_vr sr o x e
  unfold wpListIn
  rw [if_pos (wantedA_eq sr hw)]
  have hro' := hro hin
  subst hro'
  have hvs := opds_vr hρ ha
  have hvf := hρ _ _ hf
  have hyy := hy
  obtain ⟨d1, d2, r, L, g1, g2, g3, g4, g5, g6, g7, g8, g9, g10⟩ := hy y hcx
  generalize hvq : a.eval f = vf at hvf
  cases hvf with
  | yl hr =>
    rename_i r'
    rw [g1] at hr
    injection hr with hr
    subst hr
    generalize hus : args.toList.map a.eval = us at hvs
    have hargs : args.map a.eval = us.toArray := by
      apply Array.ext'
      rw [← hus, Array.toList_map]
    have hps : us.toArray.size = L.params.size := by rw [g7]; simp [hvs.len, hlen]
    have hrun : (execOp a.eval (⟨some d, .call ⟨.value f, args, tys⟩, ty, pos, af, g⟩ : Oper)).run E0.P w = .ok (.round r.c L.fn ((L.params.zip us.toArray).foldl (fun tmps (t, a) => tmps.setIfInBounds t a) L.tmps) L.assign L.body) w := by
      simp only [execOp, resolve, hvq, hargs, Deferred.ofValue]
      rw [Sem.run_bind, Sem.run_pure]
      simp only [Result.andThen, invoke, Array.empty_append]
      exact run_yield g4 hps
    refine ⟨fun _ _ => trivial, ?_⟩
    rw [show (Fw none).round = none from rfl, semAt_run none hrun (by simp), Oper.uponIn_round]
    refine ⟨(fun h => by cases h), ?_⟩
    refine roundIn_of_wpIn (F := Fw none) trivial ?_
    rw [g8, g9]
    have hfr0 : FrR w Z R (setPs y.fr y.ps xs) ((L.params.zip us.toArray).foldl (fun tmps (t, a) => tmps.setIfInBounds t a) L.tmps) := by
      have := setPs_fr (ps := y.ps) g10 hvs
      have e0 : (L.params.zip us.toArray).foldl (fun tmps (t, a) => tmps.setIfInBounds t a) L.tmps = (y.ps.zip us).foldl (fun tmps (x : Tmp × Value) => tmps.setIfInBounds x.1 x.2) L.tmps := by
        rw [g7, ← Array.foldl_toList]; simp
      rw [e0]; exact this
    rw [hfr, setPs_Fr] at hfr0
    have hlt := heapLt g4
    refine hb (some r.c) 0 _ { tmps := _, defers := [] } w Z R (fun h => by cases h) ⟨sr.hh, hfr0, trivial, sr.gl, Nat.zero_le _⟩ (fun y hy => by cases hy) fun e1 s1 a1 w1 Z1 R1 hQ1 sr1 st1 => ?_
    obtain ⟨rfl, hb2⟩ := hQ1
    obtain ⟨p1, p2, p3⟩ := st1.other g4 g2 g3
    refine ⟨_, run_beginRound p1 g5, ?_⟩
    have hlt1 := heapLt p1
    have hb1 : ∀ c, (Z1 c ∨ own R1 s1.hp c) → (w1.putObj r.c (.loop { L with state := .busy })).heap[c]? = w1.heap[c]? := fun c hc => put_ne (fun e => by subst e; exact hc.elim p2 p3)
    have hh2 := sr1.hh.off (put_size _ _ _) hb1
    refine hb2 (some r.c) 0 _ a1 _ Z1 R1 (fun h => by cases h) ⟨hh2, sr1.fr.off fun c hc => hb1 c (.inl hc), ?_, sr1.gl.off fun c hc => hb1 c (.inl hc), Nat.zero_le _⟩ (fun y hy => by cases hy) fun e2 s2 a2 w3 Z3 R3 hQ2 sr3 st3 => ?_
    · exact sr1.mks.put (fun d hd e => by
        have : ∀ {D : List Deferred}, Mks 0 w1 Z1 R1 s1.hp D → mark r.c ∈ D → False := by
          intro D
          induction D with
          | nil => intro _ h; cases h
          | cons d D ih =>
            rintro ⟨⟨q, _, q2, q3, _⟩, hD⟩ hm
            rcases List.mem_cons.1 hm with hm | hm
            · rw [← hm] at q2
              have : r.c = q := by unfold mark at q2; injection q2 with q2; injection q2
              subst this
              rw [p1] at q3
              cases q3
            · exact ih hD hm
        subst e
        exact this sr1.mks hd)
    · obtain ⟨rfl, hK1⟩ := hQ2
      have hput : (w1.putObj r.c (.loop { L with state := .busy })).heap[r.c]? = some (.loop { L with state := .busy }) := World.putObj_heap_same hlt1
      obtain ⟨q1, q2, q3⟩ := st3.other hput p2 p3
      have hlt3 := heapLt q1
      refine ⟨_, _, run_endRound none q1, ?_⟩
      have hb3 : ∀ c, (Z3 c ∨ own R3 s2.hp c) → (w3.putObj r.c (.loop { { L with state := .busy } with state := if (none : Option Code).isNone then .ready else .done, pending := none })).heap[c]? = w3.heap[c]? := fun c hc => put_ne (fun e => by subst e; exact hc.elim q2 q3)
      have hL : ({ { L with state := .busy } with state := if (none : Option Code).isNone then .ready else .done, pending := none } : Loop) = L := by
        cases L; simp at g5 g6; subst g5 g6; rfl
      have stF : Step w Z R hp (w3.putObj r.c (.loop { { L with state := .busy } with state := if (none : Option Code).isNone then .ready else .done, pending := none })) Z3 R3 s2.hp := by
        refine ⟨?_, ?_, ?_, ?_, fun c hc hn => ?_, fun c hc => ?_, fun c hc => st3.z c (st1.z c hc), fun c hc => ?_, fun i q hq => st3.r i q (st1.r i q hq)⟩
        · exact st3.os.trans st1.os
        · exact st3.tape.trans st1.tape
        · exact st3.output.trans st1.output
        · rw [put_size]
          have := st3.size
          rw [put_size] at this
          exact Nat.le_trans st1.size this
        · by_cases hcr : c = r.c
          · subst hcr
            rw [World.putObj_heap_same hlt3, hL]
            exact g4.symm
          · rw [put_ne hcr]
            have hc1 : c < w1.heap.size := Nat.lt_of_lt_of_le hc st1.size
            have hno : ¬ own R1 s1.hp c := fun ho => by
              rcases st1.own_ c ho with h1 | h1
              · exact hn h1
              · omega
            rw [st3.block c (by rw [put_size]; exact hc1) hno, put_ne hcr]
            exact st1.block c hc hn
        · rcases st3.own_ c hc with h1 | h1
          · exact st1.own_ c h1
          · rw [put_size] at h1; exact .inr (Nat.le_trans st1.size h1)
        · rcases st3.z' c hc with h1 | h1 | h1
          · exact st1.z' c h1
          · rcases st1.own_ c h1 with h2 | h2
            · exact .inr (.inl h2)
            · exact .inr (.inr h2)
          · rw [put_size] at h1; exact .inr (.inr (Nat.le_trans st1.size h1))
      have sr' := (sr.step (sr3.hh.off (put_size _ _ _) hb3) stF).put (d := some d) (x := .v (.bool true)) (u := .bool true) (.v rfl)
      rw [show putA (⟨Fr n l, hp⟩ : St).fr (some d) (.v (.bool true)) = Fr n ((d, .v (.bool true)) :: l) from putA_Fr n l d _] at sr'
      exact k s2.hp hK1 none base Q _ _ Z3 R3 hro sr' (hyy.step sr.hh stF) fun s' a' w'' Z'' R'' hK sr'' st' => q s' a' w'' Z'' R'' hK sr'' (stF.trans st')
/-- A range over a function. -/
theorem Sem.range {cx : Cx} {Q : Ex → St → Prop} (hP : E.P = E0.P) (hG : E.G = E0.G) {e : Env} (he : EnvOk e) (heP : e.P = E0.P) (heG : e.G = E0.G) (hin : cx.inR = false) {f : Operand} {ps : Array Tmp} {assign body : Code} {gid : FuncId} {caps : List AV} {fn : Func} {c : Code} {Out : AV → Hp → Prop} (hd1 : drawOk assign = true) (hd2 : drawOk body = true)
    (hf : opA E (Fr n l) f = some (.fn gid [] caps)) (hfn : e.fn gid = some fn) (hc : fn.body = some c) (hle : (.yl hp.length :: caps).length ≤ fn.ntmps)
    (sem : SemY e ⟨some ⟨hp.length, Fr n l, ps.toList, assign, body⟩, false⟩ c ⟨Fr fn.ntmps (pairs0 0 (.yl hp.length :: caps)), hp ++ [none]⟩ fun x s' => (x = .normal ∨ x = .ret) ∧ ∃ ys, resA e.P s'.fr s'.hp fn.results.toList = some ys ∧ Out (retA ys) s'.hp)
    (k : ∀ x h', Out x h' → Q .normal ⟨Fr n l, h'⟩) : Sem E cx (.rangeFunc f ps assign body) ⟨Fr n l, hp⟩ Q := by
  obtain ⟨P, fns, G, X, I⟩ := E
  obtain ⟨P', fns', G', X', I'⟩ := e
  simp only at hP hG heP heG
  subst hP hG heP heG
  intro ro base Qm a w Z R h1 sr h3 kk
  have hro := h1 hin
  subst hro
  have hvf : VR w Z R (.fn gid [] caps) (a.eval f) := opA_vr sr _ _ hf
  generalize hva : a.eval f = va at hvf
  cases hvf with
  | fn hl hl' hx hy' =>
    rename_i uf uc
    have e1 : uf = [] := by simpa using hl
    subst e1
    refine wpIn_rangeFunc fun fnn _ => ?_
    obtain ⟨hff, hcall, _⟩ := he.fn gid fn hfn
    obtain ⟨L, hL⟩ : ∃ L : Loop, L = { state := .ready, pending := none, fn := fnn, tmps := a.tmps, params := ps, assign, body, defers := w.heap.size } := ⟨_, rfl⟩
    obtain ⟨w1, hw1⟩ : ∃ w1, w1 = (w.alloc (.deferred (some []))).alloc (.loop L) := ⟨_, rfl⟩
    have hsz : w1.heap.size = w.heap.size + 2 := by rw [hw1]; simp
    have hg1 : w.grownBy w1 none := by
      rw [hw1]
      refine ⟨rfl, rfl, rfl, by simp; omega, fun c hc _ => ?_⟩
      rw [heap_alloc_old _ _ (by simp; omega), heap_alloc_old _ _ hc]
    have hmk : w1.heap[w.heap.size]? = some (.deferred (some [])) := by
      rw [hw1, heap_alloc_old _ _ (by simp)]; exact heap_alloc_new w _
    have hlp : w1.heap[w.heap.size + 1]? = some (.loop L) := by
      rw [hw1]
      have := heap_alloc_new (w.alloc (.deferred (some []))) (.loop L)
      simpa using this
    have hh1 := sr.hh.keep (w' := w1) hg1.size (fun c hc => hg1.block c hc (by simp))
    have st0 : Step w Z R hp w1 Z R hp := ⟨hg1.os, hg1.tape, hg1.output, hg1.size, fun c hc _ => hg1.block c hc (by simp), fun _ h => .inl h, fun _ h => h, fun _ h => .inl h, fun _ _ h => h⟩
    obtain ⟨hh2, st2, hlast, hown2⟩ := hh1.dead (r := ⟨w.heap.size + 1, 0, 0⟩)
    have st02 := st0.trans st2
    have hnz : ∀ c, w.heap.size ≤ c → ¬ Z c := fun c hc hz => by have := sr.hh.zlt c hz; omega
    have hno : ∀ c, w.heap.size ≤ c → ¬ own (R ++ [⟨w.heap.size + 1, 0, 0⟩]) (hp ++ [none]) c := fun c hc ho => by
      obtain ⟨b, B, r, q1, q2, q3, rfl⟩ := hown2 c ho
      have := sr.hh.rltL q1 q3; omega
    have hvs : VRs w1 Z (R ++ [⟨w.heap.size + 1, 0, 0⟩]) (.yl hp.length :: caps) (Value.func (.yield (w.heap.size + 1)) #[] #[] :: uc) :=
      .cons (.yl hlast) (VRs.step ⟨hl', hy'⟩ sr.hh st02)
    have hy : YI ⟨some ⟨hp.length, Fr n l, ps.toList, assign, body⟩, false⟩ w1 Z (R ++ [⟨w.heap.size + 1, 0, 0⟩]) (hp ++ [none]) := by
      intro y hy
      injection hy with hy
      subst hy
      exact ⟨hd1, hd2, _, L, hlast, hnz _ (by simp), hno _ (by simp), hlp, by rw [hL], by rw [hL], by rw [hL], by rw [hL], by rw [hL], by rw [hL]; exact sr.fr.step sr.hh st02⟩
    have hr := ret_semY he hfn hc hle sem hh2 hvs (sr.gl.step sr.hh st02) hy
    refine ⟨w.heap.size + 1, [mark w.heap.size], w1, { target := .fn (.func gid) uc.toArray, args := ([] : List Value).toArray ++ #[Value.func (.yield (w.heap.size + 1)) #[] #[]] }, w1, gid, (Value.func (.yield (w.heap.size + 1)) #[] #[] :: uc).toArray, w1, ?_, ?_, fun _ _ => trivial, ?_, (fun h => by cases h), ?_⟩
    · rw [hw1, hL]; exact run_enterLoop_outer fnn a.tmps ps assign body
    · simp [resolve, hva, Deferred.ofValue]
      rfl
    · simp [invoke, hcall.run]
    · refine callsIn_fw none _ (Ret.calls hr fun v w3 hS => ?_)
      obtain ⟨Z3, R3, x3, h', hO, hh3, _, st3⟩ := hS
      obtain ⟨p1, p2, p3⟩ := st3.other hlp (hnz _ (by simp)) (hno _ (by simp))
      obtain ⟨m1, m2, m3⟩ := st3.other hmk (hnz _ (Nat.le_refl _)) (hno _ (Nat.le_refl _))
      refine ⟨_, _, run_endLoop p1 (by rw [hL]; simp), ?_⟩
      have hpend : L.pending = none := by rw [hL]
      split
      rotate_left
      · next hc => rw [hpend] at hc; cases hc
      have hb : ∀ c, (Z3 c ∨ own R3 h' c) → (w3.putObj (w.heap.size + 1) (.loop { L with state := .exhausted })).heap[c]? = w3.heap[c]? := fun c hc => put_ne (fun e => by subst e; exact hc.elim p2 p3)
      have st03 := st02.trans st3
      refine kk .normal ⟨Fr n l, h'⟩ _ _ Z3 R3 (k x3 h' hO) ⟨hh3.off (put_size _ _ _) hb, (sr.fr.step sr.hh st03).off fun c hc => hb c (.inl hc), ?_, (sr.gl.step sr.hh st03).off fun c hc => hb c (.inl hc), ?_⟩ (Step.w ⟨st03.os, st03.tape, st03.output, ?_, fun c hc hn => ?_, st03.own_, st03.z, st03.z', st03.r⟩)
      · refine ⟨⟨w.heap.size, sr.bs, rfl, (put_ne (by omega)).trans m1, m2, m3, fun d hd e => ?_⟩, ?_⟩
        · subst e
          exact mks_new (Nat.le_refl _) sr.mks hd
        · refine Mks.put (sr.mks.step st03) fun d hd e => ?_
          subst e
          exact mks_new (Nat.le_succ _) sr.mks hd
      · rw [put_size]; exact Nat.le_trans sr.bs st03.size
      · rw [put_size]; exact st03.size
      · rw [put_ne (by omega)]; exact st03.block c hc hn
end
end Go.Proofs.YthofgamegondnaaDoor

namespace Go.Proofs.YthofgamegondnaaDoor
open Go.RowKit
/- trestle/evening.valid -/
noncomputable def e_evening_valid : Env := (E0.withX 28 t_evening_Check)
theorem e_evening_valid_ok : EnvOk e_evening_valid := (EnvOk.withX E0_ok x_evening_Check.1 x_evening_Check.2)
noncomputable def cb_evening_valid : Code := codeOf Tryd.f60
def evening_valid (x0 : Int) (x1 : (List (List (List Int)))) : Option (Bool) :=
  (evening_Check x0 [] x1).bind fun v1 =>
  some (v1.2 == 0)
def cs_evening_valid : Cs (Int × (List (List (List Int))) × Unit) := (csC cdI (csC (cdL 1 (cdL 1 (cdL 1 cdI))) csN))
def er_evening_valid (r : Bool) : AV := cdB.enc r
set_option maxHeartbeats 4000000 in
set_option maxRecDepth 100000 in
theorem evening_valid_sem (x0 : Int) (x1 : (List (List (List Int)))) (r : Bool) (h : evening_valid x0 x1 = some r) : Sem e_evening_valid ⟨none, false⟩ cb_evening_valid ⟨Fr 15 (pairs0 0 (cs_evening_valid.enc (x0, x1, ()))), []⟩ fun e s' => (e = .normal ∨ e = .ret) ∧ ∃ xs, resA e_evening_valid.P s'.fr s'.hp Tryd.f60.results.toList = some xs ∧ retA xs = er_evening_valid r := by
  unfold evening_valid at h
  refine Sem.wkQ (Sem.wk (s1 := ⟨Fr 15 [(0, .v (.int .i64 x0)), (1, .sl 1 (x1.map (cdL 1 (cdL 1 cdI)).enc))], []⟩) (Wk.fr (by kernel_rfl)) ?_)
  refine Sem.seq ?_
  refine Sem.runS (s1 := ⟨Fr 15 [(0, .v (.int .i64 x0)), (1, .sl 1 (x1.map (cdL 1 (cdL 1 cdI)).enc))], []⟩) ?_ ?_
  · refine RunS.segF (n := 15) e_evening_valid_ok 1 [(0, .v (.int .i64 x0)), (1, .sl 1 (x1.map (cdL 1 (cdL 1 cdI)).enc))] [] (by kernel_rfl) ?_
    exact RunS.done rfl (Wk.fr (by kernel_rfl))
  refine Sem.seq ?_
  obtain ⟨v1, hv1, h⟩ := Option.bind_eq_some_iff.1 h
  refine Sem.runS (s1 := ⟨Fr 15 [(6, .v (.int .i64 v1.2))], []⟩) ?_ ?_
  · refine RunS.segF (n := 15) e_evening_valid_ok 2 [(8, .v (.int .i64 x0)), (9, .sl 1 (x1.map (cdL 1 (cdL 1 cdI)).enc))] [] (by kernel_rfl) ?_
    refine RunS.call e_evening_valid_ok (fid := 28) (s := cs_evening_Check) (F := fun a => evening_Check a.1 a.2.1 a.2.2.1) (er := er_evening_Check) (xs := [.v (.int .i64 x0), .e0, .sl 1 (x1.map (cdL 1 (cdL 1 cdI)).enc)]) (a := (x0, [], x1, ())) rfl (wantedA_none rfl) (by kernel_rfl) (by kernel_rfl) (by kernel_rfl) (by kernel_rfl) (Sns.cons (Sn.enc (c := cdI) (v := x0)) (Sns.cons Sn.e0 (Sns.cons (Sn.enc (c := (cdL 1 (cdL 1 (cdL 1 cdI)))) (v := x1)) Sns.nil))) (.inl (by kernel_rfl)) hv1 ?_
    refine RunS.segF (n := 15) e_evening_valid_ok 5 [(6, .v (.int .i64 v1.2))] [] (by kernel_rfl) ?_
    exact RunS.done rfl (Wk.fr (by kernel_rfl))
  refine Sem.seq ?_
  refine Sem.runS (s1 := ⟨Fr 15 [(4, .v (.bool (v1.2 == 0)))], []⟩) ?_ ?_
  · refine RunS.segF (n := 15) e_evening_valid_ok 3 [(4, .v (.bool (v1.2 == 0)))] [] (by kernel_rfl) ?_
    exact RunS.done rfl (Wk.fr (by kernel_rfl))
  refine Sem.ret ?_
  have hq := Option.some.inj h; subst hq
  exact ⟨⟨Fr 15 [(4, .v (.bool (v1.2 == 0)))], []⟩, (Wk.fr (by kernel_rfl)), .inr rfl, [.v (.bool (v1.2 == 0))], (by kernel_rfl), (by kernel_rfl)⟩
def t_evening_valid : List AV → Option AV := told cs_evening_valid (fun a => evening_valid a.1 a.2.1) er_evening_valid
theorem x_evening_valid : XOk 60 t_evening_valid := by
  refine EnvOk.x (E := e_evening_valid) (contract_ok e_evening_valid_ok (fn := Tryd.f60) (c := cb_evening_valid) ?h1 ?h2 ⟨Tryd.call60⟩ cs_evening_valid (fun a => evening_valid a.1 a.2.1) er_evening_valid (fun a => (by show 2 ≤ 15; decide)) ?h3 ?h4) rfl rfl
  case h1 => kernel_rfl
  case h2 => kernel_rfl
  case h3 => intro b; kernel_rfl
  case h4 => exact fun a b h => evening_valid_sem a.1 a.2.1 b h
end Go.Proofs.YthofgamegondnaaDoor

namespace Go.Proofs.YthofgamegondnaaDoor
open Go.RowKit
/- (trestle/evening.square[int]).rows -/
noncomputable def e_evening_square_int_rows : Env := (E0.withX 27 t_slices_Clone_L_int)
theorem e_evening_square_int_rows_ok : EnvOk e_evening_square_int_rows := (EnvOk.withX E0_ok x_slices_Clone_L_int.1 x_slices_Clone_L_int.2)
noncomputable def cb_evening_square_int_rows : Code := codeOf Tryd.f85
def evening_square_int_rows_1 (x0 : (Int × (List Int))) : Nat → (List (List Int)) → Int → Option (((List (List Int))))
  | 0, _, _ => none
  | f + 1, c1, c2 =>
    if (decide (c2 < x0.1)) = true then
    if (cutOk (wr .i64 (c2 * x0.1)) (wr .i64 ((wr .i64 (c2 + 1)) * x0.1)) x0.2.length) = true then
    (slices_Clone_L_int ((x0.2.take (wr .i64 ((wr .i64 (c2 + 1)) * x0.1)).toNat).drop (wr .i64 (c2 * x0.1)).toNat)).bind fun v5 =>
    if (capOk 24 (c1.length + 1)) = true then
    evening_square_int_rows_1 x0 f (c1 ++ [v5]) (wr .i64 (c2 + 1))
    else none
    else none
    else
    some c1
def evening_square_int_rows (x0 : (Int × (List Int))) : Option ((List (List Int))) :=
  (evening_square_int_rows_1 x0 100000 [] 0).bind fun r8 =>
  some r8
def cs_evening_square_int_rows : Cs ((Int × (List Int)) × Unit) := (csC (cdG2 cdI (cdL 1 cdI) (fun _ => rfl) (fun _ => rfl)) csN)
def er_evening_square_int_rows (r : (List (List Int))) : AV := (cdL 1 (cdL 1 cdI)).enc r
set_option maxHeartbeats 4000000 in
set_option maxRecDepth 100000 in
theorem evening_square_int_rows_1_ok (x0 : (Int × (List Int))) : ∀ (f : Nat) (c1 : (List (List Int))) (c2 : Int) (r : ((List (List Int)))), evening_square_int_rows_1 x0 f c1 c2 = some r → SemN e_evening_square_int_rows ⟨none, false⟩ (pc cb_evening_square_int_rows [1, 1, 0, 1, 0, 0]) f ⟨Fr 28 [(1, .pt 0 0 0), (3, hd 1 (c1.map (cdL 1 cdI).enc)), (6, .v (.int .i64 x0.1)), (7, .v (.int .i64 c2))], [some ⟨2, 95, [.ag [.v (.int .i64 x0.1), .sl 1 (x0.2.map cdI.enc)]], false⟩, mk 1 24 (c1.map (cdL 1 cdI).enc)]⟩ (fun e s => e = (.exit 0) ∧ Wk e_evening_square_int_rows s ⟨Fr 28 [(3, hd 0 (r.map (cdL 1 cdI).enc))], [mk 1 24 (r.map (cdL 1 cdI).enc)]⟩) := by
  intro f
  induction f with
  | zero => intro c1 c2 r h; cases h
  | succ f ih0 =>
    intro c1 c2 r h
    have ih := fun (c1 : (List (List Int))) (c2 : Int) => ih0 c1 c2 r
    unfold evening_square_int_rows_1 at h
    refine SemN.succ ?_
    refine Sem.seq ?_
    refine Sem.runS (s1 := ⟨Fr 28 [(1, .pt 0 0 0), (3, hd 1 (c1.map (cdL 1 cdI).enc)), (6, .v (.int .i64 x0.1)), (7, .v (.int .i64 c2)), (8, .v (.bool (decide (c2 < x0.1))))], [some ⟨2, 95, [.ag [.v (.int .i64 x0.1), .sl 1 (x0.2.map cdI.enc)]], false⟩, mk 1 24 (c1.map (cdL 1 cdI).enc)]⟩) ?_ ?_
    · refine RunS.segF (n := 28) e_evening_square_int_rows_ok 1 [(1, .pt 0 0 0), (3, hd 1 (c1.map (cdL 1 cdI).enc)), (6, .v (.int .i64 x0.1)), (7, .v (.int .i64 c2)), (8, .v (.bool (decide (c2 < x0.1))))] [some ⟨2, 95, [.ag [.v (.int .i64 x0.1), .sl 1 (x0.2.map cdI.enc)]], false⟩, mk 1 24 (c1.map (cdL 1 cdI).enc)] (by kernel_rfl) ?_
      exact RunS.done rfl (Wk.sel2 [0, 1] (by kernel_rfl) (by kernel_rfl) (by kernel_rfl) ⟨⟨_, rfl, bu_c (by kernel_rfl) (by kernel_rfl)⟩, ⟨_, rfl, bu_mk⟩, trivial⟩ ⟨lu (by kernel_rfl) (by kernel_rfl), lu_hd (b' := 1) (by kernel_rfl) (by kernel_rfl), lu (by kernel_rfl) (by kernel_rfl), lu (by kernel_rfl) (by kernel_rfl), lu (by kernel_rfl) (by kernel_rfl), trivial⟩)
    refine Sem.seq ?_
    refine Sem.cond (b := (decide (c2 < x0.1))) (by kernel_rfl) (fun hb3 => ?_) (fun hb3 => ?_)
    · rw [if_pos hb3] at h
      refine Sem.skip ?_
      refine Sem.seq ?_
      refine Sem.block ?_
      refine Sem.seq ?_
      refine Sem.runS (s1 := ⟨Fr 28 [(1, .pt 0 0 0), (3, hd 1 (c1.map (cdL 1 cdI).enc)), (4, .v (.int .i64 c2)), (6, .v (.int .i64 x0.1)), (7, .v (.int .i64 c2))], [some ⟨2, 95, [.ag [.v (.int .i64 x0.1), .sl 1 (x0.2.map cdI.enc)]], false⟩, mk 1 24 (c1.map (cdL 1 cdI).enc)]⟩) ?_ ?_
      · refine RunS.segF (n := 28) e_evening_square_int_rows_ok 2 [(1, .pt 0 0 0), (3, hd 1 (c1.map (cdL 1 cdI).enc)), (4, .v (.int .i64 c2)), (6, .v (.int .i64 x0.1)), (7, .v (.int .i64 c2))] [some ⟨2, 95, [.ag [.v (.int .i64 x0.1), .sl 1 (x0.2.map cdI.enc)]], false⟩, mk 1 24 (c1.map (cdL 1 cdI).enc)] (by kernel_rfl) ?_
        exact RunS.done rfl (Wk.sel2 [0, 1] (by kernel_rfl) (by kernel_rfl) (by kernel_rfl) ⟨⟨_, rfl, bu_c (by kernel_rfl) (by kernel_rfl)⟩, ⟨_, rfl, bu_mk⟩, trivial⟩ ⟨lu (by kernel_rfl) (by kernel_rfl), lu_hd (b' := 1) (by kernel_rfl) (by kernel_rfl), lu (by kernel_rfl) (by kernel_rfl), lu (by kernel_rfl) (by kernel_rfl), lu (by kernel_rfl) (by kernel_rfl), trivial⟩)
      by_cases hk4 : (cutOk (wr .i64 (c2 * x0.1)) (wr .i64 ((wr .i64 (c2 + 1)) * x0.1)) x0.2.length) = true
      case neg => rw [if_neg hk4] at h; cases h
      rw [if_pos hk4] at h
      obtain ⟨v5, hv5, h⟩ := Option.bind_eq_some_iff.1 h
      by_cases hk6 : (capOk 24 (c1.length + 1)) = true
      case neg => rw [if_neg hk6] at h; cases h
      rw [if_pos hk6] at h
      refine Sem.runS (s1 := ⟨Fr 28 [(1, .pt 0 0 0), (3, hd 1 ((c1 ++ [v5]).map (cdL 1 cdI).enc)), (6, .v (.int .i64 x0.1)), (7, .v (.int .i64 c2))], [some ⟨2, 95, [.ag [.v (.int .i64 x0.1), .sl 1 (x0.2.map cdI.enc)]], false⟩, mk 1 24 ((c1 ++ [v5]).map (cdL 1 cdI).enc)]⟩) ?_ ?_
      · refine RunS.segF (n := 28) e_evening_square_int_rows_ok 12 [(1, .pt 0 0 0), (6, .v (.int .i64 x0.1)), (7, .v (.int .i64 c2)), (10, hd 1 (c1.map (cdL 1 cdI).enc)), (12, .sl 1 (x0.2.map cdI.enc)), (16, .v (.int .i64 (wr .i64 (c2 * x0.1)))), (21, .v (.int .i64 (wr .i64 ((wr .i64 (c2 + 1)) * x0.1))))] [some ⟨2, 95, [.ag [.v (.int .i64 x0.1), .sl 1 (x0.2.map cdI.enc)]], false⟩, mk 1 24 (c1.map (cdL 1 cdI).enc)] (by kernel_rfl) ?_
        refine RunS.one e_evening_square_int_rows_ok 0 rfl (op_q (wantedA_none rfl) rfl (q_slice (a := .sl 1 (x0.2.map cdI.enc)) (l := (some (.v (.int .i64 (wr .i64 (c2 * x0.1)))))) (u := (some (.v (.int .i64 (wr .i64 ((wr .i64 (c2 + 1)) * x0.1)))))) (m := none) (by kernel_rfl) (by kernel_rfl) (by kernel_rfl) rfl (slice_sl (xs := x0.2) (e := cdI.enc) (k := 1) (el := 3) (lo := (wr .i64 (c2 * x0.1))) (hi := (wr .i64 ((wr .i64 (c2 + 1)) * x0.1))) (by kernel_rfl) (by kernel_rfl) (natB_i (cut_lo hk4)) (natB_i (cut_hi hk4)) hk4))) ?_
        refine RunS.call e_evening_square_int_rows_ok (fid := 27) (s := cs_slices_Clone_L_int) (F := fun a => slices_Clone_L_int a.1) (er := er_slices_Clone_L_int) (xs := [.sl 1 (((x0.2.take (wr .i64 ((wr .i64 (c2 + 1)) * x0.1)).toNat).drop (wr .i64 (c2 * x0.1)).toNat).map cdI.enc)]) (a := (((x0.2.take (wr .i64 ((wr .i64 (c2 + 1)) * x0.1)).toNat).drop (wr .i64 (c2 * x0.1)).toNat), ())) rfl (wantedA_none rfl) (by kernel_rfl) (by kernel_rfl) (by kernel_rfl) (by kernel_rfl) (Sns.cons (Sn.enc (c := (cdL 1 cdI)) (v := ((x0.2.take (wr .i64 ((wr .i64 (c2 + 1)) * x0.1)).toNat).drop (wr .i64 (c2 * x0.1)).toNat))) Sns.nil) (.inl (by kernel_rfl)) hv5 ?_
        refine RunS.segF (n := 28) e_evening_square_int_rows_ok 1 [(1, .pt 0 0 0), (6, .v (.int .i64 x0.1)), (7, .v (.int .i64 c2)), (10, hd 1 (c1.map (cdL 1 cdI).enc)), (24, hd 2 ([v5].map (cdL 1 cdI).enc))] [some ⟨2, 95, [.ag [.v (.int .i64 x0.1), .sl 1 (x0.2.map cdI.enc)]], false⟩, mk 1 24 (c1.map (cdL 1 cdI).enc), mk 1 24 ([v5].map (cdL 1 cdI).enc)] (by kernel_rfl) ?_
        refine RunS.one e_evening_square_int_rows_ok 0 rfl (op_w (wantedA_none rfl) rfl (by kernel_rfl) (by kernel_rfl) (w_append (a := hd 1 (c1.map (cdL 1 cdI).enc)) (b := hd 2 ([v5].map (cdL 1 cdI).enc)) (by kernel_rfl) (by kernel_rfl) (append_B (c := (cdL 1 cdI)) (xs := c1) (vs := [v5]) (k := 1) (bytes := 24) (el := 24) (by kernel_rfl) (by kernel_rfl) (elems_hd (t := 24) (by kernel_rfl)) (List.cons_ne_nil _ _) (by kernel_rfl) hk6))) ?_
        refine RunS.segF (n := 28) e_evening_square_int_rows_ok 1 [(1, .pt 0 0 0), (3, hd 3 ((c1 ++ [v5]).map (cdL 1 cdI).enc)), (6, .v (.int .i64 x0.1)), (7, .v (.int .i64 c2))] [some ⟨2, 95, [.ag [.v (.int .i64 x0.1), .sl 1 (x0.2.map cdI.enc)]], false⟩, none, mk 1 24 ([v5].map (cdL 1 cdI).enc), mk 1 24 ((c1 ++ [v5]).map (cdL 1 cdI).enc)] (by kernel_rfl) ?_
        exact RunS.done rfl (Wk.sel2 [0, 3] (by kernel_rfl) (by kernel_rfl) (by kernel_rfl) ⟨⟨_, rfl, bu_c (by kernel_rfl) (by kernel_rfl)⟩, ⟨_, rfl, bu_mk⟩, trivial⟩ ⟨lu (by kernel_rfl) (by kernel_rfl), lu_hd (b' := 3) (by kernel_rfl) (by kernel_rfl), lu (by kernel_rfl) (by kernel_rfl), lu (by kernel_rfl) (by kernel_rfl), trivial⟩)
      refine Sem.runS (s1 := ⟨Fr 28 [(1, .pt 0 0 0), (3, hd 1 ((c1 ++ [v5]).map (cdL 1 cdI).enc)), (6, .v (.int .i64 x0.1)), (7, .v (.int .i64 (wr .i64 (c2 + 1))))], [some ⟨2, 95, [.ag [.v (.int .i64 x0.1), .sl 1 (x0.2.map cdI.enc)]], false⟩, mk 1 24 ((c1 ++ [v5]).map (cdL 1 cdI).enc)]⟩) ?_ ?_
      · refine RunS.segF (n := 28) e_evening_square_int_rows_ok 2 [(1, .pt 0 0 0), (3, hd 1 ((c1 ++ [v5]).map (cdL 1 cdI).enc)), (6, .v (.int .i64 x0.1)), (7, .v (.int .i64 (wr .i64 (c2 + 1))))] [some ⟨2, 95, [.ag [.v (.int .i64 x0.1), .sl 1 (x0.2.map cdI.enc)]], false⟩, mk 1 24 ((c1 ++ [v5]).map (cdL 1 cdI).enc)] (by kernel_rfl) ?_
        exact RunS.done rfl (Wk.sel2 [0, 1] (by kernel_rfl) (by kernel_rfl) (by kernel_rfl) ⟨⟨_, rfl, bu_c (by kernel_rfl) (by kernel_rfl)⟩, ⟨_, rfl, bu_mk⟩, trivial⟩ ⟨lu (by kernel_rfl) (by kernel_rfl), lu_hd (b' := 1) (by kernel_rfl) (by kernel_rfl), lu (by kernel_rfl) (by kernel_rfl), lu (by kernel_rfl) (by kernel_rfl), trivial⟩)
      exact SemN.wk (s1 := ⟨Fr 28 [(1, .pt 0 0 0), (3, hd 1 ((c1 ++ [v5]).map (cdL 1 cdI).enc)), (6, .v (.int .i64 x0.1)), (7, .v (.int .i64 (wr .i64 (c2 + 1))))], [some ⟨2, 95, [.ag [.v (.int .i64 x0.1), .sl 1 (x0.2.map cdI.enc)]], false⟩, mk 1 24 ((c1 ++ [v5]).map (cdL 1 cdI).enc)]⟩) (Wk.sel2 [0, 1] (by kernel_rfl) (by kernel_rfl) (by kernel_rfl) ⟨⟨_, rfl, bu_c (by kernel_rfl) (by kernel_rfl)⟩, ⟨_, rfl, bu_mk⟩, trivial⟩ ⟨lu (by kernel_rfl) (by kernel_rfl), lu_hd (b' := 1) (by kernel_rfl) (by kernel_rfl), lu (by kernel_rfl) (by kernel_rfl), lu (by kernel_rfl) (by kernel_rfl), trivial⟩) (ih (c1 ++ [v5]) (wr .i64 (c2 + 1)) h)
    · rw [if_f hb3] at h
      refine Sem.exit ?_
      have hq := Option.some.inj h; subst hq
      exact ⟨rfl, (Wk.sel2 [1] (by kernel_rfl) (by kernel_rfl) (by kernel_rfl) ⟨⟨_, rfl, bu_mk⟩, trivial⟩ ⟨lu_hd (b' := 1) (by kernel_rfl) (by kernel_rfl), trivial⟩)⟩
set_option maxHeartbeats 4000000 in
set_option maxRecDepth 100000 in
theorem evening_square_int_rows_sem (x0 : (Int × (List Int))) (r : (List (List Int))) (h : evening_square_int_rows x0 = some r) : Sem e_evening_square_int_rows ⟨none, false⟩ cb_evening_square_int_rows ⟨Fr 28 (pairs0 0 (cs_evening_square_int_rows.enc (x0, ()))), []⟩ fun e s' => (e = .normal ∨ e = .ret) ∧ ∃ xs, resA e_evening_square_int_rows.P s'.fr s'.hp Tryd.f85.results.toList = some xs ∧ retA xs = er_evening_square_int_rows r := by
  unfold evening_square_int_rows at h
  refine Sem.wkQ (Sem.wk (s1 := ⟨Fr 28 [(0, .ag [.v (.int .i64 x0.1), .sl 1 (x0.2.map cdI.enc)])], []⟩) (Wk.fr (by kernel_rfl)) ?_)
  refine Sem.seq ?_
  refine Sem.runS (s1 := ⟨Fr 28 [(1, .pt 0 0 0)], [some ⟨2, 95, [.ag [.v (.int .i64 x0.1), .sl 1 (x0.2.map cdI.enc)]], false⟩]⟩) ?_ ?_
  · refine RunS.segF (n := 28) e_evening_square_int_rows_ok 2 [(1, .pt 0 0 0)] [some ⟨2, 95, [.ag [.v (.int .i64 x0.1), .sl 1 (x0.2.map cdI.enc)]], false⟩] (by kernel_rfl) ?_
    exact RunS.done rfl (Wk.sel2 [0] (by kernel_rfl) (by kernel_rfl) (by kernel_rfl) ⟨⟨_, rfl, bu_c (by kernel_rfl) (by kernel_rfl)⟩, trivial⟩ ⟨lu (by kernel_rfl) (by kernel_rfl), trivial⟩)
  refine Sem.seq ?_
  refine Sem.runS (s1 := ⟨Fr 28 [(1, .pt 0 0 0), (3, .e0)], [some ⟨2, 95, [.ag [.v (.int .i64 x0.1), .sl 1 (x0.2.map cdI.enc)]], false⟩]⟩) ?_ ?_
  · refine RunS.segF (n := 28) e_evening_square_int_rows_ok 1 [(1, .pt 0 0 0), (3, .e0)] [some ⟨2, 95, [.ag [.v (.int .i64 x0.1), .sl 1 (x0.2.map cdI.enc)]], false⟩] (by kernel_rfl) ?_
    exact RunS.done rfl (Wk.sel2 [0] (by kernel_rfl) (by kernel_rfl) (by kernel_rfl) ⟨⟨_, rfl, bu_c (by kernel_rfl) (by kernel_rfl)⟩, trivial⟩ ⟨lu (by kernel_rfl) (by kernel_rfl), lu (by kernel_rfl) (by kernel_rfl), trivial⟩)
  refine Sem.seq ?_
  refine Sem.seq ?_
  refine Sem.runS (s1 := ⟨Fr 28 [(1, .pt 0 0 0), (3, .e0), (6, .v (.int .i64 x0.1)), (7, .v (.int .i64 0))], [some ⟨2, 95, [.ag [.v (.int .i64 x0.1), .sl 1 (x0.2.map cdI.enc)]], false⟩]⟩) ?_ ?_
  · refine RunS.segF (n := 28) e_evening_square_int_rows_ok 3 [(1, .pt 0 0 0), (3, .e0), (6, .v (.int .i64 x0.1)), (7, .v (.int .i64 0))] [some ⟨2, 95, [.ag [.v (.int .i64 x0.1), .sl 1 (x0.2.map cdI.enc)]], false⟩] (by kernel_rfl) ?_
    exact RunS.done rfl (Wk.sel2 [0] (by kernel_rfl) (by kernel_rfl) (by kernel_rfl) ⟨⟨_, rfl, bu_c (by kernel_rfl) (by kernel_rfl)⟩, trivial⟩ ⟨lu (by kernel_rfl) (by kernel_rfl), lu (by kernel_rfl) (by kernel_rfl), lu (by kernel_rfl) (by kernel_rfl), lu (by kernel_rfl) (by kernel_rfl), trivial⟩)
  refine Sem.block ?_
  obtain ⟨r8, hr8, h⟩ := Option.bind_eq_some_iff.1 h
  refine Sem.loop (n := 100000) ?_
  refine Sem.cutN (SemN.wk (s1 := ⟨Fr 28 [(1, .pt 0 0 0), (3, hd 1 ([].map (cdL 1 cdI).enc)), (6, .v (.int .i64 x0.1)), (7, .v (.int .i64 0))], [some ⟨2, 95, [.ag [.v (.int .i64 x0.1), .sl 1 (x0.2.map cdI.enc)]], false⟩, mk 1 24 ([].map (cdL 1 cdI).enc)]⟩) (Wk.trans (s1 := ⟨Fr 28 [(1, .pt 0 0 0), (3, hd 1 ([].map (cdL 1 cdI).enc)), (6, .v (.int .i64 x0.1)), (7, .v (.int .i64 0))], [some ⟨2, 95, [.ag [.v (.int .i64 x0.1), .sl 1 (x0.2.map cdI.enc)]], false⟩, mk 1 24 ([].map (cdL 1 cdI).enc)]⟩) Wk.none (Wk.sel2 [0, 1] (by kernel_rfl) (by kernel_rfl) (by kernel_rfl) ⟨⟨_, rfl, bu_c (by kernel_rfl) (by kernel_rfl)⟩, ⟨_, rfl, bu_none⟩, trivial⟩ ⟨lu (by kernel_rfl) (by kernel_rfl), lu (by kernel_rfl) (by kernel_rfl), lu (by kernel_rfl) (by kernel_rfl), lu (by kernel_rfl) (by kernel_rfl), trivial⟩)) (evening_square_int_rows_1_ok x0 _ [] 0 _ hr8)) ?_
  refine Sem.seq ?_
  refine Sem.runS (s1 := ⟨Fr 28 [(2, hd 0 (r8.map (cdL 1 cdI).enc))], [mk 1 24 (r8.map (cdL 1 cdI).enc)]⟩) ?_ ?_
  · refine RunS.segF (n := 28) e_evening_square_int_rows_ok 2 [(2, hd 0 (r8.map (cdL 1 cdI).enc))] [mk 1 24 (r8.map (cdL 1 cdI).enc)] (by kernel_rfl) ?_
    exact RunS.done rfl (Wk.sel2 [0] (by kernel_rfl) (by kernel_rfl) (by kernel_rfl) ⟨⟨_, rfl, bu_mk⟩, trivial⟩ ⟨lu_hd (b' := 0) (by kernel_rfl) (by kernel_rfl), trivial⟩)
  refine Sem.ret ?_
  have hq := Option.some.inj h; subst hq
  exact ⟨⟨Fr 28 [(2, .sl 1 (r8.map (cdL 1 cdI).enc))], []⟩, (Wk.trans (s1 := ⟨Fr 28 [(2, .sl 1 (r8.map (cdL 1 cdI).enc))], [none]⟩) (Wk.frzG 0 (.inl (by kernel_rfl)) ⟨.inl rfl, trivial⟩ ⟨⟨hd 0 (r8.map (cdL 1 cdI).enc), (by kernel_rfl), fz_hd (t := 24) (by kernel_rfl) enc_ok⟩, trivial⟩) (Wk.sel2 [] (by kernel_rfl) (by kernel_rfl) (by kernel_rfl) trivial ⟨lu (by kernel_rfl) (by kernel_rfl), trivial⟩)), .inr rfl, [.sl 1 (r8.map (cdL 1 cdI).enc)], (by kernel_rfl), (by kernel_rfl)⟩
def t_evening_square_int_rows : List AV → Option AV := told cs_evening_square_int_rows (fun a => evening_square_int_rows a.1) er_evening_square_int_rows
theorem x_evening_square_int_rows : XOk 85 t_evening_square_int_rows := by
  refine EnvOk.x (E := e_evening_square_int_rows) (contract_ok e_evening_square_int_rows_ok (fn := Tryd.f85) (c := cb_evening_square_int_rows) ?h1 ?h2 ⟨Tryd.call85⟩ cs_evening_square_int_rows (fun a => evening_square_int_rows a.1) er_evening_square_int_rows (fun a => (by show 1 ≤ 28; decide)) ?h3 ?h4) rfl rfl
  case h1 => kernel_rfl
  case h2 => kernel_rfl
  case h3 => intro b; kernel_rfl
  case h4 => exact fun a b h => evening_square_int_rows_sem a.1 b h
end Go.Proofs.YthofgamegondnaaDoor
