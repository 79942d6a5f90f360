/- Lemmas for the proof. -/
import Derived.Test.YtcmgmkepodbpkaaDoorEveningPlannedM1
import Derived.Test.YtcmgmkepodbpkaaDoorEveningPlannedM2
import Derived.Test.YtcmgmkepodbpkaaDoorEveningPlannedM3
import Derived.Test.YtcmgmkepodbpkaaDoorEveningPlannedM4
import Derived.Test.YtcmgmkepodbpkaaDoorProg
import Derived.Laws.CopyOwn
import Derived.Laws.Slices
import Derived.Laws.StructEq
import Derived.Lib.AppendZerosOnto
namespace Go.Proofs.YtcmgmkepodbpkaaDoor
open Go.RowKit
/- slices.EqualFunc[[][][]int,[][][]int,[][]int,[][]int] -/
noncomputable def e_slices_EqualFunc_LLL_LLL_LL_LL__law09_Same_1 : Env := (E0.withX 55 t_law09_Same_1)
theorem e_slices_EqualFunc_LLL_LLL_LL_LL__law09_Same_1_ok : EnvOk e_slices_EqualFunc_LLL_LLL_LL_LL__law09_Same_1 := (EnvOk.withX E0_ok x_law09_Same_1.1 x_law09_Same_1.2)
noncomputable def cb_slices_EqualFunc_LLL_LLL_LL_LL__law09_Same_1 : Code := codeOf Tryd.f54
def slices_EqualFunc_LLL_LLL_LL_LL__law09_Same_1_1 (x0 : (List (List (List Int)))) (x1 : (List (List (List Int)))) : Nat → Int → Option ((Unit) ⊕ (Bool))
  | 0, _ => none
  | f + 1, c2 =>
    if (decide (c2 < (x0.length : Int))) = true then
    (idx x0 c2).bind fun v4 =>
    (idx x1 c2).bind fun v5 =>
    (law09_Same_1 v4 v5).bind fun v6 =>
    if (!v6) = true then
    some (.inr false)
    else
    slices_EqualFunc_LLL_LLL_LL_LL__law09_Same_1_1 x0 x1 f (wr .i64 (c2 + 1))
    else
    some (.inl ())
def slices_EqualFunc_LLL_LLL_LL_LL__law09_Same_1 (x0 : (List (List (List Int)))) (x1 : (List (List (List Int)))) : Option (Bool) :=
  if ((x0.length : Int) != (x1.length : Int)) = true then
  some false
  else
  (slices_EqualFunc_LLL_LLL_LL_LL__law09_Same_1_1 x0 x1 100000 0).bind fun r9 =>
  match r9 with
  | (.inl w10) =>
    some true
  | (.inr w11) =>
    some w11
def er_slices_EqualFunc_LLL_LLL_LL_LL__law09_Same_1 (r : Bool) : AV := cdB.enc r
set_option maxHeartbeats 4000000 in
set_option maxRecDepth 100000 in
theorem slices_EqualFunc_LLL_LLL_LL_LL__law09_Same_1_1_ok (x0 : (List (List (List Int)))) (x1 : (List (List (List Int)))) : ∀ (f : Nat) (c2 : Int) (r : (Unit) ⊕ (Bool)), slices_EqualFunc_LLL_LLL_LL_LL__law09_Same_1_1 x0 x1 f c2 = some r → SemN e_slices_EqualFunc_LLL_LLL_LL_LL__law09_Same_1 ⟨none, false⟩ (pc cb_slices_EqualFunc_LLL_LLL_LL_LL__law09_Same_1 [1, 1, 0, 1, 0, 0]) f ⟨Fr 32 [(1, .sl 1 (x1.map (cdL 1 (cdL 1 cdI)).enc)), (2, .fn 55 [] []), (15, .sl 1 (x0.map (cdL 1 (cdL 1 cdI)).enc)), (16, .v (.int .i64 (x0.length : Int))), (17, .v (.int .i64 c2))], []⟩ (fun e s => match r with
  | (.inl w) => e = (.exit 0) ∧ Wk e_slices_EqualFunc_LLL_LLL_LL_LL__law09_Same_1 s ⟨Fr 32 [], []⟩
  | (.inr w) => e = .ret ∧ Wk e_slices_EqualFunc_LLL_LLL_LL_LL__law09_Same_1 s ⟨Fr 32 [(6, .v (.bool w))], []⟩) := by
  intro f
  induction f with
  | zero => intro c2 r h; cases h
  | succ f ih0 =>
    intro c2 r h
    have ih := fun (c2 : Int) => ih0 c2 r
    unfold slices_EqualFunc_LLL_LLL_LL_LL__law09_Same_1_1 at h
    refine SemN.succ ?_
    refine Sem.seq ?_
    refine Sem.runS (s1 := ⟨Fr 32 [(1, .sl 1 (x1.map (cdL 1 (cdL 1 cdI)).enc)), (2, .fn 55 [] []), (15, .sl 1 (x0.map (cdL 1 (cdL 1 cdI)).enc)), (16, .v (.int .i64 (x0.length : Int))), (17, .v (.int .i64 c2)), (18, .v (.bool (decide (c2 < (x0.length : Int)))))], []⟩) ?_ ?_
    · refine RunS.segF (n := 32) e_slices_EqualFunc_LLL_LLL_LL_LL__law09_Same_1_ok 1 [(1, .sl 1 (x1.map (cdL 1 (cdL 1 cdI)).enc)), (2, .fn 55 [] []), (15, .sl 1 (x0.map (cdL 1 (cdL 1 cdI)).enc)), (16, .v (.int .i64 (x0.length : Int))), (17, .v (.int .i64 c2)), (18, .v (.bool (decide (c2 < (x0.length : Int)))))] [] (by kernel_rfl) ?_
      exact RunS.done rfl Wk.f1
    refine Sem.seq ?_
    refine Sem.cond (b := (decide (c2 < (x0.length : Int)))) (by kernel_rfl) (fun hb3 => ?_) (fun hb3 => ?_)
    · rw [if_pos hb3] at h
      refine Sem.skip ?_
      refine Sem.seq ?_
      refine Sem.block ?_
      refine Sem.seq ?_
      obtain ⟨v4, hv4, h⟩ := Option.bind_eq_some_iff.1 h
      refine Sem.runS (s1 := ⟨Fr 32 [(1, .sl 1 (x1.map (cdL 1 (cdL 1 cdI)).enc)), (2, .fn 55 [] []), (7, .v (.int .i64 c2)), (8, .sl 1 (v4.map (cdL 1 cdI).enc)), (15, .sl 1 (x0.map (cdL 1 (cdL 1 cdI)).enc)), (16, .v (.int .i64 (x0.length : Int))), (17, .v (.int .i64 c2))], []⟩) ?_ ?_
      · refine RunS.segF (n := 32) e_slices_EqualFunc_LLL_LLL_LL_LL__law09_Same_1_ok 1 [(1, .sl 1 (x1.map (cdL 1 (cdL 1 cdI)).enc)), (2, .fn 55 [] []), (15, .sl 1 (x0.map (cdL 1 (cdL 1 cdI)).enc)), (16, .v (.int .i64 (x0.length : Int))), (17, .v (.int .i64 c2)), (19, .v (.int .i64 c2))] [] (by kernel_rfl) ?_
        refine RunS.one e_slices_EqualFunc_LLL_LLL_LL_LL__law09_Same_1_ok 0 rfl (op_q (wantedA_none rfl) rfl (q_indexAddr (a := .sl 1 (x0.map (cdL 1 (cdL 1 cdI)).enc)) (b := .v (.int .i64 c2)) (by kernel_rfl) (by kernel_rfl) (ix_sl (e := (cdL 1 (cdL 1 cdI)).enc) (el := 50) (k := 1) (ki := .i64) (by kernel_rfl) (by kernel_rfl) hv4))) ?_
        refine RunS.segF (n := 32) e_slices_EqualFunc_LLL_LLL_LL_LL__law09_Same_1_ok 3 [(1, .sl 1 (x1.map (cdL 1 (cdL 1 cdI)).enc)), (2, .fn 55 [] []), (7, .v (.int .i64 c2)), (8, .sl 1 (v4.map (cdL 1 cdI).enc)), (15, .sl 1 (x0.map (cdL 1 (cdL 1 cdI)).enc)), (16, .v (.int .i64 (x0.length : Int))), (17, .v (.int .i64 c2))] [] (by kernel_rfl) ?_
        exact RunS.done rfl Wk.f1
      refine Sem.seq ?_
      obtain ⟨v5, hv5, h⟩ := Option.bind_eq_some_iff.1 h
      refine Sem.runS (s1 := ⟨Fr 32 [(1, .sl 1 (x1.map (cdL 1 (cdL 1 cdI)).enc)), (2, .fn 55 [] []), (8, .sl 1 (v4.map (cdL 1 cdI).enc)), (9, .sl 1 (v5.map (cdL 1 cdI).enc)), (15, .sl 1 (x0.map (cdL 1 (cdL 1 cdI)).enc)), (16, .v (.int .i64 (x0.length : Int))), (17, .v (.int .i64 c2))], []⟩) ?_ ?_
      · refine RunS.segF (n := 32) e_slices_EqualFunc_LLL_LLL_LL_LL__law09_Same_1_ok 2 [(1, .sl 1 (x1.map (cdL 1 (cdL 1 cdI)).enc)), (2, .fn 55 [] []), (8, .sl 1 (v4.map (cdL 1 cdI).enc)), (15, .sl 1 (x0.map (cdL 1 (cdL 1 cdI)).enc)), (16, .v (.int .i64 (x0.length : Int))), (17, .v (.int .i64 c2)), (22, .sl 1 (x1.map (cdL 1 (cdL 1 cdI)).enc)), (23, .v (.int .i64 c2))] [] (by kernel_rfl) ?_
        refine RunS.one e_slices_EqualFunc_LLL_LLL_LL_LL__law09_Same_1_ok 0 rfl (op_q (wantedA_none rfl) rfl (q_indexAddr (a := .sl 1 (x1.map (cdL 1 (cdL 1 cdI)).enc)) (b := .v (.int .i64 c2)) (by kernel_rfl) (by kernel_rfl) (ix_sl (e := (cdL 1 (cdL 1 cdI)).enc) (el := 50) (k := 1) (ki := .i64) (by kernel_rfl) (by kernel_rfl) hv5))) ?_
        refine RunS.segF (n := 32) e_slices_EqualFunc_LLL_LLL_LL_LL__law09_Same_1_ok 2 [(1, .sl 1 (x1.map (cdL 1 (cdL 1 cdI)).enc)), (2, .fn 55 [] []), (8, .sl 1 (v4.map (cdL 1 cdI).enc)), (9, .sl 1 (v5.map (cdL 1 cdI).enc)), (15, .sl 1 (x0.map (cdL 1 (cdL 1 cdI)).enc)), (16, .v (.int .i64 (x0.length : Int))), (17, .v (.int .i64 c2))] [] (by kernel_rfl) ?_
        exact RunS.done rfl Wk.f1
      refine Sem.seq ?_
      obtain ⟨v6, hv6, h⟩ := Option.bind_eq_some_iff.1 h
      refine Sem.runS (s1 := ⟨Fr 32 [(1, .sl 1 (x1.map (cdL 1 (cdL 1 cdI)).enc)), (2, .fn 55 [] []), (15, .sl 1 (x0.map (cdL 1 (cdL 1 cdI)).enc)), (16, .v (.int .i64 (x0.length : Int))), (17, .v (.int .i64 c2)), (30, .v (.bool (!v6)))], []⟩) ?_ ?_
      · refine RunS.segF (n := 32) e_slices_EqualFunc_LLL_LLL_LL_LL__law09_Same_1_ok 3 [(1, .sl 1 (x1.map (cdL 1 (cdL 1 cdI)).enc)), (2, .fn 55 [] []), (15, .sl 1 (x0.map (cdL 1 (cdL 1 cdI)).enc)), (16, .v (.int .i64 (x0.length : Int))), (17, .v (.int .i64 c2)), (26, .fn 55 [] []), (27, .sl 1 (v4.map (cdL 1 cdI).enc)), (28, .sl 1 (v5.map (cdL 1 cdI).enc))] [] (by kernel_rfl) ?_
        refine RunS.call e_slices_EqualFunc_LLL_LLL_LL_LL__law09_Same_1_ok (fid := 55) (s := cs_law09_Same_1) (F := fun a => law09_Same_1 a.1 a.2.1) (er := er_law09_Same_1) (xs := [.sl 1 (v4.map (cdL 1 cdI).enc), .sl 1 (v5.map (cdL 1 cdI).enc)]) (a := (v4, v5, ())) rfl (wantedA_none rfl) (by kernel_rfl) (by kernel_rfl) (by kernel_rfl) (by kernel_rfl) (Sns.cons (Sn.enc (c := (cdL 1 (cdL 1 cdI))) (v := v4)) (Sns.cons (Sn.enc (c := (cdL 1 (cdL 1 cdI))) (v := v5)) Sns.nil)) (.inl (by kernel_rfl)) hv6 ?_
        refine RunS.segF (n := 32) e_slices_EqualFunc_LLL_LLL_LL_LL__law09_Same_1_ok 1 [(1, .sl 1 (x1.map (cdL 1 (cdL 1 cdI)).enc)), (2, .fn 55 [] []), (15, .sl 1 (x0.map (cdL 1 (cdL 1 cdI)).enc)), (16, .v (.int .i64 (x0.length : Int))), (17, .v (.int .i64 c2)), (30, .v (.bool (!v6)))] [] (by kernel_rfl) ?_
        exact RunS.done rfl Wk.f1
      refine Sem.cond (b := (!v6)) (by kernel_rfl) (fun hb7 => ?_) (fun hb7 => ?_)
      · rw [if_pos hb7] at h
        refine Sem.seq ?_
        refine Sem.runS (s1 := ⟨Fr 32 [(6, .v (.bool false))], []⟩) ?_ ?_
        · refine RunS.segF (n := 32) e_slices_EqualFunc_LLL_LLL_LL_LL__law09_Same_1_ok 1 [(6, .v (.bool false))] [] (by kernel_rfl) ?_
          exact RunS.done rfl Wk.f1
        refine Sem.ret ?_
        have hq := Option.some.inj h; subst hq
        exact ⟨rfl, Wk.f1⟩
      · rw [if_f hb7] at h
        refine Sem.skip ?_
        refine Sem.runS (s1 := ⟨Fr 32 [(1, .sl 1 (x1.map (cdL 1 (cdL 1 cdI)).enc)), (2, .fn 55 [] []), (15, .sl 1 (x0.map (cdL 1 (cdL 1 cdI)).enc)), (16, .v (.int .i64 (x0.length : Int))), (17, .v (.int .i64 (wr .i64 (c2 + 1))))], []⟩) ?_ ?_
        · refine RunS.segF (n := 32) e_slices_EqualFunc_LLL_LLL_LL_LL__law09_Same_1_ok 2 [(1, .sl 1 (x1.map (cdL 1 (cdL 1 cdI)).enc)), (2, .fn 55 [] []), (15, .sl 1 (x0.map (cdL 1 (cdL 1 cdI)).enc)), (16, .v (.int .i64 (x0.length : Int))), (17, .v (.int .i64 (wr .i64 (c2 + 1))))] [] (by kernel_rfl) ?_
          exact RunS.done rfl Wk.f1
        exact SemN.wk (s1 := ⟨Fr 32 [(1, .sl 1 (x1.map (cdL 1 (cdL 1 cdI)).enc)), (2, .fn 55 [] []), (15, .sl 1 (x0.map (cdL 1 (cdL 1 cdI)).enc)), (16, .v (.int .i64 (x0.length : Int))), (17, .v (.int .i64 (wr .i64 (c2 + 1))))], []⟩) Wk.f1 (ih (wr .i64 (c2 + 1)) h)
    · rw [if_f hb3] at h
      refine Sem.exit ?_
      have hq := Option.some.inj h; subst hq
      exact ⟨rfl, Wk.f1⟩
set_option maxHeartbeats 4000000 in
set_option maxRecDepth 100000 in
theorem slices_EqualFunc_LLL_LLL_LL_LL__law09_Same_1_sem (x0 : (List (List (List Int)))) (x1 : (List (List (List Int)))) (r : Bool) (h : slices_EqualFunc_LLL_LLL_LL_LL__law09_Same_1 x0 x1 = some r) : Sem e_slices_EqualFunc_LLL_LLL_LL_LL__law09_Same_1 ⟨none, false⟩ cb_slices_EqualFunc_LLL_LLL_LL_LL__law09_Same_1 ⟨Fr 32 (pairs0 0 [.sl 1 (x0.map (cdL 1 (cdL 1 cdI)).enc), .sl 1 (x1.map (cdL 1 (cdL 1 cdI)).enc), .fn 55 [] []]), []⟩ fun e s' => (e = .normal ∨ e = .ret) ∧ ∃ xs, resA e_slices_EqualFunc_LLL_LLL_LL_LL__law09_Same_1.P s'.fr s'.hp Tryd.f54.results.toList = some xs ∧ (retA xs = er_slices_EqualFunc_LLL_LLL_LL_LL__law09_Same_1 r ∧ s'.hp = []) := by
  unfold slices_EqualFunc_LLL_LLL_LL_LL__law09_Same_1 at h
  refine Sem.wkQ (Sem.wk (s1 := ⟨Fr 32 [(0, .sl 1 (x0.map (cdL 1 (cdL 1 cdI)).enc)), (1, .sl 1 (x1.map (cdL 1 (cdL 1 cdI)).enc)), (2, .fn 55 [] [])], []⟩) Wk.f1 ?_)
  refine Sem.seq ?_
  refine Sem.runS (s1 := ⟨Fr 32 [(0, .sl 1 (x0.map (cdL 1 (cdL 1 cdI)).enc)), (1, .sl 1 (x1.map (cdL 1 (cdL 1 cdI)).enc)), (2, .fn 55 [] [])], []⟩) ?_ ?_
  · refine RunS.segF (n := 32) e_slices_EqualFunc_LLL_LLL_LL_LL__law09_Same_1_ok 1 [(0, .sl 1 (x0.map (cdL 1 (cdL 1 cdI)).enc)), (1, .sl 1 (x1.map (cdL 1 (cdL 1 cdI)).enc)), (2, .fn 55 [] [])] [] (by kernel_rfl) ?_
    exact RunS.done rfl Wk.f1
  refine Sem.seq ?_
  refine Sem.seq ?_
  refine Sem.runS (s1 := ⟨Fr 32 [(0, .sl 1 (x0.map (cdL 1 (cdL 1 cdI)).enc)), (1, .sl 1 (x1.map (cdL 1 (cdL 1 cdI)).enc)), (2, .fn 55 [] []), (14, .v (.bool ((x0.length : Int) != (x1.length : Int))))], []⟩) ?_ ?_
  · refine RunS.segF (n := 32) e_slices_EqualFunc_LLL_LLL_LL_LL__law09_Same_1_ok 1 [(0, .sl 1 (x0.map (cdL 1 (cdL 1 cdI)).enc)), (1, .sl 1 (x1.map (cdL 1 (cdL 1 cdI)).enc)), (2, .fn 55 [] []), (10, .sl 1 (x0.map (cdL 1 (cdL 1 cdI)).enc))] [] (by kernel_rfl) ?_
    refine RunS.one e_slices_EqualFunc_LLL_LLL_LL_LL__law09_Same_1_ok 0 rfl (op_q (wantedA_none rfl) rfl (q_len (a := .sl 1 (x0.map (cdL 1 (cdL 1 cdI)).enc)) (by kernel_rfl) (len_sl (el := 50) (by kernel_rfl)))) ?_
    refine RunS.segF (n := 32) e_slices_EqualFunc_LLL_LLL_LL_LL__law09_Same_1_ok 1 [(0, .sl 1 (x0.map (cdL 1 (cdL 1 cdI)).enc)), (1, .sl 1 (x1.map (cdL 1 (cdL 1 cdI)).enc)), (2, .fn 55 [] []), (11, .v (.int .i64 (x0.length : Int))), (12, .sl 1 (x1.map (cdL 1 (cdL 1 cdI)).enc))] [] (by kernel_rfl) ?_
    refine RunS.one e_slices_EqualFunc_LLL_LLL_LL_LL__law09_Same_1_ok 0 rfl (op_q (wantedA_none rfl) rfl (q_len (a := .sl 1 (x1.map (cdL 1 (cdL 1 cdI)).enc)) (by kernel_rfl) (len_sl (el := 50) (by kernel_rfl)))) ?_
    refine RunS.segF (n := 32) e_slices_EqualFunc_LLL_LLL_LL_LL__law09_Same_1_ok 1 [(0, .sl 1 (x0.map (cdL 1 (cdL 1 cdI)).enc)), (1, .sl 1 (x1.map (cdL 1 (cdL 1 cdI)).enc)), (2, .fn 55 [] []), (14, .v (.bool ((x0.length : Int) != (x1.length : Int))))] [] (by kernel_rfl) ?_
    exact RunS.done rfl Wk.f1
  refine Sem.cond (b := ((x0.length : Int) != (x1.length : Int))) (by kernel_rfl) (fun hb1 => ?_) (fun hb1 => ?_)
  · rw [if_pos hb1] at h
    refine Sem.seq ?_
    refine Sem.runS (s1 := ⟨Fr 32 [(6, .v (.bool false))], []⟩) ?_ ?_
    · refine RunS.segF (n := 32) e_slices_EqualFunc_LLL_LLL_LL_LL__law09_Same_1_ok 1 [(6, .v (.bool false))] [] (by kernel_rfl) ?_
      exact RunS.done rfl Wk.f1
    refine Sem.ret ?_
    have hq := Option.some.inj h; subst hq
    exact ⟨⟨Fr 32 [(6, .v (.bool false))], []⟩, Wk.f1, .inr rfl, [.v (.bool false)], (by kernel_rfl), ⟨(by kernel_rfl), rfl⟩⟩
  · rw [if_f hb1] at h
    refine Sem.skip ?_
    refine Sem.seq ?_
    refine Sem.seq ?_
    refine Sem.runS (s1 := ⟨Fr 32 [(1, .sl 1 (x1.map (cdL 1 (cdL 1 cdI)).enc)), (2, .fn 55 [] []), (15, .sl 1 (x0.map (cdL 1 (cdL 1 cdI)).enc)), (16, .v (.int .i64 (x0.length : Int))), (17, .v (.int .i64 0))], []⟩) ?_ ?_
    · refine RunS.segF (n := 32) e_slices_EqualFunc_LLL_LLL_LL_LL__law09_Same_1_ok 1 [(1, .sl 1 (x1.map (cdL 1 (cdL 1 cdI)).enc)), (2, .fn 55 [] []), (15, .sl 1 (x0.map (cdL 1 (cdL 1 cdI)).enc))] [] (by kernel_rfl) ?_
      refine RunS.one e_slices_EqualFunc_LLL_LLL_LL_LL__law09_Same_1_ok 0 rfl (op_q (wantedA_none rfl) rfl (q_len (a := .sl 1 (x0.map (cdL 1 (cdL 1 cdI)).enc)) (by kernel_rfl) (len_sl (el := 50) (by kernel_rfl)))) ?_
      refine RunS.segF (n := 32) e_slices_EqualFunc_LLL_LLL_LL_LL__law09_Same_1_ok 1 [(1, .sl 1 (x1.map (cdL 1 (cdL 1 cdI)).enc)), (2, .fn 55 [] []), (15, .sl 1 (x0.map (cdL 1 (cdL 1 cdI)).enc)), (16, .v (.int .i64 (x0.length : Int))), (17, .v (.int .i64 0))] [] (by kernel_rfl) ?_
      exact RunS.done rfl Wk.f1
    refine Sem.block ?_
    obtain ⟨r9, hr9, h⟩ := Option.bind_eq_some_iff.1 h
    refine Sem.loop (n := 100000) ?_
    rcases r9 with w10 | w11
    · try dsimp only at h
      refine Sem.cutN (SemN.wk (s1 := ⟨Fr 32 [(1, .sl 1 (x1.map (cdL 1 (cdL 1 cdI)).enc)), (2, .fn 55 [] []), (15, .sl 1 (x0.map (cdL 1 (cdL 1 cdI)).enc)), (16, .v (.int .i64 (x0.length : Int))), (17, .v (.int .i64 0))], []⟩) Wk.f1 (slices_EqualFunc_LLL_LLL_LL_LL__law09_Same_1_1_ok x0 x1 _ 0 _ hr9)) ?_
      refine Sem.seq ?_
      refine Sem.runS (s1 := ⟨Fr 32 [(6, .v (.bool true))], []⟩) ?_ ?_
      · refine RunS.segF (n := 32) e_slices_EqualFunc_LLL_LLL_LL_LL__law09_Same_1_ok 1 [(6, .v (.bool true))] [] (by kernel_rfl) ?_
        exact RunS.done rfl Wk.f1
      refine Sem.ret ?_
      have hq := Option.some.inj h; subst hq
      exact ⟨⟨Fr 32 [(6, .v (.bool true))], []⟩, Wk.f1, .inr rfl, [.v (.bool true)], (by kernel_rfl), ⟨(by kernel_rfl), rfl⟩⟩
    · try dsimp only at h
      refine Sem.cutN (SemN.wk (s1 := ⟨Fr 32 [(1, .sl 1 (x1.map (cdL 1 (cdL 1 cdI)).enc)), (2, .fn 55 [] []), (15, .sl 1 (x0.map (cdL 1 (cdL 1 cdI)).enc)), (16, .v (.int .i64 (x0.length : Int))), (17, .v (.int .i64 0))], []⟩) Wk.f1 (slices_EqualFunc_LLL_LLL_LL_LL__law09_Same_1_1_ok x0 x1 _ 0 _ hr9)) ?_
      have hq := Option.some.inj h; subst hq
      exact ⟨⟨Fr 32 [(6, .v (.bool w11))], []⟩, Wk.f1, .inr rfl, [.v (.bool w11)], (by kernel_rfl), ⟨(by kernel_rfl), rfl⟩⟩
theorem s_slices_EqualFunc_LLL_LLL_LL_LL__law09_Same_1 (x0 : (List (List (List Int)))) (x1 : (List (List (List Int)))) (r : Bool) (h : slices_EqualFunc_LLL_LLL_LL_LL__law09_Same_1 x0 x1 = some r) : SOk 54 [.sl 1 (x0.map (cdL 1 (cdL 1 cdI)).enc), .sl 1 (x1.map (cdL 1 (cdL 1 cdI)).enc), .fn 55 [] []] (fun x h' => x = er_slices_EqualFunc_LLL_LLL_LL_LL__law09_Same_1 r ∧ h' = []) :=
  sok_of_sem e_slices_EqualFunc_LLL_LLL_LL_LL__law09_Same_1_ok rfl rfl (fn := Tryd.f54) (c := cb_slices_EqualFunc_LLL_LLL_LL_LL__law09_Same_1) (by kernel_rfl) (by kernel_rfl) ⟨Tryd.call54⟩ (by show 3 ≤ 32; decide) (slices_EqualFunc_LLL_LLL_LL_LL__law09_Same_1_sem x0 x1 r h)
/- trestle/trestlelaw09.Same -/
noncomputable def e_law09_Same : Env := E0
theorem e_law09_Same_ok : EnvOk e_law09_Same := E0_ok
noncomputable def cb_law09_Same : Code := codeOf Tryd.f18
def law09_Same (x0 : (List (List (List Int)))) (x1 : (List (List (List Int)))) : Option (Bool) :=
  (slices_EqualFunc_LLL_LLL_LL_LL__law09_Same_1 x0 x1).bind fun v1 =>
  some v1
def cs_law09_Same : Cs ((List (List (List Int))) × (List (List (List Int))) × Unit) := (csC (cdL 1 (cdL 1 (cdL 1 cdI))) (csC (cdL 1 (cdL 1 (cdL 1 cdI))) csN))
def er_law09_Same (r : Bool) : AV := cdB.enc r
set_option maxHeartbeats 4000000 in
set_option maxRecDepth 100000 in
theorem law09_Same_sem (x0 : (List (List (List Int)))) (x1 : (List (List (List Int)))) (r : Bool) (h : law09_Same x0 x1 = some r) : Sem e_law09_Same ⟨none, false⟩ cb_law09_Same ⟨Fr 8 (pairs0 0 (cs_law09_Same.enc (x0, x1, ()))), []⟩ fun e s' => (e = .normal ∨ e = .ret) ∧ ∃ xs, resA e_law09_Same.P s'.fr s'.hp Tryd.f18.results.toList = some xs ∧ retA xs = er_law09_Same r := by
  unfold law09_Same at h
  refine Sem.wkQ (Sem.wk (s1 := ⟨Fr 8 [(0, .sl 1 (x0.map (cdL 1 (cdL 1 cdI)).enc)), (1, .sl 1 (x1.map (cdL 1 (cdL 1 cdI)).enc))], []⟩) Wk.f1 ?_)
  refine Sem.seq ?_
  refine Sem.runS (s1 := ⟨Fr 8 [(0, .sl 1 (x0.map (cdL 1 (cdL 1 cdI)).enc)), (1, .sl 1 (x1.map (cdL 1 (cdL 1 cdI)).enc))], []⟩) ?_ ?_
  · refine RunS.segF (n := 8) e_law09_Same_ok 1 [(0, .sl 1 (x0.map (cdL 1 (cdL 1 cdI)).enc)), (1, .sl 1 (x1.map (cdL 1 (cdL 1 cdI)).enc))] [] (by kernel_rfl) ?_
    exact RunS.done rfl Wk.f1
  refine Sem.seq ?_
  obtain ⟨v1, hv1, h⟩ := Option.bind_eq_some_iff.1 h
  refine Sem.runS (s1 := ⟨Fr 8 [(4, .v (.bool v1))], []⟩) ?_ ?_
  · refine RunS.segF (n := 8) e_law09_Same_ok 2 [(5, .sl 1 (x0.map (cdL 1 (cdL 1 cdI)).enc)), (6, .sl 1 (x1.map (cdL 1 (cdL 1 cdI)).enc))] [] (by kernel_rfl) ?_
    refine RunS.callS rfl rfl (s_slices_EqualFunc_LLL_LLL_LL_LL__law09_Same_1 x0 x1 _ hv1) rfl (wantedA_none rfl) (by kernel_rfl) (xs := [.sl 1 (x0.map (cdL 1 (cdL 1 cdI)).enc), .sl 1 (x1.map (cdL 1 (cdL 1 cdI)).enc), .fn 55 [] []]) (by kernel_rfl) (by kernel_rfl) (by rintro x h' ⟨rfl, rfl⟩; exact ⟨rfl, rfl⟩) ?_
    rintro x h' ⟨rfl, rfl⟩
    refine RunS.segF (n := 8) e_law09_Same_ok 1 [(4, .v (.bool v1))] [] (by kernel_rfl) ?_
    exact RunS.done rfl Wk.f1
  refine Sem.ret ?_
  have hq := Option.some.inj h; subst hq
  exact ⟨⟨Fr 8 [(4, .v (.bool v1))], []⟩, Wk.f1, .inr rfl, [.v (.bool v1)], (by kernel_rfl), (by kernel_rfl)⟩
def t_law09_Same : List AV → Option AV := told cs_law09_Same (fun a => law09_Same a.1 a.2.1) er_law09_Same
theorem x_law09_Same : XOk 18 t_law09_Same := by
  refine EnvOk.x (E := e_law09_Same) (contract_ok e_law09_Same_ok (fn := Tryd.f18) (c := cb_law09_Same) ?h1 ?h2 ⟨Tryd.call18⟩ cs_law09_Same (fun a => law09_Same a.1 a.2.1) er_law09_Same (fun a => (by show 2 ≤ 8; decide)) ?h3 ?h4) rfl rfl
  case h1 => kernel_rfl
  case h2 => kernel_rfl
  case h3 => intro b; kernel_rfl
  case h4 => exact fun a b h => law09_Same_sem a.1 a.2.1 b h
theorem ty3 : Ty Tryd.prog 3 (.int .i64) 1 8 (.int .i64 0) := ⟨by kernel_rfl, by kernel_rfl⟩
noncomputable def fs7 : Array Field := match Tryd.prog.underlying 7 with | some (.struct fs) => fs | _ => #[]
theorem ty31 : Ty Tryd.prog 31 (.slice 3) 1 24 (.slice none 0 0) := ⟨by kernel_rfl, by kernel_rfl⟩
noncomputable def fs94 : Array Field := match Tryd.prog.underlying 94 with | some (.struct fs) => fs | _ => #[]
theorem ty94 : Ty Tryd.prog 94 (.struct fs94) 2 32 (.agg #[.int .i64 0, .slice none 0 0]) := ⟨by kernel_rfl, by kernel_rfl⟩
section guards
variable {P : Program} {Q : Exit → Act → World → Prop} {F : Frm} {l : List (Nat × Value)} {w : World} {ops : Array Oper} {rest : List Oper}
end guards
section rules
variable {P : Program} {Q : Exit → Act → World → Prop} {F : Frm} {l : List (Nat × Value)} {w : World} {ops : Array Oper} {rest : List Oper}
variable {X : List Oper → Frm → List (Nat × Value) → World → Prop} [inst : Runs P X]
variable {d : Nat} {ty t T e : TypeId} {pos : String} {af : Array Edge} {x y : Operand} {ds dT : TypeDesc} {sz by_ sT bT : Nat} {z zT : Value}
theorem Ty.elem (hT : Ty P T (.slice e) sT bT zT) : P.elem T = e := by simp [Program.elem, hT.und]
theorem Ty.und' (hT : Ty P T (.slice e) sT bT zT) : P.underlying T = some (.slice (P.elem T)) := by rw [hT.elem]; exact hT.und
theorem st_sliceLo {A : Option Addr} {n c m : Nat} {K : IntKind} (hT : Ty P T (.slice e) sT bT zT) (hE : Ty P e ds sz by_ z) (hx : ev l F.s x = .slice A n c) (hy : ev l F.s y = .int K (m : Int)) (hm : m ≤ n) :
    Rn P l F.s w ⟨some d, .slice T x (some y) none none, ty, pos, af, none⟩ (.slice (if c = m then A else A.map (·.add (m * sz))) (n - m) (c - m)) := by
  unfold Rn
  have h := run_slice_l (P := P) (w := w) T A n c hT.und' K (m : Int) (by omega) (by omega)
  rw [hT.elem, run_size hE] at h
  simp [execOp, hx, hy, run_sliceAt_slice w T _ _ _ _ hT.und', h, Result.andThen, sliced]
theorem st_sliceHi {A : Option Addr} {n c m : Nat} {K : IntKind} (hT : Ty P T (.slice e) sT bT zT) (hE : Ty P e ds sz by_ z) (hx : ev l F.s x = .slice A n c) (hy : ev l F.s y = .int K (m : Int)) (hm : m ≤ c) :
    Rn P l F.s w ⟨some d, .slice T x none (some y) none, ty, pos, af, none⟩ (.slice A m c) := by
  unfold Rn
  have h := run_slice_h (P := P) (w := w) T A n c hT.und' K (m : Int) (by omega) (by omega)
  rw [hT.elem, run_size hE] at h
  simp [execOp, hx, hy, run_sliceAt_slice w T _ _ _ _ hT.und', h, Result.andThen, sliced]
  intro _
  cases A <;> simp [Addr.add]
theorem st_cutHi {A : Option Addr} {n c m : Nat} {mi : Int} {K : IntKind} (hT : Ty P T (.slice e) sT bT zT) (hE : Ty P e ds sz by_ z) (hx : ev l F.s x = .slice A n c) (hy : ev l F.s y = .int K mi) (hmi : mi = (m : Int)) (hm : m ≤ c) :
    Rn P l F.s w ⟨some d, .slice T x none (some y) none, ty, pos, af, none⟩ (.slice A m c) := by
  subst hmi
  exact st_sliceHi hT hE hx hy hm
end rules
section
variable {P : Program} {ops : Array Oper} {Q : Exit → Act → World → Prop} {rest : List Oper} {F : Frm} {l : List (Nat × Value)} {w : World}
theorem wl_apz {ty : TypeId} {pos : String} {af : Array Edge} {d : Nat} {a b : Operand} {T T2 : TypeId} {v u v' : Value} {w' : World} (ha : ev l F.s a = v) (hb : ev l F.s b = u) (hN : Nat.blt d F.N = true) (h : (Builtin.append_ #[T, T2] ty #[v, u]).run P w = .ok v' w')
    (k : WL P ops Q rest F ((d, v') :: l) w') : WL P ops Q (⟨some d, .call ⟨.builtin .append, #[a, b], #[T, T2]⟩, ty, pos, af, none⟩ :: rest) F l w :=
  wl_run (v := v') rfl rfl hN (by simp [execOp, resolve, invoke, builtin, ha, hb, h]) k
end
set_option maxRecDepth 100000 in
theorem grow_ok (A : Option Addr) (n : Nat) (w : World) (h0 : 0 < n) (h1 : n ≤ 1000000000) : Ret Tryd.prog 90 #[.slice A 0 0, .int .i64 (n : Int)] w fun v w' => v = .slice (some ⟨w.heap.size, 0, none⟩) 0 (grownCap w n 0 3) ∧ w' = w.drew.alloc (.cells (#[] ++ Builtin.zeroCells #[.int .i64 0] n ++ Builtin.zeroCells #[.int .i64 0] (grownCap w n 0 3 - n)) 3) := by
  obtain ⟨i, hi, hz, hs, hb⟩ := ty3.ex
  have hold : (Builtin.firstCells i.size 0 (.slice A 0 0)).run Tryd.prog w.drew = .ok (([] : List Value).toArray) w.drew := by
    cases A with
    | none => exact run_firstCells_none w.drew i.size 0 0 0
    | some a => exact run_firstCells_some w.drew i.size 0 a 0 0 [] (by simp) (fun j v hj => by simp at hj)
  have hfit := growslice_fits (need := 0 + n) (old := 0) (bytes := i.bytes) (by omega) (by rw [hb]; omega)
  have hrun : ∀ ty, (Builtin.append_ #[31, 3] ty #[.slice A 0 0, .int .i64 ((n : Int) - (((0 : Nat) : Int) - ((0 : Nat) : Int)))]).run Tryd.prog w = .ok (.slice (some ⟨w.heap.size, 0, none⟩) n (grownCap w n 0 3)) (w.drew.alloc (.cells (#[] ++ Builtin.zeroCells #[.int .i64 0] n ++ Builtin.zeroCells #[.int .i64 0] (grownCap w n 0 3 - n)) 3)) := fun ty => by
    have h := Lib.run_append_grow_zeros (P := Tryd.prog) w 31 3 ty 3 i (.int .i64 0) .i64 .i64 ty31.und ty3.und hi hz A 0 0 [] hold n h0 (by rw [hs]; decide) (by omega) (by omega) (by rw [hb]; omega) hfit
    rw [Nat.zero_add] at h
    have e : (n : Int) - (((0 : Nat) : Int) - ((0 : Nat) : Int)) = (n : Int) := by omega
    rw [e]
    exact h
  have hG : 0 ≤ grownCap w n 0 3 := Nat.zero_le _
  refine ret_in Tryd.func90 rfl rfl rfl ?_
  refine wc_seq ?_
  refine wc_region ?_
  refine wl_v (st_assign (v := .slice none 0 0) rfl) rfl rfl rfl ?_
  refine wl_nil ?_
  refine wq_then ?_
  refine wc_seq ?_
  refine wc_seq ?_
  refine wc_region ?_
  refine wl_v (st_move (v := .int .i64 n) rfl) rfl rfl rfl ?_
  refine wl_v (st_lss rfl rfl) rfl rfl rfl ?_
  refine wl_nil ?_
  refine wq_then ?_
  refine wc_dec rfl (fun h => absurd h (by omega)) (fun _ => ?_)
  refine wc_skip ?_
  refine wq_then ?_
  refine wc_seq ?_
  refine wc_seq ?_
  refine wc_region ?_
  refine wl_v (st_move (v := .int .i64 n) rfl) rfl rfl rfl ?_
  refine wl_v (st_move (v := .slice A 0 0) rfl) rfl rfl rfl ?_
  refine wl_v (st_cap ty31 rfl) rfl rfl rfl ?_
  refine wl_v (st_move (v := .slice A 0 0) rfl) rfl rfl rfl ?_
  refine wl_v (st_len ty31 rfl) rfl rfl rfl ?_
  refine wl_v (st_sub rfl rfl (by omega) (by omega)) rfl rfl rfl ?_
  refine wl_v (st_sub rfl rfl (by omega) (by omega)) rfl rfl rfl ?_
  refine wl_v (st_assign (v := .int .i64 ((n : Int) - (((0 : Nat) : Int) - ((0 : Nat) : Int)))) rfl) rfl rfl rfl ?_
  refine wl_nil ?_
  refine wq_then ?_
  refine wc_seq ?_
  refine wc_region ?_
  refine wl_v (st_move (v := .int .i64 ((n : Int) - (((0 : Nat) : Int) - ((0 : Nat) : Int)))) rfl) rfl rfl rfl ?_
  refine wl_v (st_gtr rfl rfl) rfl rfl rfl ?_
  refine wl_nil ?_
  refine wq_then ?_
  refine wc_dec rfl (fun _ => ?_) (fun h => absurd h (by omega))
  refine wc_region ?_
  refine wl_v (st_move (v := .slice A 0 0) rfl) rfl rfl rfl ?_
  refine wl_v (st_move (v := .slice A 0 0) rfl) rfl rfl rfl ?_
  refine wl_v (st_cap ty31 rfl) rfl rfl rfl ?_
  refine wl_v (st_cutHi (m := 0) ty31 ty3 rfl rfl rfl (Nat.le_refl 0)) rfl rfl rfl ?_
  refine wl_v (st_move (v := .int .i64 ((n : Int) - (((0 : Nat) : Int) - ((0 : Nat) : Int)))) rfl) rfl rfl rfl ?_
  refine wl_apz rfl rfl rfl (hrun _) ?_
  refine wl_v (st_move (v := .slice A 0 0) rfl) rfl rfl rfl ?_
  refine wl_v (st_len ty31 rfl) rfl rfl rfl ?_
  refine wl_v (st_cutHi (m := 0) ty31 ty3 rfl rfl rfl hG) rfl rfl rfl ?_
  refine wl_v (st_assign (v := .slice (some ⟨w.heap.size, 0, none⟩) 0 (grownCap w n 0 3)) rfl) rfl rfl rfl ?_
  refine wl_nil ?_
  refine wq_then ?_
  refine wc_seq ?_
  refine wc_region ?_
  refine wl_v (st_move (v := .slice (some ⟨w.heap.size, 0, none⟩) 0 (grownCap w n 0 3)) rfl) rfl rfl rfl ?_
  refine wl_v (st_assign (v := .slice (some ⟨w.heap.size, 0, none⟩) 0 (grownCap w n 0 3)) rfl) rfl rfl rfl ?_
  refine wl_nil ?_
  refine wq_then ?_
  refine wc_ret ?_
  refine wq_ret1 (v := .slice (some ⟨w.heap.size, 0, none⟩) 0 (grownCap w n 0 3)) rfl rfl rfl ?_
  exact ⟨rfl, rfl⟩
def growOk (m : Int) : Bool := decide (0 < m) && decide (m ≤ 1000000000)
theorem growOk_inv {m : Int} (h : growOk m = true) : 0 < m ∧ m ≤ 1000000000 := by
  simpa [growOk] using h
theorem s_grow {m : Int} (hm : growOk m = true) : SOk 90 [.e0, .v (.int .i64 m)] fun x h' => x = .rf 0 0 0 0 ∧ h' = [some ⟨1, 3, [], false⟩] := by
  obtain ⟨m0, m1⟩ := growOk_inv hm
  obtain ⟨n, rfl⟩ := Int.eq_ofNat_of_zero_le (show 0 ≤ m by omega)
  refine ⟨⟨Tryd.call90⟩, fun w Z us hz _ hv => ?_⟩
  obtain ⟨u1, r1, rfl, hv1, hv⟩ := hv.head
  obtain ⟨u2, r2, rfl, hv2, hv⟩ := hv.head
  have : r2 = [] := List.eq_nil_of_length_eq_zero hv.len
  subst this
  rw [hv2.v_inv]
  cases hv1
  rename_i A
  refine Ret.mono (grow_ok A n w (by omega) (by omega)) fun v w' ⟨hv', hw'⟩ => ?_
  subst hv' hw'
  have hge := grownCap_ge w n 0 3
  have hle := grownCap_le_maxLen w n 0 3 (by unfold maxLen; omega)
  have hg : w.grownBy (w.drew.alloc (.cells (#[] ++ Builtin.zeroCells #[.int .i64 0] n ++ Builtin.zeroCells #[.int .i64 0] (grownCap w n 0 3 - n)) 3)) none :=
    have q := World.grownBy_alloc w.drew (.cells (#[] ++ Builtin.zeroCells #[.int .i64 0] n ++ Builtin.zeroCells #[.int .i64 0] (grownCap w n 0 3 - n)) 3) none
    ⟨q.os, q.tape, q.output, q.size, q.block⟩
  have hh : HR w Z [] [] := ⟨rfl, fun b B hB => by simp at hB, fun b b' B B' r r' hB => by simp at hB, hz⟩
  have hsz : ∀ k, (Builtin.zeroCells #[Value.int .i64 0] k).size = k := fun k => by simp [Builtin.zeroCells]
  obtain ⟨k1, k2, k3⟩ := HR.new (w' := w.drew.alloc (.cells (#[] ++ Builtin.zeroCells #[.int .i64 0] n ++ Builtin.zeroCells #[.int .i64 0] (grownCap w n 0 3 - n)) 3)) (c := w.heap.size) hh (k := 1) (t := 3) (es := []) (us := []) (arr := #[] ++ Builtin.zeroCells #[.int .i64 0] n ++ Builtin.zeroCells #[.int .i64 0] (grownCap w n 0 3 - n)) (cap := grownCap w n 0 3) hg (Nat.le_refl _) (World.alloc_heap_new w.drew _) .nil (by rw [Array.size_append, Array.size_append, hsz, hsz]; simp; omega) (Nat.zero_le _) hle (fun i u hu => by simp at hu)
  refine ⟨Z, _, .rf 0 0 0 0, [some ⟨1, 3, [], false⟩], ⟨rfl, rfl⟩, k1, ?_, k2.w⟩
  have hr : ([] ++ [(⟨w.heap.size, 1, grownCap w n 0 3⟩ : RI)])[0]? = some ⟨w.heap.size, 1, grownCap w n 0 3⟩ := rfl
  have := VR.rf (w := w.drew.alloc (.cells (#[] ++ Builtin.zeroCells #[.int .i64 0] n ++ Builtin.zeroCells #[.int .i64 0] (grownCap w n 0 3 - n)) 3)) (Z := Z) (lo := 0) (n := 0) (m := 0) (c := grownCap w n 0 3) hr (Nat.le_refl _) (Nat.zero_le _) (by simp) hle
  simpa using this
section
variable {E : Env} {ops : Array Oper} {rest rest' : List Oper} {K : St → Prop} {n : Nat} {l : List (Nat × AV)} {hp : Hp}
theorem RunS.grow (hP : E.P = E0.P) (hG : E.G = E0.G) {d : Nat} {f : Operand} {args : Array Operand} {tys : Array TypeId} {ty : TypeId} {pos : String} {af : Array Edge} {g : Option (Nat × Bool)} {m : Int} (hm : growOk m = true) (hr : rest = ⟨some d, .call ⟨.value f, args, tys⟩, ty, pos, af, g⟩ :: rest') (hw : wantedA ops (Fr n l) ⟨some d, .call ⟨.value f, args, tys⟩, ty, pos, af, g⟩ = some true)
    (hf : opA E (Fr n l) f = some (.fn 90 [] [])) (ha : opds (opA E (Fr n l)) args.toList = some [.e0, .v (.int .i64 m)])
    (k : RunS E ops rest' ⟨Fr n ((d, .rf hp.length 0 0 0) :: l), hp ++ [some ⟨1, 3, [], false⟩]⟩ K) : RunS E ops rest ⟨Fr n l, hp⟩ K := by
  refine RunS.callS hP hG (s_grow hm) hr hw hf ha rfl (by rintro x h' ⟨rfl, rfl⟩; exact ⟨rfl, rfl⟩) ?_
  rintro x h' ⟨rfl, rfl⟩
  exact k
end
theorem ne_pos {α : Type} {xs : List α} (h : decide (0 < xs.length) = true) : xs ≠ [] := fun e => by
  rw [e] at h; simp at h
/- slices.Concat[[]int,int] -/
noncomputable def e_slices_Concat_L_int : Env := E0
theorem e_slices_Concat_L_int_ok : EnvOk e_slices_Concat_L_int := E0_ok
noncomputable def cb_slices_Concat_L_int : Code := codeOf Tryd.f37
def slices_Concat_L_int_1 (x0 : (List (List Int))) : Nat → Int → Int → Option ((Int))
  | 0, _, _ => none
  | f + 1, c1, c2 =>
    if (decide (c2 < (x0.length : Int))) = true then
    (idx x0 c2).bind fun v4 =>
    if (decide ((wr .i64 (c1 + (v4.length : Int))) < 0)) = true then none else
    slices_Concat_L_int_1 x0 f (wr .i64 (c1 + (v4.length : Int))) (wr .i64 (c2 + 1))
    else
    some c1
def slices_Concat_L_int_2 (x0 : (List (List Int))) : Nat → (List Int) → Int → Option (((List Int)))
  | 0, _, _ => none
  | f + 1, c9, c10 =>
    if (decide (c10 < (x0.length : Int))) = true then
    (idx x0 c10).bind fun v12 =>
    if (decide (0 < v12.length)) = true then
    if (capOk 8 (c9.length + v12.length)) = true then
    slices_Concat_L_int_2 x0 f (c9 ++ v12) (wr .i64 (c10 + 1))
    else none
    else none
    else
    some c9
def slices_Concat_L_int (x0 : (List (List Int))) : Option ((List Int)) :=
  (slices_Concat_L_int_1 x0 100000 0 0).bind fun r7 =>
  if (growOk r7) = true then
  (slices_Concat_L_int_2 x0 100000 ([] : List Int) 0).bind fun r16 =>
  some r16
  else none
def cs_slices_Concat_L_int : Cs ((List (List Int)) × Unit) := (csC (cdL 1 (cdL 1 cdI)) csN)
def er_slices_Concat_L_int (r : (List Int)) : AV := (cdL 1 cdI).enc r
set_option maxHeartbeats 4000000 in
set_option maxRecDepth 100000 in
theorem slices_Concat_L_int_1_ok (x0 : (List (List Int))) : ∀ (f : Nat) (c1 : Int) (c2 : Int) (r : (Int)), slices_Concat_L_int_1 x0 f c1 c2 = some r → SemN e_slices_Concat_L_int ⟨none, false⟩ (pc cb_slices_Concat_L_int [1, 1, 0, 1, 0, 0]) f ⟨Fr 36 [(0, .sl 1 (x0.map (cdL 1 cdI).enc)), (3, .v (.int .i64 c1)), (9, .sl 1 (x0.map (cdL 1 cdI).enc)), (10, .v (.int .i64 (x0.length : Int))), (11, .v (.int .i64 c2))], []⟩ (fun e s => e = (.exit 0) ∧ Wk e_slices_Concat_L_int s ⟨Fr 36 [(0, .sl 1 (x0.map (cdL 1 cdI).enc)), (3, .v (.int .i64 r))], []⟩) := by
  intro f
  induction f with
  | zero => intro c1 c2 r h; cases h
  | succ f ih0 =>
    intro c1 c2 r h
    have ih := fun (c1 : Int) (c2 : Int) => ih0 c1 c2 r
    unfold slices_Concat_L_int_1 at h
    refine SemN.succ ?_
    refine Sem.seq ?_
    refine Sem.runS (s1 := ⟨Fr 36 [(0, .sl 1 (x0.map (cdL 1 cdI).enc)), (3, .v (.int .i64 c1)), (9, .sl 1 (x0.map (cdL 1 cdI).enc)), (10, .v (.int .i64 (x0.length : Int))), (11, .v (.int .i64 c2)), (12, .v (.bool (decide (c2 < (x0.length : Int)))))], []⟩) ?_ ?_
    · refine RunS.segF (n := 36) e_slices_Concat_L_int_ok 1 [(0, .sl 1 (x0.map (cdL 1 cdI).enc)), (3, .v (.int .i64 c1)), (9, .sl 1 (x0.map (cdL 1 cdI).enc)), (10, .v (.int .i64 (x0.length : Int))), (11, .v (.int .i64 c2)), (12, .v (.bool (decide (c2 < (x0.length : Int)))))] [] (by kernel_rfl) ?_
      exact RunS.done rfl Wk.f1
    refine Sem.seq ?_
    refine Sem.cond (b := (decide (c2 < (x0.length : Int)))) (by kernel_rfl) (fun hb3 => ?_) (fun hb3 => ?_)
    · rw [if_pos hb3] at h
      refine Sem.skip ?_
      refine Sem.seq ?_
      refine Sem.block ?_
      refine Sem.seq ?_
      obtain ⟨v4, hv4, h⟩ := Option.bind_eq_some_iff.1 h
      refine Sem.runS (s1 := ⟨Fr 36 [(0, .sl 1 (x0.map (cdL 1 cdI).enc)), (3, .v (.int .i64 c1)), (5, .sl 1 (v4.map cdI.enc)), (9, .sl 1 (x0.map (cdL 1 cdI).enc)), (10, .v (.int .i64 (x0.length : Int))), (11, .v (.int .i64 c2))], []⟩) ?_ ?_
      · refine RunS.one e_slices_Concat_L_int_ok 0 rfl (op_q (wantedA_none rfl) rfl (q_indexAddr (a := .sl 1 (x0.map (cdL 1 cdI).enc)) (b := .v (.int .i64 c2)) (by kernel_rfl) (by kernel_rfl) (ix_sl (e := (cdL 1 cdI).enc) (el := 31) (k := 1) (ki := .i64) (by kernel_rfl) (by kernel_rfl) hv4))) ?_
        refine RunS.segF (n := 36) e_slices_Concat_L_int_ok 2 [(0, .sl 1 (x0.map (cdL 1 cdI).enc)), (3, .v (.int .i64 c1)), (5, .sl 1 (v4.map cdI.enc)), (9, .sl 1 (x0.map (cdL 1 cdI).enc)), (10, .v (.int .i64 (x0.length : Int))), (11, .v (.int .i64 c2))] [] (by kernel_rfl) ?_
        exact RunS.done rfl Wk.f1
      refine Sem.seq ?_
      refine Sem.runS (s1 := ⟨Fr 36 [(0, .sl 1 (x0.map (cdL 1 cdI).enc)), (3, .v (.int .i64 (wr .i64 (c1 + (v4.length : Int))))), (9, .sl 1 (x0.map (cdL 1 cdI).enc)), (10, .v (.int .i64 (x0.length : Int))), (11, .v (.int .i64 c2))], []⟩) ?_ ?_
      · refine RunS.segF (n := 36) e_slices_Concat_L_int_ok 2 [(0, .sl 1 (x0.map (cdL 1 cdI).enc)), (9, .sl 1 (x0.map (cdL 1 cdI).enc)), (10, .v (.int .i64 (x0.length : Int))), (11, .v (.int .i64 c2)), (15, .v (.int .i64 c1)), (16, .sl 1 (v4.map cdI.enc))] [] (by kernel_rfl) ?_
        refine RunS.one e_slices_Concat_L_int_ok 0 rfl (op_q (wantedA_none rfl) rfl (q_len (a := .sl 1 (v4.map cdI.enc)) (by kernel_rfl) (len_sl (el := 3) (by kernel_rfl)))) ?_
        refine RunS.segF (n := 36) e_slices_Concat_L_int_ok 2 [(0, .sl 1 (x0.map (cdL 1 cdI).enc)), (3, .v (.int .i64 (wr .i64 (c1 + (v4.length : Int))))), (9, .sl 1 (x0.map (cdL 1 cdI).enc)), (10, .v (.int .i64 (x0.length : Int))), (11, .v (.int .i64 c2))] [] (by kernel_rfl) ?_
        exact RunS.done rfl Wk.f1
      refine Sem.seq ?_
      refine Sem.runS (s1 := ⟨Fr 36 [(0, .sl 1 (x0.map (cdL 1 cdI).enc)), (3, .v (.int .i64 (wr .i64 (c1 + (v4.length : Int))))), (9, .sl 1 (x0.map (cdL 1 cdI).enc)), (10, .v (.int .i64 (x0.length : Int))), (11, .v (.int .i64 c2)), (20, .v (.bool (decide ((wr .i64 (c1 + (v4.length : Int))) < 0))))], []⟩) ?_ ?_
      · refine RunS.segF (n := 36) e_slices_Concat_L_int_ok 2 [(0, .sl 1 (x0.map (cdL 1 cdI).enc)), (3, .v (.int .i64 (wr .i64 (c1 + (v4.length : Int))))), (9, .sl 1 (x0.map (cdL 1 cdI).enc)), (10, .v (.int .i64 (x0.length : Int))), (11, .v (.int .i64 c2)), (20, .v (.bool (decide ((wr .i64 (c1 + (v4.length : Int))) < 0))))] [] (by kernel_rfl) ?_
        exact RunS.done rfl Wk.f1
      refine Sem.cond (b := (decide ((wr .i64 (c1 + (v4.length : Int))) < 0))) (by kernel_rfl) (fun hb5 => ?_) (fun hb5 => ?_)
      · rw [if_pos hb5] at h
        cases h
      · rw [if_f hb5] at h
        refine Sem.skip ?_
        refine Sem.runS (s1 := ⟨Fr 36 [(0, .sl 1 (x0.map (cdL 1 cdI).enc)), (3, .v (.int .i64 (wr .i64 (c1 + (v4.length : Int))))), (9, .sl 1 (x0.map (cdL 1 cdI).enc)), (10, .v (.int .i64 (x0.length : Int))), (11, .v (.int .i64 (wr .i64 (c2 + 1))))], []⟩) ?_ ?_
        · refine RunS.segF (n := 36) e_slices_Concat_L_int_ok 2 [(0, .sl 1 (x0.map (cdL 1 cdI).enc)), (3, .v (.int .i64 (wr .i64 (c1 + (v4.length : Int))))), (9, .sl 1 (x0.map (cdL 1 cdI).enc)), (10, .v (.int .i64 (x0.length : Int))), (11, .v (.int .i64 (wr .i64 (c2 + 1))))] [] (by kernel_rfl) ?_
          exact RunS.done rfl Wk.f1
        exact SemN.wk (s1 := ⟨Fr 36 [(0, .sl 1 (x0.map (cdL 1 cdI).enc)), (3, .v (.int .i64 (wr .i64 (c1 + (v4.length : Int))))), (9, .sl 1 (x0.map (cdL 1 cdI).enc)), (10, .v (.int .i64 (x0.length : Int))), (11, .v (.int .i64 (wr .i64 (c2 + 1))))], []⟩) Wk.f1 (ih (wr .i64 (c1 + (v4.length : Int))) (wr .i64 (c2 + 1)) h)
    · rw [if_f hb3] at h
      refine Sem.exit ?_
      have hq := Option.some.inj h; subst hq
      exact ⟨rfl, Wk.f1⟩
set_option maxHeartbeats 4000000 in
set_option maxRecDepth 100000 in
theorem slices_Concat_L_int_2_ok (x0 : (List (List Int))) : ∀ (f : Nat) (c9 : (List Int)) (c10 : Int) (r : ((List Int))), slices_Concat_L_int_2 x0 f c9 c10 = some r → SemN e_slices_Concat_L_int ⟨none, false⟩ (pc cb_slices_Concat_L_int [1, 1, 1, 1, 0, 1, 0, 0]) f ⟨Fr 36 [(6, .rf 0 0 c9.length c9.length), (25, .sl 1 (x0.map (cdL 1 cdI).enc)), (26, .v (.int .i64 (x0.length : Int))), (27, .v (.int .i64 c10))], [some ⟨1, 3, (c9.map cdI.enc), false⟩]⟩ (fun e s => e = (.exit 2) ∧ Wk e_slices_Concat_L_int s ⟨Fr 36 [(6, .rf 0 0 r.length r.length)], [some ⟨1, 3, (r.map cdI.enc), false⟩]⟩) := by
  intro f
  induction f with
  | zero => intro c9 c10 r h; cases h
  | succ f ih0 =>
    intro c9 c10 r h
    have ih := fun (c9 : (List Int)) (c10 : Int) => ih0 c9 c10 r
    unfold slices_Concat_L_int_2 at h
    refine SemN.succ ?_
    refine Sem.seq ?_
    refine Sem.runS (s1 := ⟨Fr 36 [(6, .rf 0 0 c9.length c9.length), (25, .sl 1 (x0.map (cdL 1 cdI).enc)), (26, .v (.int .i64 (x0.length : Int))), (27, .v (.int .i64 c10)), (28, .v (.bool (decide (c10 < (x0.length : Int)))))], [some ⟨1, 3, (c9.map cdI.enc), false⟩]⟩) ?_ ?_
    · refine RunS.segF (n := 36) e_slices_Concat_L_int_ok 1 [(6, .rf 0 0 c9.length c9.length), (25, .sl 1 (x0.map (cdL 1 cdI).enc)), (26, .v (.int .i64 (x0.length : Int))), (27, .v (.int .i64 c10)), (28, .v (.bool (decide (c10 < (x0.length : Int)))))] [some ⟨1, 3, (c9.map cdI.enc), false⟩] (by kernel_rfl) ?_
      exact RunS.done rfl (Wk.s3 [0] ⟨⟨_, rfl, bu_own⟩, trivial⟩ ⟨lv, lv, lv, lv, lv, trivial⟩)
    refine Sem.seq ?_
    refine Sem.cond (b := (decide (c10 < (x0.length : Int)))) (by kernel_rfl) (fun hb11 => ?_) (fun hb11 => ?_)
    · rw [if_pos hb11] at h
      refine Sem.skip ?_
      refine Sem.seq ?_
      refine Sem.block ?_
      refine Sem.seq ?_
      obtain ⟨v12, hv12, h⟩ := Option.bind_eq_some_iff.1 h
      refine Sem.runS (s1 := ⟨Fr 36 [(6, .rf 0 0 c9.length c9.length), (8, .sl 1 (v12.map cdI.enc)), (25, .sl 1 (x0.map (cdL 1 cdI).enc)), (26, .v (.int .i64 (x0.length : Int))), (27, .v (.int .i64 c10))], [some ⟨1, 3, (c9.map cdI.enc), false⟩]⟩) ?_ ?_
      · refine RunS.one e_slices_Concat_L_int_ok 0 rfl (op_q (wantedA_none rfl) rfl (q_indexAddr (a := .sl 1 (x0.map (cdL 1 cdI).enc)) (b := .v (.int .i64 c10)) (by kernel_rfl) (by kernel_rfl) (ix_sl (e := (cdL 1 cdI).enc) (el := 31) (k := 1) (ki := .i64) (by kernel_rfl) (by kernel_rfl) hv12))) ?_
        refine RunS.segF (n := 36) e_slices_Concat_L_int_ok 2 [(6, .rf 0 0 c9.length c9.length), (8, .sl 1 (v12.map cdI.enc)), (25, .sl 1 (x0.map (cdL 1 cdI).enc)), (26, .v (.int .i64 (x0.length : Int))), (27, .v (.int .i64 c10))] [some ⟨1, 3, (c9.map cdI.enc), false⟩] (by kernel_rfl) ?_
        exact RunS.done rfl (Wk.s3 [0] ⟨⟨_, rfl, bu_own⟩, trivial⟩ ⟨lv, lv, lv, lv, lv, trivial⟩)
      by_cases hk13 : (decide (0 < v12.length)) = true
      case neg => rw [if_neg hk13] at h; cases h
      rw [if_pos hk13] at h
      by_cases hk14 : (capOk 8 (c9.length + v12.length)) = true
      case neg => rw [if_neg hk14] at h; cases h
      rw [if_pos hk14] at h
      refine Sem.runS (s1 := ⟨Fr 36 [(6, .rf 0 0 (c9 ++ v12).length (c9 ++ v12).length), (25, .sl 1 (x0.map (cdL 1 cdI).enc)), (26, .v (.int .i64 (x0.length : Int))), (27, .v (.int .i64 c10))], [some ⟨1, 3, ((c9 ++ v12).map cdI.enc), false⟩]⟩) ?_ ?_
      · refine RunS.segF (n := 36) e_slices_Concat_L_int_ok 2 [(25, .sl 1 (x0.map (cdL 1 cdI).enc)), (26, .v (.int .i64 (x0.length : Int))), (27, .v (.int .i64 c10)), (31, .rf 0 0 c9.length c9.length), (32, .sl 1 (v12.map cdI.enc))] [some ⟨1, 3, (c9.map cdI.enc), false⟩] (by kernel_rfl) ?_
        refine RunS.one e_slices_Concat_L_int_ok 0 rfl (op_w (wantedA_none rfl) rfl (by kernel_rfl) (by kernel_rfl) (w_append (a := .rf 0 0 c9.length c9.length) (b := .sl 1 (v12.map cdI.enc)) (by kernel_rfl) (by kernel_rfl) (append_R (c := cdI) (xs := c9) (vs := v12) (k := 1) (bytes := 8) (el := 3) (by kernel_rfl) (by kernel_rfl) elems_sl (ne_pos hk13) (by kernel_rfl) hk14))) ?_
        refine RunS.segF (n := 36) e_slices_Concat_L_int_ok 1 [(6, .rf 1 0 (c9 ++ v12).length (c9 ++ v12).length), (25, .sl 1 (x0.map (cdL 1 cdI).enc)), (26, .v (.int .i64 (x0.length : Int))), (27, .v (.int .i64 c10))] [none, some ⟨1, 3, ((c9 ++ v12).map cdI.enc), false⟩] (by kernel_rfl) ?_
        exact RunS.done rfl (Wk.s3 [1] ⟨⟨_, rfl, bu_own⟩, trivial⟩ ⟨lv, lv, lv, lv, trivial⟩)
      refine Sem.runS (s1 := ⟨Fr 36 [(6, .rf 0 0 (c9 ++ v12).length (c9 ++ v12).length), (25, .sl 1 (x0.map (cdL 1 cdI).enc)), (26, .v (.int .i64 (x0.length : Int))), (27, .v (.int .i64 (wr .i64 (c10 + 1))))], [some ⟨1, 3, ((c9 ++ v12).map cdI.enc), false⟩]⟩) ?_ ?_
      · refine RunS.segF (n := 36) e_slices_Concat_L_int_ok 2 [(6, .rf 0 0 (c9 ++ v12).length (c9 ++ v12).length), (25, .sl 1 (x0.map (cdL 1 cdI).enc)), (26, .v (.int .i64 (x0.length : Int))), (27, .v (.int .i64 (wr .i64 (c10 + 1))))] [some ⟨1, 3, ((c9 ++ v12).map cdI.enc), false⟩] (by kernel_rfl) ?_
        exact RunS.done rfl (Wk.s3 [0] ⟨⟨_, rfl, bu_own⟩, trivial⟩ ⟨lv, lv, lv, lv, trivial⟩)
      exact SemN.wk (s1 := ⟨Fr 36 [(6, .rf 0 0 (c9 ++ v12).length (c9 ++ v12).length), (25, .sl 1 (x0.map (cdL 1 cdI).enc)), (26, .v (.int .i64 (x0.length : Int))), (27, .v (.int .i64 (wr .i64 (c10 + 1))))], [some ⟨1, 3, ((c9 ++ v12).map cdI.enc), false⟩]⟩) (Wk.s3 [0] ⟨⟨_, rfl, bu_own⟩, trivial⟩ ⟨lv, lv, lv, lv, trivial⟩) (ih (c9 ++ v12) (wr .i64 (c10 + 1)) h)
    · rw [if_f hb11] at h
      refine Sem.exit ?_
      have hq := Option.some.inj h; subst hq
      exact ⟨rfl, (Wk.s3 [0] ⟨⟨_, rfl, bu_own⟩, trivial⟩ ⟨lv, trivial⟩)⟩
set_option maxHeartbeats 4000000 in
set_option maxRecDepth 100000 in
theorem slices_Concat_L_int_sem (x0 : (List (List Int))) (r : (List Int)) (h : slices_Concat_L_int x0 = some r) : Sem e_slices_Concat_L_int ⟨none, false⟩ cb_slices_Concat_L_int ⟨Fr 36 (pairs0 0 (cs_slices_Concat_L_int.enc (x0, ()))), []⟩ fun e s' => (e = .normal ∨ e = .ret) ∧ ∃ xs, resA e_slices_Concat_L_int.P s'.fr s'.hp Tryd.f37.results.toList = some xs ∧ retA xs = er_slices_Concat_L_int r := by
  unfold slices_Concat_L_int at h
  refine Sem.wkQ (Sem.wk (s1 := ⟨Fr 36 [(0, .sl 1 (x0.map (cdL 1 cdI).enc))], []⟩) Wk.f1 ?_)
  refine Sem.seq ?_
  refine Sem.runS (s1 := ⟨Fr 36 [(0, .sl 1 (x0.map (cdL 1 cdI).enc))], []⟩) ?_ ?_
  · refine RunS.segF (n := 36) e_slices_Concat_L_int_ok 1 [(0, .sl 1 (x0.map (cdL 1 cdI).enc))] [] (by kernel_rfl) ?_
    exact RunS.done rfl Wk.f1
  refine Sem.seq ?_
  refine Sem.runS (s1 := ⟨Fr 36 [(0, .sl 1 (x0.map (cdL 1 cdI).enc)), (3, .v (.int .i64 0))], []⟩) ?_ ?_
  · refine RunS.segF (n := 36) e_slices_Concat_L_int_ok 1 [(0, .sl 1 (x0.map (cdL 1 cdI).enc)), (3, .v (.int .i64 0))] [] (by kernel_rfl) ?_
    exact RunS.done rfl Wk.f1
  refine Sem.seq ?_
  refine Sem.seq ?_
  refine Sem.runS (s1 := ⟨Fr 36 [(0, .sl 1 (x0.map (cdL 1 cdI).enc)), (3, .v (.int .i64 0)), (9, .sl 1 (x0.map (cdL 1 cdI).enc)), (10, .v (.int .i64 (x0.length : Int))), (11, .v (.int .i64 0))], []⟩) ?_ ?_
  · refine RunS.segF (n := 36) e_slices_Concat_L_int_ok 1 [(0, .sl 1 (x0.map (cdL 1 cdI).enc)), (3, .v (.int .i64 0)), (9, .sl 1 (x0.map (cdL 1 cdI).enc))] [] (by kernel_rfl) ?_
    refine RunS.one e_slices_Concat_L_int_ok 0 rfl (op_q (wantedA_none rfl) rfl (q_len (a := .sl 1 (x0.map (cdL 1 cdI).enc)) (by kernel_rfl) (len_sl (el := 31) (by kernel_rfl)))) ?_
    refine RunS.segF (n := 36) e_slices_Concat_L_int_ok 1 [(0, .sl 1 (x0.map (cdL 1 cdI).enc)), (3, .v (.int .i64 0)), (9, .sl 1 (x0.map (cdL 1 cdI).enc)), (10, .v (.int .i64 (x0.length : Int))), (11, .v (.int .i64 0))] [] (by kernel_rfl) ?_
    exact RunS.done rfl Wk.f1
  refine Sem.block ?_
  obtain ⟨r7, hr7, h⟩ := Option.bind_eq_some_iff.1 h
  refine Sem.loop (n := 100000) ?_
  refine Sem.cutN (SemN.wk (s1 := ⟨Fr 36 [(0, .sl 1 (x0.map (cdL 1 cdI).enc)), (3, .v (.int .i64 0)), (9, .sl 1 (x0.map (cdL 1 cdI).enc)), (10, .v (.int .i64 (x0.length : Int))), (11, .v (.int .i64 0))], []⟩) Wk.f1 (slices_Concat_L_int_1_ok x0 _ 0 0 _ hr7)) ?_
  refine Sem.seq ?_
  by_cases hk8 : (growOk r7) = true
  case neg => rw [if_neg hk8] at h; cases h
  rw [if_pos hk8] at h
  refine Sem.runS (s1 := ⟨Fr 36 [(0, .sl 1 (x0.map (cdL 1 cdI).enc)), (6, .rf 0 0 ([] : List Int).length ([] : List Int).length)], [some ⟨1, 3, (([] : List Int).map cdI.enc), false⟩]⟩) ?_ ?_
  · refine RunS.segF (n := 36) e_slices_Concat_L_int_ok 1 [(0, .sl 1 (x0.map (cdL 1 cdI).enc)), (23, .v (.int .i64 r7))] [] (by kernel_rfl) ?_
    refine RunS.grow (m := r7) rfl rfl hk8 rfl (wantedA_none rfl) (by kernel_rfl) (by kernel_rfl) ?_
    refine RunS.segF (n := 36) e_slices_Concat_L_int_ok 1 [(0, .sl 1 (x0.map (cdL 1 cdI).enc)), (6, .rf 0 0 0 0)] [some ⟨1, 3, (([] : List Int).map cdI.enc), false⟩] (by kernel_rfl) ?_
    exact RunS.done rfl (Wk.s3 [0] ⟨⟨_, rfl, bu_own⟩, trivial⟩ ⟨lv, lu_rl (b' := 0) (n := 0) (by kernel_rfl) (by simp) (by kernel_rfl), trivial⟩)
  refine Sem.seq ?_
  refine Sem.seq ?_
  refine Sem.runS (s1 := ⟨Fr 36 [(6, .rf 0 0 ([] : List Int).length ([] : List Int).length), (25, .sl 1 (x0.map (cdL 1 cdI).enc)), (26, .v (.int .i64 (x0.length : Int))), (27, .v (.int .i64 0))], [some ⟨1, 3, (([] : List Int).map cdI.enc), false⟩]⟩) ?_ ?_
  · refine RunS.segF (n := 36) e_slices_Concat_L_int_ok 1 [(6, .rf 0 0 ([] : List Int).length ([] : List Int).length), (25, .sl 1 (x0.map (cdL 1 cdI).enc))] [some ⟨1, 3, (([] : List Int).map cdI.enc), false⟩] (by kernel_rfl) ?_
    refine RunS.one e_slices_Concat_L_int_ok 0 rfl (op_q (wantedA_none rfl) rfl (q_len (a := .sl 1 (x0.map (cdL 1 cdI).enc)) (by kernel_rfl) (len_sl (el := 31) (by kernel_rfl)))) ?_
    refine RunS.segF (n := 36) e_slices_Concat_L_int_ok 1 [(6, .rf 0 0 ([] : List Int).length ([] : List Int).length), (25, .sl 1 (x0.map (cdL 1 cdI).enc)), (26, .v (.int .i64 (x0.length : Int))), (27, .v (.int .i64 0))] [some ⟨1, 3, (([] : List Int).map cdI.enc), false⟩] (by kernel_rfl) ?_
    exact RunS.done rfl (Wk.s3 [0] ⟨⟨_, rfl, bu_own⟩, trivial⟩ ⟨lv, lv, lv, lv, trivial⟩)
  refine Sem.block ?_
  obtain ⟨r16, hr16, h⟩ := Option.bind_eq_some_iff.1 h
  refine Sem.loop (n := 100000) ?_
  refine Sem.cutN (SemN.wk (s1 := ⟨Fr 36 [(6, .rf 0 0 ([] : List Int).length ([] : List Int).length), (25, .sl 1 (x0.map (cdL 1 cdI).enc)), (26, .v (.int .i64 (x0.length : Int))), (27, .v (.int .i64 0))], [some ⟨1, 3, (([] : List Int).map cdI.enc), false⟩]⟩) (Wk.s3 [0] ⟨⟨_, rfl, bu_own⟩, trivial⟩ ⟨lv, lv, lv, lv, trivial⟩) (slices_Concat_L_int_2_ok x0 _ ([] : List Int) 0 _ hr16)) ?_
  refine Sem.seq ?_
  refine Sem.runS (s1 := ⟨Fr 36 [(2, .rf 0 0 r16.length r16.length)], [some ⟨1, 3, (r16.map cdI.enc), false⟩]⟩) ?_ ?_
  · refine RunS.segF (n := 36) e_slices_Concat_L_int_ok 2 [(2, .rf 0 0 r16.length r16.length)] [some ⟨1, 3, (r16.map cdI.enc), false⟩] (by kernel_rfl) ?_
    exact RunS.done rfl (Wk.s3 [0] ⟨⟨_, rfl, bu_own⟩, trivial⟩ ⟨lv, trivial⟩)
  refine Sem.ret ?_
  have hq := Option.some.inj h; subst hq
  exact ⟨⟨Fr 36 [(2, .sl 1 (r16.map cdI.enc))], []⟩, (Wk.trans (s1 := ⟨Fr 36 [(2, .sl 1 (r16.map cdI.enc))], [none]⟩) (Wk.frzG 0 (.inl (by kernel_rfl)) ⟨.inl rfl, trivial⟩ ⟨⟨.rf 0 0 r16.length r16.length, (by kernel_rfl), fz_rlT (c := cdI) (xs := r16) (t := 3) (by kernel_rfl)⟩, trivial⟩) (Wk.s3 [] trivial ⟨lv, trivial⟩)), .inr rfl, [.sl 1 (r16.map cdI.enc)], (by kernel_rfl), (by kernel_rfl)⟩
def t_slices_Concat_L_int : List AV → Option AV := told cs_slices_Concat_L_int (fun a => slices_Concat_L_int a.1) er_slices_Concat_L_int
theorem x_slices_Concat_L_int : XOk 37 t_slices_Concat_L_int := by
  refine EnvOk.x (E := e_slices_Concat_L_int) (contract_ok e_slices_Concat_L_int_ok (fn := Tryd.f37) (c := cb_slices_Concat_L_int) ?h1 ?h2 ⟨Tryd.call37⟩ cs_slices_Concat_L_int (fun a => slices_Concat_L_int a.1) er_slices_Concat_L_int (fun a => (by show 1 ≤ 36; decide)) ?h3 ?h4) rfl rfl
  case h1 => kernel_rfl
  case h2 => kernel_rfl
  case h3 => intro b; kernel_rfl
  case h4 => exact fun a b h => slices_Concat_L_int_sem a.1 b h
/- cmp.isNaN[int] -/
noncomputable def e_cmp_isNaN_int : Env := E0
theorem e_cmp_isNaN_int_ok : EnvOk e_cmp_isNaN_int := E0_ok
noncomputable def cb_cmp_isNaN_int : Code := codeOf Tryd.f114
def cmp_isNaN_int (x0 : Int) : Option (Bool) :=
  some (x0 != x0)
def cs_cmp_isNaN_int : Cs (Int × Unit) := (csC cdI csN)
def er_cmp_isNaN_int (r : Bool) : AV := cdB.enc r
set_option maxHeartbeats 4000000 in
set_option maxRecDepth 100000 in
theorem cmp_isNaN_int_sem (x0 : Int) (r : Bool) (h : cmp_isNaN_int x0 = some r) : Sem e_cmp_isNaN_int ⟨none, false⟩ cb_cmp_isNaN_int ⟨Fr 6 (pairs0 0 (cs_cmp_isNaN_int.enc (x0, ()))), []⟩ fun e s' => (e = .normal ∨ e = .ret) ∧ ∃ xs, resA e_cmp_isNaN_int.P s'.fr s'.hp Tryd.f114.results.toList = some xs ∧ retA xs = er_cmp_isNaN_int r := by
  unfold cmp_isNaN_int at h
  refine Sem.wkQ (Sem.wk (s1 := ⟨Fr 6 [(0, .v (.int .i64 x0))], []⟩) Wk.f1 ?_)
  refine Sem.seq ?_
  refine Sem.runS (s1 := ⟨Fr 6 [(0, .v (.int .i64 x0))], []⟩) ?_ ?_
  · refine RunS.segF (n := 6) e_cmp_isNaN_int_ok 1 [(0, .v (.int .i64 x0))] [] (by kernel_rfl) ?_
    exact RunS.done rfl Wk.f1
  refine Sem.seq ?_
  refine Sem.runS (s1 := ⟨Fr 6 [(2, .v (.bool (x0 != x0)))], []⟩) ?_ ?_
  · refine RunS.segF (n := 6) e_cmp_isNaN_int_ok 4 [(2, .v (.bool (x0 != x0)))] [] (by kernel_rfl) ?_
    exact RunS.done rfl Wk.f1
  refine Sem.ret ?_
  have hq := Option.some.inj h; subst hq
  exact ⟨⟨Fr 6 [(2, .v (.bool (x0 != x0)))], []⟩, Wk.f1, .inr rfl, [.v (.bool (x0 != x0))], (by kernel_rfl), (by kernel_rfl)⟩
def t_cmp_isNaN_int : List AV → Option AV := told cs_cmp_isNaN_int (fun a => cmp_isNaN_int a.1) er_cmp_isNaN_int
theorem x_cmp_isNaN_int : XOk 114 t_cmp_isNaN_int := by
  refine EnvOk.x (E := e_cmp_isNaN_int) (contract_ok e_cmp_isNaN_int_ok (fn := Tryd.f114) (c := cb_cmp_isNaN_int) ?h1 ?h2 ⟨Tryd.call114⟩ cs_cmp_isNaN_int (fun a => cmp_isNaN_int a.1) er_cmp_isNaN_int (fun a => (by show 1 ≤ 6; decide)) ?h3 ?h4) rfl rfl
  case h1 => kernel_rfl
  case h2 => kernel_rfl
  case h3 => intro b; kernel_rfl
  case h4 => exact fun a b h => cmp_isNaN_int_sem a.1 b h
/- cmp.Less[int] -/
noncomputable def e_cmp_Less_int : Env := (E0.withX 114 t_cmp_isNaN_int)
theorem e_cmp_Less_int_ok : EnvOk e_cmp_Less_int := (EnvOk.withX E0_ok x_cmp_isNaN_int.1 x_cmp_isNaN_int.2)
noncomputable def cb_cmp_Less_int : Code := codeOf Tryd.f89
def cmp_Less_int (x0 : Int) (x1 : Int) : Option (Bool) :=
  (cmp_isNaN_int x0).bind fun v1 =>
  (if v1 = true then (cmp_isNaN_int x1).bind fun v2 =>
  if (!v2) = true then some true else some (decide (x0 < x1)) else some (decide (x0 < x1))).bind fun j4 =>
  some j4
def cs_cmp_Less_int : Cs (Int × Int × Unit) := (csC cdI (csC cdI csN))
def er_cmp_Less_int (r : Bool) : AV := cdB.enc r
set_option maxHeartbeats 4000000 in
set_option maxRecDepth 100000 in
theorem cmp_Less_int_sem (x0 : Int) (x1 : Int) (r : Bool) (h : cmp_Less_int x0 x1 = some r) : Sem e_cmp_Less_int ⟨none, false⟩ cb_cmp_Less_int ⟨Fr 17 (pairs0 0 (cs_cmp_Less_int.enc (x0, x1, ()))), []⟩ fun e s' => (e = .normal ∨ e = .ret) ∧ ∃ xs, resA e_cmp_Less_int.P s'.fr s'.hp Tryd.f89.results.toList = some xs ∧ retA xs = er_cmp_Less_int r := by
  unfold cmp_Less_int at h
  refine Sem.wkQ (Sem.wk (s1 := ⟨Fr 17 [(0, .v (.int .i64 x0)), (1, .v (.int .i64 x1))], []⟩) Wk.f1 ?_)
  refine Sem.seq ?_
  refine Sem.runS (s1 := ⟨Fr 17 [(0, .v (.int .i64 x0)), (1, .v (.int .i64 x1))], []⟩) ?_ ?_
  · refine RunS.segF (n := 17) e_cmp_Less_int_ok 1 [(0, .v (.int .i64 x0)), (1, .v (.int .i64 x1))] [] (by kernel_rfl) ?_
    exact RunS.done rfl Wk.f1
  refine Sem.seq ?_
  obtain ⟨v1, hv1, h⟩ := Option.bind_eq_some_iff.1 h
  obtain ⟨j4, hj4, h⟩ := Option.bind_eq_some_iff.1 h
  refine Sem.runS (s1 := ⟨Fr 17 [(4, .v (.bool j4))], []⟩) ?_ ?_
  · refine RunS.segF (n := 17) e_cmp_Less_int_ok 1 [(0, .v (.int .i64 x0)), (1, .v (.int .i64 x1)), (5, .v (.int .i64 x0))] [] (by kernel_rfl) ?_
    refine RunS.call e_cmp_Less_int_ok (fid := 114) (s := cs_cmp_isNaN_int) (F := fun a => cmp_isNaN_int a.1) (er := er_cmp_isNaN_int) (xs := [.v (.int .i64 x0)]) (a := (x0, ())) rfl (wantedA_none rfl) (by kernel_rfl) (by kernel_rfl) (by kernel_rfl) (by kernel_rfl) (Sns.cons (Sn.enc (c := cdI) (v := x0)) Sns.nil) (.inl (by kernel_rfl)) hv1 ?_
    refine RunS.segF (n := 17) e_cmp_Less_int_ok 1 [(0, .v (.int .i64 x0)), (1, .v (.int .i64 x1)), (7, .v (.bool v1))] [] (by kernel_rfl) ?_
    rcases Bool.eq_false_or_eq_true v1 with hc5 | hc5
    · rw [if_pos hc5] at hj4
      rw [hc5]
      refine RunS.segF (n := 17) e_cmp_Less_int_ok 1 [(0, .v (.int .i64 x0)), (1, .v (.int .i64 x1)), (7, .v (.bool true)), (8, .v (.int .i64 x1))] [] (by kernel_rfl) ?_
      obtain ⟨v2, hv2, hj4⟩ := Option.bind_eq_some_iff.1 hj4
      refine RunS.call e_cmp_Less_int_ok (fid := 114) (s := cs_cmp_isNaN_int) (F := fun a => cmp_isNaN_int a.1) (er := er_cmp_isNaN_int) (xs := [.v (.int .i64 x1)]) (a := (x1, ())) rfl (by kernel_rfl) (by kernel_rfl) (by kernel_rfl) (by kernel_rfl) (by kernel_rfl) (Sns.cons (Sn.enc (c := cdI) (v := x1)) Sns.nil) (.inl (by kernel_rfl)) hv2 ?_
      refine RunS.segF (n := 17) e_cmp_Less_int_ok 3 [(0, .v (.int .i64 x0)), (1, .v (.int .i64 x1)), (12, .v (.bool (!v2)))] [] (by kernel_rfl) ?_
      rcases Bool.eq_false_or_eq_true (!v2) with hc6 | hc6
      · rw [if_pos hc6] at hj4
        rw [hc6]
        refine RunS.segF (n := 17) e_cmp_Less_int_ok 5 [(4, .v (.bool true))] [] (by kernel_rfl) ?_
        have hq := Option.some.inj hj4; subst hq
        exact RunS.done rfl Wk.f1
      · rw [if_f hc6] at hj4
        rw [hc6]
        refine RunS.segF (n := 17) e_cmp_Less_int_ok 5 [(4, .v (.bool (decide (x0 < x1))))] [] (by kernel_rfl) ?_
        have hq := Option.some.inj hj4; subst hq
        exact RunS.done rfl Wk.f1
    · rw [if_f hc5] at hj4
      rw [hc5]
      refine RunS.segF (n := 17) e_cmp_Less_int_ok 10 [(4, .v (.bool (decide (x0 < x1))))] [] (by kernel_rfl) ?_
      have hq := Option.some.inj hj4; subst hq
      exact RunS.done rfl Wk.f1
  refine Sem.ret ?_
  have hq := Option.some.inj h; subst hq
  exact ⟨⟨Fr 17 [(4, .v (.bool j4))], []⟩, Wk.f1, .inr rfl, [.v (.bool j4)], (by kernel_rfl), (by kernel_rfl)⟩
def t_cmp_Less_int : List AV → Option AV := told cs_cmp_Less_int (fun a => cmp_Less_int a.1 a.2.1) er_cmp_Less_int
theorem x_cmp_Less_int : XOk 89 t_cmp_Less_int := by
  refine EnvOk.x (E := e_cmp_Less_int) (contract_ok e_cmp_Less_int_ok (fn := Tryd.f89) (c := cb_cmp_Less_int) ?h1 ?h2 ⟨Tryd.call89⟩ cs_cmp_Less_int (fun a => cmp_Less_int a.1 a.2.1) er_cmp_Less_int (fun a => (by show 2 ≤ 17; decide)) ?h3 ?h4) rfl rfl
  case h1 => kernel_rfl
  case h2 => kernel_rfl
  case h3 => intro b; kernel_rfl
  case h4 => exact fun a b h => cmp_Less_int_sem a.1 a.2.1 b h
/- slices.IsSorted[[]int,int] -/
noncomputable def e_slices_IsSorted_L_int : Env := (E0.withX 89 t_cmp_Less_int)
theorem e_slices_IsSorted_L_int_ok : EnvOk e_slices_IsSorted_L_int := (EnvOk.withX E0_ok x_cmp_Less_int.1 x_cmp_Less_int.2)
noncomputable def cb_slices_IsSorted_L_int : Code := codeOf Tryd.f36
def slices_IsSorted_L_int_1 (x0 : (List Int)) : Nat → Int → Option ((Unit) ⊕ (Bool))
  | 0, _ => none
  | f + 1, c1 =>
    if (decide (c1 > 0)) = true then
    (idx x0 c1).bind fun v3 =>
    (idx x0 (wr .i64 (c1 - 1))).bind fun v4 =>
    (cmp_Less_int v3 v4).bind fun v5 =>
    if v5 = true then
    some (.inr false)
    else
    slices_IsSorted_L_int_1 x0 f (wr .i64 (c1 - 1))
    else
    some (.inl ())
def slices_IsSorted_L_int (x0 : (List Int)) : Option (Bool) :=
  (slices_IsSorted_L_int_1 x0 100000 (wr .i64 ((x0.length : Int) - 1))).bind fun r8 =>
  match r8 with
  | (.inl w9) =>
    some true
  | (.inr w10) =>
    some w10
def cs_slices_IsSorted_L_int : Cs ((List Int) × Unit) := (csC (cdL 1 cdI) csN)
def er_slices_IsSorted_L_int (r : Bool) : AV := cdB.enc r
set_option maxHeartbeats 4000000 in
set_option maxRecDepth 100000 in
theorem slices_IsSorted_L_int_1_ok (x0 : (List Int)) : ∀ (f : Nat) (c1 : Int) (r : (Unit) ⊕ (Bool)), slices_IsSorted_L_int_1 x0 f c1 = some r → SemN e_slices_IsSorted_L_int ⟨none, false⟩ (pc cb_slices_IsSorted_L_int [1, 0, 1, 0, 0]) f ⟨Fr 21 [(0, .sl 1 (x0.map cdI.enc)), (3, .v (.int .i64 c1))], []⟩ (fun e s => match r with
  | (.inl w) => e = (.exit 0) ∧ Wk e_slices_IsSorted_L_int s ⟨Fr 21 [], []⟩
  | (.inr w) => e = .ret ∧ Wk e_slices_IsSorted_L_int s ⟨Fr 21 [(2, .v (.bool w))], []⟩) := by
  intro f
  induction f with
  | zero => intro c1 r h; cases h
  | succ f ih0 =>
    intro c1 r h
    have ih := fun (c1 : Int) => ih0 c1 r
    unfold slices_IsSorted_L_int_1 at h
    refine SemN.succ ?_
    refine Sem.seq ?_
    refine Sem.seq ?_
    refine Sem.runS (s1 := ⟨Fr 21 [(0, .sl 1 (x0.map cdI.enc)), (3, .v (.int .i64 c1)), (8, .v (.bool (decide (c1 > 0))))], []⟩) ?_ ?_
    · refine RunS.segF (n := 21) e_slices_IsSorted_L_int_ok 2 [(0, .sl 1 (x0.map cdI.enc)), (3, .v (.int .i64 c1)), (8, .v (.bool (decide (c1 > 0))))] [] (by kernel_rfl) ?_
      exact RunS.done rfl Wk.f1
    refine Sem.cond (b := (decide (c1 > 0))) (by kernel_rfl) (fun hb2 => ?_) (fun hb2 => ?_)
    · rw [if_pos hb2] at h
      refine Sem.skip ?_
      refine Sem.seq ?_
      refine Sem.block ?_
      refine Sem.seq ?_
      obtain ⟨v3, hv3, h⟩ := Option.bind_eq_some_iff.1 h
      obtain ⟨v4, hv4, h⟩ := Option.bind_eq_some_iff.1 h
      obtain ⟨v5, hv5, h⟩ := Option.bind_eq_some_iff.1 h
      refine Sem.runDS e_slices_IsSorted_L_int_ok (s1 := ⟨Fr 21 [(0, .sl 1 (x0.map cdI.enc)), (3, .v (.int .i64 c1)), (20, .v (.bool v5))], []⟩) (by kernel_rfl) ?_ ?_
      · refine RunDS.segF (n := 21) e_slices_IsSorted_L_int_ok 2 [(0, .sl 1 (x0.map cdI.enc)), (3, .v (.int .i64 c1)), (11, .sl 1 (x0.map cdI.enc)), (12, .v (.int .i64 c1))] [] (by kernel_rfl) (by kernel_rfl) ?_
        refine RunDS.one e_slices_IsSorted_L_int_ok rfl (by kernel_rfl) (opd_q (by kernel_rfl) (wantedA_none rfl) rfl (q_indexAddr (a := .sl 1 (x0.map cdI.enc)) (b := .v (.int .i64 c1)) (by kernel_rfl) (by kernel_rfl) (ix_sl (e := cdI.enc) (el := 3) (k := 1) (ki := .i64) (by kernel_rfl) (by kernel_rfl) hv3)) (by kernel_rfl)) ?_
        refine RunDS.segF (n := 21) e_slices_IsSorted_L_int_ok 4 [(0, .sl 1 (x0.map cdI.enc)), (3, .v (.int .i64 c1)), (14, .v (.int .i64 v3)), (15, .sl 1 (x0.map cdI.enc)), (17, .v (.int .i64 (wr .i64 (c1 - 1))))] [] (by kernel_rfl) (by kernel_rfl) ?_
        refine RunDS.one e_slices_IsSorted_L_int_ok rfl (by kernel_rfl) (opd_q (by kernel_rfl) (wantedA_none rfl) rfl (q_indexAddr (a := .sl 1 (x0.map cdI.enc)) (b := .v (.int .i64 (wr .i64 (c1 - 1)))) (by kernel_rfl) (by kernel_rfl) (ix_sl (e := cdI.enc) (el := 3) (k := 1) (ki := .i64) (by kernel_rfl) (by kernel_rfl) hv4)) (by kernel_rfl)) ?_
        refine RunDS.segF (n := 21) e_slices_IsSorted_L_int_ok 1 [(0, .sl 1 (x0.map cdI.enc)), (3, .v (.int .i64 c1)), (14, .v (.int .i64 v3)), (19, .v (.int .i64 v4))] [] (by kernel_rfl) (by kernel_rfl) ?_
        refine RunDS.call e_slices_IsSorted_L_int_ok (fid := 89) (s := cs_cmp_Less_int) (F := fun a => cmp_Less_int a.1 a.2.1) (er := er_cmp_Less_int) (xs := [.v (.int .i64 v3), .v (.int .i64 v4)]) (a := (v3, v4, ())) rfl (wantedA_none rfl) (by kernel_rfl) (by kernel_rfl) (by kernel_rfl) (Sns.cons (Sn.enc (c := cdI) (v := v3)) (Sns.cons (Sn.enc (c := cdI) (v := v4)) Sns.nil)) (by kernel_rfl) hv5 ?_
        exact RunDS.done rfl Wk.f1
      refine Sem.cond (b := v5) (by kernel_rfl) (fun hb6 => ?_) (fun hb6 => ?_)
      · rw [if_pos hb6] at h
        refine Sem.seq ?_
        refine Sem.runS (s1 := ⟨Fr 21 [(2, .v (.bool false))], []⟩) ?_ ?_
        · refine RunS.segF (n := 21) e_slices_IsSorted_L_int_ok 1 [(2, .v (.bool false))] [] (by kernel_rfl) ?_
          exact RunS.done rfl Wk.f1
        refine Sem.ret ?_
        have hq := Option.some.inj h; subst hq
        exact ⟨rfl, Wk.f1⟩
      · rw [if_f hb6] at h
        refine Sem.skip ?_
        refine Sem.runS (s1 := ⟨Fr 21 [(0, .sl 1 (x0.map cdI.enc)), (3, .v (.int .i64 (wr .i64 (c1 - 1))))], []⟩) ?_ ?_
        · refine RunS.segF (n := 21) e_slices_IsSorted_L_int_ok 3 [(0, .sl 1 (x0.map cdI.enc)), (3, .v (.int .i64 (wr .i64 (c1 - 1))))] [] (by kernel_rfl) ?_
          exact RunS.done rfl Wk.f1
        exact SemN.wk (s1 := ⟨Fr 21 [(0, .sl 1 (x0.map cdI.enc)), (3, .v (.int .i64 (wr .i64 (c1 - 1))))], []⟩) Wk.f1 (ih (wr .i64 (c1 - 1)) h)
    · rw [if_f hb2] at h
      refine Sem.exit ?_
      have hq := Option.some.inj h; subst hq
      exact ⟨rfl, Wk.f1⟩
set_option maxHeartbeats 4000000 in
set_option maxRecDepth 100000 in
theorem slices_IsSorted_L_int_sem (x0 : (List Int)) (r : Bool) (h : slices_IsSorted_L_int x0 = some r) : Sem e_slices_IsSorted_L_int ⟨none, false⟩ cb_slices_IsSorted_L_int ⟨Fr 21 (pairs0 0 (cs_slices_IsSorted_L_int.enc (x0, ()))), []⟩ fun e s' => (e = .normal ∨ e = .ret) ∧ ∃ xs, resA e_slices_IsSorted_L_int.P s'.fr s'.hp Tryd.f36.results.toList = some xs ∧ retA xs = er_slices_IsSorted_L_int r := by
  unfold slices_IsSorted_L_int at h
  refine Sem.wkQ (Sem.wk (s1 := ⟨Fr 21 [(0, .sl 1 (x0.map cdI.enc))], []⟩) Wk.f1 ?_)
  refine Sem.seq ?_
  refine Sem.runS (s1 := ⟨Fr 21 [(0, .sl 1 (x0.map cdI.enc))], []⟩) ?_ ?_
  · refine RunS.segF (n := 21) e_slices_IsSorted_L_int_ok 1 [(0, .sl 1 (x0.map cdI.enc))] [] (by kernel_rfl) ?_
    exact RunS.done rfl Wk.f1
  refine Sem.seq ?_
  refine Sem.seq ?_
  refine Sem.runS (s1 := ⟨Fr 21 [(0, .sl 1 (x0.map cdI.enc)), (3, .v (.int .i64 (wr .i64 ((x0.length : Int) - 1))))], []⟩) ?_ ?_
  · refine RunS.segF (n := 21) e_slices_IsSorted_L_int_ok 1 [(0, .sl 1 (x0.map cdI.enc)), (4, .sl 1 (x0.map cdI.enc))] [] (by kernel_rfl) ?_
    refine RunS.one e_slices_IsSorted_L_int_ok 0 rfl (op_q (wantedA_none rfl) rfl (q_len (a := .sl 1 (x0.map cdI.enc)) (by kernel_rfl) (len_sl (el := 3) (by kernel_rfl)))) ?_
    refine RunS.segF (n := 21) e_slices_IsSorted_L_int_ok 2 [(0, .sl 1 (x0.map cdI.enc)), (3, .v (.int .i64 (wr .i64 ((x0.length : Int) - 1))))] [] (by kernel_rfl) ?_
    exact RunS.done rfl Wk.f1
  refine Sem.block ?_
  obtain ⟨r8, hr8, h⟩ := Option.bind_eq_some_iff.1 h
  refine Sem.loop (n := 100000) ?_
  rcases r8 with w9 | w10
  · try dsimp only at h
    refine Sem.cutN (SemN.wk (s1 := ⟨Fr 21 [(0, .sl 1 (x0.map cdI.enc)), (3, .v (.int .i64 (wr .i64 ((x0.length : Int) - 1))))], []⟩) Wk.f1 (slices_IsSorted_L_int_1_ok x0 _ (wr .i64 ((x0.length : Int) - 1)) _ hr8)) ?_
    refine Sem.seq ?_
    refine Sem.runS (s1 := ⟨Fr 21 [(2, .v (.bool true))], []⟩) ?_ ?_
    · refine RunS.segF (n := 21) e_slices_IsSorted_L_int_ok 1 [(2, .v (.bool true))] [] (by kernel_rfl) ?_
      exact RunS.done rfl Wk.f1
    refine Sem.ret ?_
    have hq := Option.some.inj h; subst hq
    exact ⟨⟨Fr 21 [(2, .v (.bool true))], []⟩, Wk.f1, .inr rfl, [.v (.bool true)], (by kernel_rfl), (by kernel_rfl)⟩
  · try dsimp only at h
    refine Sem.cutN (SemN.wk (s1 := ⟨Fr 21 [(0, .sl 1 (x0.map cdI.enc)), (3, .v (.int .i64 (wr .i64 ((x0.length : Int) - 1))))], []⟩) Wk.f1 (slices_IsSorted_L_int_1_ok x0 _ (wr .i64 ((x0.length : Int) - 1)) _ hr8)) ?_
    have hq := Option.some.inj h; subst hq
    exact ⟨⟨Fr 21 [(2, .v (.bool w10))], []⟩, Wk.f1, .inr rfl, [.v (.bool w10)], (by kernel_rfl), (by kernel_rfl)⟩
def t_slices_IsSorted_L_int : List AV → Option AV := told cs_slices_IsSorted_L_int (fun a => slices_IsSorted_L_int a.1) er_slices_IsSorted_L_int
theorem x_slices_IsSorted_L_int : XOk 36 t_slices_IsSorted_L_int := by
  refine EnvOk.x (E := e_slices_IsSorted_L_int) (contract_ok e_slices_IsSorted_L_int_ok (fn := Tryd.f36) (c := cb_slices_IsSorted_L_int) ?h1 ?h2 ⟨Tryd.call36⟩ cs_slices_IsSorted_L_int (fun a => slices_IsSorted_L_int a.1) er_slices_IsSorted_L_int (fun a => (by show 1 ≤ 21; decide)) ?h3 ?h4) rfl rfl
  case h1 => kernel_rfl
  case h2 => kernel_rfl
  case h3 => intro b; kernel_rfl
  case h4 => exact fun a b h => slices_IsSorted_L_int_sem a.1 b h
/- trestle/evening.valid -/
noncomputable def e_evening_valid : Env := (E0.withX 27 t_evening_Check)
theorem e_evening_valid_ok : EnvOk e_evening_valid := (EnvOk.withX E0_ok x_evening_Check.1 x_evening_Check.2)
noncomputable def cb_evening_valid : Code := codeOf Tryd.f50
def evening_valid (x0 : Int) (x1 : (List (List (List Int)))) : Option (Bool) :=
  (evening_Check x0 [] x1).bind fun v1 =>
  some (v1.2 == 0)
def cs_evening_valid : Cs (Int × (List (List (List Int))) × Unit) := (csC cdI (csC (cdL 1 (cdL 1 (cdL 1 cdI))) csN))
def er_evening_valid (r : Bool) : AV := cdB.enc r
set_option maxHeartbeats 4000000 in
set_option maxRecDepth 100000 in
theorem evening_valid_sem (x0 : Int) (x1 : (List (List (List Int)))) (r : Bool) (h : evening_valid x0 x1 = some r) : Sem e_evening_valid ⟨none, false⟩ cb_evening_valid ⟨Fr 15 (pairs0 0 (cs_evening_valid.enc (x0, x1, ()))), []⟩ fun e s' => (e = .normal ∨ e = .ret) ∧ ∃ xs, resA e_evening_valid.P s'.fr s'.hp Tryd.f50.results.toList = some xs ∧ retA xs = er_evening_valid r := by
  unfold evening_valid at h
  refine Sem.wkQ (Sem.wk (s1 := ⟨Fr 15 [(0, .v (.int .i64 x0)), (1, .sl 1 (x1.map (cdL 1 (cdL 1 cdI)).enc))], []⟩) Wk.f1 ?_)
  refine Sem.seq ?_
  refine Sem.runS (s1 := ⟨Fr 15 [(0, .v (.int .i64 x0)), (1, .sl 1 (x1.map (cdL 1 (cdL 1 cdI)).enc))], []⟩) ?_ ?_
  · refine RunS.segF (n := 15) e_evening_valid_ok 1 [(0, .v (.int .i64 x0)), (1, .sl 1 (x1.map (cdL 1 (cdL 1 cdI)).enc))] [] (by kernel_rfl) ?_
    exact RunS.done rfl Wk.f1
  refine Sem.seq ?_
  obtain ⟨v1, hv1, h⟩ := Option.bind_eq_some_iff.1 h
  refine Sem.runS (s1 := ⟨Fr 15 [(6, .v (.int .i64 v1.2))], []⟩) ?_ ?_
  · refine RunS.segF (n := 15) e_evening_valid_ok 2 [(8, .v (.int .i64 x0)), (9, .sl 1 (x1.map (cdL 1 (cdL 1 cdI)).enc))] [] (by kernel_rfl) ?_
    refine RunS.call e_evening_valid_ok (fid := 27) (s := cs_evening_Check) (F := fun a => evening_Check a.1 a.2.1 a.2.2.1) (er := er_evening_Check) (xs := [.v (.int .i64 x0), .e0, .sl 1 (x1.map (cdL 1 (cdL 1 cdI)).enc)]) (a := (x0, [], x1, ())) rfl (wantedA_none rfl) (by kernel_rfl) (by kernel_rfl) (by kernel_rfl) (by kernel_rfl) (Sns.cons (Sn.enc (c := cdI) (v := x0)) (Sns.cons Sn.e0 (Sns.cons (Sn.enc (c := (cdL 1 (cdL 1 (cdL 1 cdI)))) (v := x1)) Sns.nil))) (.inl (by kernel_rfl)) hv1 ?_
    refine RunS.segF (n := 15) e_evening_valid_ok 5 [(6, .v (.int .i64 v1.2))] [] (by kernel_rfl) ?_
    exact RunS.done rfl Wk.f1
  refine Sem.seq ?_
  refine Sem.runS (s1 := ⟨Fr 15 [(4, .v (.bool (v1.2 == 0)))], []⟩) ?_ ?_
  · refine RunS.segF (n := 15) e_evening_valid_ok 3 [(4, .v (.bool (v1.2 == 0)))] [] (by kernel_rfl) ?_
    exact RunS.done rfl Wk.f1
  refine Sem.ret ?_
  have hq := Option.some.inj h; subst hq
  exact ⟨⟨Fr 15 [(4, .v (.bool (v1.2 == 0)))], []⟩, Wk.f1, .inr rfl, [.v (.bool (v1.2 == 0))], (by kernel_rfl), (by kernel_rfl)⟩
def t_evening_valid : List AV → Option AV := told cs_evening_valid (fun a => evening_valid a.1 a.2.1) er_evening_valid
theorem x_evening_valid : XOk 50 t_evening_valid := by
  refine EnvOk.x (E := e_evening_valid) (contract_ok e_evening_valid_ok (fn := Tryd.f50) (c := cb_evening_valid) ?h1 ?h2 ⟨Tryd.call50⟩ cs_evening_valid (fun a => evening_valid a.1 a.2.1) er_evening_valid (fun a => (by show 2 ≤ 15; decide)) ?h3 ?h4) rfl rfl
  case h1 => kernel_rfl
  case h2 => kernel_rfl
  case h3 => intro b; kernel_rfl
  case h4 => exact fun a b h => evening_valid_sem a.1 a.2.1 b h
end Go.Proofs.YtcmgmkepodbpkaaDoor
namespace Go.Proofs.YtcmgmkepodbpkaaDoor
/-! ## Fields -/
theorem mul_bd {a b A B : Int} (h0 : 0 ≤ a) (h1 : a ≤ A) (h2 : 0 ≤ b) (h3 : b ≤ B) : 0 ≤ a * b ∧ a * b ≤ A * B :=
  ⟨Int.mul_nonneg h0 h2, Int.mul_le_mul h1 h3 h2 (by omega)⟩
/-! ## Products -/
/-! ## The reference's fields -/
set_option linter.unusedSimpArgs false
set_option linter.unusedVariables false
set_option linter.unusedSimpArgs false
set_option linter.unusedVariables false
set_option linter.unusedSimpArgs false
set_option linter.unusedVariables false
set_option maxRecDepth 100000 in
theorem atZ_ok (n x y : Int) (a0 : Addr) (L c : Nat) (w : World) (hn : 0 ≤ n ∧ n ≤ 64) (hx : 0 ≤ x ∧ x < n) (hy : 0 ≤ y ∧ y < n) (hl : x * n + y < (L : Int)) : Ret Tryd.prog 73 #[.agg #[.int .i64 n, .slice (some a0) L c], .int .i64 x, .int .i64 y] w fun v w' => w.grownBy w' none ∧ v = .pointer (some (Addr.add a0 ((x * n + y).toNat * 1))) := by
  refine ret_in Tryd.func73 rfl rfl rfl ?_
  have pw := pu_refl w
  have h1 := mul_bd hx.1 (show x ≤ n - 1 by omega) hn.1 (Int.le_refl n)
  rw [Int.sub_mul, Int.one_mul] at h1
  have h2 := mul_bd hn.1 hn.2 hn.1 hn.2
  refine wc_seq ?_
  refine wc_region ?_
  refine wl_boxG (cs := [.int .i64 (n), .slice (some a0) L c]) rfl rfl ?_
  intro w2 g1 hg3 hs4 hb5 hn6
  have pw := pu_trans pw hn6
  refine wl_v (st_assign (v := .pointer none) rfl) rfl rfl rfl ?_
  refine wl_nil ?_
  refine wq_then ?_
  refine wc_seq ?_
  refine wc_region ?_
  refine wl_v (st_fieldAddr ty94 (ft := 31) (off := 1) (by kernel_rfl) ty31 rfl) rfl rfl rfl ?_
  refine wl_v (st_load (v := .slice (some a0) L c) ty31 rfl rfl (Bk.cell hb5 (i := 1) rfl)) rfl rfl rfl ?_
  refine wl_v (st_move (v := .int .i64 (x)) rfl) rfl rfl rfl ?_
  refine wl_v (st_fieldAddr ty94 (ft := 3) (off := 0) (by kernel_rfl) ty3 rfl) rfl rfl rfl ?_
  refine wl_v (st_load (v := .int .i64 (n)) ty3 rfl rfl (Bk.cell hb5 (i := 0) rfl)) rfl rfl rfl ?_
  refine wl_v (st_mul rfl rfl (by omega) (by omega)) rfl rfl rfl ?_
  refine wl_v (st_move (v := .int .i64 (y)) rfl) rfl rfl rfl ?_
  refine wl_v (st_add rfl rfl (by omega) (by omega)) rfl rfl rfl ?_
  refine wl_v (st_indexAddr ((x * n) + y).toNat ty31 ty3 rfl rfl (by omega) (by omega)) rfl rfl rfl ?_
  refine wl_v (st_assign (v := .pointer (some (Addr.add a0 (((x * n) + y).toNat * 1)))) rfl) rfl rfl rfl ?_
  refine wl_nil ?_
  refine wq_then ?_
  refine wc_ret ?_
  refine wq_ret1 (v := .pointer (some (Addr.add a0 (((x * n) + y).toNat * 1)))) rfl rfl rfl ?_
  exact ⟨pw, rfl⟩
/-- What is told of a function that only looks: the frozen memory is that of before. -/
def POk (f : FuncId) (g : List AV → Option AV) : Prop := Callable E0.P f ∧ ∀ xs x, g xs = some x → ∀ w Z us, (∀ c, Z c → c < w.heap.size) → VRs w Z [] xs us → Ret E0.P f us.toArray w fun v w' => w.grownBy w' none ∧ VR w' Z [] x v
theorem vr_nil {w : World} {Z : Nat → Prop} {R : List RI} {x : AV} {v : Value} (hv : VR w Z [] x v) (hnx : noRf x = true) : VR w Z R x v := by
  cases hv with
  | v h => exact .v h
  | st h hn => exact .st h hn
  | e0 => exact .e0
  | sl hn hl hc hm ha hx => exact .sl hn hl hc hm ha hx
  | pe hs h3 h1 hu hx => exact .pe hs h3 h1 hu hx
  | _ => simp [noRf] at hnx
section
variable {E : Env} {ops : Array Oper} {rest rest' : List Oper} {K : St → Prop} {n n0 k : Nat} {l : List (Nat × AV)} {hp : Hp}
theorem RunDS.peek (hP : E.P = E0.P) {α β : Type} {s : Cs α} {F : α → Option β} {er : β → AV} {u : α} {v : β} {fid : FuncId} (hX : POk fid (told s F er)) {d : Nat} {f : Operand} {args : Array Operand} {tys : Array TypeId} {ty : TypeId} {pos : String} {af : Array Edge} {g : Option (Nat × Bool)} (hr : rest = ⟨some d, .call ⟨.value f, args, tys⟩, ty, pos, af, g⟩ :: rest') (hw : wantedA ops (Fr n l) ⟨some d, .call ⟨.value f, args, tys⟩, ty, pos, af, g⟩ = some true)
    (hf : opA E (Fr n l) f = some (.fn fid [] [])) (ha : opds (opA E (Fr n l)) args.toList = some (s.enc u)) (hnx : noRf (er v) = true) (hF : F u = some v) (kk : RunDS E ops n0 (k + 1) rest' ⟨Fr n ((d, er v) :: l), hp⟩ K) : RunDS E ops n0 k rest ⟨Fr n l, hp⟩ K := by
  subst hr
  intro base Q w0 Z R0 h0 a w R hh0 hn0 hT sr hgr st hpre hTk hlen hops q
  have hok : ops[k]? = some ⟨some d, .call ⟨.value f, args, tys⟩, ty, pos, af, g⟩ := by have := hops 0; simpa using this.symm
  have hops' : ∀ j, rest'[j]? = ops[k + 1 + j]? := fun j => by have := hops (j + 1); simpa [Nat.add_assoc, Nat.add_comm 1 j] using this
  have hlen' : k + 1 + rest'.length = ops.size := by simp at hlen ⊢; omega
  have hTk' : tailAt ops = tailGo rest' (k + 1) := by
    rw [hTk]
    conv => lhs; unfold tailGo; rw [if_neg (by simp [isW])]
  refine ⟨fun _ => hgr, ?_⟩
  rw [if_pos (wantedA_eq sr hw)]
  have hq : isQ (.call ⟨.value f, args, tys⟩ : Op) = false := rfl
  rw [if_pos (by simp [hok, hq])]
  have hρ : ∀ o x, opA E (Fr n l) o = some x → VR w Z R x (a.eval o) := fun o x e => opA_vr sr o x e
  have hva : a.eval f = .func (.func fid) #[] #[] := by
    have := hρ _ _ hf
    generalize a.eval f = vf at this
    cases this with
    | fn hl hl' hx hy =>
      rename_i u1 u2
      have e1 : u1 = [] := by simpa using hl
      have e2 : u2 = [] := by simpa using hl'
      subst e1 e2; rfl
  have hcl : Callable E.P fid := hP ▸ hX.1
  unfold Lw
  rw [run_call (uf := []) (uc := []) rfl hva rfl hcl w]
  simp only [List.nil_append, List.append_nil]
  have hret := hX.2 (s.enc u) (er v) (told_enc hF) w Z _ sr.hh.zlt (noRfs_vr (s.nr u) (opds_vr hρ ha))
  rw [← hP] at hret
  refine Ret.mono hret fun v w' ⟨hg1, hv⟩ => ?_
  have stp : Step w Z R hp w' Z R hp := ⟨hg1.os, hg1.tape, hg1.output, hg1.size, fun c hc _ => hg1.block c hc (by simp), fun _ h => .inl h, fun _ h => h, fun _ h => .inl h, fun _ _ h => h⟩
  have hh' : HR w' Z R hp := sr.hh.keep hg1.size (fun c hc => hg1.block c hc (by simp))
  have sr' : SR E base w' Z R ⟨Fr n l, hp⟩ a := sr.step hh' stp
  exact kk base Q w0 Z R0 h0 _ w' R hh0 hn0 hT (by have := sr'.put (d := some d) (vr_nil hv hnx); rwa [putA_Fr] at this) (pu_trans hgr hg1) (st.trans stp) hpre hTk' hlen' hops' q
end
def square_at (s : Int × List Int) (x y : Int) : Option Int := if 0 ≤ s.1 ∧ s.1 ≤ 64 ∧ 0 ≤ x ∧ x < s.1 ∧ 0 ≤ y ∧ y < s.1 then idx s.2 (x * s.1 + y) else none
def cs_square_at : Cs ((Int × List Int) × Int × Int × Unit) := (csC (cdG2 cdI (cdL 1 cdI) (fun _ => rfl) (fun _ => rfl)) (csC cdI (csC cdI csN)))
def er_square_at (r : Int) : AV := .pe (cdI.enc r) 0
theorem x_square_at : POk 73 (told cs_square_at (fun a => square_at a.1 a.2.1 a.2.2.1) er_square_at) := by
  refine ⟨⟨Tryd.call73⟩, fun xs x h w Z us hz hv => ?_⟩
  obtain ⟨⟨⟨n, cells⟩, p, q, u⟩, ha, hh⟩ := Option.bind_eq_some_iff.1 h
  obtain ⟨r, hb, rfl⟩ := Option.map_eq_some_iff.1 hh
  clear h hh
  replace hv := cs_square_at.vr ha hv
  clear ha
  obtain ⟨u1, r1, rfl, h1, hv1⟩ := hv.head
  obtain ⟨u2, r2, rfl, h2, hv2⟩ := hv1.head
  obtain ⟨u3, r3, rfl, h3, hv3⟩ := hv2.head
  have hr3 : r3 = [] := List.eq_nil_of_length_eq_zero hv3.len
  subst hr3
  clear hv hv1 hv2 hv3
  rw [h2.v_inv, h3.v_inv]
  simp only [square_at] at hb
  split at hb
  · next hc =>
    obtain ⟨c1, c2, c3, c4, c5, c6⟩ := hc
    have hi : 0 ≤ p * n + q := Int.add_nonneg (Int.mul_nonneg c3 c1) c5
    unfold idx at hb
    rw [if_pos hi] at hb
    obtain ⟨hlt, hge⟩ := List.getElem?_eq_some_iff.1 hb
    cases h1 with
    | ag hl hh hx =>
      rename_i us
      match us, hl, hx with
      | [v1, v2], hl0, hx0 =>
        have e1 := (hx0 0 _ v1 rfl rfl).v_inv
        have e2 : VR w Z [] (.sl 1 (cells.map cdI.enc)) v2 := hx0 1 _ v2 rfl rfl
        clear hx0 hl0
        rw [e1]
        cases e2 with
        | sl hn hl hc hm ha hx =>
          rename_i c n' A us
          rw [List.length_map] at hn hl
          obtain ⟨a, h1, h2, h3, h4⟩ := ha (by omega)
          have hus : (p * n + q).toNat < us.length := by omega
          have hu := List.getElem?_eq_getElem hus
          have e3 := (hx _ (cdI.enc cells[(p * n + q).toNat]) _ (by rw [List.getElem?_map, List.getElem?_eq_getElem hlt]; rfl) hu).v_inv
          rw [hge] at e3
          have h5 := (h4 _ _ hu).2.2 0 (.int .i64 r) (by rw [e3]; rfl)
          subst h1
          have hblk := hz _ h3
          refine Ret.mono (atZ_ok n p q a n' c w ⟨c1, c2⟩ ⟨c3, c4⟩ ⟨c5, c6⟩ (by omega)) fun v w' ⟨hg, hv⟩ => ⟨hg, ?_⟩
          subst hv
          have ea : a.add ((p * n + q).toNat * 1) = ⟨a.block, a.off + (p * n + q).toNat + 0, none⟩ := by
            cases a
            simp only at h2
            subst h2
            simp [Addr.add]
          rw [ea]
          refine .pe (a := ⟨a.block, a.off + (p * n + q).toNat, none⟩) (u := .int .i64 r) rfl h3 (fun s hs => ?_) (fun j s hs => ?_) (.v rfl)
          · have : s = .int .i64 r := by simpa [Value.cells] using hs
            rw [this]; rfl
          · match j, hs with
            | 0, hs =>
              have hs' : s = .int .i64 r := by simpa [Value.cells] using hs.symm
              subst hs'
              have h6 : w.cell? ⟨a.block, a.off + (p * n + q).toNat + 0, none⟩ = some (.int .i64 r) := by
                simpa using h5
              have h7 : w'.cell? ⟨a.block, a.off + (p * n + q).toNat + 0, none⟩ = w.cell? ⟨a.block, a.off + (p * n + q).toNat + 0, none⟩ := World.cell?_of_block (hg.block _ hblk (by simp))
              exact h7.trans h6
            | j + 1, hs => simp [Value.cells] at hs
  · cases hb
/- trestle/evening.meetings -/
noncomputable def e_evening_meetings : Env := E0
theorem e_evening_meetings_ok : EnvOk e_evening_meetings := E0_ok
noncomputable def cb_evening_meetings : Code := codeOf Tryd.f80
noncomputable def e_evening_meetings_k1 : Env := E0
theorem e_evening_meetings_k1_ok : EnvOk e_evening_meetings_k1 := E0_ok
noncomputable def cb_evening_meetings_k1 : Code := codeOf Tryd.f68
def evening_meetings_k1 (y0 : Int) (y1 : Int) : Option (Int × Int × (List Int)) :=
  if (mkOk 8 (wr .i64 (y1 * y1))) = true then
  some (y1, y1, (List.replicate (wr .i64 (y1 * y1)).toNat (0 : Int)))
  else none
set_option maxHeartbeats 4000000 in
set_option maxRecDepth 100000 in
theorem evening_meetings_k1_sem (y0 : Int) (y1 : Int) (r : Int × Int × (List Int)) (h : evening_meetings_k1 y0 y1 = some r) : SemY e_evening_meetings_k1 ⟨none, false⟩ cb_evening_meetings_k1 ⟨Fr 9 (pairs0 0 [.v (.int .i64 y1)]), [some ⟨2, 94, [.ag [.v (.int .i64 y0), .e0]], false⟩]⟩ fun x s' => (x = .normal ∨ x = .ret) ∧ ∃ ys, resA e_evening_meetings_k1.P s'.fr s'.hp Tryd.f68.results.toList = some ys ∧ (retA ys = .ag [.v (.int .i64 r.1), .rf 2 0 r.2.2.length r.2.2.length] ∧ s'.hp = [some ⟨2, 94, [.ag [.v (.int .i64 y0), .e0]], false⟩, some ⟨2, 94, [.ag [.v (.int .i64 r.2.1), .rf 2 0 r.2.2.length r.2.2.length]], false⟩, some ⟨1, 3, (r.2.2.map cdI.enc), false⟩]) := by
  unfold evening_meetings_k1 at h
  refine SemY.seq ?_
  refine SemY.region ?_
  refine RunY.segF (n := 9) e_evening_meetings_k1_ok 1 [(0, .v (.int .i64 y1)), (2, .pt 1 0 0)] [some ⟨2, 94, [.ag [.v (.int .i64 y0), .e0]], false⟩, some ⟨2, 94, [.ag [.v (.int .i64 0), .e0]], false⟩] (by kernel_rfl) ?_
  refine RunY.done rfl (SemY.fr (l' := [(0, .v (.int .i64 y1)), (2, .pt 1 0 0)]) (by kernel_rfl) ?_)
  refine SemY.seq ?_
  refine SemY.region ?_
  refine RunY.segF (n := 9) e_evening_meetings_k1_ok 4 [(2, .pt 1 0 0), (3, .v (.int .i64 y1)), (6, .v (.int .i64 (wr .i64 (y1 * y1))))] [some ⟨2, 94, [.ag [.v (.int .i64 y0), .e0]], false⟩, some ⟨2, 94, [.ag [.v (.int .i64 0), .e0]], false⟩] (by kernel_rfl) ?_
  by_cases hk1 : (mkOk 8 (wr .i64 (y1 * y1))) = true
  case neg => rw [if_neg hk1] at h; cases h
  rw [if_pos hk1] at h
  refine RunY.one e_evening_meetings_k1_ok 0 rfl (op_n (wantedA_none rfl) rfl (by kernel_rfl) (n_make (x := .v (.int .i64 (wr .i64 (y1 * y1)))) (y := .v (.int .i64 (wr .i64 (y1 * y1)))) (by kernel_rfl) (by kernel_rfl) (make_B (c := cdI) (z := (0 : Int)) (k := 1) (bytes := 8) (el := 3) (by kernel_rfl) (by kernel_rfl) hk1))) ?_
  refine RunY.segF (n := 9) e_evening_meetings_k1_ok 2 [(2, .pt 1 0 0)] [some ⟨2, 94, [.ag [.v (.int .i64 y0), .e0]], false⟩, some ⟨2, 94, [.ag [.v (.int .i64 y1), .rf 2 0 (List.replicate (wr .i64 (y1 * y1)).toNat (0 : Int)).length (List.replicate (wr .i64 (y1 * y1)).toNat (0 : Int)).length]], false⟩, some ⟨1, 3, ((List.replicate (wr .i64 (y1 * y1)).toNat (0 : Int)).map cdI.enc), false⟩] (by kernel_rfl) ?_
  refine RunY.done rfl (SemY.fr (l' := [(2, .pt 1 0 0)]) (by kernel_rfl) ?_)
  refine SemY.ret ?_
  have hq := Option.some.inj h; subst hq
  exact ⟨.inr rfl, [.ag [.v (.int .i64 y1), .rf 2 0 (List.replicate (wr .i64 (y1 * y1)).toNat (0 : Int)).length (List.replicate (wr .i64 (y1 * y1)).toNat (0 : Int)).length]], (by kernel_rfl), (by kernel_rfl), (by kernel_rfl)⟩
noncomputable def e_evening_meetings_k2 : Env := E0
theorem e_evening_meetings_k2_ok : EnvOk e_evening_meetings_k2 := E0_ok
noncomputable def cb_evening_meetings_k2 : Code := codeOf Tryd.f72
def evening_meetings_k2 (y0 : Int) (y1 : Int) (y2 : (List Int)) (y3 : (List (List Int))) : Option ((List (List Int))) :=
  some y3
set_option maxHeartbeats 4000000 in
set_option maxRecDepth 100000 in
theorem evening_meetings_k2_sem (y0 : Int) (y1 : Int) (y2 : (List Int)) (y3 : (List (List Int))) (r : (List (List Int))) (h : evening_meetings_k2 y0 y1 y2 y3 = some r) : SemY e_evening_meetings_k2 ⟨none, false⟩ cb_evening_meetings_k2 ⟨Fr 4 (pairs0 0 [.sl 1 (y3.map (cdL 1 cdI).enc)]), [some ⟨2, 94, [.ag [.v (.int .i64 y0), .e0]], false⟩, some ⟨2, 94, [.ag [.v (.int .i64 y1), .rf 2 0 y2.length y2.length]], false⟩, some ⟨1, 3, (y2.map cdI.enc), false⟩]⟩ fun x s' => (x = .normal ∨ x = .ret) ∧ ∃ ys, resA e_evening_meetings_k2.P s'.fr s'.hp Tryd.f72.results.toList = some ys ∧ (retA ys = .fn 108 [] [.pt 3 0 0] ∧ s'.hp = [some ⟨2, 94, [.ag [.v (.int .i64 y0), .e0]], false⟩, some ⟨2, 94, [.ag [.v (.int .i64 y1), .rf 2 0 y2.length y2.length]], false⟩, some ⟨1, 3, (y2.map cdI.enc), false⟩, some ⟨1, 50, [.sl 1 (r.map (cdL 1 cdI).enc)], false⟩]) := by
  unfold evening_meetings_k2 at h
  refine SemY.seq ?_
  refine SemY.region ?_
  refine RunY.segF (n := 4) e_evening_meetings_k2_ok 2 [(1, .pt 3 0 0)] [some ⟨2, 94, [.ag [.v (.int .i64 y0), .e0]], false⟩, some ⟨2, 94, [.ag [.v (.int .i64 y1), .rf 2 0 y2.length y2.length]], false⟩, some ⟨1, 3, (y2.map cdI.enc), false⟩, some ⟨1, 50, [.sl 1 (y3.map (cdL 1 cdI).enc)], false⟩] (by kernel_rfl) ?_
  refine RunY.done rfl (SemY.fr (l' := [(1, .pt 3 0 0)]) (by kernel_rfl) ?_)
  refine SemY.seq ?_
  refine SemY.region ?_
  refine RunY.segF (n := 4) e_evening_meetings_k2_ok 2 [(2, .fn 108 [] [.pt 3 0 0])] [some ⟨2, 94, [.ag [.v (.int .i64 y0), .e0]], false⟩, some ⟨2, 94, [.ag [.v (.int .i64 y1), .rf 2 0 y2.length y2.length]], false⟩, some ⟨1, 3, (y2.map cdI.enc), false⟩, some ⟨1, 50, [.sl 1 (y3.map (cdL 1 cdI).enc)], false⟩] (by kernel_rfl) ?_
  refine RunY.done rfl (SemY.fr (l' := [(2, .fn 108 [] [.pt 3 0 0])]) (by kernel_rfl) ?_)
  refine SemY.ret ?_
  have hq := Option.some.inj h; subst hq
  exact ⟨.inr rfl, [.fn 108 [] [.pt 3 0 0]], (by kernel_rfl), (by kernel_rfl), (by kernel_rfl)⟩
noncomputable def e_evening_meetings_k3 : Env := E0
theorem e_evening_meetings_k3_ok : EnvOk e_evening_meetings_k3 := E0_ok
noncomputable def cb_evening_meetings_k3 : Code := codeOf Tryd.f108
noncomputable def cx_evening_meetings_k3 (y4 : (List (List (List Int)))) (y5 : Int) (y6 : Int) : Cx := ⟨some ⟨4, Fr 32 [(4, .pt 0 0 0), (5, .pt 1 0 0), (12, .sl 1 (y4.map (cdL 1 (cdL 1 cdI)).enc)), (13, .v (.int .i64 y5)), (14, .v (.int .i64 y6)), (19, .fn 108 [] [.pt 3 0 0])], [20, 21], asgOf (pc cb_evening_meetings [1, 1, 0, 1, 0, 0, 1, 1, 0, 0, 1, 1, 0]), bdyOf (pc cb_evening_meetings [1, 1, 0, 1, 0, 0, 1, 1, 0, 0, 1, 1, 0])⟩, false⟩
noncomputable def e_evening_meetings_k3_y_k1 : Env := E0
theorem e_evening_meetings_k3_y_k1_ok : EnvOk e_evening_meetings_k3_y_k1 := E0_ok
noncomputable def cb_evening_meetings_k3_y_k1 : Code := codeOf Tryd.f73
def evening_meetings_k3_y_k1 (y0 : Int) (y1 : Int) (y2 : (List Int)) (y3 : (List (List Int))) (y4 : Int) (y5 : Int) (y6 : Int) : Option (Int) :=
  (idx y2 (wr .i64 ((wr .i64 (y5 * y4)) + y6))).bind fun v1 =>
  some y4
set_option maxHeartbeats 4000000 in
set_option maxRecDepth 100000 in
theorem evening_meetings_k3_y_k1_sem (y0 : Int) (y1 : Int) (y2 : (List Int)) (y3 : (List (List Int))) (y4 : Int) (y5 : Int) (y6 : Int) (r : Int) (h : evening_meetings_k3_y_k1 y0 y1 y2 y3 y4 y5 y6 = some r) : SemY e_evening_meetings_k3_y_k1 ⟨none, false⟩ cb_evening_meetings_k3_y_k1 ⟨Fr 16 (pairs0 0 [.ag [.v (.int .i64 y4), .rf 2 0 y2.length y2.length], .v (.int .i64 y5), .v (.int .i64 y6)]), [some ⟨2, 94, [.ag [.v (.int .i64 y0), .e0]], false⟩, some ⟨2, 94, [.ag [.v (.int .i64 y1), .rf 2 0 y2.length y2.length]], false⟩, some ⟨1, 3, (y2.map cdI.enc), false⟩, some ⟨1, 50, [.sl 1 (y3.map (cdL 1 cdI).enc)], false⟩, none]⟩ fun x s' => (x = .normal ∨ x = .ret) ∧ ∃ ys, resA e_evening_meetings_k3_y_k1.P s'.fr s'.hp Tryd.f73.results.toList = some ys ∧ (retA ys = .pt 2 ((wr .i64 ((wr .i64 (y5 * y4)) + y6)).toNat) 0 ∧ s'.hp = [some ⟨2, 94, [.ag [.v (.int .i64 y0), .e0]], false⟩, some ⟨2, 94, [.ag [.v (.int .i64 y1), .rf 2 0 y2.length y2.length]], false⟩, some ⟨1, 3, (y2.map cdI.enc), false⟩, some ⟨1, 50, [.sl 1 (y3.map (cdL 1 cdI).enc)], false⟩, none, some ⟨2, 94, [.ag [.v (.int .i64 r), .rf 2 0 y2.length y2.length]], false⟩]) := by
  unfold evening_meetings_k3_y_k1 at h
  refine SemY.seq ?_
  refine SemY.region ?_
  refine RunY.segF (n := 16) e_evening_meetings_k3_y_k1_ok 2 [(1, .v (.int .i64 y5)), (2, .v (.int .i64 y6)), (3, .pt 5 0 0)] [some ⟨2, 94, [.ag [.v (.int .i64 y0), .e0]], false⟩, some ⟨2, 94, [.ag [.v (.int .i64 y1), .rf 2 0 y2.length y2.length]], false⟩, some ⟨1, 3, (y2.map cdI.enc), false⟩, some ⟨1, 50, [.sl 1 (y3.map (cdL 1 cdI).enc)], false⟩, none, some ⟨2, 94, [.ag [.v (.int .i64 y4), .rf 2 0 y2.length y2.length]], false⟩] (by kernel_rfl) ?_
  refine RunY.done rfl (SemY.fr (l' := [(1, .v (.int .i64 y5)), (2, .v (.int .i64 y6)), (3, .pt 5 0 0)]) (by kernel_rfl) ?_)
  refine SemY.seq ?_
  refine SemY.region ?_
  refine RunY.segF (n := 16) e_evening_meetings_k3_y_k1_ok 8 [(8, .rf 2 0 y2.length y2.length), (14, .v (.int .i64 (wr .i64 ((wr .i64 (y5 * y4)) + y6))))] [some ⟨2, 94, [.ag [.v (.int .i64 y0), .e0]], false⟩, some ⟨2, 94, [.ag [.v (.int .i64 y1), .rf 2 0 y2.length y2.length]], false⟩, some ⟨1, 3, (y2.map cdI.enc), false⟩, some ⟨1, 50, [.sl 1 (y3.map (cdL 1 cdI).enc)], false⟩, none, some ⟨2, 94, [.ag [.v (.int .i64 y4), .rf 2 0 y2.length y2.length]], false⟩] (by kernel_rfl) ?_
  obtain ⟨v1, hv1, h⟩ := Option.bind_eq_some_iff.1 h
  refine RunY.one e_evening_meetings_k3_y_k1_ok 0 rfl (op_q (wantedA_none rfl) rfl (q_indexAddr (a := .rf 2 0 y2.length y2.length) (b := .v (.int .i64 (wr .i64 ((wr .i64 (y5 * y4)) + y6)))) (by kernel_rfl) (by kernel_rfl) (ix_rl (e := cdI.enc) (xs := y2) (t' := 3) (el := 3) (k := 1) (ki := .i64) (by kernel_rfl) (by kernel_rfl) (by kernel_rfl) hv1))) ?_
  refine RunY.segF (n := 16) e_evening_meetings_k3_y_k1_ok 1 [(6, .pt 2 ((wr .i64 ((wr .i64 (y5 * y4)) + y6)).toNat) 0)] [some ⟨2, 94, [.ag [.v (.int .i64 y0), .e0]], false⟩, some ⟨2, 94, [.ag [.v (.int .i64 y1), .rf 2 0 y2.length y2.length]], false⟩, some ⟨1, 3, (y2.map cdI.enc), false⟩, some ⟨1, 50, [.sl 1 (y3.map (cdL 1 cdI).enc)], false⟩, none, some ⟨2, 94, [.ag [.v (.int .i64 y4), .rf 2 0 y2.length y2.length]], false⟩] (by kernel_rfl) ?_
  refine RunY.done rfl (SemY.fr (l' := [(6, .pt 2 ((wr .i64 ((wr .i64 (y5 * y4)) + y6)).toNat) 0)]) (by kernel_rfl) ?_)
  refine SemY.ret ?_
  have hq := Option.some.inj h; subst hq
  exact ⟨.inr rfl, [.pt 2 ((wr .i64 ((wr .i64 (y5 * y4)) + y6)).toNat) 0], (by kernel_rfl), (by kernel_rfl), (by kernel_rfl)⟩
def evening_meetings_k3_y (y0 : Int) (y1 : Int) (y2 : (List Int)) (y3 : (List (List Int))) (y4 : (List (List (List Int)))) (y5 : Int) (y6 : Int) (y7 : Int) (y8 : Int) : Option ((List Int)) :=
  (evening_meetings_k3_y_k1 y0 y1 y2 y3 y1 y7 y8).bind fun v1 =>
  (idx y2 (wr .i64 ((wr .i64 (y7 * y1)) + y8))).bind fun v2 =>
  some (y2.set ((wr .i64 ((wr .i64 (y7 * y1)) + y8)).toNat) (wr .i64 (v2 + 1)))
set_option maxHeartbeats 4000000 in
set_option maxRecDepth 100000 in
theorem evening_meetings_k3_y_sem (y0 : Int) (y1 : Int) (y2 : (List Int)) (y3 : (List (List Int))) (y4 : (List (List (List Int)))) (y5 : Int) (y6 : Int) (y7 : Int) (y8 : Int) (r : (List Int)) (h : evening_meetings_k3_y y0 y1 y2 y3 y4 y5 y6 y7 y8 = some r) : SemY e_evening_meetings ⟨none, true⟩ (asgOf (pc cb_evening_meetings [1, 1, 0, 1, 0, 0, 1, 1, 0, 0, 1, 1, 0])) ⟨Fr 32 [(21, .v (.int .i64 y8)), (20, .v (.int .i64 y7)), (4, .pt 0 0 0), (5, .pt 1 0 0), (12, .sl 1 (y4.map (cdL 1 (cdL 1 cdI)).enc)), (13, .v (.int .i64 y5)), (14, .v (.int .i64 y6)), (19, .fn 108 [] [.pt 3 0 0])], [some ⟨2, 94, [.ag [.v (.int .i64 y0), .e0]], false⟩, some ⟨2, 94, [.ag [.v (.int .i64 y1), .rf 2 0 y2.length y2.length]], false⟩, some ⟨1, 3, (y2.map cdI.enc), false⟩, some ⟨1, 50, [.sl 1 (y3.map (cdL 1 cdI).enc)], false⟩, none]⟩ fun e s1 => e = .normal ∧ SemY e_evening_meetings ⟨none, true⟩ (bdyOf (pc cb_evening_meetings [1, 1, 0, 1, 0, 0, 1, 1, 0, 0, 1, 1, 0])) s1 fun e s2 => e = .normal ∧ s2.hp = [some ⟨2, 94, [.ag [.v (.int .i64 y0), .e0]], false⟩, some ⟨2, 94, [.ag [.v (.int .i64 y1), .rf 2 0 r.length r.length]], false⟩, some ⟨1, 3, (r.map cdI.enc), false⟩, some ⟨1, 50, [.sl 1 (y3.map (cdL 1 cdI).enc)], false⟩, none] := by
  unfold evening_meetings_k3_y at h
  refine SemY.seq ?_
  refine SemY.region ?_
  refine RunY.segF (n := 32) e_evening_meetings_ok 1 [(5, .pt 1 0 0), (8, .v (.int .i64 y7)), (21, .v (.int .i64 y8))] [some ⟨2, 94, [.ag [.v (.int .i64 y0), .e0]], false⟩, some ⟨2, 94, [.ag [.v (.int .i64 y1), .rf 2 0 y2.length y2.length]], false⟩, some ⟨1, 3, (y2.map cdI.enc), false⟩, some ⟨1, 50, [.sl 1 (y3.map (cdL 1 cdI).enc)], false⟩, none] (by kernel_rfl) ?_
  refine RunY.done rfl (SemY.fr (l' := [(5, .pt 1 0 0), (8, .v (.int .i64 y7)), (21, .v (.int .i64 y8))]) (by kernel_rfl) ?_)
  refine SemY.region ?_
  refine RunY.segF (n := 32) e_evening_meetings_ok 1 [(5, .pt 1 0 0), (8, .v (.int .i64 y7)), (9, .v (.int .i64 y8))] [some ⟨2, 94, [.ag [.v (.int .i64 y0), .e0]], false⟩, some ⟨2, 94, [.ag [.v (.int .i64 y1), .rf 2 0 y2.length y2.length]], false⟩, some ⟨1, 3, (y2.map cdI.enc), false⟩, some ⟨1, 50, [.sl 1 (y3.map (cdL 1 cdI).enc)], false⟩, none] (by kernel_rfl) ?_
  refine RunY.done rfl ?_
  refine ⟨rfl, ?_⟩
  refine SemY.block ?_
  refine SemY.region ?_
  refine RunY.segF (n := 32) e_evening_meetings_ok 3 [(22, .ag [.v (.int .i64 y1), .rf 2 0 y2.length y2.length]), (23, .v (.int .i64 y7)), (24, .v (.int .i64 y8))] [some ⟨2, 94, [.ag [.v (.int .i64 y0), .e0]], false⟩, some ⟨2, 94, [.ag [.v (.int .i64 y1), .rf 2 0 y2.length y2.length]], false⟩, some ⟨1, 3, (y2.map cdI.enc), false⟩, some ⟨1, 50, [.sl 1 (y3.map (cdL 1 cdI).enc)], false⟩, none] (by kernel_rfl) ?_
  obtain ⟨v1, hv1, h⟩ := Option.bind_eq_some_iff.1 h
  obtain ⟨v2, hv2, h⟩ := Option.bind_eq_some_iff.1 h
  refine RunY.inl (fid := 73) (caps := []) (xs := [.ag [.v (.int .i64 y1), .rf 2 0 y2.length y2.length], .v (.int .i64 y7), .v (.int .i64 y8)]) (fn := Tryd.f73) (Out := fun x h' => x = .pt 2 ((wr .i64 ((wr .i64 (y7 * y1)) + y8)).toNat) 0 ∧ h' = [some ⟨2, 94, [.ag [.v (.int .i64 y0), .e0]], false⟩, some ⟨2, 94, [.ag [.v (.int .i64 y1), .rf 2 0 y2.length y2.length]], false⟩, some ⟨1, 3, (y2.map cdI.enc), false⟩, some ⟨1, 50, [.sl 1 (y3.map (cdL 1 cdI).enc)], false⟩, none, some ⟨2, 94, [.ag [.v (.int .i64 v1), .rf 2 0 y2.length y2.length]], false⟩]) rfl rfl e_evening_meetings_k3_y_k1_ok rfl rfl 5 (by kernel_rfl) rfl (wantedA_none rfl) (by kernel_rfl) (by kernel_rfl) (by kernel_rfl) (by kernel_rfl) (by show 3 ≤ 16; decide) (evening_meetings_k3_y_k1_sem y0 y1 y2 y3 y1 y7 y8 _ hv1) ?_
  rintro x h' ⟨rfl, rfl⟩
  refine ⟨[some ⟨2, 94, [.ag [.v (.int .i64 y0), .e0]], false⟩, some ⟨2, 94, [.ag [.v (.int .i64 y1), .rf 2 0 y2.length y2.length]], false⟩, some ⟨1, 3, (y2.map cdI.enc), false⟩, some ⟨1, 50, [.sl 1 (y3.map (cdL 1 cdI).enc)], false⟩, none], by kernel_rfl, ⟨⟨_, rfl, bu_d⟩, ⟨_, rfl, bu_d⟩, ⟨_, rfl, bu_own⟩, ⟨_, rfl, bu_d⟩, ⟨_, rfl, bu_none⟩, trivial⟩, ⟨by kernel_rfl, by kernel_rfl⟩, ?_⟩
  refine RunY.segF (n := 32) e_evening_meetings_ok 1 [(25, .pt 2 ((wr .i64 ((wr .i64 (y7 * y1)) + y8)).toNat) 0), (26, .pt 2 ((wr .i64 ((wr .i64 (y7 * y1)) + y8)).toNat) 0)] [some ⟨2, 94, [.ag [.v (.int .i64 y0), .e0]], false⟩, some ⟨2, 94, [.ag [.v (.int .i64 y1), .rf 2 0 y2.length y2.length]], false⟩, some ⟨1, 3, (y2.map cdI.enc), false⟩, some ⟨1, 50, [.sl 1 (y3.map (cdL 1 cdI).enc)], false⟩, none] (by kernel_rfl) ?_
  refine RunY.one e_evening_meetings_ok 0 rfl (op_q (wantedA_none rfl) rfl (q_load (p := .pt 2 ((wr .i64 ((wr .i64 (y7 * y1)) + y8)).toNat) 0) (by kernel_rfl) (ld_blk (B := ⟨1, 3, (y2.map cdI.enc), false⟩) (m := 1) (g := false) (e := cdI.enc) (xs := y2) (by kernel_rfl) (by kernel_rfl) (by kernel_rfl) rfl (idx_at hv2).2 (by kernel_rfl)))) ?_
  refine RunY.segF (n := 32) e_evening_meetings_ok 2 [(28, .v (.int .i64 (wr .i64 (v2 + 1)))), (29, .pt 2 ((wr .i64 ((wr .i64 (y7 * y1)) + y8)).toNat) 0)] [some ⟨2, 94, [.ag [.v (.int .i64 y0), .e0]], false⟩, some ⟨2, 94, [.ag [.v (.int .i64 y1), .rf 2 0 y2.length y2.length]], false⟩, some ⟨1, 3, (y2.map cdI.enc), false⟩, some ⟨1, 50, [.sl 1 (y3.map (cdL 1 cdI).enc)], false⟩, none] (by kernel_rfl) ?_
  refine RunY.store e_evening_meetings_ok (y := .pt 2 ((wr .i64 ((wr .i64 (y7 * y1)) + y8)).toNat) 0) (z := .v (.int .i64 (wr .i64 (v2 + 1)))) rfl (wantedA_none rfl) (by kernel_rfl) (by kernel_rfl) (st_blk (t' := 3) (k := 1) (e := cdI.enc) (xs := y2) (v := v2) (v' := (wr .i64 (v2 + 1))) (by kernel_rfl) (idx_at hv2).2 (by kernel_rfl) (by kernel_rfl) (by kernel_rfl)) ?_
  refine RunY.done rfl ?_
  have hq := Option.some.inj h; subst hq
  exact ⟨rfl, Eq.trans (b := [some ⟨2, 94, [.ag [.v (.int .i64 y0), .e0]], false⟩, some ⟨2, 94, [.ag [.v (.int .i64 y1), .rf 2 0 y2.length y2.length]], false⟩, some ⟨1, 3, ((y2.set ((wr .i64 ((wr .i64 (y7 * y1)) + y8)).toNat) (wr .i64 (v2 + 1))).map cdI.enc), false⟩, some ⟨1, 50, [.sl 1 (y3.map (cdL 1 cdI).enc)], false⟩, none]) (by kernel_rfl) (by simp only [List.length_set])⟩
def evening_meetings_k3_3 (y0 : Int) (y1 : Int) (y3 : (List (List Int))) (y4 : (List (List (List Int)))) (y5 : Int) (y6 : Int) (c186 : Int) (v189 : (List Int)) (c222 : Int) (v225 : Int) : Nat → Int → (List Int) → Option (((List Int)))
  | 0, _, _ => none
  | f + 1, c239, c240 =>
    if (decide (c239 < (v189.length : Int))) = true then
    (idx v189 c239).bind fun v242 =>
    if (c222 != c239) = true then
    (evening_meetings_k3_y y0 y1 c240 y3 y4 y5 y6 v225 v242).bind fun v243 =>
    evening_meetings_k3_3 y0 y1 y3 y4 y5 y6 c186 v189 c222 v225 f (wr .i64 (c239 + 1)) v243
    else
    evening_meetings_k3_3 y0 y1 y3 y4 y5 y6 c186 v189 c222 v225 f (wr .i64 (c239 + 1)) c240
    else
    some c240
def evening_meetings_k3_2 (y0 : Int) (y1 : Int) (y3 : (List (List Int))) (y4 : (List (List (List Int)))) (y5 : Int) (y6 : Int) (c186 : Int) (v189 : (List Int)) : Nat → Int → (List Int) → Option (((List Int)))
  | 0, _, _ => none
  | f + 1, c222, c223 =>
    if (decide (c222 < (v189.length : Int))) = true then
    (idx v189 c222).bind fun v225 =>
    (evening_meetings_k3_3 y0 y1 y3 y4 y5 y6 c186 v189 c222 v225 100000 0 c223).bind fun r246 =>
    evening_meetings_k3_2 y0 y1 y3 y4 y5 y6 c186 v189 f (wr .i64 (c222 + 1)) r246
    else
    some c223
def evening_meetings_k3_1 (y0 : Int) (y1 : Int) (y3 : (List (List Int))) (y4 : (List (List (List Int)))) (y5 : Int) (y6 : Int) : Nat → Int → (List Int) → Option (((List Int)))
  | 0, _, _ => none
  | f + 1, c186, c187 =>
    if (decide (c186 < (y3.length : Int))) = true then
    (idx y3 c186).bind fun v189 =>
    (evening_meetings_k3_2 y0 y1 y3 y4 y5 y6 c186 v189 100000 0 c187).bind fun r248 =>
    evening_meetings_k3_1 y0 y1 y3 y4 y5 y6 f (wr .i64 (c186 + 1)) r248
    else
    some c187
def evening_meetings_k3 (y0 : Int) (y1 : Int) (y2 : (List Int)) (y3 : (List (List Int))) (y4 : (List (List (List Int)))) (y5 : Int) (y6 : Int) : Option ((List Int)) :=
  (evening_meetings_k3_1 y0 y1 y3 y4 y5 y6 100000 0 y2).bind fun r250 =>
  some r250
set_option maxHeartbeats 4000000 in
set_option maxRecDepth 100000 in
theorem evening_meetings_k3_3_ok (y0 : Int) (y1 : Int) (y3 : (List (List Int))) (y4 : (List (List (List Int)))) (y5 : Int) (y6 : Int) (c186 : Int) (v189 : (List Int)) (c222 : Int) (v225 : Int) : ∀ (f : Nat) (c239 : Int) (c240 : (List Int)) (r : ((List Int))), evening_meetings_k3_3 y0 y1 y3 y4 y5 y6 c186 v189 c222 v225 f c239 c240 = some r → SemYN e_evening_meetings_k3 (cx_evening_meetings_k3 y4 y5 y6) (pc cb_evening_meetings_k3 [1, 0, 0, 1, 1, 0, 0, 1, 1, 0, 0, 1, 1, 0, 0, 1, 1, 0, 0]) f ⟨Fr 42 [(0, .yl 4), (4, .sl 1 (v189.map cdI.enc)), (5, .v (.int .i64 c222)), (6, .v (.int .i64 v225)), (9, .sl 1 (y3.map (cdL 1 cdI).enc)), (10, .v (.int .i64 (y3.length : Int))), (11, .v (.int .i64 c186)), (15, .sl 1 (v189.map cdI.enc)), (16, .v (.int .i64 (v189.length : Int))), (17, .v (.int .i64 c222)), (22, .sl 1 (v189.map cdI.enc)), (23, .v (.int .i64 (v189.length : Int))), (24, .v (.int .i64 c239))], [some ⟨2, 94, [.ag [.v (.int .i64 y0), .e0]], false⟩, some ⟨2, 94, [.ag [.v (.int .i64 y1), .rf 2 0 c240.length c240.length]], false⟩, some ⟨1, 3, (c240.map cdI.enc), false⟩, some ⟨1, 50, [.sl 1 (y3.map (cdL 1 cdI).enc)], false⟩, none]⟩ (fun e s => e = (.exit 4) ∧ WkY e_evening_meetings_k3 s ⟨Fr 42 [(0, .yl 4), (4, .sl 1 (v189.map cdI.enc)), (9, .sl 1 (y3.map (cdL 1 cdI).enc)), (10, .v (.int .i64 (y3.length : Int))), (11, .v (.int .i64 c186)), (15, .sl 1 (v189.map cdI.enc)), (16, .v (.int .i64 (v189.length : Int))), (17, .v (.int .i64 c222))], [some ⟨2, 94, [.ag [.v (.int .i64 y0), .e0]], false⟩, some ⟨2, 94, [.ag [.v (.int .i64 y1), .rf 2 0 r.length r.length]], false⟩, some ⟨1, 3, (r.map cdI.enc), false⟩, some ⟨1, 50, [.sl 1 (y3.map (cdL 1 cdI).enc)], false⟩, none]⟩) := by
  intro f
  induction f with
  | zero => intro c239 c240 r h; cases h
  | succ f ih0 =>
    intro c239 c240 r h
    have ih := fun (c239 : Int) (c240 : (List Int)) => ih0 c239 c240 r
    unfold evening_meetings_k3_3 at h
    refine SemYN.succ ?_
    refine SemY.seq ?_
    refine SemY.region ?_
    refine RunY.segF (n := 42) e_evening_meetings_k3_ok 1 [(0, .yl 4), (4, .sl 1 (v189.map cdI.enc)), (5, .v (.int .i64 c222)), (6, .v (.int .i64 v225)), (9, .sl 1 (y3.map (cdL 1 cdI).enc)), (10, .v (.int .i64 (y3.length : Int))), (11, .v (.int .i64 c186)), (15, .sl 1 (v189.map cdI.enc)), (16, .v (.int .i64 (v189.length : Int))), (17, .v (.int .i64 c222)), (22, .sl 1 (v189.map cdI.enc)), (23, .v (.int .i64 (v189.length : Int))), (24, .v (.int .i64 c239)), (25, .v (.bool (decide (c239 < (v189.length : Int)))))] [some ⟨2, 94, [.ag [.v (.int .i64 y0), .e0]], false⟩, some ⟨2, 94, [.ag [.v (.int .i64 y1), .rf 2 0 c240.length c240.length]], false⟩, some ⟨1, 3, (c240.map cdI.enc), false⟩, some ⟨1, 50, [.sl 1 (y3.map (cdL 1 cdI).enc)], false⟩, none] (by kernel_rfl) ?_
    refine RunY.done rfl (SemY.fr (l' := [(0, .yl 4), (4, .sl 1 (v189.map cdI.enc)), (5, .v (.int .i64 c222)), (6, .v (.int .i64 v225)), (9, .sl 1 (y3.map (cdL 1 cdI).enc)), (10, .v (.int .i64 (y3.length : Int))), (11, .v (.int .i64 c186)), (15, .sl 1 (v189.map cdI.enc)), (16, .v (.int .i64 (v189.length : Int))), (17, .v (.int .i64 c222)), (22, .sl 1 (v189.map cdI.enc)), (23, .v (.int .i64 (v189.length : Int))), (24, .v (.int .i64 c239)), (25, .v (.bool (decide (c239 < (v189.length : Int)))))]) (by kernel_rfl) ?_)
    refine SemY.seq ?_
    refine SemY.cond (b := (decide (c239 < (v189.length : Int)))) (by kernel_rfl) (fun hb241 => ?_) (fun hb241 => ?_)
    · rw [if_pos hb241] at h
      refine SemY.skip ?_
      refine SemY.seq ?_
      refine SemY.block ?_
      refine SemY.seq ?_
      refine SemY.region ?_
      refine RunY.segF (n := 42) e_evening_meetings_k3_ok 1 [(0, .yl 4), (4, .sl 1 (v189.map cdI.enc)), (5, .v (.int .i64 c222)), (6, .v (.int .i64 v225)), (9, .sl 1 (y3.map (cdL 1 cdI).enc)), (10, .v (.int .i64 (y3.length : Int))), (11, .v (.int .i64 c186)), (15, .sl 1 (v189.map cdI.enc)), (16, .v (.int .i64 (v189.length : Int))), (17, .v (.int .i64 c222)), (22, .sl 1 (v189.map cdI.enc)), (23, .v (.int .i64 (v189.length : Int))), (24, .v (.int .i64 c239)), (26, .v (.int .i64 c239))] [some ⟨2, 94, [.ag [.v (.int .i64 y0), .e0]], false⟩, some ⟨2, 94, [.ag [.v (.int .i64 y1), .rf 2 0 c240.length c240.length]], false⟩, some ⟨1, 3, (c240.map cdI.enc), false⟩, some ⟨1, 50, [.sl 1 (y3.map (cdL 1 cdI).enc)], false⟩, none] (by kernel_rfl) ?_
      obtain ⟨v242, hv242, h⟩ := Option.bind_eq_some_iff.1 h
      refine RunY.one e_evening_meetings_k3_ok 0 rfl (op_q (wantedA_none rfl) rfl (q_indexAddr (a := .sl 1 (v189.map cdI.enc)) (b := .v (.int .i64 c239)) (by kernel_rfl) (by kernel_rfl) (ix_sl (e := cdI.enc) (el := 3) (k := 1) (ki := .i64) (by kernel_rfl) (by kernel_rfl) hv242))) ?_
      refine RunY.segF (n := 42) e_evening_meetings_k3_ok 3 [(0, .yl 4), (4, .sl 1 (v189.map cdI.enc)), (5, .v (.int .i64 c222)), (6, .v (.int .i64 v225)), (7, .v (.int .i64 c239)), (8, .v (.int .i64 v242)), (9, .sl 1 (y3.map (cdL 1 cdI).enc)), (10, .v (.int .i64 (y3.length : Int))), (11, .v (.int .i64 c186)), (15, .sl 1 (v189.map cdI.enc)), (16, .v (.int .i64 (v189.length : Int))), (17, .v (.int .i64 c222)), (22, .sl 1 (v189.map cdI.enc)), (23, .v (.int .i64 (v189.length : Int))), (24, .v (.int .i64 c239))] [some ⟨2, 94, [.ag [.v (.int .i64 y0), .e0]], false⟩, some ⟨2, 94, [.ag [.v (.int .i64 y1), .rf 2 0 c240.length c240.length]], false⟩, some ⟨1, 3, (c240.map cdI.enc), false⟩, some ⟨1, 50, [.sl 1 (y3.map (cdL 1 cdI).enc)], false⟩, none] (by kernel_rfl) ?_
      refine RunY.done rfl (SemY.fr (l' := [(0, .yl 4), (4, .sl 1 (v189.map cdI.enc)), (5, .v (.int .i64 c222)), (6, .v (.int .i64 v225)), (7, .v (.int .i64 c239)), (8, .v (.int .i64 v242)), (9, .sl 1 (y3.map (cdL 1 cdI).enc)), (10, .v (.int .i64 (y3.length : Int))), (11, .v (.int .i64 c186)), (15, .sl 1 (v189.map cdI.enc)), (16, .v (.int .i64 (v189.length : Int))), (17, .v (.int .i64 c222)), (22, .sl 1 (v189.map cdI.enc)), (23, .v (.int .i64 (v189.length : Int))), (24, .v (.int .i64 c239))]) (by kernel_rfl) ?_)
      refine SemY.seq ?_
      refine SemY.region ?_
      refine RunY.segF (n := 42) e_evening_meetings_k3_ok 4 [(0, .yl 4), (4, .sl 1 (v189.map cdI.enc)), (5, .v (.int .i64 c222)), (6, .v (.int .i64 v225)), (8, .v (.int .i64 v242)), (9, .sl 1 (y3.map (cdL 1 cdI).enc)), (10, .v (.int .i64 (y3.length : Int))), (11, .v (.int .i64 c186)), (15, .sl 1 (v189.map cdI.enc)), (16, .v (.int .i64 (v189.length : Int))), (17, .v (.int .i64 c222)), (22, .sl 1 (v189.map cdI.enc)), (23, .v (.int .i64 (v189.length : Int))), (24, .v (.int .i64 c239)), (32, .v (.bool (c222 != c239)))] [some ⟨2, 94, [.ag [.v (.int .i64 y0), .e0]], false⟩, some ⟨2, 94, [.ag [.v (.int .i64 y1), .rf 2 0 c240.length c240.length]], false⟩, some ⟨1, 3, (c240.map cdI.enc), false⟩, some ⟨1, 50, [.sl 1 (y3.map (cdL 1 cdI).enc)], false⟩, none] (by kernel_rfl) ?_
      rcases Bool.eq_false_or_eq_true (c222 != c239) with hc244 | hc244
      · rw [if_pos hc244] at h
        rw [hc244]
        refine RunY.segF (n := 42) e_evening_meetings_k3_ok 3 [(0, .yl 4), (4, .sl 1 (v189.map cdI.enc)), (5, .v (.int .i64 c222)), (6, .v (.int .i64 v225)), (9, .sl 1 (y3.map (cdL 1 cdI).enc)), (10, .v (.int .i64 (y3.length : Int))), (11, .v (.int .i64 c186)), (15, .sl 1 (v189.map cdI.enc)), (16, .v (.int .i64 (v189.length : Int))), (17, .v (.int .i64 c222)), (22, .sl 1 (v189.map cdI.enc)), (23, .v (.int .i64 (v189.length : Int))), (24, .v (.int .i64 c239)), (32, .v (.bool true)), (33, .yl 4), (34, .v (.int .i64 v225)), (35, .v (.int .i64 v242))] [some ⟨2, 94, [.ag [.v (.int .i64 y0), .e0]], false⟩, some ⟨2, 94, [.ag [.v (.int .i64 y1), .rf 2 0 c240.length c240.length]], false⟩, some ⟨1, 3, (c240.map cdI.enc), false⟩, some ⟨1, 50, [.sl 1 (y3.map (cdL 1 cdI).enc)], false⟩, none] (by kernel_rfl) ?_
        obtain ⟨v243, hv243, h⟩ := Option.bind_eq_some_iff.1 h
        refine RunY.yield (K1 := fun h' => h' = [some ⟨2, 94, [.ag [.v (.int .i64 y0), .e0]], false⟩, some ⟨2, 94, [.ag [.v (.int .i64 y1), .rf 2 0 v243.length v243.length]], false⟩, some ⟨1, 3, (v243.map cdI.enc), false⟩, some ⟨1, 50, [.sl 1 (y3.map (cdL 1 cdI).enc)], false⟩, none]) rfl rfl (eb := e_evening_meetings) rfl rfl rfl rfl rfl (by kernel_rfl) (by kernel_rfl) (xs := [.v (.int .i64 v225), .v (.int .i64 v242)]) (by kernel_rfl) rfl rfl (evening_meetings_k3_y_sem y0 y1 c240 y3 y4 y5 y6 v225 v242 _ hv243) ?_
        rintro h' rfl
        refine RunY.segF (n := 42) e_evening_meetings_k3_ok 2 [(0, .yl 4), (4, .sl 1 (v189.map cdI.enc)), (5, .v (.int .i64 c222)), (6, .v (.int .i64 v225)), (9, .sl 1 (y3.map (cdL 1 cdI).enc)), (10, .v (.int .i64 (y3.length : Int))), (11, .v (.int .i64 c186)), (15, .sl 1 (v189.map cdI.enc)), (16, .v (.int .i64 (v189.length : Int))), (17, .v (.int .i64 c222)), (22, .sl 1 (v189.map cdI.enc)), (23, .v (.int .i64 (v189.length : Int))), (24, .v (.int .i64 c239)), (33, .yl 4), (34, .v (.int .i64 v225)), (35, .v (.int .i64 v242)), (36, .v (.bool true)), (37, .v (.bool false)), (38, .v (.bool false))] [some ⟨2, 94, [.ag [.v (.int .i64 y0), .e0]], false⟩, some ⟨2, 94, [.ag [.v (.int .i64 y1), .rf 2 0 v243.length v243.length]], false⟩, some ⟨1, 3, (v243.map cdI.enc), false⟩, some ⟨1, 50, [.sl 1 (y3.map (cdL 1 cdI).enc)], false⟩, none] (by kernel_rfl) ?_
        refine RunY.done rfl (SemY.fr (l' := [(0, .yl 4), (4, .sl 1 (v189.map cdI.enc)), (5, .v (.int .i64 c222)), (6, .v (.int .i64 v225)), (9, .sl 1 (y3.map (cdL 1 cdI).enc)), (10, .v (.int .i64 (y3.length : Int))), (11, .v (.int .i64 c186)), (15, .sl 1 (v189.map cdI.enc)), (16, .v (.int .i64 (v189.length : Int))), (17, .v (.int .i64 c222)), (22, .sl 1 (v189.map cdI.enc)), (23, .v (.int .i64 (v189.length : Int))), (24, .v (.int .i64 c239)), (33, .yl 4), (34, .v (.int .i64 v225)), (35, .v (.int .i64 v242)), (36, .v (.bool true)), (37, .v (.bool false)), (38, .v (.bool false))]) (by kernel_rfl) ?_)
        refine SemY.cond_false (by kernel_rfl) ?_
        refine SemY.skip ?_
        refine SemY.region ?_
        refine RunY.segF (n := 42) e_evening_meetings_k3_ok 2 [(0, .yl 4), (4, .sl 1 (v189.map cdI.enc)), (5, .v (.int .i64 c222)), (6, .v (.int .i64 v225)), (9, .sl 1 (y3.map (cdL 1 cdI).enc)), (10, .v (.int .i64 (y3.length : Int))), (11, .v (.int .i64 c186)), (15, .sl 1 (v189.map cdI.enc)), (16, .v (.int .i64 (v189.length : Int))), (17, .v (.int .i64 c222)), (22, .sl 1 (v189.map cdI.enc)), (23, .v (.int .i64 (v189.length : Int))), (24, .v (.int .i64 (wr .i64 (c239 + 1)))), (33, .yl 4), (34, .v (.int .i64 v225)), (35, .v (.int .i64 v242)), (36, .v (.bool true)), (37, .v (.bool false))] [some ⟨2, 94, [.ag [.v (.int .i64 y0), .e0]], false⟩, some ⟨2, 94, [.ag [.v (.int .i64 y1), .rf 2 0 v243.length v243.length]], false⟩, some ⟨1, 3, (v243.map cdI.enc), false⟩, some ⟨1, 50, [.sl 1 (y3.map (cdL 1 cdI).enc)], false⟩, none] (by kernel_rfl) ?_
        refine RunY.done rfl ?_
        exact SemYN.wk (s1 := ⟨Fr 42 [(0, .yl 4), (4, .sl 1 (v189.map cdI.enc)), (5, .v (.int .i64 c222)), (6, .v (.int .i64 v225)), (9, .sl 1 (y3.map (cdL 1 cdI).enc)), (10, .v (.int .i64 (y3.length : Int))), (11, .v (.int .i64 c186)), (15, .sl 1 (v189.map cdI.enc)), (16, .v (.int .i64 (v189.length : Int))), (17, .v (.int .i64 c222)), (22, .sl 1 (v189.map cdI.enc)), (23, .v (.int .i64 (v189.length : Int))), (24, .v (.int .i64 (wr .i64 (c239 + 1))))], [some ⟨2, 94, [.ag [.v (.int .i64 y0), .e0]], false⟩, some ⟨2, 94, [.ag [.v (.int .i64 y1), .rf 2 0 v243.length v243.length]], false⟩, some ⟨1, 3, (v243.map cdI.enc), false⟩, some ⟨1, 50, [.sl 1 (y3.map (cdL 1 cdI).enc)], false⟩, none]⟩) (WkY.fr (by kernel_rfl)) (ih (wr .i64 (c239 + 1)) v243 h)
      · rw [if_f hc244] at h
        rw [hc244]
        refine RunY.segF (n := 42) e_evening_meetings_k3_ok 6 [(0, .yl 4), (4, .sl 1 (v189.map cdI.enc)), (5, .v (.int .i64 c222)), (6, .v (.int .i64 v225)), (9, .sl 1 (y3.map (cdL 1 cdI).enc)), (10, .v (.int .i64 (y3.length : Int))), (11, .v (.int .i64 c186)), (15, .sl 1 (v189.map cdI.enc)), (16, .v (.int .i64 (v189.length : Int))), (17, .v (.int .i64 c222)), (22, .sl 1 (v189.map cdI.enc)), (23, .v (.int .i64 (v189.length : Int))), (24, .v (.int .i64 c239)), (33, .tp []), (34, .tp []), (35, .tp []), (36, .tp []), (37, .tp []), (38, .v (.bool false))] [some ⟨2, 94, [.ag [.v (.int .i64 y0), .e0]], false⟩, some ⟨2, 94, [.ag [.v (.int .i64 y1), .rf 2 0 c240.length c240.length]], false⟩, some ⟨1, 3, (c240.map cdI.enc), false⟩, some ⟨1, 50, [.sl 1 (y3.map (cdL 1 cdI).enc)], false⟩, none] (by kernel_rfl) ?_
        refine RunY.done rfl (SemY.fr (l' := [(0, .yl 4), (4, .sl 1 (v189.map cdI.enc)), (5, .v (.int .i64 c222)), (6, .v (.int .i64 v225)), (9, .sl 1 (y3.map (cdL 1 cdI).enc)), (10, .v (.int .i64 (y3.length : Int))), (11, .v (.int .i64 c186)), (15, .sl 1 (v189.map cdI.enc)), (16, .v (.int .i64 (v189.length : Int))), (17, .v (.int .i64 c222)), (22, .sl 1 (v189.map cdI.enc)), (23, .v (.int .i64 (v189.length : Int))), (24, .v (.int .i64 c239)), (33, .tp []), (34, .tp []), (35, .tp []), (36, .tp []), (37, .tp []), (38, .v (.bool false))]) (by kernel_rfl) ?_)
        refine SemY.cond_false (by kernel_rfl) ?_
        refine SemY.skip ?_
        refine SemY.region ?_
        refine RunY.segF (n := 42) e_evening_meetings_k3_ok 2 [(0, .yl 4), (4, .sl 1 (v189.map cdI.enc)), (5, .v (.int .i64 c222)), (6, .v (.int .i64 v225)), (9, .sl 1 (y3.map (cdL 1 cdI).enc)), (10, .v (.int .i64 (y3.length : Int))), (11, .v (.int .i64 c186)), (15, .sl 1 (v189.map cdI.enc)), (16, .v (.int .i64 (v189.length : Int))), (17, .v (.int .i64 c222)), (22, .sl 1 (v189.map cdI.enc)), (23, .v (.int .i64 (v189.length : Int))), (24, .v (.int .i64 (wr .i64 (c239 + 1)))), (33, .tp []), (34, .tp []), (35, .tp []), (36, .tp []), (37, .tp [])] [some ⟨2, 94, [.ag [.v (.int .i64 y0), .e0]], false⟩, some ⟨2, 94, [.ag [.v (.int .i64 y1), .rf 2 0 c240.length c240.length]], false⟩, some ⟨1, 3, (c240.map cdI.enc), false⟩, some ⟨1, 50, [.sl 1 (y3.map (cdL 1 cdI).enc)], false⟩, none] (by kernel_rfl) ?_
        refine RunY.done rfl ?_
        exact SemYN.wk (s1 := ⟨Fr 42 [(0, .yl 4), (4, .sl 1 (v189.map cdI.enc)), (5, .v (.int .i64 c222)), (6, .v (.int .i64 v225)), (9, .sl 1 (y3.map (cdL 1 cdI).enc)), (10, .v (.int .i64 (y3.length : Int))), (11, .v (.int .i64 c186)), (15, .sl 1 (v189.map cdI.enc)), (16, .v (.int .i64 (v189.length : Int))), (17, .v (.int .i64 c222)), (22, .sl 1 (v189.map cdI.enc)), (23, .v (.int .i64 (v189.length : Int))), (24, .v (.int .i64 (wr .i64 (c239 + 1))))], [some ⟨2, 94, [.ag [.v (.int .i64 y0), .e0]], false⟩, some ⟨2, 94, [.ag [.v (.int .i64 y1), .rf 2 0 c240.length c240.length]], false⟩, some ⟨1, 3, (c240.map cdI.enc), false⟩, some ⟨1, 50, [.sl 1 (y3.map (cdL 1 cdI).enc)], false⟩, none]⟩) (WkY.fr (by kernel_rfl)) (ih (wr .i64 (c239 + 1)) c240 h)
    · rw [if_f hb241] at h
      refine SemY.exit ?_
      have hq := Option.some.inj h; subst hq
      exact ⟨rfl, (WkY.fr (by kernel_rfl))⟩
set_option maxHeartbeats 4000000 in
set_option maxRecDepth 100000 in
theorem evening_meetings_k3_2_ok (y0 : Int) (y1 : Int) (y3 : (List (List Int))) (y4 : (List (List (List Int)))) (y5 : Int) (y6 : Int) (c186 : Int) (v189 : (List Int)) : ∀ (f : Nat) (c222 : Int) (c223 : (List Int)) (r : ((List Int))), evening_meetings_k3_2 y0 y1 y3 y4 y5 y6 c186 v189 f c222 c223 = some r → SemYN e_evening_meetings_k3 (cx_evening_meetings_k3 y4 y5 y6) (pc cb_evening_meetings_k3 [1, 0, 0, 1, 1, 0, 0, 1, 1, 0, 0]) f ⟨Fr 42 [(0, .yl 4), (4, .sl 1 (v189.map cdI.enc)), (9, .sl 1 (y3.map (cdL 1 cdI).enc)), (10, .v (.int .i64 (y3.length : Int))), (11, .v (.int .i64 c186)), (15, .sl 1 (v189.map cdI.enc)), (16, .v (.int .i64 (v189.length : Int))), (17, .v (.int .i64 c222))], [some ⟨2, 94, [.ag [.v (.int .i64 y0), .e0]], false⟩, some ⟨2, 94, [.ag [.v (.int .i64 y1), .rf 2 0 c223.length c223.length]], false⟩, some ⟨1, 3, (c223.map cdI.enc), false⟩, some ⟨1, 50, [.sl 1 (y3.map (cdL 1 cdI).enc)], false⟩, none]⟩ (fun e s => e = (.exit 2) ∧ WkY e_evening_meetings_k3 s ⟨Fr 42 [(0, .yl 4), (9, .sl 1 (y3.map (cdL 1 cdI).enc)), (10, .v (.int .i64 (y3.length : Int))), (11, .v (.int .i64 c186))], [some ⟨2, 94, [.ag [.v (.int .i64 y0), .e0]], false⟩, some ⟨2, 94, [.ag [.v (.int .i64 y1), .rf 2 0 r.length r.length]], false⟩, some ⟨1, 3, (r.map cdI.enc), false⟩, some ⟨1, 50, [.sl 1 (y3.map (cdL 1 cdI).enc)], false⟩, none]⟩) := by
  intro f
  induction f with
  | zero => intro c222 c223 r h; cases h
  | succ f ih0 =>
    intro c222 c223 r h
    have ih := fun (c222 : Int) (c223 : (List Int)) => ih0 c222 c223 r
    unfold evening_meetings_k3_2 at h
    refine SemYN.succ ?_
    refine SemY.seq ?_
    refine SemY.region ?_
    refine RunY.segF (n := 42) e_evening_meetings_k3_ok 1 [(0, .yl 4), (4, .sl 1 (v189.map cdI.enc)), (9, .sl 1 (y3.map (cdL 1 cdI).enc)), (10, .v (.int .i64 (y3.length : Int))), (11, .v (.int .i64 c186)), (15, .sl 1 (v189.map cdI.enc)), (16, .v (.int .i64 (v189.length : Int))), (17, .v (.int .i64 c222)), (18, .v (.bool (decide (c222 < (v189.length : Int)))))] [some ⟨2, 94, [.ag [.v (.int .i64 y0), .e0]], false⟩, some ⟨2, 94, [.ag [.v (.int .i64 y1), .rf 2 0 c223.length c223.length]], false⟩, some ⟨1, 3, (c223.map cdI.enc), false⟩, some ⟨1, 50, [.sl 1 (y3.map (cdL 1 cdI).enc)], false⟩, none] (by kernel_rfl) ?_
    refine RunY.done rfl (SemY.fr (l' := [(0, .yl 4), (4, .sl 1 (v189.map cdI.enc)), (9, .sl 1 (y3.map (cdL 1 cdI).enc)), (10, .v (.int .i64 (y3.length : Int))), (11, .v (.int .i64 c186)), (15, .sl 1 (v189.map cdI.enc)), (16, .v (.int .i64 (v189.length : Int))), (17, .v (.int .i64 c222)), (18, .v (.bool (decide (c222 < (v189.length : Int)))))]) (by kernel_rfl) ?_)
    refine SemY.seq ?_
    refine SemY.cond (b := (decide (c222 < (v189.length : Int)))) (by kernel_rfl) (fun hb224 => ?_) (fun hb224 => ?_)
    · rw [if_pos hb224] at h
      refine SemY.skip ?_
      refine SemY.seq ?_
      refine SemY.block ?_
      refine SemY.seq ?_
      refine SemY.region ?_
      refine RunY.segF (n := 42) e_evening_meetings_k3_ok 1 [(0, .yl 4), (4, .sl 1 (v189.map cdI.enc)), (9, .sl 1 (y3.map (cdL 1 cdI).enc)), (10, .v (.int .i64 (y3.length : Int))), (11, .v (.int .i64 c186)), (15, .sl 1 (v189.map cdI.enc)), (16, .v (.int .i64 (v189.length : Int))), (17, .v (.int .i64 c222)), (19, .v (.int .i64 c222))] [some ⟨2, 94, [.ag [.v (.int .i64 y0), .e0]], false⟩, some ⟨2, 94, [.ag [.v (.int .i64 y1), .rf 2 0 c223.length c223.length]], false⟩, some ⟨1, 3, (c223.map cdI.enc), false⟩, some ⟨1, 50, [.sl 1 (y3.map (cdL 1 cdI).enc)], false⟩, none] (by kernel_rfl) ?_
      obtain ⟨v225, hv225, h⟩ := Option.bind_eq_some_iff.1 h
      refine RunY.one e_evening_meetings_k3_ok 0 rfl (op_q (wantedA_none rfl) rfl (q_indexAddr (a := .sl 1 (v189.map cdI.enc)) (b := .v (.int .i64 c222)) (by kernel_rfl) (by kernel_rfl) (ix_sl (e := cdI.enc) (el := 3) (k := 1) (ki := .i64) (by kernel_rfl) (by kernel_rfl) hv225))) ?_
      refine RunY.segF (n := 42) e_evening_meetings_k3_ok 3 [(0, .yl 4), (4, .sl 1 (v189.map cdI.enc)), (5, .v (.int .i64 c222)), (6, .v (.int .i64 v225)), (9, .sl 1 (y3.map (cdL 1 cdI).enc)), (10, .v (.int .i64 (y3.length : Int))), (11, .v (.int .i64 c186)), (15, .sl 1 (v189.map cdI.enc)), (16, .v (.int .i64 (v189.length : Int))), (17, .v (.int .i64 c222))] [some ⟨2, 94, [.ag [.v (.int .i64 y0), .e0]], false⟩, some ⟨2, 94, [.ag [.v (.int .i64 y1), .rf 2 0 c223.length c223.length]], false⟩, some ⟨1, 3, (c223.map cdI.enc), false⟩, some ⟨1, 50, [.sl 1 (y3.map (cdL 1 cdI).enc)], false⟩, none] (by kernel_rfl) ?_
      refine RunY.done rfl (SemY.fr (l' := [(0, .yl 4), (4, .sl 1 (v189.map cdI.enc)), (5, .v (.int .i64 c222)), (6, .v (.int .i64 v225)), (9, .sl 1 (y3.map (cdL 1 cdI).enc)), (10, .v (.int .i64 (y3.length : Int))), (11, .v (.int .i64 c186)), (15, .sl 1 (v189.map cdI.enc)), (16, .v (.int .i64 (v189.length : Int))), (17, .v (.int .i64 c222))]) (by kernel_rfl) ?_)
      refine SemY.seq ?_
      refine SemY.region ?_
      refine RunY.segF (n := 42) e_evening_meetings_k3_ok 1 [(0, .yl 4), (4, .sl 1 (v189.map cdI.enc)), (5, .v (.int .i64 c222)), (6, .v (.int .i64 v225)), (9, .sl 1 (y3.map (cdL 1 cdI).enc)), (10, .v (.int .i64 (y3.length : Int))), (11, .v (.int .i64 c186)), (15, .sl 1 (v189.map cdI.enc)), (16, .v (.int .i64 (v189.length : Int))), (17, .v (.int .i64 c222)), (22, .sl 1 (v189.map cdI.enc))] [some ⟨2, 94, [.ag [.v (.int .i64 y0), .e0]], false⟩, some ⟨2, 94, [.ag [.v (.int .i64 y1), .rf 2 0 c223.length c223.length]], false⟩, some ⟨1, 3, (c223.map cdI.enc), false⟩, some ⟨1, 50, [.sl 1 (y3.map (cdL 1 cdI).enc)], false⟩, none] (by kernel_rfl) ?_
      refine RunY.one e_evening_meetings_k3_ok 0 rfl (op_q (wantedA_none rfl) rfl (q_len (a := .sl 1 (v189.map cdI.enc)) (by kernel_rfl) (len_sl (el := 3) (by kernel_rfl)))) ?_
      refine RunY.segF (n := 42) e_evening_meetings_k3_ok 1 [(0, .yl 4), (4, .sl 1 (v189.map cdI.enc)), (5, .v (.int .i64 c222)), (6, .v (.int .i64 v225)), (9, .sl 1 (y3.map (cdL 1 cdI).enc)), (10, .v (.int .i64 (y3.length : Int))), (11, .v (.int .i64 c186)), (15, .sl 1 (v189.map cdI.enc)), (16, .v (.int .i64 (v189.length : Int))), (17, .v (.int .i64 c222)), (22, .sl 1 (v189.map cdI.enc)), (23, .v (.int .i64 (v189.length : Int))), (24, .v (.int .i64 0))] [some ⟨2, 94, [.ag [.v (.int .i64 y0), .e0]], false⟩, some ⟨2, 94, [.ag [.v (.int .i64 y1), .rf 2 0 c223.length c223.length]], false⟩, some ⟨1, 3, (c223.map cdI.enc), false⟩, some ⟨1, 50, [.sl 1 (y3.map (cdL 1 cdI).enc)], false⟩, none] (by kernel_rfl) ?_
      refine RunY.done rfl (SemY.fr (l' := [(0, .yl 4), (4, .sl 1 (v189.map cdI.enc)), (5, .v (.int .i64 c222)), (6, .v (.int .i64 v225)), (9, .sl 1 (y3.map (cdL 1 cdI).enc)), (10, .v (.int .i64 (y3.length : Int))), (11, .v (.int .i64 c186)), (15, .sl 1 (v189.map cdI.enc)), (16, .v (.int .i64 (v189.length : Int))), (17, .v (.int .i64 c222)), (22, .sl 1 (v189.map cdI.enc)), (23, .v (.int .i64 (v189.length : Int))), (24, .v (.int .i64 0))]) (by kernel_rfl) ?_)
      refine SemY.block ?_
      obtain ⟨r246, hr246, h⟩ := Option.bind_eq_some_iff.1 h
      refine SemY.loop (n := 100000) ?_
      refine SemY.cutN (SemYN.wk (s1 := ⟨Fr 42 [(0, .yl 4), (4, .sl 1 (v189.map cdI.enc)), (5, .v (.int .i64 c222)), (6, .v (.int .i64 v225)), (9, .sl 1 (y3.map (cdL 1 cdI).enc)), (10, .v (.int .i64 (y3.length : Int))), (11, .v (.int .i64 c186)), (15, .sl 1 (v189.map cdI.enc)), (16, .v (.int .i64 (v189.length : Int))), (17, .v (.int .i64 c222)), (22, .sl 1 (v189.map cdI.enc)), (23, .v (.int .i64 (v189.length : Int))), (24, .v (.int .i64 0))], [some ⟨2, 94, [.ag [.v (.int .i64 y0), .e0]], false⟩, some ⟨2, 94, [.ag [.v (.int .i64 y1), .rf 2 0 c223.length c223.length]], false⟩, some ⟨1, 3, (c223.map cdI.enc), false⟩, some ⟨1, 50, [.sl 1 (y3.map (cdL 1 cdI).enc)], false⟩, none]⟩) (WkY.fr (by kernel_rfl)) (evening_meetings_k3_3_ok y0 y1 y3 y4 y5 y6 c186 v189 c222 v225 _ 0 c223 _ hr246)) ?_
      refine SemY.region ?_
      refine RunY.segF (n := 42) e_evening_meetings_k3_ok 2 [(0, .yl 4), (4, .sl 1 (v189.map cdI.enc)), (9, .sl 1 (y3.map (cdL 1 cdI).enc)), (10, .v (.int .i64 (y3.length : Int))), (11, .v (.int .i64 c186)), (15, .sl 1 (v189.map cdI.enc)), (16, .v (.int .i64 (v189.length : Int))), (17, .v (.int .i64 (wr .i64 (c222 + 1))))] [some ⟨2, 94, [.ag [.v (.int .i64 y0), .e0]], false⟩, some ⟨2, 94, [.ag [.v (.int .i64 y1), .rf 2 0 r246.length r246.length]], false⟩, some ⟨1, 3, (r246.map cdI.enc), false⟩, some ⟨1, 50, [.sl 1 (y3.map (cdL 1 cdI).enc)], false⟩, none] (by kernel_rfl) ?_
      refine RunY.done rfl ?_
      exact SemYN.wk (s1 := ⟨Fr 42 [(0, .yl 4), (4, .sl 1 (v189.map cdI.enc)), (9, .sl 1 (y3.map (cdL 1 cdI).enc)), (10, .v (.int .i64 (y3.length : Int))), (11, .v (.int .i64 c186)), (15, .sl 1 (v189.map cdI.enc)), (16, .v (.int .i64 (v189.length : Int))), (17, .v (.int .i64 (wr .i64 (c222 + 1))))], [some ⟨2, 94, [.ag [.v (.int .i64 y0), .e0]], false⟩, some ⟨2, 94, [.ag [.v (.int .i64 y1), .rf 2 0 r246.length r246.length]], false⟩, some ⟨1, 3, (r246.map cdI.enc), false⟩, some ⟨1, 50, [.sl 1 (y3.map (cdL 1 cdI).enc)], false⟩, none]⟩) (WkY.fr (by kernel_rfl)) (ih (wr .i64 (c222 + 1)) r246 h)
    · rw [if_f hb224] at h
      refine SemY.exit ?_
      have hq := Option.some.inj h; subst hq
      exact ⟨rfl, (WkY.fr (by kernel_rfl))⟩
set_option maxHeartbeats 4000000 in
set_option maxRecDepth 100000 in
theorem evening_meetings_k3_1_ok (y0 : Int) (y1 : Int) (y3 : (List (List Int))) (y4 : (List (List (List Int)))) (y5 : Int) (y6 : Int) : ∀ (f : Nat) (c186 : Int) (c187 : (List Int)) (r : ((List Int))), evening_meetings_k3_1 y0 y1 y3 y4 y5 y6 f c186 c187 = some r → SemYN e_evening_meetings_k3 (cx_evening_meetings_k3 y4 y5 y6) (pc cb_evening_meetings_k3 [1, 0, 0]) f ⟨Fr 42 [(0, .yl 4), (9, .sl 1 (y3.map (cdL 1 cdI).enc)), (10, .v (.int .i64 (y3.length : Int))), (11, .v (.int .i64 c186))], [some ⟨2, 94, [.ag [.v (.int .i64 y0), .e0]], false⟩, some ⟨2, 94, [.ag [.v (.int .i64 y1), .rf 2 0 c187.length c187.length]], false⟩, some ⟨1, 3, (c187.map cdI.enc), false⟩, some ⟨1, 50, [.sl 1 (y3.map (cdL 1 cdI).enc)], false⟩, none]⟩ (fun e s => e = (.exit 0) ∧ WkY e_evening_meetings_k3 s ⟨Fr 42 [], [some ⟨2, 94, [.ag [.v (.int .i64 y0), .e0]], false⟩, some ⟨2, 94, [.ag [.v (.int .i64 y1), .rf 2 0 r.length r.length]], false⟩, some ⟨1, 3, (r.map cdI.enc), false⟩, some ⟨1, 50, [.sl 1 (y3.map (cdL 1 cdI).enc)], false⟩, none]⟩) := by
  intro f
  induction f with
  | zero => intro c186 c187 r h; cases h
  | succ f ih0 =>
    intro c186 c187 r h
    have ih := fun (c186 : Int) (c187 : (List Int)) => ih0 c186 c187 r
    unfold evening_meetings_k3_1 at h
    refine SemYN.succ ?_
    refine SemY.seq ?_
    refine SemY.region ?_
    refine RunY.segF (n := 42) e_evening_meetings_k3_ok 1 [(0, .yl 4), (9, .sl 1 (y3.map (cdL 1 cdI).enc)), (10, .v (.int .i64 (y3.length : Int))), (11, .v (.int .i64 c186)), (12, .v (.bool (decide (c186 < (y3.length : Int)))))] [some ⟨2, 94, [.ag [.v (.int .i64 y0), .e0]], false⟩, some ⟨2, 94, [.ag [.v (.int .i64 y1), .rf 2 0 c187.length c187.length]], false⟩, some ⟨1, 3, (c187.map cdI.enc), false⟩, some ⟨1, 50, [.sl 1 (y3.map (cdL 1 cdI).enc)], false⟩, none] (by kernel_rfl) ?_
    refine RunY.done rfl (SemY.fr (l' := [(0, .yl 4), (9, .sl 1 (y3.map (cdL 1 cdI).enc)), (10, .v (.int .i64 (y3.length : Int))), (11, .v (.int .i64 c186)), (12, .v (.bool (decide (c186 < (y3.length : Int)))))]) (by kernel_rfl) ?_)
    refine SemY.seq ?_
    refine SemY.cond (b := (decide (c186 < (y3.length : Int)))) (by kernel_rfl) (fun hb188 => ?_) (fun hb188 => ?_)
    · rw [if_pos hb188] at h
      refine SemY.skip ?_
      refine SemY.seq ?_
      refine SemY.block ?_
      refine SemY.seq ?_
      refine SemY.region ?_
      obtain ⟨v189, hv189, h⟩ := Option.bind_eq_some_iff.1 h
      refine RunY.one e_evening_meetings_k3_ok 0 rfl (op_q (wantedA_none rfl) rfl (q_indexAddr (a := .sl 1 (y3.map (cdL 1 cdI).enc)) (b := .v (.int .i64 c186)) (by kernel_rfl) (by kernel_rfl) (ix_sl (e := (cdL 1 cdI).enc) (el := 31) (k := 1) (ki := .i64) (by kernel_rfl) (by kernel_rfl) hv189))) ?_
      refine RunY.segF (n := 42) e_evening_meetings_k3_ok 2 [(0, .yl 4), (4, .sl 1 (v189.map cdI.enc)), (9, .sl 1 (y3.map (cdL 1 cdI).enc)), (10, .v (.int .i64 (y3.length : Int))), (11, .v (.int .i64 c186))] [some ⟨2, 94, [.ag [.v (.int .i64 y0), .e0]], false⟩, some ⟨2, 94, [.ag [.v (.int .i64 y1), .rf 2 0 c187.length c187.length]], false⟩, some ⟨1, 3, (c187.map cdI.enc), false⟩, some ⟨1, 50, [.sl 1 (y3.map (cdL 1 cdI).enc)], false⟩, none] (by kernel_rfl) ?_
      refine RunY.done rfl (SemY.fr (l' := [(0, .yl 4), (4, .sl 1 (v189.map cdI.enc)), (9, .sl 1 (y3.map (cdL 1 cdI).enc)), (10, .v (.int .i64 (y3.length : Int))), (11, .v (.int .i64 c186))]) (by kernel_rfl) ?_)
      refine SemY.seq ?_
      refine SemY.region ?_
      refine RunY.segF (n := 42) e_evening_meetings_k3_ok 1 [(0, .yl 4), (4, .sl 1 (v189.map cdI.enc)), (9, .sl 1 (y3.map (cdL 1 cdI).enc)), (10, .v (.int .i64 (y3.length : Int))), (11, .v (.int .i64 c186)), (15, .sl 1 (v189.map cdI.enc))] [some ⟨2, 94, [.ag [.v (.int .i64 y0), .e0]], false⟩, some ⟨2, 94, [.ag [.v (.int .i64 y1), .rf 2 0 c187.length c187.length]], false⟩, some ⟨1, 3, (c187.map cdI.enc), false⟩, some ⟨1, 50, [.sl 1 (y3.map (cdL 1 cdI).enc)], false⟩, none] (by kernel_rfl) ?_
      refine RunY.one e_evening_meetings_k3_ok 0 rfl (op_q (wantedA_none rfl) rfl (q_len (a := .sl 1 (v189.map cdI.enc)) (by kernel_rfl) (len_sl (el := 3) (by kernel_rfl)))) ?_
      refine RunY.segF (n := 42) e_evening_meetings_k3_ok 1 [(0, .yl 4), (4, .sl 1 (v189.map cdI.enc)), (9, .sl 1 (y3.map (cdL 1 cdI).enc)), (10, .v (.int .i64 (y3.length : Int))), (11, .v (.int .i64 c186)), (15, .sl 1 (v189.map cdI.enc)), (16, .v (.int .i64 (v189.length : Int))), (17, .v (.int .i64 0))] [some ⟨2, 94, [.ag [.v (.int .i64 y0), .e0]], false⟩, some ⟨2, 94, [.ag [.v (.int .i64 y1), .rf 2 0 c187.length c187.length]], false⟩, some ⟨1, 3, (c187.map cdI.enc), false⟩, some ⟨1, 50, [.sl 1 (y3.map (cdL 1 cdI).enc)], false⟩, none] (by kernel_rfl) ?_
      refine RunY.done rfl (SemY.fr (l' := [(0, .yl 4), (4, .sl 1 (v189.map cdI.enc)), (9, .sl 1 (y3.map (cdL 1 cdI).enc)), (10, .v (.int .i64 (y3.length : Int))), (11, .v (.int .i64 c186)), (15, .sl 1 (v189.map cdI.enc)), (16, .v (.int .i64 (v189.length : Int))), (17, .v (.int .i64 0))]) (by kernel_rfl) ?_)
      refine SemY.block ?_
      obtain ⟨r248, hr248, h⟩ := Option.bind_eq_some_iff.1 h
      refine SemY.loop (n := 100000) ?_
      refine SemY.cutN (SemYN.wk (s1 := ⟨Fr 42 [(0, .yl 4), (4, .sl 1 (v189.map cdI.enc)), (9, .sl 1 (y3.map (cdL 1 cdI).enc)), (10, .v (.int .i64 (y3.length : Int))), (11, .v (.int .i64 c186)), (15, .sl 1 (v189.map cdI.enc)), (16, .v (.int .i64 (v189.length : Int))), (17, .v (.int .i64 0))], [some ⟨2, 94, [.ag [.v (.int .i64 y0), .e0]], false⟩, some ⟨2, 94, [.ag [.v (.int .i64 y1), .rf 2 0 c187.length c187.length]], false⟩, some ⟨1, 3, (c187.map cdI.enc), false⟩, some ⟨1, 50, [.sl 1 (y3.map (cdL 1 cdI).enc)], false⟩, none]⟩) (WkY.fr (by kernel_rfl)) (evening_meetings_k3_2_ok y0 y1 y3 y4 y5 y6 c186 v189 _ 0 c187 _ hr248)) ?_
      refine SemY.region ?_
      refine RunY.segF (n := 42) e_evening_meetings_k3_ok 2 [(0, .yl 4), (9, .sl 1 (y3.map (cdL 1 cdI).enc)), (10, .v (.int .i64 (y3.length : Int))), (11, .v (.int .i64 (wr .i64 (c186 + 1))))] [some ⟨2, 94, [.ag [.v (.int .i64 y0), .e0]], false⟩, some ⟨2, 94, [.ag [.v (.int .i64 y1), .rf 2 0 r248.length r248.length]], false⟩, some ⟨1, 3, (r248.map cdI.enc), false⟩, some ⟨1, 50, [.sl 1 (y3.map (cdL 1 cdI).enc)], false⟩, none] (by kernel_rfl) ?_
      refine RunY.done rfl ?_
      exact SemYN.wk (s1 := ⟨Fr 42 [(0, .yl 4), (9, .sl 1 (y3.map (cdL 1 cdI).enc)), (10, .v (.int .i64 (y3.length : Int))), (11, .v (.int .i64 (wr .i64 (c186 + 1))))], [some ⟨2, 94, [.ag [.v (.int .i64 y0), .e0]], false⟩, some ⟨2, 94, [.ag [.v (.int .i64 y1), .rf 2 0 r248.length r248.length]], false⟩, some ⟨1, 3, (r248.map cdI.enc), false⟩, some ⟨1, 50, [.sl 1 (y3.map (cdL 1 cdI).enc)], false⟩, none]⟩) (WkY.fr (by kernel_rfl)) (ih (wr .i64 (c186 + 1)) r248 h)
    · rw [if_f hb188] at h
      refine SemY.exit ?_
      have hq := Option.some.inj h; subst hq
      exact ⟨rfl, (WkY.fr (by kernel_rfl))⟩
set_option maxHeartbeats 4000000 in
set_option maxRecDepth 100000 in
theorem evening_meetings_k3_sem (y0 : Int) (y1 : Int) (y2 : (List Int)) (y3 : (List (List Int))) (y4 : (List (List (List Int)))) (y5 : Int) (y6 : Int) (r : (List Int)) (h : evening_meetings_k3 y0 y1 y2 y3 y4 y5 y6 = some r) : SemY e_evening_meetings_k3 (cx_evening_meetings_k3 y4 y5 y6) cb_evening_meetings_k3 ⟨Fr 42 (pairs0 0 [.yl 4, .pt 3 0 0]), [some ⟨2, 94, [.ag [.v (.int .i64 y0), .e0]], false⟩, some ⟨2, 94, [.ag [.v (.int .i64 y1), .rf 2 0 y2.length y2.length]], false⟩, some ⟨1, 3, (y2.map cdI.enc), false⟩, some ⟨1, 50, [.sl 1 (y3.map (cdL 1 cdI).enc)], false⟩, none]⟩ fun x s' => (x = .normal ∨ x = .ret) ∧ ∃ ys, resA e_evening_meetings_k3.P s'.fr s'.hp Tryd.f108.results.toList = some ys ∧ (retA ys = .tp [] ∧ s'.hp = [some ⟨2, 94, [.ag [.v (.int .i64 y0), .e0]], false⟩, some ⟨2, 94, [.ag [.v (.int .i64 y1), .rf 2 0 r.length r.length]], false⟩, some ⟨1, 3, (r.map cdI.enc), false⟩, some ⟨1, 50, [.sl 1 (y3.map (cdL 1 cdI).enc)], false⟩, none]) := by
  unfold evening_meetings_k3 at h
  refine SemY.seq ?_
  refine SemY.region ?_
  refine RunY.segF (n := 42) e_evening_meetings_k3_ok 1 [(0, .yl 4), (9, .sl 1 (y3.map (cdL 1 cdI).enc))] [some ⟨2, 94, [.ag [.v (.int .i64 y0), .e0]], false⟩, some ⟨2, 94, [.ag [.v (.int .i64 y1), .rf 2 0 y2.length y2.length]], false⟩, some ⟨1, 3, (y2.map cdI.enc), false⟩, some ⟨1, 50, [.sl 1 (y3.map (cdL 1 cdI).enc)], false⟩, none] (by kernel_rfl) ?_
  refine RunY.one e_evening_meetings_k3_ok 0 rfl (op_q (wantedA_none rfl) rfl (q_len (a := .sl 1 (y3.map (cdL 1 cdI).enc)) (by kernel_rfl) (len_sl (el := 31) (by kernel_rfl)))) ?_
  refine RunY.segF (n := 42) e_evening_meetings_k3_ok 1 [(0, .yl 4), (9, .sl 1 (y3.map (cdL 1 cdI).enc)), (10, .v (.int .i64 (y3.length : Int))), (11, .v (.int .i64 0))] [some ⟨2, 94, [.ag [.v (.int .i64 y0), .e0]], false⟩, some ⟨2, 94, [.ag [.v (.int .i64 y1), .rf 2 0 y2.length y2.length]], false⟩, some ⟨1, 3, (y2.map cdI.enc), false⟩, some ⟨1, 50, [.sl 1 (y3.map (cdL 1 cdI).enc)], false⟩, none] (by kernel_rfl) ?_
  refine RunY.done rfl (SemY.fr (l' := [(0, .yl 4), (9, .sl 1 (y3.map (cdL 1 cdI).enc)), (10, .v (.int .i64 (y3.length : Int))), (11, .v (.int .i64 0))]) (by kernel_rfl) ?_)
  refine SemY.block ?_
  obtain ⟨r250, hr250, h⟩ := Option.bind_eq_some_iff.1 h
  refine SemY.loop (n := 100000) ?_
  refine SemY.cutN (SemYN.wk (s1 := ⟨Fr 42 [(0, .yl 4), (9, .sl 1 (y3.map (cdL 1 cdI).enc)), (10, .v (.int .i64 (y3.length : Int))), (11, .v (.int .i64 0))], [some ⟨2, 94, [.ag [.v (.int .i64 y0), .e0]], false⟩, some ⟨2, 94, [.ag [.v (.int .i64 y1), .rf 2 0 y2.length y2.length]], false⟩, some ⟨1, 3, (y2.map cdI.enc), false⟩, some ⟨1, 50, [.sl 1 (y3.map (cdL 1 cdI).enc)], false⟩, none]⟩) (WkY.fr (by kernel_rfl)) (evening_meetings_k3_1_ok y0 y1 y3 y4 y5 y6 _ 0 y2 _ hr250)) ?_
  have hq := Option.some.inj h; subst hq
  exact ⟨.inl rfl, [], (by kernel_rfl), (by kernel_rfl), (by kernel_rfl)⟩
def evening_meetings_1 (x1 : (List (List (List Int)))) (v1 : Int × Int × (List Int)) : Nat → (List Int) → Int → Option (((List Int)))
  | 0, _, _ => none
  | f + 1, c13, c14 =>
    if (decide (c14 < (x1.length : Int))) = true then
    (idx x1 c14).bind fun v16 =>
    (evening_meetings_k2 0 v1.1 c13 v16).bind fun v17 =>
    (evening_meetings_k3 0 v1.1 c13 v17 x1 (x1.length : Int) c14).bind fun v18 =>
    evening_meetings_1 x1 v1 f v18 (wr .i64 (c14 + 1))
    else
    some c13
def evening_meetings (x0 : Int) (x1 : (List (List (List Int)))) : Option ((Int × (List Int))) :=
  (evening_meetings_k1 0 x0).bind fun v1 =>
  (evening_meetings_1 x1 v1 100000 v1.2.2 0).bind fun r20 =>
  some (v1.1, r20)
def cs_evening_meetings : Cs (Int × (List (List (List Int))) × Unit) := (csC cdI (csC (cdL 1 (cdL 1 (cdL 1 cdI))) csN))
def er_evening_meetings (r : (Int × (List Int))) : AV := (cdG2 cdI (cdL 1 cdI) (fun _ => rfl) (fun _ => rfl)).enc r
set_option maxHeartbeats 4000000 in
set_option maxRecDepth 100000 in
theorem evening_meetings_1_ok (x1 : (List (List (List Int)))) (v1 : Int × Int × (List Int)) : ∀ (f : Nat) (c13 : (List Int)) (c14 : Int) (r : ((List Int))), evening_meetings_1 x1 v1 f c13 c14 = some r → SemN e_evening_meetings ⟨none, false⟩ (pc cb_evening_meetings [1, 1, 0, 1, 0, 0]) f ⟨Fr 32 [(4, .pt 0 0 0), (5, .pt 1 0 0), (12, .sl 1 (x1.map (cdL 1 (cdL 1 cdI)).enc)), (13, .v (.int .i64 (x1.length : Int))), (14, .v (.int .i64 c14))], [some ⟨2, 94, [.ag [.v (.int .i64 0), .e0]], false⟩, some ⟨2, 94, [.ag [.v (.int .i64 v1.1), .rf 2 0 c13.length c13.length]], false⟩, some ⟨1, 3, (c13.map cdI.enc), false⟩]⟩ (fun e s => e = (.exit 0) ∧ Wk e_evening_meetings s ⟨Fr 32 [(4, .pt 0 0 0), (5, .pt 1 0 0)], [some ⟨2, 94, [.ag [.v (.int .i64 0), .e0]], false⟩, some ⟨2, 94, [.ag [.v (.int .i64 v1.1), .rf 2 0 r.length r.length]], false⟩, some ⟨1, 3, (r.map cdI.enc), false⟩]⟩) := by
  intro f
  induction f with
  | zero => intro c13 c14 r h; cases h
  | succ f ih0 =>
    intro c13 c14 r h
    have ih := fun (c13 : (List Int)) (c14 : Int) => ih0 c13 c14 r
    unfold evening_meetings_1 at h
    refine SemN.succ ?_
    refine Sem.seq ?_
    refine Sem.runS (s1 := ⟨Fr 32 [(4, .pt 0 0 0), (5, .pt 1 0 0), (12, .sl 1 (x1.map (cdL 1 (cdL 1 cdI)).enc)), (13, .v (.int .i64 (x1.length : Int))), (14, .v (.int .i64 c14)), (15, .v (.bool (decide (c14 < (x1.length : Int)))))], [some ⟨2, 94, [.ag [.v (.int .i64 0), .e0]], false⟩, some ⟨2, 94, [.ag [.v (.int .i64 v1.1), .rf 2 0 c13.length c13.length]], false⟩, some ⟨1, 3, (c13.map cdI.enc), false⟩]⟩) ?_ ?_
    · refine RunS.segF (n := 32) e_evening_meetings_ok 1 [(4, .pt 0 0 0), (5, .pt 1 0 0), (12, .sl 1 (x1.map (cdL 1 (cdL 1 cdI)).enc)), (13, .v (.int .i64 (x1.length : Int))), (14, .v (.int .i64 c14)), (15, .v (.bool (decide (c14 < (x1.length : Int)))))] [some ⟨2, 94, [.ag [.v (.int .i64 0), .e0]], false⟩, some ⟨2, 94, [.ag [.v (.int .i64 v1.1), .rf 2 0 c13.length c13.length]], false⟩, some ⟨1, 3, (c13.map cdI.enc), false⟩] (by kernel_rfl) ?_
      exact RunS.done rfl (Wk.s3 [0, 1, 2] ⟨⟨_, rfl, bu_d⟩, ⟨_, rfl, bu_d⟩, ⟨_, rfl, bu_own⟩, trivial⟩ ⟨lv, lv, lv, lv, lv, lv, trivial⟩)
    refine Sem.seq ?_
    refine Sem.cond (b := (decide (c14 < (x1.length : Int)))) (by kernel_rfl) (fun hb15 => ?_) (fun hb15 => ?_)
    · rw [if_pos hb15] at h
      refine Sem.skip ?_
      refine Sem.seq ?_
      refine Sem.block ?_
      refine Sem.seq ?_
      obtain ⟨v16, hv16, h⟩ := Option.bind_eq_some_iff.1 h
      refine Sem.runS (s1 := ⟨Fr 32 [(4, .pt 0 0 0), (5, .pt 1 0 0), (7, .sl 1 (v16.map (cdL 1 cdI).enc)), (12, .sl 1 (x1.map (cdL 1 (cdL 1 cdI)).enc)), (13, .v (.int .i64 (x1.length : Int))), (14, .v (.int .i64 c14))], [some ⟨2, 94, [.ag [.v (.int .i64 0), .e0]], false⟩, some ⟨2, 94, [.ag [.v (.int .i64 v1.1), .rf 2 0 c13.length c13.length]], false⟩, some ⟨1, 3, (c13.map cdI.enc), false⟩]⟩) ?_ ?_
      · refine RunS.one e_evening_meetings_ok 0 rfl (op_q (wantedA_none rfl) rfl (q_indexAddr (a := .sl 1 (x1.map (cdL 1 (cdL 1 cdI)).enc)) (b := .v (.int .i64 c14)) (by kernel_rfl) (by kernel_rfl) (ix_sl (e := (cdL 1 (cdL 1 cdI)).enc) (el := 50) (k := 1) (ki := .i64) (by kernel_rfl) (by kernel_rfl) hv16))) ?_
        refine RunS.segF (n := 32) e_evening_meetings_ok 2 [(4, .pt 0 0 0), (5, .pt 1 0 0), (7, .sl 1 (v16.map (cdL 1 cdI).enc)), (12, .sl 1 (x1.map (cdL 1 (cdL 1 cdI)).enc)), (13, .v (.int .i64 (x1.length : Int))), (14, .v (.int .i64 c14))] [some ⟨2, 94, [.ag [.v (.int .i64 0), .e0]], false⟩, some ⟨2, 94, [.ag [.v (.int .i64 v1.1), .rf 2 0 c13.length c13.length]], false⟩, some ⟨1, 3, (c13.map cdI.enc), false⟩] (by kernel_rfl) ?_
        exact RunS.done rfl (Wk.s3 [0, 1, 2] ⟨⟨_, rfl, bu_d⟩, ⟨_, rfl, bu_d⟩, ⟨_, rfl, bu_own⟩, trivial⟩ ⟨lv, lv, lv, lv, lv, lv, trivial⟩)
      refine Sem.seq ?_
      obtain ⟨v17, hv17, h⟩ := Option.bind_eq_some_iff.1 h
      refine Sem.runS (s1 := ⟨Fr 32 [(4, .pt 0 0 0), (5, .pt 1 0 0), (12, .sl 1 (x1.map (cdL 1 (cdL 1 cdI)).enc)), (13, .v (.int .i64 (x1.length : Int))), (14, .v (.int .i64 c14)), (19, .fn 108 [] [.pt 3 0 0])], [some ⟨2, 94, [.ag [.v (.int .i64 0), .e0]], false⟩, some ⟨2, 94, [.ag [.v (.int .i64 v1.1), .rf 2 0 c13.length c13.length]], false⟩, some ⟨1, 3, (c13.map cdI.enc), false⟩, some ⟨1, 50, [.sl 1 (v17.map (cdL 1 cdI).enc)], false⟩]⟩) ?_ ?_
      · refine RunS.segF (n := 32) e_evening_meetings_ok 1 [(4, .pt 0 0 0), (5, .pt 1 0 0), (12, .sl 1 (x1.map (cdL 1 (cdL 1 cdI)).enc)), (13, .v (.int .i64 (x1.length : Int))), (14, .v (.int .i64 c14)), (18, .sl 1 (v16.map (cdL 1 cdI).enc))] [some ⟨2, 94, [.ag [.v (.int .i64 0), .e0]], false⟩, some ⟨2, 94, [.ag [.v (.int .i64 v1.1), .rf 2 0 c13.length c13.length]], false⟩, some ⟨1, 3, (c13.map cdI.enc), false⟩] (by kernel_rfl) ?_
        refine RunS.inlY (fid := 72) (caps := []) (xs := [.sl 1 (v16.map (cdL 1 cdI).enc)]) (fn := Tryd.f72) (Out := fun x h' => x = .fn 108 [] [.pt 3 0 0] ∧ h' = [some ⟨2, 94, [.ag [.v (.int .i64 0), .e0]], false⟩, some ⟨2, 94, [.ag [.v (.int .i64 v1.1), .rf 2 0 c13.length c13.length]], false⟩, some ⟨1, 3, (c13.map cdI.enc), false⟩, some ⟨1, 50, [.sl 1 (v17.map (cdL 1 cdI).enc)], false⟩]) rfl rfl e_evening_meetings_k2_ok rfl rfl rfl (wantedA_none rfl) (by kernel_rfl) (by kernel_rfl) (by kernel_rfl) (by kernel_rfl) (by show 1 ≤ 4; decide) (evening_meetings_k2_sem 0 v1.1 c13 v16 _ hv17) ?_
        rintro x h' ⟨rfl, rfl⟩
        exact RunS.done rfl (Wk.s3 [0, 1, 2, 3] ⟨⟨_, rfl, bu_d⟩, ⟨_, rfl, bu_d⟩, ⟨_, rfl, bu_own⟩, ⟨_, rfl, bu_d⟩, trivial⟩ ⟨lv, lv, lv, lv, lv, lv, trivial⟩)
      refine Sem.block ?_
      obtain ⟨v18, hv18, h⟩ := Option.bind_eq_some_iff.1 h
      refine Sem.range (E := e_evening_meetings) (gid := 108) (caps := [.pt 3 0 0]) (fn := Tryd.f108) (Out := fun x h' => x = .tp [] ∧ h' = [some ⟨2, 94, [.ag [.v (.int .i64 0), .e0]], false⟩, some ⟨2, 94, [.ag [.v (.int .i64 v1.1), .rf 2 0 v18.length v18.length]], false⟩, some ⟨1, 3, (v18.map cdI.enc), false⟩, some ⟨1, 50, [.sl 1 (v17.map (cdL 1 cdI).enc)], false⟩, none]) rfl rfl e_evening_meetings_k3_ok rfl rfl rfl (by kernel_rfl) (by kernel_rfl) (by kernel_rfl) (by kernel_rfl) (by kernel_rfl) (by show 2 ≤ 42; decide) (evening_meetings_k3_sem 0 v1.1 c13 v17 x1 (x1.length : Int) c14 _ hv18) ?_
      rintro x h' ⟨-, rfl⟩
      refine Sem.runS (s1 := ⟨Fr 32 [(4, .pt 0 0 0), (5, .pt 1 0 0), (12, .sl 1 (x1.map (cdL 1 (cdL 1 cdI)).enc)), (13, .v (.int .i64 (x1.length : Int))), (14, .v (.int .i64 (wr .i64 (c14 + 1))))], [some ⟨2, 94, [.ag [.v (.int .i64 0), .e0]], false⟩, some ⟨2, 94, [.ag [.v (.int .i64 v1.1), .rf 2 0 v18.length v18.length]], false⟩, some ⟨1, 3, (v18.map cdI.enc), false⟩]⟩) ?_ ?_
      · refine RunS.segF (n := 32) e_evening_meetings_ok 2 [(4, .pt 0 0 0), (5, .pt 1 0 0), (12, .sl 1 (x1.map (cdL 1 (cdL 1 cdI)).enc)), (13, .v (.int .i64 (x1.length : Int))), (14, .v (.int .i64 (wr .i64 (c14 + 1))))] [some ⟨2, 94, [.ag [.v (.int .i64 0), .e0]], false⟩, some ⟨2, 94, [.ag [.v (.int .i64 v1.1), .rf 2 0 v18.length v18.length]], false⟩, some ⟨1, 3, (v18.map cdI.enc), false⟩, some ⟨1, 50, [.sl 1 (v17.map (cdL 1 cdI).enc)], false⟩, none] (by kernel_rfl) ?_
        exact RunS.done rfl (Wk.s3 [0, 1, 2] ⟨⟨_, rfl, bu_d⟩, ⟨_, rfl, bu_d⟩, ⟨_, rfl, bu_own⟩, trivial⟩ ⟨lv, lv, lv, lv, lv, trivial⟩)
      exact SemN.wk (s1 := ⟨Fr 32 [(4, .pt 0 0 0), (5, .pt 1 0 0), (12, .sl 1 (x1.map (cdL 1 (cdL 1 cdI)).enc)), (13, .v (.int .i64 (x1.length : Int))), (14, .v (.int .i64 (wr .i64 (c14 + 1))))], [some ⟨2, 94, [.ag [.v (.int .i64 0), .e0]], false⟩, some ⟨2, 94, [.ag [.v (.int .i64 v1.1), .rf 2 0 v18.length v18.length]], false⟩, some ⟨1, 3, (v18.map cdI.enc), false⟩]⟩) (Wk.s3 [0, 1, 2] ⟨⟨_, rfl, bu_d⟩, ⟨_, rfl, bu_d⟩, ⟨_, rfl, bu_own⟩, trivial⟩ ⟨lv, lv, lv, lv, lv, trivial⟩) (ih v18 (wr .i64 (c14 + 1)) h)
    · rw [if_f hb15] at h
      refine Sem.exit ?_
      have hq := Option.some.inj h; subst hq
      exact ⟨rfl, (Wk.s3 [0, 1, 2] ⟨⟨_, rfl, bu_d⟩, ⟨_, rfl, bu_d⟩, ⟨_, rfl, bu_own⟩, trivial⟩ ⟨lv, lv, trivial⟩)⟩
set_option maxHeartbeats 4000000 in
set_option maxRecDepth 100000 in
theorem evening_meetings_sem (x0 : Int) (x1 : (List (List (List Int)))) (r : (Int × (List Int))) (h : evening_meetings x0 x1 = some r) : Sem e_evening_meetings ⟨none, false⟩ cb_evening_meetings ⟨Fr 32 (pairs0 0 (cs_evening_meetings.enc (x0, x1, ()))), []⟩ fun e s' => (e = .normal ∨ e = .ret) ∧ ∃ xs, resA e_evening_meetings.P s'.fr s'.hp Tryd.f80.results.toList = some xs ∧ retA xs = er_evening_meetings r := by
  unfold evening_meetings at h
  refine Sem.wkQ (Sem.wk (s1 := ⟨Fr 32 [(0, .v (.int .i64 x0)), (1, .sl 1 (x1.map (cdL 1 (cdL 1 cdI)).enc))], []⟩) Wk.f1 ?_)
  refine Sem.seq ?_
  refine Sem.runS (s1 := ⟨Fr 32 [(0, .v (.int .i64 x0)), (1, .sl 1 (x1.map (cdL 1 (cdL 1 cdI)).enc)), (4, .pt 0 0 0)], [some ⟨2, 94, [.ag [.v (.int .i64 0), .e0]], false⟩]⟩) ?_ ?_
  · refine RunS.segF (n := 32) e_evening_meetings_ok 1 [(0, .v (.int .i64 x0)), (1, .sl 1 (x1.map (cdL 1 (cdL 1 cdI)).enc)), (4, .pt 0 0 0)] [some ⟨2, 94, [.ag [.v (.int .i64 0), .e0]], false⟩] (by kernel_rfl) ?_
    exact RunS.done rfl (Wk.s3 [0] ⟨⟨_, rfl, bu_d⟩, trivial⟩ ⟨lv, lv, lv, trivial⟩)
  refine Sem.seq ?_
  obtain ⟨v1, hv1, h⟩ := Option.bind_eq_some_iff.1 h
  refine Sem.runS (s1 := ⟨Fr 32 [(1, .sl 1 (x1.map (cdL 1 (cdL 1 cdI)).enc)), (4, .pt 0 0 0), (5, .pt 1 0 0)], [some ⟨2, 94, [.ag [.v (.int .i64 0), .e0]], false⟩, some ⟨2, 94, [.ag [.v (.int .i64 v1.1), .rf 2 0 v1.2.2.length v1.2.2.length]], false⟩, some ⟨1, 3, (v1.2.2.map cdI.enc), false⟩]⟩) ?_ ?_
  · refine RunS.segF (n := 32) e_evening_meetings_ok 1 [(1, .sl 1 (x1.map (cdL 1 (cdL 1 cdI)).enc)), (4, .pt 0 0 0), (10, .v (.int .i64 x0))] [some ⟨2, 94, [.ag [.v (.int .i64 0), .e0]], false⟩] (by kernel_rfl) ?_
    refine RunS.inlY (fid := 68) (caps := []) (xs := [.v (.int .i64 x0)]) (fn := Tryd.f68) (Out := fun x h' => x = .ag [.v (.int .i64 v1.1), .rf 2 0 v1.2.2.length v1.2.2.length] ∧ h' = [some ⟨2, 94, [.ag [.v (.int .i64 0), .e0]], false⟩, some ⟨2, 94, [.ag [.v (.int .i64 v1.2.1), .rf 2 0 v1.2.2.length v1.2.2.length]], false⟩, some ⟨1, 3, (v1.2.2.map cdI.enc), false⟩]) rfl rfl e_evening_meetings_k1_ok rfl rfl rfl (wantedA_none rfl) (by kernel_rfl) (by kernel_rfl) (by kernel_rfl) (by kernel_rfl) (by show 1 ≤ 9; decide) (evening_meetings_k1_sem 0 x0 _ hv1) ?_
    rintro x h' ⟨rfl, rfl⟩
    refine RunS.segF (n := 32) e_evening_meetings_ok 2 [(1, .sl 1 (x1.map (cdL 1 (cdL 1 cdI)).enc)), (4, .pt 0 0 0), (5, .pt 3 0 0)] [some ⟨2, 94, [.ag [.v (.int .i64 0), .e0]], false⟩, some ⟨2, 94, [.ag [.v (.int .i64 v1.2.1), .rf 2 0 v1.2.2.length v1.2.2.length]], false⟩, some ⟨1, 3, (v1.2.2.map cdI.enc), false⟩, some ⟨2, 94, [.ag [.v (.int .i64 v1.1), .rf 2 0 v1.2.2.length v1.2.2.length]], false⟩] (by kernel_rfl) ?_
    exact RunS.done rfl (Wk.s3 [0, 3, 2] ⟨⟨_, rfl, bu_d⟩, ⟨_, rfl, bu_d⟩, ⟨_, rfl, bu_own⟩, trivial⟩ ⟨lv, lv, lv, trivial⟩)
  refine Sem.seq ?_
  refine Sem.seq ?_
  refine Sem.runS (s1 := ⟨Fr 32 [(4, .pt 0 0 0), (5, .pt 1 0 0), (12, .sl 1 (x1.map (cdL 1 (cdL 1 cdI)).enc)), (13, .v (.int .i64 (x1.length : Int))), (14, .v (.int .i64 0))], [some ⟨2, 94, [.ag [.v (.int .i64 0), .e0]], false⟩, some ⟨2, 94, [.ag [.v (.int .i64 v1.1), .rf 2 0 v1.2.2.length v1.2.2.length]], false⟩, some ⟨1, 3, (v1.2.2.map cdI.enc), false⟩]⟩) ?_ ?_
  · refine RunS.segF (n := 32) e_evening_meetings_ok 1 [(4, .pt 0 0 0), (5, .pt 1 0 0), (12, .sl 1 (x1.map (cdL 1 (cdL 1 cdI)).enc))] [some ⟨2, 94, [.ag [.v (.int .i64 0), .e0]], false⟩, some ⟨2, 94, [.ag [.v (.int .i64 v1.1), .rf 2 0 v1.2.2.length v1.2.2.length]], false⟩, some ⟨1, 3, (v1.2.2.map cdI.enc), false⟩] (by kernel_rfl) ?_
    refine RunS.one e_evening_meetings_ok 0 rfl (op_q (wantedA_none rfl) rfl (q_len (a := .sl 1 (x1.map (cdL 1 (cdL 1 cdI)).enc)) (by kernel_rfl) (len_sl (el := 50) (by kernel_rfl)))) ?_
    refine RunS.segF (n := 32) e_evening_meetings_ok 1 [(4, .pt 0 0 0), (5, .pt 1 0 0), (12, .sl 1 (x1.map (cdL 1 (cdL 1 cdI)).enc)), (13, .v (.int .i64 (x1.length : Int))), (14, .v (.int .i64 0))] [some ⟨2, 94, [.ag [.v (.int .i64 0), .e0]], false⟩, some ⟨2, 94, [.ag [.v (.int .i64 v1.1), .rf 2 0 v1.2.2.length v1.2.2.length]], false⟩, some ⟨1, 3, (v1.2.2.map cdI.enc), false⟩] (by kernel_rfl) ?_
    exact RunS.done rfl (Wk.s3 [0, 1, 2] ⟨⟨_, rfl, bu_d⟩, ⟨_, rfl, bu_d⟩, ⟨_, rfl, bu_own⟩, trivial⟩ ⟨lv, lv, lv, lv, lv, trivial⟩)
  refine Sem.block ?_
  obtain ⟨r20, hr20, h⟩ := Option.bind_eq_some_iff.1 h
  refine Sem.loop (n := 100000) ?_
  refine Sem.cutN (SemN.wk (s1 := ⟨Fr 32 [(4, .pt 0 0 0), (5, .pt 1 0 0), (12, .sl 1 (x1.map (cdL 1 (cdL 1 cdI)).enc)), (13, .v (.int .i64 (x1.length : Int))), (14, .v (.int .i64 0))], [some ⟨2, 94, [.ag [.v (.int .i64 0), .e0]], false⟩, some ⟨2, 94, [.ag [.v (.int .i64 v1.1), .rf 2 0 v1.2.2.length v1.2.2.length]], false⟩, some ⟨1, 3, (v1.2.2.map cdI.enc), false⟩]⟩) (Wk.s3 [0, 1, 2] ⟨⟨_, rfl, bu_d⟩, ⟨_, rfl, bu_d⟩, ⟨_, rfl, bu_own⟩, trivial⟩ ⟨lv, lv, lv, lv, lv, trivial⟩) (evening_meetings_1_ok x1 v1 _ v1.2.2 0 _ hr20)) ?_
  refine Sem.seq ?_
  refine Sem.runS (s1 := ⟨Fr 32 [(4, .pt 0 0 0)], [some ⟨2, 94, [.ag [.v (.int .i64 v1.1), .rf 1 0 r20.length r20.length]], false⟩, some ⟨1, 3, (r20.map cdI.enc), false⟩]⟩) ?_ ?_
  · refine RunS.segF (n := 32) e_evening_meetings_ok 2 [(4, .pt 0 0 0)] [some ⟨2, 94, [.ag [.v (.int .i64 v1.1), .rf 2 0 r20.length r20.length]], false⟩, some ⟨2, 94, [.ag [.v (.int .i64 v1.1), .rf 2 0 r20.length r20.length]], false⟩, some ⟨1, 3, (r20.map cdI.enc), false⟩] (by kernel_rfl) ?_
    exact RunS.done rfl (Wk.s3 [0, 2] ⟨⟨_, rfl, bu_d⟩, ⟨_, rfl, bu_own⟩, trivial⟩ ⟨lv, trivial⟩)
  refine Sem.ret ?_
  have hq := Option.some.inj h; subst hq
  exact ⟨⟨Fr 32 [(4, .pt 0 0 0)], [some ⟨2, 94, [.ag [.v (.int .i64 v1.1), .sl 1 (r20.map cdI.enc)]], false⟩]⟩, (Wk.trans (s1 := ⟨Fr 32 [(4, .pt 0 0 0)], [some ⟨2, 94, [.ag [.v (.int .i64 v1.1), .sl 1 (r20.map cdI.enc)]], false⟩, none]⟩) (Wk.frzG2 1 (.inl (by kernel_rfl)) ⟨.inr (.inr ⟨_, _, _, _, rfl, rfl, ⟨(.inr ⟨_, _, rfl, rfl, ⟨.inl rfl, fz_rlT (c := cdI) (xs := r20) (t := 3) (by kernel_rfl), trivial⟩⟩), trivial⟩⟩), .inl rfl, trivial⟩ ⟨⟨.pt 0 0 0, (by kernel_rfl), (.inl (.inl rfl))⟩, trivial⟩) (Wk.s3 [0] ⟨⟨_, rfl, bu_d⟩, trivial⟩ ⟨lv, trivial⟩)), .inr rfl, [.ag [.v (.int .i64 v1.1), .sl 1 (r20.map cdI.enc)]], (by kernel_rfl), (by kernel_rfl)⟩
def t_evening_meetings : List AV → Option AV := told cs_evening_meetings (fun a => evening_meetings a.1 a.2.1) er_evening_meetings
theorem x_evening_meetings : XOk 80 t_evening_meetings := by
  refine EnvOk.x (E := e_evening_meetings) (contract_ok e_evening_meetings_ok (fn := Tryd.f80) (c := cb_evening_meetings) ?h1 ?h2 ⟨Tryd.call80⟩ cs_evening_meetings (fun a => evening_meetings a.1 a.2.1) er_evening_meetings (fun a => (by show 2 ≤ 32; decide)) ?h3 ?h4) rfl rfl
  case h1 => kernel_rfl
  case h2 => kernel_rfl
  case h3 => intro b; kernel_rfl
  case h4 => exact fun a b h => evening_meetings_sem a.1 a.2.1 b h
/- trestle/evening.extremes -/
noncomputable def e_evening_extremes : Env := (E0.withX 80 t_evening_meetings)
theorem e_evening_extremes_ok : EnvOk e_evening_extremes := (EnvOk.withX E0_ok x_evening_meetings.1 x_evening_meetings.2)
noncomputable def cb_evening_extremes : Code := codeOf Tryd.f85
def evening_extremes_2 (x0 : Int) (v1 : (Int × (List Int))) (c33 : Int) : Nat → Int → Int → Int → Option ((Int × Int))
  | 0, _, _, _ => none
  | f + 1, c47, c48, c49 =>
    if (decide (c49 < c33)) = true then
    (square_at (v1.1, v1.2) c33 c49).bind fun v51 =>
    (square_at (v1.1, v1.2) c33 c49).bind fun v52 =>
    evening_extremes_2 x0 v1 c33 f (mnI c47 v51) (mxI c48 v52) (wr .i64 (c49 + 1))
    else
    some (c47, c48)
def evening_extremes_1 (x0 : Int) (v1 : (Int × (List Int))) : Nat → Int → Int → Int → Option ((Int × Int))
  | 0, _, _, _ => none
  | f + 1, c31, c32, c33 =>
    if (decide (c33 < x0)) = true then
    (evening_extremes_2 x0 v1 c33 100000 c31 c32 0).bind fun r55 =>
    evening_extremes_1 x0 v1 f r55.1 r55.2 (wr .i64 (c33 + 1))
    else
    some (c31, c32)
def evening_extremes_j3 (x0 : Int) (r58 : Int × Int) : Option ((Int)) :=
  if (x0 == 1) = true then
  some 0
  else
  some r58.1
def evening_extremes (x0 : Int) (x1 : (List (List (List Int)))) : Option (Int × Int) :=
  (evening_meetings x0 x1).bind fun v1 =>
  (evening_extremes_1 x0 v1 100000 64 0 0).bind fun r58 =>
  (evening_extremes_j3 x0 r58).bind fun r61 =>
  some (r61, r58.2)
def cs_evening_extremes : Cs (Int × (List (List (List Int))) × Unit) := (csC cdI (csC (cdL 1 (cdL 1 (cdL 1 cdI))) csN))
def er_evening_extremes (r : Int × Int) : AV := .tp [cdI.enc r.1, cdI.enc r.2]
set_option maxHeartbeats 4000000 in
set_option maxRecDepth 100000 in
theorem evening_extremes_2_ok (x0 : Int) (v1 : (Int × (List Int))) (c33 : Int) : ∀ (f : Nat) (c47 : Int) (c48 : Int) (c49 : Int) (r : (Int × Int)), evening_extremes_2 x0 v1 c33 f c47 c48 c49 = some r → SemN e_evening_extremes ⟨none, false⟩ (pc cb_evening_extremes [1, 1, 1, 0, 1, 0, 0, 1, 1, 0, 0, 1, 1, 0, 0]) f ⟨Fr 44 [(0, .v (.int .i64 x0)), (6, .pt 0 0 0), (7, .v (.int .i64 c47)), (8, .v (.int .i64 c48)), (9, .v (.int .i64 c33)), (14, .v (.int .i64 x0)), (15, .v (.int .i64 c33)), (18, .v (.int .i64 c33)), (19, .v (.int .i64 c49))], [some ⟨2, 94, [.ag [.v (.int .i64 v1.1), .sl 1 (v1.2.map cdI.enc)]], false⟩]⟩ (fun e s => e = (.exit 2) ∧ Wk e_evening_extremes s ⟨Fr 44 [(0, .v (.int .i64 x0)), (6, .pt 0 0 0), (7, .v (.int .i64 r.1)), (8, .v (.int .i64 r.2)), (14, .v (.int .i64 x0)), (15, .v (.int .i64 c33))], [some ⟨2, 94, [.ag [.v (.int .i64 v1.1), .sl 1 (v1.2.map cdI.enc)]], false⟩]⟩) := by
  intro f
  induction f with
  | zero => intro c47 c48 c49 r h; cases h
  | succ f ih0 =>
    intro c47 c48 c49 r h
    have ih := fun (c47 : Int) (c48 : Int) (c49 : Int) => ih0 c47 c48 c49 r
    unfold evening_extremes_2 at h
    refine SemN.succ ?_
    refine Sem.seq ?_
    refine Sem.runS (s1 := ⟨Fr 44 [(0, .v (.int .i64 x0)), (6, .pt 0 0 0), (7, .v (.int .i64 c47)), (8, .v (.int .i64 c48)), (9, .v (.int .i64 c33)), (14, .v (.int .i64 x0)), (15, .v (.int .i64 c33)), (18, .v (.int .i64 c33)), (19, .v (.int .i64 c49)), (20, .v (.bool (decide (c49 < c33))))], [some ⟨2, 94, [.ag [.v (.int .i64 v1.1), .sl 1 (v1.2.map cdI.enc)]], false⟩]⟩) ?_ ?_
    · refine RunS.segF (n := 44) e_evening_extremes_ok 1 [(0, .v (.int .i64 x0)), (6, .pt 0 0 0), (7, .v (.int .i64 c47)), (8, .v (.int .i64 c48)), (9, .v (.int .i64 c33)), (14, .v (.int .i64 x0)), (15, .v (.int .i64 c33)), (18, .v (.int .i64 c33)), (19, .v (.int .i64 c49)), (20, .v (.bool (decide (c49 < c33))))] [some ⟨2, 94, [.ag [.v (.int .i64 v1.1), .sl 1 (v1.2.map cdI.enc)]], false⟩] (by kernel_rfl) ?_
      exact RunS.done rfl (Wk.s3 [0] ⟨⟨_, rfl, bu_d⟩, trivial⟩ ⟨lv, lv, lv, lv, lv, lv, lv, lv, lv, lv, trivial⟩)
    refine Sem.seq ?_
    refine Sem.cond (b := (decide (c49 < c33))) (by kernel_rfl) (fun hb50 => ?_) (fun hb50 => ?_)
    · rw [if_pos hb50] at h
      refine Sem.skip ?_
      refine Sem.seq ?_
      refine Sem.block ?_
      refine Sem.seq ?_
      refine Sem.runS (s1 := ⟨Fr 44 [(0, .v (.int .i64 x0)), (6, .pt 0 0 0), (7, .v (.int .i64 c47)), (8, .v (.int .i64 c48)), (9, .v (.int .i64 c33)), (10, .v (.int .i64 c49)), (14, .v (.int .i64 x0)), (15, .v (.int .i64 c33)), (18, .v (.int .i64 c33)), (19, .v (.int .i64 c49))], [some ⟨2, 94, [.ag [.v (.int .i64 v1.1), .sl 1 (v1.2.map cdI.enc)]], false⟩]⟩) ?_ ?_
      · refine RunS.segF (n := 44) e_evening_extremes_ok 2 [(0, .v (.int .i64 x0)), (6, .pt 0 0 0), (7, .v (.int .i64 c47)), (8, .v (.int .i64 c48)), (9, .v (.int .i64 c33)), (10, .v (.int .i64 c49)), (14, .v (.int .i64 x0)), (15, .v (.int .i64 c33)), (18, .v (.int .i64 c33)), (19, .v (.int .i64 c49))] [some ⟨2, 94, [.ag [.v (.int .i64 v1.1), .sl 1 (v1.2.map cdI.enc)]], false⟩] (by kernel_rfl) ?_
        exact RunS.done rfl (Wk.s3 [0] ⟨⟨_, rfl, bu_d⟩, trivial⟩ ⟨lv, lv, lv, lv, lv, lv, lv, lv, lv, lv, trivial⟩)
      obtain ⟨v51, hv51, h⟩ := Option.bind_eq_some_iff.1 h
      obtain ⟨v52, hv52, h⟩ := Option.bind_eq_some_iff.1 h
      refine Sem.runDS e_evening_extremes_ok (s1 := ⟨Fr 44 [(0, .v (.int .i64 x0)), (6, .pt 0 0 0), (7, .v (.int .i64 (mnI c47 v51))), (8, .v (.int .i64 (mxI c48 v52))), (9, .v (.int .i64 c33)), (14, .v (.int .i64 x0)), (15, .v (.int .i64 c33)), (18, .v (.int .i64 c33)), (19, .v (.int .i64 c49))], [some ⟨2, 94, [.ag [.v (.int .i64 v1.1), .sl 1 (v1.2.map cdI.enc)]], false⟩]⟩) (by kernel_rfl) ?_ ?_
      · refine RunDS.segF (n := 44) e_evening_extremes_ok 4 [(0, .v (.int .i64 x0)), (6, .pt 0 0 0), (8, .v (.int .i64 c48)), (9, .v (.int .i64 c33)), (10, .v (.int .i64 c49)), (14, .v (.int .i64 x0)), (15, .v (.int .i64 c33)), (18, .v (.int .i64 c33)), (19, .v (.int .i64 c49)), (22, .v (.int .i64 c47)), (23, .ag [.v (.int .i64 v1.1), .sl 1 (v1.2.map cdI.enc)]), (24, .v (.int .i64 c33)), (25, .v (.int .i64 c49))] [some ⟨2, 94, [.ag [.v (.int .i64 v1.1), .sl 1 (v1.2.map cdI.enc)]], false⟩] (by kernel_rfl) (by kernel_rfl) ?_
        refine RunDS.peek rfl x_square_at (u := ((v1.1, v1.2), c33, c49, ())) rfl (wantedA_none rfl) (by kernel_rfl) (by kernel_rfl) rfl hv51 ?_
        refine RunDS.segF (n := 44) e_evening_extremes_ok 7 [(0, .v (.int .i64 x0)), (6, .pt 0 0 0), (9, .v (.int .i64 c33)), (14, .v (.int .i64 x0)), (15, .v (.int .i64 c33)), (18, .v (.int .i64 c33)), (19, .v (.int .i64 c49)), (29, .v (.int .i64 (mnI c47 v51))), (30, .v (.int .i64 c48)), (31, .ag [.v (.int .i64 v1.1), .sl 1 (v1.2.map cdI.enc)]), (32, .v (.int .i64 c33)), (33, .v (.int .i64 c49))] [some ⟨2, 94, [.ag [.v (.int .i64 v1.1), .sl 1 (v1.2.map cdI.enc)]], false⟩] (by kernel_rfl) (by kernel_rfl) ?_
        refine RunDS.peek rfl x_square_at (u := ((v1.1, v1.2), c33, c49, ())) rfl (wantedA_none rfl) (by kernel_rfl) (by kernel_rfl) rfl hv52 ?_
        refine RunDS.segF (n := 44) e_evening_extremes_ok 5 [(0, .v (.int .i64 x0)), (6, .pt 0 0 0), (7, .v (.int .i64 (mnI c47 v51))), (8, .v (.int .i64 (mxI c48 v52))), (9, .v (.int .i64 c33)), (14, .v (.int .i64 x0)), (15, .v (.int .i64 c33)), (18, .v (.int .i64 c33)), (19, .v (.int .i64 c49))] [some ⟨2, 94, [.ag [.v (.int .i64 v1.1), .sl 1 (v1.2.map cdI.enc)]], false⟩] (by kernel_rfl) (by kernel_rfl) ?_
        exact RunDS.done rfl (Wk.s3 [0] ⟨⟨_, rfl, bu_d⟩, trivial⟩ ⟨lv, lv, lv, lv, lv, lv, lv, lv, lv, trivial⟩)
      refine Sem.runS (s1 := ⟨Fr 44 [(0, .v (.int .i64 x0)), (6, .pt 0 0 0), (7, .v (.int .i64 (mnI c47 v51))), (8, .v (.int .i64 (mxI c48 v52))), (9, .v (.int .i64 c33)), (14, .v (.int .i64 x0)), (15, .v (.int .i64 c33)), (18, .v (.int .i64 c33)), (19, .v (.int .i64 (wr .i64 (c49 + 1))))], [some ⟨2, 94, [.ag [.v (.int .i64 v1.1), .sl 1 (v1.2.map cdI.enc)]], false⟩]⟩) ?_ ?_
      · refine RunS.segF (n := 44) e_evening_extremes_ok 2 [(0, .v (.int .i64 x0)), (6, .pt 0 0 0), (7, .v (.int .i64 (mnI c47 v51))), (8, .v (.int .i64 (mxI c48 v52))), (9, .v (.int .i64 c33)), (14, .v (.int .i64 x0)), (15, .v (.int .i64 c33)), (18, .v (.int .i64 c33)), (19, .v (.int .i64 (wr .i64 (c49 + 1))))] [some ⟨2, 94, [.ag [.v (.int .i64 v1.1), .sl 1 (v1.2.map cdI.enc)]], false⟩] (by kernel_rfl) ?_
        exact RunS.done rfl (Wk.s3 [0] ⟨⟨_, rfl, bu_d⟩, trivial⟩ ⟨lv, lv, lv, lv, lv, lv, lv, lv, lv, trivial⟩)
      exact SemN.wk (s1 := ⟨Fr 44 [(0, .v (.int .i64 x0)), (6, .pt 0 0 0), (7, .v (.int .i64 (mnI c47 v51))), (8, .v (.int .i64 (mxI c48 v52))), (9, .v (.int .i64 c33)), (14, .v (.int .i64 x0)), (15, .v (.int .i64 c33)), (18, .v (.int .i64 c33)), (19, .v (.int .i64 (wr .i64 (c49 + 1))))], [some ⟨2, 94, [.ag [.v (.int .i64 v1.1), .sl 1 (v1.2.map cdI.enc)]], false⟩]⟩) (Wk.s3 [0] ⟨⟨_, rfl, bu_d⟩, trivial⟩ ⟨lv, lv, lv, lv, lv, lv, lv, lv, lv, trivial⟩) (ih (mnI c47 v51) (mxI c48 v52) (wr .i64 (c49 + 1)) h)
    · rw [if_f hb50] at h
      refine Sem.exit ?_
      have hq := Option.some.inj h; subst hq
      exact ⟨rfl, (Wk.s3 [0] ⟨⟨_, rfl, bu_d⟩, trivial⟩ ⟨lv, lv, lv, lv, lv, lv, trivial⟩)⟩
set_option maxHeartbeats 4000000 in
set_option maxRecDepth 100000 in
theorem evening_extremes_1_ok (x0 : Int) (v1 : (Int × (List Int))) : ∀ (f : Nat) (c31 : Int) (c32 : Int) (c33 : Int) (r : (Int × Int)), evening_extremes_1 x0 v1 f c31 c32 c33 = some r → SemN e_evening_extremes ⟨none, false⟩ (pc cb_evening_extremes [1, 1, 1, 0, 1, 0, 0]) f ⟨Fr 44 [(0, .v (.int .i64 x0)), (6, .pt 0 0 0), (7, .v (.int .i64 c31)), (8, .v (.int .i64 c32)), (14, .v (.int .i64 x0)), (15, .v (.int .i64 c33))], [some ⟨2, 94, [.ag [.v (.int .i64 v1.1), .sl 1 (v1.2.map cdI.enc)]], false⟩]⟩ (fun e s => e = (.exit 0) ∧ Wk e_evening_extremes s ⟨Fr 44 [(0, .v (.int .i64 x0)), (7, .v (.int .i64 r.1)), (8, .v (.int .i64 r.2))], []⟩) := by
  intro f
  induction f with
  | zero => intro c31 c32 c33 r h; cases h
  | succ f ih0 =>
    intro c31 c32 c33 r h
    have ih := fun (c31 : Int) (c32 : Int) (c33 : Int) => ih0 c31 c32 c33 r
    unfold evening_extremes_1 at h
    refine SemN.succ ?_
    refine Sem.seq ?_
    refine Sem.runS (s1 := ⟨Fr 44 [(0, .v (.int .i64 x0)), (6, .pt 0 0 0), (7, .v (.int .i64 c31)), (8, .v (.int .i64 c32)), (14, .v (.int .i64 x0)), (15, .v (.int .i64 c33)), (16, .v (.bool (decide (c33 < x0))))], [some ⟨2, 94, [.ag [.v (.int .i64 v1.1), .sl 1 (v1.2.map cdI.enc)]], false⟩]⟩) ?_ ?_
    · refine RunS.segF (n := 44) e_evening_extremes_ok 1 [(0, .v (.int .i64 x0)), (6, .pt 0 0 0), (7, .v (.int .i64 c31)), (8, .v (.int .i64 c32)), (14, .v (.int .i64 x0)), (15, .v (.int .i64 c33)), (16, .v (.bool (decide (c33 < x0))))] [some ⟨2, 94, [.ag [.v (.int .i64 v1.1), .sl 1 (v1.2.map cdI.enc)]], false⟩] (by kernel_rfl) ?_
      exact RunS.done rfl (Wk.s3 [0] ⟨⟨_, rfl, bu_d⟩, trivial⟩ ⟨lv, lv, lv, lv, lv, lv, lv, trivial⟩)
    refine Sem.seq ?_
    refine Sem.cond (b := (decide (c33 < x0))) (by kernel_rfl) (fun hb34 => ?_) (fun hb34 => ?_)
    · rw [if_pos hb34] at h
      refine Sem.skip ?_
      refine Sem.seq ?_
      refine Sem.block ?_
      refine Sem.seq ?_
      refine Sem.runS (s1 := ⟨Fr 44 [(0, .v (.int .i64 x0)), (6, .pt 0 0 0), (7, .v (.int .i64 c31)), (8, .v (.int .i64 c32)), (9, .v (.int .i64 c33)), (14, .v (.int .i64 x0)), (15, .v (.int .i64 c33))], [some ⟨2, 94, [.ag [.v (.int .i64 v1.1), .sl 1 (v1.2.map cdI.enc)]], false⟩]⟩) ?_ ?_
      · refine RunS.segF (n := 44) e_evening_extremes_ok 2 [(0, .v (.int .i64 x0)), (6, .pt 0 0 0), (7, .v (.int .i64 c31)), (8, .v (.int .i64 c32)), (9, .v (.int .i64 c33)), (14, .v (.int .i64 x0)), (15, .v (.int .i64 c33))] [some ⟨2, 94, [.ag [.v (.int .i64 v1.1), .sl 1 (v1.2.map cdI.enc)]], false⟩] (by kernel_rfl) ?_
        exact RunS.done rfl (Wk.s3 [0] ⟨⟨_, rfl, bu_d⟩, trivial⟩ ⟨lv, lv, lv, lv, lv, lv, lv, trivial⟩)
      refine Sem.seq ?_
      refine Sem.runS (s1 := ⟨Fr 44 [(0, .v (.int .i64 x0)), (6, .pt 0 0 0), (7, .v (.int .i64 c31)), (8, .v (.int .i64 c32)), (9, .v (.int .i64 c33)), (14, .v (.int .i64 x0)), (15, .v (.int .i64 c33)), (18, .v (.int .i64 c33)), (19, .v (.int .i64 0))], [some ⟨2, 94, [.ag [.v (.int .i64 v1.1), .sl 1 (v1.2.map cdI.enc)]], false⟩]⟩) ?_ ?_
      · refine RunS.segF (n := 44) e_evening_extremes_ok 2 [(0, .v (.int .i64 x0)), (6, .pt 0 0 0), (7, .v (.int .i64 c31)), (8, .v (.int .i64 c32)), (9, .v (.int .i64 c33)), (14, .v (.int .i64 x0)), (15, .v (.int .i64 c33)), (18, .v (.int .i64 c33)), (19, .v (.int .i64 0))] [some ⟨2, 94, [.ag [.v (.int .i64 v1.1), .sl 1 (v1.2.map cdI.enc)]], false⟩] (by kernel_rfl) ?_
        exact RunS.done rfl (Wk.s3 [0] ⟨⟨_, rfl, bu_d⟩, trivial⟩ ⟨lv, lv, lv, lv, lv, lv, lv, lv, lv, trivial⟩)
      refine Sem.block ?_
      obtain ⟨r55, hr55, h⟩ := Option.bind_eq_some_iff.1 h
      refine Sem.loop (n := 100000) ?_
      refine Sem.cutN (SemN.wk (s1 := ⟨Fr 44 [(0, .v (.int .i64 x0)), (6, .pt 0 0 0), (7, .v (.int .i64 c31)), (8, .v (.int .i64 c32)), (9, .v (.int .i64 c33)), (14, .v (.int .i64 x0)), (15, .v (.int .i64 c33)), (18, .v (.int .i64 c33)), (19, .v (.int .i64 0))], [some ⟨2, 94, [.ag [.v (.int .i64 v1.1), .sl 1 (v1.2.map cdI.enc)]], false⟩]⟩) (Wk.s3 [0] ⟨⟨_, rfl, bu_d⟩, trivial⟩ ⟨lv, lv, lv, lv, lv, lv, lv, lv, lv, trivial⟩) (evening_extremes_2_ok x0 v1 c33 _ c31 c32 0 _ hr55)) ?_
      refine Sem.runS (s1 := ⟨Fr 44 [(0, .v (.int .i64 x0)), (6, .pt 0 0 0), (7, .v (.int .i64 r55.1)), (8, .v (.int .i64 r55.2)), (14, .v (.int .i64 x0)), (15, .v (.int .i64 (wr .i64 (c33 + 1))))], [some ⟨2, 94, [.ag [.v (.int .i64 v1.1), .sl 1 (v1.2.map cdI.enc)]], false⟩]⟩) ?_ ?_
      · refine RunS.segF (n := 44) e_evening_extremes_ok 2 [(0, .v (.int .i64 x0)), (6, .pt 0 0 0), (7, .v (.int .i64 r55.1)), (8, .v (.int .i64 r55.2)), (14, .v (.int .i64 x0)), (15, .v (.int .i64 (wr .i64 (c33 + 1))))] [some ⟨2, 94, [.ag [.v (.int .i64 v1.1), .sl 1 (v1.2.map cdI.enc)]], false⟩] (by kernel_rfl) ?_
        exact RunS.done rfl (Wk.s3 [0] ⟨⟨_, rfl, bu_d⟩, trivial⟩ ⟨lv, lv, lv, lv, lv, lv, trivial⟩)
      exact SemN.wk (s1 := ⟨Fr 44 [(0, .v (.int .i64 x0)), (6, .pt 0 0 0), (7, .v (.int .i64 r55.1)), (8, .v (.int .i64 r55.2)), (14, .v (.int .i64 x0)), (15, .v (.int .i64 (wr .i64 (c33 + 1))))], [some ⟨2, 94, [.ag [.v (.int .i64 v1.1), .sl 1 (v1.2.map cdI.enc)]], false⟩]⟩) (Wk.s3 [0] ⟨⟨_, rfl, bu_d⟩, trivial⟩ ⟨lv, lv, lv, lv, lv, lv, trivial⟩) (ih r55.1 r55.2 (wr .i64 (c33 + 1)) h)
    · rw [if_f hb34] at h
      refine Sem.exit ?_
      have hq := Option.some.inj h; subst hq
      exact ⟨rfl, (Wk.s3 [] trivial ⟨lv, lv, lv, trivial⟩)⟩
set_option maxHeartbeats 4000000 in
set_option maxRecDepth 100000 in
theorem evening_extremes_j3_ok (x0 : Int) (r58 : Int × Int) (r : (Int)) (h : evening_extremes_j3 x0 r58 = some r) : Sem e_evening_extremes ⟨none, false⟩ (pc cb_evening_extremes [1, 1, 1, 1, 0, 1]) ⟨Fr 44 [(7, .v (.int .i64 r58.1)), (8, .v (.int .i64 r58.2)), (41, .v (.bool (x0 == 1)))], []⟩ (fun e s => e = .normal ∧ Wk e_evening_extremes s ⟨Fr 44 [(7, .v (.int .i64 r)), (8, .v (.int .i64 r58.2))], []⟩) := by
  unfold evening_extremes_j3 at h
  refine Sem.cond (b := (x0 == 1)) (by kernel_rfl) (fun hb59 => ?_) (fun hb59 => ?_)
  · rw [if_pos hb59] at h
    refine Sem.runS (s1 := ⟨Fr 44 [(7, .v (.int .i64 0)), (8, .v (.int .i64 r58.2))], []⟩) ?_ ?_
    · refine RunS.segF (n := 44) e_evening_extremes_ok 1 [(7, .v (.int .i64 0)), (8, .v (.int .i64 r58.2))] [] (by kernel_rfl) ?_
      exact RunS.done rfl Wk.f1
    have hq := Option.some.inj h; subst hq
    exact ⟨rfl, Wk.f1⟩
  · rw [if_f hb59] at h
    refine Sem.skip ?_
    have hq := Option.some.inj h; subst hq
    exact ⟨rfl, Wk.f1⟩
set_option maxHeartbeats 4000000 in
set_option maxRecDepth 100000 in
theorem evening_extremes_sem (x0 : Int) (x1 : (List (List (List Int)))) (r : Int × Int) (h : evening_extremes x0 x1 = some r) : Sem e_evening_extremes ⟨none, false⟩ cb_evening_extremes ⟨Fr 44 (pairs0 0 (cs_evening_extremes.enc (x0, x1, ()))), []⟩ fun e s' => (e = .normal ∨ e = .ret) ∧ ∃ xs, resA e_evening_extremes.P s'.fr s'.hp Tryd.f85.results.toList = some xs ∧ retA xs = er_evening_extremes r := by
  unfold evening_extremes at h
  refine Sem.wkQ (Sem.wk (s1 := ⟨Fr 44 [(0, .v (.int .i64 x0)), (1, .sl 1 (x1.map (cdL 1 (cdL 1 cdI)).enc))], []⟩) Wk.f1 ?_)
  refine Sem.seq ?_
  refine Sem.runS (s1 := ⟨Fr 44 [(0, .v (.int .i64 x0)), (1, .sl 1 (x1.map (cdL 1 (cdL 1 cdI)).enc))], []⟩) ?_ ?_
  · refine RunS.segF (n := 44) e_evening_extremes_ok 2 [(0, .v (.int .i64 x0)), (1, .sl 1 (x1.map (cdL 1 (cdL 1 cdI)).enc))] [] (by kernel_rfl) ?_
    exact RunS.done rfl Wk.f1
  refine Sem.seq ?_
  obtain ⟨v1, hv1, h⟩ := Option.bind_eq_some_iff.1 h
  refine Sem.runS (s1 := ⟨Fr 44 [(0, .v (.int .i64 x0)), (6, .pt 0 0 0)], [some ⟨2, 94, [.ag [.v (.int .i64 v1.1), .sl 1 (v1.2.map cdI.enc)]], false⟩]⟩) ?_ ?_
  · refine RunS.segF (n := 44) e_evening_extremes_ok 2 [(0, .v (.int .i64 x0)), (11, .v (.int .i64 x0)), (12, .sl 1 (x1.map (cdL 1 (cdL 1 cdI)).enc))] [] (by kernel_rfl) ?_
    refine RunS.call e_evening_extremes_ok (fid := 80) (s := cs_evening_meetings) (F := fun a => evening_meetings a.1 a.2.1) (er := er_evening_meetings) (xs := [.v (.int .i64 x0), .sl 1 (x1.map (cdL 1 (cdL 1 cdI)).enc)]) (a := (x0, x1, ())) rfl (wantedA_none rfl) (by kernel_rfl) (by kernel_rfl) (by kernel_rfl) (by kernel_rfl) (Sns.cons (Sn.enc (c := cdI) (v := x0)) (Sns.cons (Sn.enc (c := (cdL 1 (cdL 1 (cdL 1 cdI)))) (v := x1)) Sns.nil)) (.inl (by kernel_rfl)) hv1 ?_
    refine RunS.segF (n := 44) e_evening_extremes_ok 2 [(0, .v (.int .i64 x0)), (6, .pt 0 0 0)] [some ⟨2, 94, [.ag [.v (.int .i64 v1.1), .sl 1 (v1.2.map cdI.enc)]], false⟩] (by kernel_rfl) ?_
    exact RunS.done rfl (Wk.s3 [0] ⟨⟨_, rfl, bu_d⟩, trivial⟩ ⟨lv, lv, trivial⟩)
  refine Sem.seq ?_
  refine Sem.runS (s1 := ⟨Fr 44 [(0, .v (.int .i64 x0)), (6, .pt 0 0 0), (7, .v (.int .i64 64)), (8, .v (.int .i64 0))], [some ⟨2, 94, [.ag [.v (.int .i64 v1.1), .sl 1 (v1.2.map cdI.enc)]], false⟩]⟩) ?_ ?_
  · refine RunS.segF (n := 44) e_evening_extremes_ok 2 [(0, .v (.int .i64 x0)), (6, .pt 0 0 0), (7, .v (.int .i64 64)), (8, .v (.int .i64 0))] [some ⟨2, 94, [.ag [.v (.int .i64 v1.1), .sl 1 (v1.2.map cdI.enc)]], false⟩] (by kernel_rfl) ?_
    exact RunS.done rfl (Wk.s3 [0] ⟨⟨_, rfl, bu_d⟩, trivial⟩ ⟨lv, lv, lv, lv, trivial⟩)
  refine Sem.seq ?_
  refine Sem.seq ?_
  refine Sem.runS (s1 := ⟨Fr 44 [(0, .v (.int .i64 x0)), (6, .pt 0 0 0), (7, .v (.int .i64 64)), (8, .v (.int .i64 0)), (14, .v (.int .i64 x0)), (15, .v (.int .i64 0))], [some ⟨2, 94, [.ag [.v (.int .i64 v1.1), .sl 1 (v1.2.map cdI.enc)]], false⟩]⟩) ?_ ?_
  · refine RunS.segF (n := 44) e_evening_extremes_ok 2 [(0, .v (.int .i64 x0)), (6, .pt 0 0 0), (7, .v (.int .i64 64)), (8, .v (.int .i64 0)), (14, .v (.int .i64 x0)), (15, .v (.int .i64 0))] [some ⟨2, 94, [.ag [.v (.int .i64 v1.1), .sl 1 (v1.2.map cdI.enc)]], false⟩] (by kernel_rfl) ?_
    exact RunS.done rfl (Wk.s3 [0] ⟨⟨_, rfl, bu_d⟩, trivial⟩ ⟨lv, lv, lv, lv, lv, lv, trivial⟩)
  refine Sem.block ?_
  obtain ⟨r58, hr58, h⟩ := Option.bind_eq_some_iff.1 h
  refine Sem.loop (n := 100000) ?_
  refine Sem.cutN (SemN.wk (s1 := ⟨Fr 44 [(0, .v (.int .i64 x0)), (6, .pt 0 0 0), (7, .v (.int .i64 64)), (8, .v (.int .i64 0)), (14, .v (.int .i64 x0)), (15, .v (.int .i64 0))], [some ⟨2, 94, [.ag [.v (.int .i64 v1.1), .sl 1 (v1.2.map cdI.enc)]], false⟩]⟩) (Wk.s3 [0] ⟨⟨_, rfl, bu_d⟩, trivial⟩ ⟨lv, lv, lv, lv, lv, lv, trivial⟩) (evening_extremes_1_ok x0 v1 _ 64 0 0 _ hr58)) ?_
  refine Sem.seq ?_
  refine Sem.seq ?_
  refine Sem.runS (s1 := ⟨Fr 44 [(7, .v (.int .i64 r58.1)), (8, .v (.int .i64 r58.2)), (41, .v (.bool (x0 == 1)))], []⟩) ?_ ?_
  · refine RunS.segF (n := 44) e_evening_extremes_ok 2 [(7, .v (.int .i64 r58.1)), (8, .v (.int .i64 r58.2)), (41, .v (.bool (x0 == 1)))] [] (by kernel_rfl) ?_
    exact RunS.done rfl Wk.f1
  obtain ⟨r61, hr61, h⟩ := Option.bind_eq_some_iff.1 h
  refine Sem.cut (evening_extremes_j3_ok x0 r58 _ hr61) ?_
  refine Sem.seq ?_
  refine Sem.runS (s1 := ⟨Fr 44 [(4, .v (.int .i64 r61)), (5, .v (.int .i64 r58.2))], []⟩) ?_ ?_
  · refine RunS.segF (n := 44) e_evening_extremes_ok 4 [(4, .v (.int .i64 r61)), (5, .v (.int .i64 r58.2))] [] (by kernel_rfl) ?_
    exact RunS.done rfl Wk.f1
  refine Sem.ret ?_
  have hq := Option.some.inj h; subst hq
  exact ⟨⟨Fr 44 [(4, .v (.int .i64 r61)), (5, .v (.int .i64 r58.2))], []⟩, Wk.f1, .inr rfl, [.v (.int .i64 r61), .v (.int .i64 r58.2)], (by kernel_rfl), (by kernel_rfl)⟩
def t_evening_extremes : List AV → Option AV := told cs_evening_extremes (fun a => evening_extremes a.1 a.2.1) er_evening_extremes
theorem x_evening_extremes : XOk 85 t_evening_extremes := by
  refine EnvOk.x (E := e_evening_extremes) (contract_ok e_evening_extremes_ok (fn := Tryd.f85) (c := cb_evening_extremes) ?h1 ?h2 ⟨Tryd.call85⟩ cs_evening_extremes (fun a => evening_extremes a.1 a.2.1) er_evening_extremes (fun a => (by show 2 ≤ 44; decide)) ?h3 ?h4) rfl rfl
  case h1 => kernel_rfl
  case h2 => kernel_rfl
  case h3 => intro b; kernel_rfl
  case h4 => exact fun a b h => evening_extremes_sem a.1 a.2.1 b h
/- trestle/evening.Most -/
noncomputable def e_evening_Most : Env := ((E0.withX 50 t_evening_valid).withX 85 t_evening_extremes)
theorem e_evening_Most_ok : EnvOk e_evening_Most := (EnvOk.withX (EnvOk.withX E0_ok x_evening_valid.1 x_evening_valid.2) x_evening_extremes.1 x_evening_extremes.2)
noncomputable def cb_evening_Most : Code := codeOf Tryd.f33
def evening_Most (x0 : Int) (x1 : (List (List (List Int)))) : Option (Int) :=
  (evening_valid x0 x1).bind fun v1 =>
  if (!v1) = true then
  some 0
  else
  (evening_extremes x0 x1).bind fun v3 =>
  some v3.2
def cs_evening_Most : Cs (Int × (List (List (List Int))) × Unit) := (csC cdI (csC (cdL 1 (cdL 1 (cdL 1 cdI))) csN))
def er_evening_Most (r : Int) : AV := cdI.enc r
set_option maxHeartbeats 4000000 in
set_option maxRecDepth 100000 in
theorem evening_Most_sem (x0 : Int) (x1 : (List (List (List Int)))) (r : Int) (h : evening_Most x0 x1 = some r) : Sem e_evening_Most ⟨none, false⟩ cb_evening_Most ⟨Fr 18 (pairs0 0 (cs_evening_Most.enc (x0, x1, ()))), []⟩ fun e s' => (e = .normal ∨ e = .ret) ∧ ∃ xs, resA e_evening_Most.P s'.fr s'.hp Tryd.f33.results.toList = some xs ∧ retA xs = er_evening_Most r := by
  unfold evening_Most at h
  refine Sem.wkQ (Sem.wk (s1 := ⟨Fr 18 [(0, .v (.int .i64 x0)), (1, .sl 1 (x1.map (cdL 1 (cdL 1 cdI)).enc))], []⟩) Wk.f1 ?_)
  refine Sem.seq ?_
  refine Sem.runS (s1 := ⟨Fr 18 [(0, .v (.int .i64 x0)), (1, .sl 1 (x1.map (cdL 1 (cdL 1 cdI)).enc))], []⟩) ?_ ?_
  · refine RunS.segF (n := 18) e_evening_Most_ok 1 [(0, .v (.int .i64 x0)), (1, .sl 1 (x1.map (cdL 1 (cdL 1 cdI)).enc))] [] (by kernel_rfl) ?_
    exact RunS.done rfl Wk.f1
  refine Sem.seq ?_
  refine Sem.seq ?_
  obtain ⟨v1, hv1, h⟩ := Option.bind_eq_some_iff.1 h
  refine Sem.runS (s1 := ⟨Fr 18 [(0, .v (.int .i64 x0)), (1, .sl 1 (x1.map (cdL 1 (cdL 1 cdI)).enc)), (10, .v (.bool (!v1)))], []⟩) ?_ ?_
  · refine RunS.segF (n := 18) e_evening_Most_ok 2 [(0, .v (.int .i64 x0)), (1, .sl 1 (x1.map (cdL 1 (cdL 1 cdI)).enc)), (7, .v (.int .i64 x0)), (8, .sl 1 (x1.map (cdL 1 (cdL 1 cdI)).enc))] [] (by kernel_rfl) ?_
    refine RunS.call e_evening_Most_ok (fid := 50) (s := cs_evening_valid) (F := fun a => evening_valid a.1 a.2.1) (er := er_evening_valid) (xs := [.v (.int .i64 x0), .sl 1 (x1.map (cdL 1 (cdL 1 cdI)).enc)]) (a := (x0, x1, ())) rfl (wantedA_none rfl) (by kernel_rfl) (by kernel_rfl) (by kernel_rfl) (by kernel_rfl) (Sns.cons (Sn.enc (c := cdI) (v := x0)) (Sns.cons (Sn.enc (c := (cdL 1 (cdL 1 (cdL 1 cdI)))) (v := x1)) Sns.nil)) (.inl (by kernel_rfl)) hv1 ?_
    refine RunS.segF (n := 18) e_evening_Most_ok 1 [(0, .v (.int .i64 x0)), (1, .sl 1 (x1.map (cdL 1 (cdL 1 cdI)).enc)), (10, .v (.bool (!v1)))] [] (by kernel_rfl) ?_
    exact RunS.done rfl Wk.f1
  refine Sem.cond (b := (!v1)) (by kernel_rfl) (fun hb2 => ?_) (fun hb2 => ?_)
  · rw [if_pos hb2] at h
    refine Sem.seq ?_
    refine Sem.runS (s1 := ⟨Fr 18 [(4, .v (.int .i64 0))], []⟩) ?_ ?_
    · refine RunS.segF (n := 18) e_evening_Most_ok 1 [(4, .v (.int .i64 0))] [] (by kernel_rfl) ?_
      exact RunS.done rfl Wk.f1
    refine Sem.ret ?_
    have hq := Option.some.inj h; subst hq
    exact ⟨⟨Fr 18 [(4, .v (.int .i64 0))], []⟩, Wk.f1, .inr rfl, [.v (.int .i64 0)], (by kernel_rfl), (by kernel_rfl)⟩
  · rw [if_f hb2] at h
    refine Sem.skip ?_
    refine Sem.seq ?_
    obtain ⟨v3, hv3, h⟩ := Option.bind_eq_some_iff.1 h
    refine Sem.runS (s1 := ⟨Fr 18 [(6, .v (.int .i64 v3.2))], []⟩) ?_ ?_
    · refine RunS.segF (n := 18) e_evening_Most_ok 2 [(12, .v (.int .i64 x0)), (13, .sl 1 (x1.map (cdL 1 (cdL 1 cdI)).enc))] [] (by kernel_rfl) ?_
      refine RunS.call e_evening_Most_ok (fid := 85) (s := cs_evening_extremes) (F := fun a => evening_extremes a.1 a.2.1) (er := er_evening_extremes) (xs := [.v (.int .i64 x0), .sl 1 (x1.map (cdL 1 (cdL 1 cdI)).enc)]) (a := (x0, x1, ())) rfl (wantedA_none rfl) (by kernel_rfl) (by kernel_rfl) (by kernel_rfl) (by kernel_rfl) (Sns.cons (Sn.enc (c := cdI) (v := x0)) (Sns.cons (Sn.enc (c := (cdL 1 (cdL 1 (cdL 1 cdI)))) (v := x1)) Sns.nil)) (.inl (by kernel_rfl)) hv3 ?_
      refine RunS.segF (n := 18) e_evening_Most_ok 5 [(6, .v (.int .i64 v3.2))] [] (by kernel_rfl) ?_
      exact RunS.done rfl Wk.f1
    refine Sem.seq ?_
    refine Sem.runS (s1 := ⟨Fr 18 [(4, .v (.int .i64 v3.2))], []⟩) ?_ ?_
    · refine RunS.segF (n := 18) e_evening_Most_ok 2 [(4, .v (.int .i64 v3.2))] [] (by kernel_rfl) ?_
      exact RunS.done rfl Wk.f1
    refine Sem.ret ?_
    have hq := Option.some.inj h; subst hq
    exact ⟨⟨Fr 18 [(4, .v (.int .i64 v3.2))], []⟩, Wk.f1, .inr rfl, [.v (.int .i64 v3.2)], (by kernel_rfl), (by kernel_rfl)⟩
def t_evening_Most : List AV → Option AV := told cs_evening_Most (fun a => evening_Most a.1 a.2.1) er_evening_Most
theorem x_evening_Most : XOk 33 t_evening_Most := by
  refine EnvOk.x (E := e_evening_Most) (contract_ok e_evening_Most_ok (fn := Tryd.f33) (c := cb_evening_Most) ?h1 ?h2 ⟨Tryd.call33⟩ cs_evening_Most (fun a => evening_Most a.1 a.2.1) er_evening_Most (fun a => (by show 2 ≤ 18; decide)) ?h3 ?h4) rfl rfl
  case h1 => kernel_rfl
  case h2 => kernel_rfl
  case h3 => intro b; kernel_rfl
  case h4 => exact fun a b h => evening_Most_sem a.1 a.2.1 b h
/- trestle/evening.met -/
noncomputable def e_evening_met : Env := E0
theorem e_evening_met_ok : EnvOk e_evening_met := E0_ok
noncomputable def cb_evening_met : Code := codeOf Tryd.f91
def evening_met_1 (x0 : (List Int)) : Nat → Int → Int → Option ((Int))
  | 0, _, _ => none
  | f + 1, c1, c2 =>
    if (decide (c2 < (x0.length : Int))) = true then
    (idx x0 c2).bind fun v4 =>
    evening_met_1 x0 f (wr .i64 (c1 + (wr .i64 ((wr .i64 (v4 * (wr .i64 (v4 - 1)))).tdiv 2)))) (wr .i64 (c2 + 1))
    else
    some c1
def evening_met (x0 : (List Int)) : Option (Int) :=
  (evening_met_1 x0 100000 0 0).bind fun r6 =>
  some r6
def cs_evening_met : Cs ((List Int) × Unit) := (csC (cdL 1 cdI) csN)
def er_evening_met (r : Int) : AV := cdI.enc r
set_option maxHeartbeats 4000000 in
set_option maxRecDepth 100000 in
theorem evening_met_1_ok (x0 : (List Int)) : ∀ (f : Nat) (c1 : Int) (c2 : Int) (r : (Int)), evening_met_1 x0 f c1 c2 = some r → SemN e_evening_met ⟨none, false⟩ (pc cb_evening_met [1, 1, 0, 1, 0, 0]) f ⟨Fr 21 [(3, .v (.int .i64 c1)), (6, .sl 1 (x0.map cdI.enc)), (7, .v (.int .i64 (x0.length : Int))), (8, .v (.int .i64 c2))], []⟩ (fun e s => e = (.exit 0) ∧ Wk e_evening_met s ⟨Fr 21 [(3, .v (.int .i64 r))], []⟩) := by
  intro f
  induction f with
  | zero => intro c1 c2 r h; cases h
  | succ f ih0 =>
    intro c1 c2 r h
    have ih := fun (c1 : Int) (c2 : Int) => ih0 c1 c2 r
    unfold evening_met_1 at h
    refine SemN.succ ?_
    refine Sem.seq ?_
    refine Sem.runS (s1 := ⟨Fr 21 [(3, .v (.int .i64 c1)), (6, .sl 1 (x0.map cdI.enc)), (7, .v (.int .i64 (x0.length : Int))), (8, .v (.int .i64 c2)), (9, .v (.bool (decide (c2 < (x0.length : Int)))))], []⟩) ?_ ?_
    · refine RunS.segF (n := 21) e_evening_met_ok 1 [(3, .v (.int .i64 c1)), (6, .sl 1 (x0.map cdI.enc)), (7, .v (.int .i64 (x0.length : Int))), (8, .v (.int .i64 c2)), (9, .v (.bool (decide (c2 < (x0.length : Int)))))] [] (by kernel_rfl) ?_
      exact RunS.done rfl Wk.f1
    refine Sem.seq ?_
    refine Sem.cond (b := (decide (c2 < (x0.length : Int)))) (by kernel_rfl) (fun hb3 => ?_) (fun hb3 => ?_)
    · rw [if_pos hb3] at h
      refine Sem.skip ?_
      refine Sem.seq ?_
      refine Sem.block ?_
      refine Sem.seq ?_
      obtain ⟨v4, hv4, h⟩ := Option.bind_eq_some_iff.1 h
      refine Sem.runS (s1 := ⟨Fr 21 [(3, .v (.int .i64 c1)), (5, .v (.int .i64 v4)), (6, .sl 1 (x0.map cdI.enc)), (7, .v (.int .i64 (x0.length : Int))), (8, .v (.int .i64 c2))], []⟩) ?_ ?_
      · refine RunS.one e_evening_met_ok 0 rfl (op_q (wantedA_none rfl) rfl (q_indexAddr (a := .sl 1 (x0.map cdI.enc)) (b := .v (.int .i64 c2)) (by kernel_rfl) (by kernel_rfl) (ix_sl (e := cdI.enc) (el := 3) (k := 1) (ki := .i64) (by kernel_rfl) (by kernel_rfl) hv4))) ?_
        refine RunS.segF (n := 21) e_evening_met_ok 2 [(3, .v (.int .i64 c1)), (5, .v (.int .i64 v4)), (6, .sl 1 (x0.map cdI.enc)), (7, .v (.int .i64 (x0.length : Int))), (8, .v (.int .i64 c2))] [] (by kernel_rfl) ?_
        exact RunS.done rfl Wk.f1
      refine Sem.runS (s1 := ⟨Fr 21 [(3, .v (.int .i64 (wr .i64 (c1 + (wr .i64 ((wr .i64 (v4 * (wr .i64 (v4 - 1)))).tdiv 2)))))), (6, .sl 1 (x0.map cdI.enc)), (7, .v (.int .i64 (x0.length : Int))), (8, .v (.int .i64 c2))], []⟩) ?_ ?_
      · refine RunS.segF (n := 21) e_evening_met_ok 8 [(3, .v (.int .i64 (wr .i64 (c1 + (wr .i64 ((wr .i64 (v4 * (wr .i64 (v4 - 1)))).tdiv 2)))))), (6, .sl 1 (x0.map cdI.enc)), (7, .v (.int .i64 (x0.length : Int))), (8, .v (.int .i64 c2))] [] (by kernel_rfl) ?_
        exact RunS.done rfl Wk.f1
      refine Sem.runS (s1 := ⟨Fr 21 [(3, .v (.int .i64 (wr .i64 (c1 + (wr .i64 ((wr .i64 (v4 * (wr .i64 (v4 - 1)))).tdiv 2)))))), (6, .sl 1 (x0.map cdI.enc)), (7, .v (.int .i64 (x0.length : Int))), (8, .v (.int .i64 (wr .i64 (c2 + 1))))], []⟩) ?_ ?_
      · refine RunS.segF (n := 21) e_evening_met_ok 2 [(3, .v (.int .i64 (wr .i64 (c1 + (wr .i64 ((wr .i64 (v4 * (wr .i64 (v4 - 1)))).tdiv 2)))))), (6, .sl 1 (x0.map cdI.enc)), (7, .v (.int .i64 (x0.length : Int))), (8, .v (.int .i64 (wr .i64 (c2 + 1))))] [] (by kernel_rfl) ?_
        exact RunS.done rfl Wk.f1
      exact SemN.wk (s1 := ⟨Fr 21 [(3, .v (.int .i64 (wr .i64 (c1 + (wr .i64 ((wr .i64 (v4 * (wr .i64 (v4 - 1)))).tdiv 2)))))), (6, .sl 1 (x0.map cdI.enc)), (7, .v (.int .i64 (x0.length : Int))), (8, .v (.int .i64 (wr .i64 (c2 + 1))))], []⟩) Wk.f1 (ih (wr .i64 (c1 + (wr .i64 ((wr .i64 (v4 * (wr .i64 (v4 - 1)))).tdiv 2)))) (wr .i64 (c2 + 1)) h)
    · rw [if_f hb3] at h
      refine Sem.exit ?_
      have hq := Option.some.inj h; subst hq
      exact ⟨rfl, Wk.f1⟩
set_option maxHeartbeats 4000000 in
set_option maxRecDepth 100000 in
theorem evening_met_sem (x0 : (List Int)) (r : Int) (h : evening_met x0 = some r) : Sem e_evening_met ⟨none, false⟩ cb_evening_met ⟨Fr 21 (pairs0 0 (cs_evening_met.enc (x0, ()))), []⟩ fun e s' => (e = .normal ∨ e = .ret) ∧ ∃ xs, resA e_evening_met.P s'.fr s'.hp Tryd.f91.results.toList = some xs ∧ retA xs = er_evening_met r := by
  unfold evening_met at h
  refine Sem.wkQ (Sem.wk (s1 := ⟨Fr 21 [(0, .sl 1 (x0.map cdI.enc))], []⟩) Wk.f1 ?_)
  refine Sem.seq ?_
  refine Sem.runS (s1 := ⟨Fr 21 [(0, .sl 1 (x0.map cdI.enc))], []⟩) ?_ ?_
  · refine RunS.segF (n := 21) e_evening_met_ok 1 [(0, .sl 1 (x0.map cdI.enc))] [] (by kernel_rfl) ?_
    exact RunS.done rfl Wk.f1
  refine Sem.seq ?_
  refine Sem.runS (s1 := ⟨Fr 21 [(0, .sl 1 (x0.map cdI.enc)), (3, .v (.int .i64 0))], []⟩) ?_ ?_
  · refine RunS.segF (n := 21) e_evening_met_ok 1 [(0, .sl 1 (x0.map cdI.enc)), (3, .v (.int .i64 0))] [] (by kernel_rfl) ?_
    exact RunS.done rfl Wk.f1
  refine Sem.seq ?_
  refine Sem.seq ?_
  refine Sem.runS (s1 := ⟨Fr 21 [(3, .v (.int .i64 0)), (6, .sl 1 (x0.map cdI.enc)), (7, .v (.int .i64 (x0.length : Int))), (8, .v (.int .i64 0))], []⟩) ?_ ?_
  · refine RunS.segF (n := 21) e_evening_met_ok 1 [(3, .v (.int .i64 0)), (6, .sl 1 (x0.map cdI.enc))] [] (by kernel_rfl) ?_
    refine RunS.one e_evening_met_ok 0 rfl (op_q (wantedA_none rfl) rfl (q_len (a := .sl 1 (x0.map cdI.enc)) (by kernel_rfl) (len_sl (el := 3) (by kernel_rfl)))) ?_
    refine RunS.segF (n := 21) e_evening_met_ok 1 [(3, .v (.int .i64 0)), (6, .sl 1 (x0.map cdI.enc)), (7, .v (.int .i64 (x0.length : Int))), (8, .v (.int .i64 0))] [] (by kernel_rfl) ?_
    exact RunS.done rfl Wk.f1
  refine Sem.block ?_
  obtain ⟨r6, hr6, h⟩ := Option.bind_eq_some_iff.1 h
  refine Sem.loop (n := 100000) ?_
  refine Sem.cutN (SemN.wk (s1 := ⟨Fr 21 [(3, .v (.int .i64 0)), (6, .sl 1 (x0.map cdI.enc)), (7, .v (.int .i64 (x0.length : Int))), (8, .v (.int .i64 0))], []⟩) Wk.f1 (evening_met_1_ok x0 _ 0 0 _ hr6)) ?_
  refine Sem.seq ?_
  refine Sem.runS (s1 := ⟨Fr 21 [(2, .v (.int .i64 r6))], []⟩) ?_ ?_
  · refine RunS.segF (n := 21) e_evening_met_ok 2 [(2, .v (.int .i64 r6))] [] (by kernel_rfl) ?_
    exact RunS.done rfl Wk.f1
  refine Sem.ret ?_
  have hq := Option.some.inj h; subst hq
  exact ⟨⟨Fr 21 [(2, .v (.int .i64 r6))], []⟩, Wk.f1, .inr rfl, [.v (.int .i64 r6)], (by kernel_rfl), (by kernel_rfl)⟩
def t_evening_met : List AV → Option AV := told cs_evening_met (fun a => evening_met a.1) er_evening_met
theorem x_evening_met : XOk 91 t_evening_met := by
  refine EnvOk.x (E := e_evening_met) (contract_ok e_evening_met_ok (fn := Tryd.f91) (c := cb_evening_met) ?h1 ?h2 ⟨Tryd.call91⟩ cs_evening_met (fun a => evening_met a.1) er_evening_met (fun a => (by show 1 ≤ 21; decide)) ?h3 ?h4) rfl rfl
  case h1 => kernel_rfl
  case h2 => kernel_rfl
  case h3 => intro b; kernel_rfl
  case h4 => exact fun a b h => evening_met_sem a.1 b h
/- trestle/evening.LeastMost -/
noncomputable def e_evening_LeastMost : Env := ((E0.withX 67 t_evening_fit).withX 91 t_evening_met)
theorem e_evening_LeastMost_ok : EnvOk e_evening_LeastMost := (EnvOk.withX (EnvOk.withX E0_ok x_evening_fit.1 x_evening_fit.2) x_evening_met.1 x_evening_met.2)
noncomputable def cb_evening_LeastMost : Code := codeOf Tryd.f38
def evening_LeastMost (x0 : Int) (x1 : (List Int)) (x2 : Int) : Option (Int) :=
  (evening_fit x0 x1).bind fun v1 =>
  (if (!v1) = true then some true else if (decide (x2 < 1)) = true then some true else (evening_met x1).bind fun v2 =>
  some (v2 == 0)).bind fun j4 =>
  if j4 = true then
  some 0
  else
  (evening_met x1).bind fun v6 =>
  if (wr .i64 ((wr .i64 (x0 * (wr .i64 (x0 - 1)))).tdiv 2)) = (0 : Int) then none else
  some (wr .i64 ((wr .i64 ((wr .i64 ((wr .i64 ((mnI x2 64) * v6)) + (wr .i64 ((wr .i64 (x0 * (wr .i64 (x0 - 1)))).tdiv 2)))) - 1)).tdiv (wr .i64 ((wr .i64 (x0 * (wr .i64 (x0 - 1)))).tdiv 2))))
def cs_evening_LeastMost : Cs (Int × (List Int) × Int × Unit) := (csC cdI (csC (cdL 1 cdI) (csC cdI csN)))
def er_evening_LeastMost (r : Int) : AV := cdI.enc r
set_option maxHeartbeats 4000000 in
set_option maxRecDepth 100000 in
theorem evening_LeastMost_sem (x0 : Int) (x1 : (List Int)) (x2 : Int) (r : Int) (h : evening_LeastMost x0 x1 x2 = some r) : Sem e_evening_LeastMost ⟨none, false⟩ cb_evening_LeastMost ⟨Fr 36 (pairs0 0 (cs_evening_LeastMost.enc (x0, x1, x2, ()))), []⟩ fun e s' => (e = .normal ∨ e = .ret) ∧ ∃ xs, resA e_evening_LeastMost.P s'.fr s'.hp Tryd.f38.results.toList = some xs ∧ retA xs = er_evening_LeastMost r := by
  unfold evening_LeastMost at h
  refine Sem.wkQ (Sem.wk (s1 := ⟨Fr 36 [(0, .v (.int .i64 x0)), (1, .sl 1 (x1.map cdI.enc)), (2, .v (.int .i64 x2))], []⟩) Wk.f1 ?_)
  refine Sem.seq ?_
  refine Sem.runS (s1 := ⟨Fr 36 [(0, .v (.int .i64 x0)), (1, .sl 1 (x1.map cdI.enc)), (2, .v (.int .i64 x2))], []⟩) ?_ ?_
  · refine RunS.segF (n := 36) e_evening_LeastMost_ok 1 [(0, .v (.int .i64 x0)), (1, .sl 1 (x1.map cdI.enc)), (2, .v (.int .i64 x2))] [] (by kernel_rfl) ?_
    exact RunS.done rfl Wk.f1
  refine Sem.seq ?_
  refine Sem.seq ?_
  obtain ⟨v1, hv1, h⟩ := Option.bind_eq_some_iff.1 h
  obtain ⟨j4, hj4, h⟩ := Option.bind_eq_some_iff.1 h
  refine Sem.runS (s1 := ⟨Fr 36 [(0, .v (.int .i64 x0)), (1, .sl 1 (x1.map cdI.enc)), (2, .v (.int .i64 x2)), (20, .v (.bool j4))], []⟩) ?_ ?_
  · refine RunS.segF (n := 36) e_evening_LeastMost_ok 2 [(0, .v (.int .i64 x0)), (1, .sl 1 (x1.map cdI.enc)), (2, .v (.int .i64 x2)), (8, .v (.int .i64 x0)), (9, .sl 1 (x1.map cdI.enc))] [] (by kernel_rfl) ?_
    refine RunS.call e_evening_LeastMost_ok (fid := 67) (s := cs_evening_fit) (F := fun a => evening_fit a.1 a.2.1) (er := er_evening_fit) (xs := [.v (.int .i64 x0), .sl 1 (x1.map cdI.enc)]) (a := (x0, x1, ())) rfl (wantedA_none rfl) (by kernel_rfl) (by kernel_rfl) (by kernel_rfl) (by kernel_rfl) (Sns.cons (Sn.enc (c := cdI) (v := x0)) (Sns.cons (Sn.enc (c := (cdL 1 cdI)) (v := x1)) Sns.nil)) (.inl (by kernel_rfl)) hv1 ?_
    refine RunS.segF (n := 36) e_evening_LeastMost_ok 2 [(0, .v (.int .i64 x0)), (1, .sl 1 (x1.map cdI.enc)), (2, .v (.int .i64 x2)), (12, .v (.bool (!v1)))] [] (by kernel_rfl) ?_
    rcases Bool.eq_false_or_eq_true (!v1) with hc8 | hc8
    · rw [if_pos hc8] at hj4
      rw [hc8]
      refine RunS.segF (n := 36) e_evening_LeastMost_ok 8 [(0, .v (.int .i64 x0)), (1, .sl 1 (x1.map cdI.enc)), (2, .v (.int .i64 x2)), (20, .v (.bool true))] [] (by kernel_rfl) ?_
      have hq := Option.some.inj hj4; subst hq
      exact RunS.done rfl Wk.f1
    · rw [if_f hc8] at hj4
      rw [hc8]
      refine RunS.segF (n := 36) e_evening_LeastMost_ok 4 [(0, .v (.int .i64 x0)), (1, .sl 1 (x1.map cdI.enc)), (2, .v (.int .i64 x2)), (16, .v (.bool (decide (x2 < 1))))] [] (by kernel_rfl) ?_
      rcases Bool.eq_false_or_eq_true (decide (x2 < 1)) with hc9 | hc9
      · rw [if_pos hc9] at hj4
        rw [hc9]
        refine RunS.segF (n := 36) e_evening_LeastMost_ok 4 [(0, .v (.int .i64 x0)), (1, .sl 1 (x1.map cdI.enc)), (2, .v (.int .i64 x2)), (20, .v (.bool true))] [] (by kernel_rfl) ?_
        have hq := Option.some.inj hj4; subst hq
        exact RunS.done rfl Wk.f1
      · rw [if_f hc9] at hj4
        rw [hc9]
        refine RunS.segF (n := 36) e_evening_LeastMost_ok 1 [(0, .v (.int .i64 x0)), (1, .sl 1 (x1.map cdI.enc)), (2, .v (.int .i64 x2)), (16, .v (.bool false)), (17, .sl 1 (x1.map cdI.enc))] [] (by kernel_rfl) ?_
        obtain ⟨v2, hv2, hj4⟩ := Option.bind_eq_some_iff.1 hj4
        refine RunS.call e_evening_LeastMost_ok (fid := 91) (s := cs_evening_met) (F := fun a => evening_met a.1) (er := er_evening_met) (xs := [.sl 1 (x1.map cdI.enc)]) (a := (x1, ())) rfl (by kernel_rfl) (by kernel_rfl) (by kernel_rfl) (by kernel_rfl) (by kernel_rfl) (Sns.cons (Sn.enc (c := (cdL 1 cdI)) (v := x1)) Sns.nil) (.inl (by kernel_rfl)) hv2 ?_
        refine RunS.segF (n := 36) e_evening_LeastMost_ok 2 [(0, .v (.int .i64 x0)), (1, .sl 1 (x1.map cdI.enc)), (2, .v (.int .i64 x2)), (20, .v (.bool (v2 == 0)))] [] (by kernel_rfl) ?_
        have hq := Option.some.inj hj4; subst hq
        exact RunS.done rfl Wk.f1
  refine Sem.cond (b := j4) (by kernel_rfl) (fun hb5 => ?_) (fun hb5 => ?_)
  · rw [if_pos hb5] at h
    refine Sem.seq ?_
    refine Sem.runS (s1 := ⟨Fr 36 [(6, .v (.int .i64 0))], []⟩) ?_ ?_
    · refine RunS.segF (n := 36) e_evening_LeastMost_ok 1 [(6, .v (.int .i64 0))] [] (by kernel_rfl) ?_
      exact RunS.done rfl Wk.f1
    refine Sem.ret ?_
    have hq := Option.some.inj h; subst hq
    exact ⟨⟨Fr 36 [(6, .v (.int .i64 0))], []⟩, Wk.f1, .inr rfl, [.v (.int .i64 0)], (by kernel_rfl), (by kernel_rfl)⟩
  · rw [if_f hb5] at h
    refine Sem.skip ?_
    refine Sem.seq ?_
    refine Sem.runS (s1 := ⟨Fr 36 [(1, .sl 1 (x1.map cdI.enc)), (2, .v (.int .i64 x2)), (7, .v (.int .i64 (wr .i64 ((wr .i64 (x0 * (wr .i64 (x0 - 1)))).tdiv 2))))], []⟩) ?_ ?_
    · refine RunS.segF (n := 36) e_evening_LeastMost_ok 6 [(1, .sl 1 (x1.map cdI.enc)), (2, .v (.int .i64 x2)), (7, .v (.int .i64 (wr .i64 ((wr .i64 (x0 * (wr .i64 (x0 - 1)))).tdiv 2))))] [] (by kernel_rfl) ?_
      exact RunS.done rfl Wk.f1
    refine Sem.seq ?_
    obtain ⟨v6, hv6, h⟩ := Option.bind_eq_some_iff.1 h
    by_cases hz7 : (wr .i64 ((wr .i64 (x0 * (wr .i64 (x0 - 1)))).tdiv 2)) = (0 : Int)
    · rw [if_pos hz7] at h; cases h
    rw [if_neg hz7] at h
    refine Sem.runS (s1 := ⟨Fr 36 [(6, .v (.int .i64 (wr .i64 ((wr .i64 ((wr .i64 ((wr .i64 ((mnI x2 64) * v6)) + (wr .i64 ((wr .i64 (x0 * (wr .i64 (x0 - 1)))).tdiv 2)))) - 1)).tdiv (wr .i64 ((wr .i64 (x0 * (wr .i64 (x0 - 1)))).tdiv 2))))))], []⟩) ?_ ?_
    · refine RunS.segF (n := 36) e_evening_LeastMost_ok 3 [(7, .v (.int .i64 (wr .i64 ((wr .i64 (x0 * (wr .i64 (x0 - 1)))).tdiv 2)))), (27, .v (.int .i64 (mnI x2 64))), (28, .sl 1 (x1.map cdI.enc))] [] (by kernel_rfl) ?_
      refine RunS.call e_evening_LeastMost_ok (fid := 91) (s := cs_evening_met) (F := fun a => evening_met a.1) (er := er_evening_met) (xs := [.sl 1 (x1.map cdI.enc)]) (a := (x1, ())) rfl (wantedA_none rfl) (by kernel_rfl) (by kernel_rfl) (by kernel_rfl) (by kernel_rfl) (Sns.cons (Sn.enc (c := (cdL 1 cdI)) (v := x1)) Sns.nil) (.inl (by kernel_rfl)) hv6 ?_
      refine RunS.segF (n := 36) e_evening_LeastMost_ok 5 [(33, .v (.int .i64 (wr .i64 ((wr .i64 ((wr .i64 ((mnI x2 64) * v6)) + (wr .i64 ((wr .i64 (x0 * (wr .i64 (x0 - 1)))).tdiv 2)))) - 1)))), (34, .v (.int .i64 (wr .i64 ((wr .i64 (x0 * (wr .i64 (x0 - 1)))).tdiv 2))))] [] (by kernel_rfl) ?_
      refine RunS.one e_evening_LeastMost_ok 0 rfl (op_q (wantedA_none rfl) rfl (q_bin (a := .v (.int .i64 (wr .i64 ((wr .i64 ((wr .i64 ((mnI x2 64) * v6)) + (wr .i64 ((wr .i64 (x0 * (wr .i64 (x0 - 1)))).tdiv 2)))) - 1)))) (b := .v (.int .i64 (wr .i64 ((wr .i64 (x0 * (wr .i64 (x0 - 1)))).tdiv 2)))) (by kernel_rfl) (by kernel_rfl) (bin_quo hz7))) ?_
      refine RunS.segF (n := 36) e_evening_LeastMost_ok 1 [(6, .v (.int .i64 (wr .i64 ((wr .i64 ((wr .i64 ((wr .i64 ((mnI x2 64) * v6)) + (wr .i64 ((wr .i64 (x0 * (wr .i64 (x0 - 1)))).tdiv 2)))) - 1)).tdiv (wr .i64 ((wr .i64 (x0 * (wr .i64 (x0 - 1)))).tdiv 2))))))] [] (by kernel_rfl) ?_
      exact RunS.done rfl Wk.f1
    refine Sem.ret ?_
    have hq := Option.some.inj h; subst hq
    exact ⟨⟨Fr 36 [(6, .v (.int .i64 (wr .i64 ((wr .i64 ((wr .i64 ((wr .i64 ((mnI x2 64) * v6)) + (wr .i64 ((wr .i64 (x0 * (wr .i64 (x0 - 1)))).tdiv 2)))) - 1)).tdiv (wr .i64 ((wr .i64 (x0 * (wr .i64 (x0 - 1)))).tdiv 2))))))], []⟩, Wk.f1, .inr rfl, [.v (.int .i64 (wr .i64 ((wr .i64 ((wr .i64 ((wr .i64 ((mnI x2 64) * v6)) + (wr .i64 ((wr .i64 (x0 * (wr .i64 (x0 - 1)))).tdiv 2)))) - 1)).tdiv (wr .i64 ((wr .i64 (x0 * (wr .i64 (x0 - 1)))).tdiv 2)))))], (by kernel_rfl), (by kernel_rfl)⟩
def t_evening_LeastMost : List AV → Option AV := told cs_evening_LeastMost (fun a => evening_LeastMost a.1 a.2.1 a.2.2.1) er_evening_LeastMost
theorem x_evening_LeastMost : XOk 38 t_evening_LeastMost := by
  refine EnvOk.x (E := e_evening_LeastMost) (contract_ok e_evening_LeastMost_ok (fn := Tryd.f38) (c := cb_evening_LeastMost) ?h1 ?h2 ⟨Tryd.call38⟩ cs_evening_LeastMost (fun a => evening_LeastMost a.1 a.2.1 a.2.2.1) er_evening_LeastMost (fun a => (by show 3 ≤ 36; decide)) ?h3 ?h4) rfl rfl
  case h1 => kernel_rfl
  case h2 => kernel_rfl
  case h3 => intro b; kernel_rfl
  case h4 => exact fun a b h => evening_LeastMost_sem a.1 a.2.1 a.2.2.1 b h
/- trestle/trestlelaw09.EveningPlanned -/
noncomputable def e_law09_EveningPlanned : Env := (((((((((E0.withX 35 t_law09_Sizes).withX 21 t_evening_Plan).withX 27 t_evening_Check).withX 18 t_law09_Same).withX 37 t_slices_Concat_L_int).withX 36 t_slices_IsSorted_L_int).withX 33 t_evening_Most).withX 38 t_evening_LeastMost).withX 13 t_law09_awake)
theorem e_law09_EveningPlanned_ok : EnvOk e_law09_EveningPlanned := (EnvOk.withX (EnvOk.withX (EnvOk.withX (EnvOk.withX (EnvOk.withX (EnvOk.withX (EnvOk.withX (EnvOk.withX (EnvOk.withX E0_ok x_law09_Sizes.1 x_law09_Sizes.2) x_evening_Plan.1 x_evening_Plan.2) x_evening_Check.1 x_evening_Check.2) x_law09_Same.1 x_law09_Same.2) x_slices_Concat_L_int.1 x_slices_Concat_L_int.2) x_slices_IsSorted_L_int.1 x_slices_IsSorted_L_int.2) x_evening_Most.1 x_evening_Most.2) x_evening_LeastMost.1 x_evening_LeastMost.2) x_law09_awake.1 x_law09_awake.2)
noncomputable def cb_law09_EveningPlanned : Code := codeOf Tryd.f10
def law09_EveningPlanned (x0 : (List Int)) (x1 : Int) (x2 : Int) : Option (Bool) :=
  (law09_Sizes x0).bind fun v1 =>
  (evening_Plan v1.2 v1.1 (wr .i64 (x1.tmod 21))).bind fun v2 =>
  (evening_Check v1.2 v1.1 v2.1).bind fun v3 =>
  (if (v2.2 != 0) = true then some true else if (v3.1 != 0) = true then some true else if (v3.2 != 0) = true then some true else some ((v2.1.length : Int) != (wr .i64 (x1.tmod 21)))).bind fun j5 =>
  if j5 = true then
  some false
  else
  (evening_Plan v1.2 v1.1 (mnI (wr .i64 (x2.tmod 21)) (wr .i64 (x1.tmod 21)))).bind fun v7 =>
  (if (v7.2 != 0) = true then some true else if (decide ((v7.1.length : Int) > (v2.1.length : Int))) = true then some true else if (cutOk 0 (v7.1.length : Int) v2.1.length) = true then
  (law09_Same v7.1 ((v2.1.take (v7.1.length : Int).toNat).drop (0 : Int).toNat)).bind fun v9 =>
  some (!v9)
  else none).bind fun j11 =>
  if j11 = true then
  some false
  else
  (if (decide ((wr .i64 (x1.tmod 21)) > 0)) = true then (idx v2.1 0).bind fun v13 =>
  (slices_Concat_L_int v13).bind fun v14 =>
  (slices_IsSorted_L_int v14).bind fun v15 =>
  some (!v15) else some false).bind fun j17 =>
  if j17 = true then
  some false
  else
  (evening_Most v1.2 v2.1).bind fun v19 =>
  (evening_LeastMost v1.2 v1.1 (wr .i64 (x1.tmod 21))).bind fun v20 =>
  (if (decide (v19 ≥ v20)) = true then law09_awake.bind fun v21 =>
  some v21 else some false).bind fun j23 =>
  some j23
def cs_law09_EveningPlanned : Cs ((List Int) × Int × Int × Unit) := (csC (cdL 1 (cdK .u8)) (csC (cdK .u8) (csC (cdK .u8) csN)))
def er_law09_EveningPlanned (r : Bool) : AV := cdB.enc r
set_option maxHeartbeats 4000000 in
set_option maxRecDepth 100000 in
theorem law09_EveningPlanned_sem (x0 : (List Int)) (x1 : Int) (x2 : Int) (r : Bool) (h : law09_EveningPlanned x0 x1 x2 = some r) : Sem e_law09_EveningPlanned ⟨none, false⟩ cb_law09_EveningPlanned ⟨Fr 103 (pairs0 0 (cs_law09_EveningPlanned.enc (x0, x1, x2, ()))), []⟩ fun e s' => (e = .normal ∨ e = .ret) ∧ ∃ xs, resA e_law09_EveningPlanned.P s'.fr s'.hp Tryd.f10.results.toList = some xs ∧ retA xs = er_law09_EveningPlanned r := by
  unfold law09_EveningPlanned at h
  refine Sem.wkQ (Sem.wk (s1 := ⟨Fr 103 [(0, .sl 1 (x0.map (cdK .u8).enc)), (1, .v (.int .u8 x1)), (2, .v (.int .u8 x2))], []⟩) Wk.f1 ?_)
  refine Sem.seq ?_
  refine Sem.runS (s1 := ⟨Fr 103 [(0, .sl 1 (x0.map (cdK .u8).enc)), (1, .v (.int .u8 x1)), (2, .v (.int .u8 x2))], []⟩) ?_ ?_
  · refine RunS.segF (n := 103) e_law09_EveningPlanned_ok 1 [(0, .sl 1 (x0.map (cdK .u8).enc)), (1, .v (.int .u8 x1)), (2, .v (.int .u8 x2))] [] (by kernel_rfl) ?_
    exact RunS.done rfl Wk.f1
  refine Sem.seq ?_
  obtain ⟨v1, hv1, h⟩ := Option.bind_eq_some_iff.1 h
  refine Sem.runS (s1 := ⟨Fr 103 [(1, .v (.int .u8 x1)), (2, .v (.int .u8 x2)), (7, .sl 1 (v1.1.map cdI.enc)), (8, .v (.int .i64 v1.2))], []⟩) ?_ ?_
  · refine RunS.segF (n := 103) e_law09_EveningPlanned_ok 1 [(1, .v (.int .u8 x1)), (2, .v (.int .u8 x2)), (16, .sl 1 (x0.map (cdK .u8).enc))] [] (by kernel_rfl) ?_
    refine RunS.call e_law09_EveningPlanned_ok (fid := 35) (s := cs_law09_Sizes) (F := fun a => law09_Sizes a.1) (er := er_law09_Sizes) (xs := [.sl 1 (x0.map (cdK .u8).enc)]) (a := (x0, ())) rfl (wantedA_none rfl) (by kernel_rfl) (by kernel_rfl) (by kernel_rfl) (by kernel_rfl) (Sns.cons (Sn.enc (c := (cdL 1 (cdK .u8))) (v := x0)) Sns.nil) (.inl (by kernel_rfl)) hv1 ?_
    refine RunS.segF (n := 103) e_law09_EveningPlanned_ok 5 [(1, .v (.int .u8 x1)), (2, .v (.int .u8 x2)), (7, .sl 1 (v1.1.map cdI.enc)), (8, .v (.int .i64 v1.2))] [] (by kernel_rfl) ?_
    exact RunS.done rfl Wk.f1
  refine Sem.seq ?_
  refine Sem.runS (s1 := ⟨Fr 103 [(2, .v (.int .u8 x2)), (7, .sl 1 (v1.1.map cdI.enc)), (8, .v (.int .i64 v1.2)), (9, .v (.int .i64 (wr .i64 (x1.tmod 21))))], []⟩) ?_ ?_
  · refine RunS.segF (n := 103) e_law09_EveningPlanned_ok 4 [(2, .v (.int .u8 x2)), (7, .sl 1 (v1.1.map cdI.enc)), (8, .v (.int .i64 v1.2)), (9, .v (.int .i64 (wr .i64 (x1.tmod 21))))] [] (by kernel_rfl) ?_
    exact RunS.done rfl Wk.f1
  refine Sem.seq ?_
  obtain ⟨v2, hv2, h⟩ := Option.bind_eq_some_iff.1 h
  refine Sem.runS (s1 := ⟨Fr 103 [(2, .v (.int .u8 x2)), (7, .sl 1 (v1.1.map cdI.enc)), (8, .v (.int .i64 v1.2)), (9, .v (.int .i64 (wr .i64 (x1.tmod 21)))), (10, .sl 1 (v2.1.map (cdL 1 (cdL 1 cdI)).enc)), (11, .v (.int .i64 v2.2))], []⟩) ?_ ?_
  · refine RunS.segF (n := 103) e_law09_EveningPlanned_ok 3 [(2, .v (.int .u8 x2)), (7, .sl 1 (v1.1.map cdI.enc)), (8, .v (.int .i64 v1.2)), (9, .v (.int .i64 (wr .i64 (x1.tmod 21)))), (24, .v (.int .i64 v1.2)), (25, .sl 1 (v1.1.map cdI.enc)), (26, .v (.int .i64 (wr .i64 (x1.tmod 21))))] [] (by kernel_rfl) ?_
    refine RunS.call e_law09_EveningPlanned_ok (fid := 21) (b := v2) (s := cs_evening_Plan) (F := fun a => evening_Plan a.1 a.2.1 a.2.2.1) (er := er_evening_Plan) (xs := [.v (.int .i64 v1.2), .sl 1 (v1.1.map cdI.enc), .v (.int .i64 (wr .i64 (x1.tmod 21)))]) (a := (v1.2, v1.1, (wr .i64 (x1.tmod 21)), ())) rfl (wantedA_none rfl) (by kernel_rfl) (by kernel_rfl) (by kernel_rfl) (by kernel_rfl) (Sns.cons (Sn.enc (c := cdI) (v := v1.2)) (Sns.cons (Sn.enc (c := (cdL 1 cdI)) (v := v1.1)) (Sns.cons (Sn.enc (c := cdI) (v := (wr .i64 (x1.tmod 21)))) Sns.nil))) (.inl (by kernel_rfl)) (by dsimp only; exact hv2) ?_
    refine RunS.segF (n := 103) e_law09_EveningPlanned_ok 5 [(2, .v (.int .u8 x2)), (7, .sl 1 (v1.1.map cdI.enc)), (8, .v (.int .i64 v1.2)), (9, .v (.int .i64 (wr .i64 (x1.tmod 21)))), (10, .sl 1 (v2.1.map (cdL 1 (cdL 1 cdI)).enc)), (11, .v (.int .i64 v2.2))] [] (by kernel_rfl) ?_
    exact RunS.done rfl Wk.f1
  refine Sem.seq ?_
  refine Sem.seq ?_
  obtain ⟨v3, hv3, h⟩ := Option.bind_eq_some_iff.1 h
  refine Sem.runS (s1 := ⟨Fr 103 [(2, .v (.int .u8 x2)), (7, .sl 1 (v1.1.map cdI.enc)), (8, .v (.int .i64 v1.2)), (9, .v (.int .i64 (wr .i64 (x1.tmod 21)))), (10, .sl 1 (v2.1.map (cdL 1 (cdL 1 cdI)).enc)), (11, .v (.int .i64 v2.2)), (12, .v (.int .i64 v3.1)), (13, .v (.int .i64 v3.2))], []⟩) ?_ ?_
  · refine RunS.segF (n := 103) e_law09_EveningPlanned_ok 3 [(2, .v (.int .u8 x2)), (7, .sl 1 (v1.1.map cdI.enc)), (8, .v (.int .i64 v1.2)), (9, .v (.int .i64 (wr .i64 (x1.tmod 21)))), (10, .sl 1 (v2.1.map (cdL 1 (cdL 1 cdI)).enc)), (11, .v (.int .i64 v2.2)), (31, .v (.int .i64 v1.2)), (32, .sl 1 (v1.1.map cdI.enc)), (33, .sl 1 (v2.1.map (cdL 1 (cdL 1 cdI)).enc))] [] (by kernel_rfl) ?_
    refine RunS.call e_law09_EveningPlanned_ok (fid := 27) (s := cs_evening_Check) (F := fun a => evening_Check a.1 a.2.1 a.2.2.1) (er := er_evening_Check) (xs := [.v (.int .i64 v1.2), .sl 1 (v1.1.map cdI.enc), .sl 1 (v2.1.map (cdL 1 (cdL 1 cdI)).enc)]) (a := (v1.2, v1.1, v2.1, ())) rfl (wantedA_none rfl) (by kernel_rfl) (by kernel_rfl) (by kernel_rfl) (by kernel_rfl) (Sns.cons (Sn.enc (c := cdI) (v := v1.2)) (Sns.cons (Sn.enc (c := (cdL 1 cdI)) (v := v1.1)) (Sns.cons (Sn.enc (c := (cdL 1 (cdL 1 (cdL 1 cdI)))) (v := v2.1)) Sns.nil))) (.inl (by kernel_rfl)) hv3 ?_
    refine RunS.segF (n := 103) e_law09_EveningPlanned_ok 5 [(2, .v (.int .u8 x2)), (7, .sl 1 (v1.1.map cdI.enc)), (8, .v (.int .i64 v1.2)), (9, .v (.int .i64 (wr .i64 (x1.tmod 21)))), (10, .sl 1 (v2.1.map (cdL 1 (cdL 1 cdI)).enc)), (11, .v (.int .i64 v2.2)), (12, .v (.int .i64 v3.1)), (13, .v (.int .i64 v3.2))] [] (by kernel_rfl) ?_
    exact RunS.done rfl Wk.f1
  refine Sem.seq ?_
  obtain ⟨j5, hj5, h⟩ := Option.bind_eq_some_iff.1 h
  refine Sem.runS (s1 := ⟨Fr 103 [(2, .v (.int .u8 x2)), (7, .sl 1 (v1.1.map cdI.enc)), (8, .v (.int .i64 v1.2)), (9, .v (.int .i64 (wr .i64 (x1.tmod 21)))), (10, .sl 1 (v2.1.map (cdL 1 (cdL 1 cdI)).enc)), (52, .v (.bool j5))], []⟩) ?_ ?_
  · refine RunS.segF (n := 103) e_law09_EveningPlanned_ok 3 [(2, .v (.int .u8 x2)), (7, .sl 1 (v1.1.map cdI.enc)), (8, .v (.int .i64 v1.2)), (9, .v (.int .i64 (wr .i64 (x1.tmod 21)))), (10, .sl 1 (v2.1.map (cdL 1 (cdL 1 cdI)).enc)), (12, .v (.int .i64 v3.1)), (13, .v (.int .i64 v3.2)), (39, .v (.bool (v2.2 != 0)))] [] (by kernel_rfl) ?_
    rcases Bool.eq_false_or_eq_true (v2.2 != 0) with hc28 | hc28
    · rw [if_pos hc28] at hj5
      rw [hc28]
      refine RunS.segF (n := 103) e_law09_EveningPlanned_ok 13 [(2, .v (.int .u8 x2)), (7, .sl 1 (v1.1.map cdI.enc)), (8, .v (.int .i64 v1.2)), (9, .v (.int .i64 (wr .i64 (x1.tmod 21)))), (10, .sl 1 (v2.1.map (cdL 1 (cdL 1 cdI)).enc)), (52, .v (.bool true))] [] (by kernel_rfl) ?_
      have hq := Option.some.inj hj5; subst hq
      exact RunS.done rfl Wk.f1
    · rw [if_f hc28] at hj5
      rw [hc28]
      refine RunS.segF (n := 103) e_law09_EveningPlanned_ok 4 [(2, .v (.int .u8 x2)), (7, .sl 1 (v1.1.map cdI.enc)), (8, .v (.int .i64 v1.2)), (9, .v (.int .i64 (wr .i64 (x1.tmod 21)))), (10, .sl 1 (v2.1.map (cdL 1 (cdL 1 cdI)).enc)), (13, .v (.int .i64 v3.2)), (43, .v (.bool (v3.1 != 0)))] [] (by kernel_rfl) ?_
      rcases Bool.eq_false_or_eq_true (v3.1 != 0) with hc29 | hc29
      · rw [if_pos hc29] at hj5
        rw [hc29]
        refine RunS.segF (n := 103) e_law09_EveningPlanned_ok 9 [(2, .v (.int .u8 x2)), (7, .sl 1 (v1.1.map cdI.enc)), (8, .v (.int .i64 v1.2)), (9, .v (.int .i64 (wr .i64 (x1.tmod 21)))), (10, .sl 1 (v2.1.map (cdL 1 (cdL 1 cdI)).enc)), (52, .v (.bool true))] [] (by kernel_rfl) ?_
        have hq := Option.some.inj hj5; subst hq
        exact RunS.done rfl Wk.f1
      · rw [if_f hc29] at hj5
        rw [hc29]
        refine RunS.segF (n := 103) e_law09_EveningPlanned_ok 4 [(2, .v (.int .u8 x2)), (7, .sl 1 (v1.1.map cdI.enc)), (8, .v (.int .i64 v1.2)), (9, .v (.int .i64 (wr .i64 (x1.tmod 21)))), (10, .sl 1 (v2.1.map (cdL 1 (cdL 1 cdI)).enc)), (47, .v (.bool (v3.2 != 0)))] [] (by kernel_rfl) ?_
        rcases Bool.eq_false_or_eq_true (v3.2 != 0) with hc30 | hc30
        · rw [if_pos hc30] at hj5
          rw [hc30]
          refine RunS.segF (n := 103) e_law09_EveningPlanned_ok 5 [(2, .v (.int .u8 x2)), (7, .sl 1 (v1.1.map cdI.enc)), (8, .v (.int .i64 v1.2)), (9, .v (.int .i64 (wr .i64 (x1.tmod 21)))), (10, .sl 1 (v2.1.map (cdL 1 (cdL 1 cdI)).enc)), (52, .v (.bool true))] [] (by kernel_rfl) ?_
          have hq := Option.some.inj hj5; subst hq
          exact RunS.done rfl Wk.f1
        · rw [if_f hc30] at hj5
          rw [hc30]
          refine RunS.segF (n := 103) e_law09_EveningPlanned_ok 1 [(2, .v (.int .u8 x2)), (7, .sl 1 (v1.1.map cdI.enc)), (8, .v (.int .i64 v1.2)), (9, .v (.int .i64 (wr .i64 (x1.tmod 21)))), (10, .sl 1 (v2.1.map (cdL 1 (cdL 1 cdI)).enc)), (47, .v (.bool false)), (48, .sl 1 (v2.1.map (cdL 1 (cdL 1 cdI)).enc))] [] (by kernel_rfl) ?_
          refine RunS.one e_law09_EveningPlanned_ok 0 rfl (op_q (by kernel_rfl) rfl (q_len (a := .sl 1 (v2.1.map (cdL 1 (cdL 1 cdI)).enc)) (by kernel_rfl) (len_sl (el := 50) (by kernel_rfl)))) ?_
          refine RunS.segF (n := 103) e_law09_EveningPlanned_ok 3 [(2, .v (.int .u8 x2)), (7, .sl 1 (v1.1.map cdI.enc)), (8, .v (.int .i64 v1.2)), (9, .v (.int .i64 (wr .i64 (x1.tmod 21)))), (10, .sl 1 (v2.1.map (cdL 1 (cdL 1 cdI)).enc)), (52, .v (.bool ((v2.1.length : Int) != (wr .i64 (x1.tmod 21)))))] [] (by kernel_rfl) ?_
          have hq := Option.some.inj hj5; subst hq
          exact RunS.done rfl Wk.f1
  refine Sem.cond (b := j5) (by kernel_rfl) (fun hb6 => ?_) (fun hb6 => ?_)
  · rw [if_pos hb6] at h
    refine Sem.seq ?_
    refine Sem.runS (s1 := ⟨Fr 103 [(6, .v (.bool false))], []⟩) ?_ ?_
    · refine RunS.segF (n := 103) e_law09_EveningPlanned_ok 1 [(6, .v (.bool false))] [] (by kernel_rfl) ?_
      exact RunS.done rfl Wk.f1
    refine Sem.ret ?_
    have hq := Option.some.inj h; subst hq
    exact ⟨⟨Fr 103 [(6, .v (.bool false))], []⟩, Wk.f1, .inr rfl, [.v (.bool false)], (by kernel_rfl), (by kernel_rfl)⟩
  · rw [if_f hb6] at h
    refine Sem.skip ?_
    refine Sem.seq ?_
    obtain ⟨v7, hv7, h⟩ := Option.bind_eq_some_iff.1 h
    refine Sem.runS (s1 := ⟨Fr 103 [(7, .sl 1 (v1.1.map cdI.enc)), (8, .v (.int .i64 v1.2)), (9, .v (.int .i64 (wr .i64 (x1.tmod 21)))), (10, .sl 1 (v2.1.map (cdL 1 (cdL 1 cdI)).enc)), (11, .v (.int .i64 v7.2)), (14, .sl 1 (v7.1.map (cdL 1 (cdL 1 cdI)).enc))], []⟩) ?_ ?_
    · refine RunS.segF (n := 103) e_law09_EveningPlanned_ok 7 [(7, .sl 1 (v1.1.map cdI.enc)), (8, .v (.int .i64 v1.2)), (9, .v (.int .i64 (wr .i64 (x1.tmod 21)))), (10, .sl 1 (v2.1.map (cdL 1 (cdL 1 cdI)).enc)), (54, .v (.int .i64 v1.2)), (55, .sl 1 (v1.1.map cdI.enc)), (60, .v (.int .i64 (mnI (wr .i64 (x2.tmod 21)) (wr .i64 (x1.tmod 21)))))] [] (by kernel_rfl) ?_
      refine RunS.call e_law09_EveningPlanned_ok (fid := 21) (b := v7) (s := cs_evening_Plan) (F := fun a => evening_Plan a.1 a.2.1 a.2.2.1) (er := er_evening_Plan) (xs := [.v (.int .i64 v1.2), .sl 1 (v1.1.map cdI.enc), .v (.int .i64 (mnI (wr .i64 (x2.tmod 21)) (wr .i64 (x1.tmod 21))))]) (a := (v1.2, v1.1, (mnI (wr .i64 (x2.tmod 21)) (wr .i64 (x1.tmod 21))), ())) rfl (wantedA_none rfl) (by kernel_rfl) (by kernel_rfl) (by kernel_rfl) (by kernel_rfl) (Sns.cons (Sn.enc (c := cdI) (v := v1.2)) (Sns.cons (Sn.enc (c := (cdL 1 cdI)) (v := v1.1)) (Sns.cons (Sn.enc (c := cdI) (v := (mnI (wr .i64 (x2.tmod 21)) (wr .i64 (x1.tmod 21))))) Sns.nil))) (.inl (by kernel_rfl)) (by dsimp only; exact hv7) ?_
      refine RunS.segF (n := 103) e_law09_EveningPlanned_ok 5 [(7, .sl 1 (v1.1.map cdI.enc)), (8, .v (.int .i64 v1.2)), (9, .v (.int .i64 (wr .i64 (x1.tmod 21)))), (10, .sl 1 (v2.1.map (cdL 1 (cdL 1 cdI)).enc)), (11, .v (.int .i64 v7.2)), (14, .sl 1 (v7.1.map (cdL 1 (cdL 1 cdI)).enc))] [] (by kernel_rfl) ?_
      exact RunS.done rfl Wk.f1
    refine Sem.seq ?_
    refine Sem.seq ?_
    obtain ⟨j11, hj11, h⟩ := Option.bind_eq_some_iff.1 h
    refine Sem.runS (s1 := ⟨Fr 103 [(7, .sl 1 (v1.1.map cdI.enc)), (8, .v (.int .i64 v1.2)), (9, .v (.int .i64 (wr .i64 (x1.tmod 21)))), (10, .sl 1 (v2.1.map (cdL 1 (cdL 1 cdI)).enc)), (81, .v (.bool j11))], []⟩) ?_ ?_
    · refine RunS.segF (n := 103) e_law09_EveningPlanned_ok 3 [(7, .sl 1 (v1.1.map cdI.enc)), (8, .v (.int .i64 v1.2)), (9, .v (.int .i64 (wr .i64 (x1.tmod 21)))), (10, .sl 1 (v2.1.map (cdL 1 (cdL 1 cdI)).enc)), (14, .sl 1 (v7.1.map (cdL 1 (cdL 1 cdI)).enc)), (66, .v (.bool (v7.2 != 0)))] [] (by kernel_rfl) ?_
      rcases Bool.eq_false_or_eq_true (v7.2 != 0) with hc26 | hc26
      · rw [if_pos hc26] at hj11
        rw [hc26]
        refine RunS.segF (n := 103) e_law09_EveningPlanned_ok 15 [(7, .sl 1 (v1.1.map cdI.enc)), (8, .v (.int .i64 v1.2)), (9, .v (.int .i64 (wr .i64 (x1.tmod 21)))), (10, .sl 1 (v2.1.map (cdL 1 (cdL 1 cdI)).enc)), (81, .v (.bool true))] [] (by kernel_rfl) ?_
        have hq := Option.some.inj hj11; subst hq
        exact RunS.done rfl Wk.f1
      · rw [if_f hc26] at hj11
        rw [hc26]
        refine RunS.segF (n := 103) e_law09_EveningPlanned_ok 1 [(7, .sl 1 (v1.1.map cdI.enc)), (8, .v (.int .i64 v1.2)), (9, .v (.int .i64 (wr .i64 (x1.tmod 21)))), (10, .sl 1 (v2.1.map (cdL 1 (cdL 1 cdI)).enc)), (14, .sl 1 (v7.1.map (cdL 1 (cdL 1 cdI)).enc)), (66, .v (.bool false)), (67, .sl 1 (v7.1.map (cdL 1 (cdL 1 cdI)).enc))] [] (by kernel_rfl) ?_
        refine RunS.one e_law09_EveningPlanned_ok 0 rfl (op_q (by kernel_rfl) rfl (q_len (a := .sl 1 (v7.1.map (cdL 1 (cdL 1 cdI)).enc)) (by kernel_rfl) (len_sl (el := 50) (by kernel_rfl)))) ?_
        refine RunS.segF (n := 103) e_law09_EveningPlanned_ok 1 [(7, .sl 1 (v1.1.map cdI.enc)), (8, .v (.int .i64 v1.2)), (9, .v (.int .i64 (wr .i64 (x1.tmod 21)))), (10, .sl 1 (v2.1.map (cdL 1 (cdL 1 cdI)).enc)), (14, .sl 1 (v7.1.map (cdL 1 (cdL 1 cdI)).enc)), (66, .v (.bool false)), (68, .v (.int .i64 (v7.1.length : Int))), (69, .sl 1 (v2.1.map (cdL 1 (cdL 1 cdI)).enc))] [] (by kernel_rfl) ?_
        refine RunS.one e_law09_EveningPlanned_ok 0 rfl (op_q (by kernel_rfl) rfl (q_len (a := .sl 1 (v2.1.map (cdL 1 (cdL 1 cdI)).enc)) (by kernel_rfl) (len_sl (el := 50) (by kernel_rfl)))) ?_
        refine RunS.segF (n := 103) e_law09_EveningPlanned_ok 3 [(7, .sl 1 (v1.1.map cdI.enc)), (8, .v (.int .i64 v1.2)), (9, .v (.int .i64 (wr .i64 (x1.tmod 21)))), (10, .sl 1 (v2.1.map (cdL 1 (cdL 1 cdI)).enc)), (14, .sl 1 (v7.1.map (cdL 1 (cdL 1 cdI)).enc)), (73, .v (.bool (decide ((v7.1.length : Int) > (v2.1.length : Int)))))] [] (by kernel_rfl) ?_
        rcases Bool.eq_false_or_eq_true (decide ((v7.1.length : Int) > (v2.1.length : Int))) with hc27 | hc27
        · rw [if_pos hc27] at hj11
          rw [hc27]
          refine RunS.segF (n := 103) e_law09_EveningPlanned_ok 8 [(7, .sl 1 (v1.1.map cdI.enc)), (8, .v (.int .i64 v1.2)), (9, .v (.int .i64 (wr .i64 (x1.tmod 21)))), (10, .sl 1 (v2.1.map (cdL 1 (cdL 1 cdI)).enc)), (81, .v (.bool true))] [] (by kernel_rfl) ?_
          have hq := Option.some.inj hj11; subst hq
          exact RunS.done rfl Wk.f1
        · rw [if_f hc27] at hj11
          rw [hc27]
          refine RunS.segF (n := 103) e_law09_EveningPlanned_ok 3 [(7, .sl 1 (v1.1.map cdI.enc)), (8, .v (.int .i64 v1.2)), (9, .v (.int .i64 (wr .i64 (x1.tmod 21)))), (10, .sl 1 (v2.1.map (cdL 1 (cdL 1 cdI)).enc)), (73, .v (.bool false)), (74, .sl 1 (v7.1.map (cdL 1 (cdL 1 cdI)).enc)), (75, .sl 1 (v2.1.map (cdL 1 (cdL 1 cdI)).enc)), (76, .sl 1 (v7.1.map (cdL 1 (cdL 1 cdI)).enc))] [] (by kernel_rfl) ?_
          refine RunS.one e_law09_EveningPlanned_ok 0 rfl (op_q (by kernel_rfl) rfl (q_len (a := .sl 1 (v7.1.map (cdL 1 (cdL 1 cdI)).enc)) (by kernel_rfl) (len_sl (el := 50) (by kernel_rfl)))) ?_
          by_cases hk8 : (cutOk 0 (v7.1.length : Int) v2.1.length) = true
          case neg => rw [if_neg hk8] at hj11; cases hj11
          rw [if_pos hk8] at hj11
          refine RunS.one e_law09_EveningPlanned_ok 0 rfl (op_q (by kernel_rfl) rfl (q_slice (a := .sl 1 (v2.1.map (cdL 1 (cdL 1 cdI)).enc)) (l := none) (u := (some (.v (.int .i64 (v7.1.length : Int))))) (m := none) (by kernel_rfl) (by kernel_rfl) (by kernel_rfl) rfl (slice_sl (xs := v2.1) (e := (cdL 1 (cdL 1 cdI)).enc) (k := 1) (el := 50) (lo := 0) (hi := (v7.1.length : Int)) (by kernel_rfl) (by kernel_rfl) rfl (natB_i (cut_hi hk8)) hk8))) ?_
          obtain ⟨v9, hv9, hj11⟩ := Option.bind_eq_some_iff.1 hj11
          refine RunS.call e_law09_EveningPlanned_ok (fid := 18) (s := cs_law09_Same) (F := fun a => law09_Same a.1 a.2.1) (er := er_law09_Same) (xs := [.sl 1 (v7.1.map (cdL 1 (cdL 1 cdI)).enc), .sl 1 (((v2.1.take (v7.1.length : Int).toNat).drop (0 : Int).toNat).map (cdL 1 (cdL 1 cdI)).enc)]) (a := (v7.1, ((v2.1.take (v7.1.length : Int).toNat).drop (0 : Int).toNat), ())) rfl (by kernel_rfl) (by kernel_rfl) (by kernel_rfl) (by kernel_rfl) (by kernel_rfl) (Sns.cons (Sn.enc (c := (cdL 1 (cdL 1 (cdL 1 cdI)))) (v := v7.1)) (Sns.cons (Sn.enc (c := (cdL 1 (cdL 1 (cdL 1 cdI)))) (v := ((v2.1.take (v7.1.length : Int).toNat).drop (0 : Int).toNat))) Sns.nil)) (.inl (by kernel_rfl)) hv9 ?_
          refine RunS.segF (n := 103) e_law09_EveningPlanned_ok 2 [(7, .sl 1 (v1.1.map cdI.enc)), (8, .v (.int .i64 v1.2)), (9, .v (.int .i64 (wr .i64 (x1.tmod 21)))), (10, .sl 1 (v2.1.map (cdL 1 (cdL 1 cdI)).enc)), (81, .v (.bool (!v9)))] [] (by kernel_rfl) ?_
          have hq := Option.some.inj hj11; subst hq
          exact RunS.done rfl Wk.f1
    refine Sem.cond (b := j11) (by kernel_rfl) (fun hb12 => ?_) (fun hb12 => ?_)
    · rw [if_pos hb12] at h
      refine Sem.seq ?_
      refine Sem.runS (s1 := ⟨Fr 103 [(6, .v (.bool false))], []⟩) ?_ ?_
      · refine RunS.segF (n := 103) e_law09_EveningPlanned_ok 1 [(6, .v (.bool false))] [] (by kernel_rfl) ?_
        exact RunS.done rfl Wk.f1
      refine Sem.ret ?_
      have hq := Option.some.inj h; subst hq
      exact ⟨⟨Fr 103 [(6, .v (.bool false))], []⟩, Wk.f1, .inr rfl, [.v (.bool false)], (by kernel_rfl), (by kernel_rfl)⟩
    · rw [if_f hb12] at h
      refine Sem.skip ?_
      refine Sem.seq ?_
      refine Sem.seq ?_
      obtain ⟨j17, hj17, h⟩ := Option.bind_eq_some_iff.1 h
      refine Sem.runS (s1 := ⟨Fr 103 [(7, .sl 1 (v1.1.map cdI.enc)), (8, .v (.int .i64 v1.2)), (9, .v (.int .i64 (wr .i64 (x1.tmod 21)))), (10, .sl 1 (v2.1.map (cdL 1 (cdL 1 cdI)).enc)), (91, .v (.bool j17))], []⟩) ?_ ?_
      · refine RunS.segF (n := 103) e_law09_EveningPlanned_ok 3 [(7, .sl 1 (v1.1.map cdI.enc)), (8, .v (.int .i64 v1.2)), (9, .v (.int .i64 (wr .i64 (x1.tmod 21)))), (10, .sl 1 (v2.1.map (cdL 1 (cdL 1 cdI)).enc)), (84, .v (.bool (decide ((wr .i64 (x1.tmod 21)) > 0))))] [] (by kernel_rfl) ?_
        rcases Bool.eq_false_or_eq_true (decide ((wr .i64 (x1.tmod 21)) > 0)) with hc25 | hc25
        · rw [if_pos hc25] at hj17
          rw [hc25]
          refine RunS.segF (n := 103) e_law09_EveningPlanned_ok 1 [(7, .sl 1 (v1.1.map cdI.enc)), (8, .v (.int .i64 v1.2)), (9, .v (.int .i64 (wr .i64 (x1.tmod 21)))), (10, .sl 1 (v2.1.map (cdL 1 (cdL 1 cdI)).enc)), (84, .v (.bool true)), (85, .sl 1 (v2.1.map (cdL 1 (cdL 1 cdI)).enc))] [] (by kernel_rfl) ?_
          obtain ⟨v13, hv13, hj17⟩ := Option.bind_eq_some_iff.1 hj17
          refine RunS.one e_law09_EveningPlanned_ok 0 rfl (op_q (by kernel_rfl) rfl (q_indexAddr (a := .sl 1 (v2.1.map (cdL 1 (cdL 1 cdI)).enc)) (b := .v (.int .i64 0)) (by kernel_rfl) (by kernel_rfl) (ix_sl (e := (cdL 1 (cdL 1 cdI)).enc) (el := 50) (k := 1) (ki := .i64) (by kernel_rfl) (by kernel_rfl) hv13))) ?_
          refine RunS.segF (n := 103) e_law09_EveningPlanned_ok 1 [(7, .sl 1 (v1.1.map cdI.enc)), (8, .v (.int .i64 v1.2)), (9, .v (.int .i64 (wr .i64 (x1.tmod 21)))), (10, .sl 1 (v2.1.map (cdL 1 (cdL 1 cdI)).enc)), (84, .v (.bool true)), (87, .sl 1 (v13.map (cdL 1 cdI).enc))] [] (by kernel_rfl) ?_
          obtain ⟨v14, hv14, hj17⟩ := Option.bind_eq_some_iff.1 hj17
          refine RunS.call e_law09_EveningPlanned_ok (fid := 37) (s := cs_slices_Concat_L_int) (F := fun a => slices_Concat_L_int a.1) (er := er_slices_Concat_L_int) (xs := [.sl 1 (v13.map (cdL 1 cdI).enc)]) (a := (v13, ())) rfl (by kernel_rfl) (by kernel_rfl) (by kernel_rfl) (by kernel_rfl) (by kernel_rfl) (Sns.cons (Sn.enc (c := (cdL 1 (cdL 1 cdI))) (v := v13)) Sns.nil) (.inl (by kernel_rfl)) hv14 ?_
          obtain ⟨v15, hv15, hj17⟩ := Option.bind_eq_some_iff.1 hj17
          refine RunS.call e_law09_EveningPlanned_ok (fid := 36) (s := cs_slices_IsSorted_L_int) (F := fun a => slices_IsSorted_L_int a.1) (er := er_slices_IsSorted_L_int) (xs := [.sl 1 (v14.map cdI.enc)]) (a := (v14, ())) rfl (by kernel_rfl) (by kernel_rfl) (by kernel_rfl) (by kernel_rfl) (by kernel_rfl) (Sns.cons (Sn.enc (c := (cdL 1 cdI)) (v := v14)) Sns.nil) (.inl (by kernel_rfl)) hv15 ?_
          refine RunS.segF (n := 103) e_law09_EveningPlanned_ok 2 [(7, .sl 1 (v1.1.map cdI.enc)), (8, .v (.int .i64 v1.2)), (9, .v (.int .i64 (wr .i64 (x1.tmod 21)))), (10, .sl 1 (v2.1.map (cdL 1 (cdL 1 cdI)).enc)), (91, .v (.bool (!v15)))] [] (by kernel_rfl) ?_
          have hq := Option.some.inj hj17; subst hq
          exact RunS.done rfl Wk.f1
        · rw [if_f hc25] at hj17
          rw [hc25]
          refine RunS.segF (n := 103) e_law09_EveningPlanned_ok 7 [(7, .sl 1 (v1.1.map cdI.enc)), (8, .v (.int .i64 v1.2)), (9, .v (.int .i64 (wr .i64 (x1.tmod 21)))), (10, .sl 1 (v2.1.map (cdL 1 (cdL 1 cdI)).enc)), (91, .v (.bool false))] [] (by kernel_rfl) ?_
          have hq := Option.some.inj hj17; subst hq
          exact RunS.done rfl Wk.f1
      refine Sem.cond (b := j17) (by kernel_rfl) (fun hb18 => ?_) (fun hb18 => ?_)
      · rw [if_pos hb18] at h
        refine Sem.seq ?_
        refine Sem.runS (s1 := ⟨Fr 103 [(6, .v (.bool false))], []⟩) ?_ ?_
        · refine RunS.segF (n := 103) e_law09_EveningPlanned_ok 1 [(6, .v (.bool false))] [] (by kernel_rfl) ?_
          exact RunS.done rfl Wk.f1
        refine Sem.ret ?_
        have hq := Option.some.inj h; subst hq
        exact ⟨⟨Fr 103 [(6, .v (.bool false))], []⟩, Wk.f1, .inr rfl, [.v (.bool false)], (by kernel_rfl), (by kernel_rfl)⟩
      · rw [if_f hb18] at h
        refine Sem.skip ?_
        refine Sem.seq ?_
        obtain ⟨v19, hv19, h⟩ := Option.bind_eq_some_iff.1 h
        obtain ⟨v20, hv20, h⟩ := Option.bind_eq_some_iff.1 h
        obtain ⟨j23, hj23, h⟩ := Option.bind_eq_some_iff.1 h
        refine Sem.runS (s1 := ⟨Fr 103 [(6, .v (.bool j23))], []⟩) ?_ ?_
        · refine RunS.segF (n := 103) e_law09_EveningPlanned_ok 2 [(7, .sl 1 (v1.1.map cdI.enc)), (8, .v (.int .i64 v1.2)), (9, .v (.int .i64 (wr .i64 (x1.tmod 21)))), (92, .v (.int .i64 v1.2)), (93, .sl 1 (v2.1.map (cdL 1 (cdL 1 cdI)).enc))] [] (by kernel_rfl) ?_
          refine RunS.call e_law09_EveningPlanned_ok (fid := 33) (s := cs_evening_Most) (F := fun a => evening_Most a.1 a.2.1) (er := er_evening_Most) (xs := [.v (.int .i64 v1.2), .sl 1 (v2.1.map (cdL 1 (cdL 1 cdI)).enc)]) (a := (v1.2, v2.1, ())) rfl (wantedA_none rfl) (by kernel_rfl) (by kernel_rfl) (by kernel_rfl) (by kernel_rfl) (Sns.cons (Sn.enc (c := cdI) (v := v1.2)) (Sns.cons (Sn.enc (c := (cdL 1 (cdL 1 (cdL 1 cdI)))) (v := v2.1)) Sns.nil)) (.inl (by kernel_rfl)) hv19 ?_
          refine RunS.segF (n := 103) e_law09_EveningPlanned_ok 3 [(94, .v (.int .i64 v19)), (95, .v (.int .i64 v1.2)), (96, .sl 1 (v1.1.map cdI.enc)), (97, .v (.int .i64 (wr .i64 (x1.tmod 21))))] [] (by kernel_rfl) ?_
          refine RunS.call e_law09_EveningPlanned_ok (fid := 38) (b := v20) (s := cs_evening_LeastMost) (F := fun a => evening_LeastMost a.1 a.2.1 a.2.2.1) (er := er_evening_LeastMost) (xs := [.v (.int .i64 v1.2), .sl 1 (v1.1.map cdI.enc), .v (.int .i64 (wr .i64 (x1.tmod 21)))]) (a := (v1.2, v1.1, (wr .i64 (x1.tmod 21)), ())) rfl (wantedA_none rfl) (by kernel_rfl) (by kernel_rfl) (by kernel_rfl) (by kernel_rfl) (Sns.cons (Sn.enc (c := cdI) (v := v1.2)) (Sns.cons (Sn.enc (c := (cdL 1 cdI)) (v := v1.1)) (Sns.cons (Sn.enc (c := cdI) (v := (wr .i64 (x1.tmod 21)))) Sns.nil))) (.inl (by kernel_rfl)) (by dsimp only; exact hv20) ?_
          refine RunS.segF (n := 103) e_law09_EveningPlanned_ok 2 [(100, .v (.bool (decide (v19 ≥ v20))))] [] (by kernel_rfl) ?_
          rcases Bool.eq_false_or_eq_true (decide (v19 ≥ v20)) with hc24 | hc24
          · rw [if_pos hc24] at hj23
            rw [hc24]
            obtain ⟨v21, hv21, hj23⟩ := Option.bind_eq_some_iff.1 hj23
            refine RunS.call e_law09_EveningPlanned_ok (fid := 13) (s := cs_law09_awake) (F := fun a => law09_awake ) (er := er_law09_awake) (xs := []) (a := (())) rfl (by kernel_rfl) (by kernel_rfl) (by kernel_rfl) (by kernel_rfl) (by kernel_rfl) Sns.nil (.inl (by kernel_rfl)) hv21 ?_
            refine RunS.segF (n := 103) e_law09_EveningPlanned_ok 2 [(6, .v (.bool v21))] [] (by kernel_rfl) ?_
            have hq := Option.some.inj hj23; subst hq
            exact RunS.done rfl Wk.f1
          · rw [if_f hc24] at hj23
            rw [hc24]
            refine RunS.segF (n := 103) e_law09_EveningPlanned_ok 3 [(6, .v (.bool false))] [] (by kernel_rfl) ?_
            have hq := Option.some.inj hj23; subst hq
            exact RunS.done rfl Wk.f1
        refine Sem.ret ?_
        have hq := Option.some.inj h; subst hq
        exact ⟨⟨Fr 103 [(6, .v (.bool j23))], []⟩, Wk.f1, .inr rfl, [.v (.bool j23)], (by kernel_rfl), (by kernel_rfl)⟩
def t_law09_EveningPlanned : List AV → Option AV := told cs_law09_EveningPlanned (fun a => law09_EveningPlanned a.1 a.2.1 a.2.2.1) er_law09_EveningPlanned
theorem x_law09_EveningPlanned : XOk 10 t_law09_EveningPlanned := by
  refine EnvOk.x (E := e_law09_EveningPlanned) (contract_ok e_law09_EveningPlanned_ok (fn := Tryd.f10) (c := cb_law09_EveningPlanned) ?h1 ?h2 ⟨Tryd.call10⟩ cs_law09_EveningPlanned (fun a => law09_EveningPlanned a.1 a.2.1 a.2.2.1) er_law09_EveningPlanned (fun a => (by show 3 ≤ 103; decide)) ?h3 ?h4) rfl rfl
  case h1 => kernel_rfl
  case h2 => kernel_rfl
  case h3 => intro b; kernel_rfl
  case h4 => exact fun a b h => law09_EveningPlanned_sem a.1 a.2.1 a.2.2.1 b h
def in64 (n : Int) : Prop := -9223372036854775808 ≤ n ∧ n ≤ 9223372036854775807
theorem wr_i {n : Int} (h1 : -9223372036854775808 ≤ n) (h2 : n ≤ 9223372036854775807) : wr .i64 n = n := by
  show (if _ then n else _) = n
  rw [if_pos ⟨h1, h2⟩]
theorem idx_app {α : Type} (pre : List α) (v : α) (r : List α) : idx (pre ++ v :: r) (pre.length : Int) = some v := by
  unfold idx
  rw [if_pos (by omega)]
  simp
theorem idx_lt {α : Type} {xs : List α} {i : Nat} (h : i < xs.length) : idx xs (i : Int) = some xs[i] := by
  unfold idx
  rw [if_pos (by omega)]
  simp [h]
theorem snoc_len {α : Type} (pre : List α) (v : α) : ((pre.length : Int) + 1) = ((pre ++ [v]).length : Int) := by simp
theorem snoc_app {α : Type} (pre : List α) (v : α) (r : List α) : pre ++ v :: r = (pre ++ [v]) ++ r := by simp
theorem wr_snoc {α : Type} (pre : List α) (v : α) (r : List α) (h : (pre ++ v :: r).length ≤ 1000000000) : wr .i64 ((pre.length : Int) + 1) = ((pre ++ [v]).length : Int) := by
  simp at h
  rw [wr_i (by omega) (by omega)]; simp
theorem lt_len {α : Type} (pre : List α) (v : α) (r : List α) : decide ((pre.length : Int) < ((pre ++ v :: r).length : Int)) = true := by
  simp; omega
theorem nlt_len {α : Type} (pre : List α) : decide ((pre.length : Int) < ((pre ++ []).length : Int)) = false := by simp
theorem capOk_le {b n : Nat} (hb : b ≤ 1000) (h : n ≤ 1000000000) : capOk b n = true := by
  have h1 : n * b ≤ 1000000000 * 1000 := Nat.mul_le_mul h hb
  unfold capOk
  rw [Bool.and_eq_true]
  exact ⟨Nat.ble_eq_true_of_le (by omega), Nat.ble_eq_true_of_le (by omega)⟩
theorem tdiv2 (n : Int) (h : 0 ≤ n) : n.tdiv 2 = n / 2 := Int.tdiv_eq_ediv_of_nonneg h
def inc (cs : List Int) (i : Nat) : List Int := cs.set i (cs.getD i 0 + 1)
def incs (cs : List Int) (L : List Nat) : List Int := L.foldl inc cs
theorem inc_len (cs : List Int) (i : Nat) : (inc cs i).length = cs.length := by simp [inc]
theorem incs_len : ∀ (L : List Nat) (cs : List Int), (incs cs L).length = cs.length
  | [], _ => rfl
  | i :: L, cs => (incs_len L (inc cs i)).trans (inc_len cs i)
theorem incs_app (cs : List Int) (L L' : List Nat) : incs cs (L ++ L') = incs (incs cs L) L' := List.foldl_append
theorem incs_cons (cs : List Int) (i : Nat) (L : List Nat) : incs cs (i :: L) = incs (inc cs i) L := rfl
theorem inc_get (cs : List Int) (i j : Nat) (h : j < cs.length) : (inc cs i).getD j 0 = cs.getD j 0 + (if i = j then 1 else 0) := by
  unfold inc
  by_cases e : i = j
  · subst e
    simp [List.getD_eq_getElem?_getD, h]
  · simp [List.getD_eq_getElem?_getD, e]
theorem incs_get : ∀ (L : List Nat) (cs : List Int) (j : Nat), j < cs.length → (incs cs L).getD j 0 = cs.getD j 0 + (L.count j : Nat)
  | [], cs, j, _ => by simp [incs]
  | i :: L, cs, j, h => by
    rw [incs_cons, incs_get L (inc cs i) j (by rw [inc_len]; exact h), inc_get cs i j h, List.count_cons]
    by_cases e : i = j
    · simp [e]; omega
    · simp [e]
def zeros (n : Nat) : List Int := List.replicate n 0
theorem zeros_get (n j : Nat) : (zeros n).getD j 0 = 0 := by
  simp only [zeros, List.getD_eq_getElem?_getD, List.getElem?_replicate]
  split <;> rfl
theorem cnt_get (L : List Nat) (n j : Nat) (h : j < n) : (incs (zeros n) L).getD j 0 = (L.count j : Nat) := by
  rw [incs_get L (zeros n) j (by simpa [zeros] using h), zeros_get]; simp
/-- A bit of a number. -/
def tb (m i : Nat) : Bool := Nat.beq (Nat.mod (Nat.shiftRight m i) 2) 1
/-- The numbers of a list as bits; none if one stands there twice. -/
def bits : List Nat → Nat → Option Nat
  | [], m => some m
  | i :: L, m => bif tb m i then none else bits L (Nat.lor m (Nat.shiftLeft 1 i))
theorem cell_eq {n x y k l : Nat} (h1 : y < n) (h2 : l < n) (h : x * n + y = k * n + l) : x = k ∧ y = l := by
  have hn : 0 < n := by omega
  have e1 : (x * n + y) / n = x := by rw [Nat.mul_comm, Nat.mul_add_div hn, Nat.div_eq_of_lt h1]; rfl
  have e2 : (k * n + l) / n = k := by rw [Nat.mul_comm, Nat.mul_add_div hn, Nat.div_eq_of_lt h2]; rfl
  have : x = k := by rw [← e1, h, e2]
  subst this
  exact ⟨rfl, by omega⟩
theorem cell_lt {n x y : Nat} (h1 : x < n) (h2 : y < n) : x * n + y < n * n := by
  have : x * n + n ≤ n * n := by rw [← Nat.succ_mul]; exact Nat.mul_le_mul_right n h1
  omega
/- trestle/trestleref09.times -/
def ref09_times_j3 (x0 : (List (List Int))) (x1 : Int) (c2 : Int) (c4 : Int) (c5 : Int) (v9 : Int) : Option ((Int)) :=
  if (v9 == x1) = true then
  some (wr .i64 (c4 + 1))
  else
  some c4
def ref09_times_2 (x0 : (List (List Int))) (x1 : Int) (c2 : Int) : Nat → Int → Int → Option ((Int))
  | 0, _, _ => none
  | f + 1, c4, c5 =>
    (idx x0 c2).bind fun v6 =>
    if (decide (c5 < (v6.length : Int))) = true then
    (idx x0 c2).bind fun v8 =>
    (idx v8 c5).bind fun v9 =>
    (ref09_times_j3 x0 x1 c2 c4 c5 v9).bind fun r12 =>
    ref09_times_2 x0 x1 c2 f r12 (wr .i64 (c5 + 1))
    else
    some c4
def ref09_times_1 (x0 : (List (List Int))) (x1 : Int) : Nat → Int → Int → Option ((Int))
  | 0, _, _ => none
  | f + 1, c1, c2 =>
    if (decide (c2 < (x0.length : Int))) = true then
    (ref09_times_2 x0 x1 c2 100000 c1 0).bind fun r14 =>
    ref09_times_1 x0 x1 f r14 (wr .i64 (c2 + 1))
    else
    some c1
def ref09_times (x0 : (List (List Int))) (x1 : Int) : Option (Int) :=
  (ref09_times_1 x0 x1 100000 0 0).bind fun r16 =>
  some r16
end Go.Proofs.YtcmgmkepodbpkaaDoor
