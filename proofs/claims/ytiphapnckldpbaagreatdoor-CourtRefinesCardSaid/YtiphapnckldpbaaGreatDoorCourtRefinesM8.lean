/- trestlelaw03.CourtRefines returns true for every input, and its arguments read behind the call as before; conditions: those that the given row names. -/
import Derived.Test.YtiphapnckldpbaaGreatDoorCourtRefinesM1
import Derived.Test.YtiphapnckldpbaaGreatDoorCourtRefinesM2
import Derived.Test.YtiphapnckldpbaaGreatDoorCourtRefinesM3
import Derived.Test.YtiphapnckldpbaaGreatDoorCourtRefinesM4
import Derived.Test.YtiphapnckldpbaaGreatDoorCourtRefinesM5
import Derived.Test.YtiphapnckldpbaaGreatDoorCourtRefinesM6
import Derived.Test.YtiphapnckldpbaaGreatDoorCourtRefinesM7
set_option maxHeartbeats 4000000
set_option maxRecDepth 100000
namespace Go.Proofs.YtiphapnckldpbaaGreatDoor
open Go.RowKit
def isT (r : Option (AV × Hp)) : Bool := match r with
 | some (.v (.bool true), _) => true
 | _ => false
theorem isT_inv {r : Option (AV × Hp)} (h : isT r = true) : ∃ h', r = some (.v (.bool true), h') := by
 unfold isT at h
 split at h
 ·exact ⟨_, rfl⟩
 ·cases h
set_option maxRecDepth 1000000 in
theorem awakeT : isT (evCall E13 3000 17 [] []) = true := by kernel_rfl
theorem awake_ev : ∃ h, evCall E13 3000 17 [] [] = some (.v (.bool true), h) := isT_inv awakeT
theorem awake_ret (w : World) : Ret Tryz.prog 17 #[] w fun v w' => v = .bool true ∧ w.grownBy w' none := by
 obtain ⟨h, e⟩ := awake_ev
 exact ret_true (E := E13) (Z := fun _ => False) (us := []) E13_ok e (fun c hc => hc.elim) (fun g x h => by cases h) .nil
theorem vr_true {w : World} {Z : Nat → Prop} : VR w Z [] (.v (.bool true)) (.bool true) := .v rfl
def law03_awake : Option Bool := some true
def cs_law03_awake : Cs Unit := csN
def er_law03_awake (b : Bool) : AV := cdB.enc b
def t_law03_awake : List AV → Option AV := told cs_law03_awake (fun _ => law03_awake) er_law03_awake
theorem x_law03_awake : XOk 17 t_law03_awake := by
 refine ⟨⟨Tryz.call17⟩, fun xs x h w Z us _ _ hv => ?_⟩
 obtain ⟨a, ha, h⟩ := Option.bind_eq_some_iff.1 h
 obtain ⟨b, hb, rfl⟩ := Option.map_eq_some_iff.1 h
 have hb := Option.some.inj hb
 subst hb
 have : xs = [] := by
  cases xs with
  | nil => rfl
  | cons x xs => cases ha
 subst this
 have : us = [] := by have := hv.len; simpa using this
 subst this
 exact Ret.mono (awake_ret w) fun v w' h => ⟨h.2, by rw [h.1]; exact vr_true⟩
/- trestle/trestlelaw03.CourtRefines -/
noncomputable def cb_law03_CourtRefines : Code := codeOf Tryz.f14
def law03_CourtRefines_j3 (v1 : (List Clause)) (v2 : (List Clause)) (v3 : (List Guest)) (v4 : (List Clause) × Int) (c8 : Int) (c10 : Int) (v14 : Int) : Option ((Int)) :=
 if (v14 == 0) = true then
 (idx v3 c8).bind fun v16 =>
 (idx v3 c10).bind fun v17 =>
 (court_Compare v2 v16 v17 c8 c10).bind fun v18 =>
 some v18
 else
 some v14
def law03_CourtRefines_l2 (v1 : (List Clause)) (v2 : (List Clause)) (v3 : (List Guest)) (v4 : (List Clause) × Int) (c8 : Int) : Nat → Int → Option ((Unit) ⊕ (Bool))
 | 0, _ => none
 | f + 1, c10 =>
  if (decide (c10 < (v3.length : Int))) = true then
  (idx v3 c8).bind fun v12 =>
  (idx v3 c10).bind fun v13 =>
  (court_Compare v1 v12 v13 c8 c10).bind fun v14 =>
  (law03_CourtRefines_j3 v1 v2 v3 v4 c8 c10 v14).bind fun r20 =>
  (idx v3 c8).bind fun v21 =>
  (idx v3 c10).bind fun v22 =>
  (court_Compare v4.1 v21 v22 c8 c10).bind fun v23 =>
  if (v23 != r20) = true then
  some (.inr false)
  else
  law03_CourtRefines_l2 v1 v2 v3 v4 c8 f (wr .i64 (c10 + 1))
  else
  some (.inl ())
def law03_CourtRefines_l1 (v1 : (List Clause)) (v2 : (List Clause)) (v3 : (List Guest)) (v4 : (List Clause) × Int) : Nat → Int → Option ((Unit) ⊕ (Bool))
 | 0, _ => none
 | f + 1, c8 =>
  if (decide (c8 < (v3.length : Int))) = true then
  (law03_CourtRefines_l2 v1 v2 v3 v4 c8 100000 0).bind fun r26 =>
  match r26 with
  | (.inl w27) =>
   law03_CourtRefines_l1 v1 v2 v3 v4 f (wr .i64 (c8 + 1))
  | (.inr w28) =>
   some (.inr w28)
  else
  some (.inl ())
def law03_CourtRefines (x0 : (List (Int × Int × Int × Bool × Bool))) (x1 : (List (Int × Int × Int × Bool × Bool))) (x2 : (List (Int × Int))) : Option (Bool) :=
 (law03_Made x0).bind fun v1 =>
 (law03_Made x1).bind fun v2 =>
 (law03_Guests x2 16).bind fun v3 =>
 (court_Merge v1 v2).bind fun v4 =>
 (if (v4.2 != 0) = true then some true else some ((v4.1.length : Int) != (wr .i64 ((v1.length : Int) + (v2.length : Int))))).bind fun j6 =>
 if j6 = true then
 some false
 else
 (law03_CourtRefines_l1 v1 v2 v3 v4 100000 0).bind fun r30 =>
 match r30 with
 | (.inl w31) =>
  law03_awake.bind fun v32 =>
  some v32
 | (.inr w33) =>
  some w33
def cs_law03_CourtRefines : Cs (((List (Int × Int × Int × Bool × Bool))) × ((List (Int × Int × Int × Bool × Bool))) × ((List (Int × Int))) × Unit) := (csC (cdL 5 (cdA (csC (cdK .u8) (csC (cdK .u8) (csC (cdK .u8) (csC cdB (csE cdB))))) (fun _ => rfl))) (csC (cdL 5 (cdA (csC (cdK .u8) (csC (cdK .u8) (csC (cdK .u8) (csC cdB (csE cdB))))) (fun _ => rfl))) (csC (cdL 2 (cdG2 (cdK .u8) (cdK .u8) (fun _ => rfl) (fun _ => rfl))) csN)))
def er_law03_CourtRefines (r : Bool) : AV := cdB.enc r
theorem law03_CourtRefines_j3_ok (v1 : (List Clause)) (v2 : (List Clause)) (v3 : (List Guest)) (v4 : (List Clause) × Int) (c8 : Int) (c10 : Int) (v14 : Int) (r : (Int)) (h : law03_CourtRefines_j3 v1 v2 v3 v4 c8 c10 v14 = some r) : Sem E0 ⟨none, false⟩ (pc cb_law03_CourtRefines [1, 1, 1, 1, 0, 1, 0, 0, 1, 1, 0, 0, 1, 1, 0, 0, 1, 1, 0, 0, 1, 1, 0, 1]) ⟨Fr 92 [(7, .sl 5 (v1.map cdClause.enc)), (8, .sl 5 (v2.map cdClause.enc)), (9, .sl 9 (v3.map cdGuest.enc)), (10, .sl 5 (v4.1.map cdClause.enc)), (12, .v (.int .i64 c8)), (13, .v (.int .i64 c10)), (14, .v (.int .i64 v14)), (40, .v (.int .i64 (v3.length : Int))), (41, .v (.int .i64 c8)), (45, .v (.int .i64 (v3.length : Int))), (46, .v (.int .i64 c10)), (62, .v (.bool (v14 == 0)))], []⟩ (fun e s => e = .normal ∧ Wk E0 s ⟨Fr 92 [(7, .sl 5 (v1.map cdClause.enc)), (8, .sl 5 (v2.map cdClause.enc)), (9, .sl 9 (v3.map cdGuest.enc)), (10, .sl 5 (v4.1.map cdClause.enc)), (12, .v (.int .i64 c8)), (13, .v (.int .i64 c10)), (14, .v (.int .i64 r)), (40, .v (.int .i64 (v3.length : Int))), (41, .v (.int .i64 c8)), (45, .v (.int .i64 (v3.length : Int))), (46, .v (.int .i64 c10))], []⟩) := by
 unfold law03_CourtRefines_j3 at h
 refine Sem.cond (b := (v14 == 0)) kr (fun hb15 => ?_) (fun hb15 => ?_)
 ·rw [if_pos hb15] at h
  obtain ⟨v16, hv16, h⟩ := Option.bind_eq_some_iff.1 h
  obtain ⟨v17, hv17, h⟩ := Option.bind_eq_some_iff.1 h
  obtain ⟨v18, hv18, h⟩ := Option.bind_eq_some_iff.1 h
  let p1 : Nat × AV := (46, .v (.int .i64 c10))
  let p2 : Nat × AV := (45, .v (.int .i64 (v3.length : Int)))
  let p3 : Nat × AV := (41, .v (.int .i64 c8))
  let p4 : Nat × AV := (40, .v (.int .i64 (v3.length : Int)))
  let p5 : Nat × AV := (13, .v (.int .i64 c10))
  let p6 : Nat × AV := (12, .v (.int .i64 c8))
  let p7 : Nat × AV := (10, .sl 5 (v4.1.map cdClause.enc))
  let p8 : Nat × AV := (9, .sl 9 (v3.map cdGuest.enc))
  let p9 : Nat × AV := (8, .sl 5 (v2.map cdClause.enc))
  let p10 : Nat × AV := (7, .sl 5 (v1.map cdClause.enc))
  refine Sem.runDS E0_ok (s1 := ⟨Fr 92 [p10, p9, p8, p7, p6, p5, (14, .v (.int .i64 v18)), p4, p3, p2, p1], []⟩) kr ?_ ?_
  ·let p11 : Nat × AV := (63, .sl 5 (v2.map cdClause.enc))
   refine RunDS.segF (n := 92) E0_ok 3 [p10, p9, p8, p7, p6, p5, p4, p3, p2, p1, p11, (64, .sl 9 (v3.map cdGuest.enc)), (65, .v (.int .i64 c8))] [] kr kr ?_
   refine RunDS.one E0_ok rfl kr (opd_q kr (wantedA_none rfl) rfl (q_indexAddr (a := .sl 9 (v3.map cdGuest.enc)) (b := .v (.int .i64 c8)) kr kr (ix_sl (e := cdGuest.enc) (el := 44) (k := 9) (ki := .i64) kr kr hv16)) kr) ?_
   refine RunDS.segF (n := 92) E0_ok 3 [p10, p9, p8, p7, p6, p5, p4, p3, p2, p1, p11, (67, cdGuest.enc v16), (68, .sl 9 (v3.map cdGuest.enc)), (69, .v (.int .i64 c10))] [] kr kr ?_
   refine RunDS.one E0_ok rfl kr (opd_q kr (wantedA_none rfl) rfl (q_indexAddr (a := .sl 9 (v3.map cdGuest.enc)) (b := .v (.int .i64 c10)) kr kr (ix_sl (e := cdGuest.enc) (el := 44) (k := 9) (ki := .i64) kr kr hv17)) kr) ?_
   refine RunDS.segF (n := 92) E0_ok 3 [p10, p9, p8, p7, p6, p5, p4, p3, p2, p1, p11, (67, cdGuest.enc v16), (71, cdGuest.enc v17), (72, .v (.int .i64 c8)), (73, .v (.int .i64 c10))] [] kr kr ?_
   refine RunDS.callV (caps := []) (xs := [.sl 5 (v2.map cdClause.enc), cdGuest.enc v16, cdGuest.enc v17, .v (.int .i64 c8), .v (.int .i64 c10)]) (u := (v2, v16, v17, c8, c10, ())) rfl rfl x_court_Compare rfl (wantedA_none rfl) kr kr (Sl.cons (Sm.enc (c := (cdL 5 cdClause)) (v := v2)) (Sl.cons (Sm.enc (c := cdGuest) (v := v16)) (Sl.cons (Sm.enc (c := cdGuest) (v := v17)) (Sl.cons (Sm.enc (c := cdI) (v := c8)) (Sl.cons (Sm.enc (c := cdI) (v := c10)) Sl.nil))))) kr hv18 ?_
   refine RunDS.segF (n := 92) E0_ok 1 [p10, p9, p8, p7, p6, p5, (14, .v (.int .i64 v18)), p4, p3, p2, p1] [] kr kr ?_
   exact RunDS.done rfl (Wk.fr kr)
  have hq := Option.some.inj h; subst hq
  exact ⟨rfl, (Wk.fr kr)⟩
 ·rw [if_f hb15] at h
  refine Sem.skip ?_
  have hq := Option.some.inj h; subst hq
  exact ⟨rfl, (Wk.fr kr)⟩
theorem law03_CourtRefines_l2_ok (v1 : (List Clause)) (v2 : (List Clause)) (v3 : (List Guest)) (v4 : (List Clause) × Int) (c8 : Int) : ∀ (f : Nat) (c10 : Int) (r : (Unit) ⊕ (Bool)), law03_CourtRefines_l2 v1 v2 v3 v4 c8 f c10 = some r → SemN E0 ⟨none, false⟩ (pc cb_law03_CourtRefines [1, 1, 1, 1, 0, 1, 0, 0, 1, 1, 0, 0, 1, 1, 0, 0]) f ⟨Fr 92 [(7, .sl 5 (v1.map cdClause.enc)), (8, .sl 5 (v2.map cdClause.enc)), (9, .sl 9 (v3.map cdGuest.enc)), (10, .sl 5 (v4.1.map cdClause.enc)), (12, .v (.int .i64 c8)), (40, .v (.int .i64 (v3.length : Int))), (41, .v (.int .i64 c8)), (45, .v (.int .i64 (v3.length : Int))), (46, .v (.int .i64 c10))], []⟩ (fun e s => match r with
 | (.inl w) => e = (.exit 2) ∧ Wk E0 s ⟨Fr 92 [(7, .sl 5 (v1.map cdClause.enc)), (8, .sl 5 (v2.map cdClause.enc)), (9, .sl 9 (v3.map cdGuest.enc)), (10, .sl 5 (v4.1.map cdClause.enc)), (40, .v (.int .i64 (v3.length : Int))), (41, .v (.int .i64 c8))], []⟩
 | (.inr w) => e = .ret ∧ Wk E0 s ⟨Fr 92 [(6, .v (.bool w))], []⟩) := by
 intro f
 induction f with
 | zero => intro c10 r h; cases h
 | succ f ih0 =>
  intro c10 r h
  have ih := fun (c10 : Int) => ih0 c10 r
  unfold law03_CourtRefines_l2 at h
  refine SemN.succ ?_
  let p1 : Nat × AV := (46, .v (.int .i64 c10))
  let p2 : Nat × AV := (45, .v (.int .i64 (v3.length : Int)))
  let p3 : Nat × AV := (41, .v (.int .i64 c8))
  let p4 : Nat × AV := (40, .v (.int .i64 (v3.length : Int)))
  let p5 : Nat × AV := (12, .v (.int .i64 c8))
  let p6 : Nat × AV := (10, .sl 5 (v4.1.map cdClause.enc))
  let p7 : Nat × AV := (9, .sl 9 (v3.map cdGuest.enc))
  let p8 : Nat × AV := (8, .sl 5 (v2.map cdClause.enc))
  let p9 : Nat × AV := (7, .sl 5 (v1.map cdClause.enc))
  refine Sem.sq E0_ok [p9, p8, p7, p6, p5, p4, p3, p2, p1, (47, .v (.bool (decide (c10 < (v3.length : Int)))))] [] ?_
  refine Sem.seq ?_
  refine Sem.cond (b := (decide (c10 < (v3.length : Int)))) kr (fun hb11 => ?_) (fun hb11 => ?_)
  ·rw [if_pos hb11] at h
   refine Sem.skip ?_
   refine Sem.seq ?_
   refine Sem.block ?_
   let p10 : Nat × AV := (13, .v (.int .i64 c10))
   refine Sem.sq E0_ok [p9, p8, p7, p6, p5, p10, p4, p3, p2, p1] [] ?_
   refine Sem.seq ?_
   obtain ⟨v12, hv12, h⟩ := Option.bind_eq_some_iff.1 h
   obtain ⟨v13, hv13, h⟩ := Option.bind_eq_some_iff.1 h
   obtain ⟨v14, hv14, h⟩ := Option.bind_eq_some_iff.1 h
   let p11 : Nat × AV := (14, .v (.int .i64 v14))
   refine Sem.runDS E0_ok (s1 := ⟨Fr 92 [p9, p8, p7, p6, p5, p10, p11, p4, p3, p2, p1], []⟩) kr ?_ ?_
   ·let p12 : Nat × AV := (49, .sl 5 (v1.map cdClause.enc))
    refine RunDS.segF (n := 92) E0_ok 3 [p9, p8, p7, p6, p5, p10, p4, p3, p2, p1, p12, (50, .sl 9 (v3.map cdGuest.enc)), (51, .v (.int .i64 c8))] [] kr kr ?_
    refine RunDS.one E0_ok rfl kr (opd_q kr (wantedA_none rfl) rfl (q_indexAddr (a := .sl 9 (v3.map cdGuest.enc)) (b := .v (.int .i64 c8)) kr kr (ix_sl (e := cdGuest.enc) (el := 44) (k := 9) (ki := .i64) kr kr hv12)) kr) ?_
    refine RunDS.segF (n := 92) E0_ok 3 [p9, p8, p7, p6, p5, p10, p4, p3, p2, p1, p12, (53, cdGuest.enc v12), (54, .sl 9 (v3.map cdGuest.enc)), (55, .v (.int .i64 c10))] [] kr kr ?_
    refine RunDS.one E0_ok rfl kr (opd_q kr (wantedA_none rfl) rfl (q_indexAddr (a := .sl 9 (v3.map cdGuest.enc)) (b := .v (.int .i64 c10)) kr kr (ix_sl (e := cdGuest.enc) (el := 44) (k := 9) (ki := .i64) kr kr hv13)) kr) ?_
    refine RunDS.segF (n := 92) E0_ok 3 [p9, p8, p7, p6, p5, p10, p4, p3, p2, p1, p12, (53, cdGuest.enc v12), (57, cdGuest.enc v13), (58, .v (.int .i64 c8)), (59, .v (.int .i64 c10))] [] kr kr ?_
    refine RunDS.callV (caps := []) (xs := [.sl 5 (v1.map cdClause.enc), cdGuest.enc v12, cdGuest.enc v13, .v (.int .i64 c8), .v (.int .i64 c10)]) (u := (v1, v12, v13, c8, c10, ())) rfl rfl x_court_Compare rfl (wantedA_none rfl) kr kr (Sl.cons (Sm.enc (c := (cdL 5 cdClause)) (v := v1)) (Sl.cons (Sm.enc (c := cdGuest) (v := v12)) (Sl.cons (Sm.enc (c := cdGuest) (v := v13)) (Sl.cons (Sm.enc (c := cdI) (v := c8)) (Sl.cons (Sm.enc (c := cdI) (v := c10)) Sl.nil))))) kr hv14 ?_
    refine RunDS.segF (n := 92) E0_ok 1 [p9, p8, p7, p6, p5, p10, p11, p4, p3, p2, p1] [] kr kr ?_
    exact RunDS.done rfl (Wk.fr kr)
   refine Sem.seq ?_
   refine Sem.sq E0_ok [p9, p8, p7, p6, p5, p10, p11, p4, p3, p2, p1, (62, .v (.bool (v14 == 0)))] [] ?_
   obtain ⟨r20, hr20, h⟩ := Option.bind_eq_some_iff.1 h
   refine Sem.cut (law03_CourtRefines_j3_ok v1 v2 v3 v4 c8 c10 v14 _ hr20) ?_
   refine Sem.seq ?_
   obtain ⟨v21, hv21, h⟩ := Option.bind_eq_some_iff.1 h
   obtain ⟨v22, hv22, h⟩ := Option.bind_eq_some_iff.1 h
   obtain ⟨v23, hv23, h⟩ := Option.bind_eq_some_iff.1 h
   refine Sem.runDS E0_ok (s1 := ⟨Fr 92 [p9, p8, p7, p6, p5, p4, p3, p2, p1, (88, .v (.bool (v23 != r20)))], []⟩) kr ?_ ?_
   ·let p13 : Nat × AV := (75, .sl 5 (v4.1.map cdClause.enc))
    let p14 : Nat × AV := (14, .v (.int .i64 r20))
    refine RunDS.segF (n := 92) E0_ok 3 [p9, p8, p7, p6, p5, p10, p14, p4, p3, p2, p1, p13, (76, .sl 9 (v3.map cdGuest.enc)), (77, .v (.int .i64 c8))] [] kr kr ?_
    refine RunDS.one E0_ok rfl kr (opd_q kr (wantedA_none rfl) rfl (q_indexAddr (a := .sl 9 (v3.map cdGuest.enc)) (b := .v (.int .i64 c8)) kr kr (ix_sl (e := cdGuest.enc) (el := 44) (k := 9) (ki := .i64) kr kr hv21)) kr) ?_
    refine RunDS.segF (n := 92) E0_ok 3 [p9, p8, p7, p6, p5, p10, p14, p4, p3, p2, p1, p13, (79, cdGuest.enc v21), (80, .sl 9 (v3.map cdGuest.enc)), (81, .v (.int .i64 c10))] [] kr kr ?_
    refine RunDS.one E0_ok rfl kr (opd_q kr (wantedA_none rfl) rfl (q_indexAddr (a := .sl 9 (v3.map cdGuest.enc)) (b := .v (.int .i64 c10)) kr kr (ix_sl (e := cdGuest.enc) (el := 44) (k := 9) (ki := .i64) kr kr hv22)) kr) ?_
    refine RunDS.segF (n := 92) E0_ok 3 [p9, p8, p7, p6, p5, p14, p4, p3, p2, p1, p13, (79, cdGuest.enc v21), (83, cdGuest.enc v22), (84, .v (.int .i64 c8)), (85, .v (.int .i64 c10))] [] kr kr ?_
    refine RunDS.callV (caps := []) (xs := [.sl 5 (v4.1.map cdClause.enc), cdGuest.enc v21, cdGuest.enc v22, .v (.int .i64 c8), .v (.int .i64 c10)]) (u := (v4.1, v21, v22, c8, c10, ())) rfl rfl x_court_Compare rfl (wantedA_none rfl) kr kr (Sl.cons (Sm.enc (c := (cdL 5 cdClause)) (v := v4.1)) (Sl.cons (Sm.enc (c := cdGuest) (v := v21)) (Sl.cons (Sm.enc (c := cdGuest) (v := v22)) (Sl.cons (Sm.enc (c := cdI) (v := c8)) (Sl.cons (Sm.enc (c := cdI) (v := c10)) Sl.nil))))) kr hv23 ?_
    refine RunDS.segF (n := 92) E0_ok 2 [p9, p8, p7, p6, p5, p4, p3, p2, p1, (88, .v (.bool (v23 != r20)))] [] kr kr ?_
    exact RunDS.done rfl (Wk.fr kr)
   refine Sem.cond (b := (v23 != r20)) kr (fun hb24 => ?_) (fun hb24 => ?_)
   ·rw [if_pos hb24] at h
    refine Sem.sq E0_ok [(6, .v (.bool false))] [] ?_
    refine Sem.ret ?_
    have hq := Option.some.inj h; subst hq
    exact ⟨rfl, (Wk.fr kr)⟩
   ·rw [if_f hb24] at h
    refine Sem.skip ?_
    let p15 : Nat × AV := (46, .v (.int .i64 (wr .i64 (c10 + 1))))
    refine Sem.rg E0_ok [p9, p8, p7, p6, p5, p4, p3, p2, p15] [] ?_
    exact SemN.wk (s1 := ⟨Fr 92 [p9, p8, p7, p6, p5, p4, p3, p2, p15], []⟩) (Wk.fr kr) (ih (wr .i64 (c10 + 1)) h)
  ·rw [if_f hb11] at h
   refine Sem.exit ?_
   have hq := Option.some.inj h; subst hq
   exact ⟨rfl, (Wk.fr kr)⟩
theorem law03_CourtRefines_l1_ok (v1 : (List Clause)) (v2 : (List Clause)) (v3 : (List Guest)) (v4 : (List Clause) × Int) : ∀ (f : Nat) (c8 : Int) (r : (Unit) ⊕ (Bool)), law03_CourtRefines_l1 v1 v2 v3 v4 f c8 = some r → SemN E0 ⟨none, false⟩ (pc cb_law03_CourtRefines [1, 1, 1, 1, 0, 1, 0, 0]) f ⟨Fr 92 [(7, .sl 5 (v1.map cdClause.enc)), (8, .sl 5 (v2.map cdClause.enc)), (9, .sl 9 (v3.map cdGuest.enc)), (10, .sl 5 (v4.1.map cdClause.enc)), (40, .v (.int .i64 (v3.length : Int))), (41, .v (.int .i64 c8))], []⟩ (fun e s => match r with
 | (.inl w) => e = (.exit 0) ∧ Wk E0 s ⟨Fr 92 [], []⟩
 | (.inr w) => e = .ret ∧ Wk E0 s ⟨Fr 92 [(6, .v (.bool w))], []⟩) := by
 intro f
 induction f with
 | zero => intro c8 r h; cases h
 | succ f ih0 =>
  intro c8 r h
  have ih := fun (c8 : Int) => ih0 c8 r
  unfold law03_CourtRefines_l1 at h
  refine SemN.succ ?_
  let p1 : Nat × AV := (41, .v (.int .i64 c8))
  let p2 : Nat × AV := (40, .v (.int .i64 (v3.length : Int)))
  let p3 : Nat × AV := (10, .sl 5 (v4.1.map cdClause.enc))
  let p4 : Nat × AV := (9, .sl 9 (v3.map cdGuest.enc))
  let p5 : Nat × AV := (8, .sl 5 (v2.map cdClause.enc))
  let p6 : Nat × AV := (7, .sl 5 (v1.map cdClause.enc))
  refine Sem.sq E0_ok [p6, p5, p4, p3, p2, p1, (42, .v (.bool (decide (c8 < (v3.length : Int)))))] [] ?_
  refine Sem.seq ?_
  refine Sem.cond (b := (decide (c8 < (v3.length : Int)))) kr (fun hb9 => ?_) (fun hb9 => ?_)
  ·rw [if_pos hb9] at h
   refine Sem.skip ?_
   refine Sem.seq ?_
   refine Sem.block ?_
   let p7 : Nat × AV := (12, .v (.int .i64 c8))
   refine Sem.sq E0_ok [p6, p5, p4, p3, p7, p2, p1] [] ?_
   refine Sem.seq ?_
   let p8 : Nat × AV := (46, .v (.int .i64 0))
   let p9 : Nat × AV := (45, .v (.int .i64 (v3.length : Int)))
   refine Sem.runS (s1 := ⟨Fr 92 [p6, p5, p4, p3, p7, p2, p1, p9, p8], []⟩) ?_ ?_
   ·refine RunS.segF (n := 92) E0_ok 1 [p6, p5, p4, p3, p7, p2, p1, (44, .sl 9 (v3.map cdGuest.enc))] [] kr ?_
    refine RunS.one E0_ok 0 rfl (op_q (wantedA_none rfl) rfl (q_len (a := .sl 9 (v3.map cdGuest.enc)) kr (len_sl (el := 44) kr))) ?_
    exact RunS.last E0_ok
   refine Sem.block ?_
   obtain ⟨r26, hr26, h⟩ := Option.bind_eq_some_iff.1 h
   refine Sem.loop (n := 100000) ?_
   rcases r26 with w27 | w28
   ·try dsimp only at h
    refine Sem.cutN (SemN.wk (s1 := ⟨Fr 92 [p6, p5, p4, p3, p7, p2, p1, p9, p8], []⟩) (Wk.fr kr) (law03_CourtRefines_l2_ok v1 v2 v3 v4 c8 _ 0 _ hr26)) ?_
    let p10 : Nat × AV := (41, .v (.int .i64 (wr .i64 (c8 + 1))))
    refine Sem.rg E0_ok [p6, p5, p4, p3, p2, p10] [] ?_
    exact SemN.wk (s1 := ⟨Fr 92 [p6, p5, p4, p3, p2, p10], []⟩) (Wk.fr kr) (ih (wr .i64 (c8 + 1)) h)
   ·try dsimp only at h
    refine Sem.cutN (SemN.wk (s1 := ⟨Fr 92 [p6, p5, p4, p3, p7, p2, p1, p9, p8], []⟩) (Wk.fr kr) (law03_CourtRefines_l2_ok v1 v2 v3 v4 c8 _ 0 _ hr26)) ?_
    have hq := Option.some.inj h; subst hq
    exact ⟨rfl, (Wk.fr kr)⟩
  ·rw [if_f hb9] at h
   refine Sem.exit ?_
   have hq := Option.some.inj h; subst hq
   exact ⟨rfl, (Wk.fr kr)⟩
theorem law03_CourtRefines_sem (x0 : (List (Int × Int × Int × Bool × Bool))) (x1 : (List (Int × Int × Int × Bool × Bool))) (x2 : (List (Int × Int))) (r : Bool) (h : law03_CourtRefines x0 x1 x2 = some r) : Sem E0 ⟨none, false⟩ cb_law03_CourtRefines ⟨Fr 92 (pairs0 0 (cs_law03_CourtRefines.enc (x0, x1, x2, ()))), []⟩ fun e s' => (e = .normal ∨ e = .ret) ∧ ∃ xs, resA E0.P s'.fr s'.hp Tryz.f14.results.toList = some xs ∧ retA xs = er_law03_CourtRefines r := by
 unfold law03_CourtRefines at h
 refine Sem.wkQ (Sem.wk (s1 := ⟨Fr 92 [(0, .sl 5 (x0.map (cdA (csC (cdK .u8) (csC (cdK .u8) (csC (cdK .u8) (csC cdB (csE cdB))))) (fun _ => rfl)).enc)), (1, .sl 5 (x1.map (cdA (csC (cdK .u8) (csC (cdK .u8) (csC (cdK .u8) (csC cdB (csE cdB))))) (fun _ => rfl)).enc)), (2, .sl 2 (x2.map (cdG2 (cdK .u8) (cdK .u8) (fun _ => rfl) (fun _ => rfl)).enc))], []⟩) (Wk.fr kr) ?_)
 refine Sem.sq E0_ok [(0, .sl 5 (x0.map (cdA (csC (cdK .u8) (csC (cdK .u8) (csC (cdK .u8) (csC cdB (csE cdB))))) (fun _ => rfl)).enc)), (1, .sl 5 (x1.map (cdA (csC (cdK .u8) (csC (cdK .u8) (csC (cdK .u8) (csC cdB (csE cdB))))) (fun _ => rfl)).enc)), (2, .sl 2 (x2.map (cdG2 (cdK .u8) (cdK .u8) (fun _ => rfl) (fun _ => rfl)).enc))] [] ?_
 refine Sem.seq ?_
 obtain ⟨v1, hv1, h⟩ := Option.bind_eq_some_iff.1 h
 obtain ⟨v2, hv2, h⟩ := Option.bind_eq_some_iff.1 h
 obtain ⟨v3, hv3, h⟩ := Option.bind_eq_some_iff.1 h
 refine Sem.runS (s1 := ⟨Fr 92 [(7, .sl 5 (v1.map cdClause.enc)), (8, .sl 5 (v2.map cdClause.enc)), (9, .sl 9 (v3.map cdGuest.enc))], []⟩) ?_ ?_
 ·refine RunS.segF (n := 92) E0_ok 1 [(1, .sl 5 (x1.map (cdA (csC (cdK .u8) (csC (cdK .u8) (csC (cdK .u8) (csC cdB (csE cdB))))) (fun _ => rfl)).enc)), (2, .sl 2 (x2.map (cdG2 (cdK .u8) (cdK .u8) (fun _ => rfl) (fun _ => rfl)).enc)), (15, .sl 5 (x0.map (cdA (csC (cdK .u8) (csC (cdK .u8) (csC (cdK .u8) (csC cdB (csE cdB))))) (fun _ => rfl)).enc))] [] kr ?_
  refine RunS.callV (caps := []) (xs := [.sl 5 (x0.map (cdA (csC (cdK .u8) (csC (cdK .u8) (csC (cdK .u8) (csC cdB (csE cdB))))) (fun _ => rfl)).enc)]) (u := (x0, ())) rfl rfl x_law03_Made rfl (wantedA_none rfl) kr kr (Sl.cons (Sm.enc (c := (cdL 5 (cdA (csC (cdK .u8) (csC (cdK .u8) (csC (cdK .u8) (csC cdB (csE cdB))))) (fun _ => rfl)))) (v := x0)) Sl.nil) (.inr kr) hv1 ?_
  refine RunS.segF (n := 92) E0_ok 1 [(2, .sl 2 (x2.map (cdG2 (cdK .u8) (cdK .u8) (fun _ => rfl) (fun _ => rfl)).enc)), (16, .sl 5 (v1.map cdClause.enc)), (17, .sl 5 (x1.map (cdA (csC (cdK .u8) (csC (cdK .u8) (csC (cdK .u8) (csC cdB (csE cdB))))) (fun _ => rfl)).enc))] [] kr ?_
  refine RunS.callV (caps := []) (xs := [.sl 5 (x1.map (cdA (csC (cdK .u8) (csC (cdK .u8) (csC (cdK .u8) (csC cdB (csE cdB))))) (fun _ => rfl)).enc)]) (u := (x1, ())) rfl rfl x_law03_Made rfl (wantedA_none rfl) kr kr (Sl.cons (Sm.enc (c := (cdL 5 (cdA (csC (cdK .u8) (csC (cdK .u8) (csC (cdK .u8) (csC cdB (csE cdB))))) (fun _ => rfl)))) (v := x1)) Sl.nil) (.inr kr) hv2 ?_
  refine RunS.segF (n := 92) E0_ok 1 [(16, .sl 5 (v1.map cdClause.enc)), (18, .sl 5 (v2.map cdClause.enc)), (19, .sl 2 (x2.map (cdG2 (cdK .u8) (cdK .u8) (fun _ => rfl) (fun _ => rfl)).enc))] [] kr ?_
  refine RunS.callV (caps := []) (xs := [.sl 2 (x2.map (cdG2 (cdK .u8) (cdK .u8) (fun _ => rfl) (fun _ => rfl)).enc), .v (.int .i64 16)]) (u := (x2, 16, ())) rfl rfl x_law03_Guests rfl (wantedA_none rfl) kr kr (Sl.cons (Sm.enc (c := (cdL 2 (cdG2 (cdK .u8) (cdK .u8) (fun _ => rfl) (fun _ => rfl)))) (v := x2)) (Sl.cons (Sm.enc (c := cdI) (v := 16)) Sl.nil)) (.inr kr) hv3 ?_
  exact RunS.last E0_ok
 refine Sem.seq ?_
 obtain ⟨v4, hv4, h⟩ := Option.bind_eq_some_iff.1 h
 refine Sem.runS (s1 := ⟨Fr 92 [(7, .sl 5 (v1.map cdClause.enc)), (8, .sl 5 (v2.map cdClause.enc)), (9, .sl 9 (v3.map cdGuest.enc)), (10, .sl 5 (v4.1.map cdClause.enc)), (11, .v (.int .i64 v4.2))], []⟩) ?_ ?_
 ·refine RunS.segF (n := 92) E0_ok 2 [(7, .sl 5 (v1.map cdClause.enc)), (8, .sl 5 (v2.map cdClause.enc)), (9, .sl 9 (v3.map cdGuest.enc)), (22, .sl 5 (v1.map cdClause.enc)), (23, .sl 5 (v2.map cdClause.enc))] [] kr ?_
  refine RunS.callV (caps := []) (xs := [.sl 5 (v1.map cdClause.enc), .sl 5 (v2.map cdClause.enc)]) (u := (v1, v2, ())) rfl rfl x_court_Merge rfl (wantedA_none rfl) kr kr (Sl.cons (Sm.enc (c := (cdL 5 cdClause)) (v := v1)) (Sl.cons (Sm.enc (c := (cdL 5 cdClause)) (v := v2)) Sl.nil)) (.inr kr) hv4 ?_
  exact RunS.last E0_ok
 refine Sem.seq ?_
 refine Sem.seq ?_
 obtain ⟨j6, hj6, h⟩ := Option.bind_eq_some_iff.1 h
 refine Sem.runS (s1 := ⟨Fr 92 [(7, .sl 5 (v1.map cdClause.enc)), (8, .sl 5 (v2.map cdClause.enc)), (9, .sl 9 (v3.map cdGuest.enc)), (10, .sl 5 (v4.1.map cdClause.enc)), (38, .v (.bool j6))], []⟩) ?_ ?_
 ·refine RunS.segF (n := 92) E0_ok 3 [(7, .sl 5 (v1.map cdClause.enc)), (8, .sl 5 (v2.map cdClause.enc)), (9, .sl 9 (v3.map cdGuest.enc)), (10, .sl 5 (v4.1.map cdClause.enc)), (29, .v (.bool (v4.2 != 0)))] [] kr ?_
  rcases Bool.eq_false_or_eq_true (v4.2 != 0) with hc34 | hc34
  ·rw [if_pos hc34] at hj6
   rw [hc34]
   refine RunS.segF (n := 92) E0_ok 9 [(7, .sl 5 (v1.map cdClause.enc)), (8, .sl 5 (v2.map cdClause.enc)), (9, .sl 9 (v3.map cdGuest.enc)), (10, .sl 5 (v4.1.map cdClause.enc)), (38, .v (.bool true))] [] kr ?_
   have hq := Option.some.inj hj6; subst hq
   exact RunS.done rfl (Wk.fr kr)
  ·rw [if_f hc34] at hj6
   rw [hc34]
   refine RunS.segF (n := 92) E0_ok 1 [(7, .sl 5 (v1.map cdClause.enc)), (8, .sl 5 (v2.map cdClause.enc)), (9, .sl 9 (v3.map cdGuest.enc)), (10, .sl 5 (v4.1.map cdClause.enc)), (29, .v (.bool false)), (30, .sl 5 (v4.1.map cdClause.enc))] [] kr ?_
   refine RunS.one E0_ok 0 rfl (op_q kr rfl (q_len (a := .sl 5 (v4.1.map cdClause.enc)) kr (len_sl (el := 70) kr))) ?_
   refine RunS.segF (n := 92) E0_ok 1 [(7, .sl 5 (v1.map cdClause.enc)), (8, .sl 5 (v2.map cdClause.enc)), (9, .sl 9 (v3.map cdGuest.enc)), (10, .sl 5 (v4.1.map cdClause.enc)), (29, .v (.bool false)), (31, .v (.int .i64 (v4.1.length : Int))), (32, .sl 5 (v1.map cdClause.enc))] [] kr ?_
   refine RunS.one E0_ok 0 rfl (op_q kr rfl (q_len (a := .sl 5 (v1.map cdClause.enc)) kr (len_sl (el := 70) kr))) ?_
   refine RunS.segF (n := 92) E0_ok 1 [(7, .sl 5 (v1.map cdClause.enc)), (8, .sl 5 (v2.map cdClause.enc)), (9, .sl 9 (v3.map cdGuest.enc)), (10, .sl 5 (v4.1.map cdClause.enc)), (29, .v (.bool false)), (31, .v (.int .i64 (v4.1.length : Int))), (33, .v (.int .i64 (v1.length : Int))), (34, .sl 5 (v2.map cdClause.enc))] [] kr ?_
   refine RunS.one E0_ok 0 rfl (op_q kr rfl (q_len (a := .sl 5 (v2.map cdClause.enc)) kr (len_sl (el := 70) kr))) ?_
   refine RunS.segF (n := 92) E0_ok 3 [(7, .sl 5 (v1.map cdClause.enc)), (8, .sl 5 (v2.map cdClause.enc)), (9, .sl 9 (v3.map cdGuest.enc)), (10, .sl 5 (v4.1.map cdClause.enc)), (38, .v (.bool ((v4.1.length : Int) != (wr .i64 ((v1.length : Int) + (v2.length : Int))))))] [] kr ?_
   have hq := Option.some.inj hj6; subst hq
   exact RunS.done rfl (Wk.fr kr)
 refine Sem.cond (b := j6) kr (fun hb7 => ?_) (fun hb7 => ?_)
 ·rw [if_pos hb7] at h
  refine Sem.sq E0_ok [(6, .v (.bool false))] [] ?_
  refine Sem.ret ?_
  have hq := Option.some.inj h; subst hq
  exact ⟨⟨Fr 92 [(6, .v (.bool false))], []⟩, (Wk.fr kr), .inr rfl, [.v (.bool false)], kr, kr⟩
 ·rw [if_f hb7] at h
  refine Sem.skip ?_
  refine Sem.seq ?_
  refine Sem.seq ?_
  refine Sem.runS (s1 := ⟨Fr 92 [(7, .sl 5 (v1.map cdClause.enc)), (8, .sl 5 (v2.map cdClause.enc)), (9, .sl 9 (v3.map cdGuest.enc)), (10, .sl 5 (v4.1.map cdClause.enc)), (40, .v (.int .i64 (v3.length : Int))), (41, .v (.int .i64 0))], []⟩) ?_ ?_
  ·refine RunS.segF (n := 92) E0_ok 1 [(7, .sl 5 (v1.map cdClause.enc)), (8, .sl 5 (v2.map cdClause.enc)), (9, .sl 9 (v3.map cdGuest.enc)), (10, .sl 5 (v4.1.map cdClause.enc)), (39, .sl 9 (v3.map cdGuest.enc))] [] kr ?_
   refine RunS.one E0_ok 0 rfl (op_q (wantedA_none rfl) rfl (q_len (a := .sl 9 (v3.map cdGuest.enc)) kr (len_sl (el := 44) kr))) ?_
   exact RunS.last E0_ok
  refine Sem.block ?_
  obtain ⟨r30, hr30, h⟩ := Option.bind_eq_some_iff.1 h
  refine Sem.loop (n := 100000) ?_
  rcases r30 with w31 | w33
  ·try dsimp only at h
   refine Sem.cutN (SemN.wk (s1 := ⟨Fr 92 [(7, .sl 5 (v1.map cdClause.enc)), (8, .sl 5 (v2.map cdClause.enc)), (9, .sl 9 (v3.map cdGuest.enc)), (10, .sl 5 (v4.1.map cdClause.enc)), (40, .v (.int .i64 (v3.length : Int))), (41, .v (.int .i64 0))], []⟩) (Wk.fr kr) (law03_CourtRefines_l1_ok v1 v2 v3 v4 _ 0 _ hr30)) ?_
   refine Sem.seq ?_
   obtain ⟨v32, hv32, h⟩ := Option.bind_eq_some_iff.1 h
   refine Sem.runS (s1 := ⟨Fr 92 [(6, .v (.bool v32))], []⟩) ?_ ?_
   ·refine RunS.callV (caps := []) (xs := []) (u := (())) rfl rfl x_law03_awake rfl (wantedA_none rfl) kr kr Sl.nil (.inl kr) hv32 ?_
    exact RunS.last E0_ok
   refine Sem.ret ?_
   have hq := Option.some.inj h; subst hq
   exact ⟨⟨Fr 92 [(6, .v (.bool v32))], []⟩, (Wk.fr kr), .inr rfl, [.v (.bool v32)], kr, kr⟩
  ·try dsimp only at h
   refine Sem.cutN (SemN.wk (s1 := ⟨Fr 92 [(7, .sl 5 (v1.map cdClause.enc)), (8, .sl 5 (v2.map cdClause.enc)), (9, .sl 9 (v3.map cdGuest.enc)), (10, .sl 5 (v4.1.map cdClause.enc)), (40, .v (.int .i64 (v3.length : Int))), (41, .v (.int .i64 0))], []⟩) (Wk.fr kr) (law03_CourtRefines_l1_ok v1 v2 v3 v4 _ 0 _ hr30)) ?_
   have hq := Option.some.inj h; subst hq
   exact ⟨⟨Fr 92 [(6, .v (.bool w33))], []⟩, (Wk.fr kr), .inr rfl, [.v (.bool w33)], kr, kr⟩
def t_law03_CourtRefines : List AV → Option AV := told cs_law03_CourtRefines (fun a => law03_CourtRefines a.1 a.2.1 a.2.2.1) er_law03_CourtRefines
theorem x_law03_CourtRefines : XOk 14 t_law03_CourtRefines := by
 refine xok_of_sem Tryz.func14 (c := cb_law03_CourtRefines) ?h2 ⟨Tryz.call14⟩ cs_law03_CourtRefines (fun a => law03_CourtRefines a.1 a.2.1 a.2.2.1) er_law03_CourtRefines (fun a => (by show 3 ≤ 92; decide)) ?h3 ?h4
 case h2 => kernel_rfl
 case h3 => intro b; kernel_rfl
 case h4 => exact fun a b h => law03_CourtRefines_sem a.1 a.2.1 a.2.2.1 b h
theorem wr_i {n : Int} (h1 : -9223372036854775808 ≤ n) (h2 : n ≤ 9223372036854775807) : wr .i64 n = n := by
 show (if _ then n else _) = n
 rw [if_pos ⟨h1, h2⟩]
theorem idx_app {α : Type} (pre : List α) (v : α) (r : List α) : idx (pre ++ v :: r) (pre.length : Int) = some v := by
 unfold idx
 rw [if_pos (by omega)]
 simp
theorem wr_snoc {α : Type} (pre : List α) (v : α) (r : List α) (h : (pre ++ v :: r).length ≤ 1000000000) : wr .i64 ((pre.length : Int) + 1) = ((pre ++ [v]).length : Int) := by
 simp at h
 rw [wr_i (by omega) (by omega)]; simp
theorem lt_len {α : Type} (pre : List α) (v : α) (r : List α) : decide ((pre.length : Int) < ((pre ++ v :: r).length : Int)) = true := by
 simp; omega
theorem capOk_le {b n : Nat} (hb : b ≤ 1000) (h : n ≤ 1000000000) : capOk b n = true := by
 have h1 : n * b ≤ 1000000000 * 1000 := Nat.mul_le_mul h hb
 unfold capOk
 rw [Bool.and_eq_true]
 exact ⟨Nat.ble_eq_true_of_le (by omega), Nat.ble_eq_true_of_le (by omega)⟩
/-- A loop over a list: v, its index, the rest. -/
def goU {α ρ : Type} (B : α → Nat → Option ρ → Option ρ) (D : Option ρ) : List α → Nat → Option ρ
 | [], _ => D
 | v :: r, i => B v i (goU B D r (i + 1))
theorem loopV {α ρ : Type} (xs : List α) (L : Nat → Int → Option ρ) (B : α → Nat → Option ρ → Option ρ) (D : Option ρ)
  (hs : ∀ f (pre : List α) v r, xs = pre ++ v :: r → L (f + 1) (pre.length : Int) = B v pre.length (L f (((pre ++ [v]).length : Nat) : Int))) (hd : ∀ f, L (f + 1) (xs.length : Int) = D) :
  ∀ (r pre : List α) (f : Nat), xs = pre ++ r → r.length < f → L f (pre.length : Int) = goU B D r pre.length
 | [], pre, f + 1, hx, _ => by
  rw [show pre.length = xs.length by rw [hx]; simp]
  exact hd f
 | v :: r, pre, f + 1, hx, hf => by
  rw [hs f pre v r hx]
  have := loopV xs L B D hs hd r (pre ++ [v]) f (by rw [hx]; simp) (by simp at hf; omega)
  rw [this]
  show B v pre.length _ = B v pre.length _
  congr 1
  simp
theorem loopV0 {α ρ : Type} (xs : List α) (L : Nat → Int → Option ρ) (B : α → Nat → Option ρ → Option ρ) (D : Option ρ) (f : Nat) (hf : xs.length < f)
  (hs : ∀ f (pre : List α) v r, xs = pre ++ v :: r → L (f + 1) (pre.length : Int) = B v pre.length (L f (((pre ++ [v]).length : Nat) : Int))) (hd : ∀ f, L (f + 1) (xs.length : Int) = D) : L f 0 = goU B D xs 0 :=
 loopV xs L B D hs hd xs [] f rfl hf
/-- The first that meets a test. -/
theorem goU_any {α : Type} (P : α → Option Bool) (p : α → Bool) : ∀ (xs : List α) (i : Nat), (∀ x ∈ xs, P x = some (p x)) → ∃ r : Unit ⊕ Int, goU (fun v i k => (P v).bind fun b => if b = true then some (.inr (i : Int)) else k) (some (.inl ())) xs i = some r ∧ (match r with | .inl _ => xs.any p = false | .inr n => xs.any p = true ∧ 0 ≤ n)
 | [], i, _ => ⟨.inl (), rfl, rfl⟩
 | x :: xs, i, h => by
  unfold goU
  rw [h x (by simp), Option.bind_some]
  cases hp : p x with
  | true => exact ⟨.inr i, by simp, by simp [hp]⟩
  | false =>
   obtain ⟨r, h1, h2⟩ := goU_any P p xs (i + 1) fun y hy => h y (List.mem_cons_of_mem _ hy)
   refine ⟨r, by simpa using h1, ?_⟩
   cases r with
   | inl u => simpa [hp] using h2
   | inr n => simpa [hp] using h2
/-- slices.IndexFunc and slices.ContainsFunc. -/
theorem any_of {α : Type} (xs : List α) (hx : xs.length ≤ 99999) (P : α → Option Bool) (p : α → Bool) (hP : ∀ x ∈ xs, P x = some (p x)) (L : Nat → Int → Option (Unit ⊕ Int))
  (h : ∀ f c, L (f + 1) c = if decide (c < (xs.length : Int)) = true then (idx xs c).bind fun v => (P v).bind fun b => if b = true then some (.inr c) else L f (wr .i64 (c + 1)) else some (.inl ())) :
  ∃ n, ((L 100000 0).bind fun r => match r with | .inl _ => some (-1) | .inr w => some w) = some n ∧ decide (n ≥ 0) = xs.any p := by
 have e := loopV0 xs L (fun v i k => (P v).bind fun b => if b = true then some (.inr (i : Int)) else k) (some (.inl ())) 100000 (by omega) (fun f pre v r e => by
  subst e
  rw [h, if_pos (lt_len pre v r), idx_app, Option.bind_some, wr_snoc pre v r (by omega)]) (fun f => by rw [h, if_neg (by simp)])
 obtain ⟨r, h1, h2⟩ := goU_any P p xs 0 hP
 rw [e, h1]
 cases r with
 | inl u => exact ⟨-1, rfl, by rw [h2]; rfl⟩
 | inr n => exact ⟨n, rfl, by rw [h2.1]; simpa using h2.2⟩
/- slices.Equal[[]string,string] -/
/- trestle/trestlelaw03.SameClause -/
/- slices.EqualFunc[[]trestle/api.Clause,[]trestle/api.Clause,trestle/api.Clause,trestle/api.Clause] -/
/- trestle/trestlelaw03.Same -/
/- trestle/trestlelaw03.Copy -/
/- trestle/trestlelaw03.Few$1$1 -/
/- slices.IndexFunc[[]string,string] -/
/- slices.ContainsFunc[[]string,string] -/
/- trestle/trestlelaw03.Few$1 -/
/- slices.IndexFunc[[]trestle/api.Clause,trestle/api.Clause] -/
/- slices.ContainsFunc[[]trestle/api.Clause,trestle/api.Clause] -/
/- trestle/trestlelaw03.Few -/
/- trestle/trestleref03.between -/
def ref03_between (x0 : Int) (x1 : Int) (x2 : Int) : Option (Bool) :=
 (if (decide (x1 ≤ x0)) = true then some (decide (x0 ≤ x2)) else some false).bind fun j2 =>
 some j2
/- trestle/trestleref03.formed -/
def ref03_formed_j3 (x0 : Clause) : Option ((Bool)) :=
 if (x0.1 == 8) = true then
 some (x0.1 == 8)
 else
 some (x0.1 == 9)
def ref03_formed_j2 (x0 : Clause) : Option ((Bool)) :=
 if (x0.1 == 3) = true then
 some (x0.1 == 3)
 else
 (ref03_formed_j3 x0).bind fun r14 =>
 some r14
def ref03_formed_j1 (x0 : Clause) : Option ((Bool)) :=
 if (x0.1 == 2) = true then
 some (x0.1 == 2)
 else
 (ref03_formed_j2 x0).bind fun r15 =>
 some r15
def ref03_formed_j4 (x0 : Clause) : Option ((Bool)) :=
 if (x0.1 == 6) = true then
 some (x0.1 == 6)
 else
 some (x0.1 == 7)
def ref03_formed (x0 : Clause) : Option (Bool) :=
 if (x0.1 == 1) = true then
 (ref03_between (x0.2.2.2.1.length : Int) 1 16).bind fun v2 =>
 (if v2 = true then if (x0.2.2.2.2 == 0) = true then if (!x0.2.2.1) = true then some (x0.2.1 == []) else some false else some false else some false).bind fun j4 =>
 some j4
 else
 (ref03_formed_j1 x0).bind fun r16 =>
 if r16 = true then
 (if ((x0.2.2.2.1.length : Int) == 0) = true then if (x0.2.2.2.2 == 0) = true then some (!x0.2.2.1) else some false else some false).bind fun j19 =>
 some j19
 else
 if (x0.1 == 4) = true then
 (if ((x0.2.2.2.1.length : Int) == 0) = true then (ref03_between x0.2.2.2.2 1 2).bind fun v23 =>
 some v23 else some false).bind fun j25 =>
 some j25
 else
 if (x0.1 == 5) = true then
 (if ((x0.2.2.2.1.length : Int) == 0) = true then some (x0.2.2.2.2 == 0) else some false).bind fun j29 =>
 some j29
 else
 (ref03_formed_j4 x0).bind fun r33 =>
 if r33 = true then
 (ref03_between (x0.2.2.2.1.length : Int) 1 16).bind fun v35 =>
 (if v35 = true then some (x0.2.2.2.2 == 0) else some false).bind fun j37 =>
 some j37
 else
 if (x0.1 == 10) = true then
 (if ((x0.2.2.2.1.length : Int) == 0) = true then (ref03_between x0.2.2.2.2 0 63).bind fun v40 =>
 if v40 = true then some (!x0.2.2.1) else some false else some false).bind fun j42 =>
 some j42
 else
 some false
/- trestle/trestlekit.Name -/
/- trestle/trestleref03.has -/
/- trestle/trestleref03.CheckOne -/
/- trestle/trestleref03.Check -/
def few1 (x : Clause) : Prop := x.2.1.length ≤ 40 ∧ x.2.2.2.1.length ≤ 20 ∧ ∀ s ∈ x.2.2.2.1, s.length ≤ 40
def few (c : List Clause) : Prop := c.length ≤ 40 ∧ ∀ x ∈ c, few1 x
/-- Names. -/
def lowB (c : UInt8) : Bool := decide ((c.toNat : Int) < 97) || decide ((c.toNat : Int) > 122)
def isName (s : List UInt8) : Bool := decide (1 ≤ s.length) && decide (s.length ≤ 12) && !s.any lowB
theorem goU_low : ∀ (s : List UInt8) (i : Nat), goU (fun v _ (k : Option (Unit ⊕ Bool)) => if lowB v = true then some (.inr false) else k) (some (.inl ())) s i = some (if s.any lowB = true then .inr false else .inl ())
 | [], _ => rfl
 | c :: s, i => by
  unfold goU
  rw [goU_low s (i + 1), List.any_cons]
  cases lowB c <;> rfl
theorem name_l (s : List UInt8) (h : s.length ≤ 99999) : court_name_l1 s 100000 0 = some (if s.any lowB = true then .inr false else .inl ()) := by
 rw [← goU_low s 0]
 refine loopV0 s (court_name_l1 s) _ _ 100000 (by omega) (fun f pre v r e => ?_) (fun f => ?_)
 ·conv => lhs; unfold court_name_l1
  rw [e, if_pos (lt_len pre v r), idx_app, Option.bind_some, Option.bind_some, wr_snoc pre v r (by rw [← e]; omega)]
  unfold lowB
  by_cases h : (v.toNat : Int) < 97 <;> simp [h]
 ·conv => lhs; unfold court_name_l1
  rw [if_neg (by simp)]
theorem name_eq (s : List UInt8) (h : s.length ≤ 99999) : court_name s = some (isName s) := by
 unfold court_name isName
 rw [name_l s h, Option.bind_some]
 cases hb : s.any lowB
 ·by_cases h1 : s.length < 1
  ·have : s.length = 0 := by omega
   simp [this]
  ·simp [show (s.length : Int) ≥ 1 by omega, show 1 ≤ s.length by omega]; omega
 ·simp
theorem names_c (l : List (List UInt8)) (h : l.length ≤ 99999) (hs : ∀ s ∈ l, s.length ≤ 99999) : slices_ContainsFunc_string_string__court_check_1 l = some (l.any fun s => !isName s) := by
 unfold slices_ContainsFunc_string_string__court_check_1 slices_IndexFunc_string_string__court_check_1
 obtain ⟨n, h1, h2⟩ := any_of l h court_check_1 (fun s => !isName s) (fun x hx => by unfold court_check_1; rw [name_eq x (hs x hx)]; rfl) (slices_IndexFunc_string_string__court_check_1_l1 l) (fun f c => rfl)
 rw [← h2]
 exact (congrArg (fun o => o.bind fun v1 => some (decide (v1 ≥ 0))) h1)
def hasB (l : List (List UInt8)) (s : List UInt8) : Bool := l.any fun v => s == v
theorem contains_eq (l : List (List UInt8)) (s : List UInt8) (h : l.length ≤ 99999) : slices_Contains_string_string l s = some (hasB l s) := by
 unfold slices_Contains_string_string slices_Index_string_string
 obtain ⟨n, h1, h2⟩ := any_of l h (fun v => some (s == v)) (fun v => s == v) (fun _ _ => rfl) (slices_Index_string_string_l1 l s) (fun f c => rfl)
 unfold hasB
 rw [← h2]
 exact (congrArg (fun o => o.bind fun v1 => some (decide (v1 ≥ 0))) h1)
/-- What is asked of the fields, by a row: names, from, to, last. -/
def fin (L : Nat) (n : Int) (la : Bool) (w : Int × Int × Int × Bool) : Option Bool :=
 (if (decide ((L : Int) ≤ w.1)) = true then if (w.1 == 0) = true then if (decide (n ≥ w.2.1)) = true then if (decide (n ≤ w.2.2.1)) = true then if w.2.2.2 = true then some true else some (!la) else some false else some false else if (decide ((L : Int) > 0)) = true then if (decide (n ≥ w.2.1)) = true then if (decide (n ≤ w.2.2.1)) = true then if w.2.2.2 = true then some true else some (!la) else some false else some false else some false else some false).bind fun j58 => some j58
theorem fin_eq (L : Nat) (n : Int) (la : Bool) (a lo hi : Int) (last : Bool) : fin L n la (a, lo, hi, last) = some ((decide ((L : Int) ≤ a) && (a == 0 || decide ((L : Int) > 0))) && (decide (n ≥ lo) && (decide (n ≤ hi) && (last || !la)))) := by
 unfold fin
 dsimp only
 generalize decide ((L : Int) ≤ a) = b1
 generalize (a == 0) = b2
 generalize decide ((L : Int) > 0) = b3
 generalize decide (n ≥ lo) = b4
 generalize decide (n ≤ hi) = b5
 cases b1 <;> cases b2 <;> cases b3 <;> cases b4 <;> cases b5 <;> cases last <;> cases la <;> rfl
theorem formed_eq (x : Clause) : ∃ b, court_formed x = some b ∧ ref03_formed x = some b := by
 obtain ⟨k, am, la, nm, n⟩ := x
 by_cases h1 : k = 1
 ·subst h1
  have hr : ref03_formed (1, am, la, nm, n) = some ((decide (1 ≤ (nm.length : Int)) && decide ((nm.length : Int) ≤ 16)) && ((n == 0) && (!la && (am == [])))) := by
   unfold ref03_formed
   unfold ref03_between
   dsimp only
   generalize decide (1 ≤ (nm.length : Int)) = b0
   generalize decide ((nm.length : Int) ≤ 16) = b1
   generalize (n == 0) = b2
   generalize (am == []) = b3
   cases b0 <;> cases b1 <;> cases b2 <;> cases la <;> cases b3 <;> rfl
  refine ⟨_, ?_, hr⟩
  cases am with
  | cons a am =>
   have hc : court_formed (1, a :: am, la, nm, n) = some false := rfl
   rw [hc]
   simp
  | nil =>
   have hc : court_formed (1, [], la, nm, n) = fin nm.length n la (16, 0, 0, false) := rfl
   rw [hc, fin_eq]
   congr 1
   rw [Bool.eq_iff_iff]
   generalize nm.length = L
   cases la <;> simp <;> omega
 by_cases h2 : k = 2
 ·subst h2
  have hr : ref03_formed (2, am, la, nm, n) = some (((nm.length : Int) == 0) && ((n == 0) && !la)) := by
   unfold ref03_formed
   unfold ref03_between
   dsimp only
   generalize ((nm.length : Int) == 0) = b0
   generalize (n == 0) = b1
   cases b0 <;> cases b1 <;> cases la <;> rfl
  refine ⟨_, ?_, hr⟩
  have hc : court_formed (2, am, la, nm, n) = fin nm.length n la (0, 0, 0, false) := rfl
  rw [hc, fin_eq]
  congr 1
  rw [Bool.eq_iff_iff]
  generalize nm.length = L
  cases la <;> simp <;> omega
 by_cases h3 : k = 3
 ·subst h3
  have hr : ref03_formed (3, am, la, nm, n) = some (((nm.length : Int) == 0) && ((n == 0) && !la)) := by
   unfold ref03_formed
   unfold ref03_between
   dsimp only
   generalize ((nm.length : Int) == 0) = b0
   generalize (n == 0) = b1
   cases b0 <;> cases b1 <;> cases la <;> rfl
  refine ⟨_, ?_, hr⟩
  have hc : court_formed (3, am, la, nm, n) = fin nm.length n la (0, 0, 0, false) := rfl
  rw [hc, fin_eq]
  congr 1
  rw [Bool.eq_iff_iff]
  generalize nm.length = L
  cases la <;> simp <;> omega
 by_cases h8 : k = 8
 ·subst h8
  have hr : ref03_formed (8, am, la, nm, n) = some (((nm.length : Int) == 0) && ((n == 0) && !la)) := by
   unfold ref03_formed
   unfold ref03_between
   dsimp only
   generalize ((nm.length : Int) == 0) = b0
   generalize (n == 0) = b1
   cases b0 <;> cases b1 <;> cases la <;> rfl
  refine ⟨_, ?_, hr⟩
  have hc : court_formed (8, am, la, nm, n) = fin nm.length n la (0, 0, 0, false) := rfl
  rw [hc, fin_eq]
  congr 1
  rw [Bool.eq_iff_iff]
  generalize nm.length = L
  cases la <;> simp <;> omega
 by_cases h9 : k = 9
 ·subst h9
  have hr : ref03_formed (9, am, la, nm, n) = some (((nm.length : Int) == 0) && ((n == 0) && !la)) := by
   unfold ref03_formed
   unfold ref03_between
   dsimp only
   generalize ((nm.length : Int) == 0) = b0
   generalize (n == 0) = b1
   cases b0 <;> cases b1 <;> cases la <;> rfl
  refine ⟨_, ?_, hr⟩
  have hc : court_formed (9, am, la, nm, n) = fin nm.length n la (0, 0, 0, false) := rfl
  rw [hc, fin_eq]
  congr 1
  rw [Bool.eq_iff_iff]
  generalize nm.length = L
  cases la <;> simp <;> omega
 by_cases h4 : k = 4
 ·subst h4
  have hr : ref03_formed (4, am, la, nm, n) = some (((nm.length : Int) == 0) && (decide (1 ≤ n) && decide (n ≤ 2))) := by
   unfold ref03_formed
   unfold ref03_between
   dsimp only
   generalize ((nm.length : Int) == 0) = b0
   generalize decide (1 ≤ n) = b1
   generalize decide (n ≤ 2) = b2
   cases b0 <;> cases b1 <;> cases b2 <;> cases la <;> rfl
  refine ⟨_, ?_, hr⟩
  have hc : court_formed (4, am, la, nm, n) = fin nm.length n la (0, 1, 2, true) := rfl
  rw [hc, fin_eq]
  congr 1
  rw [Bool.eq_iff_iff]
  generalize nm.length = L
  cases la <;> simp <;> omega
 by_cases h5 : k = 5
 ·subst h5
  have hr : ref03_formed (5, am, la, nm, n) = some (((nm.length : Int) == 0) && (n == 0)) := by
   unfold ref03_formed
   unfold ref03_between
   dsimp only
   generalize ((nm.length : Int) == 0) = b0
   generalize (n == 0) = b1
   cases b0 <;> cases b1 <;> cases la <;> rfl
  refine ⟨_, ?_, hr⟩
  have hc : court_formed (5, am, la, nm, n) = fin nm.length n la (0, 0, 0, true) := rfl
  rw [hc, fin_eq]
  congr 1
  rw [Bool.eq_iff_iff]
  generalize nm.length = L
  cases la <;> simp <;> omega
 by_cases h6 : k = 6
 ·subst h6
  have hr : ref03_formed (6, am, la, nm, n) = some ((decide (1 ≤ (nm.length : Int)) && decide ((nm.length : Int) ≤ 16)) && (n == 0)) := by
   unfold ref03_formed
   unfold ref03_between
   dsimp only
   generalize decide (1 ≤ (nm.length : Int)) = b0
   generalize decide ((nm.length : Int) ≤ 16) = b1
   generalize (n == 0) = b2
   cases b0 <;> cases b1 <;> cases b2 <;> cases la <;> rfl
  refine ⟨_, ?_, hr⟩
  have hc : court_formed (6, am, la, nm, n) = fin nm.length n la (16, 0, 0, true) := rfl
  rw [hc, fin_eq]
  congr 1
  rw [Bool.eq_iff_iff]
  generalize nm.length = L
  cases la <;> simp <;> omega
 by_cases h7 : k = 7
 ·subst h7
  have hr : ref03_formed (7, am, la, nm, n) = some ((decide (1 ≤ (nm.length : Int)) && decide ((nm.length : Int) ≤ 16)) && (n == 0)) := by
   unfold ref03_formed
   unfold ref03_between
   dsimp only
   generalize decide (1 ≤ (nm.length : Int)) = b0
   generalize decide ((nm.length : Int) ≤ 16) = b1
   generalize (n == 0) = b2
   cases b0 <;> cases b1 <;> cases b2 <;> cases la <;> rfl
  refine ⟨_, ?_, hr⟩
  have hc : court_formed (7, am, la, nm, n) = fin nm.length n la (16, 0, 0, true) := rfl
  rw [hc, fin_eq]
  congr 1
  rw [Bool.eq_iff_iff]
  generalize nm.length = L
  cases la <;> simp <;> omega
 by_cases h10 : k = 10
 ·subst h10
  have hr : ref03_formed (10, am, la, nm, n) = some (((nm.length : Int) == 0) && ((decide (0 ≤ n) && decide (n ≤ 63)) && !la)) := by
   unfold ref03_formed
   unfold ref03_between
   dsimp only
   generalize ((nm.length : Int) == 0) = b0
   generalize decide (0 ≤ n) = b1
   generalize decide (n ≤ 63) = b2
   cases b0 <;> cases b1 <;> cases b2 <;> cases la <;> rfl
  refine ⟨_, ?_, hr⟩
  have hc : court_formed (10, am, la, nm, n) = fin nm.length n la (0, 0, 63, false) := rfl
  rw [hc, fin_eq]
  congr 1
  rw [Bool.eq_iff_iff]
  generalize nm.length = L
  cases la <;> simp <;> omega
 have e : ∀ m : Int, (m = 1 ∨ m = 2 ∨ m = 3 ∨ m = 4 ∨ m = 5 ∨ m = 6 ∨ m = 7 ∨ m = 8 ∨ m = 9 ∨ m = 10) → (k == m) = false := fun m hm => by
  rw [beq_eq_false_iff_ne]
  rintro rfl
  omega
 refine ⟨false, ?_, ?_⟩
 ·simp [court_formed, court_formed_j1, court_formed_j2, court_formed_j3, court_formed_j4, court_formed_j5, court_formed_j6, court_formed_j7, court_formed_j8, court_formed_j9, e]
 ·simp [ref03_formed, ref03_formed_j1, ref03_formed_j2, ref03_formed_j3, ref03_formed_j4, e]
/- trestle/trestlelaw03.checks -/
/- trestle/trestlelaw03.CourtChecks -/
def fm (x : Clause) : Bool := (ref03_formed x).getD false
theorem fm_c (x : Clause) : court_formed x = some (fm x) := by
 obtain ⟨b, h1, h2⟩ := formed_eq x
 rw [h1]; unfold fm; rw [h2]; rfl
/-- Is a name there twice? -/
def dupL (l : List (List UInt8)) : List (List UInt8) → Nat → Bool
 | [], _ => false
 | v :: r, i => hasB (l.take i) v || dupL l r (i + 1)
def ranked (before : List Clause) (am : List UInt8) : Bool := before.any fun b => (b.1 == 1) && hasB b.2.2.2.1 am
def chk (before : List Clause) (x : Clause) : Int :=
 if fm x = false then 30 else
 if ((!(x.2.1 == [])) && !isName x.2.1) = true ∨ (x.2.2.2.1.any fun s => !isName s) = true then 4 else
 if dupL x.2.2.2.1 x.2.2.2.1 0 = true then 5 else
 if x.2.1 = [] ∨ ranked before x.2.1 = true then 0 else 31
theorem goU_dup (l : List (List UInt8)) : ∀ (r : List (List UInt8)) (i : Nat), goU (fun v i (k : Option (Unit ⊕ Int)) => if hasB (l.take i) v = true then some (.inr 5) else k) (some (.inl ())) r i = some (if dupL l r i = true then .inr 5 else .inl ())
 | [], _ => rfl
 | v :: r, i => by
  unfold goU dupL
  rw [goU_dup l r (i + 1)]
  cases hasB (l.take i) v <;> rfl
theorem dup_c (b : List Clause) (j : Clause) (h : j.2.2.2.1.length ≤ 99999) : court_check_l1 b j 100000 0 = some (if dupL j.2.2.2.1 j.2.2.2.1 0 = true then .inr 5 else .inl ()) := by
 rw [← goU_dup]
 refine loopV0 j.2.2.2.1 (court_check_l1 b j) _ _ 100000 (by omega) (fun f pre v r e => ?_) (fun f => ?_)
 ·conv => lhs; unfold court_check_l1
  have hl : j.2.2.2.1.length = pre.length + r.length + 1 := by rw [e]; simp; omega
  rw [if_pos (by rw [e]; exact lt_len pre v r), show idx j.2.2.2.1 (pre.length : Int) = some v by rw [e, idx_app], Option.bind_some, if_pos (by unfold cutOk; simp; omega), Int.toNat_natCast]
  rw [show ((j.2.2.2.1.take pre.length).drop (0 : Int).toNat) = j.2.2.2.1.take pre.length from rfl, contains_eq _ _ (by simp; omega), Option.bind_some, wr_snoc pre v r (by rw [← e]; omega)]
 ·conv => lhs; unfold court_check_l1
  rw [if_neg (by simp)]
theorem ranked_c (b : List Clause) (x : Clause) (h : b.length ≤ 99999) (hb : ∀ y ∈ b, y.2.2.2.1.length ≤ 99999) : slices_ContainsFunc_api_Clause_api_Clause__court_check_2 b x = some (ranked b x.2.1) := by
 unfold slices_ContainsFunc_api_Clause_api_Clause__court_check_2 slices_IndexFunc_api_Clause_api_Clause__court_check_2
 obtain ⟨n, h1, h2⟩ := any_of b h (fun v => court_check_2 v x) (fun y => (y.1 == 1) && hasB y.2.2.2.1 x.2.1) (fun y hy => by
  unfold court_check_2
  rw [contains_eq _ _ (hb y hy)]
  cases (y.1 == 1) <;> rfl) (slices_IndexFunc_api_Clause_api_Clause__court_check_2_l1 b x) (fun f c => rfl)
 unfold ranked
 rw [← h2]
 exact (congrArg (fun o => o.bind fun v1 => some (decide (v1 ≥ 0))) h1)
theorem chk_c (b : List Clause) (x : Clause) (hb : few b) (hx : few1 x) : court_check b x = some (chk b x) := by
 have hn : ∀ s ∈ x.2.2.2.1, s.length ≤ 99999 := fun s hs => by have := hx.2.2 s hs; omega
 unfold court_check chk
 rw [fm_c, Option.bind_some]
 cases hf : fm x with
 | false => simp
 | true =>
  rw [if_neg (show ¬ ((!true) = true) by simp), if_neg (show ¬ (true = false) by simp), names_c _ (by have := hx.2.1; omega) hn, name_eq _ (by have := hx.1; omega)]
  have e : ((if (!(x.2.1 == [])) = true then (some (isName x.2.1)).bind fun v3 => if (!v3) = true then some true else (some (x.2.2.2.1.any fun s => !isName s)).bind fun v4 => some v4 else (some (x.2.2.2.1.any fun s => !isName s)).bind fun v5 => some v5) : Option Bool) = some (((!(x.2.1 == [])) && !isName x.2.1) || (x.2.2.2.1.any fun s => !isName s)) := by
   cases (x.2.1 == []) <;> cases isName x.2.1 <;> rfl
  rw [e, Option.bind_some]
  cases hq : (((!(x.2.1 == [])) && !isName x.2.1) || (x.2.2.2.1.any fun s => !isName s)) with
  | true => rw [if_pos rfl, if_pos (by simpa using hq)]
  | false =>
   rw [if_neg (show ¬ (false = true) by simp), if_neg (show ¬ (((!(x.2.1 == [])) && !isName x.2.1) = true ∨ (x.2.2.2.1.any fun s => !isName s) = true) by simpa using hq), dup_c _ _ (by have := hx.2.1; omega), Option.bind_some]
   try dsimp only
   cases hd : dupL x.2.2.2.1 x.2.2.2.1 0 with
   | true => rfl
   | false =>
    rw [if_neg (show ¬ (false = true) by simp)]
    dsimp only
    have hr := ranked_c b x (by have := hb.1; omega) (fun y hy => by have := (hb.2 y hy).2.1; omega)
    rw [hr]
    by_cases ha : x.2.1 = []
    ·simp [ha]
    ·simp only [ha, false_or]
     cases ranked b x.2.1 <;> simp [ha]
theorem goU_rk (am : List UInt8) : ∀ (l : List Clause) (i : Nat), goU (fun (v : Clause) _ (k : Option (Unit ⊕ Int)) => if ((v.1 == 1) && hasB v.2.2.2.1 am) = true then some (.inr 0) else k) (some (.inl ())) l i = some (if ranked l am = true then .inr 0 else .inl ())
 | [], _ => rfl
 | v :: r, i => by
  unfold goU
  have : ranked (v :: r) am = (((v.1 == 1) && hasB v.2.2.2.1 am) || ranked r am) := rfl
  rw [goU_rk am r (i + 1), this]
  cases ((v.1 == 1) && hasB v.2.2.2.1 am) <;> rfl
section
variable (c pre r : List Clause) (x : Clause) (e : c = pre ++ x :: r) (h : few c)
include e h
end
/-- The first error of a text: its place, and which. -/
def chkL (c : List Clause) : List Clause → Nat → Unit ⊕ (Int × Int)
 | [], _ => .inl ()
 | x :: r, i => if chk (c.take i) x ≠ 0 then .inr ((i : Int), chk (c.take i) x) else chkL c r (i + 1)
def chkT (c : List Clause) : Int × Int := if c.length > 32 then (0, 7) else match chkL c c 0 with
 | .inl _ => (0, 0)
 | .inr w => w
theorem goU_chk (c : List Clause) : ∀ (r : List Clause) (i : Nat), goU (fun x i (k : Option (Unit ⊕ (Int × Int))) => if (chk (c.take i) x != 0) = true then some (.inr ((i : Int), chk (c.take i) x)) else k) (some (.inl ())) r i = some (chkL c r i)
 | [], _ => rfl
 | x :: r, i => by
  unfold goU chkL
  rw [goU_chk c r (i + 1)]
  by_cases h : chk (c.take i) x = 0 <;> simp [h]
theorem few_take {c : List Clause} (h : few c) (n : Nat) : few (c.take n) := ⟨by have := h.1; simp; omega, fun x hx => h.2 x (List.mem_of_mem_take hx)⟩
theorem check_c (c : List Clause) (h : few c) : court_Check c = some (chkT c) := by
 have hl := h.1
 have e1 : court_Check_l1 c 100000 0 = some (chkL c c 0) := by
  rw [← goU_chk]
  refine loopV0 c (court_Check_l1 c) _ _ 100000 (by omega) (fun f pre v r e => ?_) (fun f => ?_)
  ·conv => lhs; unfold court_Check_l1
   have hl2 : c.length = pre.length + r.length + 1 := by rw [e]; simp; omega
   rw [if_pos (by rw [e]; exact lt_len pre v r), show idx c (pre.length : Int) = some v by rw [e, idx_app], Option.bind_some, if_pos (by unfold cutOk; simp; omega), Int.toNat_natCast,
    show ((c.take pre.length).drop (0 : Int).toNat) = c.take pre.length from rfl, chk_c _ v (few_take h _) (h.2 v (by rw [e]; simp)), Option.bind_some, wr_snoc pre v r (by rw [← e]; omega)]
  ·conv => lhs; unfold court_Check_l1
   rw [if_neg (by simp)]
 unfold court_Check chkT
 by_cases h32 : c.length > 32
 ·rw [if_pos (by simp; omega), if_pos h32]
 ·rw [if_neg (by simp; omega), if_neg h32, e1, Option.bind_some]
  cases chkL c c 0 <;> rfl
/- trestle/trestlelaw03.FewGuests$1$1 -/
/- slices.IndexFunc[[]string,string] -/
/- slices.ContainsFunc[[]string,string] -/
/- trestle/trestlelaw03.FewGuests$1 -/
/- slices.IndexFunc[[]trestle/api.Guest,trestle/api.Guest] -/
/- slices.ContainsFunc[[]trestle/api.Guest,trestle/api.Guest] -/
/- trestle/trestlelaw03.FewGuests -/
/- trestle/trestlekit.CopyWords -/
/- trestle/trestlekit.CopyGuest -/
/- trestle/trestleref03.Valid -/
/- trestle/trestleref03.rank -/
/- trestle/trestleref03.key -/
/- trestle/trestleref03.named -/
/- trestle/trestleref03.before -/
/- trestle/trestleref03.Reason -/
/- trestle/trestlekit.SameWords -/
/- trestle/trestlekit.SameGuest -/
/- trestle/trestlelaw03.compares -/
/- trestle/trestlelaw03.CourtCompares -/
/-- The first of a word in a list, from a number on. -/
def rkN (s : List UInt8) : List (List UInt8) → Nat → Nat
 | [], i => i
 | v :: r, i => if (s == v) = true then i else rkN s r (i + 1)
theorem rkN_no (s : List UInt8) : ∀ (l : List (List UInt8)) (i : Nat), hasB l s = false → rkN s l i = i + l.length
 | [], i, _ => rfl
 | v :: r, i, h => by
  have h' : ((s == v) || hasB r s) = false := h
  simp only [Bool.or_eq_false_iff] at h'
  unfold rkN
  rw [if_neg (show ¬ (s == v) = true by rw [h'.1]; decide), rkN_no s r (i + 1) h'.2]
  simp; omega
theorem goU_ix (s : List UInt8) : ∀ (l : List (List UInt8)) (i : Nat), goU (fun v i (k : Option (Unit ⊕ Int)) => if (s == v) = true then some (.inr (i : Int)) else k) (some (.inl ())) l i = some (if hasB l s = true then .inr (rkN s l i : Int) else .inl ())
 | [], _ => rfl
 | v :: r, i => by
  unfold goU rkN
  rw [goU_ix s r (i + 1)]
  have : hasB (v :: r) s = ((s == v) || hasB r s) := rfl
  rw [this]
  cases (s == v) <;> rfl
def rk (l : List (List UInt8)) (s : List UInt8) : Int := (rkN s l 0 : Nat)
theorem rank_c (x : Seated) (c : Clause) (h : c.2.2.2.1.length ≤ 99999) : court_plain_1 x c = some (rk c.2.2.2.1 x.1.2.1) := by
 unfold court_plain_1 slices_Index_string_string
 have e : slices_Index_string_string_l1 c.2.2.2.1 x.1.2.1 100000 0 = some (if hasB c.2.2.2.1 x.1.2.1 = true then .inr (rkN x.1.2.1 c.2.2.2.1 0 : Int) else .inl ()) := by
  rw [← goU_ix]
  refine loopV0 c.2.2.2.1 (slices_Index_string_string_l1 c.2.2.2.1 x.1.2.1) _ _ 100000 (by omega) (fun f pre v r e => ?_) (fun f => ?_)
  ·conv => lhs; unfold slices_Index_string_string_l1
   rw [if_pos (by rw [e]; exact lt_len pre v r), show idx c.2.2.2.1 (pre.length : Int) = some v by rw [e, idx_app], Option.bind_some, wr_snoc pre v r (by rw [← e]; omega)]
  ·conv => lhs; unfold slices_Index_string_string_l1
   rw [if_neg (by simp)]
 rw [e]
 cases hh : hasB c.2.2.2.1 x.1.2.1 with
 | true => simp [rk]
 | false => simp [rk, rkN_no _ _ _ hh]
/-- -1, 0 or 1. -/
def cmpI (x y : Int) : Int := if x < y then -1 else if y < x then 1 else 0
theorem cmp_i (x y : Int) : cmp_Compare_int x y = some (cmpI x y) := by
 unfold cmp_Compare_int cmp_isNaN_int cmpI
 simp only [bne_self_eq_false, Option.bind_some, Bool.false_eq_true, if_false, decide_eq_true_eq, gt_iff_lt]
 split
 ·rfl
 ·split <;> rfl
def cmpS (x y : List UInt8) : Int := if Go.Op.bytesLess x y = true then -1 else if (!(Go.Op.bytesLess x y || x == y)) = true then 1 else 0
theorem cmp_s (x y : List UInt8) : cmp_Compare_string x y = some (cmpS x y) := by
 unfold cmp_Compare_string cmp_isNaN_string cmpS
 simp only [beq_self_eq_true, Bool.not_true, Option.bind_some, Bool.false_eq_true, if_false]
 split
 ·rfl
 ·split <;> rfl
/-- Does a clause name a guest? -/
def nmB (c : Clause) (g : Guest) : Bool :=
 if (c.1 == 4) = true then g.2.2.2.2.1 == c.2.2.2.2 else
 if (c.1 == 5) = true then g.2.2.2.2.2.2.1 else
 if (c.1 == 7) = true then hasB c.2.2.2.1 g.2.2.1 else g.2.2.2.2.2.2.2.2.any fun s => hasB c.2.2.2.1 s
theorem tongues_c (t : List (List UInt8)) (c : Clause) (ht : t.length ≤ 99999) (h : c.2.2.2.1.length ≤ 99999) : slices_ContainsFunc_string_string__court_plain_5_1 t c = some (t.any fun s => hasB c.2.2.2.1 s) := by
 unfold slices_ContainsFunc_string_string__court_plain_5_1 slices_IndexFunc_string_string__court_plain_5_1
 obtain ⟨n, h1, h2⟩ := any_of t ht (fun v => court_plain_5_1 v c) (fun s => hasB c.2.2.2.1 s) (fun v _ => by unfold court_plain_5_1; rw [contains_eq _ _ h]; rfl) (slices_IndexFunc_string_string__court_plain_5_1_l1 t c) (fun f c => rfl)
 rw [← h2]
 exact (congrArg (fun o => o.bind fun v1 => some (decide (v1 ≥ 0))) h1)
def nv (c : Clause) (g : Guest) : Int := if (!(nmB c g == c.2.2.1)) = true then 0 else 1
def insB (i : Int) : Bool := decide (i ≥ 0) && decide (i ≤ 63)
theorem ins_c (i : Int) : court_placed_1 i = some (insB i) := by
 unfold court_placed_1 insB
 by_cases h : i ≥ 0 <;> simp [h]
def kyI (i n : Int) : Int := (wr .i64 ((wr .i64 (i * (wr .i64 ((wr .i64 (n + n)) + 1)))) + n)).tmod 64
theorem key_c (i : Int) (c : Clause) : court_plain_8 i c = some (kyI i c.2.2.2.2) := by
 unfold court_plain_8 kyI
 rw [Int.two_mul]
def b2 (b : Bool) : Int := if b = true then 1 else 0
theorem b2_c (b : Bool) : court_b2i b = some (b2 b) := by cases b <;> rfl
def snc (y : Bool) (s t : Int) : Int := if (!((s == 0) == (t == 0))) = true then cmpI (b2 (s == 0)) (b2 (t == 0)) else if y = true then wr .i64 (0 - cmpI s t) else cmpI s t
/-- What a clause says of two guests at their places, without regard to Among. -/
def ordP (c : Clause) (a b : Guest) (i j : Int) : Int :=
 if (c.1 == 1) = true then cmpI (rk c.2.2.2.1 a.2.1) (rk c.2.2.2.1 b.2.1) else
 if (c.1 == 2) = true then snc false a.2.2.2.1 b.2.2.2.1 else
 if (c.1 == 3) = true then snc true a.2.2.2.1 b.2.2.2.1 else
 if (c.1 == 8) = true then cmpS a.1 b.1 else
 if (c.1 == 9) = true then if (!insB i || !insB j) = true then 0 else cmpI i j else
 if (c.1 == 10) = true then if (!insB i || !insB j) = true then 0 else cmpI (kyI i c.2.2.2.2) (kyI j c.2.2.2.2) else
 cmpI (nv c a) (nv c b)
def amB (c : Clause) (a b : Guest) : Bool := (!(c.2.1 == [])) && ((!(a.2.1 == c.2.1)) || (!(b.2.1 == c.2.1)))
def dir (c : Clause) (a b : Guest) (i j : Int) : Int := if amB c a b = true then 0 else ordP c a b i j
theorem am_c (c : Clause) (a b : Guest) : ((if (!(c.2.1 == [])) = true then if (!(a.2.1 == c.2.1)) = true then some true else some (!(b.2.1 == c.2.1)) else some false) : Option Bool) = some (amB c a b) := by
 unfold amB
 cases (c.2.1 == []) <;> cases (a.2.1 == c.2.1) <;> rfl
theorem plain2_c (a b : Guest) (i j : Int) (c : Clause) : court_plain_2 (a, i) (b, j) c = some (snc (c.1 == 3) a.2.2.2.1 b.2.2.2.1) := by
 unfold court_plain_2 snc court_plain_2_j1
 simp only [b2_c, cmp_i, Option.bind_some]
 split
 ·rfl
 ·split <;> rfl
theorem dir_c (c : Clause) (a b : Guest) (i j : Int) (h : c.2.2.2.1.length ≤ 99999) (ha : a.2.2.2.2.2.2.2.2.length ≤ 99999) (hb : b.2.2.2.2.2.2.2.2.length ≤ 99999) (hk : 1 ≤ c.1 ∧ c.1 ≤ 10) : court_orderOf_1 (a, i) (b, j) c = some (dir c a b i j) := by
 have cl : ∀ (o : Option Int) (x : Int), o = some x → ((((if (!(c.2.1 == [])) = true then if (!(a.2.1 == c.2.1)) = true then some true else some (!(b.2.1 == c.2.1)) else some false) : Option Bool).bind fun j2 => if j2 = true then some 0 else o.bind fun v4 => some v4) : Option Int) = some (if amB c a b = true then 0 else x) := fun o x e => by
  rw [am_c, Option.bind_some, e]
  cases amB c a b <;> rfl
 have nm : ∀ (p q : Bool), ((if (!(p == c.2.2.1)) = true then some 0 else some 1 : Option Int).bind fun v1 => (if (!(q == c.2.2.1)) = true then some 0 else some 1 : Option Int).bind fun v2 => (cmp_Compare_int v1 v2).bind fun v3 => some v3) = some (cmpI (if (!(p == c.2.2.1)) = true then 0 else 1) (if (!(q == c.2.2.1)) = true then 0 else 1)) := fun p q => by
  simp only [cmp_i]
  cases (p == c.2.2.1) <;> cases (q == c.2.2.1) <;> rfl
 have pl : ∀ (o : Int → Option Int) (k : Int → Int), (∀ i, o i = some (k i)) → (((court_placed_1 i).bind fun v1 => ((if (!v1) = true then some true else (court_placed_1 j).bind fun v2 => some (!v2)) : Option Bool).bind fun j4 => if j4 = true then some 0 else (o i).bind fun v6 => (o j).bind fun v7 => (cmp_Compare_int v6 v7).bind fun v8 => some v8) : Option Int) = some (if (!insB i || !insB j) = true then 0 else cmpI (k i) (k j)) := fun o k e => by
  simp only [ins_c, Option.bind_some, e, cmp_i]
  cases insB i <;> cases insB j <;> rfl
 unfold court_orderOf_1 dir
 by_cases h1 : c.1 = 1
 ·have e1 : (c.1 == 1) = true := by simp [h1]
  rw [if_pos e1]
  refine cl (court_by_1__court_plain_1 (a, i) (b, j) c) _ ?_
  unfold court_by_1__court_plain_1 ordP
  rw [if_pos e1, rank_c _ c h, Option.bind_some, rank_c _ c h, Option.bind_some, cmp_i]; rfl
 rw [if_neg (show ¬ (c.1 == 1) = true by simpa using h1)]
 by_cases h2 : c.1 = 2
 ·have e2 : (c.1 == 2) = true := by simp [h2]
  rw [if_pos e2]
  refine cl (court_plain_2 (a, i) (b, j) c) _ ?_
  unfold ordP
  rw [if_neg (show ¬ (c.1 == 1) = true by simpa using h1), if_pos e2, plain2_c, h2]; rfl
 rw [if_neg (show ¬ (c.1 == 2) = true by simpa using h2)]
 by_cases h3 : c.1 = 3
 ·have e3 : (c.1 == 3) = true := by simp [h3]
  rw [if_pos e3]
  refine cl (court_plain_2 (a, i) (b, j) c) _ ?_
  unfold ordP
  rw [if_neg (show ¬ (c.1 == 1) = true by simpa using h1), if_neg (show ¬ (c.1 == 2) = true by simpa using h2), if_pos e3, plain2_c, h3]; rfl
 rw [if_neg (show ¬ (c.1 == 3) = true by simpa using h3)]
 by_cases h4 : c.1 = 4
 ·have e4 : (c.1 == 4) = true := by simp [h4]
  rw [if_pos e4]
  refine cl (court_by_1__court_named_1__court_plain_3 (a, i) (b, j) (c, c)) _ ?_
  have : ordP c a b i j = cmpI (nv c a) (nv c b) := by unfold ordP; simp [h4]
  rw [this]
  unfold nv nmB
  rw [if_pos e4, if_pos e4]
  exact nm _ _
 rw [if_neg (show ¬ (c.1 == 4) = true by simpa using h4)]
 by_cases h5 : c.1 = 5
 ·have e5 : (c.1 == 5) = true := by simp [h5]
  rw [if_pos e5]
  refine cl (court_by_1__court_named_1__court_plain_4 (a, i) (b, j) ((), c)) _ ?_
  have : ordP c a b i j = cmpI (nv c a) (nv c b) := by unfold ordP; simp [h5]
  rw [this]
  unfold nv nmB
  simp only [h5]
  exact nm _ _
 rw [if_neg (show ¬ (c.1 == 5) = true by simpa using h5)]
 by_cases h6 : c.1 = 6
 ·have e6 : (c.1 == 6) = true := by simp [h6]
  rw [if_pos e6]
  refine cl (court_by_1__court_named_1__court_plain_5 (a, i) (b, j) (c, c)) _ ?_
  have : ordP c a b i j = cmpI (nv c a) (nv c b) := by unfold ordP; simp [h6]
  rw [this]
  unfold court_by_1__court_named_1__court_plain_5 court_named_1__court_plain_5 court_plain_5
  rw [tongues_c _ _ ha h, tongues_c _ _ hb h]
  unfold nv nmB
  simp only [h6]
  exact nm _ _
 rw [if_neg (show ¬ (c.1 == 6) = true by simpa using h6)]
 by_cases h7 : c.1 = 7
 ·have e7 : (c.1 == 7) = true := by simp [h7]
  rw [if_pos e7]
  refine cl (court_by_1__court_named_1__court_plain_6 (a, i) (b, j) (c, c)) _ ?_
  have : ordP c a b i j = cmpI (nv c a) (nv c b) := by unfold ordP; simp [h7]
  rw [this]
  unfold court_by_1__court_named_1__court_plain_6 court_named_1__court_plain_6 court_plain_6
  rw [contains_eq _ _ h, contains_eq _ _ h]
  unfold nv nmB
  simp only [h7]
  exact nm _ _
 rw [if_neg (show ¬ (c.1 == 7) = true by simpa using h7)]
 by_cases h8 : c.1 = 8
 ·have e8 : (c.1 == 8) = true := by simp [h8]
  rw [if_pos e8]
  refine cl (court_plain_7 (a, i) (b, j)) _ ?_
  have : ordP c a b i j = cmpS a.1 b.1 := by unfold ordP; simp [h8]
  rw [this]
  unfold court_plain_7
  rw [cmp_s]; rfl
 rw [if_neg (show ¬ (c.1 == 8) = true by simpa using h8)]
 by_cases h10 : c.1 = 10
 ·have e10 : (c.1 == 10) = true := by simp [h10]
  rw [if_pos e10]
  refine cl (court_placed_2__court_placed_1__court_plain_8 (a, i) (b, j) c) _ ?_
  have : ordP c a b i j = if (!insB i || !insB j) = true then 0 else cmpI (kyI i c.2.2.2.2) (kyI j c.2.2.2.2) := by unfold ordP; simp [h10]
  rw [this]
  exact pl (fun i => court_plain_8 i c) (fun i => kyI i c.2.2.2.2) (fun i => key_c i c)
 rw [if_neg (show ¬ (c.1 == 10) = true by simpa using h10)]
 have h9 : c.1 = 9 := by omega
 refine cl (court_placed_2__court_placed_1__court_plain_9 (a, i) (b, j)) _ ?_
 have : ordP c a b i j = if (!insB i || !insB j) = true then 0 else cmpI i j := by unfold ordP; simp [h9]
 rw [this]
 exact pl (fun i => court_plain_9 i) (fun i => i) (fun i => rfl)
/-- The first clause that separates two guests. -/
def rsn (a b : Guest) (i j : Int) : List Clause → Nat → Unit ⊕ (Int × Int)
 | [], _ => .inl ()
 | x :: r, k => if dir x a b i j = 0 then rsn a b i j r (k + 1) else .inr ((k : Int), dir x a b i j)
def rsnT (c : List Clause) (a b : Guest) (i j : Int) : Int × Int := match rsn a b i j c 0 with
 | .inl _ => (-1, 0)
 | .inr w => w
theorem goU_c (a b : Guest) (i j : Int) : ∀ (r : List Clause) (k : Nat), goU (fun x k (n : Option (Unit ⊕ (Int × Int))) => if (dir x a b i j != 0) = true then some (.inr ((k : Int), dir x a b i j)) else n) (some (.inl ())) r k = some (rsn a b i j r k)
 | [], _ => rfl
 | x :: r, k => by
  unfold goU rsn
  rw [goU_c a b i j r (k + 1)]
  by_cases h : dir x a b i j = 0 <;> simp [h]
def fewG (g : Guest) : Prop := g.2.2.2.2.2.2.2.2.length ≤ 10
def kinds (c : List Clause) : Prop := ∀ x ∈ c, 1 ≤ x.1 ∧ x.1 ≤ 10
theorem first_c (c : List Clause) (a b : Guest) (i j : Int) (h : few c) (hk : kinds c) (ha : fewG a) (hb : fewG b) : court_first_court_seated_court_order c (a, i) (b, j) = some (rsnT c a b i j) := by
 have hl := h.1
 have e : court_first_court_seated_court_order_l1 c 100000 a.1 a.2.1 a.2.2.1 a.2.2.2.1 a.2.2.2.2.1 a.2.2.2.2.2.1 a.2.2.2.2.2.2.1 a.2.2.2.2.2.2.2.1 a.2.2.2.2.2.2.2.2 i b.1 b.2.1 b.2.2.1 b.2.2.2.1 b.2.2.2.2.1 b.2.2.2.2.2.1 b.2.2.2.2.2.2.1 b.2.2.2.2.2.2.2.1 b.2.2.2.2.2.2.2.2 j 0 = some (rsn a b i j c 0) := by
  rw [← goU_c]
  refine loopV0 c (fun f n => court_first_court_seated_court_order_l1 c f a.1 a.2.1 a.2.2.1 a.2.2.2.1 a.2.2.2.2.1 a.2.2.2.2.2.1 a.2.2.2.2.2.2.1 a.2.2.2.2.2.2.2.1 a.2.2.2.2.2.2.2.2 i b.1 b.2.1 b.2.2.1 b.2.2.2.1 b.2.2.2.2.1 b.2.2.2.2.2.1 b.2.2.2.2.2.2.1 b.2.2.2.2.2.2.2.1 b.2.2.2.2.2.2.2.2 j n) _ _ 100000 (by omega) (fun f pre v r e => ?_) (fun f => ?_)
  ·conv => lhs; unfold court_first_court_seated_court_order_l1
   have hv : few1 v := h.2 v (by rw [e]; simp)
   have hd := dir_c v a b i j (by have := hv.2.1; omega) (by unfold fewG at ha; omega) (by unfold fewG at hb; omega) (hk v (by rw [e]; simp))
   rw [if_pos (by rw [e]; exact lt_len pre v r), show idx c (pre.length : Int) = some v by rw [e, idx_app], Option.bind_some]
   rw [show court_orderOf_1 ((a.1, a.2.1, a.2.2.1, a.2.2.2.1, a.2.2.2.2.1, a.2.2.2.2.2.1, a.2.2.2.2.2.2.1, a.2.2.2.2.2.2.2.1, a.2.2.2.2.2.2.2.2), i) ((b.1, b.2.1, b.2.2.1, b.2.2.2.1, b.2.2.2.2.1, b.2.2.2.2.2.1, b.2.2.2.2.2.2.1, b.2.2.2.2.2.2.2.1, b.2.2.2.2.2.2.2.2), j) v = some (dir v a b i j) from hd, Option.bind_some, wr_snoc pre v r (by rw [← e]; omega)]
  ·show court_first_court_seated_court_order_l1 c (f + 1) a.1 a.2.1 a.2.2.1 a.2.2.2.1 a.2.2.2.2.1 a.2.2.2.2.2.1 a.2.2.2.2.2.2.1 a.2.2.2.2.2.2.2.1 a.2.2.2.2.2.2.2.2 i b.1 b.2.1 b.2.2.1 b.2.2.2.1 b.2.2.2.2.1 b.2.2.2.2.2.1 b.2.2.2.2.2.2.1 b.2.2.2.2.2.2.2.1 b.2.2.2.2.2.2.2.2 j (c.length : Int) = _
   conv => lhs; unfold court_first_court_seated_court_order_l1
   rw [if_neg (by simp)]
 unfold court_first_court_seated_court_order rsnT
 dsimp only
 rw [e, Option.bind_some]
 cases rsn a b i j c 0 <;> rfl
theorem orders_go (c : List Clause) (h : few c) (hk : kinds c) : ∀ (r pre : List Clause) (f : Nat), c = pre ++ r → r.length < f → court_orders_l1 c f pre (pre.length : Int) = some c
 | [], pre, f + 1, e, _ => by
  unfold court_orders_l1
  rw [if_neg (by rw [e]; simp), e, List.append_nil]
 | v :: r, pre, f + 1, e, hf => by
  have hl := h.1
  have hl2 : c.length = pre.length + r.length + 1 := by rw [e]; simp; omega
  simp only [List.length_cons] at hf
  have hkv := hk v (by rw [e]; simp)
  unfold court_orders_l1
  rw [if_pos (by rw [e]; exact lt_len pre v r), show idx c (pre.length : Int) = some v by rw [e, idx_app], Option.bind_some, show court_orderOf v = some v by unfold court_orderOf; rw [if_pos hkv], Option.bind_some, if_pos (capOk_le (by omega) (by omega)), show wr .i64 ((pre.length : Int) + 1) = ((pre ++ [v]).length : Int) from wr_snoc pre v r (by rw [← e]; omega)]
  exact orders_go c h hk r (pre ++ [v]) f (by rw [e]; simp) (by omega)
theorem fm_kind {x : Clause} (h : fm x = true) : 1 ≤ x.1 ∧ x.1 ≤ 10 := by
 by_cases hk : 1 ≤ x.1 ∧ x.1 ≤ 10
 ·exact hk
 ·exfalso
  have n : ∀ q : Int, 1 ≤ q → q ≤ 10 → ¬ (x.1 == q) = true := fun q h1 h2 e => hk (by have : x.1 = q := (by simpa using e); omega)
  have e : ref03_formed x = some false := by
   unfold ref03_formed ref03_formed_j1 ref03_formed_j2 ref03_formed_j3 ref03_formed_j4
   have n9 : (x.1 == 9) = false := by simpa using n 9 (by omega) (by omega)
   have n7 : (x.1 == 7) = false := by simpa using n 7 (by omega) (by omega)
   rw [if_neg (n 1 (by omega) (by omega)), if_neg (n 2 (by omega) (by omega)), if_neg (n 3 (by omega) (by omega)), if_neg (n 8 (by omega) (by omega)), if_neg (n 4 (by omega) (by omega)), if_neg (n 5 (by omega) (by omega)), if_neg (n 6 (by omega) (by omega)), if_neg (n 10 (by omega) (by omega)), n9, n7]
   rfl
  unfold fm at h
  rw [e] at h
  cases h
theorem chkL_inl (c : List Clause) : ∀ (r : List Clause) (i : Nat), (∃ u, chkL c r i = .inl u ∧ ∀ x ∈ r, fm x = true) ∨ ∃ w, chkL c r i = .inr w ∧ w.2 ≠ 0
 | [], i => .inl ⟨(), rfl, fun x hx => by cases hx⟩
 | x :: r, i => by
  unfold chkL
  by_cases h : chk (c.take i) x = 0
  ·rw [if_neg (by simpa using h)]
   rcases chkL_inl c r (i + 1) with ⟨u, h1, h2⟩ | h1
   ·refine .inl ⟨u, h1, fun y hy => ?_⟩
    rcases List.mem_cons.1 hy with rfl | hy
    ·cases hf : fm y with
     | true => rfl
     | false => unfold chk at h; rw [if_pos hf] at h; cases h
    ·exact h2 y hy
   ·exact .inr h1
  ·rw [if_pos h]
   exact .inr ⟨_, rfl, h⟩
theorem valid_kinds {c : List Clause} (h : (chkT c).2 = 0) : kinds c := by
 unfold chkT at h
 split at h
 ·cases h
 ·rcases chkL_inl c c 0 with ⟨u, h1, h2⟩ | ⟨w, h1, h2⟩
  ·exact fun x hx => fm_kind (h2 x hx)
  ·rw [h1] at h; exact absurd h h2
theorem reason_c (c : List Clause) (a b : Guest) (i j : Int) (h : few c) (ha : fewG a) (hb : fewG b) : court_Reason c a b i j = some (if (chkT c).2 = 0 then rsnT c a b i j else (0, 0)) := by
 unfold court_Reason court_orders
 rw [check_c c h, Option.bind_some]
 by_cases hv : (chkT c).2 = 0
 ·have hk := valid_kinds hv
  have e0 : court_orders_l1 c 100000 [] 0 = some c := orders_go c h hk c [] 100000 rfl (by have := h.1; omega)
  rw [if_neg (by simpa using hv), if_pos hv, e0]
  simp only [Option.bind_some]
  rw [if_neg (by simp), first_c c a b i j h hk ha hb]
  rfl
 ·rw [if_pos (by simpa using hv), if_neg hv]
  rfl
theorem compare_c (c : List Clause) (a b : Guest) (i j : Int) (h : few c) (ha : fewG a) (hb : fewG b) : court_Compare c a b i j = some (if (chkT c).2 = 0 then rsnT c a b i j else (0, 0)).2 := by
 unfold court_Compare
 rw [reason_c c a b i j h ha hb]; rfl
/-- A letter a to d. -/
def wd (k : Int) : List UInt8 := ((((([97, 98, 99, 100] : List UInt8).take (([97, 98, 99, 100] : List UInt8).length : Int).toNat).drop k.toNat).take (1 : Int).toNat).drop (0 : Int).toNat)
theorem four {k : Int} (h1 : 0 ≤ k) (h2 : k < 4) : k = 0 ∨ k = 1 ∨ k = 2 ∨ k = 3 := by omega
theorem wd_name {k : Int} (h1 : 0 ≤ k) (h2 : k < 4) : isName (wd k) = true ∧ (wd k).length = 1 := by
 rcases four h1 h2 with rfl | rfl | rfl | rfl <;> decide
theorem wd_inj {a b : Int} (h1 : 0 ≤ a) (h2 : a < 4) (h3 : 0 ≤ b) (h4 : b < 4) (h : (wd a == wd b) = true) : a = b := by
 rcases four h1 h2 with rfl | rfl | rfl | rfl <;> rcases four h3 h4 with rfl | rfl | rfl | rfl <;> first | rfl | (exact absurd h (by decide))
theorem cut4 {k : Int} (h1 : 0 ≤ k) (h2 : k < 4) : cutOk k (([97, 98, 99, 100] : List UInt8).length : Int) ([97, 98, 99, 100] : List UInt8).length = true ∧ cutOk 0 (1 : Int) ((([97, 98, 99, 100] : List UInt8).take (([97, 98, 99, 100] : List UInt8).length : Int).toNat).drop k.toNat).length = true := by
 rcases four h1 h2 with rfl | rfl | rfl | rfl <;> exact ⟨by decide, by decide⟩
def u8 (n : Int) : Prop := 0 ≤ n ∧ n ≤ 255
theorem tm4 {n : Int} (h : u8 n) : 0 ≤ n.tmod 4 ∧ n.tmod 4 < 4 := by
 have := h.1
 rw [Int.tmod_eq_emod_of_nonneg this]
 omega
theorem wr8 (n : Int) (h : u8 n) : u8 (wr .u8 (n + 1)) ∧ (wr .u8 (n + 1)).tmod 4 ≠ n.tmod 4 := by
 have e : wr .u8 (n + 1) = (n + 1) % 256 := rfl
 have h2 : u8 ((n + 1) % 256) := ⟨by omega, by omega⟩
 refine ⟨e ▸ h2, ?_⟩
 rw [e, Int.tmod_eq_emod_of_nonneg h2.1, Int.tmod_eq_emod_of_nonneg h.1]
 unfold u8 at h
 omega
/-- The names of a code. -/
def nms (v : Int × Int × Int × Bool × Bool) : List (List UInt8) := if ((andI .u8 v.2.2.1 4) != 0) = true then [wd (v.2.2.1.tmod 4), wd ((wr .u8 (v.2.2.1 + 1)).tmod 4)] else [wd (v.2.2.1.tmod 4)]
theorem made_2 (x0 : List (Int × Int × Int × Bool × Bool)) (c2 : List Clause) (c3 : List UInt8) (c4 : Int) (v : Int × Int × Int × Bool × Bool) (h : u8 v.2.2.1) : law03_Made_j2 x0 c2 c3 c4 v = some (nms v) := by
 unfold law03_Made_j2 nms
 obtain ⟨h1, _⟩ := wr8 _ h
 obtain ⟨q1, q2⟩ := tm4 h1
 obtain ⟨d1, d2⟩ := cut4 q1 q2
 by_cases hc : ((andI .u8 v.2.2.1 4) != 0) = true
 ·rw [if_pos hc, if_pos hc, if_pos d1, if_pos d2]
  refine (if_pos ?_).trans rfl
  show capOk 16 2 = true
  decide
 ·rw [if_neg hc, if_neg hc]; rfl
/-- The clause of a code. -/
def clz (k : Int) (am : List UInt8) (la : Bool) (nm : List (List UInt8)) (b : Int) : Clause :=
 if k = 1 then (1, am, false, nm, 0) else if k = 4 then (4, am, la, [], wr .i64 (1 + wr .i64 (b.tmod 2))) else if k = 5 then (5, am, la, [], 0) else
 if k = 6 then (6, am, la, nm, 0) else if k = 7 then (7, am, la, nm, 0) else if k = 10 then (10, am, false, [], wr .i64 (b.tmod 64)) else (k, am, false, [], 0)
theorem ten {k : Int} (h1 : 1 ≤ k) (h2 : k ≤ 10) : k = 1 ∨ k = 2 ∨ k = 3 ∨ k = 4 ∨ k = 5 ∨ k = 6 ∨ k = 7 ∨ k = 8 ∨ k = 9 ∨ k = 10 := by omega
theorem made_4 (x0 : List (Int × Int × Int × Bool × Bool)) (c2 : List Clause) (c3 : List UInt8) (c4 a b d : Int) (e g : Bool) (k : Int) (am : List UInt8) (w : List UInt8) (nm : List (List UInt8)) (h1 : 1 ≤ k) (h2 : k ≤ 10) :
  law03_Made_j4 x0 c3 c4 (c2, a, b, d, e, g, k, am, false, 0, w :: nm) = some (c2, (if k = 1 then w else c3), clz k am e (w :: nm) b) := by
 rcases ten h1 h2 with rfl | rfl | rfl | rfl | rfl | rfl | rfl | rfl | rfl | rfl <;> rfl
/-- Names that are fit. -/
def fitN (nm : List (List UInt8)) : Prop := 1 ≤ nm.length ∧ nm.length ≤ 2 ∧ (nm.any fun s => !isName s) = false ∧ dupL nm nm 0 = false ∧ ∀ s ∈ nm, s.length ≤ 40
theorem nms_fit (v : Int × Int × Int × Bool × Bool) (h : u8 v.2.2.1) : fitN (nms v) ∧ ∃ r, nms v = wd (v.2.2.1.tmod 4) :: r := by
 obtain ⟨h1, h0⟩ := wr8 _ h
 obtain ⟨q1, q2⟩ := tm4 h1
 obtain ⟨p1, p2⟩ := tm4 h
 obtain ⟨a1, a2⟩ := wd_name p1 p2
 obtain ⟨b1, b2⟩ := wd_name q1 q2
 have hne : (wd ((wr .u8 (v.2.2.1 + 1)).tmod 4) == wd (v.2.2.1.tmod 4)) = false := by
  cases hh : (wd ((wr .u8 (v.2.2.1 + 1)).tmod 4) == wd (v.2.2.1.tmod 4)) with
  | false => rfl
  | true => exact absurd (wd_inj q1 q2 p1 p2 hh) h0
 unfold nms
 split
 ·refine ⟨⟨by simp, by simp, by simp [a1, b1], ?_, fun s hs => ?_⟩, _, rfl⟩
  ·simp [dupL, hasB, hne]
  ·rcases (by simpa using hs : s = _ ∨ s = _) with rfl | rfl <;> omega
 ·refine ⟨⟨by simp, by simp, by simp [a1], by simp [dupL, hasB], fun s hs => ?_⟩, _, rfl⟩
  have : s = wd (v.2.2.1.tmod 4) := by simpa using hs
  rw [this]; omega
theorem clz_fm (k : Int) (am : List UInt8) (la : Bool) (nm : List (List UInt8)) (b : Int) (h1 : 1 ≤ k) (h2 : k ≤ 10) (hb : u8 b) (ha : k = 1 → am = []) (hn : fitN nm) : fm (clz k am la nm b) = true := by
 obtain ⟨n1, n2, _⟩ := hn
 have hl : nm.length = 1 ∨ nm.length = 2 := by omega
 have e2 : wr .i64 (1 + wr .i64 (b.tmod 2)) = 1 ∨ wr .i64 (1 + wr .i64 (b.tmod 2)) = 2 := by
  rw [Int.tmod_eq_emod_of_nonneg hb.1]
  have hw : wr .i64 (b % 2) = b % 2 := wr_i (by omega) (by omega)
  rw [hw, wr_i (by omega) (by omega)]
  omega
 have e64 : 0 ≤ wr .i64 (b.tmod 64) ∧ wr .i64 (b.tmod 64) ≤ 63 := by
  rw [Int.tmod_eq_emod_of_nonneg hb.1, wr_i (by omega) (by omega)]
  omega
 unfold fm
 rcases ten h1 h2 with rfl | rfl | rfl | rfl | rfl | rfl | rfl | rfl | rfl | rfl
 ·obtain rfl := ha rfl
  have : clz 1 [] la nm b = (1, [], false, nm, 0) := rfl
  rw [this]
  rcases hl with h | h <;> simp [ref03_formed, ref03_between, h]
 ·rfl
 ·rfl
 ·have : clz 4 am la nm b = (4, am, la, [], wr .i64 (1 + wr .i64 (b.tmod 2))) := rfl
  rw [this]
  rcases e2 with h | h <;> rw [h] <;> rfl
 ·rfl
 ·have : clz 6 am la nm b = (6, am, la, nm, 0) := rfl
  rw [this]
  rcases hl with h | h <;> simp [ref03_formed, ref03_formed_j1, ref03_formed_j2, ref03_formed_j3, ref03_formed_j4, ref03_between, h]
 ·have : clz 7 am la nm b = (7, am, la, nm, 0) := rfl
  rw [this]
  rcases hl with h | h <;> simp [ref03_formed, ref03_formed_j1, ref03_formed_j2, ref03_formed_j3, ref03_formed_j4, ref03_between, h]
 ·rfl
 ·rfl
 ·have : clz 10 am la nm b = (10, am, false, [], wr .i64 (b.tmod 64)) := rfl
  rw [this]
  simp [ref03_formed, ref03_formed_j1, ref03_formed_j2, ref03_formed_j3, ref03_formed_j4, ref03_between, e64.1, e64.2]
/-- Every clause is valid behind what stands before it. -/
def goodR (pre : List Clause) : List Clause → Prop
 | [] => True
 | x :: r => chk pre x = 0 ∧ goodR (pre ++ [x]) r
theorem goodR_app : ∀ (a pre b : List Clause), goodR pre (a ++ b) ↔ goodR pre a ∧ goodR (pre ++ a) b
 | [], pre, b => by simp [goodR]
 | x :: a, pre, b => by
  simp only [List.cons_append, goodR, goodR_app a (pre ++ [x]) b, List.append_assoc, List.cons_append, List.nil_append, and_assoc]
theorem ranked_app (a b : List Clause) (s : List UInt8) : ranked (a ++ b) s = (ranked a s || ranked b s) := by
 unfold ranked
 rw [List.any_append]
theorem chk_mono {q pre : List Clause} {x : Clause} (h : chk pre x = 0) : chk (q ++ pre) x = 0 := by
 unfold chk at h ⊢
 split at h
 ·cases h
 ·next h1 =>
  rw [if_neg h1]
  split at h
  ·cases h
  ·next h2 =>
   rw [if_neg h2]
   split at h
   ·cases h
   ·next h3 =>
    rw [if_neg h3]
    split at h
    ·next h4 =>
     rw [if_pos]
     rcases h4 with h4 | h4
     ·exact .inl h4
     ·exact .inr (by rw [ranked_app, h4]; simp)
    ·cases h
theorem goodR_mono (q : List Clause) : ∀ (r pre : List Clause), goodR pre r → goodR (q ++ pre) r
 | [], _, _ => trivial
 | x :: r, pre, h => ⟨chk_mono h.1, by have := goodR_mono q r _ h.2; rwa [← List.append_assoc] at this⟩
theorem goodR_chk (c : List Clause) : ∀ (r pre : List Clause), c = pre ++ r → goodR pre r → chkL c r pre.length = .inl ()
 | [], _, _, _ => rfl
 | x :: r, pre, e, h => by
  unfold chkL
  have ht : c.take pre.length = pre := by rw [e]; simp
  rw [ht, if_neg (by rw [h.1]; decide)]
  have := goodR_chk c r (pre ++ [x]) (by rw [e]; simp) h.2
  simpa using this
theorem goodR_T {c : List Clause} (hl : c.length ≤ 32) (h : goodR [] c) : chkT c = (0, 0) := by
 unfold chkT
 have : chkL c c 0 = .inl () := goodR_chk c c [] rfl h
 rw [if_neg (by omega), this]
theorem clz_am (k : Int) (am : List UInt8) (la : Bool) (nm : List (List UInt8)) (b : Int) : (clz k am la nm b).2.1 = am := by
 unfold clz
 split; · rfl
 split; · rfl
 split; · rfl
 split; · rfl
 split; · rfl
 split <;> rfl
theorem clz_nm (k : Int) (am : List UInt8) (la : Bool) (nm : List (List UInt8)) (b : Int) : (clz k am la nm b).2.2.2.1 = nm ∨ (clz k am la nm b).2.2.2.1 = [] := by
 unfold clz
 split; · exact .inl rfl
 split; · exact .inr rfl
 split; · exact .inr rfl
 split; · exact .inl rfl
 split; · exact .inl rfl
 split <;> exact .inr rfl
theorem clz_chk (pre : List Clause) (k : Int) (am : List UInt8) (la : Bool) (nm : List (List UInt8)) (b : Int) (h1 : 1 ≤ k) (h2 : k ≤ 10) (hb : u8 b) (ha : k = 1 → am = []) (hn : fitN nm) (hr : am = [] ∨ ranked pre am = true ∧ isName am = true) : chk pre (clz k am la nm b) = 0 := by
 unfold chk
 rw [clz_fm k am la nm b h1 h2 hb ha hn, if_neg (by decide), clz_am]
 have hN : ((clz k am la nm b).2.2.2.1.any fun s => !isName s) = false := by
  rcases clz_nm k am la nm b with e | e <;> rw [e]
  ·exact hn.2.2.1
  ·rfl
 have hD : dupL (clz k am la nm b).2.2.2.1 (clz k am la nm b).2.2.2.1 0 = false := by
  rcases clz_nm k am la nm b with e | e <;> rw [e]
  ·exact hn.2.2.2.1
  ·rfl
 rw [hN, hD]
 rcases hr with rfl | ⟨h3, h4⟩
 ·simp
 ·simp [h3, h4]
theorem clz_few (k : Int) (am : List UInt8) (la : Bool) (nm : List (List UInt8)) (b : Int) (ha : am.length ≤ 40) (hn : fitN nm) : few1 (clz k am la nm b) := by
 refine ⟨by rw [clz_am]; exact ha, ?_, ?_⟩
 ·rcases clz_nm k am la nm b with e | e <;> rw [e]
  ·have := hn.2.1; omega
  ·simp
 ·rcases clz_nm k am la nm b with e | e <;> rw [e]
  ·exact hn.2.2.2.2
  ·simp
theorem kind8 {a : Int} (h : u8 a) : 1 ≤ wr .u8 (1 + a.tmod 10) ∧ wr .u8 (1 + a.tmod 10) ≤ 10 := by
 rw [Int.tmod_eq_emod_of_nonneg h.1]
 have e : wr .u8 (1 + a % 10) = (1 + a % 10) % 256 := rfl
 rw [e]
 omega
def codeOk (v : Int × Int × Int × Bool × Bool) : Prop := u8 v.1 ∧ u8 v.2.1 ∧ u8 v.2.2.1
/-- What the loop keeps. -/
def keepM (c2 : List Clause) (c3 : List UInt8) : Prop := goodR [] c2 ∧ (∀ x ∈ c2, few1 x) ∧ (c3 = [] ∨ (ranked c2 c3 = true ∧ isName c3 = true ∧ c3.length ≤ 40))
theorem keep_step {c2 : List Clause} {c3 : List UInt8} (h : keepM c2 c3) (v : Int × Int × Int × Bool × Bool) (hv : codeOk v) (am : List UInt8) (ham : am = [] ∨ am = c3) (hk1 : wr .u8 (1 + v.1.tmod 10) = 1 → am = []) (w : List UInt8) (r : List (List UInt8)) (hw : nms v = w :: r) :
  keepM (c2 ++ [clz (wr .u8 (1 + v.1.tmod 10)) am v.2.2.2.1 (w :: r) v.2.1]) (if wr .u8 (1 + v.1.tmod 10) = 1 then w else c3) := by
 obtain ⟨g1, g2, g3⟩ := h
 obtain ⟨k1, k2⟩ := kind8 hv.1
 obtain ⟨n1, r', n2⟩ := nms_fit v hv.2.2
 rw [hw] at n1
 have ha : am = [] ∨ ranked c2 am = true ∧ isName am = true := by
  rcases ham with e | e
  ·exact .inl e
  ·rcases g3 with g3 | ⟨q1, q2, _⟩
   ·exact .inl (e.trans g3)
   ·rw [e]; exact .inr ⟨q1, q2⟩
 have ha40 : am.length ≤ 40 := by
  rcases ham with e | e
  ·rw [e]; simp
  ·rcases g3 with g3 | ⟨_, _, q3⟩
   ·rw [e, g3]; simp
   ·rw [e]; exact q3
 refine ⟨(goodR_app _ _ _).2 ⟨g1, clz_chk _ _ _ _ _ _ k1 k2 hv.2.1 hk1 n1 ha, trivial⟩, fun x hx => ?_, ?_⟩
 ·rcases List.mem_append.1 hx with hx | hx
  ·exact g2 x hx
  ·rw [List.mem_singleton.1 hx]
   exact clz_few _ _ _ _ _ ha40 n1
 ·by_cases hk : wr .u8 (1 + v.1.tmod 10) = 1
  ·rw [if_pos hk]
   refine .inr ⟨?_, ?_, n1.2.2.2.2 w (by simp)⟩
   ·rw [ranked_app, hk]
    have : ranked [clz 1 am v.2.2.2.1 (w :: r) v.2.1] w = true := by
     unfold ranked clz hasB
     simp
    rw [this]; simp
   ·have := n1.2.2.1
    simp at this
    exact this.1
  ·rw [if_neg hk]
   rcases g3 with g3 | ⟨q1, q2, q3⟩
   ·exact .inl g3
   ·exact .inr ⟨by rw [ranked_app, q1]; simp, q2, q3⟩
theorem made_go (x0 : List (Int × Int × Int × Bool × Bool)) (ys : List (Int × Int × Int × Bool × Bool)) (hys : ((x0.take (mnI (x0.length : Int) 8).toNat).drop (0 : Int).toNat) = ys) (hb : ∀ v ∈ ys, codeOk v) (h8 : ys.length ≤ 8) : ∀ (r pre : List (Int × Int × Int × Bool × Bool)) (c2 : List Clause) (c3 : List UInt8) (f : Nat), ys = pre ++ r → r.length < f → c2.length = pre.length → keepM c2 c3 →
  ∃ c c3', law03_Made_l1 x0 f c2 c3 (pre.length : Int) = some c ∧ keepM c c3' ∧ c.length = ys.length
 | [], pre, c2, c3, f + 1, e, _, hl, hk => by
  refine ⟨c2, c3, ?_, hk, by rw [hl, e]; simp⟩
  unfold law03_Made_l1
  rw [hys, if_neg (by rw [e]; simp)]
 | v :: r, pre, c2, c3, f + 1, e, hf, hl, hk => by
  have hv := hb v (by rw [e]; simp)
  have hl2 : ys.length = pre.length + r.length + 1 := by rw [e]; simp; omega
  simp only [List.length_cons] at hf
  obtain ⟨p1, p2⟩ := tm4 hv.2.2
  obtain ⟨d1, d2⟩ := cut4 p1 p2
  obtain ⟨k1, k2⟩ := kind8 hv.1
  obtain ⟨n1, r', n2⟩ := nms_fit v hv.2.2
  have hstep : ∃ am, (am = [] ∨ am = c3) ∧ (wr .u8 (1 + v.1.tmod 10) = 1 → am = []) ∧ ((if v.2.2.2.2 = true then some (c2, v.1, v.2.1, v.2.2.1, v.2.2.2.1, true, (wr .u8 (1 + (v.1.tmod 10))), ([] : List UInt8), false, (0 : Int), nms v, ((wr .u8 (1 + (v.1.tmod 10))) != 1)) else some (c2, v.1, v.2.1, v.2.2.1, v.2.2.2.1, false, (wr .u8 (1 + (v.1.tmod 10))), ([] : List UInt8), false, (0 : Int), nms v, false)).bind fun j27 => law03_Made_j3 x0 c3 (pre.length : Int) j27) = some (c2, v.1, v.2.1, v.2.2.1, v.2.2.2.1, v.2.2.2.2, (wr .u8 (1 + (v.1.tmod 10))), am, false, (0 : Int), nms v) := by
   cases ht : v.2.2.2.2 with
   | false => exact ⟨[], .inl rfl, fun _ => rfl, rfl⟩
   | true =>
    by_cases h1 : wr .u8 (1 + v.1.tmod 10) = 1
    ·refine ⟨[], .inl rfl, fun _ => rfl, ?_⟩
     rw [if_pos rfl, Option.bind_some]
     unfold law03_Made_j3
     rw [if_neg (by simp [h1])]
    ·refine ⟨c3, .inr rfl, fun q => absurd q h1, ?_⟩
     rw [if_pos rfl, Option.bind_some]
     unfold law03_Made_j3
     rw [if_pos (by simpa using h1)]
  obtain ⟨am, ham, hk1, hj⟩ := hstep
  have hm4 : law03_Made_j4 x0 c3 (pre.length : Int) (c2, v.1, v.2.1, v.2.2.1, v.2.2.2.1, v.2.2.2.2, (wr .u8 (1 + (v.1.tmod 10))), am, false, (0 : Int), nms v) = some (c2, (if wr .u8 (1 + v.1.tmod 10) = 1 then wd (v.2.2.1.tmod 4) else c3), clz (wr .u8 (1 + v.1.tmod 10)) am v.2.2.2.1 (nms v) v.2.1) := by
   rw [n2]
   exact made_4 x0 c2 c3 _ _ _ _ _ _ _ am _ _ k1 k2
  have hks := keep_step hk v hv am ham hk1 _ _ n2
  obtain ⟨c, c3', q1, q2, q3⟩ := made_go x0 ys hys hb h8 r (pre ++ [v]) _ _ f (by rw [e]; simp) (by omega) (by simp [hl]) hks
  refine ⟨c, c3', ?_, q2, q3⟩
  rw [← q1]
  conv => lhs; unfold law03_Made_l1
  rw [hys, if_pos (by rw [e]; exact lt_len pre v r), show idx ys (pre.length : Int) = some v by rw [e, idx_app], Option.bind_some, if_pos d1, if_pos d2, made_2 x0 c2 c3 _ v hv.2.2, Option.bind_some]
  rw [← Option.bind_assoc, hj, Option.bind_some, hm4, Option.bind_some]
  dsimp only
  rw [if_pos (capOk_le (by omega) (by omega)), wr_snoc pre v r (by rw [← e]; omega), n2]
theorem made_eq (x0 : List (Int × Int × Int × Bool × Bool)) (hb : ∀ v ∈ x0, codeOk v) : ∃ c, law03_Made x0 = some c ∧ few c ∧ goodR [] c ∧ c.length ≤ 8 := by
 have hm : 0 ≤ mnI (x0.length : Int) 8 ∧ mnI (x0.length : Int) 8 ≤ 8 ∧ mnI (x0.length : Int) 8 ≤ x0.length := by
  unfold mnI
  split <;> omega
 have h8 : ((x0.take (mnI (x0.length : Int) 8).toNat).drop (0 : Int).toNat).length ≤ 8 := by
  rw [List.length_drop, List.length_take]; omega
 obtain ⟨c, c3, h1, h2, h3⟩ := made_go x0 _ rfl (fun v hv => hb v (List.mem_of_mem_take (List.mem_of_mem_drop hv))) h8 _ [] [] [] 100000 rfl (Nat.lt_of_le_of_lt h8 (by decide)) rfl ⟨trivial, fun x hx => by simp at hx, .inl rfl⟩
 refine ⟨c, ?_, ⟨by omega, h2.2.1⟩, h2.1, by omega⟩
 unfold law03_Made
 rw [if_pos (by unfold cutOk; simp; omega)]
 have e : law03_Made_l1 x0 100000 [] [] 0 = some c := h1
 rw [e]; rfl
theorem and_all : ((List.range 256).all fun n => decide (0 ≤ andI .u8 ((n : Int).fdiv 8) 3) && decide (andI .u8 ((n : Int).fdiv 8) 3 < 4) && (decide (0 ≤ andI .u8 ((n : Int).fdiv 16) 3) && decide (andI .u8 ((n : Int).fdiv 16) 3 < 4))) = true := by kernel_rfl
theorem and3 {a : Int} (h : u8 a) : (0 ≤ andI .u8 (a.fdiv 8) 3 ∧ andI .u8 (a.fdiv 8) 3 < 4) ∧ 0 ≤ andI .u8 (a.fdiv 16) 3 ∧ andI .u8 (a.fdiv 16) 3 < 4 := by
 obtain ⟨n, rfl⟩ := Int.eq_ofNat_of_zero_le h.1
 have hn : n < 256 := by have := h.2; omega
 have := List.all_eq_true.1 and_all n (by simpa using hn)
 simp only [Bool.and_eq_true, decide_eq_true_eq] at this
 exact ⟨this.1, this.2⟩
theorem guest_1 (x : Int × Int) (nm : List UInt8) (h1 : u8 x.1) : ∃ r, law03_Guest_j1 x nm = some r ∧ r.1 = x.1 ∧ r.2.1 = x.2 := by
 obtain ⟨⟨a1, a2⟩, _⟩ := and3 h1
 obtain ⟨d1, d2⟩ := cut4 a1 a2
 unfold law03_Guest_j1
 by_cases hc : ((andI .u8 x.1 4) != 0) = true
 ·rw [if_pos hc, if_pos d1, if_pos d2]; exact ⟨_, rfl, rfl, rfl⟩
 ·rw [if_neg hc]; exact ⟨_, rfl, rfl, rfl⟩
theorem guest_2 (r) (h2 : u8 r.2.1) : ∃ r', law03_Guest_j2 r = some r' ∧ r'.1 = r.1 ∧ r'.2.1 = r.2.1 := by
 obtain ⟨⟨a1, a2⟩, _⟩ := and3 h2
 obtain ⟨d1, d2⟩ := cut4 a1 a2
 unfold law03_Guest_j2
 by_cases hc : ((andI .u8 r.2.1 4) != 0) = true
 ·rw [if_pos hc, if_pos d1, if_pos d2]; exact ⟨_, rfl, rfl, rfl⟩
 ·rw [if_neg hc]; exact ⟨_, rfl, rfl, rfl⟩
theorem guest_3 (r) (h1 : u8 r.1) : ∃ r', law03_Guest_j3 r = some r' ∧ r'.1 = r.1 ∧ r'.2.1 = r.2.1 ∧ r'.2.2.2.2.2.2.2.2.2.2.2.2.2.2.2.2.2.2.length ≤ 1 := by
 obtain ⟨_, a1, a2⟩ := and3 h1
 obtain ⟨d1, d2⟩ := cut4 a1 a2
 unfold law03_Guest_j3
 by_cases hc : ((andI .u8 r.2.1 64) != 0) = true
 ·rw [if_pos hc, if_pos d1, if_pos d2]; exact ⟨_, rfl, rfl, rfl, by simp⟩
 ·rw [if_neg hc]; exact ⟨_, rfl, rfl, rfl, by simp⟩
theorem guest_4 (r) (h2 : u8 r.2.1) : ∃ r', law03_Guest_j4 r = some r' ∧ r'.2.2.2.2.2.2.2.2.2.2.2.2.2.2.2.2 = r.2.2.2.2.2.2.2.2.2.2.2.2.2.2.2.2.2.2 := by
 obtain ⟨_, a1, a2⟩ := and3 h2
 obtain ⟨d1, d2⟩ := cut4 a1 a2
 unfold law03_Guest_j4
 by_cases hc : ((andI .u8 r.1 128) != 0) = true
 ·rw [if_pos hc, if_pos d1, if_pos d2]; exact ⟨_, rfl, rfl⟩
 ·rw [if_neg hc]; exact ⟨_, rfl, rfl⟩
theorem guest_eq (x : Int × Int) (nm : List UInt8) (h1 : u8 x.1) (h2 : u8 x.2) : ∃ g, law03_Guest x nm = some g ∧ fewG g := by
 obtain ⟨r1, e1, p1, q1⟩ := guest_1 x nm h1
 obtain ⟨r2, e2, p2, q2⟩ := guest_2 r1 (q1 ▸ h2)
 obtain ⟨r3, e3, p3, q3, t3⟩ := guest_3 r2 (by rw [p2, p1]; exact h1)
 obtain ⟨r4, e4, t4⟩ := guest_4 r3 (by rw [q3, q2, q1]; exact h2)
 refine ⟨r4.2.2.2.2.2.2.2.2, ?_, ?_⟩
 ·unfold law03_Guest
  rw [e1, Option.bind_some, e2, Option.bind_some, e3, Option.bind_some, e4]; rfl
 ·unfold fewG
  rw [t4]; omega
theorem ok3 (a b : Int) : okB ([103] ++ by8 [a, b]) = true := rfl
theorem guests_go (x0 : List (Int × Int)) (n : Int) (ys : List (Int × Int)) (hys : ((x0.take (mnI (x0.length : Int) n).toNat).drop (0 : Int).toNat) = ys) (hb : ∀ v ∈ ys, u8 v.1 ∧ u8 v.2) (h20 : ys.length ≤ 20) : ∀ (r pre : List (Int × Int)) (c2 : List Guest) (f : Nat), ys = pre ++ r → r.length < f → c2.length = pre.length → (∀ g ∈ c2, fewG g) →
  ∃ c, law03_Guests_l1 x0 n f c2 (pre.length : Int) = some c ∧ (∀ g ∈ c, fewG g) ∧ c.length = ys.length
 | [], pre, c2, f + 1, e, _, hl, hk => by
  refine ⟨c2, ?_, hk, by rw [hl, e]; simp⟩
  unfold law03_Guests_l1
  rw [hys, if_neg (by rw [e]; simp)]
 | v :: r, pre, c2, f + 1, e, hf, hl, hk => by
  have hv := hb v (by rw [e]; simp)
  have hl2 : ys.length = pre.length + r.length + 1 := by rw [e]; simp; omega
  simp only [List.length_cons] at hf
  obtain ⟨g, hg, hgf⟩ := guest_eq (v.1, v.2) ([103] ++ (by8 [(wr .u8 (wr .i64 (97 + (wr .i64 ((pre.length : Int).tdiv 26))))), (wr .u8 (wr .i64 (97 + ((pre.length : Int).tmod 26))))])) hv.1 hv.2
  obtain ⟨c, q1, q2, q3⟩ := guests_go x0 n ys hys hb h20 r (pre ++ [v]) (c2 ++ [g]) f (by rw [e]; simp) (by omega) (by simp [hl]) (fun y hy => by
   rcases List.mem_append.1 hy with hy | hy
   ·exact hk y hy
   ·rw [List.mem_singleton.1 hy]; exact hgf)
  refine ⟨c, ?_, q2, q3⟩
  rw [← q1]
  conv => lhs; unfold law03_Guests_l1
  rw [hys, if_pos (by rw [e]; exact lt_len pre v r), show idx ys (pre.length : Int) = some v by rw [e, idx_app], Option.bind_some, if_pos (ok3 _ _), hg, Option.bind_some, if_pos (capOk_le (by omega) (by omega)), wr_snoc pre v r (by rw [← e]; omega)]
theorem guests_eq (x0 : List (Int × Int)) (n : Int) (h0 : 0 ≤ n) (hn : n ≤ 20) (hb : ∀ v ∈ x0, u8 v.1 ∧ u8 v.2) : ∃ c, law03_Guests x0 n = some c ∧ (∀ g ∈ c, fewG g) ∧ c.length ≤ 20 := by
 have hm : 0 ≤ mnI (x0.length : Int) n ∧ mnI (x0.length : Int) n ≤ n ∧ mnI (x0.length : Int) n ≤ x0.length := by
  unfold mnI
  split <;> omega
 have h8 : ((x0.take (mnI (x0.length : Int) n).toNat).drop (0 : Int).toNat).length ≤ 20 := by
  rw [List.length_drop, List.length_take]; omega
 obtain ⟨c, h1, h2, h3⟩ := guests_go x0 n _ rfl (fun v hv => hb v (List.mem_of_mem_take (List.mem_of_mem_drop hv))) h8 _ [] [] 100000 rfl (Nat.lt_of_le_of_lt h8 (by decide)) rfl (fun g hg => by simp at hg)
 refine ⟨c, ?_, h2, by omega⟩
 unfold law03_Guests
 rw [if_pos (by unfold cutOk; simp; omega)]
 have e : law03_Guests_l1 x0 n 100000 [] 0 = some c := h1
 rw [e]; rfl
/-- Merge of two valid texts. -/
theorem concat_2 (c d : List Clause) (hc : c.length ≤ 8) (hd : d.length ≤ 8) (h0 : ¬ (c = [] ∧ d = [])) : slices_Concat_api_Clause_api_Clause [c, d] = some (c ++ d) := by
 have hp : 0 < c.length + d.length := by
  rcases c with _ | ⟨x, c⟩
  ·rcases d with _ | ⟨y, d⟩
   ·exact absurd ⟨rfl, rfl⟩ h0
   ·simp
  ·simp; omega
 have w1 : wr .i64 ((0 : Int) + (c.length : Int)) = (c.length : Int) := by rw [Int.zero_add]; exact wr_i (by omega) (by omega)
 have w2 : wr .i64 ((c.length : Int) + (d.length : Int)) = ((c.length + d.length : Nat) : Int) := by rw [wr_i (by omega) (by omega)]; simp
 have e1 : slices_Concat_api_Clause_api_Clause_l1 [c, d] 100000 0 0 = some ((c.length + d.length : Nat) : Int) := by
  unfold slices_Concat_api_Clause_api_Clause_l1
  rw [if_pos (by rfl), show idx [c, d] 0 = some c from rfl, Option.bind_some, w1, if_neg (by simp)]
  unfold slices_Concat_api_Clause_api_Clause_l1
  rw [if_pos (by rfl), show idx [c, d] (wr .i64 (0 + 1)) = some d from rfl, Option.bind_some, w2, if_neg (by simp; omega)]
  unfold slices_Concat_api_Clause_api_Clause_l1
  rw [if_neg (by show ¬ (false = true); decide)]
 have e2 : slices_Concat_api_Clause_api_Clause_l2 [c, d] 100000 ([] : List Clause) 0 = some (c ++ d) := by
  unfold slices_Concat_api_Clause_api_Clause_l2
  rw [if_pos (by rfl), show idx [c, d] 0 = some c from rfl, Option.bind_some, if_pos (capOk_le (by omega) (by simp; omega))]
  unfold slices_Concat_api_Clause_api_Clause_l2
  rw [if_pos (by rfl), show idx [c, d] (wr .i64 (0 + 1)) = some d from rfl, Option.bind_some, if_pos (capOk_le (by omega) (by simp; omega))]
  unfold slices_Concat_api_Clause_api_Clause_l2
  rw [if_neg (by show ¬ (false = true); decide)]; rfl
 unfold slices_Concat_api_Clause_api_Clause
 rw [e1, Option.bind_some, if_pos (by simp; omega), e2]; rfl
theorem clone_s (xs : List (List UInt8)) (h : xs.length ≤ 1000000) : slices_Clone_string_string xs = some xs := by
 unfold slices_Clone_string_string
 rw [if_pos (capOk_le (by omega) (by omega))]
/-- The copies of the names leave the text as it is. -/
theorem names_go (v10 : List Clause) (hf : few v10) : ∀ (r pre : List Clause) (f : Nat), v10 = pre ++ r → r.length < f → court_MergeN_l2 v10 f v10 (pre.length : Int) = some v10
 | [], pre, f + 1, e, _ => by
  unfold court_MergeN_l2
  rw [if_neg (by rw [e]; simp)]
 | v :: r, pre, f + 1, e, hf' => by
  have hl := hf.1
  have hv : few1 v := hf.2 v (by rw [e]; simp)
  have hl2 : v10.length = pre.length + r.length + 1 := by rw [e]; simp; omega
  simp only [List.length_cons] at hf'
  have hi : idx v10 (pre.length : Int) = some v := by rw [e, idx_app]
  unfold court_MergeN_l2
  rw [if_pos (by rw [e]; exact lt_len pre v r), hi, Option.bind_some, clone_s _ (by have := hv.2.1; omega), Option.bind_some, Option.bind_some, Int.toNat_natCast]
  have hset : v10.set pre.length (v.1, v.2.1, v.2.2.1, v.2.2.2.1, v.2.2.2.2) = v10 := by
   rw [e]
   show (pre ++ v :: r).set pre.length v = _
   simp
  rw [hset, wr_snoc pre v r (by rw [← e]; omega)]
  exact names_go v10 hf r (pre ++ [v]) f (by rw [e]; simp) (by omega)
theorem merge_eq (c d : List Clause) (hc : few c) (hd : few d) (lc : c.length ≤ 8) (ld : d.length ≤ 8) (gc : goodR [] c) (gd : goodR [] d) : court_Merge c d = some (c ++ d, 0) := by
 unfold court_Merge
 by_cases h0 : c = [] ∧ d = []
 ·rw [if_pos h0, h0.1, h0.2]; rfl
 rw [if_neg h0]
 have vc : court_Check c = some (0, 0) := by rw [check_c c hc, goodR_T (by omega) gc]
 have vd : court_Check d = some (0, 0) := by rw [check_c d hd, goodR_T (by omega) gd]
 have hcd : few (c ++ d) := ⟨by simp; omega, fun x hx => (List.mem_append.1 hx).elim (hc.2 x) (hd.2 x)⟩
 have e1 : court_MergeN_l1 c d 100000 0 = some (.inl ()) := by
  unfold court_MergeN_l1
  rw [if_pos (by rfl), show idx [c, d] 0 = some c from rfl, Option.bind_some, vc, Option.bind_some, if_neg (by decide)]
  unfold court_MergeN_l1
  rw [if_pos (by rfl), show idx [c, d] (wr .i64 (0 + 1)) = some d from rfl, Option.bind_some, vd, Option.bind_some, if_neg (by decide)]
  unfold court_MergeN_l1
  rw [if_neg (by show ¬ (false = true); decide)]
 have e2 : court_MergeN_l2 (c ++ d) 100000 (c ++ d) 0 = some (c ++ d) := names_go (c ++ d) hcd (c ++ d) [] 100000 rfl (by simp; omega)
 unfold court_MergeN
 rw [e1, Option.bind_some]
 dsimp only
 rw [if_neg (by rw [wr_i (by omega) (by omega)]; simp; omega), concat_2 c d lc ld h0, Option.bind_some, e2]; rfl
/-- The decision of a merged text. -/
theorem rsn_cons (a b : Guest) (i j : Int) (x : Clause) (r : List Clause) (k : Nat) : rsn a b i j (x :: r) k = if dir x a b i j = 0 then rsn a b i j r (k + 1) else .inr ((k : Int), dir x a b i j) := rfl
theorem rsn_app (a b : Guest) (i j : Int) : ∀ (c d : List Clause) (k : Nat), rsn a b i j (c ++ d) k = match rsn a b i j c k with | .inl _ => rsn a b i j d (k + c.length) | .inr w => .inr w
 | [], d, k => rfl
 | x :: c, d, k => by
  rw [List.cons_append, rsn_cons, rsn_cons]
  by_cases h : dir x a b i j = 0
  ·rw [if_pos h, if_pos h, rsn_app a b i j c d (k + 1), List.length_cons, show k + 1 + c.length = k + (c.length + 1) by omega]
  ·rw [if_neg h, if_neg h]
theorem rsn_nz (a b : Guest) (i j : Int) : ∀ (c : List Clause) (k : Nat), (∃ u, rsn a b i j c k = .inl u) ∨ ∃ w, rsn a b i j c k = .inr w ∧ w.2 ≠ 0
 | [], k => .inl ⟨(), rfl⟩
 | x :: c, k => by
  unfold rsn
  by_cases h : dir x a b i j = 0
  ·rw [if_pos h]; exact rsn_nz a b i j c (k + 1)
  ·rw [if_neg h]; exact .inr ⟨_, rfl, h⟩
theorem rsn_k (a b : Guest) (i j : Int) : ∀ (c : List Clause) (k q : Nat), (match rsn a b i j c k with | .inl _ => (0 : Int) | .inr w => w.2) = (match rsn a b i j c q with | .inl _ => (0 : Int) | .inr w => w.2)
 | [], _, _ => rfl
 | x :: c, k, q => by
  unfold rsn
  by_cases h : dir x a b i j = 0
  ·rw [if_pos h, if_pos h]; exact rsn_k a b i j c (k + 1) (q + 1)
  ·rw [if_neg h, if_neg h]
def cmpT (c : List Clause) (a b : Guest) (i j : Int) : Int := (rsnT c a b i j).2
theorem cmpT_eq (c : List Clause) (a b : Guest) (i j : Int) : cmpT c a b i j = match rsn a b i j c 0 with | .inl _ => (0 : Int) | .inr w => w.2 := by
 unfold cmpT rsnT
 cases rsn a b i j c 0 <;> rfl
theorem cmp_app (c d : List Clause) (a b : Guest) (i j : Int) : cmpT (c ++ d) a b i j = if cmpT c a b i j = 0 then cmpT d a b i j else cmpT c a b i j := by
 rw [cmpT_eq, cmpT_eq, cmpT_eq, rsn_app]
 rcases rsn_nz a b i j c 0 with ⟨u, h⟩ | ⟨w, h, hw⟩
 ·rw [h]
  simp only [if_true]
  exact rsn_k a b i j d _ _
 ·rw [h]
  simp only [hw, if_false]
theorem comp_eq (c : List Clause) (a b : Guest) (i j : Int) (h : few c) (hl : c.length ≤ 32) (hg : goodR [] c) (ha : fewG a) (hb : fewG b) : court_Compare c a b i j = some (cmpT c a b i j) := by
 rw [compare_c c a b i j h ha hb, goodR_T hl hg, if_pos rfl]; rfl
theorem refines_law (l m : List (Int × Int × Int × Bool × Bool)) (p : List (Int × Int)) (hl : ∀ v ∈ l, codeOk v) (hm : ∀ v ∈ m, codeOk v) (hp : ∀ v ∈ p, u8 v.1 ∧ u8 v.2) : law03_CourtRefines l m p = some true := by
 obtain ⟨c, c1, c2, c3, c4⟩ := made_eq l hl
 obtain ⟨d, d1, d2, d3, d4⟩ := made_eq m hm
 obtain ⟨g, g1, g2, g3⟩ := guests_eq p 16 (by decide) (by decide) hp
 have hcd : few (c ++ d) := ⟨by simp; omega, fun x hx => (List.mem_append.1 hx).elim (c2.2 x) (d2.2 x)⟩
 have gcd : goodR [] (c ++ d) := (goodR_app c [] d).2 ⟨c3, by have := goodR_mono c d [] d3; simpa using this⟩
 have hlen : (c ++ d).length ≤ 32 := by simp; omega
 have inner : ∀ (x : Guest) (i : Nat), idx g (i : Int) = some x → fewG x → ∀ (r pre : List Guest) (f : Nat), g = pre ++ r → r.length < f → law03_CourtRefines_l2 c d g (c ++ d, 0) (i : Int) f (pre.length : Int) = some (.inl ()) := by
  intro x i hx fx r
  induction r with
  | nil =>
   intro pre f e hf
   obtain ⟨f, rfl⟩ : ∃ q, f = q + 1 := ⟨f - 1, by simp at hf; omega⟩
   unfold law03_CourtRefines_l2
   rw [if_neg (by rw [e]; simp)]
  | cons y r ih =>
   intro pre f e hf
   obtain ⟨f, rfl⟩ : ∃ q, f = q + 1 := ⟨f - 1, by simp at hf; omega⟩
   simp only [List.length_cons] at hf
   have fy : fewG y := g2 y (by rw [e]; simp)
   have hy : idx g (pre.length : Int) = some y := by rw [e, idx_app]
   have hl2 : g.length = pre.length + r.length + 1 := by rw [e]; simp; omega
   have hw : law03_CourtRefines_j3 c d g (c ++ d, 0) (i : Int) (pre.length : Int) (cmpT c x y i pre.length) = some (cmpT (c ++ d) x y i pre.length) := by
    unfold law03_CourtRefines_j3
    rw [cmp_app]
    by_cases h0 : cmpT c x y i pre.length = 0
    ·rw [if_pos (by rw [h0]; rfl), if_pos h0, hx, Option.bind_some, hy, Option.bind_some, comp_eq d x y _ _ d2 (by omega) d3 fx fy]; rfl
    ·rw [if_neg (by simpa using h0), if_neg h0]
   unfold law03_CourtRefines_l2
   rw [if_pos (by rw [e]; exact lt_len pre y r), hx, Option.bind_some, hy, Option.bind_some, comp_eq c x y _ _ c2 (by omega) c3 fx fy, Option.bind_some, hw, Option.bind_some, Option.bind_some, Option.bind_some, comp_eq (c ++ d) x y _ _ hcd hlen gcd fx fy, Option.bind_some, if_neg (by simp), wr_snoc pre y r (by rw [← e]; omega)]
   exact ih (pre ++ [y]) f (by rw [e]; simp) (by omega)
 have outer : ∀ (r pre : List Guest) (f : Nat), g = pre ++ r → r.length < f → law03_CourtRefines_l1 c d g (c ++ d, 0) f (pre.length : Int) = some (.inl ()) := by
  intro r
  induction r with
  | nil =>
   intro pre f e hf
   obtain ⟨f, rfl⟩ : ∃ q, f = q + 1 := ⟨f - 1, by simp at hf; omega⟩
   unfold law03_CourtRefines_l1
   rw [if_neg (by rw [e]; simp)]
  | cons y r ih =>
   intro pre f e hf
   obtain ⟨f, rfl⟩ : ∃ q, f = q + 1 := ⟨f - 1, by simp at hf; omega⟩
   simp only [List.length_cons] at hf
   have fy : fewG y := g2 y (by rw [e]; simp)
   have hy : idx g (pre.length : Int) = some y := by rw [e, idx_app]
   have hl2 : g.length = pre.length + r.length + 1 := by rw [e]; simp; omega
   have hin : law03_CourtRefines_l2 c d g (c ++ d, 0) (pre.length : Int) 100000 0 = some (.inl ()) := inner y pre.length hy fy g [] 100000 rfl (by omega)
   unfold law03_CourtRefines_l1
   rw [if_pos (by rw [e]; exact lt_len pre y r), hin, Option.bind_some, wr_snoc pre y r (by rw [← e]; omega)]
   exact ih (pre ++ [y]) f (by rw [e]; simp) (by omega)
 have hout : law03_CourtRefines_l1 c d g (c ++ d, 0) 100000 0 = some (.inl ()) := outer g [] 100000 rfl (by omega)
 unfold law03_CourtRefines
 rw [c1, Option.bind_some, d1, Option.bind_some, g1, Option.bind_some, merge_eq c d c2 d2 c4 d4 c3 d3, Option.bind_some]
 have hlw : wr .i64 ((c.length : Int) + (d.length : Int)) = (((c ++ d).length : Nat) : Int) := by rw [wr_i (by omega) (by omega)]; simp
 rw [if_neg (by show ¬ (false = true); decide), hlw]
 simp only [bne_self_eq_false, Option.bind_some, Bool.false_eq_true, if_false]
 rw [hout]
 rfl
end Go.Proofs.YtiphapnckldpbaaGreatDoor
namespace Go.Proofs.YtiphapnckldpbaaGreatDoor.courtRefines
open Go.ChangeShapes Go.WideShapes Go.ChangeAt Go.RowKit
theorem law_ret (a0 : (List (Int × Int × Int × Bool × Bool))) (a1 : (List (Int × Int × Int × Bool × Bool))) (a2 : (List (Int × Int))) (h : law03_CourtRefines a0 a1 a2 = some true) {w : World} {v0 v1 v2 : Value} (h0 : VR w (fun c => c < w.heap.size) [] ((cdL 5 (cdA (csC (cdK .u8) (csC (cdK .u8) (csC (cdK .u8) (csC cdB (csE cdB))))) (fun _ => rfl))).enc a0) v0) (h1 : VR w (fun c => c < w.heap.size) [] ((cdL 5 (cdA (csC (cdK .u8) (csC (cdK .u8) (csC (cdK .u8) (csC cdB (csE cdB))))) (fun _ => rfl))).enc a1) v1) (h2 : VR w (fun c => c < w.heap.size) [] ((cdL 2 (cdG2 (cdK .u8) (cdK .u8) (fun _ => rfl) (fun _ => rfl))).enc a2) v2) : Ret Tryz.prog 14 #[v0, v1, v2] w fun v w' => v = .bool true ∧ w.grownBy w' none :=
 Ret.mono (x_law03_CourtRefines.2 (cs_law03_CourtRefines.enc (a0, a1, a2, ())) (er_law03_CourtRefines true) (told_enc (s := cs_law03_CourtRefines) (a := (a0, a1, a2, ())) h) w (fun c => c < w.heap.size) [v0, v1, v2] (fun c hc => hc) (fun g x h => by cases h) (.cons h0 (.cons h1 (.cons h2 .nil)))) fun v w' h => ⟨h.2.v_inv, h.1⟩
set_option maxRecDepth 100000 in
theorem contract (H : Type) (enc : TypeId × Value → H) (W : World) (base : Nat) (args : Array Value) (ds gs : List (DataW H)) (before : List MemPlace)
  (hval : ∀ (j : Nat) t v, Tryz.f14.params[j]? = some t → args[j]? = some v → Value.okWide Tryz.prog W .any base t v)
  (hW : DataW.Whole enc Tryz.prog Tryz.f14.params.toList Rows.courtRefinesSpec.vars false W args.toList ds gs before)
  (hsz : (DataW.weightsEach Tryz.prog (Tryz.f14.params.toList ++ (OpenSpec.ofChange Rows.courtRefinesSpec).bare.plain.varTypes Tryz.prog) (ds ++ gs)).all (· ≤ reachBytes) = true) :
  Calls Tryz.prog 14 args W fun e W' => ∃ v, e = .returned v ∧ Rows.courtRefinesSpec.post enc Tryz.prog Tryz.f14 false true false false W args v W' := by
 have hW' := hW
 obtain ⟨p, q, hA0, hV, rfl, hfz, hnd⟩ := hW
 have hA : DataW.TrodAll enc Tryz.prog W 0 (fun _ => true) true Tryz.f14.params.toList args.toList ds p := hA0
 have hpar : Tryz.f14.params = #[33, 33, 52] := by kernel_rfl
 rw [hpar] at hA hval
 obtain ⟨v0, vs0, d0, ds0, p0, q0, hargs, rfl, rfl, h0, r0⟩ := trodAll_cons hA
 obtain ⟨v1, vs1, d1, ds1, p1, q1, rfl, rfl, rfl, h1, r1⟩ := trodAll_cons r0
 obtain ⟨v2, vs2, d2, ds2, p2, q2, rfl, rfl, rfl, h2, r2⟩ := trodAll_cons r1
 obtain ⟨rfl, rfl, rfl⟩ := trodAll_nil r2
 obtain rfl : args = #[v0, v1, v2] := by apply Array.ext'; simpa using hargs
 obtain ⟨a0, k0, g0⟩ := rc_arg (rc_slice (by kernel_rfl : Tryz.prog.underlying 33 = some (.slice 99)) (by kernel_rfl) (by kernel_rfl) (by kernel_rfl) (by kernel_rfl) (rc_struct (hn := fun _ => rfl) (fs := #[(Field.mk "Kind" 5 0 false "" "" 0), (Field.mk "N" 5 1 false "" "" 1), (Field.mk "Names" 5 2 false "" "" 2), (Field.mk "Last" 4 3 false "" "" 3), (Field.mk "Among" 4 4 false "" "" 4)]) (by kernel_rfl) (by kernel_rfl) (fun _ => rfl) (fun _ => rfl) (rf_cons (rc_int (by kernel_rfl : Tryz.prog.underlying 5 = some (.int .u8)) (by kernel_rfl)) rfl (by kernel_rfl) (fun _ => rfl) (rf_cons (rc_int (by kernel_rfl : Tryz.prog.underlying 5 = some (.int .u8)) (by kernel_rfl)) rfl (by kernel_rfl) (fun _ => rfl) (rf_cons (rc_int (by kernel_rfl : Tryz.prog.underlying 5 = some (.int .u8)) (by kernel_rfl)) rfl (by kernel_rfl) (fun _ => rfl) (rf_cons (rc_bool (by kernel_rfl : Tryz.prog.underlying 4 = some .bool) (by kernel_rfl)) rfl (by kernel_rfl) (fun _ => rfl) (rf_end (rc_bool (by kernel_rfl : Tryz.prog.underlying 4 = some .bool) (by kernel_rfl)) rfl (by kernel_rfl) (fun _ => rfl)))))))) (one_slice (by kernel_rfl : Tryz.prog.underlying 33 = some (.slice 99)) (hval 0 33 v0 rfl rfl)) (fun _ => rfl) h0 hsz (j := 0) (by kernel_rfl) rfl
 obtain ⟨a1, k1, g1⟩ := rc_arg (rc_slice (by kernel_rfl : Tryz.prog.underlying 33 = some (.slice 99)) (by kernel_rfl) (by kernel_rfl) (by kernel_rfl) (by kernel_rfl) (rc_struct (hn := fun _ => rfl) (fs := #[(Field.mk "Kind" 5 0 false "" "" 0), (Field.mk "N" 5 1 false "" "" 1), (Field.mk "Names" 5 2 false "" "" 2), (Field.mk "Last" 4 3 false "" "" 3), (Field.mk "Among" 4 4 false "" "" 4)]) (by kernel_rfl) (by kernel_rfl) (fun _ => rfl) (fun _ => rfl) (rf_cons (rc_int (by kernel_rfl : Tryz.prog.underlying 5 = some (.int .u8)) (by kernel_rfl)) rfl (by kernel_rfl) (fun _ => rfl) (rf_cons (rc_int (by kernel_rfl : Tryz.prog.underlying 5 = some (.int .u8)) (by kernel_rfl)) rfl (by kernel_rfl) (fun _ => rfl) (rf_cons (rc_int (by kernel_rfl : Tryz.prog.underlying 5 = some (.int .u8)) (by kernel_rfl)) rfl (by kernel_rfl) (fun _ => rfl) (rf_cons (rc_bool (by kernel_rfl : Tryz.prog.underlying 4 = some .bool) (by kernel_rfl)) rfl (by kernel_rfl) (fun _ => rfl) (rf_end (rc_bool (by kernel_rfl : Tryz.prog.underlying 4 = some .bool) (by kernel_rfl)) rfl (by kernel_rfl) (fun _ => rfl)))))))) (one_slice (by kernel_rfl : Tryz.prog.underlying 33 = some (.slice 99)) (hval 1 33 v1 rfl rfl)) (fun _ => rfl) h1 hsz (j := 1) (by kernel_rfl) rfl
 obtain ⟨a2, k2, g2⟩ := rc_arg (rc_slice (by kernel_rfl : Tryz.prog.underlying 52 = some (.slice 47)) (by kernel_rfl) (by kernel_rfl) (by kernel_rfl) (by kernel_rfl) (rc_struct (hn := fun _ => rfl) (fs := #[(Field.mk "A" 5 0 false "" "" 0), (Field.mk "B" 5 1 false "" "" 1)]) (by kernel_rfl) (by kernel_rfl) (fun _ => rfl) (fun _ => rfl) (rf_cons (rc_int (by kernel_rfl : Tryz.prog.underlying 5 = some (.int .u8)) (by kernel_rfl)) rfl (by kernel_rfl) (fun _ => rfl) (rf_end (rc_int (by kernel_rfl : Tryz.prog.underlying 5 = some (.int .u8)) (by kernel_rfl)) rfl (by kernel_rfl) (fun _ => rfl))))) (one_slice (by kernel_rfl : Tryz.prog.underlying 52 = some (.slice 47)) (hval 2 52 v2 rfl rfl)) (fun _ => rfl) h2 hsz (j := 2) (by kernel_rfl) rfl
 have hc := law_ret a0 a1 a2 (refines_law a0 a1 a2 (fun v hv => ⟨bounds_u8 (g0.2 v hv).1, bounds_u8 (g0.2 v hv).2.1, bounds_u8 (g0.2 v hv).2.2.1⟩) (fun v hv => ⟨bounds_u8 (g1.2 v hv).1, bounds_u8 (g1.2 v hv).2.1, bounds_u8 (g1.2 v hv).2.2.1⟩) (fun v hv => ⟨bounds_u8 (g2.2 v hv).1, bounds_u8 (g2.2 v hv).2⟩)) k0 k1 k2
 unfold Ret at hc
 refine hc.mono fun e W' he => ?_
 cases e with
 | returned v =>
  obtain ⟨rfl, hg⟩ := he
  exact ⟨_, rfl, post_true laidOut (fun t ht => ⟨mem_of_laid (fun t => Tryz.prog.readableRec t) (by kernel_rfl) ht, of_decide_eq_true (mem_of_laid (fun t => decide (t < Tryz.prog.types.size)) (by kernel_rfl) ht)⟩) hW' rfl (by kernel_rfl) (by kernel_rfl : Tryz.prog.underlying 4 = some .bool) rfl hg⟩
 | panicked c => exact he.elim
 | outgrown => exact he.elim
theorem laid_met (os : Os) : laidMet Tryz.prog Rows.courtRefinesRow.laid ((laidWorld os).forCall (fun _ _ => 0) ⟨#[], #[Value.slice none 0 0, Value.slice none 0 0, Value.slice none 0 0], []⟩).memory :=
 laidMet_of_run' 8 (by kernel_rfl) (by kernel_rfl)
theorem reads (os : Os) {H : Type} (enc : TypeId × Value → H) : ∃ places, DataW.whole enc Tryz.prog ((laidWorld os).forCall (fun _ _ => 0) ⟨#[], #[Value.slice none 0 0, Value.slice none 0 0, Value.slice none 0 0], []⟩).memory Tryz.f14.params.toList Rows.courtRefinesSpec.vars false #[Value.slice none 0 0, Value.slice none 0 0, Value.slice none 0 0].toList 8 = some ([.nil, .nil, .nil], [], places) :=
 ⟨[], by kernel_rfl⟩
set_option maxRecDepth 100000 in
theorem lifted (os : Os) (started : os.Started) (H : Type) (enc : TypeId × Value → H) (F : Stop.Interp) :
  ReturnsInHanded {} Tryz.checked os 14 .any ((OpenSpec.ofChange Rows.courtRefinesSpec).preRow enc Tryz.prog Tryz.f14 Rows.courtRefinesRow.domain false Rows.courtRefinesRow.laid) (((OpenSpec.ofChange Rows.courtRefinesSpec).at F).post enc Tryz.prog Tryz.f14 false true false false) := by
 obtain ⟨places, hx⟩ := reads os enc
 refine returnsInHanded_of_row (C := Tryz.checked) (s := OpenSpec.ofChange Rows.courtRefinesSpec) ownKnob0 started (by kernel_rfl) Tryz.func14
  (witness_row_at (enc := enc) (C := Tryz.checked) false (laidWorld os) #[Value.slice none 0 0, Value.slice none 0 0, Value.slice none 0 0] rfl (by kernel_rfl) (by kernel_rfl) (by kernel_rfl)
   (OpenSpec.preRow_of_cond 8 hx (by kernel_rfl) (fun k hk => by cases hk) (by kernel_rfl) (laid_met os))) ?_
 intro W base args ds gs before hval hW _ _ hsz _ _ _
 exact contract H enc W base args ds gs before hval hW hsz
theorem said : Rows.CourtRefinesSaid :=
 OpenClaim.holds_of_cond 14 Tryz.f14 rfl rfl rfl rfl rfl rfl rfl ⟨rfl, rfl, rfl, rfl, rfl⟩ rfl rfl rfl rfl rfl (by kernel_rfl) Tryz.func14 (by kernel_rfl)
  (of_decide_eq_true (by kernel_rfl)) (by unfold Func.isWrapper; first | (rw [if_pos (by decide +kernel)]; kernel_rfl) | (rw [if_neg (by decide +kernel)]; exact ⟨rfl, rfl⟩))
  (fun os started H enc _ F => by rw [OpenClaim.pre_eq_preRow]; exact lifted os started H enc F)
theorem plain (f : FuncId) (fn : Func) (hf : Tryz.pinned.checked.prog.funcNamed "trestle/trestlelaw03.CourtRefines" = some f) (hfn : Tryz.pinned.checked.prog.funcs[f]? = some fn) :
  true = Tryz.pinned.checked.prog.looks [] ∧ ∀ (j : Nat) t, fn.params[j]? = some t → Tryz.pinned.checked.prog.wantsStandIn t = false := by
 obtain rfl : f = 14 := Option.some.inj ((show Tryz.prog.funcNamed "trestle/trestlelaw03.CourtRefines" = some 14 by kernel_rfl).symm.trans hf) |>.symm
 obtain rfl : fn = Tryz.f14 := (Option.some.inj (Tryz.func14.symm.trans hfn)).symm
 refine ⟨by kernel_rfl, fun j t ht => ?_⟩
 have hm : t ∈ Tryz.f14.params.toList := by simpa using Array.mem_of_getElem? ht
 exact (show Tryz.prog.wantsStandIn t = false from Bool.not_eq_true' _ |>.mp (mem_of_laid (fun t => !Tryz.prog.wantsStandIn t) (by kernel_rfl) hm))
theorem card : Rows.CourtRefinesCardSaid :=
 Claim7.holds_tied_plain_at .later [] _ _ _ _ said (fun _ h => by cases h) (by kernel_rfl) (fun _ h => by cases h) courtRefines_row_tie rfl ⟨rfl, rfl⟩ (by kernel_rfl) rfl plain (by kernel_rfl)
end Go.Proofs.YtiphapnckldpbaaGreatDoor.courtRefines
