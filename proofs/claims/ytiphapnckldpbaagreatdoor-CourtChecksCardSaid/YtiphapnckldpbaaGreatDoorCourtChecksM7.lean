/- trestlelaw03.CourtChecks returns true for every input, and its arguments read behind the call as before; conditions: those that the given row names. -/
import Derived.Test.YtiphapnckldpbaaGreatDoorCourtChecksM1
import Derived.Test.YtiphapnckldpbaaGreatDoorCourtChecksM2
import Derived.Test.YtiphapnckldpbaaGreatDoorCourtChecksM3
import Derived.Test.YtiphapnckldpbaaGreatDoorCourtChecksM4
import Derived.Test.YtiphapnckldpbaaGreatDoorCourtChecksM5
import Derived.Test.YtiphapnckldpbaaGreatDoorCourtChecksM6
namespace Go.Proofs.YtiphapnckldpbaaGreatDoor
open Go.RowKit
/- trestle/trestleref03.CheckOne -/
noncomputable def cb_ref03_CheckOne : Code := codeOf Tryz.f101
def ref03_CheckOne_l1 (x0 : (List Clause)) (x1 : Int) : Nat → Int → Option ((Unit) ⊕ (Int))
 | 0, _ => none
 | f + 1, c10 =>
  (idx x0 x1).bind fun v11 =>
  if (decide (c10 < (v11.2.2.2.1.length : Int))) = true then
  (idx x0 x1).bind fun v13 =>
  (idx v13.2.2.2.1 c10).bind fun v14 =>
  (kit_Name v14).bind fun v15 =>
  if (!v15) = true then
  some (.inr 4)
  else
  ref03_CheckOne_l1 x0 x1 f (wr .i64 (c10 + 1))
  else
  some (.inl ())
def ref03_CheckOne_l2 (x0 : (List Clause)) (x1 : Int) : Nat → Int → Option ((Unit) ⊕ (Int))
 | 0, _ => none
 | f + 1, c20 =>
  (idx x0 x1).bind fun v21 =>
  if (decide (c20 < (v21.2.2.2.1.length : Int))) = true then
  (idx x0 x1).bind fun v23 =>
  if (cutOk 0 c20 v23.2.2.2.1.length) = true then
  (idx x0 x1).bind fun v25 =>
  (idx v25.2.2.2.1 c20).bind fun v26 =>
  (ref03_has ((v23.2.2.2.1.take c20.toNat).drop (0 : Int).toNat) v26).bind fun v27 =>
  if v27 = true then
  some (.inr 5)
  else
  ref03_CheckOne_l2 x0 x1 f (wr .i64 (c20 + 1))
  else none
  else
  some (.inl ())
def ref03_CheckOne_l3 (x0 : (List Clause)) (x1 : Int) : Nat → Int → Option ((Unit) ⊕ (Int))
 | 0, _ => none
 | f + 1, c34 =>
  if (decide (c34 < x1)) = true then
  (idx x0 c34).bind fun v36 =>
  (if (v36.1 == 1) = true then (idx x0 c34).bind fun v37 =>
  (idx x0 x1).bind fun v38 =>
  (ref03_has v37.2.2.2.1 v38.2.1).bind fun v39 =>
  some v39 else some false).bind fun j41 =>
  if j41 = true then
  some (.inr 0)
  else
  ref03_CheckOne_l3 x0 x1 f (wr .i64 (c34 + 1))
  else
  some (.inl ())
def ref03_CheckOne (x0 : (List Clause)) (x1 : Int) : Option (Int) :=
 (idx x0 x1).bind fun v1 =>
 (ref03_formed v1).bind fun v2 =>
 if (!v2) = true then
 some 30
 else
 (idx x0 x1).bind fun v4 =>
 (if (!(v4.2.1 == [])) = true then (idx x0 x1).bind fun v5 =>
 (kit_Name v5.2.1).bind fun v6 =>
 some (!v6) else some false).bind fun j8 =>
 if j8 = true then
 some 4
 else
 (ref03_CheckOne_l1 x0 x1 100000 0).bind fun r18 =>
 match r18 with
 | (.inl w19) =>
  (ref03_CheckOne_l2 x0 x1 100000 0).bind fun r30 =>
  match r30 with
  | (.inl w31) =>
   (idx x0 x1).bind fun v32 =>
   if (v32.2.1 == []) = true then
   some 0
   else
   (ref03_CheckOne_l3 x0 x1 100000 0).bind fun r45 =>
   match r45 with
   | (.inl w46) =>
    some 31
   | (.inr w47) =>
    some w47
  | (.inr w48) =>
   some w48
 | (.inr w49) =>
  some w49
def cs_ref03_CheckOne : Cs ((List Clause) × Int × Unit) := (csC (cdL 5 cdClause) (csC cdI csN))
def er_ref03_CheckOne (r : Int) : AV := cdI.enc r
set_option maxHeartbeats 4000000 in
set_option maxRecDepth 100000 in
theorem ref03_CheckOne_l1_ok (x0 : (List Clause)) (x1 : Int) : ∀ (f : Nat) (c10 : Int) (r : (Unit) ⊕ (Int)), ref03_CheckOne_l1 x0 x1 f c10 = some r → SemN E0 ⟨none, false⟩ (pc cb_ref03_CheckOne [1, 1, 1, 0, 1, 0, 0]) f ⟨Fr 105 [(0, .sl 5 (x0.map cdClause.enc)), (1, .v (.int .i64 x1)), (5, .v (.int .i64 c10))], []⟩ (fun e s => match r with
 | (.inl w) => e = (.exit 0) ∧ Wk E0 s ⟨Fr 105 [(0, .sl 5 (x0.map cdClause.enc)), (1, .v (.int .i64 x1))], []⟩
 | (.inr w) => e = .ret ∧ Wk E0 s ⟨Fr 105 [(4, .v (.int .i64 w))], []⟩) := by
 intro f
 induction f with
 | zero => intro c10 r h; cases h
 | succ f ih0 =>
  intro c10 r h
  have ih := fun (c10 : Int) => ih0 c10 r
  unfold ref03_CheckOne_l1 at h
  refine SemN.succ ?_
  refine Sem.seq ?_
  refine Sem.seq ?_
  obtain ⟨v11, hv11, h⟩ := Option.bind_eq_some_iff.1 h
  let p1 : Nat × AV := (5, .v (.int .i64 c10))
  let p2 : Nat × AV := (1, .v (.int .i64 x1))
  let p3 : Nat × AV := (0, .sl 5 (x0.map cdClause.enc))
  refine Sem.runS (s1 := ⟨Fr 105 [p3, p2, p1, (36, .v (.bool (decide (c10 < (v11.2.2.2.1.length : Int)))))], []⟩) ?_ ?_
  ·refine RunS.segF (n := 105) E0_ok 3 [p3, p2, p1, (29, .v (.int .i64 c10)), (30, .sl 5 (x0.map cdClause.enc)), (31, .v (.int .i64 x1))] [] kr ?_
   refine RunS.one E0_ok 0 rfl (op_q (wantedA_none rfl) rfl (q_indexAddr (a := .sl 5 (x0.map cdClause.enc)) (b := .v (.int .i64 x1)) kr kr (ix_sl (e := cdClause.enc) (el := 70) (k := 5) (ki := .i64) kr kr hv11))) ?_
   refine RunS.segF (n := 105) E0_ok 2 [p3, p2, p1, (29, .v (.int .i64 c10)), (34, .sl 1 (v11.2.2.2.1.map cdS.enc))] [] kr ?_
   refine RunS.one E0_ok 0 rfl (op_q (wantedA_none rfl) rfl (q_len (a := .sl 1 (v11.2.2.2.1.map cdS.enc)) kr (len_sl (el := 9) kr))) ?_
   exact RunS.last E0_ok
  refine Sem.cond (b := (decide (c10 < (v11.2.2.2.1.length : Int)))) kr (fun hb12 => ?_) (fun hb12 => ?_)
  ·rw [if_pos hb12] at h
   refine Sem.skip ?_
   refine Sem.seq ?_
   refine Sem.block ?_
   refine Sem.seq ?_
   obtain ⟨v13, hv13, h⟩ := Option.bind_eq_some_iff.1 h
   obtain ⟨v14, hv14, h⟩ := Option.bind_eq_some_iff.1 h
   obtain ⟨v15, hv15, h⟩ := Option.bind_eq_some_iff.1 h
   refine Sem.runS (s1 := ⟨Fr 105 [p3, p2, p1, (48, .v (.bool (!v15)))], []⟩) ?_ ?_
   ·refine RunS.segF (n := 105) E0_ok 2 [p3, p2, p1, (39, .sl 5 (x0.map cdClause.enc)), (40, .v (.int .i64 x1))] [] kr ?_
    refine RunS.one E0_ok 0 rfl (op_q (wantedA_none rfl) rfl (q_indexAddr (a := .sl 5 (x0.map cdClause.enc)) (b := .v (.int .i64 x1)) kr kr (ix_sl (e := cdClause.enc) (el := 70) (k := 5) (ki := .i64) kr kr hv13))) ?_
    refine RunS.segF (n := 105) E0_ok 3 [p3, p2, p1, (43, .sl 1 (v13.2.2.2.1.map cdS.enc)), (44, .v (.int .i64 c10))] [] kr ?_
    refine RunS.one E0_ok 0 rfl (op_q (wantedA_none rfl) rfl (q_indexAddr (a := .sl 1 (v13.2.2.2.1.map cdS.enc)) (b := .v (.int .i64 c10)) kr kr (ix_sl (e := cdS.enc) (el := 9) (k := 1) (ki := .i64) kr kr hv14))) ?_
    refine RunS.segF (n := 105) E0_ok 1 [p3, p2, p1, (46, .st v14)] [] kr ?_
    refine RunS.callV (caps := []) (xs := [.st v14]) (u := (v14, ())) rfl rfl x_kit_Name rfl (wantedA_none rfl) kr kr (Sl.cons (Sm.enc (c := cdS) (v := v14)) Sl.nil) (.inl kr) hv15 ?_
    exact RunS.last E0_ok
   refine Sem.cond (b := (!v15)) kr (fun hb16 => ?_) (fun hb16 => ?_)
   ·rw [if_pos hb16] at h
    refine Sem.sq E0_ok [(4, .v (.int .i64 4))] [] ?_
    refine Sem.ret ?_
    have hq := Option.some.inj h; subst hq
    exact ⟨rfl, (Wk.fr kr)⟩
   ·rw [if_f hb16] at h
    refine Sem.skip ?_
    let p4 : Nat × AV := (5, .v (.int .i64 (wr .i64 (c10 + 1))))
    refine Sem.rg E0_ok [p3, p2, p4] [] ?_
    exact SemN.wk (s1 := ⟨Fr 105 [p3, p2, p4], []⟩) (Wk.fr kr) (ih (wr .i64 (c10 + 1)) h)
  ·rw [if_f hb12] at h
   refine Sem.exit ?_
   have hq := Option.some.inj h; subst hq
   exact ⟨rfl, (Wk.fr kr)⟩
set_option maxHeartbeats 4000000 in
set_option maxRecDepth 100000 in
theorem ref03_CheckOne_l2_ok (x0 : (List Clause)) (x1 : Int) : ∀ (f : Nat) (c20 : Int) (r : (Unit) ⊕ (Int)), ref03_CheckOne_l2 x0 x1 f c20 = some r → SemN E0 ⟨none, false⟩ (pc cb_ref03_CheckOne [1, 1, 1, 1, 0, 1, 0, 0]) f ⟨Fr 105 [(0, .sl 5 (x0.map cdClause.enc)), (1, .v (.int .i64 x1)), (6, .v (.int .i64 c20))], []⟩ (fun e s => match r with
 | (.inl w) => e = (.exit 2) ∧ Wk E0 s ⟨Fr 105 [(0, .sl 5 (x0.map cdClause.enc)), (1, .v (.int .i64 x1))], []⟩
 | (.inr w) => e = .ret ∧ Wk E0 s ⟨Fr 105 [(4, .v (.int .i64 w))], []⟩) := by
 intro f
 induction f with
 | zero => intro c20 r h; cases h
 | succ f ih0 =>
  intro c20 r h
  have ih := fun (c20 : Int) => ih0 c20 r
  unfold ref03_CheckOne_l2 at h
  refine SemN.succ ?_
  refine Sem.seq ?_
  refine Sem.seq ?_
  obtain ⟨v21, hv21, h⟩ := Option.bind_eq_some_iff.1 h
  let p1 : Nat × AV := (6, .v (.int .i64 c20))
  let p2 : Nat × AV := (1, .v (.int .i64 x1))
  let p3 : Nat × AV := (0, .sl 5 (x0.map cdClause.enc))
  refine Sem.runS (s1 := ⟨Fr 105 [p3, p2, p1, (56, .v (.bool (decide (c20 < (v21.2.2.2.1.length : Int)))))], []⟩) ?_ ?_
  ·refine RunS.segF (n := 105) E0_ok 3 [p3, p2, p1, (49, .v (.int .i64 c20)), (50, .sl 5 (x0.map cdClause.enc)), (51, .v (.int .i64 x1))] [] kr ?_
   refine RunS.one E0_ok 0 rfl (op_q (wantedA_none rfl) rfl (q_indexAddr (a := .sl 5 (x0.map cdClause.enc)) (b := .v (.int .i64 x1)) kr kr (ix_sl (e := cdClause.enc) (el := 70) (k := 5) (ki := .i64) kr kr hv21))) ?_
   refine RunS.segF (n := 105) E0_ok 2 [p3, p2, p1, (49, .v (.int .i64 c20)), (54, .sl 1 (v21.2.2.2.1.map cdS.enc))] [] kr ?_
   refine RunS.one E0_ok 0 rfl (op_q (wantedA_none rfl) rfl (q_len (a := .sl 1 (v21.2.2.2.1.map cdS.enc)) kr (len_sl (el := 9) kr))) ?_
   exact RunS.last E0_ok
  refine Sem.cond (b := (decide (c20 < (v21.2.2.2.1.length : Int)))) kr (fun hb22 => ?_) (fun hb22 => ?_)
  ·rw [if_pos hb22] at h
   refine Sem.skip ?_
   refine Sem.seq ?_
   refine Sem.block ?_
   refine Sem.seq ?_
   obtain ⟨v23, hv23, h⟩ := Option.bind_eq_some_iff.1 h
   by_cases hk24 : (cutOk 0 c20 v23.2.2.2.1.length) = true
   case neg => rw [if_neg hk24] at h; cases h
   rw [if_pos hk24] at h
   obtain ⟨v25, hv25, h⟩ := Option.bind_eq_some_iff.1 h
   obtain ⟨v26, hv26, h⟩ := Option.bind_eq_some_iff.1 h
   obtain ⟨v27, hv27, h⟩ := Option.bind_eq_some_iff.1 h
   refine Sem.runDS E0_ok (s1 := ⟨Fr 105 [p3, p2, p1, (74, .v (.bool v27))], []⟩) kr ?_ ?_
   ·refine RunDS.segF (n := 105) E0_ok 2 [p3, p2, p1, (59, .sl 5 (x0.map cdClause.enc)), (60, .v (.int .i64 x1))] [] kr kr ?_
    refine RunDS.one E0_ok rfl kr (opd_q kr (wantedA_none rfl) rfl (q_indexAddr (a := .sl 5 (x0.map cdClause.enc)) (b := .v (.int .i64 x1)) kr kr (ix_sl (e := cdClause.enc) (el := 70) (k := 5) (ki := .i64) kr kr hv23)) kr) ?_
    refine RunDS.segF (n := 105) E0_ok 3 [p3, p2, p1, (63, .sl 1 (v23.2.2.2.1.map cdS.enc)), (64, .v (.int .i64 c20))] [] kr kr ?_
    refine RunDS.one E0_ok rfl kr (opd_q kr (wantedA_none rfl) rfl (q_slice (a := .sl 1 (v23.2.2.2.1.map cdS.enc)) (l := none) (u := (some (.v (.int .i64 c20)))) (m := none) kr kr kr rfl (slice_sl (xs := v23.2.2.2.1) (e := cdS.enc) (k := 1) (el := 9) (lo := 0) (hi := c20) kr kr rfl (natB_i (cut_hi hk24)) hk24)) kr) ?_
    let p4 : Nat × AV := (65, .sl 1 (((v23.2.2.2.1.take c20.toNat).drop (0 : Int).toNat).map cdS.enc))
    refine RunDS.segF (n := 105) E0_ok 2 [p3, p2, p1, p4, (66, .sl 5 (x0.map cdClause.enc)), (67, .v (.int .i64 x1))] [] kr kr ?_
    refine RunDS.one E0_ok rfl kr (opd_q kr (wantedA_none rfl) rfl (q_indexAddr (a := .sl 5 (x0.map cdClause.enc)) (b := .v (.int .i64 x1)) kr kr (ix_sl (e := cdClause.enc) (el := 70) (k := 5) (ki := .i64) kr kr hv25)) kr) ?_
    refine RunDS.segF (n := 105) E0_ok 3 [p3, p2, p1, p4, (70, .sl 1 (v25.2.2.2.1.map cdS.enc)), (71, .v (.int .i64 c20))] [] kr kr ?_
    refine RunDS.one E0_ok rfl kr (opd_q kr (wantedA_none rfl) rfl (q_indexAddr (a := .sl 1 (v25.2.2.2.1.map cdS.enc)) (b := .v (.int .i64 c20)) kr kr (ix_sl (e := cdS.enc) (el := 9) (k := 1) (ki := .i64) kr kr hv26)) kr) ?_
    refine RunDS.segF (n := 105) E0_ok 1 [p3, p2, p1, p4, (73, .st v26)] [] kr kr ?_
    refine RunDS.callV (caps := []) (xs := [.sl 1 (((v23.2.2.2.1.take c20.toNat).drop (0 : Int).toNat).map cdS.enc), .st v26]) (u := (((v23.2.2.2.1.take c20.toNat).drop (0 : Int).toNat), v26, ())) rfl rfl x_ref03_has rfl (wantedA_none rfl) kr kr (Sl.cons (Sm.enc (c := (cdL 1 cdS)) (v := ((v23.2.2.2.1.take c20.toNat).drop (0 : Int).toNat))) (Sl.cons (Sm.enc (c := cdS) (v := v26)) Sl.nil)) kr hv27 ?_
    exact RunDS.done rfl (Wk.fr kr)
   refine Sem.cond (b := v27) kr (fun hb28 => ?_) (fun hb28 => ?_)
   ·rw [if_pos hb28] at h
    refine Sem.sq E0_ok [(4, .v (.int .i64 5))] [] ?_
    refine Sem.ret ?_
    have hq := Option.some.inj h; subst hq
    exact ⟨rfl, (Wk.fr kr)⟩
   ·rw [if_f hb28] at h
    refine Sem.skip ?_
    let p5 : Nat × AV := (6, .v (.int .i64 (wr .i64 (c20 + 1))))
    refine Sem.rg E0_ok [p3, p2, p5] [] ?_
    exact SemN.wk (s1 := ⟨Fr 105 [p3, p2, p5], []⟩) (Wk.fr kr) (ih (wr .i64 (c20 + 1)) h)
  ·rw [if_f hb22] at h
   refine Sem.exit ?_
   have hq := Option.some.inj h; subst hq
   exact ⟨rfl, (Wk.fr kr)⟩
set_option maxHeartbeats 4000000 in
set_option maxRecDepth 100000 in
theorem ref03_CheckOne_l3_ok (x0 : (List Clause)) (x1 : Int) : ∀ (f : Nat) (c34 : Int) (r : (Unit) ⊕ (Int)), ref03_CheckOne_l3 x0 x1 f c34 = some r → SemN E0 ⟨none, false⟩ (pc cb_ref03_CheckOne [1, 1, 1, 1, 1, 1, 0, 1, 0, 0]) f ⟨Fr 105 [(0, .sl 5 (x0.map cdClause.enc)), (1, .v (.int .i64 x1)), (7, .v (.int .i64 c34))], []⟩ (fun e s => match r with
 | (.inl w) => e = (.exit 4) ∧ Wk E0 s ⟨Fr 105 [], []⟩
 | (.inr w) => e = .ret ∧ Wk E0 s ⟨Fr 105 [(4, .v (.int .i64 w))], []⟩) := by
 intro f
 induction f with
 | zero => intro c34 r h; cases h
 | succ f ih0 =>
  intro c34 r h
  have ih := fun (c34 : Int) => ih0 c34 r
  unfold ref03_CheckOne_l3 at h
  refine SemN.succ ?_
  refine Sem.seq ?_
  let p1 : Nat × AV := (7, .v (.int .i64 c34))
  let p2 : Nat × AV := (1, .v (.int .i64 x1))
  let p3 : Nat × AV := (0, .sl 5 (x0.map cdClause.enc))
  refine Sem.sq E0_ok [p3, p2, p1, (83, .v (.bool (decide (c34 < x1))))] [] ?_
  refine Sem.cond (b := (decide (c34 < x1))) kr (fun hb35 => ?_) (fun hb35 => ?_)
  ·rw [if_pos hb35] at h
   refine Sem.skip ?_
   refine Sem.seq ?_
   refine Sem.block ?_
   refine Sem.seq ?_
   obtain ⟨v36, hv36, h⟩ := Option.bind_eq_some_iff.1 h
   obtain ⟨j41, hj41, h⟩ := Option.bind_eq_some_iff.1 h
   refine Sem.runDS E0_ok (s1 := ⟨Fr 105 [p3, p2, p1, (104, .v (.bool j41))], []⟩) kr ?_ ?_
   ·refine RunDS.segF (n := 105) E0_ok 2 [p3, p2, p1, (86, .sl 5 (x0.map cdClause.enc)), (87, .v (.int .i64 c34))] [] kr kr ?_
    refine RunDS.one E0_ok rfl kr (opd_q kr (wantedA_none rfl) rfl (q_indexAddr (a := .sl 5 (x0.map cdClause.enc)) (b := .v (.int .i64 c34)) kr kr (ix_sl (e := cdClause.enc) (el := 70) (k := 5) (ki := .i64) kr kr hv36)) kr) ?_
    refine RunDS.segF (n := 105) E0_ok 4 [p3, p2, p1, (92, .v (.bool (v36.1 == 1)))] [] kr kr ?_
    rcases Bool.eq_false_or_eq_true (v36.1 == 1) with hc44 | hc44
    ·rw [if_pos hc44] at hj41
     rw [hc44]
     let p4 : Nat × AV := (94, .v (.int .i64 c34))
     let p5 : Nat × AV := (93, .sl 5 (x0.map cdClause.enc))
     refine RunDS.segF (n := 105) E0_ok 2 [p3, p2, p1, (92, .v (.bool true)), p5, p4] [] kr kr ?_
     obtain ⟨v37, hv37, hj41⟩ := Option.bind_eq_some_iff.1 hj41
     refine RunDS.one E0_ok rfl kr (opd_q kr kr rfl (q_indexAddr (a := .sl 5 (x0.map cdClause.enc)) (b := .v (.int .i64 c34)) kr kr (ix_sl (e := cdClause.enc) (el := 70) (k := 5) (ki := .i64) kr kr hv37)) kr) ?_
     let p6 : Nat × AV := (99, .v (.int .i64 x1))
     let p7 : Nat × AV := (98, .sl 5 (x0.map cdClause.enc))
     let p8 : Nat × AV := (97, .sl 1 (v37.2.2.2.1.map cdS.enc))
     let p9 : Nat × AV := (96, .pe (.ag [.v (.int .u8 v37.1), .st v37.2.1, .v (.bool v37.2.2.1), .sl 1 (v37.2.2.2.1.map cdS.enc), .v (.int .i64 v37.2.2.2.2)]) 3)
     let p10 : Nat × AV := (95, .pe (.ag [.v (.int .u8 v37.1), .st v37.2.1, .v (.bool v37.2.2.1), .sl 1 (v37.2.2.2.1.map cdS.enc), .v (.int .i64 v37.2.2.2.2)]) 0)
     refine RunDS.segF (n := 105) E0_ok 4 [p3, p2, p1, (92, .v (.bool true)), p5, p4, p10, p9, p8, p7, p6] [] kr kr ?_
     obtain ⟨v38, hv38, hj41⟩ := Option.bind_eq_some_iff.1 hj41
     refine RunDS.one E0_ok rfl kr (opd_q kr kr rfl (q_indexAddr (a := .sl 5 (x0.map cdClause.enc)) (b := .v (.int .i64 x1)) kr kr (ix_sl (e := cdClause.enc) (el := 70) (k := 5) (ki := .i64) kr kr hv38)) kr) ?_
     let p11 : Nat × AV := (101, .pe (.ag [.v (.int .u8 v38.1), .st v38.2.1, .v (.bool v38.2.2.1), .sl 1 (v38.2.2.2.1.map cdS.enc), .v (.int .i64 v38.2.2.2.2)]) 1)
     let p12 : Nat × AV := (100, .pe (.ag [.v (.int .u8 v38.1), .st v38.2.1, .v (.bool v38.2.2.1), .sl 1 (v38.2.2.2.1.map cdS.enc), .v (.int .i64 v38.2.2.2.2)]) 0)
     refine RunDS.segF (n := 105) E0_ok 2 [p3, p2, p1, (92, .v (.bool true)), p5, p4, p10, p9, p8, p7, p6, p12, p11, (102, .st v38.2.1)] [] kr kr ?_
     obtain ⟨v39, hv39, hj41⟩ := Option.bind_eq_some_iff.1 hj41
     refine RunDS.callV (caps := []) (xs := [.sl 1 (v37.2.2.2.1.map cdS.enc), .st v38.2.1]) (u := (v37.2.2.2.1, v38.2.1, ())) rfl rfl x_ref03_has rfl kr kr kr (Sl.cons (Sm.enc (c := (cdL 1 cdS)) (v := v37.2.2.2.1)) (Sl.cons (Sm.enc (c := cdS) (v := v38.2.1)) Sl.nil)) kr hv39 ?_
     refine RunDS.segF (n := 105) E0_ok 1 [p3, p2, p1, p5, p4, p10, p9, p8, p7, p6, p12, p11, (102, .st v38.2.1), (103, .v (.bool v39)), (104, .v (.bool v39))] [] kr kr ?_
     have hq := Option.some.inj hj41; subst hq
     exact RunDS.done rfl (Wk.fr kr)
    ·rw [if_f hc44] at hj41
     rw [hc44]
     refine RunDS.segF (n := 105) E0_ok 12 [p3, p2, p1, (93, .tp []), (94, .tp []), (95, .tp []), (96, .tp []), (97, .tp []), (98, .tp []), (99, .tp []), (100, .tp []), (101, .tp []), (102, .tp []), (103, .tp []), (104, .v (.bool false))] [] kr kr ?_
     have hq := Option.some.inj hj41; subst hq
     exact RunDS.done rfl (Wk.fr kr)
   refine Sem.cond (b := j41) kr (fun hb42 => ?_) (fun hb42 => ?_)
   ·rw [if_pos hb42] at h
    refine Sem.sq E0_ok [(4, .v (.int .i64 0))] [] ?_
    refine Sem.ret ?_
    have hq := Option.some.inj h; subst hq
    exact ⟨rfl, (Wk.fr kr)⟩
   ·rw [if_f hb42] at h
    refine Sem.skip ?_
    let p13 : Nat × AV := (7, .v (.int .i64 (wr .i64 (c34 + 1))))
    refine Sem.rg E0_ok [p3, p2, p13] [] ?_
    exact SemN.wk (s1 := ⟨Fr 105 [p3, p2, p13], []⟩) (Wk.fr kr) (ih (wr .i64 (c34 + 1)) h)
  ·rw [if_f hb35] at h
   refine Sem.exit ?_
   have hq := Option.some.inj h; subst hq
   exact ⟨rfl, (Wk.fr kr)⟩
set_option maxHeartbeats 4000000 in
set_option maxRecDepth 100000 in
theorem ref03_CheckOne_sem (x0 : (List Clause)) (x1 : Int) (r : Int) (h : ref03_CheckOne x0 x1 = some r) : Sem E0 ⟨none, false⟩ cb_ref03_CheckOne ⟨Fr 105 (pairs0 0 (cs_ref03_CheckOne.enc (x0, x1, ()))), []⟩ fun e s' => (e = .normal ∨ e = .ret) ∧ ∃ xs, resA E0.P s'.fr s'.hp Tryz.f101.results.toList = some xs ∧ retA xs = er_ref03_CheckOne r := by
 unfold ref03_CheckOne at h
 let p1 : Nat × AV := (1, .v (.int .i64 x1))
 let p2 : Nat × AV := (0, .sl 5 (x0.map cdClause.enc))
 refine Sem.wkQ (Sem.wk (s1 := ⟨Fr 105 [p2, p1], []⟩) (Wk.fr kr) ?_)
 refine Sem.sq E0_ok [p2, p1] [] ?_
 refine Sem.seq ?_
 refine Sem.seq ?_
 obtain ⟨v1, hv1, h⟩ := Option.bind_eq_some_iff.1 h
 obtain ⟨v2, hv2, h⟩ := Option.bind_eq_some_iff.1 h
 refine Sem.runS (s1 := ⟨Fr 105 [p2, p1, (13, .v (.bool (!v2)))], []⟩) ?_ ?_
 ·refine RunS.segF (n := 105) E0_ok 2 [p2, p1, (8, .sl 5 (x0.map cdClause.enc)), (9, .v (.int .i64 x1))] [] kr ?_
  refine RunS.one E0_ok 0 rfl (op_q (wantedA_none rfl) rfl (q_indexAddr (a := .sl 5 (x0.map cdClause.enc)) (b := .v (.int .i64 x1)) kr kr (ix_sl (e := cdClause.enc) (el := 70) (k := 5) (ki := .i64) kr kr hv1))) ?_
  refine RunS.segF (n := 105) E0_ok 1 [p2, p1, (11, .ag [.v (.int .u8 v1.1), .st v1.2.1, .v (.bool v1.2.2.1), .sl 1 (v1.2.2.2.1.map cdS.enc), .v (.int .i64 v1.2.2.2.2)])] [] kr ?_
  refine RunS.callV (caps := []) (xs := [.ag [.v (.int .u8 v1.1), .st v1.2.1, .v (.bool v1.2.2.1), .sl 1 (v1.2.2.2.1.map cdS.enc), .v (.int .i64 v1.2.2.2.2)]]) (u := (v1, ())) rfl rfl x_ref03_formed rfl (wantedA_none rfl) kr kr (Sl.cons (Sm.enc (c := cdClause) (v := v1)) Sl.nil) (.inl kr) hv2 ?_
  exact RunS.last E0_ok
 refine Sem.cond (b := (!v2)) kr (fun hb3 => ?_) (fun hb3 => ?_)
 ·rw [if_pos hb3] at h
  refine Sem.sq E0_ok [(4, .v (.int .i64 30))] [] ?_
  refine Sem.ret ?_
  have hq := Option.some.inj h; subst hq
  exact ⟨⟨Fr 105 [(4, .v (.int .i64 30))], []⟩, (Wk.fr kr), .inr rfl, [.v (.int .i64 30)], kr, kr⟩
 ·rw [if_f hb3] at h
  refine Sem.skip ?_
  refine Sem.seq ?_
  refine Sem.seq ?_
  obtain ⟨v4, hv4, h⟩ := Option.bind_eq_some_iff.1 h
  obtain ⟨j8, hj8, h⟩ := Option.bind_eq_some_iff.1 h
  refine Sem.runS (s1 := ⟨Fr 105 [p2, p1, (28, .v (.bool j8))], []⟩) ?_ ?_
  ·refine RunS.segF (n := 105) E0_ok 2 [p2, p1, (14, .sl 5 (x0.map cdClause.enc)), (15, .v (.int .i64 x1))] [] kr ?_
   refine RunS.one E0_ok 0 rfl (op_q (wantedA_none rfl) rfl (q_indexAddr (a := .sl 5 (x0.map cdClause.enc)) (b := .v (.int .i64 x1)) kr kr (ix_sl (e := cdClause.enc) (el := 70) (k := 5) (ki := .i64) kr kr hv4))) ?_
   refine RunS.segF (n := 105) E0_ok 4 [p2, p1, (20, .v (.bool (!(v4.2.1 == []))))] [] kr ?_
   rcases Bool.eq_false_or_eq_true (!(v4.2.1 == [])) with hc50 | hc50
   ·rw [if_pos hc50] at hj8
    rw [hc50]
    refine RunS.segF (n := 105) E0_ok 2 [p2, p1, (20, .v (.bool true)), (21, .sl 5 (x0.map cdClause.enc)), (22, .v (.int .i64 x1))] [] kr ?_
    obtain ⟨v5, hv5, hj8⟩ := Option.bind_eq_some_iff.1 hj8
    refine RunS.one E0_ok 0 rfl (op_q kr rfl (q_indexAddr (a := .sl 5 (x0.map cdClause.enc)) (b := .v (.int .i64 x1)) kr kr (ix_sl (e := cdClause.enc) (el := 70) (k := 5) (ki := .i64) kr kr hv5))) ?_
    refine RunS.segF (n := 105) E0_ok 2 [p2, p1, (20, .v (.bool true)), (25, .st v5.2.1)] [] kr ?_
    obtain ⟨v6, hv6, hj8⟩ := Option.bind_eq_some_iff.1 hj8
    refine RunS.callV (caps := []) (xs := [.st v5.2.1]) (u := (v5.2.1, ())) rfl rfl x_kit_Name rfl kr kr kr (Sl.cons (Sm.enc (c := cdS) (v := v5.2.1)) Sl.nil) (.inl kr) hv6 ?_
    refine RunS.segF (n := 105) E0_ok 2 [p2, p1, (28, .v (.bool (!v6)))] [] kr ?_
    have hq := Option.some.inj hj8; subst hq
    exact RunS.done rfl (Wk.fr kr)
   ·rw [if_f hc50] at hj8
    rw [hc50]
    refine RunS.segF (n := 105) E0_ok 8 [p2, p1, (28, .v (.bool false))] [] kr ?_
    have hq := Option.some.inj hj8; subst hq
    exact RunS.done rfl (Wk.fr kr)
  refine Sem.cond (b := j8) kr (fun hb9 => ?_) (fun hb9 => ?_)
  ·rw [if_pos hb9] at h
   refine Sem.sq E0_ok [(4, .v (.int .i64 4))] [] ?_
   refine Sem.ret ?_
   have hq := Option.some.inj h; subst hq
   exact ⟨⟨Fr 105 [(4, .v (.int .i64 4))], []⟩, (Wk.fr kr), .inr rfl, [.v (.int .i64 4)], kr, kr⟩
  ·rw [if_f hb9] at h
   refine Sem.skip ?_
   refine Sem.seq ?_
   let p3 : Nat × AV := (5, .v (.int .i64 0))
   refine Sem.sq E0_ok [p2, p1, p3] [] ?_
   refine Sem.block ?_
   obtain ⟨r18, hr18, h⟩ := Option.bind_eq_some_iff.1 h
   refine Sem.loop (n := 100000) ?_
   rcases r18 with w19 | w49
   ·try dsimp only at h
    refine Sem.cutN (SemN.wk (s1 := ⟨Fr 105 [p2, p1, p3], []⟩) (Wk.fr kr) (ref03_CheckOne_l1_ok x0 x1 _ 0 _ hr18)) ?_
    refine Sem.seq ?_
    let p4 : Nat × AV := (6, .v (.int .i64 0))
    refine Sem.sq E0_ok [p2, p1, p4] [] ?_
    refine Sem.block ?_
    obtain ⟨r30, hr30, h⟩ := Option.bind_eq_some_iff.1 h
    refine Sem.loop (n := 100000) ?_
    rcases r30 with w31 | w48
    ·try dsimp only at h
     refine Sem.cutN (SemN.wk (s1 := ⟨Fr 105 [p2, p1, p4], []⟩) (Wk.fr kr) (ref03_CheckOne_l2_ok x0 x1 _ 0 _ hr30)) ?_
     refine Sem.seq ?_
     refine Sem.seq ?_
     obtain ⟨v32, hv32, h⟩ := Option.bind_eq_some_iff.1 h
     refine Sem.runS (s1 := ⟨Fr 105 [p2, p1, (80, .v (.bool (v32.2.1 == [])))], []⟩) ?_ ?_
     ·refine RunS.segF (n := 105) E0_ok 2 [p2, p1, (75, .sl 5 (x0.map cdClause.enc)), (76, .v (.int .i64 x1))] [] kr ?_
      refine RunS.one E0_ok 0 rfl (op_q (wantedA_none rfl) rfl (q_indexAddr (a := .sl 5 (x0.map cdClause.enc)) (b := .v (.int .i64 x1)) kr kr (ix_sl (e := cdClause.enc) (el := 70) (k := 5) (ki := .i64) kr kr hv32))) ?_
      exact RunS.last E0_ok
     refine Sem.cond (b := (v32.2.1 == [])) kr (fun hb33 => ?_) (fun hb33 => ?_)
     ·rw [if_pos hb33] at h
      refine Sem.sq E0_ok [(4, .v (.int .i64 0))] [] ?_
      refine Sem.ret ?_
      have hq := Option.some.inj h; subst hq
      exact ⟨⟨Fr 105 [(4, .v (.int .i64 0))], []⟩, (Wk.fr kr), .inr rfl, [.v (.int .i64 0)], kr, kr⟩
     ·rw [if_f hb33] at h
      refine Sem.skip ?_
      refine Sem.seq ?_
      refine Sem.sq E0_ok [p2, p1, (7, .v (.int .i64 0))] [] ?_
      refine Sem.block ?_
      obtain ⟨r45, hr45, h⟩ := Option.bind_eq_some_iff.1 h
      refine Sem.loop (n := 100000) ?_
      rcases r45 with w46 | w47
      ·try dsimp only at h
       refine Sem.cutN (SemN.wk (s1 := ⟨Fr 105 [p2, p1, (7, .v (.int .i64 0))], []⟩) (Wk.fr kr) (ref03_CheckOne_l3_ok x0 x1 _ 0 _ hr45)) ?_
       refine Sem.sq E0_ok [(4, .v (.int .i64 31))] [] ?_
       refine Sem.ret ?_
       have hq := Option.some.inj h; subst hq
       exact ⟨⟨Fr 105 [(4, .v (.int .i64 31))], []⟩, (Wk.fr kr), .inr rfl, [.v (.int .i64 31)], kr, kr⟩
      ·try dsimp only at h
       refine Sem.cutN (SemN.wk (s1 := ⟨Fr 105 [p2, p1, (7, .v (.int .i64 0))], []⟩) (Wk.fr kr) (ref03_CheckOne_l3_ok x0 x1 _ 0 _ hr45)) ?_
       have hq := Option.some.inj h; subst hq
       exact ⟨⟨Fr 105 [(4, .v (.int .i64 w47))], []⟩, (Wk.fr kr), .inr rfl, [.v (.int .i64 w47)], kr, kr⟩
    ·try dsimp only at h
     refine Sem.cutN (SemN.wk (s1 := ⟨Fr 105 [p2, p1, p4], []⟩) (Wk.fr kr) (ref03_CheckOne_l2_ok x0 x1 _ 0 _ hr30)) ?_
     have hq := Option.some.inj h; subst hq
     exact ⟨⟨Fr 105 [(4, .v (.int .i64 w48))], []⟩, (Wk.fr kr), .inr rfl, [.v (.int .i64 w48)], kr, kr⟩
   ·try dsimp only at h
    refine Sem.cutN (SemN.wk (s1 := ⟨Fr 105 [p2, p1, p3], []⟩) (Wk.fr kr) (ref03_CheckOne_l1_ok x0 x1 _ 0 _ hr18)) ?_
    have hq := Option.some.inj h; subst hq
    exact ⟨⟨Fr 105 [(4, .v (.int .i64 w49))], []⟩, (Wk.fr kr), .inr rfl, [.v (.int .i64 w49)], kr, kr⟩
def t_ref03_CheckOne : List AV → Option AV := told cs_ref03_CheckOne (fun a => ref03_CheckOne a.1 a.2.1) er_ref03_CheckOne
theorem x_ref03_CheckOne : XOk 101 t_ref03_CheckOne := by
 refine xok_of_sem Tryz.func101 (c := cb_ref03_CheckOne) ?h2 ⟨Tryz.call101⟩ cs_ref03_CheckOne (fun a => ref03_CheckOne a.1 a.2.1) er_ref03_CheckOne (fun a => (by show 2 ≤ 105; decide)) ?h3 ?h4
 case h2 => kernel_rfl
 case h3 => intro b; kernel_rfl
 case h4 => exact fun a b h => ref03_CheckOne_sem a.1 a.2.1 b h
/- trestle/trestleref03.Check -/
noncomputable def cb_ref03_Check : Code := codeOf Tryz.f53
def ref03_Check_l1 (x0 : (List Clause)) : Nat → Int → Option ((Unit) ⊕ (Int × Int))
 | 0, _ => none
 | f + 1, c2 =>
  if (decide (c2 < (x0.length : Int))) = true then
  (ref03_CheckOne x0 c2).bind fun v4 =>
  if (v4 != 0) = true then
  some (.inr (c2, v4))
  else
  ref03_Check_l1 x0 f (wr .i64 (c2 + 1))
  else
  some (.inl ())
def ref03_Check (x0 : (List Clause)) : Option (Int × Int) :=
 if (decide ((x0.length : Int) > 32)) = true then
 some (0, 7)
 else
 (ref03_Check_l1 x0 100000 0).bind fun r8 =>
 match r8 with
 | (.inl w9) =>
  some (0, 0)
 | (.inr w10) =>
  some (w10.1, w10.2)
def cs_ref03_Check : Cs ((List Clause) × Unit) := (csC (cdL 5 cdClause) csN)
def er_ref03_Check (r : Int × Int) : AV := .tp [cdI.enc r.1, cdI.enc r.2]
set_option maxHeartbeats 4000000 in
set_option maxRecDepth 100000 in
theorem ref03_Check_l1_ok (x0 : (List Clause)) : ∀ (f : Nat) (c2 : Int) (r : (Unit) ⊕ (Int × Int)), ref03_Check_l1 x0 f c2 = some r → SemN E0 ⟨none, false⟩ (pc cb_ref03_Check [1, 1, 0, 1, 0, 0]) f ⟨Fr 22 [(0, .sl 5 (x0.map cdClause.enc)), (4, .v (.int .i64 c2))], []⟩ (fun e s => match r with
 | (.inl w) => e = (.exit 0) ∧ Wk E0 s ⟨Fr 22 [], []⟩
 | (.inr w) => e = .ret ∧ Wk E0 s ⟨Fr 22 [(2, .v (.int .i64 w.1)), (3, .v (.int .i64 w.2))], []⟩) := by
 intro f
 induction f with
 | zero => intro c2 r h; cases h
 | succ f ih0 =>
  intro c2 r h
  have ih := fun (c2 : Int) => ih0 c2 r
  unfold ref03_Check_l1 at h
  refine SemN.succ ?_
  refine Sem.seq ?_
  refine Sem.seq ?_
  let p1 : Nat × AV := (4, .v (.int .i64 c2))
  let p2 : Nat × AV := (0, .sl 5 (x0.map cdClause.enc))
  refine Sem.runS (s1 := ⟨Fr 22 [p2, p1, (12, .v (.bool (decide (c2 < (x0.length : Int)))))], []⟩) ?_ ?_
  ·refine RunS.segF (n := 22) E0_ok 2 [p2, p1, (9, .v (.int .i64 c2)), (10, .sl 5 (x0.map cdClause.enc))] [] kr ?_
   refine RunS.one E0_ok 0 rfl (op_q (wantedA_none rfl) rfl (q_len (a := .sl 5 (x0.map cdClause.enc)) kr (len_sl (el := 70) kr))) ?_
   exact RunS.last E0_ok
  refine Sem.cond (b := (decide (c2 < (x0.length : Int)))) kr (fun hb3 => ?_) (fun hb3 => ?_)
  ·rw [if_pos hb3] at h
   refine Sem.skip ?_
   refine Sem.seq ?_
   refine Sem.block ?_
   refine Sem.seq ?_
   obtain ⟨v4, hv4, h⟩ := Option.bind_eq_some_iff.1 h
   refine Sem.runS (s1 := ⟨Fr 22 [p2, p1, (5, .v (.int .i64 v4))], []⟩) ?_ ?_
   ·refine RunS.segF (n := 22) E0_ok 2 [p2, p1, (15, .sl 5 (x0.map cdClause.enc)), (16, .v (.int .i64 c2))] [] kr ?_
    refine RunS.callV (caps := []) (xs := [.sl 5 (x0.map cdClause.enc), .v (.int .i64 c2)]) (u := (x0, c2, ())) rfl rfl x_ref03_CheckOne rfl (wantedA_none rfl) kr kr (Sl.cons (Sm.enc (c := (cdL 5 cdClause)) (v := x0)) (Sl.cons (Sm.enc (c := cdI) (v := c2)) Sl.nil)) (.inl kr) hv4 ?_
    exact RunS.last E0_ok
   refine Sem.sq E0_ok [p2, p1, (5, .v (.int .i64 v4)), (19, .v (.bool (v4 != 0)))] [] ?_
   refine Sem.cond (b := (v4 != 0)) kr (fun hb5 => ?_) (fun hb5 => ?_)
   ·rw [if_pos hb5] at h
    refine Sem.sq E0_ok [(2, .v (.int .i64 c2)), (3, .v (.int .i64 v4))] [] ?_
    refine Sem.ret ?_
    have hq := Option.some.inj h; subst hq
    exact ⟨rfl, (Wk.fr kr)⟩
   ·rw [if_f hb5] at h
    refine Sem.skip ?_
    let p3 : Nat × AV := (4, .v (.int .i64 (wr .i64 (c2 + 1))))
    refine Sem.rg E0_ok [p2, p3] [] ?_
    exact SemN.wk (s1 := ⟨Fr 22 [p2, p3], []⟩) (Wk.fr kr) (ih (wr .i64 (c2 + 1)) h)
  ·rw [if_f hb3] at h
   refine Sem.exit ?_
   have hq := Option.some.inj h; subst hq
   exact ⟨rfl, (Wk.fr kr)⟩
set_option maxHeartbeats 4000000 in
set_option maxRecDepth 100000 in
theorem ref03_Check_sem (x0 : (List Clause)) (r : Int × Int) (h : ref03_Check x0 = some r) : Sem E0 ⟨none, false⟩ cb_ref03_Check ⟨Fr 22 (pairs0 0 (cs_ref03_Check.enc (x0, ()))), []⟩ fun e s' => (e = .normal ∨ e = .ret) ∧ ∃ xs, resA E0.P s'.fr s'.hp Tryz.f53.results.toList = some xs ∧ retA xs = er_ref03_Check r := by
 unfold ref03_Check at h
 let p1 : Nat × AV := (0, .sl 5 (x0.map cdClause.enc))
 refine Sem.wkQ (Sem.wk (s1 := ⟨Fr 22 [p1], []⟩) (Wk.fr kr) ?_)
 refine Sem.sq E0_ok [p1] [] ?_
 refine Sem.seq ?_
 refine Sem.seq ?_
 refine Sem.runS (s1 := ⟨Fr 22 [p1, (8, .v (.bool (decide ((x0.length : Int) > 32))))], []⟩) ?_ ?_
 ·refine RunS.segF (n := 22) E0_ok 1 [p1, (6, .sl 5 (x0.map cdClause.enc))] [] kr ?_
  refine RunS.one E0_ok 0 rfl (op_q (wantedA_none rfl) rfl (q_len (a := .sl 5 (x0.map cdClause.enc)) kr (len_sl (el := 70) kr))) ?_
  exact RunS.last E0_ok
 refine Sem.cond (b := (decide ((x0.length : Int) > 32))) kr (fun hb1 => ?_) (fun hb1 => ?_)
 ·rw [if_pos hb1] at h
  refine Sem.sq E0_ok [(2, .v (.int .i64 0)), (3, .v (.int .i64 7))] [] ?_
  refine Sem.ret ?_
  have hq := Option.some.inj h; subst hq
  exact ⟨⟨Fr 22 [(2, .v (.int .i64 0)), (3, .v (.int .i64 7))], []⟩, (Wk.fr kr), .inr rfl, [.v (.int .i64 0), .v (.int .i64 7)], kr, kr⟩
 ·rw [if_f hb1] at h
  refine Sem.skip ?_
  refine Sem.seq ?_
  let p2 : Nat × AV := (4, .v (.int .i64 0))
  refine Sem.sq E0_ok [p1, p2] [] ?_
  refine Sem.block ?_
  obtain ⟨r8, hr8, h⟩ := Option.bind_eq_some_iff.1 h
  refine Sem.loop (n := 100000) ?_
  rcases r8 with w9 | w10
  ·try dsimp only at h
   refine Sem.cutN (SemN.wk (s1 := ⟨Fr 22 [p1, p2], []⟩) (Wk.fr kr) (ref03_Check_l1_ok x0 _ 0 _ hr8)) ?_
   refine Sem.sq E0_ok [(2, .v (.int .i64 0)), (3, .v (.int .i64 0))] [] ?_
   refine Sem.ret ?_
   have hq := Option.some.inj h; subst hq
   exact ⟨⟨Fr 22 [(2, .v (.int .i64 0)), (3, .v (.int .i64 0))], []⟩, (Wk.fr kr), .inr rfl, [.v (.int .i64 0), .v (.int .i64 0)], kr, kr⟩
  ·try dsimp only at h
   refine Sem.cutN (SemN.wk (s1 := ⟨Fr 22 [p1, p2], []⟩) (Wk.fr kr) (ref03_Check_l1_ok x0 _ 0 _ hr8)) ?_
   have hq := Option.some.inj h; subst hq
   exact ⟨⟨Fr 22 [(2, .v (.int .i64 w10.1)), (3, .v (.int .i64 w10.2))], []⟩, (Wk.fr kr), .inr rfl, [.v (.int .i64 w10.1), .v (.int .i64 w10.2)], kr, kr⟩
def t_ref03_Check : List AV → Option AV := told cs_ref03_Check (fun a => ref03_Check a.1) er_ref03_Check
theorem x_ref03_Check : XOk 53 t_ref03_Check := by
 refine xok_of_sem Tryz.func53 (c := cb_ref03_Check) ?h2 ⟨Tryz.call53⟩ cs_ref03_Check (fun a => ref03_Check a.1) er_ref03_Check (fun a => (by show 1 ≤ 22; decide)) ?h3 ?h4
 case h2 => kernel_rfl
 case h3 => intro b; kernel_rfl
 case h4 => exact fun a b h => ref03_Check_sem a.1 b h
/- slices.Equal[[]string,string] -/
noncomputable def cb_slices_Equal_string_string : Code := codeOf Tryz.f125
def slices_Equal_string_string_l1 (x0 : (List (List UInt8))) (x1 : (List (List UInt8))) : Nat → Int → Option ((Unit) ⊕ (Bool))
 | 0, _ => none
 | f + 1, c2 =>
  if (decide (c2 < (x0.length : Int))) = true then
  (idx x0 c2).bind fun v4 =>
  (idx x1 c2).bind fun v5 =>
  if (!(v4 == v5)) = true then
  some (.inr false)
  else
  slices_Equal_string_string_l1 x0 x1 f (wr .i64 (c2 + 1))
  else
  some (.inl ())
def slices_Equal_string_string (x0 : (List (List UInt8))) (x1 : (List (List UInt8))) : Option (Bool) :=
 if ((x0.length : Int) != (x1.length : Int)) = true then
 some false
 else
 (slices_Equal_string_string_l1 x0 x1 100000 0).bind fun r8 =>
 match r8 with
 | (.inl w9) =>
  some true
 | (.inr w10) =>
  some w10
def cs_slices_Equal_string_string : Cs ((List (List UInt8)) × (List (List UInt8)) × Unit) := (csC (cdL 1 cdS) (csC (cdL 1 cdS) csN))
def er_slices_Equal_string_string (r : Bool) : AV := cdB.enc r
set_option maxHeartbeats 4000000 in
set_option maxRecDepth 100000 in
theorem slices_Equal_string_string_l1_ok (x0 : (List (List UInt8))) (x1 : (List (List UInt8))) : ∀ (f : Nat) (c2 : Int) (r : (Unit) ⊕ (Bool)), slices_Equal_string_string_l1 x0 x1 f c2 = some r → SemN E0 ⟨none, false⟩ (pc cb_slices_Equal_string_string [1, 1, 0, 1, 0, 0]) f ⟨Fr 26 [(0, .sl 1 (x0.map cdS.enc)), (1, .sl 1 (x1.map cdS.enc)), (12, .v (.int .i64 (x0.length : Int))), (13, .v (.int .i64 c2))], []⟩ (fun e s => match r with
 | (.inl w) => e = (.exit 0) ∧ Wk E0 s ⟨Fr 26 [], []⟩
 | (.inr w) => e = .ret ∧ Wk E0 s ⟨Fr 26 [(4, .v (.bool w))], []⟩) := by
 intro f
 induction f with
 | zero => intro c2 r h; cases h
 | succ f ih0 =>
  intro c2 r h
  have ih := fun (c2 : Int) => ih0 c2 r
  unfold slices_Equal_string_string_l1 at h
  refine SemN.succ ?_
  let p1 : Nat × AV := (13, .v (.int .i64 c2))
  let p2 : Nat × AV := (12, .v (.int .i64 (x0.length : Int)))
  let p3 : Nat × AV := (1, .sl 1 (x1.map cdS.enc))
  let p4 : Nat × AV := (0, .sl 1 (x0.map cdS.enc))
  refine Sem.sq E0_ok [p4, p3, p2, p1, (14, .v (.bool (decide (c2 < (x0.length : Int)))))] [] ?_
  refine Sem.seq ?_
  refine Sem.cond (b := (decide (c2 < (x0.length : Int)))) kr (fun hb3 => ?_) (fun hb3 => ?_)
  ·rw [if_pos hb3] at h
   refine Sem.skip ?_
   refine Sem.seq ?_
   refine Sem.block ?_
   refine Sem.sq E0_ok [p4, p3, (5, .v (.int .i64 c2)), p2, p1] [] ?_
   refine Sem.seq ?_
   obtain ⟨v4, hv4, h⟩ := Option.bind_eq_some_iff.1 h
   obtain ⟨v5, hv5, h⟩ := Option.bind_eq_some_iff.1 h
   refine Sem.runDS E0_ok (s1 := ⟨Fr 26 [p4, p3, p2, p1, (24, .v (.bool (!(v4 == v5))))], []⟩) kr ?_ ?_
   ·refine RunDS.segF (n := 26) E0_ok 2 [p4, p3, (5, .v (.int .i64 c2)), p2, p1, (16, .sl 1 (x0.map cdS.enc)), (17, .v (.int .i64 c2))] [] kr kr ?_
    refine RunDS.one E0_ok rfl kr (opd_q kr (wantedA_none rfl) rfl (q_indexAddr (a := .sl 1 (x0.map cdS.enc)) (b := .v (.int .i64 c2)) kr kr (ix_sl (e := cdS.enc) (el := 9) (k := 1) (ki := .i64) kr kr hv4)) kr) ?_
    refine RunDS.segF (n := 26) E0_ok 3 [p4, p3, p2, p1, (19, .st v4), (20, .sl 1 (x1.map cdS.enc)), (21, .v (.int .i64 c2))] [] kr kr ?_
    refine RunDS.one E0_ok rfl kr (opd_q kr (wantedA_none rfl) rfl (q_indexAddr (a := .sl 1 (x1.map cdS.enc)) (b := .v (.int .i64 c2)) kr kr (ix_sl (e := cdS.enc) (el := 9) (k := 1) (ki := .i64) kr kr hv5)) kr) ?_
    refine RunDS.segF (n := 26) E0_ok 2 [p4, p3, p2, p1, (24, .v (.bool (!(v4 == v5))))] [] kr kr ?_
    exact RunDS.done rfl (Wk.fr kr)
   refine Sem.cond (b := (!(v4 == v5))) kr (fun hb6 => ?_) (fun hb6 => ?_)
   ·rw [if_pos hb6] at h
    refine Sem.sq E0_ok [(4, .v (.bool false))] [] ?_
    refine Sem.ret ?_
    have hq := Option.some.inj h; subst hq
    exact ⟨rfl, (Wk.fr kr)⟩
   ·rw [if_f hb6] at h
    refine Sem.skip ?_
    let p5 : Nat × AV := (13, .v (.int .i64 (wr .i64 (c2 + 1))))
    refine Sem.rg E0_ok [p4, p3, p2, p5] [] ?_
    exact SemN.wk (s1 := ⟨Fr 26 [p4, p3, p2, p5], []⟩) (Wk.fr kr) (ih (wr .i64 (c2 + 1)) h)
  ·rw [if_f hb3] at h
   refine Sem.exit ?_
   have hq := Option.some.inj h; subst hq
   exact ⟨rfl, (Wk.fr kr)⟩
set_option maxHeartbeats 4000000 in
set_option maxRecDepth 100000 in
theorem slices_Equal_string_string_sem (x0 : (List (List UInt8))) (x1 : (List (List UInt8))) (r : Bool) (h : slices_Equal_string_string x0 x1 = some r) : Sem E0 ⟨none, false⟩ cb_slices_Equal_string_string ⟨Fr 26 (pairs0 0 (cs_slices_Equal_string_string.enc (x0, x1, ()))), []⟩ fun e s' => (e = .normal ∨ e = .ret) ∧ ∃ xs, resA E0.P s'.fr s'.hp Tryz.f125.results.toList = some xs ∧ retA xs = er_slices_Equal_string_string r := by
 unfold slices_Equal_string_string at h
 let p1 : Nat × AV := (1, .sl 1 (x1.map cdS.enc))
 let p2 : Nat × AV := (0, .sl 1 (x0.map cdS.enc))
 refine Sem.wkQ (Sem.wk (s1 := ⟨Fr 26 [p2, p1], []⟩) (Wk.fr kr) ?_)
 refine Sem.sq E0_ok [p2, p1] [] ?_
 refine Sem.seq ?_
 refine Sem.seq ?_
 refine Sem.runS (s1 := ⟨Fr 26 [p2, p1, (10, .v (.bool ((x0.length : Int) != (x1.length : Int))))], []⟩) ?_ ?_
 ·refine RunS.segF (n := 26) E0_ok 1 [p2, p1, (6, .sl 1 (x0.map cdS.enc))] [] kr ?_
  refine RunS.one E0_ok 0 rfl (op_q (wantedA_none rfl) rfl (q_len (a := .sl 1 (x0.map cdS.enc)) kr (len_sl (el := 9) kr))) ?_
  refine RunS.segF (n := 26) E0_ok 1 [p2, p1, (7, .v (.int .i64 (x0.length : Int))), (8, .sl 1 (x1.map cdS.enc))] [] kr ?_
  refine RunS.one E0_ok 0 rfl (op_q (wantedA_none rfl) rfl (q_len (a := .sl 1 (x1.map cdS.enc)) kr (len_sl (el := 9) kr))) ?_
  exact RunS.last E0_ok
 refine Sem.cond (b := ((x0.length : Int) != (x1.length : Int))) kr (fun hb1 => ?_) (fun hb1 => ?_)
 ·rw [if_pos hb1] at h
  refine Sem.sq E0_ok [(4, .v (.bool false))] [] ?_
  refine Sem.ret ?_
  have hq := Option.some.inj h; subst hq
  exact ⟨⟨Fr 26 [(4, .v (.bool false))], []⟩, (Wk.fr kr), .inr rfl, [.v (.bool false)], kr, kr⟩
 ·rw [if_f hb1] at h
  refine Sem.skip ?_
  refine Sem.seq ?_
  refine Sem.seq ?_
  let p3 : Nat × AV := (13, .v (.int .i64 0))
  let p4 : Nat × AV := (12, .v (.int .i64 (x0.length : Int)))
  refine Sem.runS (s1 := ⟨Fr 26 [p2, p1, p4, p3], []⟩) ?_ ?_
  ·refine RunS.segF (n := 26) E0_ok 1 [p2, p1, (11, .sl 1 (x0.map cdS.enc))] [] kr ?_
   refine RunS.one E0_ok 0 rfl (op_q (wantedA_none rfl) rfl (q_len (a := .sl 1 (x0.map cdS.enc)) kr (len_sl (el := 9) kr))) ?_
   exact RunS.last E0_ok
  refine Sem.block ?_
  obtain ⟨r8, hr8, h⟩ := Option.bind_eq_some_iff.1 h
  refine Sem.loop (n := 100000) ?_
  rcases r8 with w9 | w10
  ·try dsimp only at h
   refine Sem.cutN (SemN.wk (s1 := ⟨Fr 26 [p2, p1, p4, p3], []⟩) (Wk.fr kr) (slices_Equal_string_string_l1_ok x0 x1 _ 0 _ hr8)) ?_
   refine Sem.sq E0_ok [(4, .v (.bool true))] [] ?_
   refine Sem.ret ?_
   have hq := Option.some.inj h; subst hq
   exact ⟨⟨Fr 26 [(4, .v (.bool true))], []⟩, (Wk.fr kr), .inr rfl, [.v (.bool true)], kr, kr⟩
  ·try dsimp only at h
   refine Sem.cutN (SemN.wk (s1 := ⟨Fr 26 [p2, p1, p4, p3], []⟩) (Wk.fr kr) (slices_Equal_string_string_l1_ok x0 x1 _ 0 _ hr8)) ?_
   have hq := Option.some.inj h; subst hq
   exact ⟨⟨Fr 26 [(4, .v (.bool w10))], []⟩, (Wk.fr kr), .inr rfl, [.v (.bool w10)], kr, kr⟩
def t_slices_Equal_string_string : List AV → Option AV := told cs_slices_Equal_string_string (fun a => slices_Equal_string_string a.1 a.2.1) er_slices_Equal_string_string
theorem x_slices_Equal_string_string : XOk 125 t_slices_Equal_string_string := by
 refine xok_of_sem Tryz.func125 (c := cb_slices_Equal_string_string) ?h2 ⟨Tryz.call125⟩ cs_slices_Equal_string_string (fun a => slices_Equal_string_string a.1 a.2.1) er_slices_Equal_string_string (fun a => (by show 2 ≤ 26; decide)) ?h3 ?h4
 case h2 => kernel_rfl
 case h3 => intro b; kernel_rfl
 case h4 => exact fun a b h => slices_Equal_string_string_sem a.1 a.2.1 b h
/- trestle/trestlelaw03.SameClause -/
noncomputable def cb_law03_SameClause : Code := codeOf Tryz.f81
def law03_SameClause (x0 : Clause) (x1 : Clause) : Option (Bool) :=
 (if (x0.1 == x1.1) = true then if (x0.2.1 == x1.2.1) = true then if (x0.2.2.1 == x1.2.2.1) = true then if (x0.2.2.2.2 == x1.2.2.2.2) = true then (slices_Equal_string_string x0.2.2.2.1 x1.2.2.2.1).bind fun v1 =>
 some v1 else some false else some false else some false else some false).bind fun j3 =>
 some j3
def cs_law03_SameClause : Cs (Clause × Clause × Unit) := (csC cdClause (csC cdClause csN))
def er_law03_SameClause (r : Bool) : AV := cdB.enc r
set_option maxHeartbeats 4000000 in
set_option maxRecDepth 100000 in
theorem law03_SameClause_sem (x0 : Clause) (x1 : Clause) (r : Bool) (h : law03_SameClause x0 x1 = some r) : Sem E0 ⟨none, false⟩ cb_law03_SameClause ⟨Fr 38 (pairs0 0 (cs_law03_SameClause.enc (x0, x1, ()))), []⟩ fun e s' => (e = .normal ∨ e = .ret) ∧ ∃ xs, resA E0.P s'.fr s'.hp Tryz.f81.results.toList = some xs ∧ retA xs = er_law03_SameClause r := by
 unfold law03_SameClause at h
 refine Sem.wkQ (Sem.wk (s1 := ⟨Fr 38 [(0, .ag [.v (.int .u8 x0.1), .st x0.2.1, .v (.bool x0.2.2.1), .sl 1 (x0.2.2.2.1.map cdS.enc), .v (.int .i64 x0.2.2.2.2)]), (1, .ag [.v (.int .u8 x1.1), .st x1.2.1, .v (.bool x1.2.2.1), .sl 1 (x1.2.2.2.1.map cdS.enc), .v (.int .i64 x1.2.2.2.2)])], []⟩) (Wk.fr kr) ?_)
 let p1 : Option Blk := some ⟨5, 70, [.ag [.v (.int .u8 x1.1), .st x1.2.1, .v (.bool x1.2.2.1), .sl 1 (x1.2.2.2.1.map cdS.enc), .v (.int .i64 x1.2.2.2.2)]], false⟩
 let p2 : Option Blk := some ⟨5, 70, [.ag [.v (.int .u8 x0.1), .st x0.2.1, .v (.bool x0.2.2.1), .sl 1 (x0.2.2.2.1.map cdS.enc), .v (.int .i64 x0.2.2.2.2)]], false⟩
 let p3 : Nat × AV := (3, .pt 1 0 0)
 let p4 : Nat × AV := (2, .pt 0 0 0)
 refine Sem.sq E0_ok [p4, p3] [p2, p1] ?_
 refine Sem.seq ?_
 obtain ⟨j3, hj3, h⟩ := Option.bind_eq_some_iff.1 h
 refine Sem.runS (s1 := ⟨Fr 38 [(4, .v (.bool j3))], []⟩) ?_ ?_
 ·refine RunS.segF (n := 38) E0_ok 6 [p4, p3, (10, .v (.bool (x0.1 == x1.1)))] [p2, p1] kr ?_
  rcases Bool.eq_false_or_eq_true (x0.1 == x1.1) with hc4 | hc4
  ·rw [if_pos hc4] at hj3
   rw [hc4]
   refine RunS.segF (n := 38) E0_ok 7 [p4, p3, (17, .v (.bool (x0.2.1 == x1.2.1)))] [p2, p1] kr ?_
   rcases Bool.eq_false_or_eq_true (x0.2.1 == x1.2.1) with hc5 | hc5
   ·rw [if_pos hc5] at hj3
    rw [hc5]
    refine RunS.segF (n := 38) E0_ok 7 [p4, p3, (24, .v (.bool (x0.2.2.1 == x1.2.2.1)))] [p2, p1] kr ?_
    rcases Bool.eq_false_or_eq_true (x0.2.2.1 == x1.2.2.1) with hc6 | hc6
    ·rw [if_pos hc6] at hj3
     rw [hc6]
     refine RunS.segF (n := 38) E0_ok 7 [p4, p3, (31, .v (.bool (x0.2.2.2.2 == x1.2.2.2.2)))] [p2, p1] kr ?_
     rcases Bool.eq_false_or_eq_true (x0.2.2.2.2 == x1.2.2.2.2) with hc7 | hc7
     ·rw [if_pos hc7] at hj3
      rw [hc7]
      refine RunS.segF (n := 38) E0_ok 4 [(31, .v (.bool true)), (33, .sl 1 (x0.2.2.2.1.map cdS.enc)), (35, .sl 1 (x1.2.2.2.1.map cdS.enc))] [p2, p1] kr ?_
      obtain ⟨v1, hv1, hj3⟩ := Option.bind_eq_some_iff.1 hj3
      refine RunS.callV (caps := []) (xs := [.sl 1 (x0.2.2.2.1.map cdS.enc), .sl 1 (x1.2.2.2.1.map cdS.enc)]) (u := (x0.2.2.2.1, x1.2.2.2.1, ())) rfl rfl x_slices_Equal_string_string rfl kr kr kr (Sl.cons (Sm.enc (c := (cdL 1 cdS)) (v := x0.2.2.2.1)) (Sl.cons (Sm.enc (c := (cdL 1 cdS)) (v := x1.2.2.2.1)) Sl.nil)) (.inl kr) hv1 ?_
      refine RunS.segF (n := 38) E0_ok 2 [(4, .v (.bool v1))] [p2, p1] kr ?_
      have hq := Option.some.inj hj3; subst hq
      exact RunS.done rfl (Wk.sel2 [] kr kr kr trivial ⟨lu kr kr, trivial⟩)
     ·rw [if_f hc7] at hj3
      rw [hc7]
      refine RunS.segF (n := 38) E0_ok 7 [(4, .v (.bool false))] [p2, p1] kr ?_
      have hq := Option.some.inj hj3; subst hq
      exact RunS.done rfl (Wk.sel2 [] kr kr kr trivial ⟨lu kr kr, trivial⟩)
    ·rw [if_f hc6] at hj3
     rw [hc6]
     refine RunS.segF (n := 38) E0_ok 14 [(4, .v (.bool false))] [p2, p1] kr ?_
     have hq := Option.some.inj hj3; subst hq
     exact RunS.done rfl (Wk.sel2 [] kr kr kr trivial ⟨lu kr kr, trivial⟩)
   ·rw [if_f hc5] at hj3
    rw [hc5]
    refine RunS.segF (n := 38) E0_ok 21 [(4, .v (.bool false))] [p2, p1] kr ?_
    have hq := Option.some.inj hj3; subst hq
    exact RunS.done rfl (Wk.sel2 [] kr kr kr trivial ⟨lu kr kr, trivial⟩)
  ·rw [if_f hc4] at hj3
   rw [hc4]
   refine RunS.segF (n := 38) E0_ok 28 [(4, .v (.bool false))] [p2, p1] kr ?_
   have hq := Option.some.inj hj3; subst hq
   exact RunS.done rfl (Wk.sel2 [] kr kr kr trivial ⟨lu kr kr, trivial⟩)
 refine Sem.ret ?_
 have hq := Option.some.inj h; subst hq
 exact ⟨⟨Fr 38 [(4, .v (.bool j3))], []⟩, (Wk.fr kr), .inr rfl, [.v (.bool j3)], kr, kr⟩
def t_law03_SameClause : List AV → Option AV := told cs_law03_SameClause (fun a => law03_SameClause a.1 a.2.1) er_law03_SameClause
theorem x_law03_SameClause : XOk 81 t_law03_SameClause := by
 refine xok_of_sem Tryz.func81 (c := cb_law03_SameClause) ?h2 ⟨Tryz.call81⟩ cs_law03_SameClause (fun a => law03_SameClause a.1 a.2.1) er_law03_SameClause (fun a => (by show 2 ≤ 38; decide)) ?h3 ?h4
 case h2 => kernel_rfl
 case h3 => intro b; kernel_rfl
 case h4 => exact fun a b h => law03_SameClause_sem a.1 a.2.1 b h
/- slices.EqualFunc[[]trestle/api.Clause,[]trestle/api.Clause,trestle/api.Clause,trestle/api.Clause] -/
noncomputable def cb_slices_EqualFunc_api_Clause_api_Clause_api_Clause_api_Clause__law03_SameClause : Code := codeOf Tryz.f80
def slices_EqualFunc_api_Clause_api_Clause_api_Clause_api_Clause__law03_SameClause_l1 (x0 : (List Clause)) (x1 : (List Clause)) : Nat → Int → Option ((Unit) ⊕ (Bool))
 | 0, _ => none
 | f + 1, c2 =>
  if (decide (c2 < (x0.length : Int))) = true then
  (idx x0 c2).bind fun v4 =>
  (idx x1 c2).bind fun v5 =>
  (law03_SameClause v4 v5).bind fun v6 =>
  if (!v6) = true then
  some (.inr false)
  else
  slices_EqualFunc_api_Clause_api_Clause_api_Clause_api_Clause__law03_SameClause_l1 x0 x1 f (wr .i64 (c2 + 1))
  else
  some (.inl ())
def slices_EqualFunc_api_Clause_api_Clause_api_Clause_api_Clause__law03_SameClause (x0 : (List Clause)) (x1 : (List Clause)) : Option (Bool) :=
 if ((x0.length : Int) != (x1.length : Int)) = true then
 some false
 else
 (slices_EqualFunc_api_Clause_api_Clause_api_Clause_api_Clause__law03_SameClause_l1 x0 x1 100000 0).bind fun r9 =>
 match r9 with
 | (.inl w10) =>
  some true
 | (.inr w11) =>
  some w11
def cs_slices_EqualFunc_api_Clause_api_Clause_api_Clause_api_Clause__law03_SameClause : Cs ((List Clause) × (List Clause) × Unit × Unit) := (csC (cdL 5 cdClause) (csC (cdL 5 cdClause) (csC (cdF 81 csN (fun _ => rfl)) csN)))
def er_slices_EqualFunc_api_Clause_api_Clause_api_Clause_api_Clause__law03_SameClause (r : Bool) : AV := cdB.enc r
set_option maxHeartbeats 4000000 in
set_option maxRecDepth 100000 in
theorem slices_EqualFunc_api_Clause_api_Clause_api_Clause_api_Clause__law03_SameClause_l1_ok (x0 : (List Clause)) (x1 : (List Clause)) : ∀ (f : Nat) (c2 : Int) (r : (Unit) ⊕ (Bool)), slices_EqualFunc_api_Clause_api_Clause_api_Clause_api_Clause__law03_SameClause_l1 x0 x1 f c2 = some r → SemN E0 ⟨none, false⟩ (pc cb_slices_EqualFunc_api_Clause_api_Clause_api_Clause_api_Clause__law03_SameClause [1, 1, 0, 1, 0, 0]) f ⟨Fr 32 [(1, .sl 5 (x1.map cdClause.enc)), (2, .fn 81 [] []), (15, .sl 5 (x0.map cdClause.enc)), (16, .v (.int .i64 (x0.length : Int))), (17, .v (.int .i64 c2))], []⟩ (fun e s => match r with
 | (.inl w) => e = (.exit 0) ∧ Wk E0 s ⟨Fr 32 [], []⟩
 | (.inr w) => e = .ret ∧ Wk E0 s ⟨Fr 32 [(6, .v (.bool w))], []⟩) := by
 intro f
 induction f with
 | zero => intro c2 r h; cases h
 | succ f ih0 =>
  intro c2 r h
  have ih := fun (c2 : Int) => ih0 c2 r
  unfold slices_EqualFunc_api_Clause_api_Clause_api_Clause_api_Clause__law03_SameClause_l1 at h
  refine SemN.succ ?_
  let p1 : Nat × AV := (17, .v (.int .i64 c2))
  let p2 : Nat × AV := (16, .v (.int .i64 (x0.length : Int)))
  let p3 : Nat × AV := (15, .sl 5 (x0.map cdClause.enc))
  let p4 : Nat × AV := (2, .fn 81 [] [])
  let p5 : Nat × AV := (1, .sl 5 (x1.map cdClause.enc))
  refine Sem.sq E0_ok [p5, p4, p3, p2, p1, (18, .v (.bool (decide (c2 < (x0.length : Int)))))] [] ?_
  refine Sem.seq ?_
  refine Sem.cond (b := (decide (c2 < (x0.length : Int)))) kr (fun hb3 => ?_) (fun hb3 => ?_)
  ·rw [if_pos hb3] at h
   refine Sem.skip ?_
   refine Sem.seq ?_
   refine Sem.block ?_
   refine Sem.seq ?_
   obtain ⟨v4, hv4, h⟩ := Option.bind_eq_some_iff.1 h
   let p6 : Option Blk := some ⟨5, 70, [.ag [.v (.int .u8 v4.1), .st v4.2.1, .v (.bool v4.2.2.1), .sl 1 (v4.2.2.2.1.map cdS.enc), .v (.int .i64 v4.2.2.2.2)]], false⟩
   refine Sem.runS (s1 := ⟨Fr 32 [p5, p4, (7, .v (.int .i64 c2)), (8, .pt 0 0 0), p3, p2, p1], [p6]⟩) ?_ ?_
   ·refine RunS.segF (n := 32) E0_ok 1 [p5, p4, p3, p2, p1, (19, .v (.int .i64 c2))] [] kr ?_
    refine RunS.one E0_ok 0 rfl (op_q (wantedA_none rfl) rfl (q_indexAddr (a := .sl 5 (x0.map cdClause.enc)) (b := .v (.int .i64 c2)) kr kr (ix_sl (e := cdClause.enc) (el := 70) (k := 5) (ki := .i64) kr kr hv4))) ?_
    exact RunS.last E0_ok
   refine Sem.seq ?_
   obtain ⟨v5, hv5, h⟩ := Option.bind_eq_some_iff.1 h
   let p7 : Option Blk := some ⟨5, 70, [.ag [.v (.int .u8 v5.1), .st v5.2.1, .v (.bool v5.2.2.1), .sl 1 (v5.2.2.2.1.map cdS.enc), .v (.int .i64 v5.2.2.2.2)]], false⟩
   refine Sem.runS (s1 := ⟨Fr 32 [p5, p4, (8, .pt 0 0 0), (9, .pt 1 0 0), p3, p2, p1], [p6, p7]⟩) ?_ ?_
   ·refine RunS.segF (n := 32) E0_ok 2 [p5, p4, (8, .pt 0 0 0), p3, p2, p1, (22, .sl 5 (x1.map cdClause.enc)), (23, .v (.int .i64 c2))] [p6] kr ?_
    refine RunS.one E0_ok 0 rfl (op_q (wantedA_none rfl) rfl (q_indexAddr (a := .sl 5 (x1.map cdClause.enc)) (b := .v (.int .i64 c2)) kr kr (ix_sl (e := cdClause.enc) (el := 70) (k := 5) (ki := .i64) kr kr hv5))) ?_
    exact RunS.last E0_ok
   refine Sem.seq ?_
   obtain ⟨v6, hv6, h⟩ := Option.bind_eq_some_iff.1 h
   refine Sem.runS (s1 := ⟨Fr 32 [p5, p4, p3, p2, p1, (30, .v (.bool (!v6)))], []⟩) ?_ ?_
   ·refine RunS.segF (n := 32) E0_ok 3 [p5, p4, p3, p2, p1, (26, .fn 81 [] []), (27, .ag [.v (.int .u8 v4.1), .st v4.2.1, .v (.bool v4.2.2.1), .sl 1 (v4.2.2.2.1.map cdS.enc), .v (.int .i64 v4.2.2.2.2)]), (28, .ag [.v (.int .u8 v5.1), .st v5.2.1, .v (.bool v5.2.2.1), .sl 1 (v5.2.2.2.1.map cdS.enc), .v (.int .i64 v5.2.2.2.2)])] [p6, p7] kr ?_
    refine RunS.callV (caps := []) (xs := [.ag [.v (.int .u8 v4.1), .st v4.2.1, .v (.bool v4.2.2.1), .sl 1 (v4.2.2.2.1.map cdS.enc), .v (.int .i64 v4.2.2.2.2)], .ag [.v (.int .u8 v5.1), .st v5.2.1, .v (.bool v5.2.2.1), .sl 1 (v5.2.2.2.1.map cdS.enc), .v (.int .i64 v5.2.2.2.2)]]) (u := (v4, v5, ())) rfl rfl x_law03_SameClause rfl (wantedA_none rfl) kr kr (Sl.cons (Sm.enc (c := cdClause) (v := v4)) (Sl.cons (Sm.enc (c := cdClause) (v := v5)) Sl.nil)) (.inl kr) hv6 ?_
    refine RunS.segF (n := 32) E0_ok 1 [p5, p4, p3, p2, p1, (30, .v (.bool (!v6)))] [p6, p7] kr ?_
    exact RunS.done rfl (Wk.sel2 [] kr kr kr trivial ⟨lu kr kr, lu kr kr, lu kr kr, lu kr kr, lu kr kr, lu kr kr, trivial⟩)
   refine Sem.cond (b := (!v6)) kr (fun hb7 => ?_) (fun hb7 => ?_)
   ·rw [if_pos hb7] at h
    refine Sem.sq E0_ok [(6, .v (.bool false))] [] ?_
    refine Sem.ret ?_
    have hq := Option.some.inj h; subst hq
    exact ⟨rfl, (Wk.fr kr)⟩
   ·rw [if_f hb7] at h
    refine Sem.skip ?_
    let p8 : Nat × AV := (17, .v (.int .i64 (wr .i64 (c2 + 1))))
    refine Sem.rg E0_ok [p5, p4, p3, p2, p8] [] ?_
    exact SemN.wk (s1 := ⟨Fr 32 [p5, p4, p3, p2, p8], []⟩) (Wk.fr kr) (ih (wr .i64 (c2 + 1)) h)
  ·rw [if_f hb3] at h
   refine Sem.exit ?_
   have hq := Option.some.inj h; subst hq
   exact ⟨rfl, (Wk.fr kr)⟩
set_option maxHeartbeats 4000000 in
set_option maxRecDepth 100000 in
theorem slices_EqualFunc_api_Clause_api_Clause_api_Clause_api_Clause__law03_SameClause_sem (x0 : (List Clause)) (x1 : (List Clause)) (r : Bool) (h : slices_EqualFunc_api_Clause_api_Clause_api_Clause_api_Clause__law03_SameClause x0 x1 = some r) : Sem E0 ⟨none, false⟩ cb_slices_EqualFunc_api_Clause_api_Clause_api_Clause_api_Clause__law03_SameClause ⟨Fr 32 (pairs0 0 (cs_slices_EqualFunc_api_Clause_api_Clause_api_Clause_api_Clause__law03_SameClause.enc (x0, x1, (), ()))), []⟩ fun e s' => (e = .normal ∨ e = .ret) ∧ ∃ xs, resA E0.P s'.fr s'.hp Tryz.f80.results.toList = some xs ∧ retA xs = er_slices_EqualFunc_api_Clause_api_Clause_api_Clause_api_Clause__law03_SameClause r := by
 unfold slices_EqualFunc_api_Clause_api_Clause_api_Clause_api_Clause__law03_SameClause at h
 let p1 : Nat × AV := (2, .fn 81 [] [])
 let p2 : Nat × AV := (1, .sl 5 (x1.map cdClause.enc))
 let p3 : Nat × AV := (0, .sl 5 (x0.map cdClause.enc))
 refine Sem.wkQ (Sem.wk (s1 := ⟨Fr 32 [p3, p2, p1], []⟩) (Wk.fr kr) ?_)
 refine Sem.sq E0_ok [p3, p2, p1] [] ?_
 refine Sem.seq ?_
 refine Sem.seq ?_
 refine Sem.runS (s1 := ⟨Fr 32 [p3, p2, p1, (14, .v (.bool ((x0.length : Int) != (x1.length : Int))))], []⟩) ?_ ?_
 ·refine RunS.segF (n := 32) E0_ok 1 [p3, p2, p1, (10, .sl 5 (x0.map cdClause.enc))] [] kr ?_
  refine RunS.one E0_ok 0 rfl (op_q (wantedA_none rfl) rfl (q_len (a := .sl 5 (x0.map cdClause.enc)) kr (len_sl (el := 70) kr))) ?_
  refine RunS.segF (n := 32) E0_ok 1 [p3, p2, p1, (11, .v (.int .i64 (x0.length : Int))), (12, .sl 5 (x1.map cdClause.enc))] [] kr ?_
  refine RunS.one E0_ok 0 rfl (op_q (wantedA_none rfl) rfl (q_len (a := .sl 5 (x1.map cdClause.enc)) kr (len_sl (el := 70) kr))) ?_
  exact RunS.last E0_ok
 refine Sem.cond (b := ((x0.length : Int) != (x1.length : Int))) kr (fun hb1 => ?_) (fun hb1 => ?_)
 ·rw [if_pos hb1] at h
  refine Sem.sq E0_ok [(6, .v (.bool false))] [] ?_
  refine Sem.ret ?_
  have hq := Option.some.inj h; subst hq
  exact ⟨⟨Fr 32 [(6, .v (.bool false))], []⟩, (Wk.fr kr), .inr rfl, [.v (.bool false)], kr, kr⟩
 ·rw [if_f hb1] at h
  refine Sem.skip ?_
  refine Sem.seq ?_
  refine Sem.seq ?_
  let p4 : Nat × AV := (17, .v (.int .i64 0))
  let p5 : Nat × AV := (16, .v (.int .i64 (x0.length : Int)))
  let p6 : Nat × AV := (15, .sl 5 (x0.map cdClause.enc))
  refine Sem.runS (s1 := ⟨Fr 32 [p2, p1, p6, p5, p4], []⟩) ?_ ?_
  ·refine RunS.segF (n := 32) E0_ok 1 [p2, p1, p6] [] kr ?_
   refine RunS.one E0_ok 0 rfl (op_q (wantedA_none rfl) rfl (q_len (a := .sl 5 (x0.map cdClause.enc)) kr (len_sl (el := 70) kr))) ?_
   exact RunS.last E0_ok
  refine Sem.block ?_
  obtain ⟨r9, hr9, h⟩ := Option.bind_eq_some_iff.1 h
  refine Sem.loop (n := 100000) ?_
  rcases r9 with w10 | w11
  ·try dsimp only at h
   refine Sem.cutN (SemN.wk (s1 := ⟨Fr 32 [p2, p1, p6, p5, p4], []⟩) (Wk.fr kr) (slices_EqualFunc_api_Clause_api_Clause_api_Clause_api_Clause__law03_SameClause_l1_ok x0 x1 _ 0 _ hr9)) ?_
   refine Sem.sq E0_ok [(6, .v (.bool true))] [] ?_
   refine Sem.ret ?_
   have hq := Option.some.inj h; subst hq
   exact ⟨⟨Fr 32 [(6, .v (.bool true))], []⟩, (Wk.fr kr), .inr rfl, [.v (.bool true)], kr, kr⟩
  ·try dsimp only at h
   refine Sem.cutN (SemN.wk (s1 := ⟨Fr 32 [p2, p1, p6, p5, p4], []⟩) (Wk.fr kr) (slices_EqualFunc_api_Clause_api_Clause_api_Clause_api_Clause__law03_SameClause_l1_ok x0 x1 _ 0 _ hr9)) ?_
   have hq := Option.some.inj h; subst hq
   exact ⟨⟨Fr 32 [(6, .v (.bool w11))], []⟩, (Wk.fr kr), .inr rfl, [.v (.bool w11)], kr, kr⟩
def t_slices_EqualFunc_api_Clause_api_Clause_api_Clause_api_Clause__law03_SameClause : List AV → Option AV := told cs_slices_EqualFunc_api_Clause_api_Clause_api_Clause_api_Clause__law03_SameClause (fun a => slices_EqualFunc_api_Clause_api_Clause_api_Clause_api_Clause__law03_SameClause a.1 a.2.1) er_slices_EqualFunc_api_Clause_api_Clause_api_Clause_api_Clause__law03_SameClause
theorem x_slices_EqualFunc_api_Clause_api_Clause_api_Clause_api_Clause__law03_SameClause : XOk 80 t_slices_EqualFunc_api_Clause_api_Clause_api_Clause_api_Clause__law03_SameClause := by
 refine xok_of_sem Tryz.func80 (c := cb_slices_EqualFunc_api_Clause_api_Clause_api_Clause_api_Clause__law03_SameClause) ?h2 ⟨Tryz.call80⟩ cs_slices_EqualFunc_api_Clause_api_Clause_api_Clause_api_Clause__law03_SameClause (fun a => slices_EqualFunc_api_Clause_api_Clause_api_Clause_api_Clause__law03_SameClause a.1 a.2.1) er_slices_EqualFunc_api_Clause_api_Clause_api_Clause_api_Clause__law03_SameClause (fun a => (by show 3 ≤ 32; decide)) ?h3 ?h4
 case h2 => kernel_rfl
 case h3 => intro b; kernel_rfl
 case h4 => exact fun a b h => slices_EqualFunc_api_Clause_api_Clause_api_Clause_api_Clause__law03_SameClause_sem a.1 a.2.1 b h
/- trestle/trestlelaw03.Same -/
noncomputable def cb_law03_Same : Code := codeOf Tryz.f29
def law03_Same (x0 : (List Clause)) (x1 : (List Clause)) : Option (Bool) :=
 (slices_EqualFunc_api_Clause_api_Clause_api_Clause_api_Clause__law03_SameClause x0 x1).bind fun v1 =>
 some v1
def cs_law03_Same : Cs ((List Clause) × (List Clause) × Unit) := (csC (cdL 5 cdClause) (csC (cdL 5 cdClause) csN))
def er_law03_Same (r : Bool) : AV := cdB.enc r
set_option maxHeartbeats 4000000 in
set_option maxRecDepth 100000 in
theorem law03_Same_sem (x0 : (List Clause)) (x1 : (List Clause)) (r : Bool) (h : law03_Same x0 x1 = some r) : Sem E0 ⟨none, false⟩ cb_law03_Same ⟨Fr 8 (pairs0 0 (cs_law03_Same.enc (x0, x1, ()))), []⟩ fun e s' => (e = .normal ∨ e = .ret) ∧ ∃ xs, resA E0.P s'.fr s'.hp Tryz.f29.results.toList = some xs ∧ retA xs = er_law03_Same r := by
 unfold law03_Same at h
 let p1 : Nat × AV := (1, .sl 5 (x1.map cdClause.enc))
 let p2 : Nat × AV := (0, .sl 5 (x0.map cdClause.enc))
 refine Sem.wkQ (Sem.wk (s1 := ⟨Fr 8 [p2, p1], []⟩) (Wk.fr kr) ?_)
 refine Sem.sq E0_ok [p2, p1] [] ?_
 refine Sem.seq ?_
 obtain ⟨v1, hv1, h⟩ := Option.bind_eq_some_iff.1 h
 refine Sem.runS (s1 := ⟨Fr 8 [(4, .v (.bool v1))], []⟩) ?_ ?_
 ·refine RunS.segF (n := 8) E0_ok 2 [(5, .sl 5 (x0.map cdClause.enc)), (6, .sl 5 (x1.map cdClause.enc))] [] kr ?_
  refine RunS.callV (caps := []) (xs := [.sl 5 (x0.map cdClause.enc), .sl 5 (x1.map cdClause.enc), .fn 81 [] []]) (u := (x0, x1, (), ())) rfl rfl x_slices_EqualFunc_api_Clause_api_Clause_api_Clause_api_Clause__law03_SameClause rfl (wantedA_none rfl) kr kr (Sl.cons (Sm.enc (c := (cdL 5 cdClause)) (v := x0)) (Sl.cons (Sm.enc (c := (cdL 5 cdClause)) (v := x1)) (Sl.cons (Sm.fn Sl.nil) Sl.nil))) (.inl kr) hv1 ?_
  exact RunS.last E0_ok
 refine Sem.ret ?_
 have hq := Option.some.inj h; subst hq
 exact ⟨⟨Fr 8 [(4, .v (.bool v1))], []⟩, (Wk.fr kr), .inr rfl, [.v (.bool v1)], kr, kr⟩
def t_law03_Same : List AV → Option AV := told cs_law03_Same (fun a => law03_Same a.1 a.2.1) er_law03_Same
theorem x_law03_Same : XOk 29 t_law03_Same := by
 refine xok_of_sem Tryz.func29 (c := cb_law03_Same) ?h2 ⟨Tryz.call29⟩ cs_law03_Same (fun a => law03_Same a.1 a.2.1) er_law03_Same (fun a => (by show 2 ≤ 8; decide)) ?h3 ?h4
 case h2 => kernel_rfl
 case h3 => intro b; kernel_rfl
 case h4 => exact fun a b h => law03_Same_sem a.1 a.2.1 b h
/- trestle/trestlelaw03.checks -/
noncomputable def cb_law03_checks : Code := codeOf Tryz.f16
def law03_checks (x0 : (List Clause)) : Option (Bool) :=
 (law03_Copy x0).bind fun v1 =>
 (court_Check v1).bind fun v2 =>
 (ref03_Check x0).bind fun v3 =>
 (if (v2.1 == v3.1) = true then if (v2.2 == v3.2) = true then (law03_Same v1 x0).bind fun v4 =>
 some v4 else some false else some false).bind fun j6 =>
 some j6
def cs_law03_checks : Cs ((List Clause) × Unit) := (csC (cdL 5 cdClause) csN)
def er_law03_checks (r : Bool) : AV := cdB.enc r
set_option maxHeartbeats 4000000 in
set_option maxRecDepth 100000 in
theorem law03_checks_sem (x0 : (List Clause)) (r : Bool) (h : law03_checks x0 = some r) : Sem E0 ⟨none, false⟩ cb_law03_checks ⟨Fr 33 (pairs0 0 (cs_law03_checks.enc (x0, ()))), []⟩ fun e s' => (e = .normal ∨ e = .ret) ∧ ∃ xs, resA E0.P s'.fr s'.hp Tryz.f16.results.toList = some xs ∧ retA xs = er_law03_checks r := by
 unfold law03_checks at h
 let p1 : Nat × AV := (0, .sl 5 (x0.map cdClause.enc))
 refine Sem.wkQ (Sem.wk (s1 := ⟨Fr 33 [p1], []⟩) (Wk.fr kr) ?_)
 refine Sem.sq E0_ok [p1] [] ?_
 refine Sem.seq ?_
 obtain ⟨v1, hv1, h⟩ := Option.bind_eq_some_iff.1 h
 let p2 : Nat × AV := (3, .sl 5 (v1.map cdClause.enc))
 refine Sem.runS (s1 := ⟨Fr 33 [p1, p2], []⟩) ?_ ?_
 ·refine RunS.segF (n := 33) E0_ok 1 [p1, (8, .sl 5 (x0.map cdClause.enc))] [] kr ?_
  refine RunS.callV (caps := []) (xs := [.sl 5 (x0.map cdClause.enc)]) (u := (x0, ())) rfl rfl x_law03_Copy rfl (wantedA_none rfl) kr kr (Sl.cons (Sm.enc (c := (cdL 5 cdClause)) (v := x0)) Sl.nil) (.inr kr) hv1 ?_
  exact RunS.last E0_ok
 refine Sem.seq ?_
 obtain ⟨v2, hv2, h⟩ := Option.bind_eq_some_iff.1 h
 let p3 : Nat × AV := (5, .v (.int .i64 v2.2))
 let p4 : Nat × AV := (4, .v (.int .i64 v2.1))
 refine Sem.runS (s1 := ⟨Fr 33 [p1, p2, p4, p3], []⟩) ?_ ?_
 ·refine RunS.segF (n := 33) E0_ok 1 [p1, p2, (11, .sl 5 (v1.map cdClause.enc))] [] kr ?_
  refine RunS.callV (caps := []) (xs := [.sl 5 (v1.map cdClause.enc)]) (u := (v1, ())) rfl rfl x_court_Check rfl (wantedA_none rfl) kr kr (Sl.cons (Sm.enc (c := (cdL 5 cdClause)) (v := v1)) Sl.nil) (.inl kr) hv2 ?_
  exact RunS.last E0_ok
 refine Sem.seq ?_
 obtain ⟨v3, hv3, h⟩ := Option.bind_eq_some_iff.1 h
 refine Sem.runS (s1 := ⟨Fr 33 [p1, p2, p4, p3, (6, .v (.int .i64 v3.1)), (7, .v (.int .i64 v3.2))], []⟩) ?_ ?_
 ·refine RunS.segF (n := 33) E0_ok 1 [p1, p2, p4, p3, (16, .sl 5 (x0.map cdClause.enc))] [] kr ?_
  refine RunS.callV (caps := []) (xs := [.sl 5 (x0.map cdClause.enc)]) (u := (x0, ())) rfl rfl x_ref03_Check rfl (wantedA_none rfl) kr kr (Sl.cons (Sm.enc (c := (cdL 5 cdClause)) (v := x0)) Sl.nil) (.inl kr) hv3 ?_
  exact RunS.last E0_ok
 refine Sem.seq ?_
 obtain ⟨j6, hj6, h⟩ := Option.bind_eq_some_iff.1 h
 refine Sem.runS (s1 := ⟨Fr 33 [(2, .v (.bool j6))], []⟩) ?_ ?_
 ·refine RunS.segF (n := 33) E0_ok 4 [p1, p2, p3, (7, .v (.int .i64 v3.2)), (23, .v (.bool (v2.1 == v3.1)))] [] kr ?_
  rcases Bool.eq_false_or_eq_true (v2.1 == v3.1) with hc7 | hc7
  ·rw [if_pos hc7] at hj6
   rw [hc7]
   refine RunS.segF (n := 33) E0_ok 5 [p1, p2, (28, .v (.bool (v2.2 == v3.2)))] [] kr ?_
   rcases Bool.eq_false_or_eq_true (v2.2 == v3.2) with hc8 | hc8
   ·rw [if_pos hc8] at hj6
    rw [hc8]
    refine RunS.segF (n := 33) E0_ok 2 [(28, .v (.bool true)), (29, .sl 5 (v1.map cdClause.enc)), (30, .sl 5 (x0.map cdClause.enc))] [] kr ?_
    obtain ⟨v4, hv4, hj6⟩ := Option.bind_eq_some_iff.1 hj6
    refine RunS.callV (caps := []) (xs := [.sl 5 (v1.map cdClause.enc), .sl 5 (x0.map cdClause.enc)]) (u := (v1, x0, ())) rfl rfl x_law03_Same rfl kr kr kr (Sl.cons (Sm.enc (c := (cdL 5 cdClause)) (v := v1)) (Sl.cons (Sm.enc (c := (cdL 5 cdClause)) (v := x0)) Sl.nil)) (.inl kr) hv4 ?_
    refine RunS.segF (n := 33) E0_ok 2 [(2, .v (.bool v4))] [] kr ?_
    have hq := Option.some.inj hj6; subst hq
    exact RunS.done rfl (Wk.fr kr)
   ·rw [if_f hc8] at hj6
    rw [hc8]
    refine RunS.segF (n := 33) E0_ok 5 [(2, .v (.bool false))] [] kr ?_
    have hq := Option.some.inj hj6; subst hq
    exact RunS.done rfl (Wk.fr kr)
  ·rw [if_f hc7] at hj6
   rw [hc7]
   refine RunS.segF (n := 33) E0_ok 10 [(2, .v (.bool false))] [] kr ?_
   have hq := Option.some.inj hj6; subst hq
   exact RunS.done rfl (Wk.fr kr)
 refine Sem.ret ?_
 have hq := Option.some.inj h; subst hq
 exact ⟨⟨Fr 33 [(2, .v (.bool j6))], []⟩, (Wk.fr kr), .inr rfl, [.v (.bool j6)], kr, kr⟩
def t_law03_checks : List AV → Option AV := told cs_law03_checks (fun a => law03_checks a.1) er_law03_checks
theorem x_law03_checks : XOk 16 t_law03_checks := by
 refine xok_of_sem Tryz.func16 (c := cb_law03_checks) ?h2 ⟨Tryz.call16⟩ cs_law03_checks (fun a => law03_checks a.1) er_law03_checks (fun a => (by show 1 ≤ 33; decide)) ?h3 ?h4
 case h2 => kernel_rfl
 case h3 => intro b; kernel_rfl
 case h4 => exact fun a b h => law03_checks_sem a.1 b h
/- trestle/trestlelaw03.CourtChecks -/
noncomputable def cb_law03_CourtChecks : Code := codeOf Tryz.f3
def law03_CourtChecks (x0 : (List Clause)) : Option (Bool) :=
 (law03_Few x0).bind fun v1 =>
 (if (!v1) = true then law03_awake.bind fun v2 =>
 some v2 else (law03_checks x0).bind fun v3 =>
 if v3 = true then law03_awake.bind fun v4 =>
 some v4 else some false).bind fun j6 =>
 some j6
def cs_law03_CourtChecks : Cs ((List Clause) × Unit) := (csC (cdL 5 cdClause) csN)
def er_law03_CourtChecks (r : Bool) : AV := cdB.enc r
set_option maxHeartbeats 4000000 in
set_option maxRecDepth 100000 in
theorem law03_CourtChecks_sem (x0 : (List Clause)) (r : Bool) (h : law03_CourtChecks x0 = some r) : Sem E0 ⟨none, false⟩ cb_law03_CourtChecks ⟨Fr 13 (pairs0 0 (cs_law03_CourtChecks.enc (x0, ()))), []⟩ fun e s' => (e = .normal ∨ e = .ret) ∧ ∃ xs, resA E0.P s'.fr s'.hp Tryz.f3.results.toList = some xs ∧ retA xs = er_law03_CourtChecks r := by
 unfold law03_CourtChecks at h
 let p1 : Nat × AV := (0, .sl 5 (x0.map cdClause.enc))
 refine Sem.wkQ (Sem.wk (s1 := ⟨Fr 13 [p1], []⟩) (Wk.fr kr) ?_)
 refine Sem.sq E0_ok [p1] [] ?_
 refine Sem.seq ?_
 obtain ⟨v1, hv1, h⟩ := Option.bind_eq_some_iff.1 h
 obtain ⟨j6, hj6, h⟩ := Option.bind_eq_some_iff.1 h
 refine Sem.runS (s1 := ⟨Fr 13 [(2, .v (.bool j6))], []⟩) ?_ ?_
 ·refine RunS.segF (n := 13) E0_ok 1 [p1, (3, .sl 5 (x0.map cdClause.enc))] [] kr ?_
  refine RunS.callV (caps := []) (xs := [.sl 5 (x0.map cdClause.enc)]) (u := (x0, ())) rfl rfl x_law03_Few rfl (wantedA_none rfl) kr kr (Sl.cons (Sm.enc (c := (cdL 5 cdClause)) (v := x0)) Sl.nil) (.inl kr) hv1 ?_
  refine RunS.segF (n := 13) E0_ok 2 [p1, (6, .v (.bool (!v1)))] [] kr ?_
  rcases Bool.eq_false_or_eq_true (!v1) with hc7 | hc7
  ·rw [if_pos hc7] at hj6
   rw [hc7]
   refine RunS.segF (n := 13) E0_ok 4 [(10, .v (.bool true))] [] kr ?_
   obtain ⟨v2, hv2, hj6⟩ := Option.bind_eq_some_iff.1 hj6
   refine RunS.callV (caps := []) (xs := []) (u := (())) rfl rfl x_law03_awake rfl kr kr kr Sl.nil (.inl kr) hv2 ?_
   refine RunS.segF (n := 13) E0_ok 2 [(2, .v (.bool v2))] [] kr ?_
   have hq := Option.some.inj hj6; subst hq
   exact RunS.done rfl (Wk.fr kr)
  ·rw [if_f hc7] at hj6
   rw [hc7]
   refine RunS.segF (n := 13) E0_ok 1 [(6, .v (.bool false)), (7, .sl 5 (x0.map cdClause.enc))] [] kr ?_
   obtain ⟨v3, hv3, hj6⟩ := Option.bind_eq_some_iff.1 hj6
   refine RunS.callV (caps := []) (xs := [.sl 5 (x0.map cdClause.enc)]) (u := (x0, ())) rfl rfl x_law03_checks rfl kr kr kr (Sl.cons (Sm.enc (c := (cdL 5 cdClause)) (v := x0)) Sl.nil) (.inl kr) hv3 ?_
   refine RunS.segF (n := 13) E0_ok 2 [(10, .v (.bool v3))] [] kr ?_
   rcases Bool.eq_false_or_eq_true v3 with hc8 | hc8
   ·rw [if_pos hc8] at hj6
    rw [hc8]
    obtain ⟨v4, hv4, hj6⟩ := Option.bind_eq_some_iff.1 hj6
    refine RunS.callV (caps := []) (xs := []) (u := (())) rfl rfl x_law03_awake rfl kr kr kr Sl.nil (.inl kr) hv4 ?_
    refine RunS.segF (n := 13) E0_ok 2 [(2, .v (.bool v4))] [] kr ?_
    have hq := Option.some.inj hj6; subst hq
    exact RunS.done rfl (Wk.fr kr)
   ·rw [if_f hc8] at hj6
    rw [hc8]
    refine RunS.segF (n := 13) E0_ok 3 [(2, .v (.bool false))] [] kr ?_
    have hq := Option.some.inj hj6; subst hq
    exact RunS.done rfl (Wk.fr kr)
 refine Sem.ret ?_
 have hq := Option.some.inj h; subst hq
 exact ⟨⟨Fr 13 [(2, .v (.bool j6))], []⟩, (Wk.fr kr), .inr rfl, [.v (.bool j6)], kr, kr⟩
def t_law03_CourtChecks : List AV → Option AV := told cs_law03_CourtChecks (fun a => law03_CourtChecks a.1) er_law03_CourtChecks
theorem x_law03_CourtChecks : XOk 3 t_law03_CourtChecks := by
 refine xok_of_sem Tryz.func3 (c := cb_law03_CourtChecks) ?h2 ⟨Tryz.call3⟩ cs_law03_CourtChecks (fun a => law03_CourtChecks a.1) er_law03_CourtChecks (fun a => (by show 1 ≤ 13; decide)) ?h3 ?h4
 case h2 => kernel_rfl
 case h3 => intro b; kernel_rfl
 case h4 => exact fun a b h => law03_CourtChecks_sem a.1 b h
theorem wr_i {n : Int} (h1 : -9223372036854775808 ≤ n) (h2 : n ≤ 9223372036854775807) : wr .i64 n = n := by
 show (if _ then n else _) = n
 rw [if_pos ⟨h1, h2⟩]
theorem idx_app {α : Type} (pre : List α) (v : α) (r : List α) : idx (pre ++ v :: r) (pre.length : Int) = some v := by
 unfold idx
 rw [if_pos (by omega)]
 simp
theorem wr_snoc {α : Type} (pre : List α) (v : α) (r : List α) (h : (pre ++ v :: r).length ≤ 1000000000) : wr .i64 ((pre.length : Int) + 1) = ((pre ++ [v]).length : Int) := by
 simp at h
 rw [wr_i (by omega) (by omega)]; simp
theorem lt_len {α : Type} (pre : List α) (v : α) (r : List α) : decide ((pre.length : Int) < ((pre ++ v :: r).length : Int)) = true := by
 simp; omega
theorem nlt_len {α : Type} (pre : List α) : decide ((pre.length : Int) < ((pre ++ []).length : Int)) = false := by simp
theorem capOk_le {b n : Nat} (hb : b ≤ 1000) (h : n ≤ 1000000000) : capOk b n = true := by
 have h1 : n * b ≤ 1000000000 * 1000 := Nat.mul_le_mul h hb
 unfold capOk
 rw [Bool.and_eq_true]
 exact ⟨Nat.ble_eq_true_of_le (by omega), Nat.ble_eq_true_of_le (by omega)⟩
/-- A loop over a list: v, its index, the rest. -/
def goU {α ρ : Type} (B : α → Nat → Option ρ → Option ρ) (D : Option ρ) : List α → Nat → Option ρ
 | [], _ => D
 | v :: r, i => B v i (goU B D r (i + 1))
theorem loopV {α ρ : Type} (xs : List α) (L : Nat → Int → Option ρ) (B : α → Nat → Option ρ → Option ρ) (D : Option ρ)
  (hs : ∀ f (pre : List α) v r, xs = pre ++ v :: r → L (f + 1) (pre.length : Int) = B v pre.length (L f (((pre ++ [v]).length : Nat) : Int))) (hd : ∀ f, L (f + 1) (xs.length : Int) = D) :
  ∀ (r pre : List α) (f : Nat), xs = pre ++ r → r.length < f → L f (pre.length : Int) = goU B D r pre.length
 | [], pre, f + 1, hx, _ => by
  rw [show pre.length = xs.length by rw [hx]; simp]
  exact hd f
 | v :: r, pre, f + 1, hx, hf => by
  rw [hs f pre v r hx]
  have := loopV xs L B D hs hd r (pre ++ [v]) f (by rw [hx]; simp) (by simp at hf; omega)
  rw [this]
  show B v pre.length _ = B v pre.length _
  congr 1
  simp
theorem loopV0 {α ρ : Type} (xs : List α) (L : Nat → Int → Option ρ) (B : α → Nat → Option ρ → Option ρ) (D : Option ρ) (f : Nat) (hf : xs.length < f)
  (hs : ∀ f (pre : List α) v r, xs = pre ++ v :: r → L (f + 1) (pre.length : Int) = B v pre.length (L f (((pre ++ [v]).length : Nat) : Int))) (hd : ∀ f, L (f + 1) (xs.length : Int) = D) : L f 0 = goU B D xs 0 :=
 loopV xs L B D hs hd xs [] f rfl hf
/-- .. as it is printed. -/
theorem loopU {α ρ : Type} (xs : List α) (L : Nat → Int → Option ρ) (B : α → Nat → Option ρ → Option ρ) (D : Option ρ) (f : Nat) (hf : xs.length < f) (hx : xs.length ≤ 1000000)
  (h : ∀ f c, L (f + 1) c = if decide (c < (xs.length : Int)) = true then (idx xs c).bind fun v => B v c.toNat (L f (wr .i64 (c + 1))) else D) : L f 0 = goU B D xs 0 :=
 loopV0 xs L B D f hf (fun f pre v r e => by
  subst e
  rw [h, if_pos (lt_len pre v r), idx_app, Option.bind_some, wr_snoc pre v r (by omega), Int.toNat_natCast]) (fun f => by rw [h, if_neg (by simp)])
/-- The first that meets a test. -/
theorem goU_any {α : Type} (P : α → Option Bool) (p : α → Bool) : ∀ (xs : List α) (i : Nat), (∀ x ∈ xs, P x = some (p x)) → ∃ r : Unit ⊕ Int, goU (fun v i k => (P v).bind fun b => if b = true then some (.inr (i : Int)) else k) (some (.inl ())) xs i = some r ∧ (match r with | .inl _ => xs.any p = false | .inr n => xs.any p = true ∧ 0 ≤ n)
 | [], i, _ => ⟨.inl (), rfl, rfl⟩
 | x :: xs, i, h => by
  unfold goU
  rw [h x (by simp), Option.bind_some]
  cases hp : p x with
  | true => exact ⟨.inr i, by simp, by simp [hp]⟩
  | false =>
   obtain ⟨r, h1, h2⟩ := goU_any P p xs (i + 1) fun y hy => h y (List.mem_cons_of_mem _ hy)
   refine ⟨r, by simpa using h1, ?_⟩
   cases r with
   | inl u => simpa [hp] using h2
   | inr n => simpa [hp] using h2
/-- slices.IndexFunc and slices.ContainsFunc. -/
theorem any_of {α : Type} (xs : List α) (hx : xs.length ≤ 99999) (P : α → Option Bool) (p : α → Bool) (hP : ∀ x ∈ xs, P x = some (p x)) (L : Nat → Int → Option (Unit ⊕ Int))
  (h : ∀ f c, L (f + 1) c = if decide (c < (xs.length : Int)) = true then (idx xs c).bind fun v => (P v).bind fun b => if b = true then some (.inr c) else L f (wr .i64 (c + 1)) else some (.inl ())) :
  ∃ n, ((L 100000 0).bind fun r => match r with | .inl _ => some (-1) | .inr w => some w) = some n ∧ decide (n ≥ 0) = xs.any p := by
 have e := loopV0 xs L (fun v i k => (P v).bind fun b => if b = true then some (.inr (i : Int)) else k) (some (.inl ())) 100000 (by omega) (fun f pre v r e => by
  subst e
  rw [h, if_pos (lt_len pre v r), idx_app, Option.bind_some, wr_snoc pre v r (by omega)]) (fun f => by rw [h, if_neg (by simp)])
 obtain ⟨r, h1, h2⟩ := goU_any P p xs 0 hP
 rw [e, h1]
 cases r with
 | inl u => exact ⟨-1, rfl, by rw [h2]; rfl⟩
 | inr n => exact ⟨n, rfl, by rw [h2.1]; simpa using h2.2⟩
/-- Two lists side by side. -/
def go2 {α β ρ : Type} (B : α → β → Option ρ → Option ρ) (D : Option ρ) : List α → List β → Option ρ
 | v :: r, u :: q => B v u (go2 B D r q)
 | _, _ => D
theorem loop2 {α β ρ : Type} (L : Nat → Int → Option ρ) (B : α → β → Option ρ → Option ρ) (D : Option ρ) (xs : List α) (ys : List β) (hl : xs.length = ys.length) (hx : xs.length ≤ 1000000)
  (h : ∀ f c, L (f + 1) c = if decide (c < (xs.length : Int)) = true then (idx xs c).bind fun v => (idx ys c).bind fun u => B v u (L f (wr .i64 (c + 1))) else D) :
  ∀ (r : List α) (q : List β) (pre : List α) (pre' : List β) (f : Nat), xs = pre ++ r → ys = pre' ++ q → pre.length = pre'.length → r.length < f → L f (pre.length : Int) = go2 B D r q
 | [], q, pre, pre', f + 1, e1, e2, e3, _ => by
  have : q = [] := by
   have : xs.length = pre.length := by rw [e1]; simp
   have h2 : ys.length = pre'.length + q.length := by rw [e2]; simp
   exact List.eq_nil_of_length_eq_zero (by omega)
  subst this
  subst e1
  rw [h, nlt_len]
  rfl
 | v :: r, [], pre, pre', f + 1, e1, e2, e3, _ => by
  exfalso
  have h1 : xs.length = pre.length + (r.length + 1) := by rw [e1]; simp
  have h2 : ys.length = pre'.length := by rw [e2]; simp
  omega
 | v :: r, u :: q, pre, pre', f + 1, e1, e2, e3, hf => by
  have ih := loop2 L B D xs ys hl hx h r q (pre ++ [v]) (pre' ++ [u]) f (by rw [e1]; simp) (by rw [e2]; simp) (by simp [e3]) (by simp at hf; omega)
  have k1 : idx xs (pre.length : Int) = some v := by rw [e1, idx_app]
  have k2 : idx ys (pre.length : Int) = some u := by rw [e2, e3, idx_app]
  have k3 : decide ((pre.length : Int) < (xs.length : Int)) = true := by rw [e1]; exact lt_len pre v r
  have k4 : wr .i64 ((pre.length : Int) + 1) = ((pre ++ [v]).length : Int) := wr_snoc pre v r (by rw [← e1]; omega)
  rw [h, if_pos k3, k1, Option.bind_some, k2, Option.bind_some, k4, ih]
  rfl
theorem go2_all {α β : Type} (P : α → β → Option Bool) (p : α → β → Bool) : ∀ (xs : List α) (ys : List β), (∀ x ∈ xs, ∀ y ∈ ys, P x y = some (p x y)) → xs.length = ys.length →
  go2 (fun v u k => (P v u).bind fun b => if (!b) = true then some (Sum.inr false) else k) (some (Sum.inl ())) xs ys = some (if (xs.zip ys).all (fun x => p x.1 x.2) then Sum.inl () else Sum.inr false)
 | [], [], _, _ => rfl
 | x :: xs, y :: ys, h, hl => by
  unfold go2
  rw [h x (by simp) y (by simp), Option.bind_some, go2_all P p xs ys (fun a ha b hb => h a (List.mem_cons_of_mem _ ha) b (List.mem_cons_of_mem _ hb)) (by simpa using hl)]
  rw [List.zip_cons_cons, List.all_cons]
  show (if (!p x y) = true then _ else _) = some (if (p x y && _) = true then _ else _)
  cases p x y <;> rfl
 | [], _ :: _, _, hl => by simp at hl
 | _ :: _, [], _, hl => by simp at hl
/-- slices.EqualFunc. -/
theorem all2_of {α β : Type} (xs : List α) (ys : List β) (hx : xs.length ≤ 99999) (P : α → β → Option Bool) (p : α → β → Bool) (hP : ∀ x ∈ xs, ∀ y ∈ ys, P x y = some (p x y)) (L : Nat → Int → Option (Unit ⊕ Bool))
  (h : ∀ f c, L (f + 1) c = if decide (c < (xs.length : Int)) = true then (idx xs c).bind fun v => (idx ys c).bind fun u => (P v u).bind fun b => if (!b) = true then some (.inr false) else L f (wr .i64 (c + 1)) else some (.inl ())) :
  (if ((xs.length : Int) != (ys.length : Int)) = true then some false else (L 100000 0).bind fun r => match r with | .inl _ => some true | .inr w => some w) = some (decide (xs.length = ys.length) && (xs.zip ys).all fun x => p x.1 x.2) := by
 by_cases hl : xs.length = ys.length
 ·rw [if_neg (by simp [hl])]
  have e := loop2 L (fun v u k => (P v u).bind fun b => if (!b) = true then some (Sum.inr false) else k) (some (Sum.inl ())) xs ys hl (by omega) h xs ys [] [] 100000 rfl rfl rfl (by omega)
  have e0 : L 100000 (([] : List α).length : Int) = L 100000 0 := rfl
  rw [← e0, e, go2_all P p xs ys hP hl]
  cases hq : (xs.zip ys).all (fun x => p x.1 x.2) <;> simp [hl]
 ·rw [if_pos (by simp; omega)]
  simp [hl]
theorem zip_all_eq {α : Type} [DecidableEq α] {p : α → α → Bool} (hp : ∀ a b, p a b = decide (a = b)) : ∀ (xs ys : List α), (decide (xs.length = ys.length) && (xs.zip ys).all fun x => p x.1 x.2) = decide (xs = ys)
 | [], [] => rfl
 | x :: xs, y :: ys => by
  have ih := zip_all_eq hp xs ys
  simp only [List.length_cons, Nat.add_right_cancel_iff, List.zip_cons_cons, List.all_cons, List.cons.injEq, hp]
  simp only [hp] at ih
  by_cases h1 : x = y
  ·subst h1; simpa using ih
  ·simp [h1]
 | [], _ :: _ => by simp
 | _ :: _, [] => by simp
/-- slices.Equal. -/
theorem eq_of {α : Type} [DecidableEq α] [BEq α] [LawfulBEq α] (xs ys : List α) (hx : xs.length ≤ 99999) (L : Nat → Int → Option (Unit ⊕ Bool))
  (h : ∀ f c, L (f + 1) c = if decide (c < (xs.length : Int)) = true then (idx xs c).bind fun v => (idx ys c).bind fun u => if (v != u) = true then some (.inr false) else L f (wr .i64 (c + 1)) else some (.inl ())) :
  (if ((xs.length : Int) != (ys.length : Int)) = true then some false else (L 100000 0).bind fun r => match r with | .inl _ => some true | .inr w => some w) = some (decide (xs = ys)) := by
 rw [all2_of xs ys hx (fun v u => some (v == u)) (fun v u => v == u) (fun _ _ _ _ => rfl) L (fun f c => by rw [h]; rfl), zip_all_eq (fun a b => by by_cases h : a = b <;> simp [h])]
def few1 (x : Clause) : Prop := x.2.1.length ≤ 40 ∧ x.2.2.2.1.length ≤ 20 ∧ ∀ s ∈ x.2.2.2.1, s.length ≤ 40
def few (c : List Clause) : Prop := c.length ≤ 40 ∧ ∀ x ∈ c, few1 x
theorem few_names (l : List (List UInt8)) (h : l.length ≤ 99999) : slices_ContainsFunc_string_string__law03_Few_1_1 l = some (l.any fun s => decide ((s.length : Int) > 40)) := by
 unfold slices_ContainsFunc_string_string__law03_Few_1_1 slices_IndexFunc_string_string__law03_Few_1_1
 obtain ⟨n, h1, h2⟩ := any_of l h law03_Few_1_1 (fun s => decide ((s.length : Int) > 40)) (fun x _ => rfl) (slices_IndexFunc_string_string__law03_Few_1_1_l1 l) (fun f c => rfl)
 rw [← h2]
 exact (congrArg (fun o => o.bind fun v1 => some (decide (v1 ≥ 0))) h1)
def fewB (x : Clause) : Bool := decide ((x.2.1.length : Int) > 40) || decide ((x.2.2.2.1.length : Int) > 20) || x.2.2.2.1.any fun s => decide ((s.length : Int) > 40)
theorem few_1 (x : Clause) : law03_Few_1 x = some (fewB x) := by
 unfold law03_Few_1 fewB
 by_cases h1 : (x.2.1.length : Int) > 40
 ·simp [h1]
 ·by_cases h2 : (x.2.2.2.1.length : Int) > 20
  ·simp [h2]
  ·rw [few_names _ (by omega)]
   simp [h1, h2]
theorem fewB_iff (x : Clause) : fewB x = false ↔ few1 x := by
 unfold fewB few1
 simp only [Bool.or_eq_false_iff, decide_eq_false_iff_not, List.any_eq_false, decide_eq_true_eq]
 constructor
 ·rintro ⟨⟨h1, h2⟩, h3⟩
  exact ⟨by omega, by omega, fun s hs => by have := h3 s hs; omega⟩
 ·rintro ⟨h1, h2, h3⟩
  exact ⟨⟨by omega, by omega⟩, fun s hs => by have := h3 s hs; omega⟩
theorem few_eq (c : List Clause) : ∃ b, law03_Few c = some b ∧ (b = true ↔ few c) := by
 unfold law03_Few
 by_cases h : c.length ≤ 40
 ·rw [if_pos (by simp; omega)]
  have e : slices_ContainsFunc_api_Clause_api_Clause__law03_Few_1 c = some (c.any fewB) := by
   unfold slices_ContainsFunc_api_Clause_api_Clause__law03_Few_1 slices_IndexFunc_api_Clause_api_Clause__law03_Few_1
   obtain ⟨n, h1, h2⟩ := any_of c (by omega) law03_Few_1 fewB (fun x _ => few_1 x) (slices_IndexFunc_api_Clause_api_Clause__law03_Few_1_l1 c) (fun f c => rfl)
   rw [← h2]
   exact (congrArg (fun o => o.bind fun v1 => some (decide (v1 ≥ 0))) h1)
  rw [e]
  refine ⟨!c.any fewB, rfl, ?_⟩
  simp only [Bool.not_eq_true', List.any_eq_false, few, h, true_and]
  exact ⟨fun q x hx => (fewB_iff x).1 (by simpa using q x hx), fun q x hx => by simp [(fewB_iff x).2 (q x hx)]⟩
 ·rw [if_neg (by simp; omega)]
  exact ⟨false, rfl, by simp [few, h]⟩
/-- Copies. -/
theorem copy_go (c : List Clause) (h : few c) : ∀ (r pre : List Clause) (f : Nat), c = pre ++ r → r.length < f → law03_Copy_l1 c f pre (pre.length : Int) = some c
 | [], pre, f + 1, e, _ => by
  unfold law03_Copy_l1
  rw [if_neg (by rw [e]; simp), e, List.append_nil]
 | v :: r, pre, f + 1, e, hf => by
  have hv : few1 v := h.2 v (by rw [e]; simp)
  have hl := h.1
  have hl2 : c.length = pre.length + r.length + 1 := by rw [e]; simp; omega
  simp only [List.length_cons] at hf
  obtain ⟨h1, h2, h3⟩ := hv
  unfold law03_Copy_l1
  have hi : idx c (pre.length : Int) = some v := by rw [e, idx_app]
  rw [if_pos (by rw [e]; exact lt_len pre v r), hi, Option.bind_some, if_pos (capOk_le (by omega) (by omega)), if_pos (capOk_le (by omega) (by omega)), if_pos (by unfold cutOk; simp; omega), if_pos (capOk_le (by omega) (by omega))]
  have hv2 : (v.1, v.2.1, v.2.2.1, ((v.2.2.2.1 ++ [[115, 112, 97, 114, 101]]).take ((v.2.2.2.1.length : Int).toNat)), v.2.2.2.2) = v := by
   rw [Int.toNat_natCast, List.take_left]
  rw [hv2, show wr .i64 ((pre.length : Int) + 1) = ((pre ++ [v]).length : Int) from wr_snoc pre v r (by rw [← e]; omega)]
  exact copy_go c h r (pre ++ [v]) f (by rw [e]; simp) (by omega)
theorem copy_eq (c : List Clause) (h : few c) : law03_Copy c = some c := by
 unfold law03_Copy
 have := copy_go c h c [] 100000 rfl (by have := h.1; omega)
 have e0 : law03_Copy_l1 c 100000 [] (([] : List Clause).length : Int) = law03_Copy_l1 c 100000 [] 0 := rfl
 rw [← e0, this]; rfl
/-- Comparisons. -/
theorem equal_s (xs ys : List (List UInt8)) (h : xs.length ≤ 99999) : slices_Equal_string_string xs ys = some (decide (xs = ys)) := by
 unfold slices_Equal_string_string
 exact eq_of xs ys h (slices_Equal_string_string_l1 xs ys) (fun f c => rfl)
theorem same_1 (a b : Clause) (h : a.2.2.2.1.length ≤ 99999) : law03_SameClause a b = some (decide (a = b)) := by
 unfold law03_SameClause
 rw [equal_s _ _ h]
 obtain ⟨a1, a2, a3, a4, a5⟩ := a
 obtain ⟨b1, b2, b3, b4, b5⟩ := b
 by_cases h1 : a1 = b1
 ·by_cases h2 : a2 = b2
  ·by_cases h3 : a3 = b3
   ·by_cases h5 : a5 = b5
    ·simp [h1, h2, h3, h5]
    ·simp [h5]
   ·simp [h3]
  ·simp [h2]
 ·simp [h1]
theorem same_eq (a b : List Clause) (h : few a) : law03_Same a b = some (decide (a = b)) := by
 unfold law03_Same slices_EqualFunc_api_Clause_api_Clause_api_Clause_api_Clause__law03_SameClause
 rw [← zip_all_eq (p := fun x y => decide (x = y)) (fun _ _ => rfl) a b]
 have := all2_of a b (by have := h.1; omega) law03_SameClause (fun x y => decide (x = y)) (fun x hx y _ => same_1 x y (by have := (h.2 x hx).2.1; omega)) (slices_EqualFunc_api_Clause_api_Clause_api_Clause_api_Clause__law03_SameClause_l1 a b) (fun f c => rfl)
 exact (congrArg (fun o => o.bind fun v1 => some v1) this)
/-- Names. -/
def lowB (c : UInt8) : Bool := decide ((c.toNat : Int) < 97) || decide ((c.toNat : Int) > 122)
def isName (s : List UInt8) : Bool := decide (1 ≤ s.length) && decide (s.length ≤ 12) && !s.any lowB
theorem goU_low : ∀ (s : List UInt8) (i : Nat), goU (fun v _ (k : Option (Unit ⊕ Bool)) => if lowB v = true then some (.inr false) else k) (some (.inl ())) s i = some (if s.any lowB = true then .inr false else .inl ())
 | [], _ => rfl
 | c :: s, i => by
  unfold goU
  rw [goU_low s (i + 1), List.any_cons]
  cases lowB c <;> rfl
theorem name_l (s : List UInt8) (h : s.length ≤ 99999) : court_name_l1 s 100000 0 = some (if s.any lowB = true then .inr false else .inl ()) := by
 rw [← goU_low s 0]
 refine loopV0 s (court_name_l1 s) _ _ 100000 (by omega) (fun f pre v r e => ?_) (fun f => ?_)
 ·conv => lhs; unfold court_name_l1
  rw [e, if_pos (lt_len pre v r), idx_app, Option.bind_some, Option.bind_some, wr_snoc pre v r (by rw [← e]; omega)]
  unfold lowB
  by_cases h : (v.toNat : Int) < 97 <;> simp [h]
 ·conv => lhs; unfold court_name_l1
  rw [if_neg (by simp)]
theorem kname_l (s : List UInt8) (h : s.length ≤ 99999) : kit_Name_l1 s 100000 0 = some (if s.any lowB = true then .inr false else .inl ()) := by
 rw [← goU_low s 0]
 refine loopV0 s (kit_Name_l1 s) _ _ 100000 (by omega) (fun f pre v r e => ?_) (fun f => ?_)
 ·conv => lhs; unfold kit_Name_l1
  rw [e, if_pos (lt_len pre v r), idx_app, Option.bind_some, Option.bind_some, wr_snoc pre v r (by rw [← e]; omega)]
  unfold lowB
  by_cases h : (v.toNat : Int) < 97 <;> simp [h]
 ·conv => lhs; unfold kit_Name_l1
  rw [if_neg (by simp)]
theorem name_eq (s : List UInt8) (h : s.length ≤ 99999) : court_name s = some (isName s) := by
 unfold court_name isName
 rw [name_l s h, Option.bind_some]
 cases hb : s.any lowB
 ·by_cases h1 : s.length < 1
  ·have : s.length = 0 := by omega
   simp [this]
  ·simp [show (s.length : Int) ≥ 1 by omega, show 1 ≤ s.length by omega]; omega
 ·simp
theorem kname_eq (s : List UInt8) (h : s.length ≤ 99999) : kit_Name s = some (isName s) := by
 unfold kit_Name isName
 by_cases h1 : s.length < 1
 ·have : s.length = 0 := by omega
  simp [this]
 ·by_cases h2 : s.length > 12
  ·simp [show ¬ ((s.length : Int) < 1) by omega, show ((s.length : Int) > 12) by omega, show ¬ (s.length ≤ 12) by omega]
  ·rw [kname_l s h]
   cases hb : s.any lowB
   ·simp [show ¬ ((s.length : Int) < 1) by omega, show ¬ ((s.length : Int) > 12) by omega, show (s.length ≤ 12) by omega, show 1 ≤ s.length by omega]
   ·simp [show ¬ ((s.length : Int) < 1) by omega, show ¬ ((s.length : Int) > 12) by omega]
theorem names_c (l : List (List UInt8)) (h : l.length ≤ 99999) (hs : ∀ s ∈ l, s.length ≤ 99999) : slices_ContainsFunc_string_string__court_check_1 l = some (l.any fun s => !isName s) := by
 unfold slices_ContainsFunc_string_string__court_check_1 slices_IndexFunc_string_string__court_check_1
 obtain ⟨n, h1, h2⟩ := any_of l h court_check_1 (fun s => !isName s) (fun x hx => by unfold court_check_1; rw [name_eq x (hs x hx)]; rfl) (slices_IndexFunc_string_string__court_check_1_l1 l) (fun f c => rfl)
 rw [← h2]
 exact (congrArg (fun o => o.bind fun v1 => some (decide (v1 ≥ 0))) h1)
def hasB (l : List (List UInt8)) (s : List UInt8) : Bool := l.any fun v => s == v
theorem contains_eq (l : List (List UInt8)) (s : List UInt8) (h : l.length ≤ 99999) : slices_Contains_string_string l s = some (hasB l s) := by
 unfold slices_Contains_string_string slices_Index_string_string
 obtain ⟨n, h1, h2⟩ := any_of l h (fun v => some (s == v)) (fun v => s == v) (fun _ _ => rfl) (slices_Index_string_string_l1 l s) (fun f c => rfl)
 unfold hasB
 rw [← h2]
 exact (congrArg (fun o => o.bind fun v1 => some (decide (v1 ≥ 0))) h1)
theorem goU_has (s : List UInt8) : ∀ (l : List (List UInt8)) (i : Nat), goU (fun v _ (k : Option (Unit ⊕ Bool)) => if (v == s) = true then some (.inr true) else k) (some (.inl ())) l i = some (if hasB l s = true then .inr true else .inl ())
 | [], _ => rfl
 | c :: l, i => by
  unfold goU
  rw [goU_has s l (i + 1)]
  have : hasB (c :: l) s = ((c == s) || hasB l s) := by
   unfold hasB
   rw [List.any_cons, Bool.beq_comm]
  rw [this]
  cases (c == s) <;> rfl
theorem has_eq (l : List (List UInt8)) (s : List UInt8) (h : l.length ≤ 99999) : ref03_has l s = some (hasB l s) := by
 unfold ref03_has
 have e := loopU l (ref03_has_l1 l s) (fun v _ (k : Option (Unit ⊕ Bool)) => if (v == s) = true then some (.inr true) else k) (some (.inl ())) 100000 (by omega) (by omega) (fun f c => rfl)
 rw [e, goU_has]
 cases hasB l s <;> rfl
/-- What is asked of the fields, by a row: names, from, to, last. -/
def fin (L : Nat) (n : Int) (la : Bool) (w : Int × Int × Int × Bool) : Option Bool :=
 (if (decide ((L : Int) ≤ w.1)) = true then if (w.1 == 0) = true then if (decide (n ≥ w.2.1)) = true then if (decide (n ≤ w.2.2.1)) = true then if w.2.2.2 = true then some true else some (!la) else some false else some false else if (decide ((L : Int) > 0)) = true then if (decide (n ≥ w.2.1)) = true then if (decide (n ≤ w.2.2.1)) = true then if w.2.2.2 = true then some true else some (!la) else some false else some false else some false else some false).bind fun j58 => some j58
theorem fin_eq (L : Nat) (n : Int) (la : Bool) (a lo hi : Int) (last : Bool) : fin L n la (a, lo, hi, last) = some ((decide ((L : Int) ≤ a) && (a == 0 || decide ((L : Int) > 0))) && (decide (n ≥ lo) && (decide (n ≤ hi) && (last || !la)))) := by
 unfold fin
 dsimp only
 generalize decide ((L : Int) ≤ a) = b1
 generalize (a == 0) = b2
 generalize decide ((L : Int) > 0) = b3
 generalize decide (n ≥ lo) = b4
 generalize decide (n ≤ hi) = b5
 cases b1 <;> cases b2 <;> cases b3 <;> cases b4 <;> cases b5 <;> cases last <;> cases la <;> rfl
theorem formed_eq (x : Clause) : ∃ b, court_formed x = some b ∧ ref03_formed x = some b := by
 obtain ⟨k, am, la, nm, n⟩ := x
 by_cases h1 : k = 1
 ·subst h1
  have hr : ref03_formed (1, am, la, nm, n) = some ((decide (1 ≤ (nm.length : Int)) && decide ((nm.length : Int) ≤ 16)) && ((n == 0) && (!la && (am == [])))) := by
   unfold ref03_formed
   unfold ref03_between
   dsimp only
   generalize decide (1 ≤ (nm.length : Int)) = b0
   generalize decide ((nm.length : Int) ≤ 16) = b1
   generalize (n == 0) = b2
   generalize (am == []) = b3
   cases b0 <;> cases b1 <;> cases b2 <;> cases la <;> cases b3 <;> rfl
  refine ⟨_, ?_, hr⟩
  cases am with
  | cons a am =>
   have hc : court_formed (1, a :: am, la, nm, n) = some false := rfl
   rw [hc]
   simp
  | nil =>
   have hc : court_formed (1, [], la, nm, n) = fin nm.length n la (16, 0, 0, false) := rfl
   rw [hc, fin_eq]
   congr 1
   rw [Bool.eq_iff_iff]
   generalize nm.length = L
   cases la <;> simp <;> omega
 by_cases h2 : k = 2
 ·subst h2
  have hr : ref03_formed (2, am, la, nm, n) = some (((nm.length : Int) == 0) && ((n == 0) && !la)) := by
   unfold ref03_formed
   unfold ref03_between
   dsimp only
   generalize ((nm.length : Int) == 0) = b0
   generalize (n == 0) = b1
   cases b0 <;> cases b1 <;> cases la <;> rfl
  refine ⟨_, ?_, hr⟩
  have hc : court_formed (2, am, la, nm, n) = fin nm.length n la (0, 0, 0, false) := rfl
  rw [hc, fin_eq]
  congr 1
  rw [Bool.eq_iff_iff]
  generalize nm.length = L
  cases la <;> simp <;> omega
 by_cases h3 : k = 3
 ·subst h3
  have hr : ref03_formed (3, am, la, nm, n) = some (((nm.length : Int) == 0) && ((n == 0) && !la)) := by
   unfold ref03_formed
   unfold ref03_between
   dsimp only
   generalize ((nm.length : Int) == 0) = b0
   generalize (n == 0) = b1
   cases b0 <;> cases b1 <;> cases la <;> rfl
  refine ⟨_, ?_, hr⟩
  have hc : court_formed (3, am, la, nm, n) = fin nm.length n la (0, 0, 0, false) := rfl
  rw [hc, fin_eq]
  congr 1
  rw [Bool.eq_iff_iff]
  generalize nm.length = L
  cases la <;> simp <;> omega
 by_cases h8 : k = 8
 ·subst h8
  have hr : ref03_formed (8, am, la, nm, n) = some (((nm.length : Int) == 0) && ((n == 0) && !la)) := by
   unfold ref03_formed
   unfold ref03_between
   dsimp only
   generalize ((nm.length : Int) == 0) = b0
   generalize (n == 0) = b1
   cases b0 <;> cases b1 <;> cases la <;> rfl
  refine ⟨_, ?_, hr⟩
  have hc : court_formed (8, am, la, nm, n) = fin nm.length n la (0, 0, 0, false) := rfl
  rw [hc, fin_eq]
  congr 1
  rw [Bool.eq_iff_iff]
  generalize nm.length = L
  cases la <;> simp <;> omega
 by_cases h9 : k = 9
 ·subst h9
  have hr : ref03_formed (9, am, la, nm, n) = some (((nm.length : Int) == 0) && ((n == 0) && !la)) := by
   unfold ref03_formed
   unfold ref03_between
   dsimp only
   generalize ((nm.length : Int) == 0) = b0
   generalize (n == 0) = b1
   cases b0 <;> cases b1 <;> cases la <;> rfl
  refine ⟨_, ?_, hr⟩
  have hc : court_formed (9, am, la, nm, n) = fin nm.length n la (0, 0, 0, false) := rfl
  rw [hc, fin_eq]
  congr 1
  rw [Bool.eq_iff_iff]
  generalize nm.length = L
  cases la <;> simp <;> omega
 by_cases h4 : k = 4
 ·subst h4
  have hr : ref03_formed (4, am, la, nm, n) = some (((nm.length : Int) == 0) && (decide (1 ≤ n) && decide (n ≤ 2))) := by
   unfold ref03_formed
   unfold ref03_between
   dsimp only
   generalize ((nm.length : Int) == 0) = b0
   generalize decide (1 ≤ n) = b1
   generalize decide (n ≤ 2) = b2
   cases b0 <;> cases b1 <;> cases b2 <;> cases la <;> rfl
  refine ⟨_, ?_, hr⟩
  have hc : court_formed (4, am, la, nm, n) = fin nm.length n la (0, 1, 2, true) := rfl
  rw [hc, fin_eq]
  congr 1
  rw [Bool.eq_iff_iff]
  generalize nm.length = L
  cases la <;> simp <;> omega
 by_cases h5 : k = 5
 ·subst h5
  have hr : ref03_formed (5, am, la, nm, n) = some (((nm.length : Int) == 0) && (n == 0)) := by
   unfold ref03_formed
   unfold ref03_between
   dsimp only
   generalize ((nm.length : Int) == 0) = b0
   generalize (n == 0) = b1
   cases b0 <;> cases b1 <;> cases la <;> rfl
  refine ⟨_, ?_, hr⟩
  have hc : court_formed (5, am, la, nm, n) = fin nm.length n la (0, 0, 0, true) := rfl
  rw [hc, fin_eq]
  congr 1
  rw [Bool.eq_iff_iff]
  generalize nm.length = L
  cases la <;> simp <;> omega
 by_cases h6 : k = 6
 ·subst h6
  have hr : ref03_formed (6, am, la, nm, n) = some ((decide (1 ≤ (nm.length : Int)) && decide ((nm.length : Int) ≤ 16)) && (n == 0)) := by
   unfold ref03_formed
   unfold ref03_between
   dsimp only
   generalize decide (1 ≤ (nm.length : Int)) = b0
   generalize decide ((nm.length : Int) ≤ 16) = b1
   generalize (n == 0) = b2
   cases b0 <;> cases b1 <;> cases b2 <;> cases la <;> rfl
  refine ⟨_, ?_, hr⟩
  have hc : court_formed (6, am, la, nm, n) = fin nm.length n la (16, 0, 0, true) := rfl
  rw [hc, fin_eq]
  congr 1
  rw [Bool.eq_iff_iff]
  generalize nm.length = L
  cases la <;> simp <;> omega
 by_cases h7 : k = 7
 ·subst h7
  have hr : ref03_formed (7, am, la, nm, n) = some ((decide (1 ≤ (nm.length : Int)) && decide ((nm.length : Int) ≤ 16)) && (n == 0)) := by
   unfold ref03_formed
   unfold ref03_between
   dsimp only
   generalize decide (1 ≤ (nm.length : Int)) = b0
   generalize decide ((nm.length : Int) ≤ 16) = b1
   generalize (n == 0) = b2
   cases b0 <;> cases b1 <;> cases b2 <;> cases la <;> rfl
  refine ⟨_, ?_, hr⟩
  have hc : court_formed (7, am, la, nm, n) = fin nm.length n la (16, 0, 0, true) := rfl
  rw [hc, fin_eq]
  congr 1
  rw [Bool.eq_iff_iff]
  generalize nm.length = L
  cases la <;> simp <;> omega
 by_cases h10 : k = 10
 ·subst h10
  have hr : ref03_formed (10, am, la, nm, n) = some (((nm.length : Int) == 0) && ((decide (0 ≤ n) && decide (n ≤ 63)) && !la)) := by
   unfold ref03_formed
   unfold ref03_between
   dsimp only
   generalize ((nm.length : Int) == 0) = b0
   generalize decide (0 ≤ n) = b1
   generalize decide (n ≤ 63) = b2
   cases b0 <;> cases b1 <;> cases b2 <;> cases la <;> rfl
  refine ⟨_, ?_, hr⟩
  have hc : court_formed (10, am, la, nm, n) = fin nm.length n la (0, 0, 63, false) := rfl
  rw [hc, fin_eq]
  congr 1
  rw [Bool.eq_iff_iff]
  generalize nm.length = L
  cases la <;> simp <;> omega
 have e : ∀ m : Int, (m = 1 ∨ m = 2 ∨ m = 3 ∨ m = 4 ∨ m = 5 ∨ m = 6 ∨ m = 7 ∨ m = 8 ∨ m = 9 ∨ m = 10) → (k == m) = false := fun m hm => by
  rw [beq_eq_false_iff_ne]
  rintro rfl
  omega
 refine ⟨false, ?_, ?_⟩
 ·simp [court_formed, court_formed_j1, court_formed_j2, court_formed_j3, court_formed_j4, court_formed_j5, court_formed_j6, court_formed_j7, court_formed_j8, court_formed_j9, e]
 ·simp [ref03_formed, ref03_formed_j1, ref03_formed_j2, ref03_formed_j3, ref03_formed_j4, e]
def fm (x : Clause) : Bool := (ref03_formed x).getD false
theorem fm_c (x : Clause) : court_formed x = some (fm x) := by
 obtain ⟨b, h1, h2⟩ := formed_eq x
 rw [h1]; unfold fm; rw [h2]; rfl
theorem fm_r (x : Clause) : ref03_formed x = some (fm x) := by
 obtain ⟨b, h1, h2⟩ := formed_eq x
 unfold fm; rw [h2]; rfl
/-- Is a name there twice? -/
def dupL (l : List (List UInt8)) : List (List UInt8) → Nat → Bool
 | [], _ => false
 | v :: r, i => hasB (l.take i) v || dupL l r (i + 1)
def ranked (before : List Clause) (am : List UInt8) : Bool := before.any fun b => (b.1 == 1) && hasB b.2.2.2.1 am
def chk (before : List Clause) (x : Clause) : Int :=
 if fm x = false then 30 else
 if ((!(x.2.1 == [])) && !isName x.2.1) = true ∨ (x.2.2.2.1.any fun s => !isName s) = true then 4 else
 if dupL x.2.2.2.1 x.2.2.2.1 0 = true then 5 else
 if x.2.1 = [] ∨ ranked before x.2.1 = true then 0 else 31
theorem goU_dup (l : List (List UInt8)) : ∀ (r : List (List UInt8)) (i : Nat), goU (fun v i (k : Option (Unit ⊕ Int)) => if hasB (l.take i) v = true then some (.inr 5) else k) (some (.inl ())) r i = some (if dupL l r i = true then .inr 5 else .inl ())
 | [], _ => rfl
 | v :: r, i => by
  unfold goU dupL
  rw [goU_dup l r (i + 1)]
  cases hasB (l.take i) v <;> rfl
theorem dup_c (b : List Clause) (j : Clause) (h : j.2.2.2.1.length ≤ 99999) : court_check_l1 b j 100000 0 = some (if dupL j.2.2.2.1 j.2.2.2.1 0 = true then .inr 5 else .inl ()) := by
 rw [← goU_dup]
 refine loopV0 j.2.2.2.1 (court_check_l1 b j) _ _ 100000 (by omega) (fun f pre v r e => ?_) (fun f => ?_)
 ·conv => lhs; unfold court_check_l1
  have hl : j.2.2.2.1.length = pre.length + r.length + 1 := by rw [e]; simp; omega
  rw [if_pos (by rw [e]; exact lt_len pre v r), show idx j.2.2.2.1 (pre.length : Int) = some v by rw [e, idx_app], Option.bind_some, if_pos (by unfold cutOk; simp; omega), Int.toNat_natCast]
  rw [show ((j.2.2.2.1.take pre.length).drop (0 : Int).toNat) = j.2.2.2.1.take pre.length from rfl, contains_eq _ _ (by simp; omega), Option.bind_some, wr_snoc pre v r (by rw [← e]; omega)]
 ·conv => lhs; unfold court_check_l1
  rw [if_neg (by simp)]
theorem ranked_c (b : List Clause) (x : Clause) (h : b.length ≤ 99999) (hb : ∀ y ∈ b, y.2.2.2.1.length ≤ 99999) : slices_ContainsFunc_api_Clause_api_Clause__court_check_2 b x = some (ranked b x.2.1) := by
 unfold slices_ContainsFunc_api_Clause_api_Clause__court_check_2 slices_IndexFunc_api_Clause_api_Clause__court_check_2
 obtain ⟨n, h1, h2⟩ := any_of b h (fun v => court_check_2 v x) (fun y => (y.1 == 1) && hasB y.2.2.2.1 x.2.1) (fun y hy => by
  unfold court_check_2
  rw [contains_eq _ _ (hb y hy)]
  cases (y.1 == 1) <;> rfl) (slices_IndexFunc_api_Clause_api_Clause__court_check_2_l1 b x) (fun f c => rfl)
 unfold ranked
 rw [← h2]
 exact (congrArg (fun o => o.bind fun v1 => some (decide (v1 ≥ 0))) h1)
theorem chk_c (b : List Clause) (x : Clause) (hb : few b) (hx : few1 x) : court_check b x = some (chk b x) := by
 have hn : ∀ s ∈ x.2.2.2.1, s.length ≤ 99999 := fun s hs => by have := hx.2.2 s hs; omega
 unfold court_check chk
 rw [fm_c, Option.bind_some]
 cases hf : fm x with
 | false => simp
 | true =>
  rw [if_neg (show ¬ ((!true) = true) by simp), if_neg (show ¬ (true = false) by simp), names_c _ (by have := hx.2.1; omega) hn, name_eq _ (by have := hx.1; omega)]
  have e : ((if (!(x.2.1 == [])) = true then (some (isName x.2.1)).bind fun v3 => if (!v3) = true then some true else (some (x.2.2.2.1.any fun s => !isName s)).bind fun v4 => some v4 else (some (x.2.2.2.1.any fun s => !isName s)).bind fun v5 => some v5) : Option Bool) = some (((!(x.2.1 == [])) && !isName x.2.1) || (x.2.2.2.1.any fun s => !isName s)) := by
   cases (x.2.1 == []) <;> cases isName x.2.1 <;> rfl
  rw [e, Option.bind_some]
  cases hq : (((!(x.2.1 == [])) && !isName x.2.1) || (x.2.2.2.1.any fun s => !isName s)) with
  | true => rw [if_pos rfl, if_pos (by simpa using hq)]
  | false =>
   rw [if_neg (show ¬ (false = true) by simp), if_neg (show ¬ (((!(x.2.1 == [])) && !isName x.2.1) = true ∨ (x.2.2.2.1.any fun s => !isName s) = true) by simpa using hq), dup_c _ _ (by have := hx.2.1; omega), Option.bind_some]
   try dsimp only
   cases hd : dupL x.2.2.2.1 x.2.2.2.1 0 with
   | true => rfl
   | false =>
    rw [if_neg (show ¬ (false = true) by simp)]
    dsimp only
    have hr := ranked_c b x (by have := hb.1; omega) (fun y hy => by have := (hb.2 y hy).2.1; omega)
    rw [hr]
    by_cases ha : x.2.1 = []
    ·simp [ha]
    ·simp only [ha, false_or]
     cases ranked b x.2.1 <;> simp [ha]
/-- .. of the reference. -/
theorem goU_nm : ∀ (l : List (List UInt8)) (i : Nat), goU (fun v _ (k : Option (Unit ⊕ Int)) => if (!isName v) = true then some (.inr 4) else k) (some (.inl ())) l i = some (if (l.any fun s => !isName s) = true then .inr 4 else .inl ())
 | [], _ => rfl
 | v :: r, i => by
  unfold goU
  rw [goU_nm r (i + 1), List.any_cons]
  cases isName v <;> rfl
theorem goU_rk (am : List UInt8) : ∀ (l : List Clause) (i : Nat), goU (fun (v : Clause) _ (k : Option (Unit ⊕ Int)) => if ((v.1 == 1) && hasB v.2.2.2.1 am) = true then some (.inr 0) else k) (some (.inl ())) l i = some (if ranked l am = true then .inr 0 else .inl ())
 | [], _ => rfl
 | v :: r, i => by
  unfold goU
  have : ranked (v :: r) am = (((v.1 == 1) && hasB v.2.2.2.1 am) || ranked r am) := rfl
  rw [goU_rk am r (i + 1), this]
  cases ((v.1 == 1) && hasB v.2.2.2.1 am) <;> rfl
section
variable (c pre r : List Clause) (x : Clause) (e : c = pre ++ x :: r) (h : few c)
include e h
theorem ref_names : ref03_CheckOne_l1 c (pre.length : Int) 100000 0 = some (if (x.2.2.2.1.any fun s => !isName s) = true then .inr 4 else .inl ()) := by
 have hx : few1 x := h.2 x (by rw [e]; simp)
 have hi : idx c (pre.length : Int) = some x := by rw [e, idx_app]
 rw [← goU_nm _ 0]
 refine loopV0 x.2.2.2.1 (ref03_CheckOne_l1 c (pre.length : Int)) _ _ 100000 (by have := hx.2.1; omega) (fun f p v q e' => ?_) (fun f => ?_)
 ·conv => lhs; unfold ref03_CheckOne_l1
  have hv := hx.2.2 v (by rw [e']; simp)
  rw [hi, Option.bind_some, if_pos (by rw [e']; exact lt_len p v q), Option.bind_some, show idx x.2.2.2.1 (p.length : Int) = some v by rw [e', idx_app], Option.bind_some, kname_eq v (by omega), Option.bind_some, wr_snoc p v q (by have := hx.2.1; rw [← e']; omega)]
 ·conv => lhs; unfold ref03_CheckOne_l1
  rw [hi, Option.bind_some, if_neg (by simp)]
theorem ref_dup : ref03_CheckOne_l2 c (pre.length : Int) 100000 0 = some (if dupL x.2.2.2.1 x.2.2.2.1 0 = true then .inr 5 else .inl ()) := by
 have hx : few1 x := h.2 x (by rw [e]; simp)
 have hi : idx c (pre.length : Int) = some x := by rw [e, idx_app]
 rw [← goU_dup]
 refine loopV0 x.2.2.2.1 (ref03_CheckOne_l2 c (pre.length : Int)) _ _ 100000 (by have := hx.2.1; omega) (fun f p v q e' => ?_) (fun f => ?_)
 ·conv => lhs; unfold ref03_CheckOne_l2
  have hl : x.2.2.2.1.length = p.length + q.length + 1 := by rw [e']; simp; omega
  have := hx.2.1
  rw [hi, Option.bind_some, if_pos (by rw [e']; exact lt_len p v q), Option.bind_some, if_pos (by unfold cutOk; simp; omega), Option.bind_some, show idx x.2.2.2.1 (p.length : Int) = some v by rw [e', idx_app], Option.bind_some, Int.toNat_natCast,
   show ((x.2.2.2.1.take p.length).drop (0 : Int).toNat) = x.2.2.2.1.take p.length from rfl, has_eq _ _ (by simp; omega), Option.bind_some, wr_snoc p v q (by rw [← e']; omega)]
 ·conv => lhs; unfold ref03_CheckOne_l2
  rw [hi, Option.bind_some, if_neg (by simp)]
theorem ref_ranked : ref03_CheckOne_l3 c (pre.length : Int) 100000 0 = some (if ranked pre x.2.1 = true then .inr 0 else .inl ()) := by
 have hi : idx c (pre.length : Int) = some x := by rw [e, idx_app]
 have hl : c.length = pre.length + r.length + 1 := by rw [e]; simp; omega
 have hc := h.1
 rw [← goU_rk _ _ 0]
 refine loopV0 pre (ref03_CheckOne_l3 c (pre.length : Int)) _ _ 100000 (by omega) (fun f p v q e' => ?_) (fun f => ?_)
 ·conv => lhs; unfold ref03_CheckOne_l3
  have hv : few1 v := h.2 v (by rw [e, e']; simp)
  have hl2 : pre.length = p.length + q.length + 1 := by rw [e']; simp; omega
  rw [if_pos (by simp; omega), show idx c (p.length : Int) = some v by rw [e, e', List.append_assoc, List.cons_append, idx_app], Option.bind_some, hi, Option.bind_some, Option.bind_some, has_eq _ _ (by have := hv.2.1; omega), wr_snoc p v q (by rw [← e']; omega)]
  cases (v.1 == 1) <;> rfl
 ·conv => lhs; unfold ref03_CheckOne_l3
  rw [if_neg (by simp)]
theorem chk_r : ref03_CheckOne c (pre.length : Int) = some (chk pre x) := by
 have hx : few1 x := h.2 x (by rw [e]; simp)
 have hi : idx c (pre.length : Int) = some x := by rw [e, idx_app]
 unfold ref03_CheckOne chk
 rw [hi, Option.bind_some, fm_r, Option.bind_some, Option.bind_some, Option.bind_some, ref_names c pre r x e h, ref_dup c pre r x e h, ref_ranked c pre r x e h, kname_eq _ (by have := hx.1; omega)]
 cases hf : fm x with
 | false => simp
 | true =>
  rw [if_neg (show ¬ ((!true) = true) by simp), if_neg (show ¬ (true = false) by simp)]
  have e2 : ((if (!(x.2.1 == [])) = true then (some (isName x.2.1)).bind fun v6 => some (!v6) else some false) : Option Bool) = some ((!(x.2.1 == [])) && !isName x.2.1) := by
   cases (x.2.1 == []) <;> rfl
  rw [e2, Option.bind_some, Option.bind_some]
  cases hq : ((!(x.2.1 == [])) && !isName x.2.1) <;> cases hn : (x.2.2.2.1.any fun s => !isName s) <;> cases hd : dupL x.2.2.2.1 x.2.2.2.1 0 <;> cases hr : ranked pre x.2.1 <;> by_cases ha : x.2.1 = [] <;> simp [ha]
end
/-- The first error of a text: its place, and which. -/
def chkL (c : List Clause) : List Clause → Nat → Unit ⊕ (Int × Int)
 | [], _ => .inl ()
 | x :: r, i => if chk (c.take i) x ≠ 0 then .inr ((i : Int), chk (c.take i) x) else chkL c r (i + 1)
def chkT (c : List Clause) : Int × Int := if c.length > 32 then (0, 7) else match chkL c c 0 with
 | .inl _ => (0, 0)
 | .inr w => w
theorem goU_chk (c : List Clause) : ∀ (r : List Clause) (i : Nat), goU (fun x i (k : Option (Unit ⊕ (Int × Int))) => if (chk (c.take i) x != 0) = true then some (.inr ((i : Int), chk (c.take i) x)) else k) (some (.inl ())) r i = some (chkL c r i)
 | [], _ => rfl
 | x :: r, i => by
  unfold goU chkL
  rw [goU_chk c r (i + 1)]
  by_cases h : chk (c.take i) x = 0 <;> simp [h]
theorem few_take {c : List Clause} (h : few c) (n : Nat) : few (c.take n) := ⟨by have := h.1; simp; omega, fun x hx => h.2 x (List.mem_of_mem_take hx)⟩
theorem check_c (c : List Clause) (h : few c) : court_Check c = some (chkT c) := by
 have hl := h.1
 have e1 : court_Check_l1 c 100000 0 = some (chkL c c 0) := by
  rw [← goU_chk]
  refine loopV0 c (court_Check_l1 c) _ _ 100000 (by omega) (fun f pre v r e => ?_) (fun f => ?_)
  ·conv => lhs; unfold court_Check_l1
   have hl2 : c.length = pre.length + r.length + 1 := by rw [e]; simp; omega
   rw [if_pos (by rw [e]; exact lt_len pre v r), show idx c (pre.length : Int) = some v by rw [e, idx_app], Option.bind_some, if_pos (by unfold cutOk; simp; omega), Int.toNat_natCast,
    show ((c.take pre.length).drop (0 : Int).toNat) = c.take pre.length from rfl, chk_c _ v (few_take h _) (h.2 v (by rw [e]; simp)), Option.bind_some, wr_snoc pre v r (by rw [← e]; omega)]
  ·conv => lhs; unfold court_Check_l1
   rw [if_neg (by simp)]
 unfold court_Check chkT
 by_cases h32 : c.length > 32
 ·rw [if_pos (by simp; omega), if_pos h32]
 ·rw [if_neg (by simp; omega), if_neg h32, e1, Option.bind_some]
  cases chkL c c 0 <;> rfl
theorem check_r (c : List Clause) (h : few c) : ref03_Check c = some (chkT c) := by
 have hl := h.1
 have e1 : ref03_Check_l1 c 100000 0 = some (chkL c c 0) := by
  rw [← goU_chk]
  refine loopV0 c (ref03_Check_l1 c) _ _ 100000 (by omega) (fun f pre v r e => ?_) (fun f => ?_)
  ·conv => lhs; unfold ref03_Check_l1
   rw [if_pos (by rw [e]; exact lt_len pre v r), chk_r c pre r v e h, Option.bind_some, wr_snoc pre v r (by rw [← e]; omega), show c.take pre.length = pre by rw [e]; simp]
  ·conv => lhs; unfold ref03_Check_l1
   rw [if_neg (by simp)]
 unfold ref03_Check chkT
 by_cases h32 : c.length > 32
 ·rw [if_pos (by simp; omega), if_pos h32]
 ·rw [if_neg (by simp; omega), if_neg h32, e1, Option.bind_some]
  cases chkL c c 0 <;> rfl
theorem checks_law (c : List Clause) : law03_CourtChecks c = some true := by
 obtain ⟨b, h1, h2⟩ := few_eq c
 unfold law03_CourtChecks
 rw [h1, Option.bind_some]
 cases b with
 | false => rfl
 | true =>
  have h : few c := h2.1 rfl
  rw [if_neg (by simp)]
  have : law03_checks c = some true := by
   unfold law03_checks
   rw [copy_eq c h, Option.bind_some, check_c c h, Option.bind_some, check_r c h, Option.bind_some, same_eq c c h]
   simp
  rw [this]
  rfl
end Go.Proofs.YtiphapnckldpbaaGreatDoor
namespace Go.Proofs.YtiphapnckldpbaaGreatDoor.courtChecks
open Go.ChangeShapes Go.WideShapes Go.ChangeAt Go.RowKit
theorem law_ret (a0 : (List Clause)) (h : law03_CourtChecks a0 = some true) {w : World} {v0 : Value} (h0 : VR w (fun c => c < w.heap.size) [] ((cdL 5 cdClause).enc a0) v0) : Ret Tryz.prog 3 #[v0] w fun v w' => v = .bool true ∧ w.grownBy w' none :=
 Ret.mono (x_law03_CourtChecks.2 (cs_law03_CourtChecks.enc (a0, ())) (er_law03_CourtChecks true) (told_enc (s := cs_law03_CourtChecks) (a := (a0, ())) h) w (fun c => c < w.heap.size) [v0] (fun c hc => hc) (fun g x h => by cases h) (.cons h0 .nil)) fun v w' h => ⟨h.2.v_inv, h.1⟩
set_option maxRecDepth 100000 in
theorem contract (H : Type) (enc : TypeId × Value → H) (W : World) (base : Nat) (args : Array Value) (ds gs : List (DataW H)) (before : List MemPlace)
  (hval : ∀ (j : Nat) t v, Tryz.f3.params[j]? = some t → args[j]? = some v → Value.okWide Tryz.prog W .any base t v)
  (hW : DataW.Whole enc Tryz.prog Tryz.f3.params.toList Rows.courtChecksSpec.vars false W args.toList ds gs before)
  (hsz : (DataW.weightsEach Tryz.prog (Tryz.f3.params.toList ++ (OpenSpec.ofChange Rows.courtChecksSpec).bare.plain.varTypes Tryz.prog) (ds ++ gs)).all (· ≤ reachBytes) = true) :
  Calls Tryz.prog 3 args W fun e W' => ∃ v, e = .returned v ∧ Rows.courtChecksSpec.post enc Tryz.prog Tryz.f3 false true false false W args v W' := by
 have hW' := hW
 obtain ⟨p, q, hA0, hV, rfl, hfz, hnd⟩ := hW
 have hA : DataW.TrodAll enc Tryz.prog W 0 (fun _ => true) true Tryz.f3.params.toList args.toList ds p := hA0
 have hpar : Tryz.f3.params = #[22] := by kernel_rfl
 rw [hpar] at hA hval
 obtain ⟨v0, vs0, d0, ds0, p0, q0, hargs, rfl, rfl, h0, r0⟩ := trodAll_cons hA
 obtain ⟨rfl, rfl, rfl⟩ := trodAll_nil r0
 obtain rfl : args = #[v0] := by apply Array.ext'; simpa using hargs
 obtain ⟨a0, k0, g0⟩ := rc_arg (rc_slice (by kernel_rfl : Tryz.prog.underlying 22 = some (.slice 70)) (by kernel_rfl) (by kernel_rfl) (by kernel_rfl) (by kernel_rfl) (rc_struct (fs := #[(Field.mk "Kind" 68 0 false "" "" 0), (Field.mk "Among" 9 1 false "" "" 8), (Field.mk "Last" 4 2 false "" "" 24), (Field.mk "Names" 42 3 false "" "" 32), (Field.mk "N" 3 4 false "" "" 56)]) (by kernel_rfl) (by kernel_rfl) (fun _ => rfl) (fun _ => rfl) (rf_cons (rc_int (by kernel_rfl : Tryz.prog.underlying 68 = some (.int .u8)) (by kernel_rfl)) rfl (by kernel_rfl) (fun _ => rfl) (rf_cons (rc_string (by kernel_rfl : Tryz.prog.underlying 9 = some .string) (by kernel_rfl)) rfl (by kernel_rfl) (fun _ => rfl) (rf_cons (rc_bool (by kernel_rfl : Tryz.prog.underlying 4 = some .bool) (by kernel_rfl)) rfl (by kernel_rfl) (fun _ => rfl) (rf_cons (rc_slice (by kernel_rfl : Tryz.prog.underlying 42 = some (.slice 9)) (by kernel_rfl) (by kernel_rfl) (by kernel_rfl) (by kernel_rfl) (rc_string (by kernel_rfl : Tryz.prog.underlying 9 = some .string) (by kernel_rfl))) rfl (by kernel_rfl) (fun _ => rfl) (rf_end (rc_int64 (by kernel_rfl : Tryz.prog.underlying 3 = some (.int .i64)) (by kernel_rfl)) rfl (by kernel_rfl) (fun _ => rfl)))))))) (one_slice (by kernel_rfl : Tryz.prog.underlying 22 = some (.slice 70)) (hval 0 22 v0 rfl rfl)) (fun _ => rfl) h0 hsz (j := 0) (by kernel_rfl) rfl
 have hc := law_ret a0 (checks_law a0) k0
 unfold Ret at hc
 refine hc.mono fun e W' he => ?_
 cases e with
 | returned v =>
  obtain ⟨rfl, hg⟩ := he
  exact ⟨_, rfl, post_true laidOut (fun t ht => ⟨mem_of_laid (fun t => Tryz.prog.readableRec t) (by kernel_rfl) ht, of_decide_eq_true (mem_of_laid (fun t => decide (t < Tryz.prog.types.size)) (by kernel_rfl) ht)⟩) hW' rfl (by kernel_rfl) (by kernel_rfl : Tryz.prog.underlying 4 = some .bool) rfl hg⟩
 | panicked c => exact he.elim
 | outgrown => exact he.elim
theorem laid_met (os : Os) : laidMet Tryz.prog Rows.courtChecksRow.laid ((laidWorld os).forCall (fun _ _ => 0) ⟨#[], #[Value.slice none 0 0], []⟩).memory :=
 laidMet_of_run' 8 (by kernel_rfl) (by kernel_rfl)
theorem reads (os : Os) {H : Type} (enc : TypeId × Value → H) : ∃ places, DataW.whole enc Tryz.prog ((laidWorld os).forCall (fun _ _ => 0) ⟨#[], #[Value.slice none 0 0], []⟩).memory Tryz.f3.params.toList Rows.courtChecksSpec.vars false #[Value.slice none 0 0].toList 8 = some ([.nil], [], places) :=
 ⟨[], by kernel_rfl⟩
set_option maxRecDepth 100000 in
theorem lifted (os : Os) (started : os.Started) (H : Type) (enc : TypeId × Value → H) (F : Stop.Interp) :
  ReturnsInHanded {} Tryz.checked os 3 .any ((OpenSpec.ofChange Rows.courtChecksSpec).preRow enc Tryz.prog Tryz.f3 Rows.courtChecksRow.domain false Rows.courtChecksRow.laid) (((OpenSpec.ofChange Rows.courtChecksSpec).at F).post enc Tryz.prog Tryz.f3 false true false false) := by
 obtain ⟨places, hx⟩ := reads os enc
 refine returnsInHanded_of_row (C := Tryz.checked) (s := OpenSpec.ofChange Rows.courtChecksSpec) ownKnob0 started (by kernel_rfl) Tryz.func3
  (witness_row_at (enc := enc) (C := Tryz.checked) false (laidWorld os) #[Value.slice none 0 0] rfl (by kernel_rfl) (by kernel_rfl) (by kernel_rfl)
   (OpenSpec.preRow_of_cond 8 hx (by kernel_rfl) (fun k hk => by cases hk) (by kernel_rfl) (laid_met os))) ?_
 intro W base args ds gs before hval hW _ _ hsz _ _ _
 exact contract H enc W base args ds gs before hval hW hsz
theorem said : Rows.CourtChecksSaid :=
 OpenClaim.holds_of_cond 3 Tryz.f3 rfl rfl rfl rfl rfl rfl rfl ⟨rfl, rfl, rfl, rfl, rfl⟩ rfl rfl rfl rfl rfl (by kernel_rfl) Tryz.func3 (by kernel_rfl)
  (of_decide_eq_true (by kernel_rfl)) (by unfold Func.isWrapper; first | (rw [if_pos (by decide +kernel)]; kernel_rfl) | (rw [if_neg (by decide +kernel)]; exact ⟨rfl, rfl⟩))
  (fun os started H enc _ F => by rw [OpenClaim.pre_eq_preRow]; exact lifted os started H enc F)
theorem plain (f : FuncId) (fn : Func) (hf : Tryz.pinned.checked.prog.funcNamed "trestle/trestlelaw03.CourtChecks" = some f) (hfn : Tryz.pinned.checked.prog.funcs[f]? = some fn) :
  true = Tryz.pinned.checked.prog.looks [] ∧ ∀ (j : Nat) t, fn.params[j]? = some t → Tryz.pinned.checked.prog.wantsStandIn t = false := by
 obtain rfl : f = 3 := Option.some.inj ((show Tryz.prog.funcNamed "trestle/trestlelaw03.CourtChecks" = some 3 by kernel_rfl).symm.trans hf) |>.symm
 obtain rfl : fn = Tryz.f3 := (Option.some.inj (Tryz.func3.symm.trans hfn)).symm
 refine ⟨by kernel_rfl, fun j t ht => ?_⟩
 have hm : t ∈ Tryz.f3.params.toList := by simpa using Array.mem_of_getElem? ht
 exact (show Tryz.prog.wantsStandIn t = false from Bool.not_eq_true' _ |>.mp (mem_of_laid (fun t => !Tryz.prog.wantsStandIn t) (by kernel_rfl) hm))
theorem card : Rows.CourtChecksCardSaid :=
 Claim7.holds_tied_plain_at .later [] _ _ _ _ said (fun _ h => by cases h) (by kernel_rfl) (fun _ h => by cases h) courtChecks_row_tie rfl ⟨rfl, rfl⟩ (by kernel_rfl) rfl plain (by kernel_rfl)
end Go.Proofs.YtiphapnckldpbaaGreatDoor.courtChecks
