/- trestlelaw03.CourtInversions returns true for every input, and its arguments read behind the call as before; conditions: those that the given row names. -/
import Derived.Test.YtiphapnckldpbaaGreatDoorCourtInversionsM1
import Derived.Test.YtiphapnckldpbaaGreatDoorCourtInversionsM2
import Derived.Test.YtiphapnckldpbaaGreatDoorCourtInversionsM3
namespace Go.Proofs.YtiphapnckldpbaaGreatDoor
open Go.RowKit
/- slices.Equal[[]int,int] -/
noncomputable def cb_slices_Equal_L_int : Code := codeOf Tryz.f23
def slices_Equal_L_int_l1 (x0 : (List Int)) (x1 : (List Int)) : Nat → Int → Option ((Unit) ⊕ (Bool))
 | 0, _ => none
 | f + 1, c2 =>
  if (decide (c2 < (x0.length : Int))) = true then
  (idx x0 c2).bind fun v4 =>
  (idx x1 c2).bind fun v5 =>
  if (v4 != v5) = true then
  some (.inr false)
  else
  slices_Equal_L_int_l1 x0 x1 f (wr .i64 (c2 + 1))
  else
  some (.inl ())
def slices_Equal_L_int (x0 : (List Int)) (x1 : (List Int)) : Option (Bool) :=
 if ((x0.length : Int) != (x1.length : Int)) = true then
 some false
 else
 (slices_Equal_L_int_l1 x0 x1 100000 0).bind fun r8 =>
 match r8 with
 | (.inl w9) =>
  some true
 | (.inr w10) =>
  some w10
def cs_slices_Equal_L_int : Cs ((List Int) × (List Int) × Unit) := (csC (cdL 1 cdI) (csC (cdL 1 cdI) csN))
def er_slices_Equal_L_int (r : Bool) : AV := cdB.enc r
set_option maxHeartbeats 4000000 in
set_option maxRecDepth 100000 in
theorem slices_Equal_L_int_l1_ok (x0 : (List Int)) (x1 : (List Int)) : ∀ (f : Nat) (c2 : Int) (r : (Unit) ⊕ (Bool)), slices_Equal_L_int_l1 x0 x1 f c2 = some r → SemN E0 ⟨none, false⟩ (pc cb_slices_Equal_L_int [1, 1, 0, 1, 0, 0]) f ⟨Fr 26 [(0, .sl 1 (x0.map cdI.enc)), (1, .sl 1 (x1.map cdI.enc)), (12, .v (.int .i64 (x0.length : Int))), (13, .v (.int .i64 c2))], []⟩ (fun e s => match r with
 | (.inl w) => e = (.exit 0) ∧ Wk E0 s ⟨Fr 26 [], []⟩
 | (.inr w) => e = .ret ∧ Wk E0 s ⟨Fr 26 [(4, .v (.bool w))], []⟩) := by
 intro f
 induction f with
 | zero => intro c2 r h; cases h
 | succ f ih0 =>
  intro c2 r h
  have ih := fun (c2 : Int) => ih0 c2 r
  unfold slices_Equal_L_int_l1 at h
  refine SemN.succ ?_
  let p1 : Nat × AV := (13, .v (.int .i64 c2))
  let p2 : Nat × AV := (12, .v (.int .i64 (x0.length : Int)))
  let p3 : Nat × AV := (1, .sl 1 (x1.map cdI.enc))
  let p4 : Nat × AV := (0, .sl 1 (x0.map cdI.enc))
  refine Sem.sq E0_ok [p4, p3, p2, p1, (14, .v (.bool (decide (c2 < (x0.length : Int)))))] [] ?_
  refine Sem.seq ?_
  refine Sem.cond (b := (decide (c2 < (x0.length : Int)))) kr (fun hb3 => ?_) (fun hb3 => ?_)
  ·rw [if_pos hb3] at h
   refine Sem.skip ?_
   refine Sem.seq ?_
   refine Sem.block ?_
   refine Sem.sq E0_ok [p4, p3, (5, .v (.int .i64 c2)), p2, p1] [] ?_
   refine Sem.seq ?_
   obtain ⟨v4, hv4, h⟩ := Option.bind_eq_some_iff.1 h
   obtain ⟨v5, hv5, h⟩ := Option.bind_eq_some_iff.1 h
   refine Sem.runDS E0_ok (s1 := ⟨Fr 26 [p4, p3, p2, p1, (24, .v (.bool (v4 != v5)))], []⟩) kr ?_ ?_
   ·refine RunDS.segF (n := 26) E0_ok 2 [p4, p3, (5, .v (.int .i64 c2)), p2, p1, (16, .sl 1 (x0.map cdI.enc)), (17, .v (.int .i64 c2))] [] kr kr ?_
    refine RunDS.one E0_ok rfl kr (opd_q kr (wantedA_none rfl) rfl (q_indexAddr (a := .sl 1 (x0.map cdI.enc)) (b := .v (.int .i64 c2)) kr kr (ix_sl (e := cdI.enc) (el := 3) (k := 1) (ki := .i64) kr kr hv4)) kr) ?_
    refine RunDS.segF (n := 26) E0_ok 3 [p4, p3, p2, p1, (19, .v (.int .i64 v4)), (20, .sl 1 (x1.map cdI.enc)), (21, .v (.int .i64 c2))] [] kr kr ?_
    refine RunDS.one E0_ok rfl kr (opd_q kr (wantedA_none rfl) rfl (q_indexAddr (a := .sl 1 (x1.map cdI.enc)) (b := .v (.int .i64 c2)) kr kr (ix_sl (e := cdI.enc) (el := 3) (k := 1) (ki := .i64) kr kr hv5)) kr) ?_
    refine RunDS.segF (n := 26) E0_ok 2 [p4, p3, p2, p1, (24, .v (.bool (v4 != v5)))] [] kr kr ?_
    exact RunDS.done rfl (Wk.fr kr)
   refine Sem.cond (b := (v4 != v5)) kr (fun hb6 => ?_) (fun hb6 => ?_)
   ·rw [if_pos hb6] at h
    refine Sem.sq E0_ok [(4, .v (.bool false))] [] ?_
    refine Sem.ret ?_
    have hq := Option.some.inj h; subst hq
    exact ⟨rfl, (Wk.fr kr)⟩
   ·rw [if_f hb6] at h
    refine Sem.skip ?_
    let p5 : Nat × AV := (13, .v (.int .i64 (wr .i64 (c2 + 1))))
    refine Sem.rg E0_ok [p4, p3, p2, p5] [] ?_
    exact SemN.wk (s1 := ⟨Fr 26 [p4, p3, p2, p5], []⟩) (Wk.fr kr) (ih (wr .i64 (c2 + 1)) h)
  ·rw [if_f hb3] at h
   refine Sem.exit ?_
   have hq := Option.some.inj h; subst hq
   exact ⟨rfl, (Wk.fr kr)⟩
set_option maxHeartbeats 4000000 in
set_option maxRecDepth 100000 in
theorem slices_Equal_L_int_sem (x0 : (List Int)) (x1 : (List Int)) (r : Bool) (h : slices_Equal_L_int x0 x1 = some r) : Sem E0 ⟨none, false⟩ cb_slices_Equal_L_int ⟨Fr 26 (pairs0 0 (cs_slices_Equal_L_int.enc (x0, x1, ()))), []⟩ fun e s' => (e = .normal ∨ e = .ret) ∧ ∃ xs, resA E0.P s'.fr s'.hp Tryz.f23.results.toList = some xs ∧ retA xs = er_slices_Equal_L_int r := by
 unfold slices_Equal_L_int at h
 let p1 : Nat × AV := (1, .sl 1 (x1.map cdI.enc))
 let p2 : Nat × AV := (0, .sl 1 (x0.map cdI.enc))
 refine Sem.wkQ (Sem.wk (s1 := ⟨Fr 26 [p2, p1], []⟩) (Wk.fr kr) ?_)
 refine Sem.sq E0_ok [p2, p1] [] ?_
 refine Sem.seq ?_
 refine Sem.seq ?_
 refine Sem.runS (s1 := ⟨Fr 26 [p2, p1, (10, .v (.bool ((x0.length : Int) != (x1.length : Int))))], []⟩) ?_ ?_
 ·refine RunS.segF (n := 26) E0_ok 1 [p2, p1, (6, .sl 1 (x0.map cdI.enc))] [] kr ?_
  refine RunS.one E0_ok 0 rfl (op_q (wantedA_none rfl) rfl (q_len (a := .sl 1 (x0.map cdI.enc)) kr (len_sl (el := 3) kr))) ?_
  refine RunS.segF (n := 26) E0_ok 1 [p2, p1, (7, .v (.int .i64 (x0.length : Int))), (8, .sl 1 (x1.map cdI.enc))] [] kr ?_
  refine RunS.one E0_ok 0 rfl (op_q (wantedA_none rfl) rfl (q_len (a := .sl 1 (x1.map cdI.enc)) kr (len_sl (el := 3) kr))) ?_
  exact RunS.last E0_ok
 refine Sem.cond (b := ((x0.length : Int) != (x1.length : Int))) kr (fun hb1 => ?_) (fun hb1 => ?_)
 ·rw [if_pos hb1] at h
  refine Sem.sq E0_ok [(4, .v (.bool false))] [] ?_
  refine Sem.ret ?_
  have hq := Option.some.inj h; subst hq
  exact ⟨⟨Fr 26 [(4, .v (.bool false))], []⟩, (Wk.fr kr), .inr rfl, [.v (.bool false)], kr, kr⟩
 ·rw [if_f hb1] at h
  refine Sem.skip ?_
  refine Sem.seq ?_
  refine Sem.seq ?_
  let p3 : Nat × AV := (13, .v (.int .i64 0))
  let p4 : Nat × AV := (12, .v (.int .i64 (x0.length : Int)))
  refine Sem.runS (s1 := ⟨Fr 26 [p2, p1, p4, p3], []⟩) ?_ ?_
  ·refine RunS.segF (n := 26) E0_ok 1 [p2, p1, (11, .sl 1 (x0.map cdI.enc))] [] kr ?_
   refine RunS.one E0_ok 0 rfl (op_q (wantedA_none rfl) rfl (q_len (a := .sl 1 (x0.map cdI.enc)) kr (len_sl (el := 3) kr))) ?_
   exact RunS.last E0_ok
  refine Sem.block ?_
  obtain ⟨r8, hr8, h⟩ := Option.bind_eq_some_iff.1 h
  refine Sem.loop (n := 100000) ?_
  rcases r8 with w9 | w10
  ·try dsimp only at h
   refine Sem.cutN (SemN.wk (s1 := ⟨Fr 26 [p2, p1, p4, p3], []⟩) (Wk.fr kr) (slices_Equal_L_int_l1_ok x0 x1 _ 0 _ hr8)) ?_
   refine Sem.sq E0_ok [(4, .v (.bool true))] [] ?_
   refine Sem.ret ?_
   have hq := Option.some.inj h; subst hq
   exact ⟨⟨Fr 26 [(4, .v (.bool true))], []⟩, (Wk.fr kr), .inr rfl, [.v (.bool true)], kr, kr⟩
  ·try dsimp only at h
   refine Sem.cutN (SemN.wk (s1 := ⟨Fr 26 [p2, p1, p4, p3], []⟩) (Wk.fr kr) (slices_Equal_L_int_l1_ok x0 x1 _ 0 _ hr8)) ?_
   have hq := Option.some.inj h; subst hq
   exact ⟨⟨Fr 26 [(4, .v (.bool w10))], []⟩, (Wk.fr kr), .inr rfl, [.v (.bool w10)], kr, kr⟩
def t_slices_Equal_L_int : List AV → Option AV := told cs_slices_Equal_L_int (fun a => slices_Equal_L_int a.1 a.2.1) er_slices_Equal_L_int
theorem x_slices_Equal_L_int : XOk 23 t_slices_Equal_L_int := by
 refine EnvOk.x (E := E0) (contract_ok E0_ok (fn := Tryz.f23) (c := cb_slices_Equal_L_int) ?h1 ?h2 ⟨Tryz.call23⟩ cs_slices_Equal_L_int (fun a => slices_Equal_L_int a.1 a.2.1) er_slices_Equal_L_int (fun a => (by show 2 ≤ 26; decide)) ?h3 ?h4) rfl rfl
 case h1 => kernel_rfl
 case h2 => kernel_rfl
 case h3 => intro b; kernel_rfl
 case h4 => exact fun a b h => slices_Equal_L_int_sem a.1 a.2.1 b h
/- trestle/trestlelaw03.CourtInversions -/
noncomputable def cb_law03_CourtInversions : Code := codeOf Tryz.f5
def law03_CourtInversions (x0 : (List Int)) (x1 : (List Int)) : Option (Bool) :=
 (if (decide ((x0.length : Int) > 60)) = true then some true else some (decide ((x1.length : Int) > 60))).bind fun j2 =>
 if j2 = true then
 law03_awake.bind fun v4 =>
 some v4
 else
 (slices_Clone_L_int x0).bind fun v5 =>
 (slices_Clone_L_int x1).bind fun v6 =>
 (court_Inversions v5 v6).bind fun v7 =>
 (ref03_Inversions x0 x1).bind fun v8 =>
 (if (v7 == v8) = true then (slices_Equal_L_int v5 x0).bind fun v9 =>
 if v9 = true then (slices_Equal_L_int v6 x1).bind fun v10 =>
 if v10 = true then law03_awake.bind fun v11 =>
 some v11 else some false else some false else some false).bind fun j13 =>
 some j13
def cs_law03_CourtInversions : Cs ((List Int) × (List Int) × Unit) := (csC (cdL 1 cdI) (csC (cdL 1 cdI) csN))
def er_law03_CourtInversions (r : Bool) : AV := cdB.enc r
set_option maxHeartbeats 4000000 in
set_option maxRecDepth 100000 in
theorem law03_CourtInversions_sem (x0 : (List Int)) (x1 : (List Int)) (r : Bool) (h : law03_CourtInversions x0 x1 = some r) : Sem E0 ⟨none, false⟩ cb_law03_CourtInversions ⟨Fr 40 (pairs0 0 (cs_law03_CourtInversions.enc (x0, x1, ()))), []⟩ fun e s' => (e = .normal ∨ e = .ret) ∧ ∃ xs, resA E0.P s'.fr s'.hp Tryz.f5.results.toList = some xs ∧ retA xs = er_law03_CourtInversions r := by
 unfold law03_CourtInversions at h
 let p1 : Nat × AV := (1, .sl 1 (x1.map cdI.enc))
 let p2 : Nat × AV := (0, .sl 1 (x0.map cdI.enc))
 refine Sem.wkQ (Sem.wk (s1 := ⟨Fr 40 [p2, p1], []⟩) (Wk.fr kr) ?_)
 refine Sem.sq E0_ok [p2, p1] [] ?_
 refine Sem.seq ?_
 refine Sem.seq ?_
 obtain ⟨j2, hj2, h⟩ := Option.bind_eq_some_iff.1 h
 refine Sem.runS (s1 := ⟨Fr 40 [p2, p1, (14, .v (.bool j2))], []⟩) ?_ ?_
 ·refine RunS.segF (n := 40) E0_ok 1 [p2, p1, (7, .sl 1 (x0.map cdI.enc))] [] kr ?_
  refine RunS.one E0_ok 0 rfl (op_q (wantedA_none rfl) rfl (q_len (a := .sl 1 (x0.map cdI.enc)) kr (len_sl (el := 3) kr))) ?_
  refine RunS.segF (n := 40) E0_ok 2 [p2, p1, (10, .v (.bool (decide ((x0.length : Int) > 60))))] [] kr ?_
  rcases Bool.eq_false_or_eq_true (decide ((x0.length : Int) > 60)) with hc17 | hc17
  ·rw [if_pos hc17] at hj2
   rw [hc17]
   refine RunS.segF (n := 40) E0_ok 4 [p2, p1, (14, .v (.bool true))] [] kr ?_
   have hq := Option.some.inj hj2; subst hq
   exact RunS.done rfl (Wk.fr kr)
  ·rw [if_f hc17] at hj2
   rw [hc17]
   refine RunS.segF (n := 40) E0_ok 1 [p2, p1, (10, .v (.bool false)), (11, .sl 1 (x1.map cdI.enc))] [] kr ?_
   refine RunS.one E0_ok 0 rfl (op_q kr rfl (q_len (a := .sl 1 (x1.map cdI.enc)) kr (len_sl (el := 3) kr))) ?_
   refine RunS.segF (n := 40) E0_ok 2 [p2, p1, (14, .v (.bool (decide ((x1.length : Int) > 60))))] [] kr ?_
   have hq := Option.some.inj hj2; subst hq
   exact RunS.done rfl (Wk.fr kr)
 refine Sem.cond (b := j2) kr (fun hb3 => ?_) (fun hb3 => ?_)
 ·rw [if_pos hb3] at h
  refine Sem.seq ?_
  obtain ⟨v4, hv4, h⟩ := Option.bind_eq_some_iff.1 h
  refine Sem.runS (s1 := ⟨Fr 40 [(4, .v (.bool v4))], []⟩) ?_ ?_
  ·refine RunS.callV (caps := []) (xs := []) (u := (())) rfl rfl x_law03_awake rfl (wantedA_none rfl) kr kr Sl.nil (.inl kr) hv4 ?_
   exact RunS.last E0_ok
  refine Sem.ret ?_
  have hq := Option.some.inj h; subst hq
  exact ⟨⟨Fr 40 [(4, .v (.bool v4))], []⟩, (Wk.fr kr), .inr rfl, [.v (.bool v4)], kr, kr⟩
 ·rw [if_f hb3] at h
  refine Sem.skip ?_
  refine Sem.seq ?_
  obtain ⟨v5, hv5, h⟩ := Option.bind_eq_some_iff.1 h
  obtain ⟨v6, hv6, h⟩ := Option.bind_eq_some_iff.1 h
  let p3 : Nat × AV := (6, .sl 1 (v6.map cdI.enc))
  let p4 : Nat × AV := (5, .sl 1 (v5.map cdI.enc))
  refine Sem.runS (s1 := ⟨Fr 40 [p2, p1, p4, p3], []⟩) ?_ ?_
  ·refine RunS.segF (n := 40) E0_ok 1 [p2, p1, (16, .sl 1 (x0.map cdI.enc))] [] kr ?_
   refine RunS.callV (caps := []) (xs := [.sl 1 (x0.map cdI.enc)]) (u := (x0, ())) rfl rfl x_slices_Clone_L_int rfl (wantedA_none rfl) kr kr (Sl.cons (Sm.enc (c := (cdL 1 cdI)) (v := x0)) Sl.nil) (.inr kr) hv5 ?_
   refine RunS.segF (n := 40) E0_ok 1 [p2, p1, (17, .sl 1 (v5.map cdI.enc)), (18, .sl 1 (x1.map cdI.enc))] [] kr ?_
   refine RunS.callV (caps := []) (xs := [.sl 1 (x1.map cdI.enc)]) (u := (x1, ())) rfl rfl x_slices_Clone_L_int rfl (wantedA_none rfl) kr kr (Sl.cons (Sm.enc (c := (cdL 1 cdI)) (v := x1)) Sl.nil) (.inr kr) hv6 ?_
   exact RunS.last E0_ok
  refine Sem.seq ?_
  obtain ⟨v7, hv7, h⟩ := Option.bind_eq_some_iff.1 h
  obtain ⟨v8, hv8, h⟩ := Option.bind_eq_some_iff.1 h
  obtain ⟨j13, hj13, h⟩ := Option.bind_eq_some_iff.1 h
  refine Sem.runS (s1 := ⟨Fr 40 [(4, .v (.bool j13))], []⟩) ?_ ?_
  ·refine RunS.segF (n := 40) E0_ok 2 [p2, p1, p4, p3, (20, .sl 1 (v5.map cdI.enc)), (21, .sl 1 (v6.map cdI.enc))] [] kr ?_
   refine RunS.callV (caps := []) (xs := [.sl 1 (v5.map cdI.enc), .sl 1 (v6.map cdI.enc)]) (u := (v5, v6, ())) rfl rfl x_court_Inversions rfl (wantedA_none rfl) kr kr (Sl.cons (Sm.enc (c := (cdL 1 cdI)) (v := v5)) (Sl.cons (Sm.enc (c := (cdL 1 cdI)) (v := v6)) Sl.nil)) (.inl kr) hv7 ?_
   refine RunS.segF (n := 40) E0_ok 2 [p2, p1, p4, p3, (22, .v (.int .i64 v7)), (23, .sl 1 (x0.map cdI.enc)), (24, .sl 1 (x1.map cdI.enc))] [] kr ?_
   refine RunS.callV (caps := []) (xs := [.sl 1 (x0.map cdI.enc), .sl 1 (x1.map cdI.enc)]) (u := (x0, x1, ())) rfl rfl x_ref03_Inversions rfl (wantedA_none rfl) kr kr (Sl.cons (Sm.enc (c := (cdL 1 cdI)) (v := x0)) (Sl.cons (Sm.enc (c := (cdL 1 cdI)) (v := x1)) Sl.nil)) (.inl kr) hv8 ?_
   refine RunS.segF (n := 40) E0_ok 2 [p2, p1, p4, p3, (27, .v (.bool (v7 == v8)))] [] kr ?_
   rcases Bool.eq_false_or_eq_true (v7 == v8) with hc14 | hc14
   ·rw [if_pos hc14] at hj13
    rw [hc14]
    refine RunS.segF (n := 40) E0_ok 2 [p1, p3, (27, .v (.bool true)), (28, .sl 1 (v5.map cdI.enc)), (29, .sl 1 (x0.map cdI.enc))] [] kr ?_
    obtain ⟨v9, hv9, hj13⟩ := Option.bind_eq_some_iff.1 hj13
    refine RunS.callV (caps := []) (xs := [.sl 1 (v5.map cdI.enc), .sl 1 (x0.map cdI.enc)]) (u := (v5, x0, ())) rfl rfl x_slices_Equal_L_int rfl kr kr kr (Sl.cons (Sm.enc (c := (cdL 1 cdI)) (v := v5)) (Sl.cons (Sm.enc (c := (cdL 1 cdI)) (v := x0)) Sl.nil)) (.inl kr) hv9 ?_
    refine RunS.segF (n := 40) E0_ok 2 [p1, p3, (32, .v (.bool v9))] [] kr ?_
    rcases Bool.eq_false_or_eq_true v9 with hc15 | hc15
    ·rw [if_pos hc15] at hj13
     rw [hc15]
     refine RunS.segF (n := 40) E0_ok 2 [(32, .v (.bool true)), (33, .sl 1 (v6.map cdI.enc)), (34, .sl 1 (x1.map cdI.enc))] [] kr ?_
     obtain ⟨v10, hv10, hj13⟩ := Option.bind_eq_some_iff.1 hj13
     refine RunS.callV (caps := []) (xs := [.sl 1 (v6.map cdI.enc), .sl 1 (x1.map cdI.enc)]) (u := (v6, x1, ())) rfl rfl x_slices_Equal_L_int rfl kr kr kr (Sl.cons (Sm.enc (c := (cdL 1 cdI)) (v := v6)) (Sl.cons (Sm.enc (c := (cdL 1 cdI)) (v := x1)) Sl.nil)) (.inl kr) hv10 ?_
     refine RunS.segF (n := 40) E0_ok 2 [(37, .v (.bool v10))] [] kr ?_
     rcases Bool.eq_false_or_eq_true v10 with hc16 | hc16
     ·rw [if_pos hc16] at hj13
      rw [hc16]
      obtain ⟨v11, hv11, hj13⟩ := Option.bind_eq_some_iff.1 hj13
      refine RunS.callV (caps := []) (xs := []) (u := (())) rfl rfl x_law03_awake rfl kr kr kr Sl.nil (.inl kr) hv11 ?_
      refine RunS.segF (n := 40) E0_ok 2 [(4, .v (.bool v11))] [] kr ?_
      have hq := Option.some.inj hj13; subst hq
      exact RunS.done rfl (Wk.fr kr)
     ·rw [if_f hc16] at hj13
      rw [hc16]
      refine RunS.segF (n := 40) E0_ok 3 [(4, .v (.bool false))] [] kr ?_
      have hq := Option.some.inj hj13; subst hq
      exact RunS.done rfl (Wk.fr kr)
    ·rw [if_f hc15] at hj13
     rw [hc15]
     refine RunS.segF (n := 40) E0_ok 8 [(4, .v (.bool false))] [] kr ?_
     have hq := Option.some.inj hj13; subst hq
     exact RunS.done rfl (Wk.fr kr)
   ·rw [if_f hc14] at hj13
    rw [hc14]
    refine RunS.segF (n := 40) E0_ok 13 [(4, .v (.bool false))] [] kr ?_
    have hq := Option.some.inj hj13; subst hq
    exact RunS.done rfl (Wk.fr kr)
  refine Sem.ret ?_
  have hq := Option.some.inj h; subst hq
  exact ⟨⟨Fr 40 [(4, .v (.bool j13))], []⟩, (Wk.fr kr), .inr rfl, [.v (.bool j13)], kr, kr⟩
def t_law03_CourtInversions : List AV → Option AV := told cs_law03_CourtInversions (fun a => law03_CourtInversions a.1 a.2.1) er_law03_CourtInversions
theorem x_law03_CourtInversions : XOk 5 t_law03_CourtInversions := by
 refine EnvOk.x (E := E0) (contract_ok E0_ok (fn := Tryz.f5) (c := cb_law03_CourtInversions) ?h1 ?h2 ⟨Tryz.call5⟩ cs_law03_CourtInversions (fun a => law03_CourtInversions a.1 a.2.1) er_law03_CourtInversions (fun a => (by show 2 ≤ 40; decide)) ?h3 ?h4) rfl rfl
 case h1 => kernel_rfl
 case h2 => kernel_rfl
 case h3 => intro b; kernel_rfl
 case h4 => exact fun a b h => law03_CourtInversions_sem a.1 a.2.1 b h
theorem wr_i {n : Int} (h1 : -9223372036854775808 ≤ n) (h2 : n ≤ 9223372036854775807) : wr .i64 n = n := by
 show (if _ then n else _) = n
 rw [if_pos ⟨h1, h2⟩]
theorem idx_app {α : Type} (pre : List α) (v : α) (r : List α) : idx (pre ++ v :: r) (pre.length : Int) = some v := by
 unfold idx
 rw [if_pos (by omega)]
 simp
theorem wr_snoc {α : Type} (pre : List α) (v : α) (r : List α) (h : (pre ++ v :: r).length ≤ 1000000000) : wr .i64 ((pre.length : Int) + 1) = ((pre ++ [v]).length : Int) := by
 simp at h
 rw [wr_i (by omega) (by omega)]; simp
theorem lt_len {α : Type} (pre : List α) (v : α) (r : List α) : decide ((pre.length : Int) < ((pre ++ v :: r).length : Int)) = true := by
 simp; omega
theorem nlt_len {α : Type} (pre : List α) : decide ((pre.length : Int) < ((pre ++ []).length : Int)) = false := by simp
theorem capOk_le {b n : Nat} (hb : b ≤ 1000) (h : n ≤ 1000000000) : capOk b n = true := by
 have h1 : n * b ≤ 1000000000 * 1000 := Nat.mul_le_mul h hb
 unfold capOk
 rw [Bool.and_eq_true]
 exact ⟨Nat.ble_eq_true_of_le (by omega), Nat.ble_eq_true_of_le (by omega)⟩
/-- A loop over a list: v, its index, the rest. -/
def goU {α ρ : Type} (B : α → Nat → Option ρ → Option ρ) (D : Option ρ) : List α → Nat → Option ρ
 | [], _ => D
 | v :: r, i => B v i (goU B D r (i + 1))
theorem loopV {α ρ : Type} (xs : List α) (L : Nat → Int → Option ρ) (B : α → Nat → Option ρ → Option ρ) (D : Option ρ)
  (hs : ∀ f (pre : List α) v r, xs = pre ++ v :: r → L (f + 1) (pre.length : Int) = B v pre.length (L f (((pre ++ [v]).length : Nat) : Int))) (hd : ∀ f, L (f + 1) (xs.length : Int) = D) :
  ∀ (r pre : List α) (f : Nat), xs = pre ++ r → r.length < f → L f (pre.length : Int) = goU B D r pre.length
 | [], pre, f + 1, hx, _ => by
  rw [show pre.length = xs.length by rw [hx]; simp]
  exact hd f
 | v :: r, pre, f + 1, hx, hf => by
  rw [hs f pre v r hx]
  have := loopV xs L B D hs hd r (pre ++ [v]) f (by rw [hx]; simp) (by simp at hf; omega)
  rw [this]
  show B v pre.length _ = B v pre.length _
  congr 1
  simp
theorem loopV0 {α ρ : Type} (xs : List α) (L : Nat → Int → Option ρ) (B : α → Nat → Option ρ → Option ρ) (D : Option ρ) (f : Nat) (hf : xs.length < f)
  (hs : ∀ f (pre : List α) v r, xs = pre ++ v :: r → L (f + 1) (pre.length : Int) = B v pre.length (L f (((pre ++ [v]).length : Nat) : Int))) (hd : ∀ f, L (f + 1) (xs.length : Int) = D) : L f 0 = goU B D xs 0 :=
 loopV xs L B D hs hd xs [] f rfl hf
/-- .. with a state. -/
def goS {α σ ρ : Type} (B : α → Nat → σ → (σ → Option ρ) → Option ρ) (D : σ → Option ρ) : List α → Nat → σ → Option ρ
 | [], _, s => D s
 | v :: r, i, s => B v i s (goS B D r (i + 1))
theorem loopS {α σ ρ : Type} (xs : List α) (L : Nat → σ → Int → Option ρ) (B : α → Nat → σ → (σ → Option ρ) → Option ρ) (D : σ → Option ρ)
  (hs : ∀ f (pre : List α) v r s, xs = pre ++ v :: r → L (f + 1) s (pre.length : Int) = B v pre.length s (fun s' => L f s' (((pre ++ [v]).length : Nat) : Int))) (hd : ∀ f s, L (f + 1) s (xs.length : Int) = D s) :
  ∀ (r pre : List α) (f : Nat) (s : σ), xs = pre ++ r → r.length < f → L f s (pre.length : Int) = goS B D r pre.length s
 | [], pre, f + 1, s, hx, _ => by
  rw [show pre.length = xs.length by rw [hx]; simp]
  exact hd f s
 | v :: r, pre, f + 1, s, hx, hf => by
  rw [hs f pre v r s hx]
  show B v pre.length s _ = B v pre.length s _
  congr 1
  funext s'
  rw [loopS xs L B D hs hd r (pre ++ [v]) f s' (by rw [hx]; simp) (by simp at hf; omega)]
  simp
theorem loopS0 {α σ ρ : Type} (xs : List α) (L : Nat → σ → Int → Option ρ) (B : α → Nat → σ → (σ → Option ρ) → Option ρ) (D : σ → Option ρ) (f : Nat) (s : σ) (hf : xs.length < f)
  (hs : ∀ f (pre : List α) v r s, xs = pre ++ v :: r → L (f + 1) s (pre.length : Int) = B v pre.length s (fun s' => L f s' (((pre ++ [v]).length : Nat) : Int))) (hd : ∀ f s, L (f + 1) s (xs.length : Int) = D s) : L f s 0 = goS B D xs 0 s :=
 loopS xs L B D hs hd xs [] f s rfl hf
/-- The first that meets a test. -/
theorem goU_any {α : Type} (P : α → Option Bool) (p : α → Bool) : ∀ (xs : List α) (i : Nat), (∀ x ∈ xs, P x = some (p x)) → ∃ r : Unit ⊕ Int, goU (fun v i k => (P v).bind fun b => if b = true then some (.inr (i : Int)) else k) (some (.inl ())) xs i = some r ∧ (match r with | .inl _ => xs.any p = false | .inr n => xs.any p = true ∧ 0 ≤ n)
 | [], i, _ => ⟨.inl (), rfl, rfl⟩
 | x :: xs, i, h => by
  unfold goU
  rw [h x (by simp), Option.bind_some]
  cases hp : p x with
  | true => exact ⟨.inr i, by simp, by simp [hp]⟩
  | false =>
   obtain ⟨r, h1, h2⟩ := goU_any P p xs (i + 1) fun y hy => h y (List.mem_cons_of_mem _ hy)
   refine ⟨r, by simpa using h1, ?_⟩
   cases r with
   | inl u => simpa [hp] using h2
   | inr n => simpa [hp] using h2
/-- slices.IndexFunc and slices.ContainsFunc. -/
theorem any_of {α : Type} (xs : List α) (hx : xs.length ≤ 99999) (P : α → Option Bool) (p : α → Bool) (hP : ∀ x ∈ xs, P x = some (p x)) (L : Nat → Int → Option (Unit ⊕ Int))
  (h : ∀ f c, L (f + 1) c = if decide (c < (xs.length : Int)) = true then (idx xs c).bind fun v => (P v).bind fun b => if b = true then some (.inr c) else L f (wr .i64 (c + 1)) else some (.inl ())) :
  ∃ n, ((L 100000 0).bind fun r => match r with | .inl _ => some (-1) | .inr w => some w) = some n ∧ decide (n ≥ 0) = xs.any p := by
 have e := loopV0 xs L (fun v i k => (P v).bind fun b => if b = true then some (.inr (i : Int)) else k) (some (.inl ())) 100000 (by omega) (fun f pre v r e => by
  subst e
  rw [h, if_pos (lt_len pre v r), idx_app, Option.bind_some, wr_snoc pre v r (by omega)]) (fun f => by rw [h, if_neg (by simp)])
 obtain ⟨r, h1, h2⟩ := goU_any P p xs 0 hP
 rw [e, h1]
 cases r with
 | inl u => exact ⟨-1, rfl, by rw [h2]; rfl⟩
 | inr n => exact ⟨n, rfl, by rw [h2.1]; simpa using h2.2⟩
/-- Two lists side by side. -/
def go2 {α β ρ : Type} (B : α → β → Option ρ → Option ρ) (D : Option ρ) : List α → List β → Option ρ
 | v :: r, u :: q => B v u (go2 B D r q)
 | _, _ => D
theorem loop2 {α β ρ : Type} (L : Nat → Int → Option ρ) (B : α → β → Option ρ → Option ρ) (D : Option ρ) (xs : List α) (ys : List β) (hl : xs.length = ys.length) (hx : xs.length ≤ 1000000)
  (h : ∀ f c, L (f + 1) c = if decide (c < (xs.length : Int)) = true then (idx xs c).bind fun v => (idx ys c).bind fun u => B v u (L f (wr .i64 (c + 1))) else D) :
  ∀ (r : List α) (q : List β) (pre : List α) (pre' : List β) (f : Nat), xs = pre ++ r → ys = pre' ++ q → pre.length = pre'.length → r.length < f → L f (pre.length : Int) = go2 B D r q
 | [], q, pre, pre', f + 1, e1, e2, e3, _ => by
  have : q = [] := by
   have : xs.length = pre.length := by rw [e1]; simp
   have h2 : ys.length = pre'.length + q.length := by rw [e2]; simp
   exact List.eq_nil_of_length_eq_zero (by omega)
  subst this
  subst e1
  rw [h, nlt_len]
  rfl
 | v :: r, [], pre, pre', f + 1, e1, e2, e3, _ => by
  exfalso
  have h1 : xs.length = pre.length + (r.length + 1) := by rw [e1]; simp
  have h2 : ys.length = pre'.length := by rw [e2]; simp
  omega
 | v :: r, u :: q, pre, pre', f + 1, e1, e2, e3, hf => by
  have ih := loop2 L B D xs ys hl hx h r q (pre ++ [v]) (pre' ++ [u]) f (by rw [e1]; simp) (by rw [e2]; simp) (by simp [e3]) (by simp at hf; omega)
  have k1 : idx xs (pre.length : Int) = some v := by rw [e1, idx_app]
  have k2 : idx ys (pre.length : Int) = some u := by rw [e2, e3, idx_app]
  have k3 : decide ((pre.length : Int) < (xs.length : Int)) = true := by rw [e1]; exact lt_len pre v r
  have k4 : wr .i64 ((pre.length : Int) + 1) = ((pre ++ [v]).length : Int) := wr_snoc pre v r (by rw [← e1]; omega)
  rw [h, if_pos k3, k1, Option.bind_some, k2, Option.bind_some, k4, ih]
  rfl
theorem go2_all {α β : Type} (P : α → β → Option Bool) (p : α → β → Bool) : ∀ (xs : List α) (ys : List β), (∀ x ∈ xs, ∀ y ∈ ys, P x y = some (p x y)) → xs.length = ys.length →
  go2 (fun v u k => (P v u).bind fun b => if (!b) = true then some (Sum.inr false) else k) (some (Sum.inl ())) xs ys = some (if (xs.zip ys).all (fun x => p x.1 x.2) then Sum.inl () else Sum.inr false)
 | [], [], _, _ => rfl
 | x :: xs, y :: ys, h, hl => by
  unfold go2
  rw [h x (by simp) y (by simp), Option.bind_some, go2_all P p xs ys (fun a ha b hb => h a (List.mem_cons_of_mem _ ha) b (List.mem_cons_of_mem _ hb)) (by simpa using hl)]
  rw [List.zip_cons_cons, List.all_cons]
  show (if (!p x y) = true then _ else _) = some (if (p x y && _) = true then _ else _)
  cases p x y <;> rfl
 | [], _ :: _, _, hl => by simp at hl
 | _ :: _, [], _, hl => by simp at hl
/-- slices.EqualFunc. -/
theorem all2_of {α β : Type} (xs : List α) (ys : List β) (hx : xs.length ≤ 99999) (P : α → β → Option Bool) (p : α → β → Bool) (hP : ∀ x ∈ xs, ∀ y ∈ ys, P x y = some (p x y)) (L : Nat → Int → Option (Unit ⊕ Bool))
  (h : ∀ f c, L (f + 1) c = if decide (c < (xs.length : Int)) = true then (idx xs c).bind fun v => (idx ys c).bind fun u => (P v u).bind fun b => if (!b) = true then some (.inr false) else L f (wr .i64 (c + 1)) else some (.inl ())) :
  (if ((xs.length : Int) != (ys.length : Int)) = true then some false else (L 100000 0).bind fun r => match r with | .inl _ => some true | .inr w => some w) = some (decide (xs.length = ys.length) && (xs.zip ys).all fun x => p x.1 x.2) := by
 by_cases hl : xs.length = ys.length
 ·rw [if_neg (by simp [hl])]
  have e := loop2 L (fun v u k => (P v u).bind fun b => if (!b) = true then some (Sum.inr false) else k) (some (Sum.inl ())) xs ys hl (by omega) h xs ys [] [] 100000 rfl rfl rfl (by omega)
  have e0 : L 100000 (([] : List α).length : Int) = L 100000 0 := rfl
  rw [← e0, e, go2_all P p xs ys hP hl]
  cases hq : (xs.zip ys).all (fun x => p x.1 x.2) <;> simp [hl]
 ·rw [if_pos (by simp; omega)]
  simp [hl]
theorem zip_all_eq {α : Type} [DecidableEq α] {p : α → α → Bool} (hp : ∀ a b, p a b = decide (a = b)) : ∀ (xs ys : List α), (decide (xs.length = ys.length) && (xs.zip ys).all fun x => p x.1 x.2) = decide (xs = ys)
 | [], [] => rfl
 | x :: xs, y :: ys => by
  have ih := zip_all_eq hp xs ys
  simp only [List.length_cons, Nat.add_right_cancel_iff, List.zip_cons_cons, List.all_cons, List.cons.injEq, hp]
  simp only [hp] at ih
  by_cases h1 : x = y
  ·subst h1; simpa using ih
  ·simp [h1]
 | [], _ :: _ => by simp
 | _ :: _, [] => by simp
/-- slices.Equal. -/
theorem eq_of {α : Type} [DecidableEq α] [BEq α] [LawfulBEq α] (xs ys : List α) (hx : xs.length ≤ 99999) (L : Nat → Int → Option (Unit ⊕ Bool))
  (h : ∀ f c, L (f + 1) c = if decide (c < (xs.length : Int)) = true then (idx xs c).bind fun v => (idx ys c).bind fun u => if (v != u) = true then some (.inr false) else L f (wr .i64 (c + 1)) else some (.inl ())) :
  (if ((xs.length : Int) != (ys.length : Int)) = true then some false else (L 100000 0).bind fun r => match r with | .inl _ => some true | .inr w => some w) = some (decide (xs = ys)) := by
 rw [all2_of xs ys hx (fun v u => some (v == u)) (fun v u => v == u) (fun _ _ _ _ => rfl) L (fun f c => by rw [h]; rfl), zip_all_eq (fun a b => by by_cases h : a = b <;> simp [h])]
theorem clone_i (xs : List Int) (h : xs.length ≤ 1000000) : slices_Clone_L_int xs = some xs := by
 unfold slices_Clone_L_int
 rw [if_pos (capOk_le (by omega) (by omega))]
theorem equal_i (xs ys : List Int) (h : xs.length ≤ 99999) : slices_Equal_L_int xs ys = some (decide (xs = ys)) := by
 unfold slices_Equal_L_int
 exact eq_of xs ys h (slices_Equal_L_int_l1 xs ys) (fun f c => rfl)
def bad (cl : List Int) (v : Int) : Bool := decide (v < 0) || decide (v ≥ (cl.length : Int))
theorem bad_c (v : Int) (cl : List Int) : court_Inversions_1 v cl = some (bad cl v) := by
 unfold court_Inversions_1 bad
 by_cases h : v < 0 <;> simp [h]
theorem bad_any (cl od : List Int) (h : od.length ≤ 99999) : slices_ContainsFunc_L_int__court_Inversions_1 od cl = some (od.any (bad cl)) := by
 unfold slices_ContainsFunc_L_int__court_Inversions_1 slices_IndexFunc_L_int__court_Inversions_1
 obtain ⟨n, h1, h2⟩ := any_of od h (fun v => court_Inversions_1 v cl) (bad cl) (fun x _ => bad_c x cl) (slices_IndexFunc_L_int__court_Inversions_1_l1 od cl) (fun f c => rfl)
 rw [← h2]
 exact (congrArg (fun o => o.bind fun v1 => some (decide (v1 ≥ 0))) h1)
def vl (cl : List Int) (v : Int) : Int := cl.getD v.toNat 0
theorem idx_vl {cl : List Int} {v : Int} (h : bad cl v = false) : idx cl v = some (vl cl v) := by
 simp only [bad, Bool.or_eq_false_iff, decide_eq_false_iff_not] at h
 unfold idx vl
 rw [if_pos (by omega), List.getElem?_eq_getElem (by omega), List.getD_eq_getElem?_getD, List.getElem?_eq_getElem (by omega)]
 rfl
/-- How many stand behind x and below it. -/
def below (x : Int) (r : List Int) : Nat := r.countP fun y => decide (x > y)
def inv : List Int → Nat
 | [] => 0
 | x :: r => below x r + inv r
theorem below_le (x : Int) (r : List Int) : below x r ≤ r.length := List.countP_le_length
theorem inv_le : ∀ (r : List Int), inv r ≤ r.length * r.length
 | [] => by simp [inv]
 | x :: r => by
  have h1 := below_le x r
  have h2 := inv_le r
  have h3 : (r.length + 1) * (r.length + 1) = r.length * r.length + 2 * r.length + 1 := by simp only [Nat.add_mul, Nat.mul_add]; omega
  simp only [inv, List.length_cons]
  omega
theorem inv_snoc (y : Int) : ∀ (r : List Int), inv (r ++ [y]) = inv r + r.countP fun x => decide (x > y)
 | [] => by simp [inv, below]
 | x :: r => by
  have ih := inv_snoc y r
  simp only [List.cons_append, inv, ih, List.countP_cons, below, List.countP_append, List.countP_nil]
  omega
section
variable (cl od : List Int)
theorem inner_go (x : Int) : ∀ (q : List Int) (j n : Nat), n + q.length ≤ 100000 → goS (fun y _ (s : Int) (k : Int → Option Int) => k (if decide (vl cl x > vl cl y) = true then wr .i64 (s + 1) else s)) (fun s => some s) q j (n : Int) = some ((n + below (vl cl x) (q.map (vl cl)) : Nat) : Int)
 | [], j, n, _ => by simp [goS, below]
 | y :: q, j, n, h => by
  simp only [List.length_cons] at h
  unfold goS
  by_cases hc : vl cl x > vl cl y
  ·rw [if_pos (by simp [hc]), wr_i (by omega) (by omega)]
   have := inner_go x q (j + 1) (n + 1) (by omega)
   rw [show ((n : Int) + 1) = ((n + 1 : Nat) : Int) by simp, this]
   simp [below, hc]; omega
  ·rw [if_neg (by simpa using hc), inner_go x q (j + 1) n (by omega)]
   simp [below, hc]
theorem inner_c (hod : od.length ≤ 60) (hb : od.any (bad cl) = false) (i : Nat) (hi : i < 60) (x : Int) (hx : bad cl x = false) (n : Nat) (hn : n ≤ 10000) :
  court_Inversions_l2 cl od (i : Int) x 100000 (n : Int) 0 = some ((n + below (vl cl x) ((od.drop (i + 1)).map (vl cl)) : Nat) : Int) := by
 have ht : (od.take ((od.length : Int)).toNat).drop (wr .i64 ((i : Int) + 1)).toNat = od.drop (i + 1) := by
  rw [wr_i (by omega) (by omega), show ((i : Int) + 1).toNat = i + 1 by omega, Int.toNat_natCast, List.take_length]
 have hrb : ∀ y ∈ od.drop (i + 1), bad cl y = false := fun y hy => by
  have := List.any_eq_false.1 hb y (List.mem_of_mem_drop hy)
  simpa using this
 have hlen : (od.drop (i + 1)).length ≤ 60 := by simp; omega
 generalize od.drop (i + 1) = q at ht hrb hlen
 have e := loopS0 q (fun f (s : Int) c => court_Inversions_l2 cl od (i : Int) x f s c) (fun y _ s k => k (if decide (vl cl x > vl cl y) = true then wr .i64 (s + 1) else s)) (fun s => some s) 100000 (n : Int) (by omega)
  (fun f pre v r s e => by
   conv => lhs; unfold court_Inversions_l2
   rw [ht, e, if_pos (lt_len pre v r), idx_app, Option.bind_some, idx_vl hx, Option.bind_some, idx_vl (hrb v (by rw [e]; simp)), Option.bind_some, wr_snoc pre v r (by rw [← e]; omega)]
   unfold court_Inversions_j3
   split <;> rfl)
  (fun f s => by
   conv => lhs; unfold court_Inversions_l2
   rw [ht, if_neg (by simp)])
 rw [e]
 exact inner_go cl x q 0 n (by omega)
theorem outer_go (hod : od.length ≤ 60) (hb : od.any (bad cl) = false) : ∀ (r pre : List Int) (f n : Nat), od = pre ++ r → r.length < f → n + r.length * 60 ≤ 10000 → court_Inversions_l1 cl od f (n : Int) (pre.length : Int) = some ((n + inv (r.map (vl cl)) : Nat) : Int)
 | [], pre, f + 1, n, hx, _, _ => by
  unfold court_Inversions_l1
  rw [if_neg (by rw [hx]; simp)]
  simp [inv]
 | x :: r, pre, f + 1, n, hx, hf, hn => by
  have hlen : od.length = pre.length + r.length + 1 := by rw [hx]; simp; omega
  simp only [List.length_cons] at hn hf
  have hbx : bad cl x = false := by
   have := List.any_eq_false.1 hb x (by rw [hx]; simp)
   simpa using this
  unfold court_Inversions_l1
  rw [if_pos (by rw [hx]; exact lt_len pre x r)]
  conv => lhs; arg 1; rw [hx, idx_app]
  rw [Option.bind_some, if_pos (by
   unfold cutOk
   rw [wr_i (by omega) (by omega)]
   simp; omega), inner_c cl od hod hb pre.length (by omega) x hbx n (by omega), Option.bind_some]
  have hd : od.drop (pre.length + 1) = r := by rw [hx]; simp
  rw [hd]
  have hbl := below_le (vl cl x) (r.map (vl cl))
  simp only [List.length_map] at hbl
  have := outer_go hod hb r (pre ++ [x]) f (n + below (vl cl x) (r.map (vl cl))) (by rw [hx]; simp) (by omega) (by omega)
  rw [show wr .i64 ((pre.length : Int) + 1) = ((pre ++ [x]).length : Int) from wr_snoc pre x r (by rw [← hx]; omega), this]
  simp [inv]; omega
theorem court_inv (hod : od.length ≤ 60) : court_Inversions cl od = some (if od.any (bad cl) = true then 0 else ((inv (od.map (vl cl)) : Nat) : Int)) := by
 unfold court_Inversions
 rw [bad_any cl od (by omega), Option.bind_some]
 split
 ·rfl
 ·next h =>
  have hb : od.any (bad cl) = false := by simpa using h
  have := outer_go cl od hod hb od [] 100000 0 rfl (by omega) (by omega)
  have e0 : court_Inversions_l1 cl od 100000 ((0 : Nat) : Int) (([] : List Int).length : Int) = court_Inversions_l1 cl od 100000 0 0 := rfl
  rw [← e0, this, Option.bind_some]
  simp
theorem goU_bad : ∀ (xs : List Int) (i : Nat), goU (fun v _ (k : Option (Unit ⊕ Int)) => if bad cl v = true then some (.inr 0) else k) (some (.inl ())) xs i = some (if xs.any (bad cl) = true then .inr 0 else .inl ())
 | [], _ => rfl
 | x :: xs, i => by
  unfold goU
  rw [goU_bad xs (i + 1), List.any_cons]
  cases bad cl x <;> rfl
theorem ref_bad (hod : od.length ≤ 60) : ref03_Inversions_l1 cl od 100000 0 = some (if od.any (bad cl) = true then .inr 0 else .inl ()) := by
 rw [← goU_bad cl od 0]
 refine loopV0 od (ref03_Inversions_l1 cl od) _ _ 100000 (by omega) (fun f pre v r e => ?_) (fun f => ?_)
 ·conv => lhs; unfold ref03_Inversions_l1
  rw [e, if_pos (lt_len pre v r), idx_app, Option.bind_some, Option.bind_some, wr_snoc pre v r (by rw [← e]; omega)]
  unfold bad
  by_cases h : v < 0 <;> simp [h]
 ·conv => lhs; unfold ref03_Inversions_l1
  rw [if_neg (by simp)]
def above (y : Int) (r : List Int) : Nat := r.countP fun x => decide (x > y)
theorem ref_in (hb : od.any (bad cl) = false) (pre q : List Int) (y : Int) (hx : od = pre ++ y :: q) (hod : od.length ≤ 60) : ∀ (r p : List Int) (f n : Nat), pre = p ++ r → r.length < f → n + r.length ≤ 100000 → ref03_Inversions_l3 cl od (pre.length : Int) f (n : Int) (p.length : Int) = some ((n + above (vl cl y) (r.map (vl cl)) : Nat) : Int)
 | [], p, f + 1, n, hp, _, _ => by
  unfold ref03_Inversions_l3
  rw [if_neg (by rw [hp]; simp)]
  simp [above]
 | x :: r, p, f + 1, n, hp, hf, hn => by
  simp only [List.length_cons] at hn hf
  have hmem : ∀ z ∈ od, bad cl z = false := fun z hz => by simpa using List.any_eq_false.1 hb z hz
  have h1 : idx od (p.length : Int) = some x := by rw [hx, hp, List.append_assoc, List.cons_append, idx_app]
  have h2 : idx od (pre.length : Int) = some y := by rw [hx, idx_app]
  have hlen : pre.length = p.length + r.length + 1 := by rw [hp]; simp; omega
  have hlen2 : od.length = pre.length + q.length + 1 := by rw [hx]; simp; omega
  unfold ref03_Inversions_l3
  rw [if_pos (by simp; omega), h1, Option.bind_some, idx_vl (hmem x (by rw [hx, hp]; simp)), Option.bind_some, h2, Option.bind_some, idx_vl (hmem y (by rw [hx]; simp)), Option.bind_some]
  have hw : wr .i64 ((p.length : Int) + 1) = ((p ++ [x]).length : Int) := by rw [wr_i (by omega) (by omega)]; simp
  rw [hw]
  unfold ref03_Inversions_j4
  have ih := fun n h => ref_in hb pre q y hx hod r (p ++ [x]) f n (by rw [hp]; simp) (by omega) h
  by_cases hc : vl cl x > vl cl y
  ·rw [if_pos (by simp [hc]), Option.bind_some, wr_i (by omega) (by omega), show ((n : Int) + 1) = ((n + 1 : Nat) : Int) by simp, ih (n + 1) (by omega)]
   simp [above, hc]; omega
  ·rw [if_neg (by simpa using hc), Option.bind_some, ih n (by omega)]
   simp [above, hc]
theorem ref_out (hod : od.length ≤ 60) (hb : od.any (bad cl) = false) : ∀ (r pre : List Int) (f : Nat), od = pre ++ r → r.length < f → ref03_Inversions_l2 cl od f ((inv (pre.map (vl cl)) : Nat) : Int) (pre.length : Int) = some ((inv (od.map (vl cl)) : Nat) : Int)
 | [], pre, f + 1, hx, _ => by
  unfold ref03_Inversions_l2
  rw [if_neg (by rw [hx]; simp), hx, List.append_nil]
 | y :: r, pre, f + 1, hx, hf => by
  simp only [List.length_cons] at hf
  have hlen : od.length = pre.length + r.length + 1 := by rw [hx]; simp; omega
  unfold ref03_Inversions_l2
  rw [if_pos (by rw [hx]; exact lt_len pre y r)]
  have hle := inv_le (pre.map (vl cl))
  simp only [List.length_map] at hle
  have hle2 : pre.length * pre.length ≤ 60 * 60 := Nat.mul_le_mul (by omega) (by omega)
  have h3 := ref_in cl od hb pre r y hx hod pre [] 100000 (inv (pre.map (vl cl))) rfl (by omega) (by omega)
  have e0 : ref03_Inversions_l3 cl od (pre.length : Int) 100000 ((inv (pre.map (vl cl)) : Nat) : Int) (([] : List Int).length : Int) = ref03_Inversions_l3 cl od (pre.length : Int) 100000 ((inv (pre.map (vl cl)) : Nat) : Int) 0 := rfl
  rw [← e0, h3, Option.bind_some]
  have h4 : inv (pre.map (vl cl)) + above (vl cl y) (pre.map (vl cl)) = inv ((pre ++ [y]).map (vl cl)) := by
   rw [List.map_append, List.map_cons, List.map_nil, inv_snoc]; rfl
  rw [h4, show wr .i64 ((pre.length : Int) + 1) = ((pre ++ [y]).length : Int) from wr_snoc pre y r (by rw [← hx]; omega)]
  exact ref_out hod hb r (pre ++ [y]) f (by rw [hx]; simp) (by omega)
theorem ref_inv (hod : od.length ≤ 60) : ref03_Inversions cl od = some (if od.any (bad cl) = true then 0 else ((inv (od.map (vl cl)) : Nat) : Int)) := by
 unfold ref03_Inversions
 rw [ref_bad cl od hod, Option.bind_some]
 split
 ·next h =>
  split at h
  ·cases h
  ·next hb =>
   have hb : od.any (bad cl) = false := by simpa using hb
   have := ref_out cl od hod hb od [] 100000 rfl (by omega)
   have e0 : ref03_Inversions_l2 cl od 100000 ((inv (([] : List Int).map (vl cl)) : Nat) : Int) (([] : List Int).length : Int) = ref03_Inversions_l2 cl od 100000 0 0 := rfl
   rw [← e0, this, Option.bind_some, if_neg (by rw [hb]; simp)]
 ·next h =>
  split at h
  ·next hb => injection h with h; subst h; rw [if_pos hb]
  ·cases h
end
theorem inversions_law (cl od : List Int) : law03_CourtInversions cl od = some true := by
 unfold law03_CourtInversions
 by_cases h1 : cl.length > 60
 ·rw [if_pos (by simp; omega)]
  rfl
 ·rw [if_neg (by simp; omega), Option.bind_some]
  by_cases h2 : od.length > 60
  ·rw [if_pos (by simp; omega)]
   rfl
  ·rw [if_neg (by simp; omega), clone_i cl (by omega), Option.bind_some, clone_i od (by omega), Option.bind_some, court_inv cl od (by omega), Option.bind_some, ref_inv cl od (by omega), Option.bind_some, if_pos (by simp), equal_i cl cl (by omega), Option.bind_some, if_pos (by simp), equal_i od od (by omega), Option.bind_some, if_pos (by simp)]
   rfl
end Go.Proofs.YtiphapnckldpbaaGreatDoor
namespace Go.Proofs.YtiphapnckldpbaaGreatDoor.courtInversions
open Go.ChangeShapes Go.WideShapes Go.ChangeAt Go.RowKit
theorem law_ret (a0 : (List Int)) (a1 : (List Int)) (h : law03_CourtInversions a0 a1 = some true) {w : World} {v0 v1 : Value} (h0 : VR w (fun c => c < w.heap.size) [] ((cdL 1 cdI).enc a0) v0) (h1 : VR w (fun c => c < w.heap.size) [] ((cdL 1 cdI).enc a1) v1) : Ret Tryz.prog 5 #[v0, v1] w fun v w' => v = .bool true ∧ w.grownBy w' none :=
 Ret.mono (x_law03_CourtInversions.2 (cs_law03_CourtInversions.enc (a0, a1, ())) (er_law03_CourtInversions true) (told_enc (s := cs_law03_CourtInversions) (a := (a0, a1, ())) h) w (fun c => c < w.heap.size) [v0, v1] (fun c hc => hc) (fun g x h => by cases h) (.cons h0 (.cons h1 .nil))) fun v w' h => ⟨h.2.v_inv, h.1⟩
set_option maxRecDepth 100000 in
theorem contract (H : Type) (enc : TypeId × Value → H) (W : World) (base : Nat) (args : Array Value) (ds gs : List (DataW H)) (before : List MemPlace)
  (hval : ∀ (j : Nat) t v, Tryz.f5.params[j]? = some t → args[j]? = some v → Value.okWide Tryz.prog W .any base t v)
  (hW : DataW.Whole enc Tryz.prog Tryz.f5.params.toList Rows.courtInversionsSpec.vars false W args.toList ds gs before)
  (hsz : (DataW.weightsEach Tryz.prog (Tryz.f5.params.toList ++ (OpenSpec.ofChange Rows.courtInversionsSpec).bare.plain.varTypes Tryz.prog) (ds ++ gs)).all (· ≤ reachBytes) = true) :
  Calls Tryz.prog 5 args W fun e W' => ∃ v, e = .returned v ∧ Rows.courtInversionsSpec.post enc Tryz.prog Tryz.f5 false true false false W args v W' := by
 have hW' := hW
 obtain ⟨p, q, hA0, hV, rfl, hfz, hnd⟩ := hW
 have hA : DataW.TrodAll enc Tryz.prog W 0 (fun _ => true) true Tryz.f5.params.toList args.toList ds p := hA0
 have hpar : Tryz.f5.params = #[28, 28] := by kernel_rfl
 rw [hpar] at hA hval
 obtain ⟨v0, vs0, d0, ds0, p0, q0, hargs, rfl, rfl, h0, r0⟩ := trodAll_cons hA
 obtain ⟨v1, vs1, d1, ds1, p1, q1, rfl, rfl, rfl, h1, r1⟩ := trodAll_cons r0
 obtain ⟨rfl, rfl, rfl⟩ := trodAll_nil r1
 obtain rfl : args = #[v0, v1] := by apply Array.ext'; simpa using hargs
 obtain ⟨a0, k0, g0⟩ := rc_arg (rc_slice (by kernel_rfl : Tryz.prog.underlying 28 = some (.slice 3)) (by kernel_rfl) (by kernel_rfl) (by kernel_rfl) (by kernel_rfl) (rc_int64 (by kernel_rfl : Tryz.prog.underlying 3 = some (.int .i64)) (by kernel_rfl))) (one_slice (by kernel_rfl : Tryz.prog.underlying 28 = some (.slice 3)) (hval 0 28 v0 rfl rfl)) (fun _ => rfl) h0 hsz (j := 0) (by kernel_rfl) rfl
 obtain ⟨a1, k1, g1⟩ := rc_arg (rc_slice (by kernel_rfl : Tryz.prog.underlying 28 = some (.slice 3)) (by kernel_rfl) (by kernel_rfl) (by kernel_rfl) (by kernel_rfl) (rc_int64 (by kernel_rfl : Tryz.prog.underlying 3 = some (.int .i64)) (by kernel_rfl))) (one_slice (by kernel_rfl : Tryz.prog.underlying 28 = some (.slice 3)) (hval 1 28 v1 rfl rfl)) (fun _ => rfl) h1 hsz (j := 1) (by kernel_rfl) rfl
 have hc := law_ret a0 a1 (inversions_law a0 a1) k0 k1
 unfold Ret at hc
 refine hc.mono fun e W' he => ?_
 cases e with
 | returned v =>
  obtain ⟨rfl, hg⟩ := he
  exact ⟨_, rfl, post_true laidOut (fun t ht => ⟨mem_of_laid (fun t => Tryz.prog.readableRec t) (by kernel_rfl) ht, of_decide_eq_true (mem_of_laid (fun t => decide (t < Tryz.prog.types.size)) (by kernel_rfl) ht)⟩) hW' rfl (by kernel_rfl) (by kernel_rfl : Tryz.prog.underlying 4 = some .bool) rfl hg⟩
 | panicked c => exact he.elim
 | outgrown => exact he.elim
theorem laid_met (os : Os) : laidMet Tryz.prog Rows.courtInversionsRow.laid ((laidWorld os).forCall (fun _ _ => 0) ⟨#[], #[Value.slice none 0 0, Value.slice none 0 0], []⟩).memory :=
 laidMet_of_run' 8 (by kernel_rfl) (by kernel_rfl)
theorem reads (os : Os) {H : Type} (enc : TypeId × Value → H) : ∃ places, DataW.whole enc Tryz.prog ((laidWorld os).forCall (fun _ _ => 0) ⟨#[], #[Value.slice none 0 0, Value.slice none 0 0], []⟩).memory Tryz.f5.params.toList Rows.courtInversionsSpec.vars false #[Value.slice none 0 0, Value.slice none 0 0].toList 8 = some ([.nil, .nil], [], places) :=
 ⟨[], by kernel_rfl⟩
set_option maxRecDepth 100000 in
theorem lifted (os : Os) (started : os.Started) (H : Type) (enc : TypeId × Value → H) (F : Stop.Interp) :
  ReturnsInHanded {} Tryz.checked os 5 .any ((OpenSpec.ofChange Rows.courtInversionsSpec).preRow enc Tryz.prog Tryz.f5 Rows.courtInversionsRow.domain false Rows.courtInversionsRow.laid) (((OpenSpec.ofChange Rows.courtInversionsSpec).at F).post enc Tryz.prog Tryz.f5 false true false false) := by
 obtain ⟨places, hx⟩ := reads os enc
 refine returnsInHanded_of_row (C := Tryz.checked) (s := OpenSpec.ofChange Rows.courtInversionsSpec) ownKnob0 started (by kernel_rfl) Tryz.func5
  (witness_row_at (enc := enc) (C := Tryz.checked) false (laidWorld os) #[Value.slice none 0 0, Value.slice none 0 0] rfl (by kernel_rfl) (by kernel_rfl) (by kernel_rfl)
   (OpenSpec.preRow_of_cond 8 hx (by kernel_rfl) (fun k hk => by cases hk) (by kernel_rfl) (laid_met os))) ?_
 intro W base args ds gs before hval hW _ _ hsz _ _ _
 exact contract H enc W base args ds gs before hval hW hsz
theorem said : Rows.CourtInversionsSaid :=
 OpenClaim.holds_of_cond 5 Tryz.f5 rfl rfl rfl rfl rfl rfl rfl ⟨rfl, rfl, rfl, rfl, rfl⟩ rfl rfl rfl rfl rfl (by kernel_rfl) Tryz.func5 (by kernel_rfl)
  (of_decide_eq_true (by kernel_rfl)) (by unfold Func.isWrapper; first | (rw [if_pos (by decide +kernel)]; kernel_rfl) | (rw [if_neg (by decide +kernel)]; exact ⟨rfl, rfl⟩))
  (fun os started H enc _ F => by rw [OpenClaim.pre_eq_preRow]; exact lifted os started H enc F)
theorem plain (f : FuncId) (fn : Func) (hf : Tryz.pinned.checked.prog.funcNamed "trestle/trestlelaw03.CourtInversions" = some f) (hfn : Tryz.pinned.checked.prog.funcs[f]? = some fn) :
  true = Tryz.pinned.checked.prog.looks [] ∧ ∀ (j : Nat) t, fn.params[j]? = some t → Tryz.pinned.checked.prog.wantsStandIn t = false := by
 obtain rfl : f = 5 := Option.some.inj ((show Tryz.prog.funcNamed "trestle/trestlelaw03.CourtInversions" = some 5 by kernel_rfl).symm.trans hf) |>.symm
 obtain rfl : fn = Tryz.f5 := (Option.some.inj (Tryz.func5.symm.trans hfn)).symm
 refine ⟨by kernel_rfl, fun j t ht => ?_⟩
 have hm : t ∈ Tryz.f5.params.toList := by simpa using Array.mem_of_getElem? ht
 exact (show Tryz.prog.wantsStandIn t = false from Bool.not_eq_true' _ |>.mp (mem_of_laid (fun t => !Tryz.prog.wantsStandIn t) (by kernel_rfl) hm))
theorem card : Rows.CourtInversionsCardSaid :=
 Claim7.holds_tied_plain_at .later [] _ _ _ _ said (fun _ h => by cases h) (by kernel_rfl) (fun _ h => by cases h) courtInversions_row_tie rfl ⟨rfl, rfl⟩ (by kernel_rfl) rfl plain (by kernel_rfl)
end Go.Proofs.YtiphapnckldpbaaGreatDoor.courtInversions
