/- Lemmas for the proof. -/
import Derived.Test.YtiphapnckldpbaaGreatDoorCourtComparesM1
import Derived.Test.YtiphapnckldpbaaGreatDoorCourtComparesM2
import Derived.Test.YtiphapnckldpbaaGreatDoorCourtComparesM3
import Derived.Test.YtiphapnckldpbaaGreatDoorCourtComparesM4
import Derived.Test.YtiphapnckldpbaaGreatDoorCourtComparesM5
set_option maxHeartbeats 4000000
set_option maxRecDepth 100000
namespace Go.Proofs.YtiphapnckldpbaaGreatDoor
open Go.RowKit
def isT (r : Option (AV × Hp)) : Bool := match r with
 | some (.v (.bool true), _) => true
 | _ => false
theorem isT_inv {r : Option (AV × Hp)} (h : isT r = true) : ∃ h', r = some (.v (.bool true), h') := by
 unfold isT at h
 split at h
 ·exact ⟨_, rfl⟩
 ·cases h
set_option maxRecDepth 1000000 in
theorem awakeT : isT (evCall E13 3000 17 [] []) = true := by kernel_rfl
theorem awake_ev : ∃ h, evCall E13 3000 17 [] [] = some (.v (.bool true), h) := isT_inv awakeT
theorem awake_ret (w : World) : Ret Tryz.prog 17 #[] w fun v w' => v = .bool true ∧ w.grownBy w' none := by
 obtain ⟨h, e⟩ := awake_ev
 exact ret_true (E := E13) (Z := fun _ => False) (us := []) E13_ok e (fun c hc => hc.elim) (fun g x h => by cases h) .nil
theorem vr_true {w : World} {Z : Nat → Prop} : VR w Z [] (.v (.bool true)) (.bool true) := .v rfl
def law03_awake : Option Bool := some true
def cs_law03_awake : Cs Unit := csN
def er_law03_awake (b : Bool) : AV := cdB.enc b
def t_law03_awake : List AV → Option AV := told cs_law03_awake (fun _ => law03_awake) er_law03_awake
theorem x_law03_awake : XOk 17 t_law03_awake := by
 refine ⟨⟨Tryz.call17⟩, fun xs x h w Z us _ _ hv => ?_⟩
 obtain ⟨a, ha, h⟩ := Option.bind_eq_some_iff.1 h
 obtain ⟨b, hb, rfl⟩ := Option.map_eq_some_iff.1 h
 have hb := Option.some.inj hb
 subst hb
 have : xs = [] := by
  cases xs with
  | nil => rfl
  | cons x xs => cases ha
 subst this
 have : us = [] := by have := hv.len; simpa using this
 subst this
 exact Ret.mono (awake_ret w) fun v w' h => ⟨h.2, by rw [h.1]; exact vr_true⟩
/- trestle/trestlelaw03.FewGuests$1$1 -/
noncomputable def cb_law03_FewGuests_1_1 : Code := codeOf Tryz.f58
def law03_FewGuests_1_1 (x0 : (List UInt8)) : Option (Bool) :=
 some (decide ((x0.length : Int) > 40))
def cs_law03_FewGuests_1_1 : Cs ((List UInt8) × Unit) := (csC cdS csN)
def er_law03_FewGuests_1_1 (r : Bool) : AV := cdB.enc r
theorem law03_FewGuests_1_1_sem (x0 : (List UInt8)) (r : Bool) (h : law03_FewGuests_1_1 x0 = some r) : Sem E0 ⟨none, false⟩ cb_law03_FewGuests_1_1 ⟨Fr 6 (pairs0 0 (cs_law03_FewGuests_1_1.enc (x0, ()))), []⟩ fun e s' => (e = .normal ∨ e = .ret) ∧ ∃ xs, resA E0.P s'.fr s'.hp Tryz.f58.results.toList = some xs ∧ retA xs = er_law03_FewGuests_1_1 r := by
 unfold law03_FewGuests_1_1 at h
 refine Sem.wkQ (Sem.wk (s1 := ⟨Fr 6 [(0, .st x0)], []⟩) (Wk.fr kr) ?_)
 refine Sem.sq E0_ok [(0, .st x0)] [] ?_
 let p1 : Nat × AV := (2, .v (.bool (decide ((x0.length : Int) > 40))))
 refine Sem.sq E0_ok [p1] [] ?_
 refine Sem.ret ?_
 have hq := Option.some.inj h; subst hq
 exact ⟨⟨Fr 6 [p1], []⟩, (Wk.fr kr), .inr rfl, [.v (.bool (decide ((x0.length : Int) > 40)))], kr, kr⟩
def t_law03_FewGuests_1_1 : List AV → Option AV := told cs_law03_FewGuests_1_1 (fun a => law03_FewGuests_1_1 a.1) er_law03_FewGuests_1_1
theorem x_law03_FewGuests_1_1 : XOk 58 t_law03_FewGuests_1_1 := by
 refine xok_of_sem Tryz.func58 (c := cb_law03_FewGuests_1_1) ?h2 ⟨Tryz.call58⟩ cs_law03_FewGuests_1_1 (fun a => law03_FewGuests_1_1 a.1) er_law03_FewGuests_1_1 (fun a => (by show 1 ≤ 6; decide)) ?h3 ?h4
 case h2 => kernel_rfl
 case h3 => intro b; kernel_rfl
 case h4 => exact fun a b h => law03_FewGuests_1_1_sem a.1 b h
/- slices.IndexFunc[[]string,string] -/
noncomputable def cb_slices_IndexFunc_string_string__law03_FewGuests_1_1 : Code := codeOf Tryz.f100
def slices_IndexFunc_string_string__law03_FewGuests_1_1_l1 (x0 : (List (List UInt8))) : Nat → Int → Option ((Unit) ⊕ (Int))
 | 0, _ => none
 | f + 1, c1 =>
  if (decide (c1 < (x0.length : Int))) = true then
  (idx x0 c1).bind fun v3 =>
  (law03_FewGuests_1_1 v3).bind fun v4 =>
  if v4 = true then
  some (.inr c1)
  else
  slices_IndexFunc_string_string__law03_FewGuests_1_1_l1 x0 f (wr .i64 (c1 + 1))
  else
  some (.inl ())
def slices_IndexFunc_string_string__law03_FewGuests_1_1 (x0 : (List (List UInt8))) : Option (Int) :=
 (slices_IndexFunc_string_string__law03_FewGuests_1_1_l1 x0 100000 0).bind fun r7 =>
 match r7 with
 | (.inl w8) =>
  some (-1)
 | (.inr w9) =>
  some w9
def cs_slices_IndexFunc_string_string__law03_FewGuests_1_1 : Cs ((List (List UInt8)) × Unit × Unit) := (csC (cdL 1 cdS) (csC (cdF 58 csN (fun _ => rfl)) csN))
def er_slices_IndexFunc_string_string__law03_FewGuests_1_1 (r : Int) : AV := cdI.enc r
theorem slices_IndexFunc_string_string__law03_FewGuests_1_1_l1_ok (x0 : (List (List UInt8))) : ∀ (f : Nat) (c1 : Int) (r : (Unit) ⊕ (Int)), slices_IndexFunc_string_string__law03_FewGuests_1_1_l1 x0 f c1 = some r → SemN E0 ⟨none, false⟩ (pc cb_slices_IndexFunc_string_string__law03_FewGuests_1_1 [1, 0, 1, 0, 0]) f ⟨Fr 19 [(0, .sl 1 (x0.map cdS.enc)), (1, .fn 58 [] []), (7, .v (.int .i64 (x0.length : Int))), (8, .v (.int .i64 c1))], []⟩ (fun e s => match r with
 | (.inl w) => e = (.exit 0) ∧ Wk E0 s ⟨Fr 19 [], []⟩
 | (.inr w) => e = .ret ∧ Wk E0 s ⟨Fr 19 [(4, .v (.int .i64 w))], []⟩) := by
 intro f
 induction f with
 | zero => intro c1 r h; cases h
 | succ f ih0 =>
  intro c1 r h
  have ih := fun (c1 : Int) => ih0 c1 r
  unfold slices_IndexFunc_string_string__law03_FewGuests_1_1_l1 at h
  refine SemN.succ ?_
  let p1 : Nat × AV := (8, .v (.int .i64 c1))
  let p2 : Nat × AV := (7, .v (.int .i64 (x0.length : Int)))
  let p3 : Nat × AV := (1, .fn 58 [] [])
  let p4 : Nat × AV := (0, .sl 1 (x0.map cdS.enc))
  refine Sem.sq E0_ok [p4, p3, p2, p1, (9, .v (.bool (decide (c1 < (x0.length : Int)))))] [] ?_
  refine Sem.seq ?_
  refine Sem.cond (b := (decide (c1 < (x0.length : Int)))) kr (fun hb2 => ?_) (fun hb2 => ?_)
  ·rw [if_pos hb2] at h
   refine Sem.skip ?_
   refine Sem.seq ?_
   refine Sem.block ?_
   let p5 : Nat × AV := (5, .v (.int .i64 c1))
   refine Sem.sq E0_ok [p4, p3, p5, p2, p1] [] ?_
   refine Sem.seq ?_
   obtain ⟨v3, hv3, h⟩ := Option.bind_eq_some_iff.1 h
   obtain ⟨v4, hv4, h⟩ := Option.bind_eq_some_iff.1 h
   refine Sem.runS (s1 := ⟨Fr 19 [p4, p3, p5, p2, p1, (16, .v (.bool v4))], []⟩) ?_ ?_
   ·refine RunS.segF (n := 19) E0_ok 3 [p4, p3, p5, p2, p1, (11, .fn 58 [] []), (12, .sl 1 (x0.map cdS.enc)), (13, .v (.int .i64 c1))] [] kr ?_
    refine RunS.one E0_ok 0 rfl (op_q (wantedA_none rfl) rfl (q_indexAddr (a := .sl 1 (x0.map cdS.enc)) (b := .v (.int .i64 c1)) kr kr (ix_sl (e := cdS.enc) (el := 9) (k := 1) (ki := .i64) kr kr hv3))) ?_
    refine RunS.segF (n := 19) E0_ok 1 [p4, p3, p5, p2, p1, (11, .fn 58 [] []), (15, .st v3)] [] kr ?_
    refine RunS.callV (caps := []) (xs := [.st v3]) (u := (v3, ())) rfl rfl x_law03_FewGuests_1_1 rfl (wantedA_none rfl) kr kr (Sl.cons (Sm.enc (c := cdS) (v := v3)) Sl.nil) (.inl kr) hv4 ?_
    exact RunS.done rfl (Wk.fr kr)
   refine Sem.cond (b := v4) kr (fun hb5 => ?_) (fun hb5 => ?_)
   ·rw [if_pos hb5] at h
    refine Sem.sq E0_ok [(4, .v (.int .i64 c1))] [] ?_
    refine Sem.ret ?_
    have hq := Option.some.inj h; subst hq
    exact ⟨rfl, (Wk.fr kr)⟩
   ·rw [if_f hb5] at h
    refine Sem.skip ?_
    let p6 : Nat × AV := (8, .v (.int .i64 (wr .i64 (c1 + 1))))
    refine Sem.rg E0_ok [p4, p3, p2, p6] [] ?_
    exact SemN.wk (s1 := ⟨Fr 19 [p4, p3, p2, p6], []⟩) (Wk.fr kr) (ih (wr .i64 (c1 + 1)) h)
  ·rw [if_f hb2] at h
   refine Sem.exit ?_
   have hq := Option.some.inj h; subst hq
   exact ⟨rfl, (Wk.fr kr)⟩
theorem slices_IndexFunc_string_string__law03_FewGuests_1_1_sem (x0 : (List (List UInt8))) (r : Int) (h : slices_IndexFunc_string_string__law03_FewGuests_1_1 x0 = some r) : Sem E0 ⟨none, false⟩ cb_slices_IndexFunc_string_string__law03_FewGuests_1_1 ⟨Fr 19 (pairs0 0 (cs_slices_IndexFunc_string_string__law03_FewGuests_1_1.enc (x0, (), ()))), []⟩ fun e s' => (e = .normal ∨ e = .ret) ∧ ∃ xs, resA E0.P s'.fr s'.hp Tryz.f100.results.toList = some xs ∧ retA xs = er_slices_IndexFunc_string_string__law03_FewGuests_1_1 r := by
 unfold slices_IndexFunc_string_string__law03_FewGuests_1_1 at h
 let p1 : Nat × AV := (1, .fn 58 [] [])
 let p2 : Nat × AV := (0, .sl 1 (x0.map cdS.enc))
 refine Sem.wkQ (Sem.wk (s1 := ⟨Fr 19 [p2, p1], []⟩) (Wk.fr kr) ?_)
 refine Sem.sq E0_ok [p2, p1] [] ?_
 refine Sem.seq ?_
 refine Sem.seq ?_
 let p3 : Nat × AV := (8, .v (.int .i64 0))
 let p4 : Nat × AV := (7, .v (.int .i64 (x0.length : Int)))
 refine Sem.runS (s1 := ⟨Fr 19 [p2, p1, p4, p3], []⟩) ?_ ?_
 ·refine RunS.segF (n := 19) E0_ok 1 [p2, p1, (6, .sl 1 (x0.map cdS.enc))] [] kr ?_
  refine RunS.one E0_ok 0 rfl (op_q (wantedA_none rfl) rfl (q_len (a := .sl 1 (x0.map cdS.enc)) kr (len_sl (el := 9) kr))) ?_
  exact RunS.last E0_ok
 refine Sem.block ?_
 obtain ⟨r7, hr7, h⟩ := Option.bind_eq_some_iff.1 h
 refine Sem.loop (n := 100000) ?_
 rcases r7 with w8 | w9
 ·try dsimp only at h
  refine Sem.cutN (SemN.wk (s1 := ⟨Fr 19 [p2, p1, p4, p3], []⟩) (Wk.fr kr) (slices_IndexFunc_string_string__law03_FewGuests_1_1_l1_ok x0 _ 0 _ hr7)) ?_
  refine Sem.sq E0_ok [(4, .v (.int .i64 (-1)))] [] ?_
  refine Sem.ret ?_
  have hq := Option.some.inj h; subst hq
  exact ⟨⟨Fr 19 [(4, .v (.int .i64 (-1)))], []⟩, (Wk.fr kr), .inr rfl, [.v (.int .i64 (-1))], kr, kr⟩
 ·try dsimp only at h
  refine Sem.cutN (SemN.wk (s1 := ⟨Fr 19 [p2, p1, p4, p3], []⟩) (Wk.fr kr) (slices_IndexFunc_string_string__law03_FewGuests_1_1_l1_ok x0 _ 0 _ hr7)) ?_
  have hq := Option.some.inj h; subst hq
  exact ⟨⟨Fr 19 [(4, .v (.int .i64 w9))], []⟩, (Wk.fr kr), .inr rfl, [.v (.int .i64 w9)], kr, kr⟩
def t_slices_IndexFunc_string_string__law03_FewGuests_1_1 : List AV → Option AV := told cs_slices_IndexFunc_string_string__law03_FewGuests_1_1 (fun a => slices_IndexFunc_string_string__law03_FewGuests_1_1 a.1) er_slices_IndexFunc_string_string__law03_FewGuests_1_1
theorem x_slices_IndexFunc_string_string__law03_FewGuests_1_1 : XOk 100 t_slices_IndexFunc_string_string__law03_FewGuests_1_1 := by
 refine xok_of_sem Tryz.func100 (c := cb_slices_IndexFunc_string_string__law03_FewGuests_1_1) ?h2 ⟨Tryz.call100⟩ cs_slices_IndexFunc_string_string__law03_FewGuests_1_1 (fun a => slices_IndexFunc_string_string__law03_FewGuests_1_1 a.1) er_slices_IndexFunc_string_string__law03_FewGuests_1_1 (fun a => (by show 2 ≤ 19; decide)) ?h3 ?h4
 case h2 => kernel_rfl
 case h3 => intro b; kernel_rfl
 case h4 => exact fun a b h => slices_IndexFunc_string_string__law03_FewGuests_1_1_sem a.1 b h
/- slices.ContainsFunc[[]string,string] -/
noncomputable def cb_slices_ContainsFunc_string_string__law03_FewGuests_1_1 : Code := codeOf Tryz.f49
def slices_ContainsFunc_string_string__law03_FewGuests_1_1 (x0 : (List (List UInt8))) : Option (Bool) :=
 (slices_IndexFunc_string_string__law03_FewGuests_1_1 x0).bind fun v1 =>
 some (decide (v1 ≥ 0))
def cs_slices_ContainsFunc_string_string__law03_FewGuests_1_1 : Cs ((List (List UInt8)) × Unit × Unit) := (csC (cdL 1 cdS) (csC (cdF 58 csN (fun _ => rfl)) csN))
def er_slices_ContainsFunc_string_string__law03_FewGuests_1_1 (r : Bool) : AV := cdB.enc r
theorem slices_ContainsFunc_string_string__law03_FewGuests_1_1_sem (x0 : (List (List UInt8))) (r : Bool) (h : slices_ContainsFunc_string_string__law03_FewGuests_1_1 x0 = some r) : Sem E0 ⟨none, false⟩ cb_slices_ContainsFunc_string_string__law03_FewGuests_1_1 ⟨Fr 9 (pairs0 0 (cs_slices_ContainsFunc_string_string__law03_FewGuests_1_1.enc (x0, (), ()))), []⟩ fun e s' => (e = .normal ∨ e = .ret) ∧ ∃ xs, resA E0.P s'.fr s'.hp Tryz.f49.results.toList = some xs ∧ retA xs = er_slices_ContainsFunc_string_string__law03_FewGuests_1_1 r := by
 unfold slices_ContainsFunc_string_string__law03_FewGuests_1_1 at h
 refine Sem.wkQ (Sem.wk (s1 := ⟨Fr 9 [(0, .sl 1 (x0.map cdS.enc)), (1, .fn 58 [] [])], []⟩) (Wk.fr kr) ?_)
 refine Sem.sq E0_ok [(0, .sl 1 (x0.map cdS.enc)), (1, .fn 58 [] [])] [] ?_
 refine Sem.seq ?_
 obtain ⟨v1, hv1, h⟩ := Option.bind_eq_some_iff.1 h
 let p1 : Nat × AV := (4, .v (.bool (decide (v1 ≥ 0))))
 refine Sem.runS (s1 := ⟨Fr 9 [p1], []⟩) ?_ ?_
 ·refine RunS.segF (n := 9) E0_ok 2 [(5, .sl 1 (x0.map cdS.enc)), (6, .fn 58 [] [])] [] kr ?_
  refine RunS.callV (caps := []) (xs := [.sl 1 (x0.map cdS.enc), .fn 58 [] []]) (u := (x0, (), ())) rfl rfl x_slices_IndexFunc_string_string__law03_FewGuests_1_1 rfl (wantedA_none rfl) kr kr (Sl.cons (Sm.enc (c := (cdL 1 cdS)) (v := x0)) (Sl.cons (Sm.fn Sl.nil) Sl.nil)) (.inl kr) hv1 ?_
  exact RunS.last E0_ok
 refine Sem.ret ?_
 have hq := Option.some.inj h; subst hq
 exact ⟨⟨Fr 9 [p1], []⟩, (Wk.fr kr), .inr rfl, [.v (.bool (decide (v1 ≥ 0)))], kr, kr⟩
def t_slices_ContainsFunc_string_string__law03_FewGuests_1_1 : List AV → Option AV := told cs_slices_ContainsFunc_string_string__law03_FewGuests_1_1 (fun a => slices_ContainsFunc_string_string__law03_FewGuests_1_1 a.1) er_slices_ContainsFunc_string_string__law03_FewGuests_1_1
theorem x_slices_ContainsFunc_string_string__law03_FewGuests_1_1 : XOk 49 t_slices_ContainsFunc_string_string__law03_FewGuests_1_1 := by
 refine xok_of_sem Tryz.func49 (c := cb_slices_ContainsFunc_string_string__law03_FewGuests_1_1) ?h2 ⟨Tryz.call49⟩ cs_slices_ContainsFunc_string_string__law03_FewGuests_1_1 (fun a => slices_ContainsFunc_string_string__law03_FewGuests_1_1 a.1) er_slices_ContainsFunc_string_string__law03_FewGuests_1_1 (fun a => (by show 2 ≤ 9; decide)) ?h3 ?h4
 case h2 => kernel_rfl
 case h3 => intro b; kernel_rfl
 case h4 => exact fun a b h => slices_ContainsFunc_string_string__law03_FewGuests_1_1_sem a.1 b h
/- trestle/trestlelaw03.FewGuests$1 -/
noncomputable def cb_law03_FewGuests_1 : Code := codeOf Tryz.f57
def law03_FewGuests_1 (x0 : Guest) : Option (Bool) :=
 (if (decide ((mxI (mxI (x0.1.length : Int) (x0.2.1.length : Int)) (x0.2.2.1.length : Int)) > 40)) = true then some true else if (decide ((x0.2.2.2.2.2.2.2.2.length : Int) > 10)) = true then some true else (slices_ContainsFunc_string_string__law03_FewGuests_1_1 x0.2.2.2.2.2.2.2.2).bind fun v1 =>
 some v1).bind fun j3 =>
 some j3
def cs_law03_FewGuests_1 : Cs (Guest × Unit) := (csC cdGuest csN)
def er_law03_FewGuests_1 (r : Bool) : AV := cdB.enc r
theorem law03_FewGuests_1_sem (x0 : Guest) (r : Bool) (h : law03_FewGuests_1 x0 = some r) : Sem E0 ⟨none, false⟩ cb_law03_FewGuests_1 ⟨Fr 25 (pairs0 0 (cs_law03_FewGuests_1.enc (x0, ()))), []⟩ fun e s' => (e = .normal ∨ e = .ret) ∧ ∃ xs, resA E0.P s'.fr s'.hp Tryz.f57.results.toList = some xs ∧ retA xs = er_law03_FewGuests_1 r := by
 unfold law03_FewGuests_1 at h
 refine Sem.wkQ (Sem.wk (s1 := ⟨Fr 25 [(0, cdGuest.enc x0)], []⟩) (Wk.fr kr) ?_)
 let p1 : Option Blk := some ⟨9, 44, [cdGuest.enc x0], false⟩
 let p2 : Nat × AV := (1, .pt 0 0 0)
 refine Sem.sq E0_ok [p2] [p1] ?_
 refine Sem.seq ?_
 obtain ⟨j3, hj3, h⟩ := Option.bind_eq_some_iff.1 h
 refine Sem.runS (s1 := ⟨Fr 25 [(2, .v (.bool j3))], []⟩) ?_ ?_
 ·refine RunS.segF (n := 25) E0_ok 12 [p2, (14, .v (.bool (decide ((mxI (mxI (x0.1.length : Int) (x0.2.1.length : Int)) (x0.2.2.1.length : Int)) > 40))))] [p1] kr ?_
  rcases Bool.eq_false_or_eq_true (decide ((mxI (mxI (x0.1.length : Int) (x0.2.1.length : Int)) (x0.2.2.1.length : Int)) > 40)) with hc4 | hc4
  ·rw [if_pos hc4] at hj3
   rw [hc4]
   refine RunS.segF (n := 25) E0_ok 11 [(2, .v (.bool true))] [p1] kr ?_
   have hq := Option.some.inj hj3; subst hq
   exact RunS.done rfl (Wk.sel2 [] kr kr kr trivial ⟨lu kr kr, trivial⟩)
  ·rw [if_f hc4] at hj3
   rw [hc4]
   refine RunS.segF (n := 25) E0_ok 2 [p2, (14, .v (.bool false)), (16, .sl 1 (x0.2.2.2.2.2.2.2.2.map cdS.enc))] [p1] kr ?_
   refine RunS.one E0_ok 0 rfl (op_q kr rfl (q_len (a := .sl 1 (x0.2.2.2.2.2.2.2.2.map cdS.enc)) kr (len_sl (el := 9) kr))) ?_
   refine RunS.segF (n := 25) E0_ok 3 [p2, (20, .v (.bool (decide ((x0.2.2.2.2.2.2.2.2.length : Int) > 10))))] [p1] kr ?_
   rcases Bool.eq_false_or_eq_true (decide ((x0.2.2.2.2.2.2.2.2.length : Int) > 10)) with hc5 | hc5
   ·rw [if_pos hc5] at hj3
    rw [hc5]
    refine RunS.segF (n := 25) E0_ok 5 [(2, .v (.bool true))] [p1] kr ?_
    have hq := Option.some.inj hj3; subst hq
    exact RunS.done rfl (Wk.sel2 [] kr kr kr trivial ⟨lu kr kr, trivial⟩)
   ·rw [if_f hc5] at hj3
    rw [hc5]
    refine RunS.segF (n := 25) E0_ok 2 [(20, .v (.bool false)), (22, .sl 1 (x0.2.2.2.2.2.2.2.2.map cdS.enc))] [p1] kr ?_
    obtain ⟨v1, hv1, hj3⟩ := Option.bind_eq_some_iff.1 hj3
    refine RunS.callV (caps := []) (xs := [.sl 1 (x0.2.2.2.2.2.2.2.2.map cdS.enc), .fn 58 [] []]) (u := (x0.2.2.2.2.2.2.2.2, (), ())) rfl rfl x_slices_ContainsFunc_string_string__law03_FewGuests_1_1 rfl kr kr kr (Sl.cons (Sm.enc (c := (cdL 1 cdS)) (v := x0.2.2.2.2.2.2.2.2)) (Sl.cons (Sm.fn Sl.nil) Sl.nil)) (.inl kr) hv1 ?_
    refine RunS.segF (n := 25) E0_ok 2 [(2, .v (.bool v1))] [p1] kr ?_
    have hq := Option.some.inj hj3; subst hq
    exact RunS.done rfl (Wk.sel2 [] kr kr kr trivial ⟨lu kr kr, trivial⟩)
 refine Sem.ret ?_
 have hq := Option.some.inj h; subst hq
 exact ⟨⟨Fr 25 [(2, .v (.bool j3))], []⟩, (Wk.fr kr), .inr rfl, [.v (.bool j3)], kr, kr⟩
def t_law03_FewGuests_1 : List AV → Option AV := told cs_law03_FewGuests_1 (fun a => law03_FewGuests_1 a.1) er_law03_FewGuests_1
theorem x_law03_FewGuests_1 : XOk 57 t_law03_FewGuests_1 := by
 refine xok_of_sem Tryz.func57 (c := cb_law03_FewGuests_1) ?h2 ⟨Tryz.call57⟩ cs_law03_FewGuests_1 (fun a => law03_FewGuests_1 a.1) er_law03_FewGuests_1 (fun a => (by show 1 ≤ 25; decide)) ?h3 ?h4
 case h2 => kernel_rfl
 case h3 => intro b; kernel_rfl
 case h4 => exact fun a b h => law03_FewGuests_1_sem a.1 b h
/- slices.IndexFunc[[]trestle/api.Guest,trestle/api.Guest] -/
noncomputable def cb_slices_IndexFunc_api_Guest_api_Guest__law03_FewGuests_1 : Code := codeOf Tryz.f43
def slices_IndexFunc_api_Guest_api_Guest__law03_FewGuests_1_l1 (x0 : (List Guest)) : Nat → Int → Option ((Unit) ⊕ (Int))
 | 0, _ => none
 | f + 1, c1 =>
  if (decide (c1 < (x0.length : Int))) = true then
  (idx x0 c1).bind fun v3 =>
  (law03_FewGuests_1 v3).bind fun v4 =>
  if v4 = true then
  some (.inr c1)
  else
  slices_IndexFunc_api_Guest_api_Guest__law03_FewGuests_1_l1 x0 f (wr .i64 (c1 + 1))
  else
  some (.inl ())
def slices_IndexFunc_api_Guest_api_Guest__law03_FewGuests_1 (x0 : (List Guest)) : Option (Int) :=
 (slices_IndexFunc_api_Guest_api_Guest__law03_FewGuests_1_l1 x0 100000 0).bind fun r7 =>
 match r7 with
 | (.inl w8) =>
  some (-1)
 | (.inr w9) =>
  some w9
def cs_slices_IndexFunc_api_Guest_api_Guest__law03_FewGuests_1 : Cs ((List Guest) × Unit × Unit) := (csC (cdL 9 cdGuest) (csC (cdF 57 csN (fun _ => rfl)) csN))
def er_slices_IndexFunc_api_Guest_api_Guest__law03_FewGuests_1 (r : Int) : AV := cdI.enc r
theorem slices_IndexFunc_api_Guest_api_Guest__law03_FewGuests_1_l1_ok (x0 : (List Guest)) : ∀ (f : Nat) (c1 : Int) (r : (Unit) ⊕ (Int)), slices_IndexFunc_api_Guest_api_Guest__law03_FewGuests_1_l1 x0 f c1 = some r → SemN E0 ⟨none, false⟩ (pc cb_slices_IndexFunc_api_Guest_api_Guest__law03_FewGuests_1 [1, 0, 1, 0, 0]) f ⟨Fr 19 [(0, .sl 9 (x0.map cdGuest.enc)), (1, .fn 57 [] []), (7, .v (.int .i64 (x0.length : Int))), (8, .v (.int .i64 c1))], []⟩ (fun e s => match r with
 | (.inl w) => e = (.exit 0) ∧ Wk E0 s ⟨Fr 19 [], []⟩
 | (.inr w) => e = .ret ∧ Wk E0 s ⟨Fr 19 [(4, .v (.int .i64 w))], []⟩) := by
 intro f
 induction f with
 | zero => intro c1 r h; cases h
 | succ f ih0 =>
  intro c1 r h
  have ih := fun (c1 : Int) => ih0 c1 r
  unfold slices_IndexFunc_api_Guest_api_Guest__law03_FewGuests_1_l1 at h
  refine SemN.succ ?_
  let p1 : Nat × AV := (8, .v (.int .i64 c1))
  let p2 : Nat × AV := (7, .v (.int .i64 (x0.length : Int)))
  let p3 : Nat × AV := (1, .fn 57 [] [])
  let p4 : Nat × AV := (0, .sl 9 (x0.map cdGuest.enc))
  refine Sem.sq E0_ok [p4, p3, p2, p1, (9, .v (.bool (decide (c1 < (x0.length : Int)))))] [] ?_
  refine Sem.seq ?_
  refine Sem.cond (b := (decide (c1 < (x0.length : Int)))) kr (fun hb2 => ?_) (fun hb2 => ?_)
  ·rw [if_pos hb2] at h
   refine Sem.skip ?_
   refine Sem.seq ?_
   refine Sem.block ?_
   let p5 : Nat × AV := (5, .v (.int .i64 c1))
   refine Sem.sq E0_ok [p4, p3, p5, p2, p1] [] ?_
   refine Sem.seq ?_
   obtain ⟨v3, hv3, h⟩ := Option.bind_eq_some_iff.1 h
   obtain ⟨v4, hv4, h⟩ := Option.bind_eq_some_iff.1 h
   refine Sem.runS (s1 := ⟨Fr 19 [p4, p3, p5, p2, p1, (16, .v (.bool v4))], []⟩) ?_ ?_
   ·refine RunS.segF (n := 19) E0_ok 3 [p4, p3, p5, p2, p1, (11, .fn 57 [] []), (12, .sl 9 (x0.map cdGuest.enc)), (13, .v (.int .i64 c1))] [] kr ?_
    refine RunS.one E0_ok 0 rfl (op_q (wantedA_none rfl) rfl (q_indexAddr (a := .sl 9 (x0.map cdGuest.enc)) (b := .v (.int .i64 c1)) kr kr (ix_sl (e := cdGuest.enc) (el := 44) (k := 9) (ki := .i64) kr kr hv3))) ?_
    refine RunS.segF (n := 19) E0_ok 1 [p4, p3, p5, p2, p1, (11, .fn 57 [] []), (15, cdGuest.enc v3)] [] kr ?_
    refine RunS.callV (caps := []) (xs := [cdGuest.enc v3]) (u := (v3, ())) rfl rfl x_law03_FewGuests_1 rfl (wantedA_none rfl) kr kr (Sl.cons (Sm.enc (c := cdGuest) (v := v3)) Sl.nil) (.inl kr) hv4 ?_
    exact RunS.done rfl (Wk.fr kr)
   refine Sem.cond (b := v4) kr (fun hb5 => ?_) (fun hb5 => ?_)
   ·rw [if_pos hb5] at h
    refine Sem.sq E0_ok [(4, .v (.int .i64 c1))] [] ?_
    refine Sem.ret ?_
    have hq := Option.some.inj h; subst hq
    exact ⟨rfl, (Wk.fr kr)⟩
   ·rw [if_f hb5] at h
    refine Sem.skip ?_
    let p6 : Nat × AV := (8, .v (.int .i64 (wr .i64 (c1 + 1))))
    refine Sem.rg E0_ok [p4, p3, p2, p6] [] ?_
    exact SemN.wk (s1 := ⟨Fr 19 [p4, p3, p2, p6], []⟩) (Wk.fr kr) (ih (wr .i64 (c1 + 1)) h)
  ·rw [if_f hb2] at h
   refine Sem.exit ?_
   have hq := Option.some.inj h; subst hq
   exact ⟨rfl, (Wk.fr kr)⟩
theorem slices_IndexFunc_api_Guest_api_Guest__law03_FewGuests_1_sem (x0 : (List Guest)) (r : Int) (h : slices_IndexFunc_api_Guest_api_Guest__law03_FewGuests_1 x0 = some r) : Sem E0 ⟨none, false⟩ cb_slices_IndexFunc_api_Guest_api_Guest__law03_FewGuests_1 ⟨Fr 19 (pairs0 0 (cs_slices_IndexFunc_api_Guest_api_Guest__law03_FewGuests_1.enc (x0, (), ()))), []⟩ fun e s' => (e = .normal ∨ e = .ret) ∧ ∃ xs, resA E0.P s'.fr s'.hp Tryz.f43.results.toList = some xs ∧ retA xs = er_slices_IndexFunc_api_Guest_api_Guest__law03_FewGuests_1 r := by
 unfold slices_IndexFunc_api_Guest_api_Guest__law03_FewGuests_1 at h
 let p1 : Nat × AV := (1, .fn 57 [] [])
 let p2 : Nat × AV := (0, .sl 9 (x0.map cdGuest.enc))
 refine Sem.wkQ (Sem.wk (s1 := ⟨Fr 19 [p2, p1], []⟩) (Wk.fr kr) ?_)
 refine Sem.sq E0_ok [p2, p1] [] ?_
 refine Sem.seq ?_
 refine Sem.seq ?_
 let p3 : Nat × AV := (8, .v (.int .i64 0))
 let p4 : Nat × AV := (7, .v (.int .i64 (x0.length : Int)))
 refine Sem.runS (s1 := ⟨Fr 19 [p2, p1, p4, p3], []⟩) ?_ ?_
 ·refine RunS.segF (n := 19) E0_ok 1 [p2, p1, (6, .sl 9 (x0.map cdGuest.enc))] [] kr ?_
  refine RunS.one E0_ok 0 rfl (op_q (wantedA_none rfl) rfl (q_len (a := .sl 9 (x0.map cdGuest.enc)) kr (len_sl (el := 44) kr))) ?_
  exact RunS.last E0_ok
 refine Sem.block ?_
 obtain ⟨r7, hr7, h⟩ := Option.bind_eq_some_iff.1 h
 refine Sem.loop (n := 100000) ?_
 rcases r7 with w8 | w9
 ·try dsimp only at h
  refine Sem.cutN (SemN.wk (s1 := ⟨Fr 19 [p2, p1, p4, p3], []⟩) (Wk.fr kr) (slices_IndexFunc_api_Guest_api_Guest__law03_FewGuests_1_l1_ok x0 _ 0 _ hr7)) ?_
  refine Sem.sq E0_ok [(4, .v (.int .i64 (-1)))] [] ?_
  refine Sem.ret ?_
  have hq := Option.some.inj h; subst hq
  exact ⟨⟨Fr 19 [(4, .v (.int .i64 (-1)))], []⟩, (Wk.fr kr), .inr rfl, [.v (.int .i64 (-1))], kr, kr⟩
 ·try dsimp only at h
  refine Sem.cutN (SemN.wk (s1 := ⟨Fr 19 [p2, p1, p4, p3], []⟩) (Wk.fr kr) (slices_IndexFunc_api_Guest_api_Guest__law03_FewGuests_1_l1_ok x0 _ 0 _ hr7)) ?_
  have hq := Option.some.inj h; subst hq
  exact ⟨⟨Fr 19 [(4, .v (.int .i64 w9))], []⟩, (Wk.fr kr), .inr rfl, [.v (.int .i64 w9)], kr, kr⟩
def t_slices_IndexFunc_api_Guest_api_Guest__law03_FewGuests_1 : List AV → Option AV := told cs_slices_IndexFunc_api_Guest_api_Guest__law03_FewGuests_1 (fun a => slices_IndexFunc_api_Guest_api_Guest__law03_FewGuests_1 a.1) er_slices_IndexFunc_api_Guest_api_Guest__law03_FewGuests_1
theorem x_slices_IndexFunc_api_Guest_api_Guest__law03_FewGuests_1 : XOk 43 t_slices_IndexFunc_api_Guest_api_Guest__law03_FewGuests_1 := by
 refine xok_of_sem Tryz.func43 (c := cb_slices_IndexFunc_api_Guest_api_Guest__law03_FewGuests_1) ?h2 ⟨Tryz.call43⟩ cs_slices_IndexFunc_api_Guest_api_Guest__law03_FewGuests_1 (fun a => slices_IndexFunc_api_Guest_api_Guest__law03_FewGuests_1 a.1) er_slices_IndexFunc_api_Guest_api_Guest__law03_FewGuests_1 (fun a => (by show 2 ≤ 19; decide)) ?h3 ?h4
 case h2 => kernel_rfl
 case h3 => intro b; kernel_rfl
 case h4 => exact fun a b h => slices_IndexFunc_api_Guest_api_Guest__law03_FewGuests_1_sem a.1 b h
/- slices.ContainsFunc[[]trestle/api.Guest,trestle/api.Guest] -/
noncomputable def cb_slices_ContainsFunc_api_Guest_api_Guest__law03_FewGuests_1 : Code := codeOf Tryz.f56
def slices_ContainsFunc_api_Guest_api_Guest__law03_FewGuests_1 (x0 : (List Guest)) : Option (Bool) :=
 (slices_IndexFunc_api_Guest_api_Guest__law03_FewGuests_1 x0).bind fun v1 =>
 some (decide (v1 ≥ 0))
def cs_slices_ContainsFunc_api_Guest_api_Guest__law03_FewGuests_1 : Cs ((List Guest) × Unit × Unit) := (csC (cdL 9 cdGuest) (csC (cdF 57 csN (fun _ => rfl)) csN))
def er_slices_ContainsFunc_api_Guest_api_Guest__law03_FewGuests_1 (r : Bool) : AV := cdB.enc r
theorem slices_ContainsFunc_api_Guest_api_Guest__law03_FewGuests_1_sem (x0 : (List Guest)) (r : Bool) (h : slices_ContainsFunc_api_Guest_api_Guest__law03_FewGuests_1 x0 = some r) : Sem E0 ⟨none, false⟩ cb_slices_ContainsFunc_api_Guest_api_Guest__law03_FewGuests_1 ⟨Fr 9 (pairs0 0 (cs_slices_ContainsFunc_api_Guest_api_Guest__law03_FewGuests_1.enc (x0, (), ()))), []⟩ fun e s' => (e = .normal ∨ e = .ret) ∧ ∃ xs, resA E0.P s'.fr s'.hp Tryz.f56.results.toList = some xs ∧ retA xs = er_slices_ContainsFunc_api_Guest_api_Guest__law03_FewGuests_1 r := by
 unfold slices_ContainsFunc_api_Guest_api_Guest__law03_FewGuests_1 at h
 let p1 : Nat × AV := (0, .sl 9 (x0.map cdGuest.enc))
 refine Sem.wkQ (Sem.wk (s1 := ⟨Fr 9 [p1, (1, .fn 57 [] [])], []⟩) (Wk.fr kr) ?_)
 refine Sem.sq E0_ok [p1, (1, .fn 57 [] [])] [] ?_
 refine Sem.seq ?_
 obtain ⟨v1, hv1, h⟩ := Option.bind_eq_some_iff.1 h
 let p2 : Nat × AV := (4, .v (.bool (decide (v1 ≥ 0))))
 refine Sem.runS (s1 := ⟨Fr 9 [p2], []⟩) ?_ ?_
 ·refine RunS.segF (n := 9) E0_ok 2 [(5, .sl 9 (x0.map cdGuest.enc)), (6, .fn 57 [] [])] [] kr ?_
  refine RunS.callV (caps := []) (xs := [.sl 9 (x0.map cdGuest.enc), .fn 57 [] []]) (u := (x0, (), ())) rfl rfl x_slices_IndexFunc_api_Guest_api_Guest__law03_FewGuests_1 rfl (wantedA_none rfl) kr kr (Sl.cons (Sm.enc (c := (cdL 9 cdGuest)) (v := x0)) (Sl.cons (Sm.fn Sl.nil) Sl.nil)) (.inl kr) hv1 ?_
  exact RunS.last E0_ok
 refine Sem.ret ?_
 have hq := Option.some.inj h; subst hq
 exact ⟨⟨Fr 9 [p2], []⟩, (Wk.fr kr), .inr rfl, [.v (.bool (decide (v1 ≥ 0)))], kr, kr⟩
def t_slices_ContainsFunc_api_Guest_api_Guest__law03_FewGuests_1 : List AV → Option AV := told cs_slices_ContainsFunc_api_Guest_api_Guest__law03_FewGuests_1 (fun a => slices_ContainsFunc_api_Guest_api_Guest__law03_FewGuests_1 a.1) er_slices_ContainsFunc_api_Guest_api_Guest__law03_FewGuests_1
theorem x_slices_ContainsFunc_api_Guest_api_Guest__law03_FewGuests_1 : XOk 56 t_slices_ContainsFunc_api_Guest_api_Guest__law03_FewGuests_1 := by
 refine xok_of_sem Tryz.func56 (c := cb_slices_ContainsFunc_api_Guest_api_Guest__law03_FewGuests_1) ?h2 ⟨Tryz.call56⟩ cs_slices_ContainsFunc_api_Guest_api_Guest__law03_FewGuests_1 (fun a => slices_ContainsFunc_api_Guest_api_Guest__law03_FewGuests_1 a.1) er_slices_ContainsFunc_api_Guest_api_Guest__law03_FewGuests_1 (fun a => (by show 2 ≤ 9; decide)) ?h3 ?h4
 case h2 => kernel_rfl
 case h3 => intro b; kernel_rfl
 case h4 => exact fun a b h => slices_ContainsFunc_api_Guest_api_Guest__law03_FewGuests_1_sem a.1 b h
/- trestle/trestlelaw03.FewGuests -/
noncomputable def cb_law03_FewGuests : Code := codeOf Tryz.f18
def law03_FewGuests (x0 : (List Guest)) (x1 : Int) : Option (Bool) :=
 (if (decide ((x0.length : Int) ≤ x1)) = true then (slices_ContainsFunc_api_Guest_api_Guest__law03_FewGuests_1 x0).bind fun v1 =>
 some (!v1) else some false).bind fun j3 =>
 some j3
def cs_law03_FewGuests : Cs ((List Guest) × Int × Unit) := (csC (cdL 9 cdGuest) (csC cdI csN))
def er_law03_FewGuests (r : Bool) : AV := cdB.enc r
theorem law03_FewGuests_sem (x0 : (List Guest)) (x1 : Int) (r : Bool) (h : law03_FewGuests x0 x1 = some r) : Sem E0 ⟨none, false⟩ cb_law03_FewGuests ⟨Fr 14 (pairs0 0 (cs_law03_FewGuests.enc (x0, x1, ()))), []⟩ fun e s' => (e = .normal ∨ e = .ret) ∧ ∃ xs, resA E0.P s'.fr s'.hp Tryz.f18.results.toList = some xs ∧ retA xs = er_law03_FewGuests r := by
 unfold law03_FewGuests at h
 let p1 : Nat × AV := (1, .v (.int .i64 x1))
 let p2 : Nat × AV := (0, .sl 9 (x0.map cdGuest.enc))
 refine Sem.wkQ (Sem.wk (s1 := ⟨Fr 14 [p2, p1], []⟩) (Wk.fr kr) ?_)
 refine Sem.sq E0_ok [p2, p1] [] ?_
 refine Sem.seq ?_
 obtain ⟨j3, hj3, h⟩ := Option.bind_eq_some_iff.1 h
 refine Sem.runS (s1 := ⟨Fr 14 [(4, .v (.bool j3))], []⟩) ?_ ?_
 ·refine RunS.segF (n := 14) E0_ok 1 [p2, p1, (5, .sl 9 (x0.map cdGuest.enc))] [] kr ?_
  refine RunS.one E0_ok 0 rfl (op_q (wantedA_none rfl) rfl (q_len (a := .sl 9 (x0.map cdGuest.enc)) kr (len_sl (el := 44) kr))) ?_
  refine RunS.segF (n := 14) E0_ok 3 [p2, (9, .v (.bool (decide ((x0.length : Int) ≤ x1))))] [] kr ?_
  rcases Bool.eq_false_or_eq_true (decide ((x0.length : Int) ≤ x1)) with hc4 | hc4
  ·rw [if_pos hc4] at hj3
   rw [hc4]
   refine RunS.segF (n := 14) E0_ok 1 [(9, .v (.bool true)), (10, .sl 9 (x0.map cdGuest.enc))] [] kr ?_
   obtain ⟨v1, hv1, hj3⟩ := Option.bind_eq_some_iff.1 hj3
   refine RunS.callV (caps := []) (xs := [.sl 9 (x0.map cdGuest.enc), .fn 57 [] []]) (u := (x0, (), ())) rfl rfl x_slices_ContainsFunc_api_Guest_api_Guest__law03_FewGuests_1 rfl kr kr kr (Sl.cons (Sm.enc (c := (cdL 9 cdGuest)) (v := x0)) (Sl.cons (Sm.fn Sl.nil) Sl.nil)) (.inl kr) hv1 ?_
   refine RunS.segF (n := 14) E0_ok 3 [(4, .v (.bool (!v1)))] [] kr ?_
   have hq := Option.some.inj hj3; subst hq
   exact RunS.done rfl (Wk.fr kr)
  ·rw [if_f hc4] at hj3
   rw [hc4]
   refine RunS.segF (n := 14) E0_ok 5 [(4, .v (.bool false))] [] kr ?_
   have hq := Option.some.inj hj3; subst hq
   exact RunS.done rfl (Wk.fr kr)
 refine Sem.ret ?_
 have hq := Option.some.inj h; subst hq
 exact ⟨⟨Fr 14 [(4, .v (.bool j3))], []⟩, (Wk.fr kr), .inr rfl, [.v (.bool j3)], kr, kr⟩
def t_law03_FewGuests : List AV → Option AV := told cs_law03_FewGuests (fun a => law03_FewGuests a.1 a.2.1) er_law03_FewGuests
theorem x_law03_FewGuests : XOk 18 t_law03_FewGuests := by
 refine xok_of_sem Tryz.func18 (c := cb_law03_FewGuests) ?h2 ⟨Tryz.call18⟩ cs_law03_FewGuests (fun a => law03_FewGuests a.1 a.2.1) er_law03_FewGuests (fun a => (by show 2 ≤ 14; decide)) ?h3 ?h4
 case h2 => kernel_rfl
 case h3 => intro b; kernel_rfl
 case h4 => exact fun a b h => law03_FewGuests_sem a.1 a.2.1 b h
/-- The first n blocks are given up. -/
def killN : Nat → Hp → Hp
 | 0, h => h
 | n + 1, h => (killN n h).set n none
theorem killN_hr {w : World} {Z : Nat → Prop} {R : List RI} {h : Hp} (hh : HR w Z R h) : ∀ n, HR w Z R (killN n h)
 | 0 => hh
 | n + 1 => ((killN_hr hh n).kill n).1
theorem killN_get {h : Hp} : ∀ {n b : Nat} {B : Blk}, (killN n h)[b]? = some (some B) → n ≤ b ∧ h[b]? = some (some B)
 | 0, b, B, e => ⟨Nat.zero_le _, e⟩
 | n + 1, b, B, e => by
  unfold killN at e
  rw [List.getElem?_set] at e
  split at e
  ·split at e <;> cases e
  ·next hne =>
   obtain ⟨h1, h2⟩ := killN_get e
   exact ⟨by omega, h2⟩
def RunDX (E : Env) (ops : Array Oper) (T : Nat) (n0 k : Nat) (rest : List Oper) (s : St) (K : St → Prop) : Prop :=
 ∀ (base : Bs) (Q : Act → World → Prop) (w0 : World) (Z : Nat → Prop) (R0 : List RI) (h0 : Hp) (a : Act) (w : World) (R : List RI), HR w0 Z R0 h0 → n0 = h0.length → SR E base w Z R s a → w0.grownBy w none → Step w0 Z R0 h0 w Z R s.hp → (∀ (b : Nat) (B : Option Blk), h0[b]? = some B → s.hp[b]? = some B) → (∀ j, rest[j]? = ops[k + j]?) →
  (∀ s' a' w' Z' R', K s' → SR E base w' Z' R' s' a' → StepW w0 Z R0 h0 w' Z' R' s'.hp → Q a' w') → wpMix E.P ops (fun w' => w0.grownBy w' none) (loudT ops T) T Q k rest a w
section
variable {E : Env} {cx : Cx} {ops : Array Oper} {pre rest rest' : List Oper} {s s1 : St} {K : St → Prop} {n n0 k T : Nat} {l : List (Nat × AV)} {hp hp' : Hp} {Q : Ex → St → Prop} {id : Nat} {fid : FuncId}
theorem RunDX.done (hr : rest = []) (kk : K s) : RunDX E ops T n0 k rest s K := by
 subst hr
 exact fun base Q w0 Z R0 h0 a w R _ _ sr hgr st _ _ q => ⟨fun _ => hgr, q s a w Z R kk sr st.w⟩
theorem RunDX.tail (hT : T = k) (h : RunS E ops rest s K) : RunDX E ops T n0 k rest s K := by
 subst hT
 intro base Q w0 Z R0 h0 a w R _ _ sr hgr st _ hops q
 exact lwl_mix (h base Q a w Z R sr fun s' a' w' Z' R' hK sr' st' => q s' a' w' Z' R' hK sr' (st.w.trans st')) (Nat.le_refl _) (fun _ => hgr) (fun j hj => loudT_or hj) hops
theorem RunDX.app (hE : EnvOk E) : ∀ {pre : List Oper} {s : St} {k : Nat}, (pre.all fun o => !isW o.op) = true → k + pre.length ≤ T → opsD E (evC E 0) ⟨none, false⟩ ops n0 pre s = some s1 → RunDX E ops T n0 (k + pre.length) rest s1 K → RunDX E ops T n0 k (pre ++ rest) s K
 | [], s, k, _, _, e, kk => by injection e with e; subst e; exact kk
 | o :: pre, s, k, hp, hT, e, kk => by
  intro base Q w0 Z R0 h0 a w R hh0 hn0 sr hgr st hpre hops q
  simp only [List.all_cons, Bool.and_eq_true, Bool.not_eq_true'] at hp
  obtain ⟨hW, hp⟩ := hp
  have hok : ops[k]? = some o := by have := hops 0; simpa using this.symm
  have hops' : ∀ j, (pre ++ rest)[j]? = ops[k + 1 + j]? := fun j => by have := hops (j + 1); simpa [Nat.add_assoc, Nat.add_comm 1 j] using this
  have hk1 : k + 1 + pre.length = k + (o :: pre).length := by simp; omega
  have kk' : RunDX E ops T n0 (k + 1 + pre.length) rest s1 K := by rw [hk1]; exact kk
  have hT' : k + 1 + pre.length ≤ T := by rw [hk1]; exact hT
  have hkT : ¬ T ≤ k := by omega
  show wpMix E.P ops _ _ _ Q k (o :: (pre ++ rest)) a w
  refine ⟨fun _ => hgr, ?_⟩
  unfold opsD at e
  rw [if_neg (by rw [hW]; simp)] at e
  split at e
  ·cases e
  ·next hw =>
   rw [if_neg (by rw [wantedA_eq sr hw]; simp)]
   exact RunDX.app hE hp hT' e kk' base Q w0 Z R0 h0 _ w R hh0 hn0 (sr.put undef_vr) hgr st hpre hops' q
  ·next hw =>
   rw [if_pos (wantedA_eq sr hw)]
   have hρ : ∀ o x, opA E s.fr o = some x → VR w Z R x (a.eval o) := fun o x e => opA_vr sr o x e
   split at e
   ·next x hx =>
    split at e
    ·next hld =>
     have hq := isQ_of hx
     rw [if_neg (by rw [loudT_q hok hq hkT]; simp)]
     obtain ⟨u, hu, hrun⟩ := evOpQ_sound sr.hh hρ hx
     have hquiet : ∃ u, VR w Z R x u ∧ QuietAt E.P (Cf (fun w' => w0.grownBy w' none) o) o u a := by
      cases hl : isLd o.op with
      | false => exact ⟨u, hu, fun w' _ => hrun w' fun h => by rw [hl] at h; cases h⟩
      | true =>
       obtain ⟨u1, hu1, hq1⟩ := load_quiet hh0 sr hgr st hpre hl (by rw [← hn0]; exact hld) hx
       exact ⟨u1, hu1, hq1.up (free_ld hl)⟩
     obtain ⟨u, hu, hquiet⟩ := hquiet
     exact ⟨u, hquiet, RunDX.app hE hp hT' e kk' base Q w0 Z R0 h0 _ w R hh0 hn0 (sr.put hu) hgr st hpre hops' q⟩
    ·cases e
   ·split at e
    ·next x h' hx =>
     have hq := isQ_of_N hx
     rw [if_pos (loudT_n hok hq)]
     obtain ⟨u, w', R', h1, h2, h3, h4, h5⟩ := evOpN_sound hρ sr.hh hx
     exact lw_val h1 (RunDX.app hE hp hT' e kk' base Q w0 Z R0 h0 _ w' R' hh0 hn0 ((sr.step h2 h4).put h3) (pu_trans hgr h5) (st.trans h4) (fun b B hb => evOpN_pre hx (hpre b B hb)) hops' q)
    ·split at e
     ·next f args tys ho =>
      split at e
      ·next fv xs hf hxs =>
       split at e
       ·next r hr =>
        obtain ⟨x, h'⟩ := r
        have hq : isQ o.op = false := by rw [ho]; rfl
        rw [if_pos (loudT_n hok hq)]
        obtain ⟨g, uf, uc, hva, hcl, hret⟩ := callP_sound hE (code_sound hE 0).1 (hρ _ _ hf) (opds_vr hρ hxs) sr.hh sr.gl hr
        unfold Lw
        rw [run_call (uf := uf) (uc := uc) ho hva rfl hcl w]
        refine Ret.mono hret fun v w' hS => ?_
        obtain ⟨hg1, R', k1, k2, k3⟩ := hS
        exact RunDX.app hE hp hT' e kk' base Q w0 Z R0 h0 _ w' R' hh0 hn0 ((sr.step k1 k3).put k2) (pu_trans hgr hg1) (st.trans k3) (fun b B hb => callP_pre hr (hpre b B hb)) hops' q
       ·cases e
      ·cases e
     ·cases e
theorem RunDX.segF (hE : EnvOk E) (m : Nat) {s : St} (l : List (Nat × AV)) (hp : Hp) (hw : (((rest.take m).all fun o => !isW o.op) && Nat.ble (k + (rest.take m).length) T) = true) (h : segB (opsD E (evC E 0) ⟨none, false⟩ ops n0 (rest.take m) s) l = some (n, xs2 l, hp)) (kk : RunDX E ops T n0 (k + (rest.take m).length) (rest.drop m) ⟨Fr n l, hp⟩ K) : RunDX E ops T n0 k rest s K := by
 obtain ⟨fr, h1, h2, h3⟩ := segB_inv h
 rw [Bool.and_eq_true] at hw
 have := RunDX.app (k := k) (T := T) (pre := rest.take m) (rest := rest.drop m) hE hw.1 (Nat.le_of_ble_eq_true hw.2) h1 (fun base Q w0 Z R0 h0 a w R a1 a2 sr a5 a6 a7 a8 q => kk base Q w0 Z R0 h0 a w R a1 a2 (sr.forget h2 h3) a5 a6 a7 a8 q)
 rwa [List.take_append_drop] at this
theorem RunDX.one (hE : EnvOk E) {s s1 : St} {o : Oper} (hr : rest = o :: rest') (hW : (!isW o.op && Nat.blt k T) = true) (h : opsD E (evC E 0) ⟨none, false⟩ ops n0 [o] s = some s1) (kk : RunDX E ops T n0 (k + 1) rest' s1 K) : RunDX E ops T n0 k rest s K := by
 subst hr
 rw [Bool.and_eq_true] at hW
 exact RunDX.app (k := k) hE (pre := [o]) (by simpa using hW.1) (by have := Nat.le_of_ble_eq_true hW.2; simpa using this) h kk
/-- An append to a block that was made in this region. -/
theorem RunDX.append (_hE : EnvOk E) {o : Oper} {x : AV} {d : Nat} {hM : Hp} (hr : rest = o :: rest') (hw : wantedA ops (Fr n l) o = some true) (hd : o.dst = some d) (hq : isQ o.op = false) (h : evOpW E.P (opA E (Fr n l)) hp o.op = some (x, hp')) (hm : evOpW E.P (opA E (Fr n l)) (killN n0 hp) o.op = some (x, hM)) (hpr : hp'.take n0 = hp.take n0) (kk : RunDX E ops T n0 (k + 1) rest' ⟨Fr n ((d, x) :: l), hp'⟩ K) : RunDX E ops T n0 k rest ⟨Fr n l, hp⟩ K := by
 subst hr
 intro base Q w0 Z R0 h0 a w R hh0 hn0 sr hgr st hpre hops q
 have hok' : ops[k]? = some o := by have := hops 0; simpa using this.symm
 have hops' : ∀ j, rest'[j]? = ops[k + 1 + j]? := fun j => by have := hops (j + 1); simpa [Nat.add_assoc, Nat.add_comm 1 j] using this
 refine ⟨fun _ => hgr, ?_⟩
 rw [if_pos (wantedA_eq sr hw), if_pos (loudT_n hok' hq)]
 have hρ : ∀ o x, opA E (Fr n l) o = some x → VR w Z R x (a.eval o) := fun o x e => opA_vr sr o x e
 obtain ⟨u, w', R', h1, h2, h3, h4⟩ := evOpW_sound (o := o) hρ sr.hh h
 obtain ⟨u2, w2, R2, g1, g2, g3, g4⟩ := evOpW_sound (o := o) hρ (killN_hr sr.hh n0) hm
 rw [h1] at g1
 injection g1 with _ e2
 subst e2
 -- the blocks of before stay
 have hown : ∀ c, own R (killN n0 hp) c → w0.heap.size ≤ c := fun c ⟨b, B, r, k1, k2, k3, k4⟩ => by
  obtain ⟨hb, k1⟩ := killN_get k1
  rcases st.own_ c ⟨b, B, r, k1, k2, k3, k4⟩ with ⟨b0, B0, r0, q1, q2, q3, q4⟩ | h
  ·have hlt : b0 < h0.length := (List.getElem?_eq_some_iff.1 q1).1
   have := sr.hh.inj b b0 B B0 r r0 k1 k2 (hpre b0 _ q1) q2 k3 (st.r b0 r0 q3) (by rw [k4, q4])
   omega
  ·exact h
 have hgr2 : w0.grownBy w' none := ⟨g4.os.trans hgr.os, g4.tape.trans hgr.tape, g4.output.trans hgr.output, Nat.le_trans hgr.size g4.size, fun c hc _ => by
  rw [g4.block c (Nat.lt_of_lt_of_le hc hgr.size) fun ho => by have := hown c ho; omega]
  exact hgr.block c hc (by simp)⟩
 refine lw_val h1 ?_
 have sr' := (sr.step h2 h4).put (d := o.dst) h3
 rw [hd, show putA (⟨Fr n l, hp⟩ : St).fr (some d) x = Fr n ((d, x) :: l) from putA_Fr n l d _] at sr'
 rw [hd]
 exact kk base Q w0 Z R0 h0 _ w' R' hh0 hn0 sr' hgr2 (st.trans h4) (fun b B hb => by
  have hlt : b < n0 := by rw [hn0]; exact (List.getElem?_eq_some_iff.1 hb).1
  have e := congrArg (fun l => l[b]?) hpr
  simp only [List.getElem?_take, hlt, if_true] at e
  show hp'[b]? = _
  rw [e]; exact hpre b B hb) hops' q
end
section
variable {P : Program} {ops : Array Oper} {C : World → Prop} {Q : Act → World → Prop} {loud : Nat → Bool} {T : Nat}
/-- What a quiet operation yields may come ahead of a loud one. -/
theorem mOp_after {n i j fuel : Nat} {oi oj : Oper} {v : Value} {listed : Array Bool} {a : Act} {w : World} (ht : TailOk ops loud T n) (hi : ops[i]? = some oi) (hoj : ops[j]? = some oj) (hsel : ∀ (j : Nat) (o : Oper) cs b, ops[j]? = some o → o.op ≠ .select cs b) (hcl : Closed ops listed) (hsz : listed.size = ops.size)
  (ap1 : ∀ d, oi.dst = some d → d ∉ oj.looksAt ops) (ap2 : ∀ d, oi.dst = some d → oj.dst ≠ some d) (ap3 : ∀ d, oj.dst = some d → d ∉ oi.looksAt ops) (hr : i ∈ Region.ready .any ops listed) (hj : j ∈ Region.ready .any ops listed) (hji : j ≠ i) (hlj : loud j = false) (hya : YieldsM P ops C oj v a)
  (H : mOp P ops C loud i (wpM P ops C loud T Q (fuel + 1) (listed.setIfInBounds i true)) a w) : mOp P ops C loud i (wpM P ops C loud T Q fuel ((listed.setIfInBounds j true).setIfInBounds i true)) (a.put oj.dst v) w := by
 have ap2' : ∀ d, oj.dst = some d → oi.dst ≠ some d := fun d hd hd' => ap2 d hd' hd
 rw [mOp_put hi ap3 ap2' (fun cs b => hsel i oi cs b hi)]
 have hG : ∀ u, YieldsM P ops C oj v (a.put oi.dst u) := fun u => hya.same (execOp_put oj (fun cs b => hsel j oj cs b hoj) a oi.dst u ap1) (wanted_put oj a oi.dst u ap1)
 have hr2 := ready_mono (md := .any) (ops := ops) hj hji
 refine mOp_mono (fun a' w'' h2 => ?_) (mOp_and hi hG H)
 obtain ⟨v', hy', h3⟩ := yields_of_mOp hoj hlj (h2.2.2.2 j hr2)
 rw [YieldsM.unique (cf_of ht (hcl.set hr) (by simpa using hsz) hoj hlj (mem_ready.1 hr2).1 h2.2.c) h2.1 hy', Array.setIfInBounds_comm _ _ hji]
 exact h3
/-- Two loud operations that may come up now: one of them is the first loud one, if every other stands behind the one. -/
theorem wpM_loud2 {n i i2 : Nat} {oi oi2 : Oper} (ht : TailOk ops loud T n) (hi : ops[i]? = some oi) (hi2 : ops[i2]? = some oi2) (hsel : ∀ (j : Nat) (o : Oper) cs b, ops[j]? = some o → o.op ≠ .select cs b) :
  ∀ (fuel : Nat) (listed : Array Bool) (a : Act) (w : World), (∀ j, j < ops.size → j ≠ i → j ≠ i2 → loud j = true → listed.getD j true = false → waitsT ops n j i = true) → Closed ops listed → listed.size = ops.size → (Need ops loud T listed → C w) →
   (∀ j oj, ops[j]? = some oj → j ≠ i → listed.getD j true = false → (∀ e ∈ oj.after, Region.binds .any e = true → e.on ≠ i) → oi.apart ops oj = true) →
   (∀ j oj, ops[j]? = some oj → j ≠ i2 → listed.getD j true = false → (∀ e ∈ oj.after, Region.binds .any e = true → e.on ≠ i2) → oi2.apart ops oj = true) →
   i ∈ Region.ready .any ops listed → i2 ∈ Region.ready .any ops listed →
   mOp P ops C loud i (wpM P ops C loud T Q fuel (listed.setIfInBounds i true)) a w → mOp P ops C loud i2 (wpM P ops C loud T Q fuel (listed.setIfInBounds i2 true)) a w → wpM P ops C loud T Q (fuel + 1) listed a w := by
 intro fuel
 induction fuel with
 | zero =>
  intro listed a w _ _ _ hC _ _ hr _ H H2
  refine ⟨hC, fun h => (by rw [h] at hr; cases hr), fun j hj => ?_⟩
  by_cases hji : j = i
  ·subst hji; exact H
  ·obtain ⟨u, w', h1⟩ := mOp_meets hi H
   have := ready_mono hj hji
   rw [h1.2.1] at this
   cases this
 | succ fuel ih =>
  intro listed a w hT hcl hsz hC hfree hfree2 hr hr2 H H2
  refine ⟨hC, fun h => (by rw [h] at hr; cases hr), fun j hj => ?_⟩
  by_cases hji : j = i
  ·subst hji; exact H
  by_cases hji2 : j = i2
  ·subst hji2; exact H2
  obtain ⟨hjun, oj, hoj, hall⟩ := mem_ready.1 hj
  have notl : ∀ {x : Nat} {ox : Oper}, ops[x]? = some ox → x ∈ Region.ready .any ops listed → ¬ listed.getD x false = true := fun {x ox} hx hxr h1 => by
   have hun := (mem_ready.1 hxr).1
   have hlt : x < ops.size := (Array.getElem?_eq_some_iff.1 hx).1
   have h' : x < listed.size := by omega
   simp [h'] at hun h1; rw [hun] at h1; cases h1
  have hnl := notl hi hr
  have hnl2 := notl hi2 hr2
  have hnot : ∀ e ∈ oj.after, Region.binds .any e = true → e.on ≠ i := fun e he hb heq => hnl (by rw [← heq]; exact hall e he hb)
  have hnot2 : ∀ e ∈ oj.after, Region.binds .any e = true → e.on ≠ i2 := fun e he hb heq => hnl2 (by rw [← heq]; exact hall e he hb)
  have hjlt : j < ops.size := (Array.getElem?_eq_some_iff.1 hoj).1
  have hlj : loud j = false := by
   cases hlj : loud j with
   | false => rfl
   | true =>
    exact absurd (waitsT_spec hcl n j i (hT j hjlt hji hji2 hlj hjun) fun o ho e he hb => by rw [hoj] at ho; injection ho with ho; subst ho; exact hall e he hb) hnl
  obtain ⟨ap1, ap2, ap3⟩ := Oper.apart_spec (hfree j oj hoj hji hjun hnot)
  obtain ⟨bp1, bp2, bp3⟩ := Oper.apart_spec (hfree2 j oj hoj hji2 hjun hnot2)
  have hun' : ∀ k, (listed.setIfInBounds j true).getD k true = false → listed.getD k true = false := fun k hun => by
   by_cases hjk : j = k
   ·subst hjk; exact hjun
   ·rw [getD_set_ne true hjk] at hun; exact hun
  have hCw : Need ops loud T (listed.setIfInBounds j true) → C w := fun hn => hC fun k hTk hk hlk => hun' k (hn k hTk hk hlk)
  obtain ⟨u, w', h1⟩ := mOp_meets hi H
  obtain ⟨v, hy, _⟩ := yields_of_mOp hoj hlj (h1.2.2 j (ready_mono hj hji))
  have hya : YieldsM P ops C oj v a := hy.same (execOp_put oj (fun cs b => hsel j oj cs b hoj) _ oi.dst u ap1).symm (wanted_put oj _ oi.dst u ap1).symm
  refine hya.mOp hoj hlj ?_
  exact ih (listed.setIfInBounds j true) (a.put oj.dst v) w (fun k hk h1 h2 h3 h4 => hT k hk h1 h2 h3 (hun' k h4)) (hcl.set hj) (by simpa using hsz) hCw (fun k ok hk h1 h2 h3 => hfree k ok hk h1 (hun' k h2) h3) (fun k ok hk h1 h2 h3 => hfree2 k ok hk h1 (hun' k h2) h3) (ready_mono hr (Ne.symm hji)) (ready_mono hr2 (Ne.symm hji2))
   (mOp_after ht hi hoj hsel hcl hsz ap1 ap2 ap3 hr hj hji hlj hya H) (mOp_after ht hi2 hoj hsel hcl hsz bp1 bp2 bp3 hr2 hj hji2 hlj hya H2)
/-- As wpM_lex, from an operation on behind which the loud ones stand in one order. -/
theorem wpM_lexG (hs : Region.noSelect ops = true) {n k0 : Nat} (hsp : ∀ k j, k0 ≤ k → k < ops.size → j < ops.size → loud k = true → loud j = true → k < j → waitsT ops n j k = true) (htl : TailOk ops loud T n) (hTl : T < ops.size → loud T = true) : ∀ (l : List Oper) (k : Nat) (listed : Array Bool) (a : Act) (w : World), k0 ≤ k → k + l.length = ops.size → (∀ j, l[j]? = ops[k + j]?) →
  Region.lexFrom .any ops l.length k listed = true → Closed ops listed → listed.size = ops.size → (∀ j, j < k → listed.getD j true = true) → wpMix P ops C loud T Q k l a w → wpM P ops C loud T Q l.length listed a w
 | [], k, listed, a, w, _, hkl, _, hB, _, _, hlt, h => by
  refine ⟨fun hn => h.1 ?_, by simpa [Region.lexFrom] using hB, h.2⟩
  rcases Nat.lt_or_ge T k with h1 | h1
  ·exfalso
   have hTs : T < ops.size := by simp at hkl; omega
   have h2 := hn T (Nat.le_refl _) hTs (hTl hTs)
   rw [hlt T h1] at h2
   cases h2
  ·exact h1
 | o :: l, k, listed, a, w, hk0, hkl, hl, hB, hcl, hsz, hlt, h => by
  have h0 : ops[k]? = some o := by simpa using (hl 0).symm
  have hk : k < ops.size := (Array.getElem?_eq_some_iff.1 h0).1
  simp only [List.length_cons, Region.lexFrom, Bool.and_eq_true] at hB
  obtain ⟨⟨hr, hf⟩, hB'⟩ := hB
  have hr' : k ∈ Region.ready .any ops listed := by simpa using hr
  have rec_ : ∀ a w, wpMix P ops C loud T Q (k + 1) l a w → wpM P ops C loud T Q l.length (listed.setIfInBounds k true) a w := fun a w hh =>
   wpM_lexG hs hsp htl hTl l (k + 1) _ a w (by omega) (by simp at hkl; omega) (fun j => by have := hl (j + 1); simpa [Nat.add_assoc, Nat.add_comm 1 j] using this) hB' (hcl.set hr') (by simpa using hsz) (fun j hj => by
    by_cases hjk : k = j
    ·subst hjk
     have hlt' : k < listed.size := by omega
     simp [hlt']
    ·rw [getD_set_ne true hjk]; exact hlt j (by omega)) hh
  obtain ⟨hC, hh⟩ := h
  have hle : Need ops loud T listed → k ≤ T := fun hn => by
   rcases Nat.lt_or_ge T k with h1 | h1
   ·exfalso
    have h2 := hn T (Nat.le_refl _) (by omega) (hTl (by omega))
    rw [hlt T h1] at h2
    cases h2
   ·exact h1
  have hst : mOp P ops C loud k (wpMix P ops C loud T Q (k + 1) l) a w := by
   unfold mOp
   rw [h0]
   exact hh
  cases hlk : loud k with
  | false =>
   obtain ⟨v, hy, hK⟩ := yields_of_mOp h0 hlk hst
   exact wpM_first h0 hlk (Region.noSelect_spec hs) l.length listed a w (fun hn => hC (hle hn)) hcl hsz (Region.free_spec h0 hf) hr' hy (rec_ _ _ hK)
  | true =>
   refine wpM_loud (n := n) htl h0 (Region.noSelect_spec hs) l.length listed a w (fun j hj hjk hlj hun => ?_) hcl hsz (fun hn => hC (hle hn)) (Region.free_spec h0 hf) hr' (mOp_mono rec_ hst)
   ·have hkj : k < j := by
     rcases Nat.lt_trichotomy k j with h1 | h1 | h1
     ·exact h1
     ·exact absurd h1.symm hjk
     ·rw [hlt j h1] at hun; cases hun
    exact hsp k j hk0 hk hj hlk hlj hkj
/-- The walk, of which p and the operation behind it are taken in both orders. -/
def wpPair (P : Program) (ops : Array Oper) (C : World → Prop) (loud : Nat → Bool) (T : Nat) (Q : Act → World → Prop) (p : Nat) (rest : List Oper) (a : Act) (w : World) : Prop :=
 C w ∧ mOp P ops C loud p (fun a w => C w ∧ mOp P ops C loud (p + 1) (wpMix P ops C loud T Q (p + 2) rest) a w) a w ∧ mOp P ops C loud (p + 1) (fun a w => C w ∧ mOp P ops C loud p (wpMix P ops C loud T Q (p + 2) rest) a w) a w
def wpMixP (P : Program) (ops : Array Oper) (C : World → Prop) (loud : Nat → Bool) (T : Nat) (Q : Act → World → Prop) (p : Nat) : Nat → List Oper → Act → World → Prop
 | _, [], _, _ => False
 | k, _ :: rest, a, w => if k = p then wpPair P ops C loud T Q p (rest.drop 1) a w else (k ≤ T → C w) ∧ mOp P ops C loud k (wpMixP P ops C loud T Q p (k + 1) rest) a w
/-- One of two operations is this pair. -/
def pairB (ops : Array Oper) (loud : Nat → Bool) (T p : Nat) : Bool :=
 ((List.range ops.size).all fun k => !loud k || (List.range ops.size).all fun j => !(decide (k < j) && loud j) || (k == p && j == p + 1) || waitsT ops ops.size j k) &&
 ((List.range ops.size).all fun j => !decide (T ≤ j) || (if loud j then (List.range ops.size).all fun i => loud i || freeAt ops i || waitsT ops ops.size j i else freeAt ops j && decide (j ≠ T))) &&
 (decide (p + 2 ≤ T) && loud p && loud (p + 1) && match ops[p]?, ops[p + 1]? with
  | some o, some o2 => o2.apart ops o && o2.after.all fun e => !Region.binds .any e || e.on != p
  | _, _ => false)
structure PairOk (ops : Array Oper) (loud : Nat → Bool) (T p : Nat) : Prop where
 sp : ∀ k j, k < ops.size → j < ops.size → loud k = true → loud j = true → k < j → (k = p ∧ j = p + 1) ∨ waitsT ops ops.size j k = true
 tl : TailOk ops loud T ops.size
 tT : T < ops.size → loud T = true
 le : p + 2 ≤ T
 l1 : loud p = true
 l2 : loud (p + 1) = true
 ap : ∀ o o2, ops[p]? = some o → ops[p + 1]? = some o2 → o2.apart ops o = true ∧ ∀ e ∈ o2.after, Region.binds .any e = true → e.on ≠ p
theorem pairB_spec {p : Nat} (h : pairB ops loud T p = true) : PairOk ops loud T p := by
 unfold pairB at h
 simp only [Bool.and_eq_true] at h
 obtain ⟨⟨h1, h2⟩, ⟨⟨h3, h4⟩, h5⟩, h6⟩ := h
 have htl : ∀ j, T ≤ j → j < ops.size → (if loud j = true then (List.range ops.size).all (fun i => loud i || freeAt ops i || waitsT ops ops.size j i) = true else (freeAt ops j && decide (j ≠ T)) = true) := fun j hTj hj => by
  have := List.all_eq_true.1 h2 j (by simpa using hj)
  simp only [hTj, decide_true, Bool.not_true, Bool.false_or] at this
  split
  ·next hl => rw [if_pos hl] at this; exact this
  ·next hl => rw [if_neg hl] at this; exact this
 refine ⟨fun k j hk hj hlk hlj hkj => ?_, fun j hTj hj hlj i hi hli hfr => ?_, fun hT => ?_, of_decide_eq_true h3, h4, h5, fun o o2 ho ho2 => ?_⟩
 ·have a1 := List.all_eq_true.1 h1 k (by simpa using hk)
  simp only [hlk, Bool.not_true, Bool.false_or] at a1
  have a2 := List.all_eq_true.1 a1 j (by simpa using hj)
  simp only [hkj, hlj, decide_true, Bool.and_self, Bool.not_true, Bool.false_or, Bool.or_eq_true, Bool.and_eq_true, beq_iff_eq] at a2
  exact a2
 ·have a1 := htl j hTj hj
  rw [if_pos hlj] at a1
  have a2 := List.all_eq_true.1 a1 i (by simpa using hi)
  simpa [hli, hfr] using a2
 ·cases hl : loud T with
  | true => rfl
  | false =>
   have a1 := htl T (Nat.le_refl _) hT
   rw [if_neg (by rw [hl]; simp)] at a1
   simp at a1
 ·rw [ho, ho2] at h6
  simp only [Bool.and_eq_true, Array.all_eq_true_iff_forall_mem] at h6
  refine ⟨h6.1, fun e he hb => ?_⟩
  have := h6.2 e he
  simpa [hb] using this
theorem wpM_pair (hs : Region.noSelect ops = true) {p : Nat} (hp : PairOk ops loud T p) : ∀ (l : List Oper) (k : Nat) (listed : Array Bool) (a : Act) (w : World), k ≤ p → k + l.length = ops.size → (∀ j, l[j]? = ops[k + j]?) →
    Region.lexFrom .any ops l.length k listed = true → Closed ops listed → listed.size = ops.size → (∀ j, j < k → listed.getD j true = true) → wpMixP P ops C loud T Q p k l a w → wpM P ops C loud T Q l.length listed a w
  | [], _, _, _, _, _, _, _, _, _, _, _, h => h.elim
  | o :: l, k, listed, a, w, hkp, hkl, hl, hB, hcl, hsz, hlt, h => by
    have h0 : ops[k]? = some o := by simpa using (hl 0).symm
    have hk : k < ops.size := (Array.getElem?_eq_some_iff.1 h0).1
    simp only [List.length_cons, Region.lexFrom, Bool.and_eq_true] at hB
    obtain ⟨⟨hr, hf⟩, hB'⟩ := hB
    have hr' : k ∈ Region.ready .any ops listed := by simpa using hr
    have hsz' : (listed.setIfInBounds k true).size = ops.size := by simpa using hsz
    have hlt2 : ∀ {q : Nat} {ls : Array Bool}, q < ls.size → (∀ j, j < q → ls.getD j true = true) → ∀ j, j < q + 1 → (ls.setIfInBounds q true).getD j true = true := fun {q ls} hq hh j hj => by
      by_cases hjk : q = j
      · subst hjk; simp [hq]
      · rw [getD_set_ne true hjk]; exact hh j (by omega)
    have hlt' := hlt2 (ls := listed) (by omega) hlt
    have hnext : ∀ j, l[j]? = ops[k + 1 + j]? := fun j => by have := hl (j + 1); simpa [Nat.add_assoc, Nat.add_comm 1 j] using this
    unfold wpMixP at h
    by_cases hkpe : k = p
    · subst hkpe
      rw [if_pos rfl] at h
      obtain ⟨hC, hA, hB2⟩ := h
      -- the second operation
      match l, hkl, hnext, hB' with
      | [], hkl, _, _ => have := hp.le; have h1 : ops.size ≤ k + 1 := by simp at hkl; omega
                         exact absurd hp.l2 (by
                           have hTl := hp.tT
                           intro hl2
                           rcases mOp_meets h0 hA with ⟨u, w', _, h3⟩
                           unfold mOp at h3
                           rw [Array.getElem?_eq_none (by omega)] at h3
                           exact h3)
      | o2 :: l2, hkl, hnext, hB' =>
        have h02 : ops[k + 1]? = some o2 := by simpa using (hnext 0).symm
        have hk2 : k + 1 < ops.size := (Array.getElem?_eq_some_iff.1 h02).1
        simp only [List.length_cons, Region.lexFrom, Bool.and_eq_true] at hB'
        obtain ⟨⟨hr2, hf2⟩, hB2'⟩ := hB'
        have hr2' : k + 1 ∈ Region.ready .any ops (listed.setIfInBounds k true) := by simpa using hr2
        obtain ⟨hap, hno⟩ := hp.ap o o2 h0 h02
        have hne : k ≠ k + 1 := by omega
        -- ready already ahead of the first
        have hr20 : k + 1 ∈ Region.ready .any ops listed := by
          obtain ⟨q1, oq, q2, q3⟩ := mem_ready.1 hr2'
          rw [h02] at q2
          injection q2 with q2
          subst q2
          refine mem_ready.2 ⟨by rw [getD_set_ne true hne] at q1; exact q1, o2, h02, fun e he hb => ?_⟩
          have := q3 e he hb
          rwa [getD_set_ne false (Ne.symm (hno e he hb))] at this
        have hfr1 := Region.free_spec h0 hf
        have hfr2 : ∀ j oj, ops[j]? = some oj → j ≠ k + 1 → listed.getD j true = false → (∀ e ∈ oj.after, Region.binds .any e = true → e.on ≠ k + 1) → o2.apart ops oj = true := fun j oj hj h1 h2 h3 => by
          by_cases hjk : j = k
          · subst hjk
            rw [h0] at hj
            injection hj with hj
            subst hj
            exact hap
          · exact Region.free_spec h02 hf2 j oj hj h1 (by rw [getD_set_ne true (Ne.symm hjk)]; exact h2) h3
        have hge : ∀ j, listed.getD j true = false → j ≠ k → j ≠ k + 1 → k + 1 < j := fun j hun h1 h2 => by
          rcases Nat.lt_or_ge j k with h | h
          · rw [hlt j h] at hun; cases hun
          · omega
        have hwait : ∀ j, j < ops.size → j ≠ k → j ≠ k + 1 → loud j = true → listed.getD j true = false → waitsT ops ops.size j k = true ∧ waitsT ops ops.size j (k + 1) = true := fun j hj h1 h2 h3 h4 => by
          have := hge j h4 h1 h2
          refine ⟨(hp.sp k j hk hj hp.l1 h3 (by omega)).resolve_left fun h => by omega, (hp.sp (k + 1) j hk2 hj hp.l2 h3 this).resolve_left fun h => by omega⟩
        have tail : ∀ a w, wpMix P ops C loud T Q (k + 2) l2 a w → wpM P ops C loud T Q l2.length ((listed.setIfInBounds k true).setIfInBounds (k + 1) true) a w := fun a w hh =>
          wpM_lexG hs (n := ops.size) (k0 := k + 2) (fun x j h1 h2 h3 h4 h5 h6 => (hp.sp x j h2 h3 h4 h5 h6).resolve_left fun h => by omega) hp.tl hp.tT l2 (k + 2) _ a w (Nat.le_refl _) (by simp at hkl; omega) (fun j => by rw [show k + 2 + j = k + 1 + (j + 1) by omega]; simpa using hnext (j + 1)) hB2' ((hcl.set hr').set hr2') (by simpa using hsz) (hlt2 (ls := listed.setIfInBounds k true) (by omega) hlt') hh
        refine wpM_loud2 (n := ops.size) hp.tl h0 h02 (Region.noSelect_spec hs) (l2.length + 1) listed a w (fun j hj h1 h2 h3 h4 => (hwait j hj h1 h2 h3 h4).1) hcl hsz (fun _ => hC) hfr1 hfr2 hr' hr20 (mOp_mono (fun a' w' hh => ?_) hA) (mOp_mono (fun a' w' hh => ?_) hB2)
        · have hun' : ∀ j, (listed.setIfInBounds k true).getD j true = false → listed.getD j true = false ∧ j ≠ k := fun j hun => by
            by_cases hjk : k = j
            · subst hjk
              have : k < listed.size := by omega
              simp [this] at hun
            · rw [getD_set_ne true hjk] at hun; exact ⟨hun, Ne.symm hjk⟩
          exact wpM_loud (n := ops.size) hp.tl h02 (Region.noSelect_spec hs) l2.length (listed.setIfInBounds k true) a' w' (fun j hj h1 h2 h3 => (hwait j hj (hun' j h3).2 h1 h2 (hun' j h3).1).2) (hcl.set hr') hsz' (fun _ => hh.1) (Region.free_spec h02 hf2) hr2' (mOp_mono tail hh.2)
        · have hun' : ∀ j, (listed.setIfInBounds (k + 1) true).getD j true = false → listed.getD j true = false ∧ j ≠ k + 1 := fun j hun => by
            by_cases hjk : k + 1 = j
            · subst hjk
              have : k + 1 < listed.size := by omega
              simp [this] at hun
            · rw [getD_set_ne true hjk] at hun; exact ⟨hun, Ne.symm hjk⟩
          refine wpM_loud (n := ops.size) hp.tl h0 (Region.noSelect_spec hs) l2.length (listed.setIfInBounds (k + 1) true) a' w' (fun j hj h1 h2 h3 => (hwait j hj h1 (hun' j h3).2 h2 (hun' j h3).1).1) (hcl.set hr20) (by simpa using hsz) (fun _ => hh.1) (fun j oj hj h1 h2 h3 => hfr1 j oj hj h1 (hun' j h2).1 h3) (ready_mono hr' hne) (mOp_mono (fun a2 w2 h2 => ?_) hh.2)
          have := tail a2 w2 h2
          rwa [Array.setIfInBounds_comm _ _ hne] at this
    · rw [if_neg hkpe] at h
      obtain ⟨hC, hst⟩ := h
      have hkp' : k < p := by omega
      have rec_ : ∀ a w, wpMixP P ops C loud T Q p (k + 1) l a w → wpM P ops C loud T Q l.length (listed.setIfInBounds k true) a w := fun a w hh =>
        wpM_pair hs hp l (k + 1) _ a w (by omega) (by simp at hkl; omega) hnext hB' (hcl.set hr') hsz' hlt' hh
      have hle : Need ops loud T listed → k ≤ T := fun _ => by have := hp.le; omega
      cases hlk : loud k with
      | false =>
        obtain ⟨v, hy, hK⟩ := yields_of_mOp h0 hlk hst
        exact wpM_first h0 hlk (Region.noSelect_spec hs) l.length listed a w (fun hn => hC (hle hn)) hcl hsz (Region.free_spec h0 hf) hr' hy (rec_ _ _ hK)
      | true =>
        refine wpM_loud (n := ops.size) hp.tl h0 (Region.noSelect_spec hs) l.length listed a w (fun j hj hjk hlj hun => ?_) hcl hsz (fun hn => hC (hle hn)) (Region.free_spec h0 hf) hr' (mOp_mono rec_ hst)
        have hkj : k < j := by
          rcases Nat.lt_trichotomy k j with h1 | h1 | h1
          · exact h1
          · exact absurd h1.symm hjk
          · rw [hlt j h1] at hun; cases hun
        exact (hp.sp k j hk hj hlk hlj hkj).resolve_left fun h => hkpe h.1
theorem wp_region_pair {id p : Nat} {Q' : Exit → Act → World → Prop} {a : Act} {w : World} {l : List Oper} (ro : Option Nat) (m : Nat) (hm : P.follows .mixedOrders = true) (hB : Region.lexB .any l.toArray = true) (hb : pairB l.toArray loud T p = true)
  (h : wpMixP P l.toArray C loud T (fun a w => Q' .normal a w) p 0 l a w.drew) : (Code.region id l.toArray true).wpIn (Fw ro) m P Q' a w := by
 simp only [Region.lexB, Bool.and_eq_true] at hB
 have hp := pairB_spec hb
 have hcl : Closed l.toArray (Array.replicate l.toArray.size false) := fun k o hk hlis => by
  rw [getD_replicate_false] at hlis; cases hlis
 refine wpIn_region_any hm (wpAny_of_wpM (C := C) (loud := loud) (T := T) (n := l.toArray.size) (Q := fun a w => Q' .normal a w) ro m hp.tl (fun _ _ h => h) _ _ _ _ hcl (by simp) ?_)
 have := wpM_pair (P := P) (C := C) (loud := loud) (T := T) (Q := fun a w => Q' .normal a w) (ops := l.toArray) hB.1 hp l 0 (Array.replicate l.toArray.size false) a w.drew (Nat.zero_le _) (by simp) (by simp) (by simpa using hB.2) hcl (by simp) (fun j hj => by omega) h
 simpa using this
end
/-- One operation of such a region, whatever stands behind it. -/
def Op1 (E : Env) (ops : Array Oper) (T n0 k : Nat) (o : Oper) (s : St) (Ks : St → Prop) : Prop :=
 ∀ (base : Bs) (K : Act → World → Prop) (w0 : World) (Z : Nat → Prop) (R0 : List RI) (h0 : Hp) (a : Act) (w : World) (R : List RI), HR w0 Z R0 h0 → n0 = h0.length → SR E base w Z R s a → w0.grownBy w none → Step w0 Z R0 h0 w Z R s.hp → (∀ (b : Nat) (B : Option Blk), h0[b]? = some B → s.hp[b]? = some B) → ops[k]? = some o →
  (∀ s' a' w' R', Ks s' → SR E base w' Z R' s' a' → w0.grownBy w' none → Step w0 Z R0 h0 w' Z R' s'.hp → (∀ (b : Nat) (B : Option Blk), h0[b]? = some B → s'.hp[b]? = some B) → K a' w') → mOp E.P ops (fun w' => w0.grownBy w' none) (loudT ops T) k K a w
def RunDP (E : Env) (ops : Array Oper) (T p n0 k : Nat) (rest : List Oper) (s : St) (K : St → Prop) : Prop :=
 ∀ (base : Bs) (Q : Act → World → Prop) (w0 : World) (Z : Nat → Prop) (R0 : List RI) (h0 : Hp) (a : Act) (w : World) (R : List RI), HR w0 Z R0 h0 → n0 = h0.length → SR E base w Z R s a → w0.grownBy w none → Step w0 Z R0 h0 w Z R s.hp → (∀ (b : Nat) (B : Option Blk), h0[b]? = some B → s.hp[b]? = some B) → (∀ j, rest[j]? = ops[k + j]?) →
  (∀ s' a' w' Z' R', K s' → SR E base w' Z' R' s' a' → StepW w0 Z R0 h0 w' Z' R' s'.hp → Q a' w') → wpMixP E.P ops (fun w' => w0.grownBy w' none) (loudT ops T) T Q p k rest a w
section
variable {E : Env} {cx : Cx} {ops : Array Oper} {pre rest rest' : List Oper} {s s1 : St} {K Ks : St → Prop} {n n0 k T p : Nat} {l : List (Nat × AV)} {hp hp' : Hp} {Q : Ex → St → Prop} {id : Nat} {fid : FuncId} {o : Oper}
theorem Sem.runDP (hE : EnvOk E) (T p : Nat) (hB : Region.lexB .any ops = true) (hb : pairB ops (loudT ops T) T p = true) (h : RunDP E ops T p s.hp.length 0 ops.toList s fun s' => Wk E s' s1) (q : Q .normal s1) : Sem E cx (.region id ops true) s Q := by
 intro ro base Qm a w Z R _ sr _ kk
 have hgd : w.grownBy w.drew none := ch_drew w
 have hops : ops.toList.toArray = ops := by simp
 have st0 : Step w Z R s.hp w.drew Z R s.hp := ⟨rfl, rfl, rfl, Nat.le_refl _, fun c hc _ => rfl, fun _ h => .inl h, fun _ h => h, fun _ h => .inl h, fun _ _ h => h⟩
 have hsrd : SR E base w.drew Z R s a := ⟨sr.hh.keep (Nat.le_refl _) (fun c hc => hgd.block c hc (by simp)), sr.fr.off (fun c hc => rfl), sr.mks.step st0, sr.gl.off (fun c hc => rfl), sr.bs⟩
 have hm := h base (fun a w => Qm .normal a w) w.drew Z R s.hp a w.drew R hsrd.hh rfl hsrd (pu_refl _) (Step.refl _ _ _ _) (fun b B hb => hb) (fun j => by simp) (fun s' a' w' Z' R' hw sr' st => by
  obtain ⟨Z2, R2, sr2, st2⟩ := hw base w' Z' R' a' sr'
  exact kk .normal s1 a' w' Z2 R2 q sr2 ((st0.w.trans st).trans st2))
 have := wp_region_pair (P := E.P) (id := id) (l := ops.toList) (a := a) (w := w) (C := fun w' => w.drew.grownBy w' none) (loud := loudT ops T) (T := T) (p := p) (Q' := Qm) ro 0 hE.mixed (by rw [hops]; exact hB) (by rw [hops]; exact hb) (by rw [hops]; exact hm)
 rw [hops] at this
 exact this
theorem opsD_cons (hW : isW o.op = false) (e : opsD E (evC E 0) ⟨none, false⟩ ops n0 (o :: pre) s = some s1) : ∃ s2, opsD E (evC E 0) ⟨none, false⟩ ops n0 [o] s = some s2 ∧ opsD E (evC E 0) ⟨none, false⟩ ops n0 pre s2 = some s1 := by
 have hW' : ¬ isW o.op = true := by rw [hW]; simp
 unfold opsD at e
 rw [if_neg hW'] at e
 split at e
 ·cases e
 ·next hw => exact ⟨_, by unfold opsD; rw [if_neg hW']; simp only [hw]; rfl, e⟩
 ·next hw =>
  split at e
  ·next x hx =>
   split at e
   ·next hld => exact ⟨_, by unfold opsD; rw [if_neg hW']; simp only [hw, hx, hld, if_true]; rfl, e⟩
   ·cases e
  ·next hx =>
   split at e
   ·next x h' hn => exact ⟨_, by unfold opsD; rw [if_neg hW']; simp only [hw, hx, hn]; rfl, e⟩
   ·next hn =>
    split at e
    ·next f args tys ho =>
     split at e
     ·next fv xs hf hxs =>
      split at e
      ·next r hr => exact ⟨_, by unfold opsD; rw [if_neg hW']; simp only [hw, hx, hn, ho, hf, hxs, hr]; rfl, e⟩
      ·cases e
     ·cases e
    ·cases e
theorem Op1.d (hE : EnvOk E) (hW : isW o.op = false) (hk : k < T) (e : opsD E (evC E 0) ⟨none, false⟩ ops n0 [o] s = some s1) (kk : Ks s1) : Op1 E ops T n0 k o s Ks := by
 intro base K w0 Z R0 h0 a w R hh0 hn0 sr hgr st hpre hok q
 have hkT : ¬ T ≤ k := by omega
 unfold mOp
 rw [hok]
 dsimp only
 unfold opsD at e
 rw [if_neg (by rw [hW]; simp)] at e
 split at e
 ·cases e
 ·next hw =>
  rw [if_neg (by rw [wantedA_eq sr hw]; simp)]
  injection e with e
  subst e
  exact q _ _ w R kk (sr.put undef_vr) hgr st hpre
 ·next hw =>
  rw [if_pos (wantedA_eq sr hw)]
  have hρ : ∀ o x, opA E s.fr o = some x → VR w Z R x (a.eval o) := fun o x e => opA_vr sr o x e
  split at e
  ·next x hx =>
   split at e
   ·next hld =>
    injection e with e
    subst e
    have hq := isQ_of hx
    rw [if_neg (by rw [loudT_q hok hq hkT]; simp)]
    obtain ⟨u, hu, hrun⟩ := evOpQ_sound sr.hh hρ hx
    have hquiet : ∃ u, VR w Z R x u ∧ QuietAt E.P (Cf (fun w' => w0.grownBy w' none) o) o u a := by
     cases hl : isLd o.op with
     | false => exact ⟨u, hu, fun w' _ => hrun w' fun h => by rw [hl] at h; cases h⟩
     | true =>
      obtain ⟨u1, hu1, hq1⟩ := load_quiet hh0 sr hgr st hpre hl (by rw [← hn0]; exact hld) hx
      exact ⟨u1, hu1, hq1.up (free_ld hl)⟩
    obtain ⟨u, hu, hquiet⟩ := hquiet
    exact ⟨u, hquiet, q _ _ w R kk (sr.put hu) hgr st hpre⟩
   ·cases e
  ·split at e
   ·next x h' hx =>
    injection e with e
    subst e
    have hq := isQ_of_N hx
    rw [if_pos (loudT_n hok hq)]
    obtain ⟨u, w', R', h1, h2, h3, h4, h5⟩ := evOpN_sound hρ sr.hh hx
    exact lw_val h1 (q _ _ w' R' kk ((sr.step h2 h4).put h3) (pu_trans hgr h5) (st.trans h4) fun b B hb => evOpN_pre hx (hpre b B hb))
   ·split at e
    ·next f args tys ho =>
     split at e
     ·next fv xs hf hxs =>
      split at e
      ·next r hr =>
       injection e with e
       subst e
       obtain ⟨x, h'⟩ := r
       have hq : isQ o.op = false := by rw [ho]; rfl
       rw [if_pos (loudT_n hok hq)]
       obtain ⟨g, uf, uc, hva, hcl, hret⟩ := callP_sound hE (code_sound hE 0).1 (hρ _ _ hf) (opds_vr hρ hxs) sr.hh sr.gl hr
       unfold Lw
       rw [run_call (uf := uf) (uc := uc) ho hva rfl hcl w]
       refine Ret.mono hret fun v w' hS => ?_
       obtain ⟨hg1, R', k1, k2, k3⟩ := hS
       exact q _ _ w' R' kk ((sr.step k1 k3).put k2) (pu_trans hgr hg1) (st.trans k3) fun b B hb => callP_pre hr (hpre b B hb)
      ·cases e
     ·cases e
    ·cases e
theorem Op1.seg (hE : EnvOk E) {s : St} (l : List (Nat × AV)) (hp : Hp) (hW : (!isW o.op && Nat.blt k T) = true) (h : segB (opsD E (evC E 0) ⟨none, false⟩ ops n0 [o] s) l = some (n, xs2 l, hp)) (kk : Ks ⟨Fr n l, hp⟩) : Op1 E ops T n0 k o s Ks := by
 obtain ⟨fr, h1, h2, h3⟩ := segB_inv h
 simp only [Bool.and_eq_true, Bool.not_eq_true'] at hW
 intro base K w0 Z R0 h0 a w R hh0 hn0 sr hgr st hpre hok q
 exact Op1.d (Ks := fun s => s = ⟨fr, hp⟩) hE hW.1 (Nat.le_of_ble_eq_true hW.2) h1 rfl base K w0 Z R0 h0 a w R hh0 hn0 sr hgr st hpre hok fun s' a' w' R' hs sr' hg' st' hp' => by
  subst hs
  exact q _ a' w' R' kk (sr'.forget h2 h3) hg' st' hp'
theorem Op1.one (hE : EnvOk E) (hW : (!isW o.op && Nat.blt k T) = true) (h : opsD E (evC E 0) ⟨none, false⟩ ops n0 [o] s = some s1) (kk : Ks s1) : Op1 E ops T n0 k o s Ks := by
 simp only [Bool.and_eq_true, Bool.not_eq_true'] at hW
 exact Op1.d hE hW.1 (Nat.le_of_ble_eq_true hW.2) h kk
theorem Op1.callS (hP : E.P = E0.P) (hG : E.G = E0.G) {xs ys : List AV} {Out : AV → Hp → Prop} {d : Nat} {f : Operand} {args : Array Operand} {tys : Array TypeId} {ty : TypeId} {pos : String} {af : Array Edge} {g : Option (Nat × Bool)} (hs : SOk fid ys Out) (hr : o = ⟨some d, .call ⟨.value f, args, tys⟩, ty, pos, af, g⟩) (hw : wantedA ops (Fr n l) ⟨some d, .call ⟨.value f, args, tys⟩, ty, pos, af, g⟩ = some true)
  (hf : opA E (Fr n l) f = some (.fn fid [] [])) (ha : opds (opA E (Fr n l)) args.toList = some xs) (hv : viewsF hp xs = some ys) (hfl : ∀ x h', Out x h' → ownFlat x = true ∧ flatH h' = true) (kk : ∀ x h', Out x h' → Ks ⟨Fr n ((d, shN hp.length x) :: l), hp ++ h'⟩) : Op1 E ops T n0 k o ⟨Fr n l, hp⟩ Ks := by
 subst hr
 intro base K w0 Z R0 h0 a w R hh0 hn0 sr hgr st hpre hko q
 have hq : isQ (.call ⟨.value f, args, tys⟩ : Op) = false := rfl
 unfold mOp
 rw [hko]
 dsimp only
 rw [if_pos (wantedA_eq sr hw), if_pos (loudT_n hko hq)]
 have hρ : ∀ o x, opA E (Fr n l) o = some x → VR w Z R x (a.eval o) := fun o x e => opA_vr sr o x e
 have hva : a.eval f = .func (.func fid) ([] : List Value).toArray ([] : List Value).toArray := by
  have := hρ _ _ hf
  generalize a.eval f = vf at this
  cases this with
  | fn hl hl' hx hy =>
   rename_i u1 u2
   have e1 : u1 = [] := by simpa using hl
   have e2 : u2 = [] := by simpa using hl'
   subst e1 e2; rfl
 have hcl : Callable E.P fid := hP ▸ hs.1
 unfold Lw
 rw [run_call (uf := []) (uc := []) rfl hva rfl hcl w]
 simp only [List.nil_append, List.append_nil]
 have hz1 : ∀ c, (Z c ∨ own R hp c) → c < w.heap.size := fun c hc => hc.elim (sr.hh.zlt c) (fun ⟨b, B, r, h1, _, h3, h4⟩ => h4 ▸ sr.hh.rltL h1 h3)
 have hg1 : GI E0 w (fun c => Z c ∨ own R hp c) := fun q y hy => (sr.gl q y (by rw [hG]; exact hy)).mono (fun _ _ => rfl) (fun _ h => .inl h) (fun _ _ h => h)
 have hret := hs.2 w _ _ hz1 hg1 (viewsF_vr sr.hh (opds_vr hρ ha) hv)
 rw [← hP] at hret
 refine Ret.mono hret fun v w' hS => ?_
 obtain ⟨Z', R', x, h', hO, h1, h2, st1⟩ := hS
 obtain ⟨f1, f2⟩ := hfl x h' hO
 obtain ⟨j1, j2⟩ := sr.hh.join hz1 st1 h1 f2
 have hlen1 : R.length = hp.length := sr.hh.len
 have hx := shN_vr (w := w') (Z' := Z) (R := R) hlen1 f1 h2
 have sr' := (sr.step j1 j2).put (d := some d) hx
 rw [show putA (⟨Fr n l, hp⟩ : St).fr (some d) (shN hp.length x) = Fr n ((d, shN hp.length x) :: l) from putA_Fr n l d _] at sr'
 have hg2 : w.grownBy w' none := ⟨st1.os, st1.tape, st1.output, st1.size, fun c hc _ => st1.block c hc fun ⟨b, B, r, hb, _⟩ => by simp at hb⟩
 exact q _ _ w' (R ++ R') (kk x h' hO) sr' (pu_trans hgr hg2) (st.trans j2) (fun b B hb => by
  have hlt : b < hp.length := (List.getElem?_eq_some_iff.1 (hpre b B hb)).1
  show (hp ++ h')[b]? = _
  rw [List.getElem?_append_left hlt]; exact hpre b B hb)
/-- The walk up to the two. -/
theorem RunDP.app (hE : EnvOk E) : ∀ {pre : List Oper} {s : St} {k : Nat}, (pre.all fun o => !isW o.op) = true → k + pre.length ≤ p → p + 2 ≤ T → opsD E (evC E 0) ⟨none, false⟩ ops n0 pre s = some s1 → RunDP E ops T p n0 (k + pre.length) rest s1 K → RunDP E ops T p n0 k (pre ++ rest) s K
 | [], s, k, _, _, _, e, kk => by injection e with e; subst e; exact kk
 | o :: pre, s, k, hp, hT, hpT, e, kk => by
  intro base Q w0 Z R0 h0 a w R hh0 hn0 sr hgr st hpre hops q
  simp only [List.all_cons, Bool.and_eq_true, Bool.not_eq_true'] at hp
  obtain ⟨hW, hp⟩ := hp
  obtain ⟨s2, e1, e2⟩ := opsD_cons hW e
  have hok : ops[k]? = some o := by have := hops 0; simpa using this.symm
  have hops' : ∀ j, (pre ++ rest)[j]? = ops[k + 1 + j]? := fun j => by have := hops (j + 1); simpa [Nat.add_assoc, Nat.add_comm 1 j] using this
  have hk1 : k + 1 + pre.length = k + (o :: pre).length := by simp; omega
  have kk' : RunDP E ops T p n0 (k + 1 + pre.length) rest s1 K := by rw [hk1]; exact kk
  simp only [List.length_cons] at hT
  show wpMixP E.P ops _ _ _ Q p k (o :: (pre ++ rest)) a w
  unfold wpMixP
  rw [if_neg (by omega)]
  refine ⟨fun _ => hgr, ?_⟩
  refine Op1.d (Ks := fun s => s = s2) hE hW (by omega) e1 rfl base _ w0 Z R0 h0 a w R hh0 hn0 sr hgr st hpre hok fun s' a' w' R' hs sr' hg' st' hp' => ?_
  subst hs
  exact RunDP.app hE hp (by omega) hpT e2 kk' base Q w0 Z R0 h0 a' w' R' hh0 hn0 sr' hg' st' hp' hops' q
theorem RunDP.segF (hE : EnvOk E) (m : Nat) {s : St} (l : List (Nat × AV)) (hp : Hp) (hw : (((rest.take m).all fun o => !isW o.op) && Nat.ble (k + (rest.take m).length) p && Nat.ble (p + 2) T) = true) (h : segB (opsD E (evC E 0) ⟨none, false⟩ ops n0 (rest.take m) s) l = some (n, xs2 l, hp)) (kk : RunDP E ops T p n0 (k + (rest.take m).length) (rest.drop m) ⟨Fr n l, hp⟩ K) : RunDP E ops T p n0 k rest s K := by
 obtain ⟨fr, h1, h2, h3⟩ := segB_inv h
 simp only [Bool.and_eq_true] at hw
 have := RunDP.app (k := k) (T := T) (p := p) (pre := rest.take m) (rest := rest.drop m) hE hw.1.1 (Nat.le_of_ble_eq_true hw.1.2) (Nat.le_of_ble_eq_true hw.2) h1 (fun base Q w0 Z R0 h0 a w R a1 a2 sr a5 a6 a7 a8 q => kk base Q w0 Z R0 h0 a w R a1 a2 (sr.forget h2 h3) a5 a6 a7 a8 q)
 rwa [List.take_append_drop] at this
theorem RunDP.one (hE : EnvOk E) (hr : rest = o :: rest') (hW : (!isW o.op && Nat.blt k p && Nat.ble (p + 2) T) = true) (h : opsD E (evC E 0) ⟨none, false⟩ ops n0 [o] s = some s1) (kk : RunDP E ops T p n0 (k + 1) rest' s1 K) : RunDP E ops T p n0 k rest s K := by
 subst hr
 simp only [Bool.and_eq_true] at hW
 exact RunDP.app (k := k) hE (pre := [o]) (by simpa using hW.1.1) (by have := Nat.le_of_ble_eq_true hW.1.2; simpa using this) (Nat.le_of_ble_eq_true hW.2) h kk
/-- The two, in both orders. -/
theorem RunDP.two {o1 o2 : Oper} (hr : rest = o1 :: o2 :: rest') (hA : Op1 E ops T n0 p o1 s fun s1 => Op1 E ops T n0 (p + 1) o2 s1 fun s2 => RunDX E ops T n0 (p + 2) rest' s2 K) (hB : Op1 E ops T n0 (p + 1) o2 s fun s1 => Op1 E ops T n0 p o1 s1 fun s2 => RunDX E ops T n0 (p + 2) rest' s2 K) : RunDP E ops T p n0 p rest s K := by
 subst hr
 intro base Q w0 Z R0 h0 a w R hh0 hn0 sr hgr st hpre hops q
 have hk1 : ops[p]? = some o1 := by have := hops 0; simpa using this.symm
 have hk2 : ops[p + 1]? = some o2 := by have := hops 1; simpa using this.symm
 have hops' : ∀ j, rest'[j]? = ops[p + 2 + j]? := fun j => by have := hops (j + 2); rw [show p + 2 + j = p + (j + 2) by omega]; simpa using this
 unfold wpMixP
 rw [if_pos rfl]
 refine ⟨hgr, ?_, ?_⟩
 ·refine hA base _ w0 Z R0 h0 a w R hh0 hn0 sr hgr st hpre hk1 fun s1 a1 w1 R1 h1 sr1 hg1 st1 hp1 => ⟨hg1, ?_⟩
  exact h1 base _ w0 Z R0 h0 a1 w1 R1 hh0 hn0 sr1 hg1 st1 hp1 hk2 fun s2 a2 w2 R2 h2 sr2 hg2 st2 hp2 => h2 base Q w0 Z R0 h0 a2 w2 R2 hh0 hn0 sr2 hg2 st2 hp2 hops' q
 ·refine hB base _ w0 Z R0 h0 a w R hh0 hn0 sr hgr st hpre hk2 fun s1 a1 w1 R1 h1 sr1 hg1 st1 hp1 => ⟨hg1, ?_⟩
  exact h1 base _ w0 Z R0 h0 a1 w1 R1 hh0 hn0 sr1 hg1 st1 hp1 hk1 fun s2 a2 w2 R2 h2 sr2 hg2 st2 hp2 => h2 base Q w0 Z R0 h0 a2 w2 R2 hh0 hn0 sr2 hg2 st2 hp2 hops' q
end
section
variable {P : Program} {ops : Array Oper} {C : World → Prop} {Q : Act → World → Prop} {loud : Nat → Bool} {T : Nat}
/-- Loud operations that may come up now: one of them is the first loud one, if every other stands behind one of them. -/
theorem wpM_loudL {n : Nat} (L : List Nat) (hL : L ≠ []) (ht : TailOk ops loud T n) (hin : ∀ i ∈ L, ∃ o, ops[i]? = some o) (hsel : ∀ (j : Nat) (o : Oper) cs b, ops[j]? = some o → o.op ≠ .select cs b) :
  ∀ (fuel : Nat) (listed : Array Bool) (a : Act) (w : World), (∀ j, j < ops.size → j ∉ L → loud j = true → listed.getD j true = false → ∃ i ∈ L, waitsT ops n j i = true) → Closed ops listed → listed.size = ops.size → (Need ops loud T listed → C w) →
   (∀ i ∈ L, ∀ oi, ops[i]? = some oi → ∀ j oj, ops[j]? = some oj → j ≠ i → listed.getD j true = false → (∀ e ∈ oj.after, Region.binds .any e = true → e.on ≠ i) → oi.apart ops oj = true) →
   (∀ i ∈ L, i ∈ Region.ready .any ops listed) →
   (∀ i ∈ L, mOp P ops C loud i (wpM P ops C loud T Q fuel (listed.setIfInBounds i true)) a w) → wpM P ops C loud T Q (fuel + 1) listed a w := by
 intro fuel
 obtain ⟨i0, hi0⟩ := List.exists_mem_of_ne_nil L hL
 obtain ⟨o0, ho0⟩ := hin i0 hi0
 induction fuel with
 | zero =>
  intro listed a w _ _ _ hC _ hr H
  refine ⟨hC, fun h => (by have := hr i0 hi0; rw [h] at this; cases this), fun j hj => ?_⟩
  by_cases hji : j ∈ L
  ·exact H j hji
  ·obtain ⟨u, w', h1⟩ := mOp_meets ho0 (H i0 hi0)
   have := ready_mono hj (fun e => hji (e ▸ hi0))
   rw [h1.2.1] at this
   cases this
 | succ fuel ih =>
  intro listed a w hT hcl hsz hC hfree hr H
  refine ⟨hC, fun h => (by have := hr i0 hi0; rw [h] at this; cases this), fun j hj => ?_⟩
  by_cases hji : j ∈ L
  ·exact H j hji
  obtain ⟨hjun, oj, hoj, hall⟩ := mem_ready.1 hj
  have hnl : ∀ i ∈ L, ¬ listed.getD i false = true := fun i hi h1 => by
   obtain ⟨ox, hx⟩ := hin i hi
   have hun := (mem_ready.1 (hr i hi)).1
   have hlt : i < ops.size := (Array.getElem?_eq_some_iff.1 hx).1
   have h' : i < listed.size := by omega
   simp [h'] at hun h1; rw [hun] at h1; cases h1
  have hne : ∀ i ∈ L, j ≠ i := fun i hi e => hji (e ▸ hi)
  have hnot : ∀ i ∈ L, ∀ e ∈ oj.after, Region.binds .any e = true → e.on ≠ i := fun i hi e he hb heq => hnl i hi (by rw [← heq]; exact hall e he hb)
  have hjlt : j < ops.size := (Array.getElem?_eq_some_iff.1 hoj).1
  have hlj : loud j = false := by
   cases hlj : loud j with
   | false => rfl
   | true =>
    obtain ⟨i, hi, hw⟩ := hT j hjlt hji hlj hjun
    exact absurd (waitsT_spec hcl n j i hw fun o ho e he hb => by rw [hoj] at ho; injection ho with ho; subst ho; exact hall e he hb) (hnl i hi)
  have ap : ∀ i ∈ L, ∀ oi, ops[i]? = some oi → oi.apart ops oj = true := fun i hi oi hoi => hfree i hi oi hoi j oj hoj (hne i hi) hjun (hnot i hi)
  have hun' : ∀ k, (listed.setIfInBounds j true).getD k true = false → listed.getD k true = false := fun k hun => by
   by_cases hjk : j = k
   ·subst hjk; exact hjun
   ·rw [getD_set_ne true hjk] at hun; exact hun
  have hCw : Need ops loud T (listed.setIfInBounds j true) → C w := fun hn => hC fun k hTk hk hlk => hun' k (hn k hTk hk hlk)
  obtain ⟨ap1, ap2, ap3⟩ := Oper.apart_spec (ap i0 hi0 o0 ho0)
  obtain ⟨u, w', h1⟩ := mOp_meets ho0 (H i0 hi0)
  obtain ⟨v, hy, _⟩ := yields_of_mOp hoj hlj (h1.2.2 j (ready_mono hj (hne i0 hi0)))
  have hya : YieldsM P ops C oj v a := hy.same (execOp_put oj (fun cs b => hsel j oj cs b hoj) _ o0.dst u ap1).symm (wanted_put oj _ o0.dst u ap1).symm
  refine hya.mOp hoj hlj ?_
  exact ih (listed.setIfInBounds j true) (a.put oj.dst v) w (fun k hk h1 h2 h3 => hT k hk h1 h2 (hun' k h3)) (hcl.set hj) (by simpa using hsz) hCw (fun i hi oi hoi k ok hk h1 h2 h3 => hfree i hi oi hoi k ok hk h1 (hun' k h2) h3) (fun i hi => ready_mono (hr i hi) (Ne.symm (hne i hi)))
   (fun i hi => by
    obtain ⟨oi, hoi⟩ := hin i hi
    obtain ⟨bp1, bp2, bp3⟩ := Oper.apart_spec (ap i hi oi hoi)
    exact mOp_after ht hoi hoj hsel hcl hsz bp1 bp2 bp3 (hr i hi) hj (hne i hi) hlj hya (H i hi))
/-- What holds of the region throughout. -/
structure MOk (ops : Array Oper) (T : Nat) : Prop where
 ns : Region.noSelect ops = true
 tl : TailOk ops (loudT ops T) T ops.size
 tT : T < ops.size → loudT ops T T = true
def mB (ops : Array Oper) (T f : Nat) : Bool :=
 Region.noSelect ops && Nat.beq f ops.size && ((List.range ops.size).all fun j => !decide (T ≤ j) || (if loudT ops T j then (List.range ops.size).all fun i => loudT ops T i || freeAt ops i || waitsT ops ops.size j i else freeAt ops j && decide (j ≠ T)))
theorem mB_spec {f : Nat} (h : mB ops T f = true) : MOk ops T ∧ f = ops.size := by
 unfold mB at h
 simp only [Bool.and_eq_true] at h
 obtain ⟨⟨h1, h3⟩, h2⟩ := h
 have htl : ∀ j, T ≤ j → j < ops.size → (if loudT ops T j = true then (List.range ops.size).all (fun i => loudT ops T i || freeAt ops i || waitsT ops ops.size j i) = true else (freeAt ops j && decide (j ≠ T)) = true) := fun j hTj hj => by
  have := List.all_eq_true.1 h2 j (by simpa using hj)
  simp only [hTj, decide_true, Bool.not_true, Bool.false_or] at this
  split
  ·next hl => rw [if_pos hl] at this; exact this
  ·next hl => rw [if_neg hl] at this; exact this
 refine ⟨⟨h1, fun j hTj hj hlj i hi hli hfr => ?_, fun hT => ?_⟩, Nat.eq_of_beq_eq_true h3⟩
 ·have a1 := htl j hTj hj
  rw [if_pos hlj] at a1
  have a2 := List.all_eq_true.1 a1 i (by simpa using hi)
  simpa [hli, hfr] using a2
 ·cases hl : loudT ops T T with
  | true => rfl
  | false =>
   have a1 := htl T (Nat.le_refl _) hT
   rw [if_neg (by rw [hl]; simp)] at a1
   simp at a1
/-- What is checked of an operation that may come up now. -/
def readyB (ops : Array Oper) (m : List Bool) (i : Nat) : Bool := (Region.ready .any ops m.toArray).contains i && Region.free .any ops m.toArray i
def loudLB (ops : Array Oper) (T : Nat) (m : List Bool) (L : List Nat) : Bool :=
 (L.all fun i => readyB ops m i) && (List.range ops.size).all fun j => L.contains j || !loudT ops T j || m.toArray.getD j true || L.any fun i => waitsT ops ops.size j i
def tailMB (ops : Array Oper) (T p f : Nat) (m : List Bool) : Bool :=
 Nat.beq (p + f) ops.size && Region.lexFrom .any ops f p m.toArray && ((List.range p).all fun j => m.toArray.getD j true) && (List.range ops.size).all fun k => !(Nat.ble p k && loudT ops T k) || (List.range ops.size).all fun j => !(Nat.blt k j && loudT ops T j) || waitsT ops ops.size j k
end
def RunM (E : Env) (ops : Array Oper) (T n0 f : Nat) (m : List Bool) (s : St) (K : St → Prop) : Prop :=
 ∀ (base : Bs) (Q : Act → World → Prop) (w0 : World) (Z : Nat → Prop) (R0 : List RI) (h0 : Hp) (a : Act) (w : World) (R : List RI), MOk ops T → Closed ops m.toArray → m.length = ops.size → HR w0 Z R0 h0 → n0 = h0.length → SR E base w Z R s a → w0.grownBy w none → Step w0 Z R0 h0 w Z R s.hp → (∀ (b : Nat) (B : Option Blk), h0[b]? = some B → s.hp[b]? = some B) →
  (∀ s' a' w' Z' R', K s' → SR E base w' Z' R' s' a' → StepW w0 Z R0 h0 w' Z' R' s'.hp → Q a' w') → wpM E.P ops (fun w' => w0.grownBy w' none) (loudT ops T) T Q f m.toArray a w
section
variable {E : Env} {cx : Cx} {ops : Array Oper} {s s1 : St} {K : St → Prop} {n0 f T i j k : Nat} {m : List Bool} {Q : Ex → St → Prop} {id : Nat} {o o2 o3 : Oper}
theorem Sem.runM (hE : EnvOk E) (T f : Nat) (hb : mB ops T f = true) (h : RunM E ops T s.hp.length f (List.replicate f false) s fun s' => Wk E s' s1) (q : Q .normal s1) : Sem E cx (.region id ops true) s Q := by
 intro ro base Qm a w Z R _ sr _ kk
 obtain ⟨hM, hf⟩ := mB_spec hb
 have hgd : w.grownBy w.drew none := ch_drew w
 have st0 : Step w Z R s.hp w.drew Z R s.hp := ⟨rfl, rfl, rfl, Nat.le_refl _, fun c hc _ => rfl, fun _ h => .inl h, fun _ h => h, fun _ h => .inl h, fun _ _ h => h⟩
 have hsrd : SR E base w.drew Z R s a := ⟨sr.hh.keep (Nat.le_refl _) (fun c hc => hgd.block c hc (by simp)), sr.fr.off (fun c hc => rfl), sr.mks.step st0, sr.gl.off (fun c hc => rfl), sr.bs⟩
 have hrep : (List.replicate f false).toArray = Array.replicate ops.size false := by rw [hf]; simp
 have hcl : Closed ops (Array.replicate ops.size false) := fun k o hk hlis => by
  rw [getD_replicate_false] at hlis; cases hlis
 have hm := h base (fun a w => Qm .normal a w) w.drew Z R s.hp a w.drew R hM (by rw [hrep]; exact hcl) (by simp [hf]) hsrd.hh rfl hsrd (pu_refl _) (Step.refl _ _ _ _) (fun b B hb => hb) (fun s' a' w' Z' R' hw sr' st => by
  obtain ⟨Z2, R2, sr2, st2⟩ := hw base w' Z' R' a' sr'
  exact kk .normal s1 a' w' Z2 R2 q sr2 ((st0.w.trans st).trans st2))
 rw [hrep, hf] at hm
 exact wpIn_region_any hE.mixed (wpAny_of_wpM (C := fun w' => w.drew.grownBy w' none) (loud := loudT ops T) (T := T) (n := ops.size) (Q := fun a w => Qm .normal a w) ro 0 hM.tl (fun _ _ h => h) _ _ _ _ hcl (by simp) hm)
theorem set_mark (m : List Bool) (i : Nat) : m.toArray.setIfInBounds i true = (m.set i true).toArray := by simp
/-- An operation that is quiet. -/
theorem RunM.q (i : Nat) (hq : (readyB ops m i && !loudT ops T i) = true) (ho : ops[i]? = some o) (h : Op1 E ops T n0 i o s fun s' => RunM E ops T n0 f (m.set i true) s' K) : RunM E ops T n0 (f + 1) m s K := by
 intro base Q w0 Z R0 h0 a w R hM hcl hsz hh0 hn0 sr hgr st hpre q
 unfold readyB at hq
 simp only [Bool.and_eq_true, Bool.not_eq_true'] at hq
 obtain ⟨⟨hr, hf⟩, hl⟩ := hq
 have hr' : i ∈ Region.ready .any ops m.toArray := by simpa using hr
 have hst := h base (fun a w => wpM E.P ops (fun w' => w0.grownBy w' none) (loudT ops T) T Q f (m.set i true).toArray a w) w0 Z R0 h0 a w R hh0 hn0 sr hgr st hpre ho fun s' a' w' R' hk sr' hg' st' hp' =>
  hk base Q w0 Z R0 h0 a' w' R' hM (by rw [← set_mark]; exact hcl.set hr') (by simpa using hsz) hh0 hn0 sr' hg' st' hp' q
 obtain ⟨v, hy, hK⟩ := yields_of_mOp ho hl hst
 refine wpM_first ho hl (Region.noSelect_spec hM.ns) f m.toArray a w (fun _ => hgr) hcl (by simpa using hsz) (Region.free_spec ho hf) hr' hy ?_
 rw [set_mark]
 exact hK
/-- The loud ones that may come up now: each of them. -/
theorem RunM.loud (L : List Nat) (hne : L ≠ []) (hl : loudLB ops T m L = true) (h : ∀ i ∈ L, ∃ o, ops[i]? = some o ∧ Op1 E ops T n0 i o s fun s' => RunM E ops T n0 f (m.set i true) s' K) : RunM E ops T n0 (f + 1) m s K := by
 intro base Q w0 Z R0 h0 a w R hM hcl hsz hh0 hn0 sr hgr st hpre q
 unfold loudLB at hl
 simp only [Bool.and_eq_true] at hl
 obtain ⟨h1, h2⟩ := hl
 have hr : ∀ i ∈ L, i ∈ Region.ready .any ops m.toArray ∧ Region.free .any ops m.toArray i = true := fun i hi => by
  have := List.all_eq_true.1 h1 i hi
  unfold readyB at this
  simp only [Bool.and_eq_true] at this
  exact ⟨by simpa using this.1, this.2⟩
 refine wpM_loudL (n := ops.size) L hne hM.tl (fun i hi => ⟨_, (h i hi).choose_spec.1⟩) (Region.noSelect_spec hM.ns) f m.toArray a w (fun j hj hjL hlj hun => ?_) hcl (by simpa using hsz) (fun _ => hgr) (fun i hi oi hoi => Region.free_spec hoi (hr i hi).2) (fun i hi => (hr i hi).1) fun i hi => ?_
 ·have := List.all_eq_true.1 h2 j (by simpa using hj)
  simp only [Bool.or_eq_true, Bool.not_eq_true', List.any_eq_true] at this
  rcases this with ((h3 | h3) | h3) | h3
  ·exact absurd (by simpa using h3) hjL
  ·rw [hlj] at h3; cases h3
  ·rw [hun] at h3; cases h3
  ·exact h3
 ·obtain ⟨o, ho, hop⟩ := h i hi
  rw [set_mark]
  exact hop base (fun a w => wpM E.P ops (fun w' => w0.grownBy w' none) (loudT ops T) T Q f (m.set i true).toArray a w) w0 Z R0 h0 a w R hh0 hn0 sr hgr st hpre ho fun s' a' w' R' hk sr' hg' st' hp' =>
   hk base Q w0 Z R0 h0 a' w' R' hM (by rw [← set_mark]; exact hcl.set (hr i hi).1) (by simpa using hsz) hh0 hn0 sr' hg' st' hp' q
/-- What is left stands in one order. -/
theorem RunM.tail (p : Nat) (hp : tailMB ops T p f m = true) (h : RunDX E ops T n0 p (ops.toList.drop p) s K) : RunM E ops T n0 f m s K := by
 intro base Q w0 Z R0 h0 a w R hM hcl hsz hh0 hn0 sr hgr st hpre q
 unfold tailMB at hp
 simp only [Bool.and_eq_true] at hp
 obtain ⟨⟨⟨h1, h2⟩, h3⟩, h4⟩ := hp
 have h1 := Nat.eq_of_beq_eq_true h1
 have hlen : (ops.toList.drop p).length = f := by simp; omega
 have hops : ∀ j, (ops.toList.drop p)[j]? = ops[p + j]? := fun j => by simp
 have := wpM_lexG hM.ns (n := ops.size) (k0 := p) (fun k j hk hks hj hlk hlj hkj => ?_) hM.tl hM.tT (ops.toList.drop p) p m.toArray a w (Nat.le_refl _) (by omega) hops (by rw [hlen]; exact h2) hcl (by simpa using hsz) (fun j hj => List.all_eq_true.1 h3 j (by simpa using hj)) (h base Q w0 Z R0 h0 a w R hh0 hn0 sr hgr st hpre hops q)
 ·rwa [hlen] at this
 ·have a1 := List.all_eq_true.1 h4 k (by simpa using hks)
  simp only [hlk, Nat.ble_eq_true_of_le hk, Bool.and_self, Bool.not_true, Bool.false_or] at a1
  have a2 := List.all_eq_true.1 a1 j (by simpa using hj)
  have hb : Nat.blt k j = true := Nat.ble_eq_true_of_le hkj
  simpa [hlj, hb] using a2
end
/-- As Op1, of an operation behind which nothing is read any more. -/
def OpZ (E : Env) (ops : Array Oper) (T k : Nat) (o : Oper) (s : St) (Ks : St → Prop) : Prop :=
 ∀ (base : Bs) (K : Act → World → Prop) (w0 : World) (Z : Nat → Prop) (a : Act) (w : World) (R : List RI), SR E base w Z R s a → w0.grownBy w none → ops[k]? = some o →
  (∀ s' a' w' Z' R', Ks s' → SR E base w' Z' R' s' a' → w0.grownBy w' none → StepW w Z R s.hp w' Z' R' s'.hp → K a' w') → mOp E.P ops (fun w' => w0.grownBy w' none) (loudT ops T) k K a w
def RunZ (E : Env) (ops : Array Oper) (T f : Nat) (m : List Bool) (s : St) (K : St → Prop) : Prop :=
 ∀ (base : Bs) (Q : Act → World → Prop) (w0 : World) (Z : Nat → Prop) (a : Act) (w : World) (R : List RI), MOk ops T → Closed ops m.toArray → m.length = ops.size → SR E base w Z R s a → w0.grownBy w none →
  (∀ s' a' w' Z' R', K s' → SR E base w' Z' R' s' a' → StepW w Z R s.hp w' Z' R' s'.hp → Q a' w') → wpM E.P ops (fun w' => w0.grownBy w' none) (loudT ops T) T Q f m.toArray a w
section
variable {E : Env} {cx : Cx} {ops : Array Oper} {s s1 : St} {K Ks : St → Prop} {n n0 f T i j k : Nat} {m : List Bool} {o o2 o3 : Oper} {l : List (Nat × AV)} {hp : Hp} {fid : FuncId}
theorem OpZ.d (hE : EnvOk E) (hW : isW o.op = false) (hLd : isLd o.op = false) (hk : k < T) (e : opsD E (evC E 0) ⟨none, false⟩ ops n0 [o] s = some s1) (kk : Ks s1) : OpZ E ops T k o s Ks := by
 intro base K w0 Z a w R sr hgr hok q
 have hkT : ¬ T ≤ k := by omega
 unfold mOp
 rw [hok]
 dsimp only
 unfold opsD at e
 rw [if_neg (by rw [hW]; simp)] at e
 split at e
 ·cases e
 ·next hw =>
  rw [if_neg (by rw [wantedA_eq sr hw]; simp)]
  injection e with e
  subst e
  exact q _ _ w Z R kk (sr.put undef_vr) hgr (StepW.refl _ _ _ _)
 ·next hw =>
  rw [if_pos (wantedA_eq sr hw)]
  have hρ : ∀ o x, opA E s.fr o = some x → VR w Z R x (a.eval o) := fun o x e => opA_vr sr o x e
  split at e
  ·next x hx =>
   split at e
   ·injection e with e
    subst e
    have hq := isQ_of hx
    rw [if_neg (by rw [loudT_q hok hq hkT]; simp)]
    obtain ⟨u, hu, hrun⟩ := evOpQ_sound sr.hh hρ hx
    exact ⟨u, (fun w' _ => hrun w' fun h => by rw [hLd] at h; cases h), q _ _ w Z R kk (sr.put hu) hgr (StepW.refl _ _ _ _)⟩
   ·cases e
  ·split at e
   ·next x h' hx =>
    injection e with e
    subst e
    have hq := isQ_of_N hx
    rw [if_pos (loudT_n hok hq)]
    obtain ⟨u, w', R', h1, h2, h3, h4, h5⟩ := evOpN_sound hρ sr.hh hx
    exact lw_val h1 (q _ _ w' Z R' kk ((sr.step h2 h4).put h3) (pu_trans hgr h5) h4.w)
   ·split at e
    ·next f args tys ho =>
     split at e
     ·next fv xs hf hxs =>
      split at e
      ·next r hr =>
       injection e with e
       subst e
       obtain ⟨x, h'⟩ := r
       have hq : isQ o.op = false := by rw [ho]; rfl
       rw [if_pos (loudT_n hok hq)]
       obtain ⟨g, uf, uc, hva, hcl, hret⟩ := callP_sound hE (code_sound hE 0).1 (hρ _ _ hf) (opds_vr hρ hxs) sr.hh sr.gl hr
       unfold Lw
       rw [run_call (uf := uf) (uc := uc) ho hva rfl hcl w]
       refine Ret.mono hret fun v w' hS => ?_
       obtain ⟨hg1, R', k1, k2, k3⟩ := hS
       exact q _ _ w' Z R' kk ((sr.step k1 k3).put k2) (pu_trans hgr hg1) k3.w
      ·cases e
     ·cases e
    ·cases e
theorem OpZ.seg (hE : EnvOk E) {s : St} (l : List (Nat × AV)) (hp : Hp) (hW : (!isW o.op && !isLd o.op && Nat.blt k T) = true) (h : segB (opsD E (evC E 0) ⟨none, false⟩ ops 0 [o] s) l = some (n, xs2 l, hp)) (kk : Ks ⟨Fr n l, hp⟩) : OpZ E ops T k o s Ks := by
 obtain ⟨fr, h1, h2, h3⟩ := segB_inv h
 simp only [Bool.and_eq_true, Bool.not_eq_true'] at hW
 intro base K w0 Z a w R sr hgr hok q
 exact OpZ.d (Ks := fun s => s = ⟨fr, hp⟩) hE hW.1.1 hW.1.2 (Nat.le_of_ble_eq_true hW.2) h1 rfl base K w0 Z a w R sr hgr hok fun s' a' w' Z' R' hs sr' hg' st' => by
  subst hs
  exact q _ a' w' Z' R' kk (sr'.forget h2 h3) hg' st'
theorem OpZ.one (hE : EnvOk E) (hW : (!isW o.op && !isLd o.op && Nat.blt k T) = true) (h : opsD E (evC E 0) ⟨none, false⟩ ops 0 [o] s = some s1) (kk : Ks s1) : OpZ E ops T k o s Ks := by
 simp only [Bool.and_eq_true, Bool.not_eq_true'] at hW
 exact OpZ.d hE hW.1.1 hW.1.2 (Nat.le_of_ble_eq_true hW.2) h kk
theorem OpZ.callV {α β : Type} {sc : Cs α} {F : α → Option β} {er : β → AV} {u : α} {v : β} (hP : E.P = E0.P) (hG : E.G = E0.G) (hX : XOk fid (told sc F er)) {caps xs : List AV} {d : Nat} {f : Operand} {args : Array Operand} {tys : Array TypeId} {ty : TypeId} {pos : String} {af : Array Edge} {g : Option (Nat × Bool)} (hr : o = ⟨some d, .call ⟨.value f, args, tys⟩, ty, pos, af, g⟩) (hw : wantedA ops (Fr n l) ⟨some d, .call ⟨.value f, args, tys⟩, ty, pos, af, g⟩ = some true)
  (hf : opA E (Fr n l) f = some (.fn fid [] caps)) (ha : opds (opA E (Fr n l)) args.toList = some xs) (hv : Sl 12 hp sc (xs ++ caps) u) (hok : flatTp (er v) = true ∨ (xs ++ caps).all noRf2 = true) (hF : F u = some v) (kk : Ks ⟨Fr n ((d, er v) :: l), hp⟩) : OpZ E ops T k o ⟨Fr n l, hp⟩ Ks := by
 subst hr
 intro base K w0 Z a w R sr hgr hko q
 have hq : isQ (.call ⟨.value f, args, tys⟩ : Op) = false := rfl
 unfold mOp
 rw [hko]
 dsimp only
 rw [if_pos (wantedA_eq sr hw), if_pos (loudT_n hko hq)]
 refine V_op hP hG hX sr hf ha hv hok hF fun x w' Z' k1 k2 k3 k4 k5 sr' => ?_
 exact q _ _ w' Z' R kk (by have := sr'.put (d := some d) k2; rwa [putA_Fr] at this) (pu_trans hgr k4) k3.w
theorem RunM.z (h : RunZ E ops T f m s K) : RunM E ops T n0 f m s K := fun base Q w0 Z _ _ a w R hM hcl hsz _ _ sr hgr st _ q => h base Q w0 Z a w R hM hcl hsz sr hgr fun s' a' w' Z' R' hK sr' st' => q s' a' w' Z' R' hK sr' (st.w.trans st')
theorem RunZ.q (i : Nat) (hq : (readyB ops m i && !loudT ops T i) = true) (ho : ops[i]? = some o) (h : OpZ E ops T i o s fun s' => RunZ E ops T f (m.set i true) s' K) : RunZ E ops T (f + 1) m s K := by
 intro base Q w0 Z a w R hM hcl hsz sr hgr q
 unfold readyB at hq
 simp only [Bool.and_eq_true, Bool.not_eq_true'] at hq
 obtain ⟨⟨hr, hf⟩, hl⟩ := hq
 have hr' : i ∈ Region.ready .any ops m.toArray := by simpa using hr
 have hst := h base (fun a w => wpM E.P ops (fun w' => w0.grownBy w' none) (loudT ops T) T Q f (m.set i true).toArray a w) w0 Z a w R sr hgr ho fun s' a' w' Z' R' hk sr' hg' st' =>
  hk base Q w0 Z' a' w' R' hM (by rw [← set_mark]; exact hcl.set hr') (by simpa using hsz) sr' hg' fun s2 a2 w2 Z2 R2 hK sr2 st2 => q s2 a2 w2 Z2 R2 hK sr2 (st'.trans st2)
 obtain ⟨v, hy, hK⟩ := yields_of_mOp ho hl hst
 refine wpM_first ho hl (Region.noSelect_spec hM.ns) f m.toArray a w (fun _ => hgr) hcl (by simpa using hsz) (Region.free_spec ho hf) hr' hy ?_
 rw [set_mark]
 exact hK
theorem RunZ.loud (L : List Nat) (hne : L ≠ []) (hl : loudLB ops T m L = true) (h : ∀ i ∈ L, ∃ o, ops[i]? = some o ∧ OpZ E ops T i o s fun s' => RunZ E ops T f (m.set i true) s' K) : RunZ E ops T (f + 1) m s K := by
 intro base Q w0 Z a w R hM hcl hsz sr hgr q
 unfold loudLB at hl
 simp only [Bool.and_eq_true] at hl
 obtain ⟨h1, h2⟩ := hl
 have hr : ∀ i ∈ L, i ∈ Region.ready .any ops m.toArray ∧ Region.free .any ops m.toArray i = true := fun i hi => by
  have := List.all_eq_true.1 h1 i hi
  unfold readyB at this
  simp only [Bool.and_eq_true] at this
  exact ⟨by simpa using this.1, this.2⟩
 refine wpM_loudL (n := ops.size) L hne hM.tl (fun i hi => ⟨_, (h i hi).choose_spec.1⟩) (Region.noSelect_spec hM.ns) f m.toArray a w (fun j hj hjL hlj hun => ?_) hcl (by simpa using hsz) (fun _ => hgr) (fun i hi oi hoi => Region.free_spec hoi (hr i hi).2) (fun i hi => (hr i hi).1) fun i hi => ?_
 ·have := List.all_eq_true.1 h2 j (by simpa using hj)
  simp only [Bool.or_eq_true, Bool.not_eq_true', List.any_eq_true] at this
  rcases this with ((h3 | h3) | h3) | h3
  ·exact absurd (by simpa using h3) hjL
  ·rw [hlj] at h3; cases h3
  ·rw [hun] at h3; cases h3
  ·exact h3
 ·obtain ⟨o, ho, hop⟩ := h i hi
  rw [set_mark]
  exact hop base (fun a w => wpM E.P ops (fun w' => w0.grownBy w' none) (loudT ops T) T Q f (m.set i true).toArray a w) w0 Z a w R sr hgr ho fun s' a' w' Z' R' hk sr' hg' st' =>
   hk base Q w0 Z' a' w' R' hM (by rw [← set_mark]; exact hcl.set (hr i hi).1) (by simpa using hsz) sr' hg' fun s2 a2 w2 Z2 R2 hK sr2 st2 => q s2 a2 w2 Z2 R2 hK sr2 (st'.trans st2)
theorem RunZ.l1 (i : Nat) (hl : loudLB ops T m [i] = true) (hi : ops[i]? = some o) (h : OpZ E ops T i o s fun s' => RunZ E ops T f (m.set i true) s' K) : RunZ E ops T (f + 1) m s K :=
 RunZ.loud [i] (by simp) hl fun x hx => by
  obtain rfl : x = i := by simpa using hx
  exact ⟨o, hi, h⟩
theorem RunZ.l2 (i j : Nat) (hl : loudLB ops T m [i, j] = true) (hi : ops[i]? = some o) (hj : ops[j]? = some o2) (h : OpZ E ops T i o s fun s' => RunZ E ops T f (m.set i true) s' K) (h2 : OpZ E ops T j o2 s fun s' => RunZ E ops T f (m.set j true) s' K) : RunZ E ops T (f + 1) m s K :=
 RunZ.loud [i, j] (by simp) hl fun x hx => by
  rcases (by simpa using hx : x = i ∨ x = j) with rfl | rfl
  ·exact ⟨o, hi, h⟩
  ·exact ⟨o2, hj, h2⟩
theorem RunZ.l3 (i j k : Nat) (hl : loudLB ops T m [i, j, k] = true) (hi : ops[i]? = some o) (hj : ops[j]? = some o2) (hk : ops[k]? = some o3) (h : OpZ E ops T i o s fun s' => RunZ E ops T f (m.set i true) s' K) (h2 : OpZ E ops T j o2 s fun s' => RunZ E ops T f (m.set j true) s' K) (h3 : OpZ E ops T k o3 s fun s' => RunZ E ops T f (m.set k true) s' K) : RunZ E ops T (f + 1) m s K :=
 RunZ.loud [i, j, k] (by simp) hl fun x hx => by
  rcases (by simpa using hx : x = i ∨ x = j ∨ x = k) with rfl | rfl | rfl
  ·exact ⟨o, hi, h⟩
  ·exact ⟨o2, hj, h2⟩
  ·exact ⟨o3, hk, h3⟩
theorem RunZ.wk (hw : Wk E s s1) (h : RunZ E ops T f m s1 K) : RunZ E ops T f m s K := fun base Q w0 Z a w R hM hcl hsz sr hgr q => by
 obtain ⟨Z', R', sr', st⟩ := hw base w Z R a sr
 exact h base Q w0 Z' a w R' hM hcl hsz sr' hgr fun s' a' w' Z2 R2 hK sr2 st2 => q s' a' w' Z2 R2 hK sr2 (st.trans st2)
/-- A state that is come to again and again. -/
theorem RunZ.cut {f' : Nat} {m' : List Bool} {s' : St} (h : RunZ E ops T f' m' s' K) (k : RunZ E ops T f' m' s' K → RunZ E ops T f m s K) : RunZ E ops T f m s K := k h
/-- The stores. -/
theorem RunZ.tail (hp : tailMB ops T T f m = true) (h : RunS E ops (ops.toList.drop T) s K) : RunZ E ops T f m s K := by
 intro base Q w0 Z a w R hM hcl hsz sr hgr q
 unfold tailMB at hp
 simp only [Bool.and_eq_true] at hp
 obtain ⟨⟨⟨h1, h2⟩, h3⟩, h4⟩ := hp
 have h1 := Nat.eq_of_beq_eq_true h1
 have hlen : (ops.toList.drop T).length = f := by simp; omega
 have hops : ∀ j, (ops.toList.drop T)[j]? = ops[T + j]? := fun j => by simp
 have := wpM_lexG (C := fun w' => w0.grownBy w' none) hM.ns (n := ops.size) (k0 := T) (fun k j hk hks hj hlk hlj hkj => ?_) hM.tl hM.tT (ops.toList.drop T) T m.toArray a w (Nat.le_refl _) (by omega) hops (by rw [hlen]; exact h2) hcl (by simpa using hsz) (fun j hj => List.all_eq_true.1 h3 j (by simpa using hj))
  (lwl_mix (h base Q a w Z R sr q) (Nat.le_refl _) (fun _ => hgr) (fun j hj => loudT_or (by omega)) hops)
 ·rwa [hlen] at this
 ·have a1 := List.all_eq_true.1 h4 k (by simpa using hks)
  simp only [hlk, Nat.ble_eq_true_of_le hk, Bool.and_self, Bool.not_true, Bool.false_or] at a1
  have a2 := List.all_eq_true.1 a1 j (by simpa using hj)
  have hb : Nat.blt k j = true := Nat.ble_eq_true_of_le hkj
  simpa [hlj, hb] using a2
end
/-- Every order of what is not free is gone through, in the world as it is. -/
def RunA (E : Env) (ops : Array Oper) (f : Nat) (m : List Bool) (s : St) (K : St → Prop) : Prop :=
 ∀ (base : Bs) (Q : Act → World → Prop) (a : Act) (w : World) (Z : Nat → Prop) (R : List RI), Region.noSelect ops = true → Closed ops m.toArray → m.length = ops.size → SR E base w Z R s a →
  (∀ s' a' w' Z' R', K s' → SR E base w' Z' R' s' a' → StepW w Z R s.hp w' Z' R' s'.hp → Q a' w') → wpM E.P ops (fun _ => True) (loudT ops 0) 0 Q f m.toArray a w
section
variable {E : Env} {cx : Cx} {ops : Array Oper} {s s1 : St} {K : St → Prop} {f i j : Nat} {m : List Bool} {Q : Ex → St → Prop} {id k : Nat} {o o2 o3 : Oper}
theorem loud0 {i : Nat} (h : loudT ops 0 i = false) : freeAt ops i = true := by
 unfold loudT at h
 simp only [Bool.or_eq_false_iff, Bool.and_eq_false_iff, Bool.not_eq_false'] at h
 rcases h.2 with h1 | h1
 ·cases h1
 ·exact h1
theorem tail0 (n : Nat) : TailOk ops (loudT ops 0) 0 n := fun j _ _ _ i _ hl hf => by rw [loud0 hl] at hf; cases hf
theorem RunA.q (i : Nat) (hq : (readyB ops m i && !loudT ops 0 i) = true) (ho : ops[i]? = some o) (h : RunS E ops [o] s fun s' => RunA E ops f (m.set i true) s' K) : RunA E ops (f + 1) m s K := by
 intro base Q a w Z R hns hcl hsz sr q
 unfold readyB at hq
 simp only [Bool.and_eq_true, Bool.not_eq_true'] at hq
 obtain ⟨⟨hr, hf⟩, hl⟩ := hq
 have hr' : i ∈ Region.ready .any ops m.toArray := by simpa using hr
 have hst := h base (fun a w => wpM E.P ops (fun _ => True) (loudT ops 0) 0 Q f (m.set i true).toArray a w) a w Z R sr fun s' a' w' Z' R' hk sr' st' =>
  hk base Q a' w' Z' R' hns (by rw [← set_mark]; exact hcl.set hr') (by simpa using hsz) sr' fun s2 a2 w2 Z2 R2 hK sr2 st2 => q s2 a2 w2 Z2 R2 hK sr2 (st'.trans st2)
 have hfr : isFree o = true := by have := loud0 hl; simpa [freeAt, ho] using this
 have hy : ∃ v, YieldsM E.P ops (fun _ => True) o v a ∧ wpM E.P ops (fun _ => True) (loudT ops 0) 0 Q f (m.set i true).toArray (a.put o.dst v) w := by
  unfold LwL at hst
  split at hst
  ·next hw =>
   obtain ⟨u, h1, h2⟩ := hst
   exact ⟨u, .inl ⟨hw, fun w' _ => h1 w'⟩, h2⟩
  ·next hw => exact ⟨undef, .inr ⟨by simpa using hw, rfl⟩, hst⟩
 obtain ⟨v, hy, hK⟩ := hy
 refine wpM_first ho hl (Region.noSelect_spec hns) f m.toArray a w (fun _ => trivial) hcl (by simpa using hsz) (Region.free_spec ho hf) hr' hy ?_
 rw [set_mark]
 exact hK
theorem RunA.loud (L : List Nat) (hne : L ≠ []) (hl : (loudLB ops 0 m L && L.all fun i => !freeAt ops i) = true) (h : ∀ i ∈ L, ∃ o, ops[i]? = some o ∧ RunS E ops [o] s fun s' => RunA E ops f (m.set i true) s' K) : RunA E ops (f + 1) m s K := by
 intro base Q a w Z R hns hcl hsz sr q
 simp only [Bool.and_eq_true] at hl
 obtain ⟨hl, hfr⟩ := hl
 unfold loudLB at hl
 simp only [Bool.and_eq_true] at hl
 obtain ⟨h1, h2⟩ := hl
 have hr : ∀ i ∈ L, i ∈ Region.ready .any ops m.toArray ∧ Region.free .any ops m.toArray i = true := fun i hi => by
  have := List.all_eq_true.1 h1 i hi
  unfold readyB at this
  simp only [Bool.and_eq_true] at this
  exact ⟨by simpa using this.1, this.2⟩
 refine wpM_loudL (n := ops.size) L hne (tail0 _) (fun i hi => ⟨_, (h i hi).choose_spec.1⟩) (Region.noSelect_spec hns) f m.toArray a w (fun j hj hjL hlj hun => ?_) hcl (by simpa using hsz) (fun _ => trivial) (fun i hi oi hoi => Region.free_spec hoi (hr i hi).2) (fun i hi => (hr i hi).1) fun i hi => ?_
 ·have := List.all_eq_true.1 h2 j (by simpa using hj)
  simp only [Bool.or_eq_true, Bool.not_eq_true', List.any_eq_true] at this
  rcases this with ((h3 | h3) | h3) | h3
  ·exact absurd (by simpa using h3) hjL
  ·rw [hlj] at h3; cases h3
  ·rw [hun] at h3; cases h3
  ·exact h3
 ·obtain ⟨o, ho, hop⟩ := h i hi
  have hfi : freeAt ops i = false := by simpa using List.all_eq_true.1 hfr i hi
  have hli : loudT ops 0 i = true := by
   cases hh : loudT ops 0 i with
   | true => rfl
   | false => rw [loud0 hh] at hfi; cases hfi
  have hfo : isFree o = false := by simpa [freeAt, ho] using hfi
  rw [set_mark]
  have hst := hop base (fun a w => wpM E.P ops (fun _ => True) (loudT ops 0) 0 Q f (m.set i true).toArray a w) a w Z R sr fun s' a' w' Z' R' hk sr' st' =>
   hk base Q a' w' Z' R' hns (by rw [← set_mark]; exact hcl.set (hr i hi).1) (by simpa using hsz) sr' fun s2 a2 w2 Z2 R2 hK sr2 st2 => q s2 a2 w2 Z2 R2 hK sr2 (st'.trans st2)
  unfold mOp
  rw [ho]
  dsimp only
  unfold LwL at hst
  split at hst
  ·next hw =>
   rw [if_pos hw, if_pos hli]
   rw [hfo] at hst
   exact hst
  ·next hw => rw [if_neg hw]; exact hst
theorem RunS.only {n : Nat} (hE : EnvOk E) {s : St} (l : List (Nat × AV)) (hp : Hp) (h : segB (opsA E (evC E 0) ⟨none, false⟩ ops [o] s) l = some (n, xs2 l, hp)) (k : K ⟨Fr n l, hp⟩) : RunS E ops [o] s K :=
 RunS.segF (rest := [o]) hE 1 l hp h (RunS.done rfl k)
theorem RunA.done (h : (Region.ready .any ops m.toArray).isEmpty = true) (kk : K s) : RunA E ops 0 m s K := fun base Q a w Z R _ _ _ sr q =>
 ⟨fun _ => trivial, by simpa using h, q s a w Z R kk sr (StepW.refl _ _ _ _)⟩
end
noncomputable def cb_slices_Clone_string_string : Code := codeOf Tryz.f99
def ob_slices_Clone_string_string (xs : List (List UInt8)) : Option Blk := some ⟨1, 9, xs.map cdS.enc, false⟩
set_option maxRecDepth 100000 in
theorem cs_slices_Clone_string_string_sem (xs : List (List UInt8)) (hc : capOk 16 xs.length = true) : Sem E0 ⟨none, false⟩ cb_slices_Clone_string_string ⟨Fr 8 [(0, .sl 1 (xs.map cdS.enc))], []⟩ fun e s' => (e = .normal ∨ e = .ret) ∧ ((xs = [] ∧ s' = ⟨Fr 8 [(2, .e0)], []⟩) ∨ s' = ⟨Fr 8 [(2, .rf 0 0 xs.length xs.length)], [ob_slices_Clone_string_string xs]⟩) := by
 refine Sem.seq ?_
 refine Sem.runS (s1 := ⟨Fr 8 [(0, .sl 1 (xs.map cdS.enc)), (2, .e0)], []⟩) ?_ ?_
 ·refine RunS.seg E0_ok 1 (s1 := ⟨Fr 8 [(0, .sl 1 (xs.map cdS.enc)), (2, .e0)], []⟩) (by kernel_rfl) ?_
  exact RunS.done rfl Wk.f1
 refine Sem.seq ?_
 refine Sem.seq (Sem.runQ ?_)
 refine RunS.seg E0_ok 1 (s1 := ⟨Fr 8 [(0, .sl 1 (xs.map cdS.enc)), (2, .e0), (3, .sl 1 (xs.map cdS.enc))], []⟩) (by kernel_rfl) ?_
 refine RunS.isnil (k := 1) (el := 9) (es := xs.map cdS.enc) rfl (wantedA_none rfl) (by kernel_rfl) (by kernel_rfl) fun b hb => RunS.done rfl ?_
 have hb : b = true → xs = [] := fun h => List.map_eq_nil_iff.1 (hb h)
 refine Sem.cond (b := b) (by kernel_rfl) (fun hb1 => ?_) (fun hb1 => ?_)
 ·have hx := hb hb1
  refine Sem.wkQ ?_
  refine Sem.seq (Sem.runS (s1 := ⟨Fr 8 [(2, .e0)], []⟩) ?_ (Sem.ret ?_))
  ·refine RunS.seg E0_ok 1 (s1 := ⟨Fr 8 [(0, .sl 1 (xs.map cdS.enc)), (2, .e0), (3, .sl 1 (xs.map cdS.enc)), (4, .v (.bool b))], []⟩) (by kernel_rfl) ?_
   exact RunS.done rfl Wk.f1
  ·exact ⟨_, Wk.refl, .inr rfl, .inl ⟨hx, rfl⟩⟩
 ·refine Sem.skip ?_
  refine Sem.wkQ (Sem.seq (Sem.runQ ?_))
  refine RunS.seg E0_ok 2 (s1 := ⟨Fr 8 [(0, .sl 1 (xs.map cdS.enc)), (2, .e0), (3, .sl 1 (xs.map cdS.enc)), (4, .v (.bool b)), (5, .rf 0 0 0 0), (6, .sl 1 (xs.map cdS.enc))], [ob_slices_Clone_string_string []]⟩) (by kernel_rfl) ?_
  cases xs with
  | nil =>
   refine RunS.one E0_ok 0 rfl (op_w (x := .rf 0 0 0 0) (hp' := [ob_slices_Clone_string_string []]) (wantedA_none rfl) rfl (by kernel_rfl) (by kernel_rfl) (by kernel_rfl)) ?_
   refine RunS.seg E0_ok 1 (s1 := ⟨Fr 8 [(0, .sl 1 []), (2, .rf 0 0 0 0), (3, .sl 1 []), (4, .v (.bool b)), (5, .rf 0 0 0 0), (6, .sl 1 []), (7, .rf 0 0 0 0)], [ob_slices_Clone_string_string []]⟩) (by kernel_rfl) (RunS.done rfl (Sem.ret ?_))
   exact ⟨⟨Fr 8 [(2, .rf 0 0 0 0)], [ob_slices_Clone_string_string []]⟩, Wk.f1, .inr rfl, .inr rfl⟩
  | cons y ys =>
   refine RunS.one E0_ok 0 rfl (op_w (wantedA_none rfl) rfl (by kernel_rfl) (by kernel_rfl) (w_append (a := .rf 0 0 0 0) (b := .sl 1 ((y :: ys).map cdS.enc)) (by kernel_rfl) (by kernel_rfl) (append_R (c := cdS) (xs := []) (vs := y :: ys) (k := 1) (bytes := 16) (el := 9) (by kernel_rfl) (by kernel_rfl) elems_sl (List.cons_ne_nil _ _) (by kernel_rfl) (by rw [List.length_nil, Nat.zero_add]; exact hc)))) ?_
   refine RunS.seg E0_ok 1 (s1 := ⟨Fr 8 [(0, .sl 1 ((y :: ys).map cdS.enc)), (2, .rf 1 0 (y :: ys).length (y :: ys).length), (3, .sl 1 ((y :: ys).map cdS.enc)), (4, .v (.bool b)), (5, .rf 0 0 0 0), (6, .sl 1 ((y :: ys).map cdS.enc)), (7, .rf 1 0 (y :: ys).length (y :: ys).length)], [none, ob_slices_Clone_string_string (y :: ys)]⟩) (by kernel_rfl) (RunS.done rfl (Sem.ret ?_))
   exact ⟨⟨Fr 8 [(2, .rf 0 0 (y :: ys).length (y :: ys).length)], [ob_slices_Clone_string_string (y :: ys)]⟩, Wk.s3 [1] ⟨⟨_, rfl, bu_own⟩, trivial⟩ ⟨lv, trivial⟩, .inr rfl, .inr rfl⟩
def Out_slices_Clone_string_string (xs : List (List UInt8)) (x : AV) (h' : Hp) : Prop := (xs = [] ∧ x = .e0 ∧ h' = []) ∨ (x = .rf 0 0 xs.length xs.length ∧ h' = [ob_slices_Clone_string_string xs])
theorem s_slices_Clone_string_string (xs : List (List UInt8)) (hc : capOk 16 xs.length = true) : SOk 99 [.sl 1 (xs.map cdS.enc)] (Out_slices_Clone_string_string xs) := by
 refine sok_of_sem E0_ok rfl rfl (fn := Tryz.f99) (c := cb_slices_Clone_string_string) (by kernel_rfl) (by kernel_rfl) ⟨Tryz.call99⟩ (by show 1 ≤ 8; decide) (Sem.mono (cs_slices_Clone_string_string_sem xs hc) ?_)
 rintro e s' ⟨he, ⟨hx, rfl⟩ | rfl⟩
 ·exact ⟨he, [.e0], by kernel_rfl, .inl ⟨hx, rfl, rfl⟩⟩
 ·exact ⟨he, [.rf 0 0 xs.length xs.length], by kernel_rfl, .inr ⟨rfl, rfl⟩⟩
theorem fl_slices_Clone_string_string {xs : List (List UInt8)} : ∀ x h', Out_slices_Clone_string_string xs x h' → ownFlat x = true ∧ flatH h' = true := by
 rintro x h' (⟨_, rfl, rfl⟩ | ⟨rfl, rfl⟩)
 ·exact ⟨rfl, rfl⟩
 ·refine ⟨rfl, ?_⟩
  show (!false && (xs.map cdS.enc).all isFlat && true) = true
  have : (xs.map cdS.enc).all isFlat = true := by
   rw [List.all_eq_true]
   intro x hx
   obtain ⟨y, _, rfl⟩ := List.mem_map.1 hx
   rfl
  rw [this]; rfl
def cs_slices_Clone_string_string : Cs (List (List UInt8) × Unit) := csC (cdL 1 cdS) csN
/- trestle/trestlelaw03.Copy -/
noncomputable def cb_law03_Copy : Code := codeOf Tryz.f51
def law03_Copy_l1 (x0 : (List Clause)) : Nat → (List Clause) → Int → Option (((List Clause)))
 | 0, _, _ => none
 | f + 1, c1, c2 =>
  if (decide (c2 < (x0.length : Int))) = true then
  (idx x0 c2).bind fun v4 =>
  if (capOk 16 v4.2.2.2.1.length) = true then
  if (capOk 16 (v4.2.2.2.1.length + 1)) = true then
  if (cutOk 0 (v4.2.2.2.1.length : Int) (v4.2.2.2.1 ++ [[115, 112, 97, 114, 101]]).length) = true then
  if (capOk 64 (c1.length + 1)) = true then
  law03_Copy_l1 x0 f (c1 ++ [(v4.1, v4.2.1, v4.2.2.1, ((v4.2.2.2.1 ++ [[115, 112, 97, 114, 101]]).take ((v4.2.2.2.1.length : Int).toNat)), v4.2.2.2.2)]) (wr .i64 (c2 + 1))
  else none
  else none
  else none
  else none
  else
  some c1
def law03_Copy (x0 : (List Clause)) : Option ((List Clause)) :=
 (law03_Copy_l1 x0 100000 [] 0).bind fun r17 =>
 some r17
def cs_law03_Copy : Cs ((List Clause) × Unit) := (csC (cdL 5 cdClause) csN)
def er_law03_Copy (r : (List Clause)) : AV := (cdL 5 cdClause).enc r
theorem law03_Copy_l1_ok (x0 : (List Clause)) : ∀ (f : Nat) (c1 : (List Clause)) (c2 : Int) (r : ((List Clause))), law03_Copy_l1 x0 f c1 c2 = some r → SemN E0 ⟨none, false⟩ (pc cb_law03_Copy [1, 1, 0, 1, 0, 0]) f ⟨Fr 28 [(3, hd 0 (c1.map cdClause.enc)), (6, .sl 5 (x0.map cdClause.enc)), (7, .v (.int .i64 (x0.length : Int))), (8, .v (.int .i64 c2))], [mk 5 70 (c1.map cdClause.enc)]⟩ (fun e s => e = (.exit 0) ∧ Wk E0 s ⟨Fr 28 [(3, hd 0 (r.map cdClause.enc))], [mk 5 70 (r.map cdClause.enc)]⟩) := by
 intro f
 induction f with
 | zero => intro c1 c2 r h; cases h
 | succ f ih0 =>
  intro c1 c2 r h
  have ih := fun (c1 : (List Clause)) (c2 : Int) => ih0 c1 c2 r
  unfold law03_Copy_l1 at h
  refine SemN.succ ?_
  refine Sem.sq E0_ok [(3, hd 0 (c1.map cdClause.enc)), (6, .sl 5 (x0.map cdClause.enc)), (7, .v (.int .i64 (x0.length : Int))), (8, .v (.int .i64 c2)), (9, .v (.bool (decide (c2 < (x0.length : Int)))))] [mk 5 70 (c1.map cdClause.enc)] ?_
  refine Sem.seq ?_
  refine Sem.cond (b := (decide (c2 < (x0.length : Int)))) kr (fun hb3 => ?_) (fun hb3 => ?_)
  ·rw [if_pos hb3] at h
   refine Sem.skip ?_
   refine Sem.seq ?_
   refine Sem.block ?_
   refine Sem.seq ?_
   obtain ⟨v4, hv4, h⟩ := Option.bind_eq_some_iff.1 h
   refine Sem.runS (s1 := ⟨Fr 28 [(3, hd 0 (c1.map cdClause.enc)), (5, .pt 1 0 0), (6, .sl 5 (x0.map cdClause.enc)), (7, .v (.int .i64 (x0.length : Int))), (8, .v (.int .i64 c2))], [mk 5 70 (c1.map cdClause.enc), some ⟨5, 70, [.ag [.v (.int .u8 v4.1), .st v4.2.1, .v (.bool v4.2.2.1), .sl 1 (v4.2.2.2.1.map cdS.enc), .v (.int .i64 v4.2.2.2.2)]], false⟩]⟩) ?_ ?_
   ·refine RunS.one E0_ok 0 rfl (op_q (wantedA_none rfl) rfl (q_indexAddr (a := .sl 5 (x0.map cdClause.enc)) (b := .v (.int .i64 c2)) kr kr (ix_sl (e := cdClause.enc) (el := 70) (k := 5) (ki := .i64) kr kr hv4))) ?_
    exact RunS.last E0_ok
   refine Sem.seq ?_
   by_cases hk5 : (capOk 16 v4.2.2.2.1.length) = true
   case neg => rw [if_neg hk5] at h; cases h
   rw [if_pos hk5] at h
   by_cases hk6 : (capOk 16 (v4.2.2.2.1.length + 1)) = true
   case neg => rw [if_neg hk6] at h; cases h
   rw [if_pos hk6] at h
   by_cases hk7 : (cutOk 0 (v4.2.2.2.1.length : Int) (v4.2.2.2.1 ++ [[115, 112, 97, 114, 101]]).length) = true
   case neg => rw [if_neg hk7] at h; cases h
   rw [if_pos hk7] at h
   refine Sem.runDP (s1 := ⟨Fr 28 [(3, hd 0 (c1.map cdClause.enc)), (5, .pt 1 0 0), (6, .sl 5 (x0.map cdClause.enc)), (7, .v (.int .i64 (x0.length : Int))), (8, .v (.int .i64 c2))], [mk 5 70 (c1.map cdClause.enc), some ⟨5, 70, [.ag [.v (.int .u8 v4.1), .st v4.2.1, .v (.bool v4.2.2.1), .rf 2 0 ((v4.2.2.2.1.length : Int).toNat) ((v4.2.2.2.1 ++ [[115, 112, 97, 114, 101]]).length), .v (.int .i64 v4.2.2.2.2)]], false⟩, some ⟨1, 9, ((v4.2.2.2.1 ++ [[115, 112, 97, 114, 101]]).map cdS.enc), false⟩]⟩) E0_ok 10 2 kr kr ?_ ?_
   ·refine RunDP.segF (n := 28) E0_ok 2 [(3, hd 0 (c1.map cdClause.enc)), (5, .pt 1 0 0), (6, .sl 5 (x0.map cdClause.enc)), (7, .v (.int .i64 (x0.length : Int))), (8, .v (.int .i64 c2)), (13, .sl 1 (v4.2.2.2.1.map cdS.enc))] [mk 5 70 (c1.map cdClause.enc), some ⟨5, 70, [.ag [.v (.int .u8 v4.1), .st v4.2.1, .v (.bool v4.2.2.1), .sl 1 (v4.2.2.2.1.map cdS.enc), .v (.int .i64 v4.2.2.2.2)]], false⟩] kr kr ?_
    refine RunDP.two rfl ?_ ?_
    ·refine Op1.callS rfl rfl (s_slices_Clone_string_string v4.2.2.2.1 hk5) rfl (wantedA_none rfl) kr (xs := [.sl 1 (v4.2.2.2.1.map cdS.enc)]) kr kr fl_slices_Clone_string_string ?_
     rintro x h' (⟨hx, rfl, rfl⟩ | ⟨rfl, rfl⟩)
     ·rw [hx]
      refine Op1.seg (n := 28) E0_ok [(3, hd 0 (c1.map cdClause.enc)), (5, .pt 1 0 0), (6, .sl 5 (x0.map cdClause.enc)), (7, .v (.int .i64 (x0.length : Int))), (8, .v (.int .i64 c2)), (13, .sl 1 (([] : List (List UInt8)).map cdS.enc)), (14, .e0), (15, hd 2 ([[115, 112, 97, 114, 101]].map cdS.enc))] [mk 5 70 (c1.map cdClause.enc), some ⟨5, 70, [.ag [.v (.int .u8 v4.1), .st v4.2.1, .v (.bool v4.2.2.1), .sl 1 (([] : List (List UInt8)).map cdS.enc), .v (.int .i64 v4.2.2.2.2)]], false⟩, mk 1 9 ([[115, 112, 97, 114, 101]].map cdS.enc)] kr kr ?_
      refine RunDX.append E0_ok rfl (wantedA_none rfl) rfl rfl (w_append (a := .e0) (b := hd 2 ([[115, 112, 97, 114, 101]].map cdS.enc)) kr kr (append_E (c := cdS) (vs := [[115, 112, 97, 114, 101]]) (k := 1) (bytes := 16) (el := 9) kr kr (elems_hd (t := 9) kr) (List.cons_ne_nil _ _) kr)) (w_append (a := .e0) (b := hd 2 ([[115, 112, 97, 114, 101]].map cdS.enc)) kr kr (append_E (c := cdS) (vs := [[115, 112, 97, 114, 101]]) (k := 1) (bytes := 16) (el := 9) kr kr (elems_hd (t := 9) kr) (List.cons_ne_nil _ _) kr)) kr ?_
      refine RunDX.segF (n := 28) E0_ok 2 [(3, hd 0 (c1.map cdClause.enc)), (5, .pt 1 0 0), (6, .sl 5 (x0.map cdClause.enc)), (7, .v (.int .i64 (x0.length : Int))), (8, .v (.int .i64 c2)), (16, hd 3 ([[115, 112, 97, 114, 101]].map cdS.enc)), (18, .sl 1 (([] : List (List UInt8)).map cdS.enc))] [mk 5 70 (c1.map cdClause.enc), some ⟨5, 70, [.ag [.v (.int .u8 v4.1), .st v4.2.1, .v (.bool v4.2.2.1), .sl 1 (([] : List (List UInt8)).map cdS.enc), .v (.int .i64 v4.2.2.2.2)]], false⟩, mk 1 9 ([[115, 112, 97, 114, 101]].map cdS.enc), mk 1 9 ([[115, 112, 97, 114, 101]].map cdS.enc)] kr kr ?_
      refine RunDX.one E0_ok rfl kr (opd_q kr (wantedA_none rfl) rfl (q_len (a := .sl 1 (([] : List (List UInt8)).map cdS.enc)) kr (len_sl (el := 9) kr)) kr) ?_
      refine RunDX.segF (n := 28) E0_ok 2 [(3, hd 0 (c1.map cdClause.enc)), (5, .pt 1 0 0), (6, .sl 5 (x0.map cdClause.enc)), (7, .v (.int .i64 (x0.length : Int))), (8, .v (.int .i64 c2)), (20, .rf 3 0 0 1), (21, .pt 1 0 3)] [mk 5 70 (c1.map cdClause.enc), some ⟨5, 70, [.ag [.v (.int .u8 v4.1), .st v4.2.1, .v (.bool v4.2.2.1), .sl 1 (([] : List (List UInt8)).map cdS.enc), .v (.int .i64 v4.2.2.2.2)]], false⟩, mk 1 9 ([[115, 112, 97, 114, 101]].map cdS.enc), mk 1 9 ([[115, 112, 97, 114, 101]].map cdS.enc)] kr kr ?_
      refine RunDX.tail rfl ?_
      refine RunS.segF (n := 28) E0_ok 1 [(3, hd 0 (c1.map cdClause.enc)), (5, .pt 1 0 0), (6, .sl 5 (x0.map cdClause.enc)), (7, .v (.int .i64 (x0.length : Int))), (8, .v (.int .i64 c2))] [mk 5 70 (c1.map cdClause.enc), some ⟨5, 70, [.ag [.v (.int .u8 v4.1), .st v4.2.1, .v (.bool v4.2.2.1), .rf 3 0 0 1, .v (.int .i64 v4.2.2.2.2)]], false⟩, mk 1 9 ([[115, 112, 97, 114, 101]].map cdS.enc), mk 1 9 ([[115, 112, 97, 114, 101]].map cdS.enc)] kr ?_
      exact RunS.done rfl (Wk.sel2 [0, 1, 3] kr kr kr ⟨⟨_, rfl, bu_mk⟩, ⟨_, rfl, bu_c kr kr⟩, ⟨_, rfl, bu_own⟩, trivial⟩ ⟨lu_hd (b' := 0) kr kr, lu kr kr, lu kr kr, lu kr kr, lu kr kr, trivial⟩)
     ·refine Op1.seg (n := 28) E0_ok [(3, hd 0 (c1.map cdClause.enc)), (5, .pt 1 0 0), (6, .sl 5 (x0.map cdClause.enc)), (7, .v (.int .i64 (x0.length : Int))), (8, .v (.int .i64 c2)), (13, .sl 1 (v4.2.2.2.1.map cdS.enc)), (14, .rf 2 0 v4.2.2.2.1.length v4.2.2.2.1.length), (15, hd 3 ([[115, 112, 97, 114, 101]].map cdS.enc))] [mk 5 70 (c1.map cdClause.enc), some ⟨5, 70, [.ag [.v (.int .u8 v4.1), .st v4.2.1, .v (.bool v4.2.2.1), .sl 1 (v4.2.2.2.1.map cdS.enc), .v (.int .i64 v4.2.2.2.2)]], false⟩, some ⟨1, 9, (v4.2.2.2.1.map cdS.enc), false⟩, mk 1 9 ([[115, 112, 97, 114, 101]].map cdS.enc)] kr kr ?_
      refine RunDX.append E0_ok rfl (wantedA_none rfl) rfl rfl (w_append (a := .rf 2 0 v4.2.2.2.1.length v4.2.2.2.1.length) (b := hd 3 ([[115, 112, 97, 114, 101]].map cdS.enc)) kr kr (append_R (c := cdS) (xs := v4.2.2.2.1) (vs := [[115, 112, 97, 114, 101]]) (k := 1) (bytes := 16) (el := 9) kr kr (elems_hd (t := 9) kr) (List.cons_ne_nil _ _) kr hk6)) (w_append (a := .rf 2 0 v4.2.2.2.1.length v4.2.2.2.1.length) (b := hd 3 ([[115, 112, 97, 114, 101]].map cdS.enc)) kr kr (append_R (c := cdS) (xs := v4.2.2.2.1) (vs := [[115, 112, 97, 114, 101]]) (k := 1) (bytes := 16) (el := 9) kr kr (elems_hd (t := 9) kr) (List.cons_ne_nil _ _) kr hk6)) kr ?_
      refine RunDX.segF (n := 28) E0_ok 2 [(3, hd 0 (c1.map cdClause.enc)), (5, .pt 1 0 0), (6, .sl 5 (x0.map cdClause.enc)), (7, .v (.int .i64 (x0.length : Int))), (8, .v (.int .i64 c2)), (16, .rf 4 0 (v4.2.2.2.1 ++ [[115, 112, 97, 114, 101]]).length (v4.2.2.2.1 ++ [[115, 112, 97, 114, 101]]).length), (18, .sl 1 (v4.2.2.2.1.map cdS.enc))] [mk 5 70 (c1.map cdClause.enc), some ⟨5, 70, [.ag [.v (.int .u8 v4.1), .st v4.2.1, .v (.bool v4.2.2.1), .sl 1 (v4.2.2.2.1.map cdS.enc), .v (.int .i64 v4.2.2.2.2)]], false⟩, none, mk 1 9 ([[115, 112, 97, 114, 101]].map cdS.enc), some ⟨1, 9, ((v4.2.2.2.1 ++ [[115, 112, 97, 114, 101]]).map cdS.enc), false⟩] kr kr ?_
      refine RunDX.one E0_ok rfl kr (opd_q kr (wantedA_none rfl) rfl (q_len (a := .sl 1 (v4.2.2.2.1.map cdS.enc)) kr (len_sl (el := 9) kr)) kr) ?_
      refine RunDX.one E0_ok rfl kr (opd_q kr (wantedA_none rfl) rfl (q_slice (a := .rf 4 0 (v4.2.2.2.1 ++ [[115, 112, 97, 114, 101]]).length (v4.2.2.2.1 ++ [[115, 112, 97, 114, 101]]).length) (l := none) (u := (some (.v (.int .i64 (v4.2.2.2.1.length : Int))))) (m := none) kr kr kr rfl (slice_rl (xs := (v4.2.2.2.1 ++ [[115, 112, 97, 114, 101]])) (e := cdS.enc) (t' := 9) (k := 1) (el := 9) kr kr kr hk7 (by simp))) kr) ?_
      refine RunDX.segF (n := 28) E0_ok 1 [(3, hd 0 (c1.map cdClause.enc)), (5, .pt 1 0 0), (6, .sl 5 (x0.map cdClause.enc)), (7, .v (.int .i64 (x0.length : Int))), (8, .v (.int .i64 c2)), (20, .rf 4 0 ((v4.2.2.2.1.length : Int).toNat) ((v4.2.2.2.1 ++ [[115, 112, 97, 114, 101]]).length)), (21, .pt 1 0 3)] [mk 5 70 (c1.map cdClause.enc), some ⟨5, 70, [.ag [.v (.int .u8 v4.1), .st v4.2.1, .v (.bool v4.2.2.1), .sl 1 (v4.2.2.2.1.map cdS.enc), .v (.int .i64 v4.2.2.2.2)]], false⟩, none, mk 1 9 ([[115, 112, 97, 114, 101]].map cdS.enc), some ⟨1, 9, ((v4.2.2.2.1 ++ [[115, 112, 97, 114, 101]]).map cdS.enc), false⟩] kr kr ?_
      refine RunDX.tail rfl ?_
      refine RunS.segF (n := 28) E0_ok 1 [(3, hd 0 (c1.map cdClause.enc)), (5, .pt 1 0 0), (6, .sl 5 (x0.map cdClause.enc)), (7, .v (.int .i64 (x0.length : Int))), (8, .v (.int .i64 c2))] [mk 5 70 (c1.map cdClause.enc), some ⟨5, 70, [.ag [.v (.int .u8 v4.1), .st v4.2.1, .v (.bool v4.2.2.1), .rf 4 0 ((v4.2.2.2.1.length : Int).toNat) ((v4.2.2.2.1 ++ [[115, 112, 97, 114, 101]]).length), .v (.int .i64 v4.2.2.2.2)]], false⟩, none, mk 1 9 ([[115, 112, 97, 114, 101]].map cdS.enc), some ⟨1, 9, ((v4.2.2.2.1 ++ [[115, 112, 97, 114, 101]]).map cdS.enc), false⟩] kr ?_
      exact RunS.done rfl (Wk.sel2 [0, 1, 4] kr kr kr ⟨⟨_, rfl, bu_mk⟩, ⟨_, rfl, bu_c kr kr⟩, ⟨_, rfl, bu_own⟩, trivial⟩ ⟨lu_hd (b' := 0) kr kr, lu kr kr, lu kr kr, lu kr kr, lu kr kr, trivial⟩)
    ·refine Op1.seg (n := 28) E0_ok [(3, hd 0 (c1.map cdClause.enc)), (5, .pt 1 0 0), (6, .sl 5 (x0.map cdClause.enc)), (7, .v (.int .i64 (x0.length : Int))), (8, .v (.int .i64 c2)), (13, .sl 1 (v4.2.2.2.1.map cdS.enc)), (15, hd 2 ([[115, 112, 97, 114, 101]].map cdS.enc))] [mk 5 70 (c1.map cdClause.enc), some ⟨5, 70, [.ag [.v (.int .u8 v4.1), .st v4.2.1, .v (.bool v4.2.2.1), .sl 1 (v4.2.2.2.1.map cdS.enc), .v (.int .i64 v4.2.2.2.2)]], false⟩, mk 1 9 ([[115, 112, 97, 114, 101]].map cdS.enc)] kr kr ?_
     have hk10 := hk5
     refine Op1.callS rfl rfl (s_slices_Clone_string_string v4.2.2.2.1 hk10) rfl (wantedA_none rfl) kr (xs := [.sl 1 (v4.2.2.2.1.map cdS.enc)]) kr kr fl_slices_Clone_string_string ?_
     rintro x h' (⟨hx, rfl, rfl⟩ | ⟨rfl, rfl⟩)
     ·rw [hx]
      refine RunDX.append E0_ok rfl (wantedA_none rfl) rfl rfl (w_append (a := .e0) (b := hd 2 ([[115, 112, 97, 114, 101]].map cdS.enc)) kr kr (append_E (c := cdS) (vs := [[115, 112, 97, 114, 101]]) (k := 1) (bytes := 16) (el := 9) kr kr (elems_hd (t := 9) kr) (List.cons_ne_nil _ _) kr)) (w_append (a := .e0) (b := hd 2 ([[115, 112, 97, 114, 101]].map cdS.enc)) kr kr (append_E (c := cdS) (vs := [[115, 112, 97, 114, 101]]) (k := 1) (bytes := 16) (el := 9) kr kr (elems_hd (t := 9) kr) (List.cons_ne_nil _ _) kr)) kr ?_
      refine RunDX.segF (n := 28) E0_ok 2 [(3, hd 0 (c1.map cdClause.enc)), (5, .pt 1 0 0), (6, .sl 5 (x0.map cdClause.enc)), (7, .v (.int .i64 (x0.length : Int))), (8, .v (.int .i64 c2)), (16, hd 3 ([[115, 112, 97, 114, 101]].map cdS.enc)), (18, .sl 1 (([] : List (List UInt8)).map cdS.enc))] [mk 5 70 (c1.map cdClause.enc), some ⟨5, 70, [.ag [.v (.int .u8 v4.1), .st v4.2.1, .v (.bool v4.2.2.1), .sl 1 (([] : List (List UInt8)).map cdS.enc), .v (.int .i64 v4.2.2.2.2)]], false⟩, mk 1 9 ([[115, 112, 97, 114, 101]].map cdS.enc), mk 1 9 ([[115, 112, 97, 114, 101]].map cdS.enc)] kr kr ?_
      refine RunDX.one E0_ok rfl kr (opd_q kr (wantedA_none rfl) rfl (q_len (a := .sl 1 (([] : List (List UInt8)).map cdS.enc)) kr (len_sl (el := 9) kr)) kr) ?_
      refine RunDX.segF (n := 28) E0_ok 2 [(3, hd 0 (c1.map cdClause.enc)), (5, .pt 1 0 0), (6, .sl 5 (x0.map cdClause.enc)), (7, .v (.int .i64 (x0.length : Int))), (8, .v (.int .i64 c2)), (20, .rf 3 0 0 1), (21, .pt 1 0 3)] [mk 5 70 (c1.map cdClause.enc), some ⟨5, 70, [.ag [.v (.int .u8 v4.1), .st v4.2.1, .v (.bool v4.2.2.1), .sl 1 (([] : List (List UInt8)).map cdS.enc), .v (.int .i64 v4.2.2.2.2)]], false⟩, mk 1 9 ([[115, 112, 97, 114, 101]].map cdS.enc), mk 1 9 ([[115, 112, 97, 114, 101]].map cdS.enc)] kr kr ?_
      refine RunDX.tail rfl ?_
      refine RunS.segF (n := 28) E0_ok 1 [(3, hd 0 (c1.map cdClause.enc)), (5, .pt 1 0 0), (6, .sl 5 (x0.map cdClause.enc)), (7, .v (.int .i64 (x0.length : Int))), (8, .v (.int .i64 c2))] [mk 5 70 (c1.map cdClause.enc), some ⟨5, 70, [.ag [.v (.int .u8 v4.1), .st v4.2.1, .v (.bool v4.2.2.1), .rf 3 0 0 1, .v (.int .i64 v4.2.2.2.2)]], false⟩, mk 1 9 ([[115, 112, 97, 114, 101]].map cdS.enc), mk 1 9 ([[115, 112, 97, 114, 101]].map cdS.enc)] kr ?_
      exact RunS.done rfl (Wk.sel2 [0, 1, 3] kr kr kr ⟨⟨_, rfl, bu_mk⟩, ⟨_, rfl, bu_c kr kr⟩, ⟨_, rfl, bu_own⟩, trivial⟩ ⟨lu_hd (b' := 0) kr kr, lu kr kr, lu kr kr, lu kr kr, lu kr kr, trivial⟩)
     ·have hk11 := hk6
      refine RunDX.append E0_ok rfl (wantedA_none rfl) rfl rfl (w_append (a := .rf 3 0 v4.2.2.2.1.length v4.2.2.2.1.length) (b := hd 2 ([[115, 112, 97, 114, 101]].map cdS.enc)) kr kr (append_R (c := cdS) (xs := v4.2.2.2.1) (vs := [[115, 112, 97, 114, 101]]) (k := 1) (bytes := 16) (el := 9) kr kr (elems_hd (t := 9) kr) (List.cons_ne_nil _ _) kr hk11)) (w_append (a := .rf 3 0 v4.2.2.2.1.length v4.2.2.2.1.length) (b := hd 2 ([[115, 112, 97, 114, 101]].map cdS.enc)) kr kr (append_R (c := cdS) (xs := v4.2.2.2.1) (vs := [[115, 112, 97, 114, 101]]) (k := 1) (bytes := 16) (el := 9) kr kr (elems_hd (t := 9) kr) (List.cons_ne_nil _ _) kr hk11)) kr ?_
      refine RunDX.segF (n := 28) E0_ok 2 [(3, hd 0 (c1.map cdClause.enc)), (5, .pt 1 0 0), (6, .sl 5 (x0.map cdClause.enc)), (7, .v (.int .i64 (x0.length : Int))), (8, .v (.int .i64 c2)), (16, .rf 4 0 (v4.2.2.2.1 ++ [[115, 112, 97, 114, 101]]).length (v4.2.2.2.1 ++ [[115, 112, 97, 114, 101]]).length), (18, .sl 1 (v4.2.2.2.1.map cdS.enc))] [mk 5 70 (c1.map cdClause.enc), some ⟨5, 70, [.ag [.v (.int .u8 v4.1), .st v4.2.1, .v (.bool v4.2.2.1), .sl 1 (v4.2.2.2.1.map cdS.enc), .v (.int .i64 v4.2.2.2.2)]], false⟩, mk 1 9 ([[115, 112, 97, 114, 101]].map cdS.enc), none, some ⟨1, 9, ((v4.2.2.2.1 ++ [[115, 112, 97, 114, 101]]).map cdS.enc), false⟩] kr kr ?_
      refine RunDX.one E0_ok rfl kr (opd_q kr (wantedA_none rfl) rfl (q_len (a := .sl 1 (v4.2.2.2.1.map cdS.enc)) kr (len_sl (el := 9) kr)) kr) ?_
      have hk12 := hk7
      refine RunDX.one E0_ok rfl kr (opd_q kr (wantedA_none rfl) rfl (q_slice (a := .rf 4 0 (v4.2.2.2.1 ++ [[115, 112, 97, 114, 101]]).length (v4.2.2.2.1 ++ [[115, 112, 97, 114, 101]]).length) (l := none) (u := (some (.v (.int .i64 (v4.2.2.2.1.length : Int))))) (m := none) kr kr kr rfl (slice_rl (xs := (v4.2.2.2.1 ++ [[115, 112, 97, 114, 101]])) (e := cdS.enc) (t' := 9) (k := 1) (el := 9) kr kr kr hk12 (by simp))) kr) ?_
      refine RunDX.segF (n := 28) E0_ok 1 [(3, hd 0 (c1.map cdClause.enc)), (5, .pt 1 0 0), (6, .sl 5 (x0.map cdClause.enc)), (7, .v (.int .i64 (x0.length : Int))), (8, .v (.int .i64 c2)), (20, .rf 4 0 ((v4.2.2.2.1.length : Int).toNat) ((v4.2.2.2.1 ++ [[115, 112, 97, 114, 101]]).length)), (21, .pt 1 0 3)] [mk 5 70 (c1.map cdClause.enc), some ⟨5, 70, [.ag [.v (.int .u8 v4.1), .st v4.2.1, .v (.bool v4.2.2.1), .sl 1 (v4.2.2.2.1.map cdS.enc), .v (.int .i64 v4.2.2.2.2)]], false⟩, mk 1 9 ([[115, 112, 97, 114, 101]].map cdS.enc), none, some ⟨1, 9, ((v4.2.2.2.1 ++ [[115, 112, 97, 114, 101]]).map cdS.enc), false⟩] kr kr ?_
      refine RunDX.tail rfl ?_
      refine RunS.segF (n := 28) E0_ok 1 [(3, hd 0 (c1.map cdClause.enc)), (5, .pt 1 0 0), (6, .sl 5 (x0.map cdClause.enc)), (7, .v (.int .i64 (x0.length : Int))), (8, .v (.int .i64 c2))] [mk 5 70 (c1.map cdClause.enc), some ⟨5, 70, [.ag [.v (.int .u8 v4.1), .st v4.2.1, .v (.bool v4.2.2.1), .rf 4 0 ((v4.2.2.2.1.length : Int).toNat) ((v4.2.2.2.1 ++ [[115, 112, 97, 114, 101]]).length), .v (.int .i64 v4.2.2.2.2)]], false⟩, mk 1 9 ([[115, 112, 97, 114, 101]].map cdS.enc), none, some ⟨1, 9, ((v4.2.2.2.1 ++ [[115, 112, 97, 114, 101]]).map cdS.enc), false⟩] kr ?_
      exact RunS.done rfl (Wk.sel2 [0, 1, 4] kr kr kr ⟨⟨_, rfl, bu_mk⟩, ⟨_, rfl, bu_c kr kr⟩, ⟨_, rfl, bu_own⟩, trivial⟩ ⟨lu_hd (b' := 0) kr kr, lu kr kr, lu kr kr, lu kr kr, lu kr kr, trivial⟩)
   by_cases hk15 : (capOk 64 (c1.length + 1)) = true
   case neg => rw [if_neg hk15] at h; cases h
   rw [if_pos hk15] at h
   refine Sem.runS (s1 := ⟨Fr 28 [(3, hd 0 ((c1 ++ [(v4.1, v4.2.1, v4.2.2.1, ((v4.2.2.2.1 ++ [[115, 112, 97, 114, 101]]).take ((v4.2.2.2.1.length : Int).toNat)), v4.2.2.2.2)]).map cdClause.enc)), (6, .sl 5 (x0.map cdClause.enc)), (7, .v (.int .i64 (x0.length : Int))), (8, .v (.int .i64 c2))], [mk 5 70 ((c1 ++ [(v4.1, v4.2.1, v4.2.2.1, ((v4.2.2.2.1 ++ [[115, 112, 97, 114, 101]]).take ((v4.2.2.2.1.length : Int).toNat)), v4.2.2.2.2)]).map cdClause.enc)]⟩) ?_ ?_
   ·refine RunS.segF (n := 28) E0_ok 2 [(6, .sl 5 (x0.map cdClause.enc)), (7, .v (.int .i64 (x0.length : Int))), (8, .v (.int .i64 c2)), (22, hd 0 (c1.map cdClause.enc)), (23, .ag [.v (.int .u8 v4.1), .st v4.2.1, .v (.bool v4.2.2.1), .rf 2 0 ((v4.2.2.2.1.length : Int).toNat) ((v4.2.2.2.1 ++ [[115, 112, 97, 114, 101]]).length), .v (.int .i64 v4.2.2.2.2)])] [mk 5 70 (c1.map cdClause.enc), some ⟨5, 70, [.ag [.v (.int .u8 v4.1), .st v4.2.1, .v (.bool v4.2.2.1), .rf 2 0 ((v4.2.2.2.1.length : Int).toNat) ((v4.2.2.2.1 ++ [[115, 112, 97, 114, 101]]).length), .v (.int .i64 v4.2.2.2.2)]], false⟩, some ⟨1, 9, ((v4.2.2.2.1 ++ [[115, 112, 97, 114, 101]]).map cdS.enc), false⟩] kr ?_
    refine RunS.wk (s1 := ⟨Fr 28 [(6, .sl 5 (x0.map cdClause.enc)), (7, .v (.int .i64 (x0.length : Int))), (8, .v (.int .i64 c2)), (22, hd 0 (c1.map cdClause.enc)), (23, .ag [.v (.int .u8 v4.1), .st v4.2.1, .v (.bool v4.2.2.1), .sl 1 (((v4.2.2.2.1 ++ [[115, 112, 97, 114, 101]]).take ((v4.2.2.2.1.length : Int).toNat)).map cdS.enc), .v (.int .i64 v4.2.2.2.2)])], [mk 5 70 (c1.map cdClause.enc), some ⟨5, 70, [.ag [.v (.int .u8 v4.1), .st v4.2.1, .v (.bool v4.2.2.1), .sl 1 (((v4.2.2.2.1 ++ [[115, 112, 97, 114, 101]]).take ((v4.2.2.2.1.length : Int).toNat)).map cdS.enc), .v (.int .i64 v4.2.2.2.2)]], false⟩, none]⟩) (Wk.frzG2 2 (.inl kr) ⟨.inr (.inl rfl), .inr (.inr ⟨_, _, _, _, rfl, rfl, ⟨(.inr ⟨_, _, rfl, rfl, ⟨.inl rfl, .inl rfl, .inl rfl, fz_rfT (c := cdS) (xs := (v4.2.2.2.1 ++ [[115, 112, 97, 114, 101]])) (t := 9) kr (cutOk_inv hk7).2.2.2, .inl rfl, trivial⟩⟩), trivial⟩⟩), .inl rfl, trivial⟩ ⟨⟨.sl 5 (x0.map cdClause.enc), kr, (.inl (.inl rfl))⟩, ⟨.v (.int .i64 (x0.length : Int)), kr, (.inl (.inl rfl))⟩, ⟨.v (.int .i64 c2), kr, (.inl (.inl rfl))⟩, ⟨hd 0 (c1.map cdClause.enc), kr, (.inl (.inl rfl))⟩, ⟨.ag [.v (.int .u8 v4.1), .st v4.2.1, .v (.bool v4.2.2.1), .rf 2 0 ((v4.2.2.2.1.length : Int).toNat) ((v4.2.2.2.1 ++ [[115, 112, 97, 114, 101]]).length), .v (.int .i64 v4.2.2.2.2)], kr, (.inr ⟨_, _, rfl, rfl, ⟨.inl rfl, .inl rfl, .inl rfl, fz_rfT (c := cdS) (xs := (v4.2.2.2.1 ++ [[115, 112, 97, 114, 101]])) (t := 9) kr (cutOk_inv hk7).2.2.2, .inl rfl, trivial⟩⟩)⟩, trivial⟩) ?_
    refine RunS.segF (n := 28) E0_ok 1 [(6, .sl 5 (x0.map cdClause.enc)), (7, .v (.int .i64 (x0.length : Int))), (8, .v (.int .i64 c2)), (22, hd 0 (c1.map cdClause.enc)), (24, hd 3 ([(v4.1, v4.2.1, v4.2.2.1, ((v4.2.2.2.1 ++ [[115, 112, 97, 114, 101]]).take ((v4.2.2.2.1.length : Int).toNat)), v4.2.2.2.2)].map cdClause.enc))] [mk 5 70 (c1.map cdClause.enc), some ⟨5, 70, [.ag [.v (.int .u8 v4.1), .st v4.2.1, .v (.bool v4.2.2.1), .sl 1 (((v4.2.2.2.1 ++ [[115, 112, 97, 114, 101]]).take ((v4.2.2.2.1.length : Int).toNat)).map cdS.enc), .v (.int .i64 v4.2.2.2.2)]], false⟩, none, mk 5 70 ([(v4.1, v4.2.1, v4.2.2.1, ((v4.2.2.2.1 ++ [[115, 112, 97, 114, 101]]).take ((v4.2.2.2.1.length : Int).toNat)), v4.2.2.2.2)].map cdClause.enc)] kr ?_
    refine RunS.one E0_ok 0 rfl (op_w (wantedA_none rfl) rfl kr kr (w_append (a := hd 0 (c1.map cdClause.enc)) (b := hd 3 ([(v4.1, v4.2.1, v4.2.2.1, ((v4.2.2.2.1 ++ [[115, 112, 97, 114, 101]]).take ((v4.2.2.2.1.length : Int).toNat)), v4.2.2.2.2)].map cdClause.enc)) kr kr (append_B (c := cdClause) (xs := c1) (vs := [(v4.1, v4.2.1, v4.2.2.1, ((v4.2.2.2.1 ++ [[115, 112, 97, 114, 101]]).take ((v4.2.2.2.1.length : Int).toNat)), v4.2.2.2.2)]) (k := 5) (bytes := 64) (el := 70) kr kr (elems_hd (t := 70) kr) (List.cons_ne_nil _ _) kr hk15))) ?_
    refine RunS.segF (n := 28) E0_ok 1 [(3, hd 4 ((c1 ++ [(v4.1, v4.2.1, v4.2.2.1, ((v4.2.2.2.1 ++ [[115, 112, 97, 114, 101]]).take ((v4.2.2.2.1.length : Int).toNat)), v4.2.2.2.2)]).map cdClause.enc)), (6, .sl 5 (x0.map cdClause.enc)), (7, .v (.int .i64 (x0.length : Int))), (8, .v (.int .i64 c2))] [none, some ⟨5, 70, [.ag [.v (.int .u8 v4.1), .st v4.2.1, .v (.bool v4.2.2.1), .sl 1 (((v4.2.2.2.1 ++ [[115, 112, 97, 114, 101]]).take ((v4.2.2.2.1.length : Int).toNat)).map cdS.enc), .v (.int .i64 v4.2.2.2.2)]], false⟩, none, mk 5 70 ([(v4.1, v4.2.1, v4.2.2.1, ((v4.2.2.2.1 ++ [[115, 112, 97, 114, 101]]).take ((v4.2.2.2.1.length : Int).toNat)), v4.2.2.2.2)].map cdClause.enc), mk 5 70 ((c1 ++ [(v4.1, v4.2.1, v4.2.2.1, ((v4.2.2.2.1 ++ [[115, 112, 97, 114, 101]]).take ((v4.2.2.2.1.length : Int).toNat)), v4.2.2.2.2)]).map cdClause.enc)] kr ?_
    exact RunS.done rfl (Wk.sel2 [4] kr kr kr ⟨⟨_, rfl, bu_mk⟩, trivial⟩ ⟨lu_hd (b' := 4) kr kr, lu kr kr, lu kr kr, lu kr kr, trivial⟩)
   refine Sem.rg E0_ok [(3, hd 0 ((c1 ++ [(v4.1, v4.2.1, v4.2.2.1, ((v4.2.2.2.1 ++ [[115, 112, 97, 114, 101]]).take ((v4.2.2.2.1.length : Int).toNat)), v4.2.2.2.2)]).map cdClause.enc)), (6, .sl 5 (x0.map cdClause.enc)), (7, .v (.int .i64 (x0.length : Int))), (8, .v (.int .i64 (wr .i64 (c2 + 1))))] [mk 5 70 ((c1 ++ [(v4.1, v4.2.1, v4.2.2.1, ((v4.2.2.2.1 ++ [[115, 112, 97, 114, 101]]).take ((v4.2.2.2.1.length : Int).toNat)), v4.2.2.2.2)]).map cdClause.enc)] ?_
   exact SemN.wk (s1 := ⟨Fr 28 [(3, hd 0 ((c1 ++ [(v4.1, v4.2.1, v4.2.2.1, ((v4.2.2.2.1 ++ [[115, 112, 97, 114, 101]]).take ((v4.2.2.2.1.length : Int).toNat)), v4.2.2.2.2)]).map cdClause.enc)), (6, .sl 5 (x0.map cdClause.enc)), (7, .v (.int .i64 (x0.length : Int))), (8, .v (.int .i64 (wr .i64 (c2 + 1))))], [mk 5 70 ((c1 ++ [(v4.1, v4.2.1, v4.2.2.1, ((v4.2.2.2.1 ++ [[115, 112, 97, 114, 101]]).take ((v4.2.2.2.1.length : Int).toNat)), v4.2.2.2.2)]).map cdClause.enc)]⟩) (Wk.sel2 [0] kr kr kr ⟨⟨_, rfl, bu_mk⟩, trivial⟩ ⟨lu_hd (b' := 0) kr kr, lu kr kr, lu kr kr, lu kr kr, trivial⟩) (ih (c1 ++ [(v4.1, v4.2.1, v4.2.2.1, ((v4.2.2.2.1 ++ [[115, 112, 97, 114, 101]]).take ((v4.2.2.2.1.length : Int).toNat)), v4.2.2.2.2)]) (wr .i64 (c2 + 1)) h)
  ·rw [if_f hb3] at h
   refine Sem.exit ?_
   have hq := Option.some.inj h; subst hq
   exact ⟨rfl, (Wk.sel2 [0] kr kr kr ⟨⟨_, rfl, bu_mk⟩, trivial⟩ ⟨lu_hd (b' := 0) kr kr, trivial⟩)⟩
theorem law03_Copy_sem (x0 : (List Clause)) (r : (List Clause)) (h : law03_Copy x0 = some r) : Sem E0 ⟨none, false⟩ cb_law03_Copy ⟨Fr 28 (pairs0 0 (cs_law03_Copy.enc (x0, ()))), []⟩ fun e s' => (e = .normal ∨ e = .ret) ∧ ∃ xs, resA E0.P s'.fr s'.hp Tryz.f51.results.toList = some xs ∧ retA xs = er_law03_Copy r := by
 unfold law03_Copy at h
 let p1 : Nat × AV := (0, .sl 5 (x0.map cdClause.enc))
 refine Sem.wkQ (Sem.wk (s1 := ⟨Fr 28 [p1], []⟩) (Wk.fr kr) ?_)
 refine Sem.sq E0_ok [p1] [] ?_
 refine Sem.sq E0_ok [p1, (3, .e0)] [] ?_
 refine Sem.seq ?_
 refine Sem.seq ?_
 let p2 : Nat × AV := (8, .v (.int .i64 0))
 let p3 : Nat × AV := (7, .v (.int .i64 (x0.length : Int)))
 let p4 : Nat × AV := (6, .sl 5 (x0.map cdClause.enc))
 refine Sem.runS (s1 := ⟨Fr 28 [(3, .e0), p4, p3, p2], []⟩) ?_ ?_
 ·refine RunS.segF (n := 28) E0_ok 1 [(3, .e0), p4] [] kr ?_
  refine RunS.one E0_ok 0 rfl (op_q (wantedA_none rfl) rfl (q_len (a := .sl 5 (x0.map cdClause.enc)) kr (len_sl (el := 70) kr))) ?_
  exact RunS.last E0_ok
 refine Sem.block ?_
 obtain ⟨r17, hr17, h⟩ := Option.bind_eq_some_iff.1 h
 refine Sem.loop (n := 100000) ?_
 let p5 : Nat × AV := (3, hd 0 ([].map cdClause.enc))
 refine Sem.cutN (SemN.wk (s1 := ⟨Fr 28 [p5, p4, p3, p2], [mk 5 70 ([].map cdClause.enc)]⟩) (Wk.trans (s1 := ⟨Fr 28 [p5, p4, p3, p2], [mk 5 70 ([].map cdClause.enc)]⟩) Wk.none (Wk.sel2 [0] kr kr kr ⟨⟨_, rfl, bu_none⟩, trivial⟩ ⟨lu kr kr, lu kr kr, lu kr kr, lu kr kr, trivial⟩)) (law03_Copy_l1_ok x0 _ [] 0 _ hr17)) ?_
 refine Sem.sq E0_ok [(2, hd 0 (r17.map cdClause.enc))] [mk 5 70 (r17.map cdClause.enc)] ?_
 refine Sem.ret ?_
 have hq := Option.some.inj h; subst hq
 let p6 : Nat × AV := (2, .sl 5 (r17.map cdClause.enc))
 exact ⟨⟨Fr 28 [p6], []⟩, (Wk.trans (s1 := ⟨Fr 28 [p6], [none]⟩) (Wk.frzG 0 (.inl kr) ⟨.inl rfl, trivial⟩ ⟨⟨hd 0 (r17.map cdClause.enc), kr, fz_hd (t := 70) kr enc_ok⟩, trivial⟩) (Wk.sel2 [] kr kr kr trivial ⟨lu kr kr, trivial⟩)), .inr rfl, [.sl 5 (r17.map cdClause.enc)], kr, kr⟩
def t_law03_Copy : List AV → Option AV := told cs_law03_Copy (fun a => law03_Copy a.1) er_law03_Copy
theorem x_law03_Copy : XOk 51 t_law03_Copy := by
 refine xok_of_sem Tryz.func51 (c := cb_law03_Copy) ?h2 ⟨Tryz.call51⟩ cs_law03_Copy (fun a => law03_Copy a.1) er_law03_Copy (fun a => (by show 1 ≤ 28; decide)) ?h3 ?h4
 case h2 => kernel_rfl
 case h3 => intro b; kernel_rfl
 case h4 => exact fun a b h => law03_Copy_sem a.1 b h
/- trestle/trestlekit.CopyWords -/
noncomputable def cb_kit_CopyWords : Code := codeOf Tryz.f127
def kit_CopyWords_l1 (x0 : (List (List UInt8))) : Nat → (List (List UInt8)) → Int → Option (((List (List UInt8))))
 | 0, _, _ => none
 | f + 1, c1, c2 =>
  if (decide (c2 < (x0.length : Int))) = true then
  (idx x0 c2).bind fun v4 =>
  if (capOk 16 (c1.length + 1)) = true then
  kit_CopyWords_l1 x0 f (c1 ++ [v4]) (wr .i64 (c2 + 1))
  else none
  else
  some c1
def kit_CopyWords (x0 : (List (List UInt8))) : Option ((List (List UInt8))) :=
 (kit_CopyWords_l1 x0 100000 [] 0).bind fun r7 =>
 some r7
def cs_kit_CopyWords : Cs ((List (List UInt8)) × Unit) := (csC (cdL 1 cdS) csN)
def er_kit_CopyWords (r : (List (List UInt8))) : AV := (cdL 1 cdS).enc r
theorem kit_CopyWords_l1_ok (x0 : (List (List UInt8))) : ∀ (f : Nat) (c1 : (List (List UInt8))) (c2 : Int) (r : ((List (List UInt8)))), kit_CopyWords_l1 x0 f c1 c2 = some r → SemN E0 ⟨none, false⟩ (pc cb_kit_CopyWords [1, 1, 0, 1, 0, 0]) f ⟨Fr 19 [(0, .sl 1 (x0.map cdS.enc)), (3, hd 0 (c1.map cdS.enc)), (4, .v (.int .i64 c2))], [mk 1 9 (c1.map cdS.enc)]⟩ (fun e s => e = (.exit 0) ∧ Wk E0 s ⟨Fr 19 [(3, hd 0 (r.map cdS.enc))], [mk 1 9 (r.map cdS.enc)]⟩) := by
 intro f
 induction f with
 | zero => intro c1 c2 r h; cases h
 | succ f ih0 =>
  intro c1 c2 r h
  have ih := fun (c1 : (List (List UInt8))) (c2 : Int) => ih0 c1 c2 r
  unfold kit_CopyWords_l1 at h
  refine SemN.succ ?_
  refine Sem.seq ?_
  refine Sem.seq ?_
  let p1 : Option Blk := mk 1 9 (c1.map cdS.enc)
  let p2 : Nat × AV := (4, .v (.int .i64 c2))
  let p3 : Nat × AV := (0, .sl 1 (x0.map cdS.enc))
  refine Sem.runS (s1 := ⟨Fr 19 [p3, (3, hd 0 (c1.map cdS.enc)), p2, (8, .v (.bool (decide (c2 < (x0.length : Int)))))], [p1]⟩) ?_ ?_
  ·refine RunS.segF (n := 19) E0_ok 2 [p3, (3, hd 0 (c1.map cdS.enc)), p2, (5, .v (.int .i64 c2)), (6, .sl 1 (x0.map cdS.enc))] [p1] kr ?_
   refine RunS.one E0_ok 0 rfl (op_q (wantedA_none rfl) rfl (q_len (a := .sl 1 (x0.map cdS.enc)) kr (len_sl (el := 9) kr))) ?_
   exact RunS.last E0_ok
  refine Sem.cond (b := (decide (c2 < (x0.length : Int)))) kr (fun hb3 => ?_) (fun hb3 => ?_)
  ·rw [if_pos hb3] at h
   refine Sem.skip ?_
   refine Sem.seq ?_
   refine Sem.block ?_
   obtain ⟨v4, hv4, h⟩ := Option.bind_eq_some_iff.1 h
   by_cases hk5 : (capOk 16 (c1.length + 1)) = true
   case neg => rw [if_neg hk5] at h; cases h
   rw [if_pos hk5] at h
   let p4 : Option Blk := mk 1 9 ((c1 ++ [v4]).map cdS.enc)
   let p5 : Nat × AV := (3, hd 0 ((c1 ++ [v4]).map cdS.enc))
   refine Sem.runS (s1 := ⟨Fr 19 [p3, p5, p2], [p4]⟩) ?_ ?_
   ·refine RunS.segF (n := 19) E0_ok 3 [p3, p2, (11, hd 0 (c1.map cdS.enc)), (12, .sl 1 (x0.map cdS.enc)), (13, .v (.int .i64 c2))] [p1] kr ?_
    refine RunS.one E0_ok 0 rfl (op_q (wantedA_none rfl) rfl (q_indexAddr (a := .sl 1 (x0.map cdS.enc)) (b := .v (.int .i64 c2)) kr kr (ix_sl (e := cdS.enc) (el := 9) (k := 1) (ki := .i64) kr kr hv4))) ?_
    refine RunS.segF (n := 19) E0_ok 2 [p3, p2, (11, hd 0 (c1.map cdS.enc)), (16, hd 1 ([v4].map cdS.enc))] [p1, mk 1 9 ([v4].map cdS.enc)] kr ?_
    refine RunS.one E0_ok 0 rfl (op_w (wantedA_none rfl) rfl kr kr (w_append (a := hd 0 (c1.map cdS.enc)) (b := hd 1 ([v4].map cdS.enc)) kr kr (append_B (c := cdS) (xs := c1) (vs := [v4]) (k := 1) (bytes := 16) (el := 9) kr kr (elems_hd (t := 9) kr) (List.cons_ne_nil _ _) kr hk5))) ?_
    refine RunS.segF (n := 19) E0_ok 1 [p3, (3, hd 2 ((c1 ++ [v4]).map cdS.enc)), p2] [none, mk 1 9 ([v4].map cdS.enc), p4] kr ?_
    exact RunS.done rfl (Wk.sel2 [2] kr kr kr ⟨⟨_, rfl, bu_mk⟩, trivial⟩ ⟨lu kr kr, lu_hd (b' := 2) kr kr, lu kr kr, trivial⟩)
   let p6 : Nat × AV := (4, .v (.int .i64 (wr .i64 (c2 + 1))))
   refine Sem.rg E0_ok [p3, p5, p6] [p4] ?_
   exact SemN.wk (s1 := ⟨Fr 19 [p3, p5, p6], [p4]⟩) (Wk.sel2 [0] kr kr kr ⟨⟨_, rfl, bu_mk⟩, trivial⟩ ⟨lu kr kr, lu_hd (b' := 0) kr kr, lu kr kr, trivial⟩) (ih (c1 ++ [v4]) (wr .i64 (c2 + 1)) h)
  ·rw [if_f hb3] at h
   refine Sem.exit ?_
   have hq := Option.some.inj h; subst hq
   exact ⟨rfl, (Wk.sel2 [0] kr kr kr ⟨⟨_, rfl, bu_mk⟩, trivial⟩ ⟨lu_hd (b' := 0) kr kr, trivial⟩)⟩
theorem kit_CopyWords_sem (x0 : (List (List UInt8))) (r : (List (List UInt8))) (h : kit_CopyWords x0 = some r) : Sem E0 ⟨none, false⟩ cb_kit_CopyWords ⟨Fr 19 (pairs0 0 (cs_kit_CopyWords.enc (x0, ()))), []⟩ fun e s' => (e = .normal ∨ e = .ret) ∧ ∃ xs, resA E0.P s'.fr s'.hp Tryz.f127.results.toList = some xs ∧ retA xs = er_kit_CopyWords r := by
 unfold kit_CopyWords at h
 let p1 : Nat × AV := (0, .sl 1 (x0.map cdS.enc))
 refine Sem.wkQ (Sem.wk (s1 := ⟨Fr 19 [p1], []⟩) (Wk.fr kr) ?_)
 refine Sem.sq E0_ok [p1] [] ?_
 refine Sem.sq E0_ok [p1, (3, .e0)] [] ?_
 refine Sem.seq ?_
 let p2 : Nat × AV := (4, .v (.int .i64 0))
 refine Sem.sq E0_ok [p1, (3, .e0), p2] [] ?_
 refine Sem.block ?_
 obtain ⟨r7, hr7, h⟩ := Option.bind_eq_some_iff.1 h
 refine Sem.loop (n := 100000) ?_
 refine Sem.cutN (SemN.wk (s1 := ⟨Fr 19 [p1, (3, hd 0 ([].map cdS.enc)), p2], [mk 1 9 ([].map cdS.enc)]⟩) (Wk.trans (s1 := ⟨Fr 19 [p1, (3, hd 0 ([].map cdS.enc)), p2], [mk 1 9 ([].map cdS.enc)]⟩) Wk.none (Wk.sel2 [0] kr kr kr ⟨⟨_, rfl, bu_none⟩, trivial⟩ ⟨lu kr kr, lu kr kr, lu kr kr, trivial⟩)) (kit_CopyWords_l1_ok x0 _ [] 0 _ hr7)) ?_
 refine Sem.sq E0_ok [(2, hd 0 (r7.map cdS.enc))] [mk 1 9 (r7.map cdS.enc)] ?_
 refine Sem.ret ?_
 have hq := Option.some.inj h; subst hq
 exact ⟨⟨Fr 19 [(2, .sl 1 (r7.map cdS.enc))], []⟩, (Wk.trans (s1 := ⟨Fr 19 [(2, .sl 1 (r7.map cdS.enc))], [none]⟩) (Wk.frzG 0 (.inl kr) ⟨.inl rfl, trivial⟩ ⟨⟨hd 0 (r7.map cdS.enc), kr, fz_hd (t := 9) kr enc_ok⟩, trivial⟩) (Wk.sel2 [] kr kr kr trivial ⟨lu kr kr, trivial⟩)), .inr rfl, [.sl 1 (r7.map cdS.enc)], kr, kr⟩
def t_kit_CopyWords : List AV → Option AV := told cs_kit_CopyWords (fun a => kit_CopyWords a.1) er_kit_CopyWords
theorem x_kit_CopyWords : XOk 127 t_kit_CopyWords := by
 refine xok_of_sem Tryz.func127 (c := cb_kit_CopyWords) ?h2 ⟨Tryz.call127⟩ cs_kit_CopyWords (fun a => kit_CopyWords a.1) er_kit_CopyWords (fun a => (by show 1 ≤ 19; decide)) ?h3 ?h4
 case h2 => kernel_rfl
 case h3 => intro b; kernel_rfl
 case h4 => exact fun a b h => kit_CopyWords_sem a.1 b h
/- trestle/trestlekit.CopyGuest -/
noncomputable def cb_kit_CopyGuest : Code := codeOf Tryz.f85
def kit_CopyGuest (x0 : Guest) : Option (Guest) :=
 (kit_CopyWords x0.2.2.2.2.2.2.2.2).bind fun v1 =>
 some (x0.1, x0.2.1, x0.2.2.1, x0.2.2.2.1, x0.2.2.2.2.1, x0.2.2.2.2.2.1, x0.2.2.2.2.2.2.1, x0.2.2.2.2.2.2.2.1, v1)
def cs_kit_CopyGuest : Cs (Guest × Unit) := (csC cdGuest csN)
def er_kit_CopyGuest (r : Guest) : AV := cdGuest.enc r
theorem kit_CopyGuest_sem (x0 : Guest) (r : Guest) (h : kit_CopyGuest x0 = some r) : Sem E0 ⟨none, false⟩ cb_kit_CopyGuest ⟨Fr 8 (pairs0 0 (cs_kit_CopyGuest.enc (x0, ()))), []⟩ fun e s' => (e = .normal ∨ e = .ret) ∧ ∃ xs, resA E0.P s'.fr s'.hp Tryz.f85.results.toList = some xs ∧ retA xs = er_kit_CopyGuest r := by
 unfold kit_CopyGuest at h
 refine Sem.wkQ (Sem.wk (s1 := ⟨Fr 8 [(0, cdGuest.enc x0)], []⟩) (Wk.fr kr) ?_)
 let p1 : Option Blk := some ⟨9, 44, [.ag [.st [], .st [], .st [], .v (.int .i64 0), .v (.int .i64 0), .st [], .v (.bool false), .v (.bool false), .e0]], false⟩
 let p2 : Option Blk := some ⟨9, 44, [cdGuest.enc x0], false⟩
 let p3 : Nat × AV := (2, .pt 1 0 0)
 refine Sem.sq E0_ok [(1, .pt 0 0 0), p3] [p2, p1] ?_
 refine Sem.seq ?_
 obtain ⟨v1, hv1, h⟩ := Option.bind_eq_some_iff.1 h
 let p4 : Option Blk := some ⟨9, 44, [.ag [.st x0.1, .st x0.2.1, .st x0.2.2.1, .v (.int .i64 x0.2.2.2.1), .v (.int .i64 x0.2.2.2.2.1), .st x0.2.2.2.2.2.1, .v (.bool x0.2.2.2.2.2.2.1), .v (.bool x0.2.2.2.2.2.2.2.1), .sl 1 (v1.map cdS.enc)]], false⟩
 refine Sem.runS (s1 := ⟨Fr 8 [(1, .pt 0 0 0), p3], [p4, p1]⟩) ?_ ?_
 ·refine RunS.segF (n := 8) E0_ok 2 [(1, .pt 0 0 0), p3, (4, .sl 1 (x0.2.2.2.2.2.2.2.2.map cdS.enc))] [p2, p1] kr ?_
  refine RunS.callV (caps := []) (xs := [.sl 1 (x0.2.2.2.2.2.2.2.2.map cdS.enc)]) (u := (x0.2.2.2.2.2.2.2.2, ())) rfl rfl x_kit_CopyWords rfl (wantedA_none rfl) kr kr (Sl.cons (Sm.enc (c := (cdL 1 cdS)) (v := x0.2.2.2.2.2.2.2.2)) Sl.nil) (.inr kr) hv1 ?_
  exact RunS.last E0_ok
 refine Sem.seq ?_
 refine Sem.runS (s1 := ⟨Fr 8 [(2, .pt 0 0 0)], [p4]⟩) ?_ ?_
 ·refine RunS.segF (n := 8) E0_ok 2 [p3] [p4, p4] kr ?_
  exact RunS.done rfl (Wk.sel2 [1] kr kr kr ⟨⟨_, rfl, bu_c kr kr⟩, trivial⟩ ⟨lu kr kr, trivial⟩)
 refine Sem.ret ?_
 have hq := Option.some.inj h; subst hq
 exact ⟨⟨Fr 8 [(2, .pt 0 0 0)], [p4]⟩, (Wk.sel2 [0] kr kr kr ⟨⟨_, rfl, bu_c kr kr⟩, trivial⟩ ⟨lu kr kr, trivial⟩), .inr rfl, [.ag [.st x0.1, .st x0.2.1, .st x0.2.2.1, .v (.int .i64 x0.2.2.2.1), .v (.int .i64 x0.2.2.2.2.1), .st x0.2.2.2.2.2.1, .v (.bool x0.2.2.2.2.2.2.1), .v (.bool x0.2.2.2.2.2.2.2.1), .sl 1 (v1.map cdS.enc)]], kr, kr⟩
def t_kit_CopyGuest : List AV → Option AV := told cs_kit_CopyGuest (fun a => kit_CopyGuest a.1) er_kit_CopyGuest
theorem x_kit_CopyGuest : XOk 85 t_kit_CopyGuest := by
 refine xok_of_sem Tryz.func85 (c := cb_kit_CopyGuest) ?h2 ⟨Tryz.call85⟩ cs_kit_CopyGuest (fun a => kit_CopyGuest a.1) er_kit_CopyGuest (fun a => (by show 1 ≤ 8; decide)) ?h3 ?h4
 case h2 => kernel_rfl
 case h3 => intro b; kernel_rfl
 case h4 => exact fun a b h => kit_CopyGuest_sem a.1 b h
/- trestle/trestleref03.between -/
noncomputable def cb_ref03_between : Code := codeOf Tryz.f150
def ref03_between (x0 : Int) (x1 : Int) (x2 : Int) : Option (Bool) :=
 (if (decide (x1 ≤ x0)) = true then some (decide (x0 ≤ x2)) else some false).bind fun j2 =>
 some j2
def cs_ref03_between : Cs (Int × Int × Int × Unit) := (csC cdI (csC cdI (csC cdI csN)))
def er_ref03_between (r : Bool) : AV := cdB.enc r
theorem ref03_between_sem (x0 : Int) (x1 : Int) (x2 : Int) (r : Bool) (h : ref03_between x0 x1 x2 = some r) : Sem E0 ⟨none, false⟩ cb_ref03_between ⟨Fr 15 (pairs0 0 (cs_ref03_between.enc (x0, x1, x2, ()))), []⟩ fun e s' => (e = .normal ∨ e = .ret) ∧ ∃ xs, resA E0.P s'.fr s'.hp Tryz.f150.results.toList = some xs ∧ retA xs = er_ref03_between r := by
 unfold ref03_between at h
 let p1 : Nat × AV := (2, .v (.int .i64 x2))
 let p2 : Nat × AV := (0, .v (.int .i64 x0))
 refine Sem.wkQ (Sem.wk (s1 := ⟨Fr 15 [p2, (1, .v (.int .i64 x1)), p1], []⟩) (Wk.fr kr) ?_)
 refine Sem.sq E0_ok [p2, (1, .v (.int .i64 x1)), p1] [] ?_
 refine Sem.seq ?_
 obtain ⟨j2, hj2, h⟩ := Option.bind_eq_some_iff.1 h
 refine Sem.runS (s1 := ⟨Fr 15 [(6, .v (.bool j2))], []⟩) ?_ ?_
 ·refine RunS.segF (n := 15) E0_ok 4 [p2, p1, (10, .v (.bool (decide (x1 ≤ x0))))] [] kr ?_
  rcases Bool.eq_false_or_eq_true (decide (x1 ≤ x0)) with hc3 | hc3
  ·rw [if_pos hc3] at hj2
   rw [hc3]
   refine RunS.segF (n := 15) E0_ok 5 [(6, .v (.bool (decide (x0 ≤ x2))))] [] kr ?_
   have hq := Option.some.inj hj2; subst hq
   exact RunS.done rfl (Wk.fr kr)
  ·rw [if_f hc3] at hj2
   rw [hc3]
   refine RunS.segF (n := 15) E0_ok 5 [(6, .v (.bool false))] [] kr ?_
   have hq := Option.some.inj hj2; subst hq
   exact RunS.done rfl (Wk.fr kr)
 refine Sem.ret ?_
 have hq := Option.some.inj h; subst hq
 exact ⟨⟨Fr 15 [(6, .v (.bool j2))], []⟩, (Wk.fr kr), .inr rfl, [.v (.bool j2)], kr, kr⟩
def t_ref03_between : List AV → Option AV := told cs_ref03_between (fun a => ref03_between a.1 a.2.1 a.2.2.1) er_ref03_between
theorem x_ref03_between : XOk 150 t_ref03_between := by
 refine xok_of_sem Tryz.func150 (c := cb_ref03_between) ?h2 ⟨Tryz.call150⟩ cs_ref03_between (fun a => ref03_between a.1 a.2.1 a.2.2.1) er_ref03_between (fun a => (by show 3 ≤ 15; decide)) ?h3 ?h4
 case h2 => kernel_rfl
 case h3 => intro b; kernel_rfl
 case h4 => exact fun a b h => ref03_between_sem a.1 a.2.1 a.2.2.1 b h
/- trestle/trestleref03.formed -/
noncomputable def cb_ref03_formed : Code := codeOf Tryz.f136
def ref03_formed_j3 (x0 : Clause) : Option ((Bool)) :=
 if (x0.1 == 8) = true then
 some (x0.1 == 8)
 else
 some (x0.1 == 9)
def ref03_formed_j2 (x0 : Clause) : Option ((Bool)) :=
 if (x0.1 == 3) = true then
 some (x0.1 == 3)
 else
 (ref03_formed_j3 x0).bind fun r14 =>
 some r14
def ref03_formed_j1 (x0 : Clause) : Option ((Bool)) :=
 if (x0.1 == 2) = true then
 some (x0.1 == 2)
 else
 (ref03_formed_j2 x0).bind fun r15 =>
 some r15
def ref03_formed_j4 (x0 : Clause) : Option ((Bool)) :=
 if (x0.1 == 6) = true then
 some (x0.1 == 6)
 else
 some (x0.1 == 7)
def ref03_formed (x0 : Clause) : Option (Bool) :=
 if (x0.1 == 1) = true then
 (ref03_between (x0.2.2.2.1.length : Int) 1 16).bind fun v2 =>
 (if v2 = true then if (x0.2.2.2.2 == 0) = true then if (!x0.2.2.1) = true then some (x0.2.1 == []) else some false else some false else some false).bind fun j4 =>
 some j4
 else
 (ref03_formed_j1 x0).bind fun r16 =>
 if r16 = true then
 (if ((x0.2.2.2.1.length : Int) == 0) = true then if (x0.2.2.2.2 == 0) = true then some (!x0.2.2.1) else some false else some false).bind fun j19 =>
 some j19
 else
 if (x0.1 == 4) = true then
 (if ((x0.2.2.2.1.length : Int) == 0) = true then (ref03_between x0.2.2.2.2 1 2).bind fun v23 =>
 some v23 else some false).bind fun j25 =>
 some j25
 else
 if (x0.1 == 5) = true then
 (if ((x0.2.2.2.1.length : Int) == 0) = true then some (x0.2.2.2.2 == 0) else some false).bind fun j29 =>
 some j29
 else
 (ref03_formed_j4 x0).bind fun r33 =>
 if r33 = true then
 (ref03_between (x0.2.2.2.1.length : Int) 1 16).bind fun v35 =>
 (if v35 = true then some (x0.2.2.2.2 == 0) else some false).bind fun j37 =>
 some j37
 else
 if (x0.1 == 10) = true then
 (if ((x0.2.2.2.1.length : Int) == 0) = true then (ref03_between x0.2.2.2.2 0 63).bind fun v40 =>
 if v40 = true then some (!x0.2.2.1) else some false else some false).bind fun j42 =>
 some j42
 else
 some false
def cs_ref03_formed : Cs (Clause × Unit) := (csC cdClause csN)
def er_ref03_formed (r : Bool) : AV := cdB.enc r
theorem ref03_formed_j3_ok (x0 : Clause) (r : (Bool)) (h : ref03_formed_j3 x0 = some r) : Sem E0 ⟨none, false⟩ (pc cb_ref03_formed [1, 1, 0, 1, 0, 1, 1, 0, 1, 1, 1, 1, 1]) ⟨Fr 87 [(1, .pt 0 0 0), (3, .v (.int .i64 (x0.2.2.2.1.length : Int))), (8, .v (.int .u8 x0.1)), (28, .v (.bool (x0.1 == 8)))], [some ⟨5, 70, [cdClause.enc x0], false⟩]⟩ (fun e s => e = .normal ∧ Wk E0 s ⟨Fr 87 [(1, .pt 0 0 0), (3, .v (.int .i64 (x0.2.2.2.1.length : Int))), (8, .v (.int .u8 x0.1)), (28, .v (.bool r))], [some ⟨5, 70, [cdClause.enc x0], false⟩]⟩) := by
 unfold ref03_formed_j3 at h
 refine Sem.cond (b := (x0.1 == 8)) kr (fun hb12 => ?_) (fun hb12 => ?_)
 ·rw [if_pos hb12] at h
  refine Sem.skip ?_
  have hq := Option.some.inj h; subst hq
  exact ⟨rfl, (Wk.sel2 [0] kr kr kr ⟨⟨_, rfl, bu_c kr kr⟩, trivial⟩ ⟨lu kr kr, lu kr kr, lu kr kr, lu kr kr, trivial⟩)⟩
 ·rw [if_f hb12] at h
  refine Sem.rg E0_ok [(1, .pt 0 0 0), (3, .v (.int .i64 (x0.2.2.2.1.length : Int))), (8, .v (.int .u8 x0.1)), (28, .v (.bool (x0.1 == 9)))] [some ⟨5, 70, [cdClause.enc x0], false⟩] ?_
  have hq := Option.some.inj h; subst hq
  exact ⟨rfl, (Wk.sel2 [0] kr kr kr ⟨⟨_, rfl, bu_c kr kr⟩, trivial⟩ ⟨lu kr kr, lu kr kr, lu kr kr, lu kr kr, trivial⟩)⟩
theorem ref03_formed_j2_ok (x0 : Clause) (r : (Bool)) (h : ref03_formed_j2 x0 = some r) : Sem E0 ⟨none, false⟩ (pc cb_ref03_formed [1, 1, 0, 1, 0, 1, 1, 0, 1, 1, 1]) ⟨Fr 87 [(1, .pt 0 0 0), (3, .v (.int .i64 (x0.2.2.2.1.length : Int))), (8, .v (.int .u8 x0.1)), (28, .v (.bool (x0.1 == 3)))], [some ⟨5, 70, [cdClause.enc x0], false⟩]⟩ (fun e s => e = .normal ∧ Wk E0 s ⟨Fr 87 [(1, .pt 0 0 0), (3, .v (.int .i64 (x0.2.2.2.1.length : Int))), (8, .v (.int .u8 x0.1)), (28, .v (.bool r))], [some ⟨5, 70, [cdClause.enc x0], false⟩]⟩) := by
 unfold ref03_formed_j2 at h
 refine Sem.cond (b := (x0.1 == 3)) kr (fun hb10 => ?_) (fun hb10 => ?_)
 ·rw [if_pos hb10] at h
  refine Sem.skip ?_
  have hq := Option.some.inj h; subst hq
  exact ⟨rfl, (Wk.sel2 [0] kr kr kr ⟨⟨_, rfl, bu_c kr kr⟩, trivial⟩ ⟨lu kr kr, lu kr kr, lu kr kr, lu kr kr, trivial⟩)⟩
 ·rw [if_f hb10] at h
  refine Sem.sq E0_ok [(1, .pt 0 0 0), (3, .v (.int .i64 (x0.2.2.2.1.length : Int))), (8, .v (.int .u8 x0.1)), (28, .v (.bool (x0.1 == 8)))] [some ⟨5, 70, [cdClause.enc x0], false⟩] ?_
  obtain ⟨r14, hr14, h⟩ := Option.bind_eq_some_iff.1 h
  refine Sem.cut (ref03_formed_j3_ok x0 _ hr14) ?_
  have hq := Option.some.inj h; subst hq
  exact ⟨rfl, (Wk.sel2 [0] kr kr kr ⟨⟨_, rfl, bu_c kr kr⟩, trivial⟩ ⟨lu kr kr, lu kr kr, lu kr kr, lu kr kr, trivial⟩)⟩
theorem ref03_formed_j1_ok (x0 : Clause) (r : (Bool)) (h : ref03_formed_j1 x0 = some r) : Sem E0 ⟨none, false⟩ (pc cb_ref03_formed [1, 1, 0, 1, 0, 1, 1, 0, 1]) ⟨Fr 87 [(1, .pt 0 0 0), (3, .v (.int .i64 (x0.2.2.2.1.length : Int))), (8, .v (.int .u8 x0.1)), (28, .v (.bool (x0.1 == 2)))], [some ⟨5, 70, [cdClause.enc x0], false⟩]⟩ (fun e s => e = .normal ∧ Wk E0 s ⟨Fr 87 [(1, .pt 0 0 0), (3, .v (.int .i64 (x0.2.2.2.1.length : Int))), (8, .v (.int .u8 x0.1)), (28, .v (.bool r))], [some ⟨5, 70, [cdClause.enc x0], false⟩]⟩) := by
 unfold ref03_formed_j1 at h
 refine Sem.cond (b := (x0.1 == 2)) kr (fun hb8 => ?_) (fun hb8 => ?_)
 ·rw [if_pos hb8] at h
  refine Sem.skip ?_
  have hq := Option.some.inj h; subst hq
  exact ⟨rfl, (Wk.sel2 [0] kr kr kr ⟨⟨_, rfl, bu_c kr kr⟩, trivial⟩ ⟨lu kr kr, lu kr kr, lu kr kr, lu kr kr, trivial⟩)⟩
 ·rw [if_f hb8] at h
  refine Sem.sq E0_ok [(1, .pt 0 0 0), (3, .v (.int .i64 (x0.2.2.2.1.length : Int))), (8, .v (.int .u8 x0.1)), (28, .v (.bool (x0.1 == 3)))] [some ⟨5, 70, [cdClause.enc x0], false⟩] ?_
  obtain ⟨r15, hr15, h⟩ := Option.bind_eq_some_iff.1 h
  refine Sem.cut (ref03_formed_j2_ok x0 _ hr15) ?_
  have hq := Option.some.inj h; subst hq
  exact ⟨rfl, (Wk.sel2 [0] kr kr kr ⟨⟨_, rfl, bu_c kr kr⟩, trivial⟩ ⟨lu kr kr, lu kr kr, lu kr kr, lu kr kr, trivial⟩)⟩
theorem ref03_formed_j4_ok (x0 : Clause) (r : (Bool)) (h : ref03_formed_j4 x0 = some r) : Sem E0 ⟨none, false⟩ (pc cb_ref03_formed [1, 1, 0, 1, 0, 1, 1, 1, 1, 1, 1, 1, 1, 0, 1]) ⟨Fr 87 [(1, .pt 0 0 0), (3, .v (.int .i64 (x0.2.2.2.1.length : Int))), (8, .v (.int .u8 x0.1)), (63, .v (.bool (x0.1 == 6)))], [some ⟨5, 70, [cdClause.enc x0], false⟩]⟩ (fun e s => e = .normal ∧ Wk E0 s ⟨Fr 87 [(1, .pt 0 0 0), (3, .v (.int .i64 (x0.2.2.2.1.length : Int))), (8, .v (.int .u8 x0.1)), (63, .v (.bool r))], [some ⟨5, 70, [cdClause.enc x0], false⟩]⟩) := by
 unfold ref03_formed_j4 at h
 refine Sem.cond (b := (x0.1 == 6)) kr (fun hb31 => ?_) (fun hb31 => ?_)
 ·rw [if_pos hb31] at h
  refine Sem.skip ?_
  have hq := Option.some.inj h; subst hq
  exact ⟨rfl, (Wk.sel2 [0] kr kr kr ⟨⟨_, rfl, bu_c kr kr⟩, trivial⟩ ⟨lu kr kr, lu kr kr, lu kr kr, lu kr kr, trivial⟩)⟩
 ·rw [if_f hb31] at h
  refine Sem.rg E0_ok [(1, .pt 0 0 0), (3, .v (.int .i64 (x0.2.2.2.1.length : Int))), (8, .v (.int .u8 x0.1)), (63, .v (.bool (x0.1 == 7)))] [some ⟨5, 70, [cdClause.enc x0], false⟩] ?_
  have hq := Option.some.inj h; subst hq
  exact ⟨rfl, (Wk.sel2 [0] kr kr kr ⟨⟨_, rfl, bu_c kr kr⟩, trivial⟩ ⟨lu kr kr, lu kr kr, lu kr kr, lu kr kr, trivial⟩)⟩
theorem ref03_formed_sem (x0 : Clause) (r : Bool) (h : ref03_formed x0 = some r) : Sem E0 ⟨none, false⟩ cb_ref03_formed ⟨Fr 87 (pairs0 0 (cs_ref03_formed.enc (x0, ()))), []⟩ fun e s' => (e = .normal ∨ e = .ret) ∧ ∃ xs, resA E0.P s'.fr s'.hp Tryz.f136.results.toList = some xs ∧ retA xs = er_ref03_formed r := by
 unfold ref03_formed at h
 refine Sem.wkQ (Sem.wk (s1 := ⟨Fr 87 [(0, cdClause.enc x0)], []⟩) (Wk.fr kr) ?_)
 let p1 : Option Blk := some ⟨5, 70, [cdClause.enc x0], false⟩
 let p2 : Nat × AV := (1, .pt 0 0 0)
 refine Sem.sq E0_ok [p2] [p1] ?_
 refine Sem.seq ?_
 let p3 : Nat × AV := (3, .v (.int .i64 (x0.2.2.2.1.length : Int)))
 refine Sem.runS (s1 := ⟨Fr 87 [p2, p3], [p1]⟩) ?_ ?_
 ·refine RunS.segF (n := 87) E0_ok 2 [p2, (5, .sl 1 (x0.2.2.2.1.map cdS.enc))] [p1] kr ?_
  refine RunS.one E0_ok 0 rfl (op_q (wantedA_none rfl) rfl (q_len (a := .sl 1 (x0.2.2.2.1.map cdS.enc)) kr (len_sl (el := 9) kr))) ?_
  exact RunS.last E0_ok
 refine Sem.seq ?_
 let p4 : Nat × AV := (8, .v (.int .u8 x0.1))
 refine Sem.sq E0_ok [p2, p3, p4] [p1] ?_
 refine Sem.block ?_
 refine Sem.sq E0_ok [p2, p3, p4, (9, .v (.bool (x0.1 == 1)))] [p1] ?_
 refine Sem.cond (b := (x0.1 == 1)) kr (fun hb1 => ?_) (fun hb1 => ?_)
 ·rw [if_pos hb1] at h
  refine Sem.seq ?_
  obtain ⟨v2, hv2, h⟩ := Option.bind_eq_some_iff.1 h
  obtain ⟨j4, hj4, h⟩ := Option.bind_eq_some_iff.1 h
  refine Sem.runS (s1 := ⟨Fr 87 [(2, .v (.bool j4))], []⟩) ?_ ?_
  ·refine RunS.segF (n := 87) E0_ok 1 [p2, (11, .v (.int .i64 (x0.2.2.2.1.length : Int)))] [p1] kr ?_
   refine RunS.callV (caps := []) (xs := [.v (.int .i64 (x0.2.2.2.1.length : Int)), .v (.int .i64 1), .v (.int .i64 16)]) (u := ((x0.2.2.2.1.length : Int), 1, 16, ())) rfl rfl x_ref03_between rfl (wantedA_none rfl) kr kr (Sl.cons (Sm.enc (c := cdI) (v := (x0.2.2.2.1.length : Int))) (Sl.cons (Sm.enc (c := cdI) (v := 1)) (Sl.cons (Sm.enc (c := cdI) (v := 16)) Sl.nil))) (.inl kr) hv2 ?_
   refine RunS.segF (n := 87) E0_ok 1 [p2, (13, .v (.bool v2))] [p1] kr ?_
   rcases Bool.eq_false_or_eq_true v2 with hc5 | hc5
   ·rw [if_pos hc5] at hj4
    rw [hc5]
    refine RunS.segF (n := 87) E0_ok 5 [p2, (18, .v (.bool (x0.2.2.2.2 == 0)))] [p1] kr ?_
    rcases Bool.eq_false_or_eq_true (x0.2.2.2.2 == 0) with hc6 | hc6
    ·rw [if_pos hc6] at hj4
     rw [hc6]
     refine RunS.segF (n := 87) E0_ok 5 [p2, (23, .v (.bool (!x0.2.2.1)))] [p1] kr ?_
     rcases Bool.eq_false_or_eq_true (!x0.2.2.1) with hc7 | hc7
     ·rw [if_pos hc7] at hj4
      rw [hc7]
      refine RunS.segF (n := 87) E0_ok 5 [(2, .v (.bool (x0.2.1 == [])))] [p1] kr ?_
      have hq := Option.some.inj hj4; subst hq
      exact RunS.done rfl (Wk.sel2 [] kr kr kr trivial ⟨lu kr kr, trivial⟩)
     ·rw [if_f hc7] at hj4
      rw [hc7]
      refine RunS.segF (n := 87) E0_ok 5 [(2, .v (.bool false))] [p1] kr ?_
      have hq := Option.some.inj hj4; subst hq
      exact RunS.done rfl (Wk.sel2 [] kr kr kr trivial ⟨lu kr kr, trivial⟩)
    ·rw [if_f hc6] at hj4
     rw [hc6]
     refine RunS.segF (n := 87) E0_ok 10 [(2, .v (.bool false))] [p1] kr ?_
     have hq := Option.some.inj hj4; subst hq
     exact RunS.done rfl (Wk.sel2 [] kr kr kr trivial ⟨lu kr kr, trivial⟩)
   ·rw [if_f hc5] at hj4
    rw [hc5]
    refine RunS.segF (n := 87) E0_ok 15 [(2, .v (.bool false))] [p1] kr ?_
    have hq := Option.some.inj hj4; subst hq
    exact RunS.done rfl (Wk.sel2 [] kr kr kr trivial ⟨lu kr kr, trivial⟩)
  refine Sem.ret ?_
  have hq := Option.some.inj h; subst hq
  exact ⟨⟨Fr 87 [(2, .v (.bool j4))], []⟩, (Wk.fr kr), .inr rfl, [.v (.bool j4)], kr, kr⟩
 ·rw [if_f hb1] at h
  refine Sem.seq ?_
  refine Sem.sq E0_ok [p2, p3, p4, (28, .v (.bool (x0.1 == 2)))] [p1] ?_
  obtain ⟨r16, hr16, h⟩ := Option.bind_eq_some_iff.1 h
  refine Sem.cut (ref03_formed_j1_ok x0 _ hr16) ?_
  refine Sem.cond (b := r16) kr (fun hb17 => ?_) (fun hb17 => ?_)
  ·rw [if_pos hb17] at h
   refine Sem.seq ?_
   obtain ⟨j19, hj19, h⟩ := Option.bind_eq_some_iff.1 h
   refine Sem.runS (s1 := ⟨Fr 87 [(2, .v (.bool j19))], []⟩) ?_ ?_
   ·refine RunS.segF (n := 87) E0_ok 3 [p2, (35, .v (.bool ((x0.2.2.2.1.length : Int) == 0)))] [p1] kr ?_
    rcases Bool.eq_false_or_eq_true ((x0.2.2.2.1.length : Int) == 0) with hc20 | hc20
    ·rw [if_pos hc20] at hj19
     rw [hc20]
     refine RunS.segF (n := 87) E0_ok 5 [p2, (40, .v (.bool (x0.2.2.2.2 == 0)))] [p1] kr ?_
     rcases Bool.eq_false_or_eq_true (x0.2.2.2.2 == 0) with hc21 | hc21
     ·rw [if_pos hc21] at hj19
      rw [hc21]
      refine RunS.segF (n := 87) E0_ok 5 [(2, .v (.bool (!x0.2.2.1)))] [p1] kr ?_
      have hq := Option.some.inj hj19; subst hq
      exact RunS.done rfl (Wk.sel2 [] kr kr kr trivial ⟨lu kr kr, trivial⟩)
     ·rw [if_f hc21] at hj19
      rw [hc21]
      refine RunS.segF (n := 87) E0_ok 5 [(2, .v (.bool false))] [p1] kr ?_
      have hq := Option.some.inj hj19; subst hq
      exact RunS.done rfl (Wk.sel2 [] kr kr kr trivial ⟨lu kr kr, trivial⟩)
    ·rw [if_f hc20] at hj19
     rw [hc20]
     refine RunS.segF (n := 87) E0_ok 10 [(2, .v (.bool false))] [p1] kr ?_
     have hq := Option.some.inj hj19; subst hq
     exact RunS.done rfl (Wk.sel2 [] kr kr kr trivial ⟨lu kr kr, trivial⟩)
   refine Sem.ret ?_
   have hq := Option.some.inj h; subst hq
   exact ⟨⟨Fr 87 [(2, .v (.bool j19))], []⟩, (Wk.fr kr), .inr rfl, [.v (.bool j19)], kr, kr⟩
  ·rw [if_f hb17] at h
   refine Sem.sq E0_ok [p2, p3, p4, (45, .v (.bool (x0.1 == 4)))] [p1] ?_
   refine Sem.cond (b := (x0.1 == 4)) kr (fun hb22 => ?_) (fun hb22 => ?_)
   ·rw [if_pos hb22] at h
    refine Sem.seq ?_
    obtain ⟨j25, hj25, h⟩ := Option.bind_eq_some_iff.1 h
    refine Sem.runS (s1 := ⟨Fr 87 [(2, .v (.bool j25))], []⟩) ?_ ?_
    ·refine RunS.segF (n := 87) E0_ok 3 [p2, (49, .v (.bool ((x0.2.2.2.1.length : Int) == 0)))] [p1] kr ?_
     rcases Bool.eq_false_or_eq_true ((x0.2.2.2.1.length : Int) == 0) with hc26 | hc26
     ·rw [if_pos hc26] at hj25
      rw [hc26]
      refine RunS.segF (n := 87) E0_ok 2 [(49, .v (.bool true)), (51, .v (.int .i64 x0.2.2.2.2))] [p1] kr ?_
      obtain ⟨v23, hv23, hj25⟩ := Option.bind_eq_some_iff.1 hj25
      refine RunS.callV (caps := []) (xs := [.v (.int .i64 x0.2.2.2.2), .v (.int .i64 1), .v (.int .i64 2)]) (u := (x0.2.2.2.2, 1, 2, ())) rfl rfl x_ref03_between rfl kr kr kr (Sl.cons (Sm.enc (c := cdI) (v := x0.2.2.2.2)) (Sl.cons (Sm.enc (c := cdI) (v := 1)) (Sl.cons (Sm.enc (c := cdI) (v := 2)) Sl.nil))) (.inl kr) hv23 ?_
      refine RunS.segF (n := 87) E0_ok 2 [(2, .v (.bool v23))] [p1] kr ?_
      have hq := Option.some.inj hj25; subst hq
      exact RunS.done rfl (Wk.sel2 [] kr kr kr trivial ⟨lu kr kr, trivial⟩)
     ·rw [if_f hc26] at hj25
      rw [hc26]
      refine RunS.segF (n := 87) E0_ok 5 [(2, .v (.bool false))] [p1] kr ?_
      have hq := Option.some.inj hj25; subst hq
      exact RunS.done rfl (Wk.sel2 [] kr kr kr trivial ⟨lu kr kr, trivial⟩)
    refine Sem.ret ?_
    have hq := Option.some.inj h; subst hq
    exact ⟨⟨Fr 87 [(2, .v (.bool j25))], []⟩, (Wk.fr kr), .inr rfl, [.v (.bool j25)], kr, kr⟩
   ·rw [if_f hb22] at h
    refine Sem.sq E0_ok [p2, p3, p4, (54, .v (.bool (x0.1 == 5)))] [p1] ?_
    refine Sem.cond (b := (x0.1 == 5)) kr (fun hb27 => ?_) (fun hb27 => ?_)
    ·rw [if_pos hb27] at h
     refine Sem.seq ?_
     obtain ⟨j29, hj29, h⟩ := Option.bind_eq_some_iff.1 h
     refine Sem.runS (s1 := ⟨Fr 87 [(2, .v (.bool j29))], []⟩) ?_ ?_
     ·refine RunS.segF (n := 87) E0_ok 3 [p2, (58, .v (.bool ((x0.2.2.2.1.length : Int) == 0)))] [p1] kr ?_
      rcases Bool.eq_false_or_eq_true ((x0.2.2.2.1.length : Int) == 0) with hc30 | hc30
      ·rw [if_pos hc30] at hj29
       rw [hc30]
       refine RunS.segF (n := 87) E0_ok 5 [(2, .v (.bool (x0.2.2.2.2 == 0)))] [p1] kr ?_
       have hq := Option.some.inj hj29; subst hq
       exact RunS.done rfl (Wk.sel2 [] kr kr kr trivial ⟨lu kr kr, trivial⟩)
      ·rw [if_f hc30] at hj29
       rw [hc30]
       refine RunS.segF (n := 87) E0_ok 5 [(2, .v (.bool false))] [p1] kr ?_
       have hq := Option.some.inj hj29; subst hq
       exact RunS.done rfl (Wk.sel2 [] kr kr kr trivial ⟨lu kr kr, trivial⟩)
     refine Sem.ret ?_
     have hq := Option.some.inj h; subst hq
     exact ⟨⟨Fr 87 [(2, .v (.bool j29))], []⟩, (Wk.fr kr), .inr rfl, [.v (.bool j29)], kr, kr⟩
    ·rw [if_f hb27] at h
     refine Sem.seq ?_
     refine Sem.sq E0_ok [p2, p3, p4, (63, .v (.bool (x0.1 == 6)))] [p1] ?_
     obtain ⟨r33, hr33, h⟩ := Option.bind_eq_some_iff.1 h
     refine Sem.cut (ref03_formed_j4_ok x0 _ hr33) ?_
     refine Sem.cond (b := r33) kr (fun hb34 => ?_) (fun hb34 => ?_)
     ·rw [if_pos hb34] at h
      refine Sem.seq ?_
      obtain ⟨v35, hv35, h⟩ := Option.bind_eq_some_iff.1 h
      obtain ⟨j37, hj37, h⟩ := Option.bind_eq_some_iff.1 h
      refine Sem.runS (s1 := ⟨Fr 87 [(2, .v (.bool j37))], []⟩) ?_ ?_
      ·refine RunS.segF (n := 87) E0_ok 1 [p2, (66, .v (.int .i64 (x0.2.2.2.1.length : Int)))] [p1] kr ?_
       refine RunS.callV (caps := []) (xs := [.v (.int .i64 (x0.2.2.2.1.length : Int)), .v (.int .i64 1), .v (.int .i64 16)]) (u := ((x0.2.2.2.1.length : Int), 1, 16, ())) rfl rfl x_ref03_between rfl (wantedA_none rfl) kr kr (Sl.cons (Sm.enc (c := cdI) (v := (x0.2.2.2.1.length : Int))) (Sl.cons (Sm.enc (c := cdI) (v := 1)) (Sl.cons (Sm.enc (c := cdI) (v := 16)) Sl.nil))) (.inl kr) hv35 ?_
       refine RunS.segF (n := 87) E0_ok 1 [p2, (68, .v (.bool v35))] [p1] kr ?_
       rcases Bool.eq_false_or_eq_true v35 with hc38 | hc38
       ·rw [if_pos hc38] at hj37
        rw [hc38]
        refine RunS.segF (n := 87) E0_ok 5 [(2, .v (.bool (x0.2.2.2.2 == 0)))] [p1] kr ?_
        have hq := Option.some.inj hj37; subst hq
        exact RunS.done rfl (Wk.sel2 [] kr kr kr trivial ⟨lu kr kr, trivial⟩)
       ·rw [if_f hc38] at hj37
        rw [hc38]
        refine RunS.segF (n := 87) E0_ok 5 [(2, .v (.bool false))] [p1] kr ?_
        have hq := Option.some.inj hj37; subst hq
        exact RunS.done rfl (Wk.sel2 [] kr kr kr trivial ⟨lu kr kr, trivial⟩)
      refine Sem.ret ?_
      have hq := Option.some.inj h; subst hq
      exact ⟨⟨Fr 87 [(2, .v (.bool j37))], []⟩, (Wk.fr kr), .inr rfl, [.v (.bool j37)], kr, kr⟩
     ·rw [if_f hb34] at h
      refine Sem.sq E0_ok [p2, p3, (73, .v (.bool (x0.1 == 10)))] [p1] ?_
      refine Sem.cond (b := (x0.1 == 10)) kr (fun hb39 => ?_) (fun hb39 => ?_)
      ·rw [if_pos hb39] at h
       refine Sem.seq ?_
       obtain ⟨j42, hj42, h⟩ := Option.bind_eq_some_iff.1 h
       refine Sem.runS (s1 := ⟨Fr 87 [(2, .v (.bool j42))], []⟩) ?_ ?_
       ·refine RunS.segF (n := 87) E0_ok 3 [p2, (77, .v (.bool ((x0.2.2.2.1.length : Int) == 0)))] [p1] kr ?_
        rcases Bool.eq_false_or_eq_true ((x0.2.2.2.1.length : Int) == 0) with hc43 | hc43
        ·rw [if_pos hc43] at hj42
         rw [hc43]
         refine RunS.segF (n := 87) E0_ok 2 [p2, (77, .v (.bool true)), (79, .v (.int .i64 x0.2.2.2.2))] [p1] kr ?_
         obtain ⟨v40, hv40, hj42⟩ := Option.bind_eq_some_iff.1 hj42
         refine RunS.callV (caps := []) (xs := [.v (.int .i64 x0.2.2.2.2), .v (.int .i64 0), .v (.int .i64 63)]) (u := (x0.2.2.2.2, 0, 63, ())) rfl rfl x_ref03_between rfl kr kr kr (Sl.cons (Sm.enc (c := cdI) (v := x0.2.2.2.2)) (Sl.cons (Sm.enc (c := cdI) (v := 0)) (Sl.cons (Sm.enc (c := cdI) (v := 63)) Sl.nil))) (.inl kr) hv40 ?_
         refine RunS.segF (n := 87) E0_ok 2 [p2, (82, .v (.bool v40))] [p1] kr ?_
         rcases Bool.eq_false_or_eq_true v40 with hc44 | hc44
         ·rw [if_pos hc44] at hj42
          rw [hc44]
          refine RunS.segF (n := 87) E0_ok 5 [(2, .v (.bool (!x0.2.2.1)))] [p1] kr ?_
          have hq := Option.some.inj hj42; subst hq
          exact RunS.done rfl (Wk.sel2 [] kr kr kr trivial ⟨lu kr kr, trivial⟩)
         ·rw [if_f hc44] at hj42
          rw [hc44]
          refine RunS.segF (n := 87) E0_ok 5 [(2, .v (.bool false))] [p1] kr ?_
          have hq := Option.some.inj hj42; subst hq
          exact RunS.done rfl (Wk.sel2 [] kr kr kr trivial ⟨lu kr kr, trivial⟩)
        ·rw [if_f hc43] at hj42
         rw [hc43]
         refine RunS.segF (n := 87) E0_ok 10 [(2, .v (.bool false))] [p1] kr ?_
         have hq := Option.some.inj hj42; subst hq
         exact RunS.done rfl (Wk.sel2 [] kr kr kr trivial ⟨lu kr kr, trivial⟩)
       refine Sem.ret ?_
       have hq := Option.some.inj h; subst hq
       exact ⟨⟨Fr 87 [(2, .v (.bool j42))], []⟩, (Wk.fr kr), .inr rfl, [.v (.bool j42)], kr, kr⟩
      ·rw [if_f hb39] at h
       refine Sem.skip ?_
       refine Sem.seq ?_
       refine Sem.runS (s1 := ⟨Fr 87 [(2, .v (.bool false))], []⟩) ?_ ?_
       ·refine RunS.segF (n := 87) E0_ok 1 [(2, .v (.bool false))] [p1] kr ?_
        exact RunS.done rfl (Wk.sel2 [] kr kr kr trivial ⟨lu kr kr, trivial⟩)
       refine Sem.ret ?_
       have hq := Option.some.inj h; subst hq
       exact ⟨⟨Fr 87 [(2, .v (.bool false))], []⟩, (Wk.fr kr), .inr rfl, [.v (.bool false)], kr, kr⟩
def t_ref03_formed : List AV → Option AV := told cs_ref03_formed (fun a => ref03_formed a.1) er_ref03_formed
theorem x_ref03_formed : XOk 136 t_ref03_formed := by
 refine xok_of_sem Tryz.func136 (c := cb_ref03_formed) ?h2 ⟨Tryz.call136⟩ cs_ref03_formed (fun a => ref03_formed a.1) er_ref03_formed (fun a => (by show 1 ≤ 87; decide)) ?h3 ?h4
 case h2 => kernel_rfl
 case h3 => intro b; kernel_rfl
 case h4 => exact fun a b h => ref03_formed_sem a.1 b h
/- trestle/trestlekit.Name -/
noncomputable def cb_kit_Name : Code := codeOf Tryz.f137
def kit_Name_l1 (x0 : (List UInt8)) : Nat → Int → Option ((Unit) ⊕ (Bool))
 | 0, _ => none
 | f + 1, c4 =>
  if (decide (c4 < (x0.length : Int))) = true then
  (idx x0 c4).bind fun v6 =>
  (if (decide ((v6.toNat : Int) < 97)) = true then some true else (idx x0 c4).bind fun v7 =>
  some (decide ((v7.toNat : Int) > 122))).bind fun j9 =>
  if j9 = true then
  some (.inr false)
  else
  kit_Name_l1 x0 f (wr .i64 (c4 + 1))
  else
  some (.inl ())
def kit_Name (x0 : (List UInt8)) : Option (Bool) :=
 (if (decide ((x0.length : Int) < 1)) = true then some true else some (decide ((x0.length : Int) > 12))).bind fun j2 =>
 if j2 = true then
 some false
 else
 (kit_Name_l1 x0 100000 0).bind fun r13 =>
 match r13 with
 | (.inl w14) =>
  some true
 | (.inr w15) =>
  some w15
def cs_kit_Name : Cs ((List UInt8) × Unit) := (csC cdS csN)
def er_kit_Name (r : Bool) : AV := cdB.enc r
theorem kit_Name_l1_ok (x0 : (List UInt8)) : ∀ (f : Nat) (c4 : Int) (r : (Unit) ⊕ (Bool)), kit_Name_l1 x0 f c4 = some r → SemN E0 ⟨none, false⟩ (pc cb_kit_Name [1, 1, 0, 1, 0, 0]) f ⟨Fr 28 [(0, .st x0), (3, .v (.int .i64 c4))], []⟩ (fun e s => match r with
 | (.inl w) => e = (.exit 0) ∧ Wk E0 s ⟨Fr 28 [], []⟩
 | (.inr w) => e = .ret ∧ Wk E0 s ⟨Fr 28 [(2, .v (.bool w))], []⟩) := by
 intro f
 induction f with
 | zero => intro c4 r h; cases h
 | succ f ih0 =>
  intro c4 r h
  have ih := fun (c4 : Int) => ih0 c4 r
  unfold kit_Name_l1 at h
  refine SemN.succ ?_
  refine Sem.seq ?_
  let p1 : Nat × AV := (3, .v (.int .i64 c4))
  refine Sem.sq E0_ok [(0, .st x0), p1, (15, .v (.bool (decide (c4 < (x0.length : Int)))))] [] ?_
  refine Sem.cond (b := (decide (c4 < (x0.length : Int)))) kr (fun hb5 => ?_) (fun hb5 => ?_)
  ·rw [if_pos hb5] at h
   refine Sem.skip ?_
   refine Sem.seq ?_
   refine Sem.block ?_
   refine Sem.seq ?_
   obtain ⟨v6, hv6, h⟩ := Option.bind_eq_some_iff.1 h
   obtain ⟨j9, hj9, h⟩ := Option.bind_eq_some_iff.1 h
   refine Sem.runS (s1 := ⟨Fr 28 [(0, .st x0), p1, (27, .v (.bool j9))], []⟩) ?_ ?_
   ·refine RunS.segF (n := 28) E0_ok 2 [(0, .st x0), p1, (18, .st x0), (19, .v (.int .i64 c4))] [] kr ?_
    refine RunS.one E0_ok 0 rfl (op_q (wantedA_none rfl) rfl (q_index (a := .st x0) (b := .v (.int .i64 c4)) kr kr (index_st (bs := x0) (ki := .i64) kr hv6))) ?_
    refine RunS.segF (n := 28) E0_ok 2 [(0, .st x0), p1, (22, .v (.bool (decide ((v6.toNat : Int) < 97))))] [] kr ?_
    rcases Bool.eq_false_or_eq_true (decide ((v6.toNat : Int) < 97)) with hc12 | hc12
    ·rw [if_pos hc12] at hj9
     rw [hc12]
     refine RunS.segF (n := 28) E0_ok 5 [(0, .st x0), p1, (23, .tp []), (24, .tp []), (25, .tp []), (26, .tp []), (27, .v (.bool true))] [] kr ?_
     have hq := Option.some.inj hj9; subst hq
     exact RunS.done rfl (Wk.fr kr)
    ·rw [if_f hc12] at hj9
     rw [hc12]
     refine RunS.segF (n := 28) E0_ok 2 [(0, .st x0), p1, (22, .v (.bool false)), (23, .st x0), (24, .v (.int .i64 c4))] [] kr ?_
     obtain ⟨v7, hv7, hj9⟩ := Option.bind_eq_some_iff.1 hj9
     refine RunS.one E0_ok 0 rfl (op_q kr rfl (q_index (a := .st x0) (b := .v (.int .i64 c4)) kr kr (index_st (bs := x0) (ki := .i64) kr hv7))) ?_
     refine RunS.segF (n := 28) E0_ok 2 [(0, .st x0), p1, (23, .st x0), (24, .v (.int .i64 c4)), (25, .v (.int .u8 (v7.toNat : Int))), (26, .v (.bool (decide ((v7.toNat : Int) > 122)))), (27, .v (.bool (decide ((v7.toNat : Int) > 122))))] [] kr ?_
     have hq := Option.some.inj hj9; subst hq
     exact RunS.done rfl (Wk.fr kr)
   refine Sem.cond (b := j9) kr (fun hb10 => ?_) (fun hb10 => ?_)
   ·rw [if_pos hb10] at h
    refine Sem.sq E0_ok [(2, .v (.bool false))] [] ?_
    refine Sem.ret ?_
    have hq := Option.some.inj h; subst hq
    exact ⟨rfl, (Wk.fr kr)⟩
   ·rw [if_f hb10] at h
    refine Sem.skip ?_
    let p2 : Nat × AV := (3, .v (.int .i64 (wr .i64 (c4 + 1))))
    refine Sem.rg E0_ok [(0, .st x0), p2] [] ?_
    exact SemN.wk (s1 := ⟨Fr 28 [(0, .st x0), p2], []⟩) (Wk.fr kr) (ih (wr .i64 (c4 + 1)) h)
  ·rw [if_f hb5] at h
   refine Sem.exit ?_
   have hq := Option.some.inj h; subst hq
   exact ⟨rfl, (Wk.fr kr)⟩
theorem kit_Name_sem (x0 : (List UInt8)) (r : Bool) (h : kit_Name x0 = some r) : Sem E0 ⟨none, false⟩ cb_kit_Name ⟨Fr 28 (pairs0 0 (cs_kit_Name.enc (x0, ()))), []⟩ fun e s' => (e = .normal ∨ e = .ret) ∧ ∃ xs, resA E0.P s'.fr s'.hp Tryz.f137.results.toList = some xs ∧ retA xs = er_kit_Name r := by
 unfold kit_Name at h
 refine Sem.wkQ (Sem.wk (s1 := ⟨Fr 28 [(0, .st x0)], []⟩) (Wk.fr kr) ?_)
 refine Sem.sq E0_ok [(0, .st x0)] [] ?_
 refine Sem.seq ?_
 refine Sem.seq ?_
 obtain ⟨j2, hj2, h⟩ := Option.bind_eq_some_iff.1 h
 refine Sem.runS (s1 := ⟨Fr 28 [(0, .st x0), (11, .v (.bool j2))], []⟩) ?_ ?_
 ·refine RunS.segF (n := 28) E0_ok 4 [(0, .st x0), (7, .v (.bool (decide ((x0.length : Int) < 1))))] [] kr ?_
  rcases Bool.eq_false_or_eq_true (decide ((x0.length : Int) < 1)) with hc16 | hc16
  ·rw [if_pos hc16] at hj2
   rw [hc16]
   refine RunS.segF (n := 28) E0_ok 4 [(0, .st x0), (11, .v (.bool true))] [] kr ?_
   have hq := Option.some.inj hj2; subst hq
   exact RunS.done rfl (Wk.fr kr)
  ·rw [if_f hc16] at hj2
   rw [hc16]
   refine RunS.segF (n := 28) E0_ok 4 [(0, .st x0), (11, .v (.bool (decide ((x0.length : Int) > 12))))] [] kr ?_
   have hq := Option.some.inj hj2; subst hq
   exact RunS.done rfl (Wk.fr kr)
 refine Sem.cond (b := j2) kr (fun hb3 => ?_) (fun hb3 => ?_)
 ·rw [if_pos hb3] at h
  refine Sem.sq E0_ok [(2, .v (.bool false))] [] ?_
  refine Sem.ret ?_
  have hq := Option.some.inj h; subst hq
  exact ⟨⟨Fr 28 [(2, .v (.bool false))], []⟩, (Wk.fr kr), .inr rfl, [.v (.bool false)], kr, kr⟩
 ·rw [if_f hb3] at h
  refine Sem.skip ?_
  refine Sem.seq ?_
  let p1 : Nat × AV := (3, .v (.int .i64 0))
  refine Sem.sq E0_ok [(0, .st x0), p1] [] ?_
  refine Sem.block ?_
  obtain ⟨r13, hr13, h⟩ := Option.bind_eq_some_iff.1 h
  refine Sem.loop (n := 100000) ?_
  rcases r13 with w14 | w15
  ·try dsimp only at h
   refine Sem.cutN (SemN.wk (s1 := ⟨Fr 28 [(0, .st x0), p1], []⟩) (Wk.fr kr) (kit_Name_l1_ok x0 _ 0 _ hr13)) ?_
   refine Sem.sq E0_ok [(2, .v (.bool true))] [] ?_
   refine Sem.ret ?_
   have hq := Option.some.inj h; subst hq
   exact ⟨⟨Fr 28 [(2, .v (.bool true))], []⟩, (Wk.fr kr), .inr rfl, [.v (.bool true)], kr, kr⟩
  ·try dsimp only at h
   refine Sem.cutN (SemN.wk (s1 := ⟨Fr 28 [(0, .st x0), p1], []⟩) (Wk.fr kr) (kit_Name_l1_ok x0 _ 0 _ hr13)) ?_
   have hq := Option.some.inj h; subst hq
   exact ⟨⟨Fr 28 [(2, .v (.bool w15))], []⟩, (Wk.fr kr), .inr rfl, [.v (.bool w15)], kr, kr⟩
def t_kit_Name : List AV → Option AV := told cs_kit_Name (fun a => kit_Name a.1) er_kit_Name
theorem x_kit_Name : XOk 137 t_kit_Name := by
 refine xok_of_sem Tryz.func137 (c := cb_kit_Name) ?h2 ⟨Tryz.call137⟩ cs_kit_Name (fun a => kit_Name a.1) er_kit_Name (fun a => (by show 1 ≤ 28; decide)) ?h3 ?h4
 case h2 => kernel_rfl
 case h3 => intro b; kernel_rfl
 case h4 => exact fun a b h => kit_Name_sem a.1 b h
/- trestle/trestleref03.has -/
noncomputable def cb_ref03_has : Code := codeOf Tryz.f138
def ref03_has_l1 (x0 : (List (List UInt8))) (x1 : (List UInt8)) : Nat → Int → Option ((Unit) ⊕ (Bool))
 | 0, _ => none
 | f + 1, c1 =>
  if (decide (c1 < (x0.length : Int))) = true then
  (idx x0 c1).bind fun v3 =>
  if (v3 == x1) = true then
  some (.inr true)
  else
  ref03_has_l1 x0 x1 f (wr .i64 (c1 + 1))
  else
  some (.inl ())
def ref03_has (x0 : (List (List UInt8))) (x1 : (List UInt8)) : Option (Bool) :=
 (ref03_has_l1 x0 x1 100000 0).bind fun r6 =>
 match r6 with
 | (.inl w7) =>
  some false
 | (.inr w8) =>
  some w8
def cs_ref03_has : Cs ((List (List UInt8)) × (List UInt8) × Unit) := (csC (cdL 1 cdS) (csC cdS csN))
def er_ref03_has (r : Bool) : AV := cdB.enc r
theorem ref03_has_l1_ok (x0 : (List (List UInt8))) (x1 : (List UInt8)) : ∀ (f : Nat) (c1 : Int) (r : (Unit) ⊕ (Bool)), ref03_has_l1 x0 x1 f c1 = some r → SemN E0 ⟨none, false⟩ (pc cb_ref03_has [1, 0, 1, 0, 0]) f ⟨Fr 18 [(0, .sl 1 (x0.map cdS.enc)), (1, .st x1), (5, .v (.int .i64 c1))], []⟩ (fun e s => match r with
 | (.inl w) => e = (.exit 0) ∧ Wk E0 s ⟨Fr 18 [], []⟩
 | (.inr w) => e = .ret ∧ Wk E0 s ⟨Fr 18 [(4, .v (.bool w))], []⟩) := by
 intro f
 induction f with
 | zero => intro c1 r h; cases h
 | succ f ih0 =>
  intro c1 r h
  have ih := fun (c1 : Int) => ih0 c1 r
  unfold ref03_has_l1 at h
  refine SemN.succ ?_
  refine Sem.seq ?_
  refine Sem.seq ?_
  let p1 : Nat × AV := (5, .v (.int .i64 c1))
  let p2 : Nat × AV := (0, .sl 1 (x0.map cdS.enc))
  refine Sem.runS (s1 := ⟨Fr 18 [p2, (1, .st x1), p1, (9, .v (.bool (decide (c1 < (x0.length : Int)))))], []⟩) ?_ ?_
  ·refine RunS.segF (n := 18) E0_ok 2 [p2, (1, .st x1), p1, (6, .v (.int .i64 c1)), (7, .sl 1 (x0.map cdS.enc))] [] kr ?_
   refine RunS.one E0_ok 0 rfl (op_q (wantedA_none rfl) rfl (q_len (a := .sl 1 (x0.map cdS.enc)) kr (len_sl (el := 9) kr))) ?_
   exact RunS.last E0_ok
  refine Sem.cond (b := (decide (c1 < (x0.length : Int)))) kr (fun hb2 => ?_) (fun hb2 => ?_)
  ·rw [if_pos hb2] at h
   refine Sem.skip ?_
   refine Sem.seq ?_
   refine Sem.block ?_
   refine Sem.seq ?_
   obtain ⟨v3, hv3, h⟩ := Option.bind_eq_some_iff.1 h
   refine Sem.runS (s1 := ⟨Fr 18 [p2, (1, .st x1), p1, (17, .v (.bool (v3 == x1)))], []⟩) ?_ ?_
   ·refine RunS.segF (n := 18) E0_ok 2 [p2, (1, .st x1), p1, (12, .sl 1 (x0.map cdS.enc)), (13, .v (.int .i64 c1))] [] kr ?_
    refine RunS.one E0_ok 0 rfl (op_q (wantedA_none rfl) rfl (q_indexAddr (a := .sl 1 (x0.map cdS.enc)) (b := .v (.int .i64 c1)) kr kr (ix_sl (e := cdS.enc) (el := 9) (k := 1) (ki := .i64) kr kr hv3))) ?_
    exact RunS.last E0_ok
   refine Sem.cond (b := (v3 == x1)) kr (fun hb4 => ?_) (fun hb4 => ?_)
   ·rw [if_pos hb4] at h
    refine Sem.sq E0_ok [(4, .v (.bool true))] [] ?_
    refine Sem.ret ?_
    have hq := Option.some.inj h; subst hq
    exact ⟨rfl, (Wk.fr kr)⟩
   ·rw [if_f hb4] at h
    refine Sem.skip ?_
    let p3 : Nat × AV := (5, .v (.int .i64 (wr .i64 (c1 + 1))))
    refine Sem.rg E0_ok [p2, (1, .st x1), p3] [] ?_
    exact SemN.wk (s1 := ⟨Fr 18 [p2, (1, .st x1), p3], []⟩) (Wk.fr kr) (ih (wr .i64 (c1 + 1)) h)
  ·rw [if_f hb2] at h
   refine Sem.exit ?_
   have hq := Option.some.inj h; subst hq
   exact ⟨rfl, (Wk.fr kr)⟩
theorem ref03_has_sem (x0 : (List (List UInt8))) (x1 : (List UInt8)) (r : Bool) (h : ref03_has x0 x1 = some r) : Sem E0 ⟨none, false⟩ cb_ref03_has ⟨Fr 18 (pairs0 0 (cs_ref03_has.enc (x0, x1, ()))), []⟩ fun e s' => (e = .normal ∨ e = .ret) ∧ ∃ xs, resA E0.P s'.fr s'.hp Tryz.f138.results.toList = some xs ∧ retA xs = er_ref03_has r := by
 unfold ref03_has at h
 let p1 : Nat × AV := (0, .sl 1 (x0.map cdS.enc))
 refine Sem.wkQ (Sem.wk (s1 := ⟨Fr 18 [p1, (1, .st x1)], []⟩) (Wk.fr kr) ?_)
 refine Sem.sq E0_ok [p1, (1, .st x1)] [] ?_
 refine Sem.seq ?_
 let p2 : Nat × AV := (5, .v (.int .i64 0))
 refine Sem.sq E0_ok [p1, (1, .st x1), p2] [] ?_
 refine Sem.block ?_
 obtain ⟨r6, hr6, h⟩ := Option.bind_eq_some_iff.1 h
 refine Sem.loop (n := 100000) ?_
 rcases r6 with w7 | w8
 ·try dsimp only at h
  refine Sem.cutN (SemN.wk (s1 := ⟨Fr 18 [p1, (1, .st x1), p2], []⟩) (Wk.fr kr) (ref03_has_l1_ok x0 x1 _ 0 _ hr6)) ?_
  refine Sem.sq E0_ok [(4, .v (.bool false))] [] ?_
  refine Sem.ret ?_
  have hq := Option.some.inj h; subst hq
  exact ⟨⟨Fr 18 [(4, .v (.bool false))], []⟩, (Wk.fr kr), .inr rfl, [.v (.bool false)], kr, kr⟩
 ·try dsimp only at h
  refine Sem.cutN (SemN.wk (s1 := ⟨Fr 18 [p1, (1, .st x1), p2], []⟩) (Wk.fr kr) (ref03_has_l1_ok x0 x1 _ 0 _ hr6)) ?_
  have hq := Option.some.inj h; subst hq
  exact ⟨⟨Fr 18 [(4, .v (.bool w8))], []⟩, (Wk.fr kr), .inr rfl, [.v (.bool w8)], kr, kr⟩
def t_ref03_has : List AV → Option AV := told cs_ref03_has (fun a => ref03_has a.1 a.2.1) er_ref03_has
theorem x_ref03_has : XOk 138 t_ref03_has := by
 refine xok_of_sem Tryz.func138 (c := cb_ref03_has) ?h2 ⟨Tryz.call138⟩ cs_ref03_has (fun a => ref03_has a.1 a.2.1) er_ref03_has (fun a => (by show 2 ≤ 18; decide)) ?h3 ?h4
 case h2 => kernel_rfl
 case h3 => intro b; kernel_rfl
 case h4 => exact fun a b h => ref03_has_sem a.1 a.2.1 b h
/- trestle/trestleref03.CheckOne -/
noncomputable def cb_ref03_CheckOne : Code := codeOf Tryz.f101
def ref03_CheckOne_l1 (x0 : (List Clause)) (x1 : Int) : Nat → Int → Option ((Unit) ⊕ (Int))
 | 0, _ => none
 | f + 1, c10 =>
  (idx x0 x1).bind fun v11 =>
  if (decide (c10 < (v11.2.2.2.1.length : Int))) = true then
  (idx x0 x1).bind fun v13 =>
  (idx v13.2.2.2.1 c10).bind fun v14 =>
  (kit_Name v14).bind fun v15 =>
  if (!v15) = true then
  some (.inr 4)
  else
  ref03_CheckOne_l1 x0 x1 f (wr .i64 (c10 + 1))
  else
  some (.inl ())
def ref03_CheckOne_l2 (x0 : (List Clause)) (x1 : Int) : Nat → Int → Option ((Unit) ⊕ (Int))
 | 0, _ => none
 | f + 1, c20 =>
  (idx x0 x1).bind fun v21 =>
  if (decide (c20 < (v21.2.2.2.1.length : Int))) = true then
  (idx x0 x1).bind fun v23 =>
  if (cutOk 0 c20 v23.2.2.2.1.length) = true then
  (idx x0 x1).bind fun v25 =>
  (idx v25.2.2.2.1 c20).bind fun v26 =>
  (ref03_has ((v23.2.2.2.1.take c20.toNat).drop (0 : Int).toNat) v26).bind fun v27 =>
  if v27 = true then
  some (.inr 5)
  else
  ref03_CheckOne_l2 x0 x1 f (wr .i64 (c20 + 1))
  else none
  else
  some (.inl ())
def ref03_CheckOne_l3 (x0 : (List Clause)) (x1 : Int) : Nat → Int → Option ((Unit) ⊕ (Int))
 | 0, _ => none
 | f + 1, c34 =>
  if (decide (c34 < x1)) = true then
  (idx x0 c34).bind fun v36 =>
  (if (v36.1 == 1) = true then (idx x0 c34).bind fun v37 =>
  (idx x0 x1).bind fun v38 =>
  (ref03_has v37.2.2.2.1 v38.2.1).bind fun v39 =>
  some v39 else some false).bind fun j41 =>
  if j41 = true then
  some (.inr 0)
  else
  ref03_CheckOne_l3 x0 x1 f (wr .i64 (c34 + 1))
  else
  some (.inl ())
def ref03_CheckOne (x0 : (List Clause)) (x1 : Int) : Option (Int) :=
 (idx x0 x1).bind fun v1 =>
 (ref03_formed v1).bind fun v2 =>
 if (!v2) = true then
 some 30
 else
 (idx x0 x1).bind fun v4 =>
 (if (!(v4.2.1 == [])) = true then (idx x0 x1).bind fun v5 =>
 (kit_Name v5.2.1).bind fun v6 =>
 some (!v6) else some false).bind fun j8 =>
 if j8 = true then
 some 4
 else
 (ref03_CheckOne_l1 x0 x1 100000 0).bind fun r18 =>
 match r18 with
 | (.inl w19) =>
  (ref03_CheckOne_l2 x0 x1 100000 0).bind fun r30 =>
  match r30 with
  | (.inl w31) =>
   (idx x0 x1).bind fun v32 =>
   if (v32.2.1 == []) = true then
   some 0
   else
   (ref03_CheckOne_l3 x0 x1 100000 0).bind fun r45 =>
   match r45 with
   | (.inl w46) =>
    some 31
   | (.inr w47) =>
    some w47
  | (.inr w48) =>
   some w48
 | (.inr w49) =>
  some w49
def cs_ref03_CheckOne : Cs ((List Clause) × Int × Unit) := (csC (cdL 5 cdClause) (csC cdI csN))
def er_ref03_CheckOne (r : Int) : AV := cdI.enc r
theorem ref03_CheckOne_l1_ok (x0 : (List Clause)) (x1 : Int) : ∀ (f : Nat) (c10 : Int) (r : (Unit) ⊕ (Int)), ref03_CheckOne_l1 x0 x1 f c10 = some r → SemN E0 ⟨none, false⟩ (pc cb_ref03_CheckOne [1, 1, 1, 0, 1, 0, 0]) f ⟨Fr 105 [(0, .sl 5 (x0.map cdClause.enc)), (1, .v (.int .i64 x1)), (5, .v (.int .i64 c10))], []⟩ (fun e s => match r with
 | (.inl w) => e = (.exit 0) ∧ Wk E0 s ⟨Fr 105 [(0, .sl 5 (x0.map cdClause.enc)), (1, .v (.int .i64 x1))], []⟩
 | (.inr w) => e = .ret ∧ Wk E0 s ⟨Fr 105 [(4, .v (.int .i64 w))], []⟩) := by
 intro f
 induction f with
 | zero => intro c10 r h; cases h
 | succ f ih0 =>
  intro c10 r h
  have ih := fun (c10 : Int) => ih0 c10 r
  unfold ref03_CheckOne_l1 at h
  refine SemN.succ ?_
  refine Sem.seq ?_
  refine Sem.seq ?_
  obtain ⟨v11, hv11, h⟩ := Option.bind_eq_some_iff.1 h
  let p1 : Nat × AV := (5, .v (.int .i64 c10))
  let p2 : Nat × AV := (1, .v (.int .i64 x1))
  let p3 : Nat × AV := (0, .sl 5 (x0.map cdClause.enc))
  refine Sem.runS (s1 := ⟨Fr 105 [p3, p2, p1, (36, .v (.bool (decide (c10 < (v11.2.2.2.1.length : Int)))))], []⟩) ?_ ?_
  ·refine RunS.segF (n := 105) E0_ok 3 [p3, p2, p1, (29, .v (.int .i64 c10)), (30, .sl 5 (x0.map cdClause.enc)), (31, .v (.int .i64 x1))] [] kr ?_
   refine RunS.one E0_ok 0 rfl (op_q (wantedA_none rfl) rfl (q_indexAddr (a := .sl 5 (x0.map cdClause.enc)) (b := .v (.int .i64 x1)) kr kr (ix_sl (e := cdClause.enc) (el := 70) (k := 5) (ki := .i64) kr kr hv11))) ?_
   refine RunS.segF (n := 105) E0_ok 2 [p3, p2, p1, (29, .v (.int .i64 c10)), (34, .sl 1 (v11.2.2.2.1.map cdS.enc))] [] kr ?_
   refine RunS.one E0_ok 0 rfl (op_q (wantedA_none rfl) rfl (q_len (a := .sl 1 (v11.2.2.2.1.map cdS.enc)) kr (len_sl (el := 9) kr))) ?_
   exact RunS.last E0_ok
  refine Sem.cond (b := (decide (c10 < (v11.2.2.2.1.length : Int)))) kr (fun hb12 => ?_) (fun hb12 => ?_)
  ·rw [if_pos hb12] at h
   refine Sem.skip ?_
   refine Sem.seq ?_
   refine Sem.block ?_
   refine Sem.seq ?_
   obtain ⟨v13, hv13, h⟩ := Option.bind_eq_some_iff.1 h
   obtain ⟨v14, hv14, h⟩ := Option.bind_eq_some_iff.1 h
   obtain ⟨v15, hv15, h⟩ := Option.bind_eq_some_iff.1 h
   refine Sem.runS (s1 := ⟨Fr 105 [p3, p2, p1, (48, .v (.bool (!v15)))], []⟩) ?_ ?_
   ·refine RunS.segF (n := 105) E0_ok 2 [p3, p2, p1, (39, .sl 5 (x0.map cdClause.enc)), (40, .v (.int .i64 x1))] [] kr ?_
    refine RunS.one E0_ok 0 rfl (op_q (wantedA_none rfl) rfl (q_indexAddr (a := .sl 5 (x0.map cdClause.enc)) (b := .v (.int .i64 x1)) kr kr (ix_sl (e := cdClause.enc) (el := 70) (k := 5) (ki := .i64) kr kr hv13))) ?_
    refine RunS.segF (n := 105) E0_ok 3 [p3, p2, p1, (43, .sl 1 (v13.2.2.2.1.map cdS.enc)), (44, .v (.int .i64 c10))] [] kr ?_
    refine RunS.one E0_ok 0 rfl (op_q (wantedA_none rfl) rfl (q_indexAddr (a := .sl 1 (v13.2.2.2.1.map cdS.enc)) (b := .v (.int .i64 c10)) kr kr (ix_sl (e := cdS.enc) (el := 9) (k := 1) (ki := .i64) kr kr hv14))) ?_
    refine RunS.segF (n := 105) E0_ok 1 [p3, p2, p1, (46, .st v14)] [] kr ?_
    refine RunS.callV (caps := []) (xs := [.st v14]) (u := (v14, ())) rfl rfl x_kit_Name rfl (wantedA_none rfl) kr kr (Sl.cons (Sm.enc (c := cdS) (v := v14)) Sl.nil) (.inl kr) hv15 ?_
    exact RunS.last E0_ok
   refine Sem.cond (b := (!v15)) kr (fun hb16 => ?_) (fun hb16 => ?_)
   ·rw [if_pos hb16] at h
    refine Sem.sq E0_ok [(4, .v (.int .i64 4))] [] ?_
    refine Sem.ret ?_
    have hq := Option.some.inj h; subst hq
    exact ⟨rfl, (Wk.fr kr)⟩
   ·rw [if_f hb16] at h
    refine Sem.skip ?_
    let p4 : Nat × AV := (5, .v (.int .i64 (wr .i64 (c10 + 1))))
    refine Sem.rg E0_ok [p3, p2, p4] [] ?_
    exact SemN.wk (s1 := ⟨Fr 105 [p3, p2, p4], []⟩) (Wk.fr kr) (ih (wr .i64 (c10 + 1)) h)
  ·rw [if_f hb12] at h
   refine Sem.exit ?_
   have hq := Option.some.inj h; subst hq
   exact ⟨rfl, (Wk.fr kr)⟩
theorem ref03_CheckOne_l2_ok (x0 : (List Clause)) (x1 : Int) : ∀ (f : Nat) (c20 : Int) (r : (Unit) ⊕ (Int)), ref03_CheckOne_l2 x0 x1 f c20 = some r → SemN E0 ⟨none, false⟩ (pc cb_ref03_CheckOne [1, 1, 1, 1, 0, 1, 0, 0]) f ⟨Fr 105 [(0, .sl 5 (x0.map cdClause.enc)), (1, .v (.int .i64 x1)), (6, .v (.int .i64 c20))], []⟩ (fun e s => match r with
 | (.inl w) => e = (.exit 2) ∧ Wk E0 s ⟨Fr 105 [(0, .sl 5 (x0.map cdClause.enc)), (1, .v (.int .i64 x1))], []⟩
 | (.inr w) => e = .ret ∧ Wk E0 s ⟨Fr 105 [(4, .v (.int .i64 w))], []⟩) := by
 intro f
 induction f with
 | zero => intro c20 r h; cases h
 | succ f ih0 =>
  intro c20 r h
  have ih := fun (c20 : Int) => ih0 c20 r
  unfold ref03_CheckOne_l2 at h
  refine SemN.succ ?_
  refine Sem.seq ?_
  refine Sem.seq ?_
  obtain ⟨v21, hv21, h⟩ := Option.bind_eq_some_iff.1 h
  let p1 : Nat × AV := (6, .v (.int .i64 c20))
  let p2 : Nat × AV := (1, .v (.int .i64 x1))
  let p3 : Nat × AV := (0, .sl 5 (x0.map cdClause.enc))
  refine Sem.runS (s1 := ⟨Fr 105 [p3, p2, p1, (56, .v (.bool (decide (c20 < (v21.2.2.2.1.length : Int)))))], []⟩) ?_ ?_
  ·refine RunS.segF (n := 105) E0_ok 3 [p3, p2, p1, (49, .v (.int .i64 c20)), (50, .sl 5 (x0.map cdClause.enc)), (51, .v (.int .i64 x1))] [] kr ?_
   refine RunS.one E0_ok 0 rfl (op_q (wantedA_none rfl) rfl (q_indexAddr (a := .sl 5 (x0.map cdClause.enc)) (b := .v (.int .i64 x1)) kr kr (ix_sl (e := cdClause.enc) (el := 70) (k := 5) (ki := .i64) kr kr hv21))) ?_
   refine RunS.segF (n := 105) E0_ok 2 [p3, p2, p1, (49, .v (.int .i64 c20)), (54, .sl 1 (v21.2.2.2.1.map cdS.enc))] [] kr ?_
   refine RunS.one E0_ok 0 rfl (op_q (wantedA_none rfl) rfl (q_len (a := .sl 1 (v21.2.2.2.1.map cdS.enc)) kr (len_sl (el := 9) kr))) ?_
   exact RunS.last E0_ok
  refine Sem.cond (b := (decide (c20 < (v21.2.2.2.1.length : Int)))) kr (fun hb22 => ?_) (fun hb22 => ?_)
  ·rw [if_pos hb22] at h
   refine Sem.skip ?_
   refine Sem.seq ?_
   refine Sem.block ?_
   refine Sem.seq ?_
   obtain ⟨v23, hv23, h⟩ := Option.bind_eq_some_iff.1 h
   by_cases hk24 : (cutOk 0 c20 v23.2.2.2.1.length) = true
   case neg => rw [if_neg hk24] at h; cases h
   rw [if_pos hk24] at h
   obtain ⟨v25, hv25, h⟩ := Option.bind_eq_some_iff.1 h
   obtain ⟨v26, hv26, h⟩ := Option.bind_eq_some_iff.1 h
   obtain ⟨v27, hv27, h⟩ := Option.bind_eq_some_iff.1 h
   refine Sem.runDS E0_ok (s1 := ⟨Fr 105 [p3, p2, p1, (74, .v (.bool v27))], []⟩) kr ?_ ?_
   ·refine RunDS.segF (n := 105) E0_ok 2 [p3, p2, p1, (59, .sl 5 (x0.map cdClause.enc)), (60, .v (.int .i64 x1))] [] kr kr ?_
    refine RunDS.one E0_ok rfl kr (opd_q kr (wantedA_none rfl) rfl (q_indexAddr (a := .sl 5 (x0.map cdClause.enc)) (b := .v (.int .i64 x1)) kr kr (ix_sl (e := cdClause.enc) (el := 70) (k := 5) (ki := .i64) kr kr hv23)) kr) ?_
    refine RunDS.segF (n := 105) E0_ok 3 [p3, p2, p1, (63, .sl 1 (v23.2.2.2.1.map cdS.enc)), (64, .v (.int .i64 c20))] [] kr kr ?_
    refine RunDS.one E0_ok rfl kr (opd_q kr (wantedA_none rfl) rfl (q_slice (a := .sl 1 (v23.2.2.2.1.map cdS.enc)) (l := none) (u := (some (.v (.int .i64 c20)))) (m := none) kr kr kr rfl (slice_sl (xs := v23.2.2.2.1) (e := cdS.enc) (k := 1) (el := 9) (lo := 0) (hi := c20) kr kr rfl (natB_i (cut_hi hk24)) hk24)) kr) ?_
    let p4 : Nat × AV := (65, .sl 1 (((v23.2.2.2.1.take c20.toNat).drop (0 : Int).toNat).map cdS.enc))
    refine RunDS.segF (n := 105) E0_ok 2 [p3, p2, p1, p4, (66, .sl 5 (x0.map cdClause.enc)), (67, .v (.int .i64 x1))] [] kr kr ?_
    refine RunDS.one E0_ok rfl kr (opd_q kr (wantedA_none rfl) rfl (q_indexAddr (a := .sl 5 (x0.map cdClause.enc)) (b := .v (.int .i64 x1)) kr kr (ix_sl (e := cdClause.enc) (el := 70) (k := 5) (ki := .i64) kr kr hv25)) kr) ?_
    refine RunDS.segF (n := 105) E0_ok 3 [p3, p2, p1, p4, (70, .sl 1 (v25.2.2.2.1.map cdS.enc)), (71, .v (.int .i64 c20))] [] kr kr ?_
    refine RunDS.one E0_ok rfl kr (opd_q kr (wantedA_none rfl) rfl (q_indexAddr (a := .sl 1 (v25.2.2.2.1.map cdS.enc)) (b := .v (.int .i64 c20)) kr kr (ix_sl (e := cdS.enc) (el := 9) (k := 1) (ki := .i64) kr kr hv26)) kr) ?_
    refine RunDS.segF (n := 105) E0_ok 1 [p3, p2, p1, p4, (73, .st v26)] [] kr kr ?_
    refine RunDS.callV (caps := []) (xs := [.sl 1 (((v23.2.2.2.1.take c20.toNat).drop (0 : Int).toNat).map cdS.enc), .st v26]) (u := (((v23.2.2.2.1.take c20.toNat).drop (0 : Int).toNat), v26, ())) rfl rfl x_ref03_has rfl (wantedA_none rfl) kr kr (Sl.cons (Sm.enc (c := (cdL 1 cdS)) (v := ((v23.2.2.2.1.take c20.toNat).drop (0 : Int).toNat))) (Sl.cons (Sm.enc (c := cdS) (v := v26)) Sl.nil)) kr hv27 ?_
    exact RunDS.done rfl (Wk.fr kr)
   refine Sem.cond (b := v27) kr (fun hb28 => ?_) (fun hb28 => ?_)
   ·rw [if_pos hb28] at h
    refine Sem.sq E0_ok [(4, .v (.int .i64 5))] [] ?_
    refine Sem.ret ?_
    have hq := Option.some.inj h; subst hq
    exact ⟨rfl, (Wk.fr kr)⟩
   ·rw [if_f hb28] at h
    refine Sem.skip ?_
    let p5 : Nat × AV := (6, .v (.int .i64 (wr .i64 (c20 + 1))))
    refine Sem.rg E0_ok [p3, p2, p5] [] ?_
    exact SemN.wk (s1 := ⟨Fr 105 [p3, p2, p5], []⟩) (Wk.fr kr) (ih (wr .i64 (c20 + 1)) h)
  ·rw [if_f hb22] at h
   refine Sem.exit ?_
   have hq := Option.some.inj h; subst hq
   exact ⟨rfl, (Wk.fr kr)⟩
theorem ref03_CheckOne_l3_ok (x0 : (List Clause)) (x1 : Int) : ∀ (f : Nat) (c34 : Int) (r : (Unit) ⊕ (Int)), ref03_CheckOne_l3 x0 x1 f c34 = some r → SemN E0 ⟨none, false⟩ (pc cb_ref03_CheckOne [1, 1, 1, 1, 1, 1, 0, 1, 0, 0]) f ⟨Fr 105 [(0, .sl 5 (x0.map cdClause.enc)), (1, .v (.int .i64 x1)), (7, .v (.int .i64 c34))], []⟩ (fun e s => match r with
 | (.inl w) => e = (.exit 4) ∧ Wk E0 s ⟨Fr 105 [], []⟩
 | (.inr w) => e = .ret ∧ Wk E0 s ⟨Fr 105 [(4, .v (.int .i64 w))], []⟩) := by
 intro f
 induction f with
 | zero => intro c34 r h; cases h
 | succ f ih0 =>
  intro c34 r h
  have ih := fun (c34 : Int) => ih0 c34 r
  unfold ref03_CheckOne_l3 at h
  refine SemN.succ ?_
  refine Sem.seq ?_
  let p1 : Nat × AV := (7, .v (.int .i64 c34))
  let p2 : Nat × AV := (1, .v (.int .i64 x1))
  let p3 : Nat × AV := (0, .sl 5 (x0.map cdClause.enc))
  refine Sem.sq E0_ok [p3, p2, p1, (83, .v (.bool (decide (c34 < x1))))] [] ?_
  refine Sem.cond (b := (decide (c34 < x1))) kr (fun hb35 => ?_) (fun hb35 => ?_)
  ·rw [if_pos hb35] at h
   refine Sem.skip ?_
   refine Sem.seq ?_
   refine Sem.block ?_
   refine Sem.seq ?_
   obtain ⟨v36, hv36, h⟩ := Option.bind_eq_some_iff.1 h
   obtain ⟨j41, hj41, h⟩ := Option.bind_eq_some_iff.1 h
   refine Sem.runDS E0_ok (s1 := ⟨Fr 105 [p3, p2, p1, (104, .v (.bool j41))], []⟩) kr ?_ ?_
   ·refine RunDS.segF (n := 105) E0_ok 2 [p3, p2, p1, (86, .sl 5 (x0.map cdClause.enc)), (87, .v (.int .i64 c34))] [] kr kr ?_
    refine RunDS.one E0_ok rfl kr (opd_q kr (wantedA_none rfl) rfl (q_indexAddr (a := .sl 5 (x0.map cdClause.enc)) (b := .v (.int .i64 c34)) kr kr (ix_sl (e := cdClause.enc) (el := 70) (k := 5) (ki := .i64) kr kr hv36)) kr) ?_
    refine RunDS.segF (n := 105) E0_ok 4 [p3, p2, p1, (92, .v (.bool (v36.1 == 1)))] [] kr kr ?_
    rcases Bool.eq_false_or_eq_true (v36.1 == 1) with hc44 | hc44
    ·rw [if_pos hc44] at hj41
     rw [hc44]
     let p4 : Nat × AV := (94, .v (.int .i64 c34))
     let p5 : Nat × AV := (93, .sl 5 (x0.map cdClause.enc))
     refine RunDS.segF (n := 105) E0_ok 2 [p3, p2, p1, (92, .v (.bool true)), p5, p4] [] kr kr ?_
     obtain ⟨v37, hv37, hj41⟩ := Option.bind_eq_some_iff.1 hj41
     refine RunDS.one E0_ok rfl kr (opd_q kr kr rfl (q_indexAddr (a := .sl 5 (x0.map cdClause.enc)) (b := .v (.int .i64 c34)) kr kr (ix_sl (e := cdClause.enc) (el := 70) (k := 5) (ki := .i64) kr kr hv37)) kr) ?_
     let p6 : Nat × AV := (99, .v (.int .i64 x1))
     let p7 : Nat × AV := (98, .sl 5 (x0.map cdClause.enc))
     let p8 : Nat × AV := (97, .sl 1 (v37.2.2.2.1.map cdS.enc))
     let p9 : Nat × AV := (96, .pe (cdClause.enc v37) 3)
     let p10 : Nat × AV := (95, .pe (cdClause.enc v37) 0)
     refine RunDS.segF (n := 105) E0_ok 4 [p3, p2, p1, (92, .v (.bool true)), p5, p4, p10, p9, p8, p7, p6] [] kr kr ?_
     obtain ⟨v38, hv38, hj41⟩ := Option.bind_eq_some_iff.1 hj41
     refine RunDS.one E0_ok rfl kr (opd_q kr kr rfl (q_indexAddr (a := .sl 5 (x0.map cdClause.enc)) (b := .v (.int .i64 x1)) kr kr (ix_sl (e := cdClause.enc) (el := 70) (k := 5) (ki := .i64) kr kr hv38)) kr) ?_
     refine RunDS.segF (n := 105) E0_ok 2 [p3, p2, p1, (92, .v (.bool true)), p5, p4, p10, p9, p8, p7, p6, (100, .pe (cdClause.enc v38) 0), (101, .pe (cdClause.enc v38) 1), (102, .st v38.2.1)] [] kr kr ?_
     obtain ⟨v39, hv39, hj41⟩ := Option.bind_eq_some_iff.1 hj41
     refine RunDS.callV (caps := []) (xs := [.sl 1 (v37.2.2.2.1.map cdS.enc), .st v38.2.1]) (u := (v37.2.2.2.1, v38.2.1, ())) rfl rfl x_ref03_has rfl kr kr kr (Sl.cons (Sm.enc (c := (cdL 1 cdS)) (v := v37.2.2.2.1)) (Sl.cons (Sm.enc (c := cdS) (v := v38.2.1)) Sl.nil)) kr hv39 ?_
     refine RunDS.segF (n := 105) E0_ok 1 [p3, p2, p1, p5, p4, p10, p9, p8, p7, p6, (100, .pe (cdClause.enc v38) 0), (101, .pe (cdClause.enc v38) 1), (102, .st v38.2.1), (103, .v (.bool v39)), (104, .v (.bool v39))] [] kr kr ?_
     have hq := Option.some.inj hj41; subst hq
     exact RunDS.done rfl (Wk.fr kr)
    ·rw [if_f hc44] at hj41
     rw [hc44]
     refine RunDS.segF (n := 105) E0_ok 12 [p3, p2, p1, (93, .tp []), (94, .tp []), (95, .tp []), (96, .tp []), (97, .tp []), (98, .tp []), (99, .tp []), (100, .tp []), (101, .tp []), (102, .tp []), (103, .tp []), (104, .v (.bool false))] [] kr kr ?_
     have hq := Option.some.inj hj41; subst hq
     exact RunDS.done rfl (Wk.fr kr)
   refine Sem.cond (b := j41) kr (fun hb42 => ?_) (fun hb42 => ?_)
   ·rw [if_pos hb42] at h
    refine Sem.sq E0_ok [(4, .v (.int .i64 0))] [] ?_
    refine Sem.ret ?_
    have hq := Option.some.inj h; subst hq
    exact ⟨rfl, (Wk.fr kr)⟩
   ·rw [if_f hb42] at h
    refine Sem.skip ?_
    let p11 : Nat × AV := (7, .v (.int .i64 (wr .i64 (c34 + 1))))
    refine Sem.rg E0_ok [p3, p2, p11] [] ?_
    exact SemN.wk (s1 := ⟨Fr 105 [p3, p2, p11], []⟩) (Wk.fr kr) (ih (wr .i64 (c34 + 1)) h)
  ·rw [if_f hb35] at h
   refine Sem.exit ?_
   have hq := Option.some.inj h; subst hq
   exact ⟨rfl, (Wk.fr kr)⟩
theorem ref03_CheckOne_sem (x0 : (List Clause)) (x1 : Int) (r : Int) (h : ref03_CheckOne x0 x1 = some r) : Sem E0 ⟨none, false⟩ cb_ref03_CheckOne ⟨Fr 105 (pairs0 0 (cs_ref03_CheckOne.enc (x0, x1, ()))), []⟩ fun e s' => (e = .normal ∨ e = .ret) ∧ ∃ xs, resA E0.P s'.fr s'.hp Tryz.f101.results.toList = some xs ∧ retA xs = er_ref03_CheckOne r := by
 unfold ref03_CheckOne at h
 let p1 : Nat × AV := (1, .v (.int .i64 x1))
 let p2 : Nat × AV := (0, .sl 5 (x0.map cdClause.enc))
 refine Sem.wkQ (Sem.wk (s1 := ⟨Fr 105 [p2, p1], []⟩) (Wk.fr kr) ?_)
 refine Sem.sq E0_ok [p2, p1] [] ?_
 refine Sem.seq ?_
 refine Sem.seq ?_
 obtain ⟨v1, hv1, h⟩ := Option.bind_eq_some_iff.1 h
 obtain ⟨v2, hv2, h⟩ := Option.bind_eq_some_iff.1 h
 refine Sem.runS (s1 := ⟨Fr 105 [p2, p1, (13, .v (.bool (!v2)))], []⟩) ?_ ?_
 ·refine RunS.segF (n := 105) E0_ok 2 [p2, p1, (8, .sl 5 (x0.map cdClause.enc)), (9, .v (.int .i64 x1))] [] kr ?_
  refine RunS.one E0_ok 0 rfl (op_q (wantedA_none rfl) rfl (q_indexAddr (a := .sl 5 (x0.map cdClause.enc)) (b := .v (.int .i64 x1)) kr kr (ix_sl (e := cdClause.enc) (el := 70) (k := 5) (ki := .i64) kr kr hv1))) ?_
  refine RunS.segF (n := 105) E0_ok 1 [p2, p1, (11, cdClause.enc v1)] [] kr ?_
  refine RunS.callV (caps := []) (xs := [cdClause.enc v1]) (u := (v1, ())) rfl rfl x_ref03_formed rfl (wantedA_none rfl) kr kr (Sl.cons (Sm.enc (c := cdClause) (v := v1)) Sl.nil) (.inl kr) hv2 ?_
  exact RunS.last E0_ok
 refine Sem.cond (b := (!v2)) kr (fun hb3 => ?_) (fun hb3 => ?_)
 ·rw [if_pos hb3] at h
  refine Sem.sq E0_ok [(4, .v (.int .i64 30))] [] ?_
  refine Sem.ret ?_
  have hq := Option.some.inj h; subst hq
  exact ⟨⟨Fr 105 [(4, .v (.int .i64 30))], []⟩, (Wk.fr kr), .inr rfl, [.v (.int .i64 30)], kr, kr⟩
 ·rw [if_f hb3] at h
  refine Sem.skip ?_
  refine Sem.seq ?_
  refine Sem.seq ?_
  obtain ⟨v4, hv4, h⟩ := Option.bind_eq_some_iff.1 h
  obtain ⟨j8, hj8, h⟩ := Option.bind_eq_some_iff.1 h
  refine Sem.runS (s1 := ⟨Fr 105 [p2, p1, (28, .v (.bool j8))], []⟩) ?_ ?_
  ·refine RunS.segF (n := 105) E0_ok 2 [p2, p1, (14, .sl 5 (x0.map cdClause.enc)), (15, .v (.int .i64 x1))] [] kr ?_
   refine RunS.one E0_ok 0 rfl (op_q (wantedA_none rfl) rfl (q_indexAddr (a := .sl 5 (x0.map cdClause.enc)) (b := .v (.int .i64 x1)) kr kr (ix_sl (e := cdClause.enc) (el := 70) (k := 5) (ki := .i64) kr kr hv4))) ?_
   refine RunS.segF (n := 105) E0_ok 4 [p2, p1, (20, .v (.bool (!(v4.2.1 == []))))] [] kr ?_
   rcases Bool.eq_false_or_eq_true (!(v4.2.1 == [])) with hc50 | hc50
   ·rw [if_pos hc50] at hj8
    rw [hc50]
    refine RunS.segF (n := 105) E0_ok 2 [p2, p1, (20, .v (.bool true)), (21, .sl 5 (x0.map cdClause.enc)), (22, .v (.int .i64 x1))] [] kr ?_
    obtain ⟨v5, hv5, hj8⟩ := Option.bind_eq_some_iff.1 hj8
    refine RunS.one E0_ok 0 rfl (op_q kr rfl (q_indexAddr (a := .sl 5 (x0.map cdClause.enc)) (b := .v (.int .i64 x1)) kr kr (ix_sl (e := cdClause.enc) (el := 70) (k := 5) (ki := .i64) kr kr hv5))) ?_
    refine RunS.segF (n := 105) E0_ok 2 [p2, p1, (20, .v (.bool true)), (25, .st v5.2.1)] [] kr ?_
    obtain ⟨v6, hv6, hj8⟩ := Option.bind_eq_some_iff.1 hj8
    refine RunS.callV (caps := []) (xs := [.st v5.2.1]) (u := (v5.2.1, ())) rfl rfl x_kit_Name rfl kr kr kr (Sl.cons (Sm.enc (c := cdS) (v := v5.2.1)) Sl.nil) (.inl kr) hv6 ?_
    refine RunS.segF (n := 105) E0_ok 2 [p2, p1, (28, .v (.bool (!v6)))] [] kr ?_
    have hq := Option.some.inj hj8; subst hq
    exact RunS.done rfl (Wk.fr kr)
   ·rw [if_f hc50] at hj8
    rw [hc50]
    refine RunS.segF (n := 105) E0_ok 8 [p2, p1, (28, .v (.bool false))] [] kr ?_
    have hq := Option.some.inj hj8; subst hq
    exact RunS.done rfl (Wk.fr kr)
  refine Sem.cond (b := j8) kr (fun hb9 => ?_) (fun hb9 => ?_)
  ·rw [if_pos hb9] at h
   refine Sem.sq E0_ok [(4, .v (.int .i64 4))] [] ?_
   refine Sem.ret ?_
   have hq := Option.some.inj h; subst hq
   exact ⟨⟨Fr 105 [(4, .v (.int .i64 4))], []⟩, (Wk.fr kr), .inr rfl, [.v (.int .i64 4)], kr, kr⟩
  ·rw [if_f hb9] at h
   refine Sem.skip ?_
   refine Sem.seq ?_
   let p3 : Nat × AV := (5, .v (.int .i64 0))
   refine Sem.sq E0_ok [p2, p1, p3] [] ?_
   refine Sem.block ?_
   obtain ⟨r18, hr18, h⟩ := Option.bind_eq_some_iff.1 h
   refine Sem.loop (n := 100000) ?_
   rcases r18 with w19 | w49
   ·try dsimp only at h
    refine Sem.cutN (SemN.wk (s1 := ⟨Fr 105 [p2, p1, p3], []⟩) (Wk.fr kr) (ref03_CheckOne_l1_ok x0 x1 _ 0 _ hr18)) ?_
    refine Sem.seq ?_
    let p4 : Nat × AV := (6, .v (.int .i64 0))
    refine Sem.sq E0_ok [p2, p1, p4] [] ?_
    refine Sem.block ?_
    obtain ⟨r30, hr30, h⟩ := Option.bind_eq_some_iff.1 h
    refine Sem.loop (n := 100000) ?_
    rcases r30 with w31 | w48
    ·try dsimp only at h
     refine Sem.cutN (SemN.wk (s1 := ⟨Fr 105 [p2, p1, p4], []⟩) (Wk.fr kr) (ref03_CheckOne_l2_ok x0 x1 _ 0 _ hr30)) ?_
     refine Sem.seq ?_
     refine Sem.seq ?_
     obtain ⟨v32, hv32, h⟩ := Option.bind_eq_some_iff.1 h
     refine Sem.runS (s1 := ⟨Fr 105 [p2, p1, (80, .v (.bool (v32.2.1 == [])))], []⟩) ?_ ?_
     ·refine RunS.segF (n := 105) E0_ok 2 [p2, p1, (75, .sl 5 (x0.map cdClause.enc)), (76, .v (.int .i64 x1))] [] kr ?_
      refine RunS.one E0_ok 0 rfl (op_q (wantedA_none rfl) rfl (q_indexAddr (a := .sl 5 (x0.map cdClause.enc)) (b := .v (.int .i64 x1)) kr kr (ix_sl (e := cdClause.enc) (el := 70) (k := 5) (ki := .i64) kr kr hv32))) ?_
      exact RunS.last E0_ok
     refine Sem.cond (b := (v32.2.1 == [])) kr (fun hb33 => ?_) (fun hb33 => ?_)
     ·rw [if_pos hb33] at h
      refine Sem.sq E0_ok [(4, .v (.int .i64 0))] [] ?_
      refine Sem.ret ?_
      have hq := Option.some.inj h; subst hq
      exact ⟨⟨Fr 105 [(4, .v (.int .i64 0))], []⟩, (Wk.fr kr), .inr rfl, [.v (.int .i64 0)], kr, kr⟩
     ·rw [if_f hb33] at h
      refine Sem.skip ?_
      refine Sem.seq ?_
      refine Sem.sq E0_ok [p2, p1, (7, .v (.int .i64 0))] [] ?_
      refine Sem.block ?_
      obtain ⟨r45, hr45, h⟩ := Option.bind_eq_some_iff.1 h
      refine Sem.loop (n := 100000) ?_
      rcases r45 with w46 | w47
      ·try dsimp only at h
       refine Sem.cutN (SemN.wk (s1 := ⟨Fr 105 [p2, p1, (7, .v (.int .i64 0))], []⟩) (Wk.fr kr) (ref03_CheckOne_l3_ok x0 x1 _ 0 _ hr45)) ?_
       refine Sem.sq E0_ok [(4, .v (.int .i64 31))] [] ?_
       refine Sem.ret ?_
       have hq := Option.some.inj h; subst hq
       exact ⟨⟨Fr 105 [(4, .v (.int .i64 31))], []⟩, (Wk.fr kr), .inr rfl, [.v (.int .i64 31)], kr, kr⟩
      ·try dsimp only at h
       refine Sem.cutN (SemN.wk (s1 := ⟨Fr 105 [p2, p1, (7, .v (.int .i64 0))], []⟩) (Wk.fr kr) (ref03_CheckOne_l3_ok x0 x1 _ 0 _ hr45)) ?_
       have hq := Option.some.inj h; subst hq
       exact ⟨⟨Fr 105 [(4, .v (.int .i64 w47))], []⟩, (Wk.fr kr), .inr rfl, [.v (.int .i64 w47)], kr, kr⟩
    ·try dsimp only at h
     refine Sem.cutN (SemN.wk (s1 := ⟨Fr 105 [p2, p1, p4], []⟩) (Wk.fr kr) (ref03_CheckOne_l2_ok x0 x1 _ 0 _ hr30)) ?_
     have hq := Option.some.inj h; subst hq
     exact ⟨⟨Fr 105 [(4, .v (.int .i64 w48))], []⟩, (Wk.fr kr), .inr rfl, [.v (.int .i64 w48)], kr, kr⟩
   ·try dsimp only at h
    refine Sem.cutN (SemN.wk (s1 := ⟨Fr 105 [p2, p1, p3], []⟩) (Wk.fr kr) (ref03_CheckOne_l1_ok x0 x1 _ 0 _ hr18)) ?_
    have hq := Option.some.inj h; subst hq
    exact ⟨⟨Fr 105 [(4, .v (.int .i64 w49))], []⟩, (Wk.fr kr), .inr rfl, [.v (.int .i64 w49)], kr, kr⟩
def t_ref03_CheckOne : List AV → Option AV := told cs_ref03_CheckOne (fun a => ref03_CheckOne a.1 a.2.1) er_ref03_CheckOne
theorem x_ref03_CheckOne : XOk 101 t_ref03_CheckOne := by
 refine xok_of_sem Tryz.func101 (c := cb_ref03_CheckOne) ?h2 ⟨Tryz.call101⟩ cs_ref03_CheckOne (fun a => ref03_CheckOne a.1 a.2.1) er_ref03_CheckOne (fun a => (by show 2 ≤ 105; decide)) ?h3 ?h4
 case h2 => kernel_rfl
 case h3 => intro b; kernel_rfl
 case h4 => exact fun a b h => ref03_CheckOne_sem a.1 a.2.1 b h
/- trestle/trestleref03.Check -/
noncomputable def cb_ref03_Check : Code := codeOf Tryz.f53
def ref03_Check_l1 (x0 : (List Clause)) : Nat → Int → Option ((Unit) ⊕ (Int × Int))
 | 0, _ => none
 | f + 1, c2 =>
  if (decide (c2 < (x0.length : Int))) = true then
  (ref03_CheckOne x0 c2).bind fun v4 =>
  if (v4 != 0) = true then
  some (.inr (c2, v4))
  else
  ref03_Check_l1 x0 f (wr .i64 (c2 + 1))
  else
  some (.inl ())
def ref03_Check (x0 : (List Clause)) : Option (Int × Int) :=
 if (decide ((x0.length : Int) > 32)) = true then
 some (0, 7)
 else
 (ref03_Check_l1 x0 100000 0).bind fun r8 =>
 match r8 with
 | (.inl w9) =>
  some (0, 0)
 | (.inr w10) =>
  some (w10.1, w10.2)
def cs_ref03_Check : Cs ((List Clause) × Unit) := (csC (cdL 5 cdClause) csN)
def er_ref03_Check (r : Int × Int) : AV := .tp [cdI.enc r.1, cdI.enc r.2]
theorem ref03_Check_l1_ok (x0 : (List Clause)) : ∀ (f : Nat) (c2 : Int) (r : (Unit) ⊕ (Int × Int)), ref03_Check_l1 x0 f c2 = some r → SemN E0 ⟨none, false⟩ (pc cb_ref03_Check [1, 1, 0, 1, 0, 0]) f ⟨Fr 22 [(0, .sl 5 (x0.map cdClause.enc)), (4, .v (.int .i64 c2))], []⟩ (fun e s => match r with
 | (.inl w) => e = (.exit 0) ∧ Wk E0 s ⟨Fr 22 [], []⟩
 | (.inr w) => e = .ret ∧ Wk E0 s ⟨Fr 22 [(2, .v (.int .i64 w.1)), (3, .v (.int .i64 w.2))], []⟩) := by
 intro f
 induction f with
 | zero => intro c2 r h; cases h
 | succ f ih0 =>
  intro c2 r h
  have ih := fun (c2 : Int) => ih0 c2 r
  unfold ref03_Check_l1 at h
  refine SemN.succ ?_
  refine Sem.seq ?_
  refine Sem.seq ?_
  let p1 : Nat × AV := (4, .v (.int .i64 c2))
  let p2 : Nat × AV := (0, .sl 5 (x0.map cdClause.enc))
  refine Sem.runS (s1 := ⟨Fr 22 [p2, p1, (12, .v (.bool (decide (c2 < (x0.length : Int)))))], []⟩) ?_ ?_
  ·refine RunS.segF (n := 22) E0_ok 2 [p2, p1, (9, .v (.int .i64 c2)), (10, .sl 5 (x0.map cdClause.enc))] [] kr ?_
   refine RunS.one E0_ok 0 rfl (op_q (wantedA_none rfl) rfl (q_len (a := .sl 5 (x0.map cdClause.enc)) kr (len_sl (el := 70) kr))) ?_
   exact RunS.last E0_ok
  refine Sem.cond (b := (decide (c2 < (x0.length : Int)))) kr (fun hb3 => ?_) (fun hb3 => ?_)
  ·rw [if_pos hb3] at h
   refine Sem.skip ?_
   refine Sem.seq ?_
   refine Sem.block ?_
   refine Sem.seq ?_
   obtain ⟨v4, hv4, h⟩ := Option.bind_eq_some_iff.1 h
   refine Sem.runS (s1 := ⟨Fr 22 [p2, p1, (5, .v (.int .i64 v4))], []⟩) ?_ ?_
   ·refine RunS.segF (n := 22) E0_ok 2 [p2, p1, (15, .sl 5 (x0.map cdClause.enc)), (16, .v (.int .i64 c2))] [] kr ?_
    refine RunS.callV (caps := []) (xs := [.sl 5 (x0.map cdClause.enc), .v (.int .i64 c2)]) (u := (x0, c2, ())) rfl rfl x_ref03_CheckOne rfl (wantedA_none rfl) kr kr (Sl.cons (Sm.enc (c := (cdL 5 cdClause)) (v := x0)) (Sl.cons (Sm.enc (c := cdI) (v := c2)) Sl.nil)) (.inl kr) hv4 ?_
    exact RunS.last E0_ok
   refine Sem.sq E0_ok [p2, p1, (5, .v (.int .i64 v4)), (19, .v (.bool (v4 != 0)))] [] ?_
   refine Sem.cond (b := (v4 != 0)) kr (fun hb5 => ?_) (fun hb5 => ?_)
   ·rw [if_pos hb5] at h
    refine Sem.sq E0_ok [(2, .v (.int .i64 c2)), (3, .v (.int .i64 v4))] [] ?_
    refine Sem.ret ?_
    have hq := Option.some.inj h; subst hq
    exact ⟨rfl, (Wk.fr kr)⟩
   ·rw [if_f hb5] at h
    refine Sem.skip ?_
    let p3 : Nat × AV := (4, .v (.int .i64 (wr .i64 (c2 + 1))))
    refine Sem.rg E0_ok [p2, p3] [] ?_
    exact SemN.wk (s1 := ⟨Fr 22 [p2, p3], []⟩) (Wk.fr kr) (ih (wr .i64 (c2 + 1)) h)
  ·rw [if_f hb3] at h
   refine Sem.exit ?_
   have hq := Option.some.inj h; subst hq
   exact ⟨rfl, (Wk.fr kr)⟩
theorem ref03_Check_sem (x0 : (List Clause)) (r : Int × Int) (h : ref03_Check x0 = some r) : Sem E0 ⟨none, false⟩ cb_ref03_Check ⟨Fr 22 (pairs0 0 (cs_ref03_Check.enc (x0, ()))), []⟩ fun e s' => (e = .normal ∨ e = .ret) ∧ ∃ xs, resA E0.P s'.fr s'.hp Tryz.f53.results.toList = some xs ∧ retA xs = er_ref03_Check r := by
 unfold ref03_Check at h
 let p1 : Nat × AV := (0, .sl 5 (x0.map cdClause.enc))
 refine Sem.wkQ (Sem.wk (s1 := ⟨Fr 22 [p1], []⟩) (Wk.fr kr) ?_)
 refine Sem.sq E0_ok [p1] [] ?_
 refine Sem.seq ?_
 refine Sem.seq ?_
 refine Sem.runS (s1 := ⟨Fr 22 [p1, (8, .v (.bool (decide ((x0.length : Int) > 32))))], []⟩) ?_ ?_
 ·refine RunS.segF (n := 22) E0_ok 1 [p1, (6, .sl 5 (x0.map cdClause.enc))] [] kr ?_
  refine RunS.one E0_ok 0 rfl (op_q (wantedA_none rfl) rfl (q_len (a := .sl 5 (x0.map cdClause.enc)) kr (len_sl (el := 70) kr))) ?_
  exact RunS.last E0_ok
 refine Sem.cond (b := (decide ((x0.length : Int) > 32))) kr (fun hb1 => ?_) (fun hb1 => ?_)
 ·rw [if_pos hb1] at h
  refine Sem.sq E0_ok [(2, .v (.int .i64 0)), (3, .v (.int .i64 7))] [] ?_
  refine Sem.ret ?_
  have hq := Option.some.inj h; subst hq
  exact ⟨⟨Fr 22 [(2, .v (.int .i64 0)), (3, .v (.int .i64 7))], []⟩, (Wk.fr kr), .inr rfl, [.v (.int .i64 0), .v (.int .i64 7)], kr, kr⟩
 ·rw [if_f hb1] at h
  refine Sem.skip ?_
  refine Sem.seq ?_
  let p2 : Nat × AV := (4, .v (.int .i64 0))
  refine Sem.sq E0_ok [p1, p2] [] ?_
  refine Sem.block ?_
  obtain ⟨r8, hr8, h⟩ := Option.bind_eq_some_iff.1 h
  refine Sem.loop (n := 100000) ?_
  rcases r8 with w9 | w10
  ·try dsimp only at h
   refine Sem.cutN (SemN.wk (s1 := ⟨Fr 22 [p1, p2], []⟩) (Wk.fr kr) (ref03_Check_l1_ok x0 _ 0 _ hr8)) ?_
   refine Sem.sq E0_ok [(2, .v (.int .i64 0)), (3, .v (.int .i64 0))] [] ?_
   refine Sem.ret ?_
   have hq := Option.some.inj h; subst hq
   exact ⟨⟨Fr 22 [(2, .v (.int .i64 0)), (3, .v (.int .i64 0))], []⟩, (Wk.fr kr), .inr rfl, [.v (.int .i64 0), .v (.int .i64 0)], kr, kr⟩
  ·try dsimp only at h
   refine Sem.cutN (SemN.wk (s1 := ⟨Fr 22 [p1, p2], []⟩) (Wk.fr kr) (ref03_Check_l1_ok x0 _ 0 _ hr8)) ?_
   have hq := Option.some.inj h; subst hq
   exact ⟨⟨Fr 22 [(2, .v (.int .i64 w10.1)), (3, .v (.int .i64 w10.2))], []⟩, (Wk.fr kr), .inr rfl, [.v (.int .i64 w10.1), .v (.int .i64 w10.2)], kr, kr⟩
def t_ref03_Check : List AV → Option AV := told cs_ref03_Check (fun a => ref03_Check a.1) er_ref03_Check
theorem x_ref03_Check : XOk 53 t_ref03_Check := by
 refine xok_of_sem Tryz.func53 (c := cb_ref03_Check) ?h2 ⟨Tryz.call53⟩ cs_ref03_Check (fun a => ref03_Check a.1) er_ref03_Check (fun a => (by show 1 ≤ 22; decide)) ?h3 ?h4
 case h2 => kernel_rfl
 case h3 => intro b; kernel_rfl
 case h4 => exact fun a b h => ref03_Check_sem a.1 b h
/- trestle/trestleref03.Valid -/
noncomputable def cb_ref03_Valid : Code := codeOf Tryz.f61
def ref03_Valid (x0 : (List Clause)) : Option (Bool) :=
 (ref03_Check x0).bind fun v1 =>
 some (v1.2 == 0)
def cs_ref03_Valid : Cs ((List Clause) × Unit) := (csC (cdL 5 cdClause) csN)
def er_ref03_Valid (r : Bool) : AV := cdB.enc r
theorem ref03_Valid_sem (x0 : (List Clause)) (r : Bool) (h : ref03_Valid x0 = some r) : Sem E0 ⟨none, false⟩ cb_ref03_Valid ⟨Fr 12 (pairs0 0 (cs_ref03_Valid.enc (x0, ()))), []⟩ fun e s' => (e = .normal ∨ e = .ret) ∧ ∃ xs, resA E0.P s'.fr s'.hp Tryz.f61.results.toList = some xs ∧ retA xs = er_ref03_Valid r := by
 unfold ref03_Valid at h
 let p1 : Nat × AV := (0, .sl 5 (x0.map cdClause.enc))
 refine Sem.wkQ (Sem.wk (s1 := ⟨Fr 12 [p1], []⟩) (Wk.fr kr) ?_)
 refine Sem.sq E0_ok [p1] [] ?_
 refine Sem.seq ?_
 obtain ⟨v1, hv1, h⟩ := Option.bind_eq_some_iff.1 h
 refine Sem.runS (s1 := ⟨Fr 12 [(4, .v (.int .i64 v1.2))], []⟩) ?_ ?_
 ·refine RunS.segF (n := 12) E0_ok 1 [(6, .sl 5 (x0.map cdClause.enc))] [] kr ?_
  refine RunS.callV (caps := []) (xs := [.sl 5 (x0.map cdClause.enc)]) (u := (x0, ())) rfl rfl x_ref03_Check rfl (wantedA_none rfl) kr kr (Sl.cons (Sm.enc (c := (cdL 5 cdClause)) (v := x0)) Sl.nil) (.inl kr) hv1 ?_
  exact RunS.last E0_ok
 refine Sem.sq E0_ok [(2, .v (.bool (v1.2 == 0)))] [] ?_
 refine Sem.ret ?_
 have hq := Option.some.inj h; subst hq
 exact ⟨⟨Fr 12 [(2, .v (.bool (v1.2 == 0)))], []⟩, (Wk.fr kr), .inr rfl, [.v (.bool (v1.2 == 0))], kr, kr⟩
def t_ref03_Valid : List AV → Option AV := told cs_ref03_Valid (fun a => ref03_Valid a.1) er_ref03_Valid
theorem x_ref03_Valid : XOk 61 t_ref03_Valid := by
 refine xok_of_sem Tryz.func61 (c := cb_ref03_Valid) ?h2 ⟨Tryz.call61⟩ cs_ref03_Valid (fun a => ref03_Valid a.1) er_ref03_Valid (fun a => (by show 1 ≤ 12; decide)) ?h3 ?h4
 case h2 => kernel_rfl
 case h3 => intro b; kernel_rfl
 case h4 => exact fun a b h => ref03_Valid_sem a.1 b h
/- trestle/trestleref03.rank -/
noncomputable def cb_ref03_rank : Code := codeOf Tryz.f149
def ref03_rank_l1 (x0 : (List (List UInt8))) (x1 : (List UInt8)) : Nat → Int → Option ((Unit) ⊕ (Int))
 | 0, _ => none
 | f + 1, c1 =>
  if (decide (c1 < (x0.length : Int))) = true then
  (idx x0 c1).bind fun v3 =>
  if (v3 == x1) = true then
  some (.inr c1)
  else
  ref03_rank_l1 x0 x1 f (wr .i64 (c1 + 1))
  else
  some (.inl ())
def ref03_rank (x0 : (List (List UInt8))) (x1 : (List UInt8)) : Option (Int) :=
 (ref03_rank_l1 x0 x1 100000 0).bind fun r6 =>
 match r6 with
 | (.inl w7) =>
  some (x0.length : Int)
 | (.inr w8) =>
  some w8
def cs_ref03_rank : Cs ((List (List UInt8)) × (List UInt8) × Unit) := (csC (cdL 1 cdS) (csC cdS csN))
def er_ref03_rank (r : Int) : AV := cdI.enc r
theorem ref03_rank_l1_ok (x0 : (List (List UInt8))) (x1 : (List UInt8)) : ∀ (f : Nat) (c1 : Int) (r : (Unit) ⊕ (Int)), ref03_rank_l1 x0 x1 f c1 = some r → SemN E0 ⟨none, false⟩ (pc cb_ref03_rank [1, 0, 1, 0, 0]) f ⟨Fr 21 [(0, .sl 1 (x0.map cdS.enc)), (1, .st x1), (5, .v (.int .i64 c1))], []⟩ (fun e s => match r with
 | (.inl w) => e = (.exit 0) ∧ Wk E0 s ⟨Fr 21 [(0, .sl 1 (x0.map cdS.enc))], []⟩
 | (.inr w) => e = .ret ∧ Wk E0 s ⟨Fr 21 [(4, .v (.int .i64 w))], []⟩) := by
 intro f
 induction f with
 | zero => intro c1 r h; cases h
 | succ f ih0 =>
  intro c1 r h
  have ih := fun (c1 : Int) => ih0 c1 r
  unfold ref03_rank_l1 at h
  refine SemN.succ ?_
  refine Sem.seq ?_
  refine Sem.seq ?_
  let p1 : Nat × AV := (5, .v (.int .i64 c1))
  let p2 : Nat × AV := (0, .sl 1 (x0.map cdS.enc))
  refine Sem.runS (s1 := ⟨Fr 21 [p2, (1, .st x1), p1, (9, .v (.bool (decide (c1 < (x0.length : Int)))))], []⟩) ?_ ?_
  ·refine RunS.segF (n := 21) E0_ok 2 [p2, (1, .st x1), p1, (6, .v (.int .i64 c1)), (7, .sl 1 (x0.map cdS.enc))] [] kr ?_
   refine RunS.one E0_ok 0 rfl (op_q (wantedA_none rfl) rfl (q_len (a := .sl 1 (x0.map cdS.enc)) kr (len_sl (el := 9) kr))) ?_
   exact RunS.last E0_ok
  refine Sem.cond (b := (decide (c1 < (x0.length : Int)))) kr (fun hb2 => ?_) (fun hb2 => ?_)
  ·rw [if_pos hb2] at h
   refine Sem.skip ?_
   refine Sem.seq ?_
   refine Sem.block ?_
   refine Sem.seq ?_
   obtain ⟨v3, hv3, h⟩ := Option.bind_eq_some_iff.1 h
   refine Sem.runS (s1 := ⟨Fr 21 [p2, (1, .st x1), p1, (17, .v (.bool (v3 == x1)))], []⟩) ?_ ?_
   ·refine RunS.segF (n := 21) E0_ok 2 [p2, (1, .st x1), p1, (12, .sl 1 (x0.map cdS.enc)), (13, .v (.int .i64 c1))] [] kr ?_
    refine RunS.one E0_ok 0 rfl (op_q (wantedA_none rfl) rfl (q_indexAddr (a := .sl 1 (x0.map cdS.enc)) (b := .v (.int .i64 c1)) kr kr (ix_sl (e := cdS.enc) (el := 9) (k := 1) (ki := .i64) kr kr hv3))) ?_
    exact RunS.last E0_ok
   refine Sem.cond (b := (v3 == x1)) kr (fun hb4 => ?_) (fun hb4 => ?_)
   ·rw [if_pos hb4] at h
    refine Sem.sq E0_ok [(4, .v (.int .i64 c1))] [] ?_
    refine Sem.ret ?_
    have hq := Option.some.inj h; subst hq
    exact ⟨rfl, (Wk.fr kr)⟩
   ·rw [if_f hb4] at h
    refine Sem.skip ?_
    let p3 : Nat × AV := (5, .v (.int .i64 (wr .i64 (c1 + 1))))
    refine Sem.rg E0_ok [p2, (1, .st x1), p3] [] ?_
    exact SemN.wk (s1 := ⟨Fr 21 [p2, (1, .st x1), p3], []⟩) (Wk.fr kr) (ih (wr .i64 (c1 + 1)) h)
  ·rw [if_f hb2] at h
   refine Sem.exit ?_
   have hq := Option.some.inj h; subst hq
   exact ⟨rfl, (Wk.fr kr)⟩
theorem ref03_rank_sem (x0 : (List (List UInt8))) (x1 : (List UInt8)) (r : Int) (h : ref03_rank x0 x1 = some r) : Sem E0 ⟨none, false⟩ cb_ref03_rank ⟨Fr 21 (pairs0 0 (cs_ref03_rank.enc (x0, x1, ()))), []⟩ fun e s' => (e = .normal ∨ e = .ret) ∧ ∃ xs, resA E0.P s'.fr s'.hp Tryz.f149.results.toList = some xs ∧ retA xs = er_ref03_rank r := by
 unfold ref03_rank at h
 let p1 : Nat × AV := (0, .sl 1 (x0.map cdS.enc))
 refine Sem.wkQ (Sem.wk (s1 := ⟨Fr 21 [p1, (1, .st x1)], []⟩) (Wk.fr kr) ?_)
 refine Sem.sq E0_ok [p1, (1, .st x1)] [] ?_
 refine Sem.seq ?_
 let p2 : Nat × AV := (5, .v (.int .i64 0))
 refine Sem.sq E0_ok [p1, (1, .st x1), p2] [] ?_
 refine Sem.block ?_
 obtain ⟨r6, hr6, h⟩ := Option.bind_eq_some_iff.1 h
 refine Sem.loop (n := 100000) ?_
 rcases r6 with w7 | w8
 ·try dsimp only at h
  refine Sem.cutN (SemN.wk (s1 := ⟨Fr 21 [p1, (1, .st x1), p2], []⟩) (Wk.fr kr) (ref03_rank_l1_ok x0 x1 _ 0 _ hr6)) ?_
  refine Sem.seq ?_
  let p3 : Nat × AV := (4, .v (.int .i64 (x0.length : Int)))
  refine Sem.runS (s1 := ⟨Fr 21 [p3], []⟩) ?_ ?_
  ·refine RunS.segF (n := 21) E0_ok 1 [(19, .sl 1 (x0.map cdS.enc))] [] kr ?_
   refine RunS.one E0_ok 0 rfl (op_q (wantedA_none rfl) rfl (q_len (a := .sl 1 (x0.map cdS.enc)) kr (len_sl (el := 9) kr))) ?_
   exact RunS.last E0_ok
  refine Sem.ret ?_
  have hq := Option.some.inj h; subst hq
  exact ⟨⟨Fr 21 [p3], []⟩, (Wk.fr kr), .inr rfl, [.v (.int .i64 (x0.length : Int))], kr, kr⟩
 ·try dsimp only at h
  refine Sem.cutN (SemN.wk (s1 := ⟨Fr 21 [p1, (1, .st x1), p2], []⟩) (Wk.fr kr) (ref03_rank_l1_ok x0 x1 _ 0 _ hr6)) ?_
  have hq := Option.some.inj h; subst hq
  exact ⟨⟨Fr 21 [(4, .v (.int .i64 w8))], []⟩, (Wk.fr kr), .inr rfl, [.v (.int .i64 w8)], kr, kr⟩
def t_ref03_rank : List AV → Option AV := told cs_ref03_rank (fun a => ref03_rank a.1 a.2.1) er_ref03_rank
theorem x_ref03_rank : XOk 149 t_ref03_rank := by
 refine xok_of_sem Tryz.func149 (c := cb_ref03_rank) ?h2 ⟨Tryz.call149⟩ cs_ref03_rank (fun a => ref03_rank a.1 a.2.1) er_ref03_rank (fun a => (by show 2 ≤ 21; decide)) ?h3 ?h4
 case h2 => kernel_rfl
 case h3 => intro b; kernel_rfl
 case h4 => exact fun a b h => ref03_rank_sem a.1 a.2.1 b h
/- trestle/trestleref03.key -/
noncomputable def cb_ref03_key : Code := codeOf Tryz.f151
def ref03_key (x0 : Int) (x1 : Int) : Option (Int) :=
 some ((wr .i64 ((wr .i64 (x0 * (wr .i64 ((wr .i64 (x1 + x1)) + 1)))) + x1)).tmod 64)
def cs_ref03_key : Cs (Int × Int × Unit) := (csC cdI (csC cdI csN))
def er_ref03_key (r : Int) : AV := cdI.enc r
theorem ref03_key_sem (x0 : Int) (x1 : Int) (r : Int) (h : ref03_key x0 x1 = some r) : Sem E0 ⟨none, false⟩ cb_ref03_key ⟨Fr 14 (pairs0 0 (cs_ref03_key.enc (x0, x1, ()))), []⟩ fun e s' => (e = .normal ∨ e = .ret) ∧ ∃ xs, resA E0.P s'.fr s'.hp Tryz.f151.results.toList = some xs ∧ retA xs = er_ref03_key r := by
 unfold ref03_key at h
 refine Sem.wkQ (Sem.wk (s1 := ⟨Fr 14 [(0, .v (.int .i64 x0)), (1, .v (.int .i64 x1))], []⟩) (Wk.fr kr) ?_)
 refine Sem.sq E0_ok [(0, .v (.int .i64 x0)), (1, .v (.int .i64 x1))] [] ?_
 let p1 : Nat × AV := (4, .v (.int .i64 ((wr .i64 ((wr .i64 (x0 * (wr .i64 ((wr .i64 (x1 + x1)) + 1)))) + x1)).tmod 64)))
 refine Sem.sq E0_ok [p1] [] ?_
 refine Sem.ret ?_
 have hq := Option.some.inj h; subst hq
 exact ⟨⟨Fr 14 [p1], []⟩, (Wk.fr kr), .inr rfl, [.v (.int .i64 ((wr .i64 ((wr .i64 (x0 * (wr .i64 ((wr .i64 (x1 + x1)) + 1)))) + x1)).tmod 64))], kr, kr⟩
def t_ref03_key : List AV → Option AV := told cs_ref03_key (fun a => ref03_key a.1 a.2.1) er_ref03_key
theorem x_ref03_key : XOk 151 t_ref03_key := by
 refine xok_of_sem Tryz.func151 (c := cb_ref03_key) ?h2 ⟨Tryz.call151⟩ cs_ref03_key (fun a => ref03_key a.1 a.2.1) er_ref03_key (fun a => (by show 2 ≤ 14; decide)) ?h3 ?h4
 case h2 => kernel_rfl
 case h3 => intro b; kernel_rfl
 case h4 => exact fun a b h => ref03_key_sem a.1 a.2.1 b h
end Go.Proofs.YtiphapnckldpbaaGreatDoor
