/- Lemmas for the proof. -/
import Derived.Test.YtiphapnckldpbaaGreatDoorCourtComparesM1
import Derived.Test.YtiphapnckldpbaaGreatDoorCourtComparesM2
import Derived.Test.YtiphapnckldpbaaGreatDoorCourtComparesM3
import Derived.Test.YtiphapnckldpbaaGreatDoorCourtComparesM4
import Derived.Test.YtiphapnckldpbaaGreatDoorCourtComparesM5
import Derived.Test.YtiphapnckldpbaaGreatDoorCourtComparesM6
set_option maxHeartbeats 4000000
set_option maxRecDepth 100000
namespace Go.Proofs.YtiphapnckldpbaaGreatDoor
open Go.RowKit
/- trestle/trestleref03.named -/
noncomputable def cb_ref03_named : Code := codeOf Tryz.f152
def ref03_named_l1 (x0 : Clause) (x1 : Guest) : Nat → Int → Option ((Unit) ⊕ (Bool))
 | 0, _ => none
 | f + 1, c5 =>
  if (decide (c5 < (x1.2.2.2.2.2.2.2.2.length : Int))) = true then
  (idx x1.2.2.2.2.2.2.2.2 c5).bind fun v7 =>
  (ref03_has x0.2.2.2.1 v7).bind fun v8 =>
  if v8 = true then
  some (.inr true)
  else
  ref03_named_l1 x0 x1 f (wr .i64 (c5 + 1))
  else
  some (.inl ())
def ref03_named (x0 : Clause) (x1 : Guest) : Option (Bool) :=
 if (x0.1 == 4) = true then
 some (x1.2.2.2.2.1 == x0.2.2.2.2)
 else
 if (x0.1 == 5) = true then
 some x1.2.2.2.2.2.2.1
 else
 if (x0.1 == 7) = true then
 (ref03_has x0.2.2.2.1 x1.2.2.1).bind fun v4 =>
 some v4
 else
 (ref03_named_l1 x0 x1 100000 0).bind fun r11 =>
 match r11 with
 | (.inl w12) =>
  some false
 | (.inr w13) =>
  some w13
def cs_ref03_named : Cs (Clause × Guest × Unit) := (csC cdClause (csC cdGuest csN))
def er_ref03_named (r : Bool) : AV := cdB.enc r
theorem ref03_named_l1_ok (x0 : Clause) (x1 : Guest) : ∀ (f : Nat) (c5 : Int) (r : (Unit) ⊕ (Bool)), ref03_named_l1 x0 x1 f c5 = some r → SemN E0 ⟨none, false⟩ (pc cb_ref03_named [1, 1, 0, 1, 0, 0]) f ⟨Fr 41 [(2, .pt 0 0 0), (3, .pt 1 0 0), (5, .v (.int .i64 c5))], [some ⟨5, 70, [cdClause.enc x0], false⟩, some ⟨9, 44, [cdGuest.enc x1], false⟩]⟩ (fun e s => match r with
 | (.inl w) => e = (.exit 1) ∧ Wk E0 s ⟨Fr 41 [], []⟩
 | (.inr w) => e = .ret ∧ Wk E0 s ⟨Fr 41 [(4, .v (.bool w))], []⟩) := by
 intro f
 induction f with
 | zero => intro c5 r h; cases h
 | succ f ih0 =>
  intro c5 r h
  have ih := fun (c5 : Int) => ih0 c5 r
  unfold ref03_named_l1 at h
  refine SemN.succ ?_
  refine Sem.seq ?_
  refine Sem.seq ?_
  let p1 : Option Blk := some ⟨9, 44, [cdGuest.enc x1], false⟩
  let p2 : Option Blk := some ⟨5, 70, [cdClause.enc x0], false⟩
  let p3 : Nat × AV := (5, .v (.int .i64 c5))
  let p4 : Nat × AV := (3, .pt 1 0 0)
  let p5 : Nat × AV := (2, .pt 0 0 0)
  refine Sem.runS (s1 := ⟨Fr 41 [p5, p4, p3, (30, .v (.bool (decide (c5 < (x1.2.2.2.2.2.2.2.2.length : Int)))))], [p2, p1]⟩) ?_ ?_
  ·refine RunS.segF (n := 41) E0_ok 3 [p5, p4, p3, (26, .v (.int .i64 c5)), (28, .sl 1 (x1.2.2.2.2.2.2.2.2.map cdS.enc))] [p2, p1] kr ?_
   refine RunS.one E0_ok 0 rfl (op_q (wantedA_none rfl) rfl (q_len (a := .sl 1 (x1.2.2.2.2.2.2.2.2.map cdS.enc)) kr (len_sl (el := 9) kr))) ?_
   exact RunS.last E0_ok
  refine Sem.cond (b := (decide (c5 < (x1.2.2.2.2.2.2.2.2.length : Int)))) kr (fun hb6 => ?_) (fun hb6 => ?_)
  ·rw [if_pos hb6] at h
   refine Sem.skip ?_
   refine Sem.seq ?_
   refine Sem.block ?_
   refine Sem.seq ?_
   obtain ⟨v7, hv7, h⟩ := Option.bind_eq_some_iff.1 h
   obtain ⟨v8, hv8, h⟩ := Option.bind_eq_some_iff.1 h
   refine Sem.runDS E0_ok (s1 := ⟨Fr 41 [p5, p4, p3, (40, .v (.bool v8))], [p2, p1]⟩) kr ?_ ?_
   ·refine RunDS.segF (n := 41) E0_ok 5 [p5, p4, p3, (34, .sl 1 (x0.2.2.2.1.map cdS.enc)), (36, .sl 1 (x1.2.2.2.2.2.2.2.2.map cdS.enc)), (37, .v (.int .i64 c5))] [p2, p1] kr kr ?_
    refine RunDS.one E0_ok rfl kr (opd_q kr (wantedA_none rfl) rfl (q_indexAddr (a := .sl 1 (x1.2.2.2.2.2.2.2.2.map cdS.enc)) (b := .v (.int .i64 c5)) kr kr (ix_sl (e := cdS.enc) (el := 9) (k := 1) (ki := .i64) kr kr hv7)) kr) ?_
    refine RunDS.segF (n := 41) E0_ok 1 [p5, p4, p3, (34, .sl 1 (x0.2.2.2.1.map cdS.enc)), (39, .st v7)] [p2, p1] kr kr ?_
    refine RunDS.callV (caps := []) (xs := [.sl 1 (x0.2.2.2.1.map cdS.enc), .st v7]) (u := (x0.2.2.2.1, v7, ())) rfl rfl x_ref03_has rfl (wantedA_none rfl) kr kr (Sl.cons (Sm.enc (c := (cdL 1 cdS)) (v := x0.2.2.2.1)) (Sl.cons (Sm.enc (c := cdS) (v := v7)) Sl.nil)) kr hv8 ?_
    exact RunDS.done rfl (Wk.sel2 [0, 1] kr kr kr ⟨⟨_, rfl, bu_c kr kr⟩, ⟨_, rfl, bu_c kr kr⟩, trivial⟩ ⟨lu kr kr, lu kr kr, lu kr kr, lu kr kr, trivial⟩)
   refine Sem.cond (b := v8) kr (fun hb9 => ?_) (fun hb9 => ?_)
   ·rw [if_pos hb9] at h
    refine Sem.seq ?_
    refine Sem.runS (s1 := ⟨Fr 41 [(4, .v (.bool true))], []⟩) ?_ ?_
    ·refine RunS.segF (n := 41) E0_ok 1 [(4, .v (.bool true))] [p2, p1] kr ?_
     exact RunS.done rfl (Wk.sel2 [] kr kr kr trivial ⟨lu kr kr, trivial⟩)
    refine Sem.ret ?_
    have hq := Option.some.inj h; subst hq
    exact ⟨rfl, (Wk.fr kr)⟩
   ·rw [if_f hb9] at h
    refine Sem.skip ?_
    let p6 : Nat × AV := (5, .v (.int .i64 (wr .i64 (c5 + 1))))
    refine Sem.rg E0_ok [p5, p4, p6] [p2, p1] ?_
    exact SemN.wk (s1 := ⟨Fr 41 [p5, p4, p6], [p2, p1]⟩) (Wk.sel2 [0, 1] kr kr kr ⟨⟨_, rfl, bu_c kr kr⟩, ⟨_, rfl, bu_c kr kr⟩, trivial⟩ ⟨lu kr kr, lu kr kr, lu kr kr, trivial⟩) (ih (wr .i64 (c5 + 1)) h)
  ·rw [if_f hb6] at h
   refine Sem.exit ?_
   have hq := Option.some.inj h; subst hq
   exact ⟨rfl, (Wk.sel2 [] kr kr kr trivial trivial)⟩
theorem ref03_named_sem (x0 : Clause) (x1 : Guest) (r : Bool) (h : ref03_named x0 x1 = some r) : Sem E0 ⟨none, false⟩ cb_ref03_named ⟨Fr 41 (pairs0 0 (cs_ref03_named.enc (x0, x1, ()))), []⟩ fun e s' => (e = .normal ∨ e = .ret) ∧ ∃ xs, resA E0.P s'.fr s'.hp Tryz.f152.results.toList = some xs ∧ retA xs = er_ref03_named r := by
 unfold ref03_named at h
 refine Sem.wkQ (Sem.wk (s1 := ⟨Fr 41 [(0, cdClause.enc x0), (1, cdGuest.enc x1)], []⟩) (Wk.fr kr) ?_)
 let p1 : Option Blk := some ⟨9, 44, [cdGuest.enc x1], false⟩
 let p2 : Option Blk := some ⟨5, 70, [cdClause.enc x0], false⟩
 let p3 : Nat × AV := (3, .pt 1 0 0)
 let p4 : Nat × AV := (2, .pt 0 0 0)
 refine Sem.sq E0_ok [p4, p3] [p2, p1] ?_
 refine Sem.seq ?_
 let p5 : Nat × AV := (7, .v (.int .u8 x0.1))
 refine Sem.sq E0_ok [p4, p3, p5] [p2, p1] ?_
 refine Sem.block ?_
 refine Sem.sq E0_ok [p4, p3, p5, (8, .v (.bool (x0.1 == 4)))] [p2, p1] ?_
 refine Sem.cond (b := (x0.1 == 4)) kr (fun hb1 => ?_) (fun hb1 => ?_)
 ·rw [if_pos hb1] at h
  refine Sem.seq ?_
  let p6 : Nat × AV := (4, .v (.bool (x1.2.2.2.2.1 == x0.2.2.2.2)))
  refine Sem.runS (s1 := ⟨Fr 41 [p6], []⟩) ?_ ?_
  ·refine RunS.segF (n := 41) E0_ok 6 [p6] [p2, p1] kr ?_
   exact RunS.done rfl (Wk.sel2 [] kr kr kr trivial ⟨lu kr kr, trivial⟩)
  refine Sem.ret ?_
  have hq := Option.some.inj h; subst hq
  exact ⟨⟨Fr 41 [p6], []⟩, (Wk.fr kr), .inr rfl, [.v (.bool (x1.2.2.2.2.1 == x0.2.2.2.2))], kr, kr⟩
 ·rw [if_f hb1] at h
  refine Sem.sq E0_ok [p4, p3, p5, (15, .v (.bool (x0.1 == 5)))] [p2, p1] ?_
  refine Sem.cond (b := (x0.1 == 5)) kr (fun hb2 => ?_) (fun hb2 => ?_)
  ·rw [if_pos hb2] at h
   refine Sem.seq ?_
   let p7 : Nat × AV := (4, .v (.bool x1.2.2.2.2.2.2.1))
   refine Sem.runS (s1 := ⟨Fr 41 [p7], []⟩) ?_ ?_
   ·refine RunS.segF (n := 41) E0_ok 3 [p7] [p2, p1] kr ?_
    exact RunS.done rfl (Wk.sel2 [] kr kr kr trivial ⟨lu kr kr, trivial⟩)
   refine Sem.ret ?_
   have hq := Option.some.inj h; subst hq
   exact ⟨⟨Fr 41 [p7], []⟩, (Wk.fr kr), .inr rfl, [.v (.bool x1.2.2.2.2.2.2.1)], kr, kr⟩
  ·rw [if_f hb2] at h
   refine Sem.sq E0_ok [p4, p3, (19, .v (.bool (x0.1 == 7)))] [p2, p1] ?_
   refine Sem.cond (b := (x0.1 == 7)) kr (fun hb3 => ?_) (fun hb3 => ?_)
   ·rw [if_pos hb3] at h
    refine Sem.seq ?_
    obtain ⟨v4, hv4, h⟩ := Option.bind_eq_some_iff.1 h
    refine Sem.runS (s1 := ⟨Fr 41 [(4, .v (.bool v4))], []⟩) ?_ ?_
    ·refine RunS.segF (n := 41) E0_ok 4 [(22, .sl 1 (x0.2.2.2.1.map cdS.enc)), (24, .st x1.2.2.1)] [p2, p1] kr ?_
     refine RunS.callV (caps := []) (xs := [.sl 1 (x0.2.2.2.1.map cdS.enc), .st x1.2.2.1]) (u := (x0.2.2.2.1, x1.2.2.1, ())) rfl rfl x_ref03_has rfl (wantedA_none rfl) kr kr (Sl.cons (Sm.enc (c := (cdL 1 cdS)) (v := x0.2.2.2.1)) (Sl.cons (Sm.enc (c := cdS) (v := x1.2.2.1)) Sl.nil)) (.inl kr) hv4 ?_
     refine RunS.segF (n := 41) E0_ok 1 [(4, .v (.bool v4))] [p2, p1] kr ?_
     exact RunS.done rfl (Wk.sel2 [] kr kr kr trivial ⟨lu kr kr, trivial⟩)
    refine Sem.ret ?_
    have hq := Option.some.inj h; subst hq
    exact ⟨⟨Fr 41 [(4, .v (.bool v4))], []⟩, (Wk.fr kr), .inr rfl, [.v (.bool v4)], kr, kr⟩
   ·rw [if_f hb3] at h
    refine Sem.skip ?_
    refine Sem.seq ?_
    let p8 : Nat × AV := (5, .v (.int .i64 0))
    refine Sem.sq E0_ok [p4, p3, p8] [p2, p1] ?_
    refine Sem.block ?_
    obtain ⟨r11, hr11, h⟩ := Option.bind_eq_some_iff.1 h
    refine Sem.loop (n := 100000) ?_
    rcases r11 with w12 | w13
    ·try dsimp only at h
     refine Sem.cutN (SemN.wk (s1 := ⟨Fr 41 [p4, p3, p8], [p2, p1]⟩) (Wk.sel2 [0, 1] kr kr kr ⟨⟨_, rfl, bu_c kr kr⟩, ⟨_, rfl, bu_c kr kr⟩, trivial⟩ ⟨lu kr kr, lu kr kr, lu kr kr, trivial⟩) (ref03_named_l1_ok x0 x1 _ 0 _ hr11)) ?_
     refine Sem.sq E0_ok [(4, .v (.bool false))] [] ?_
     refine Sem.ret ?_
     have hq := Option.some.inj h; subst hq
     exact ⟨⟨Fr 41 [(4, .v (.bool false))], []⟩, (Wk.fr kr), .inr rfl, [.v (.bool false)], kr, kr⟩
    ·try dsimp only at h
     refine Sem.cutN (SemN.wk (s1 := ⟨Fr 41 [p4, p3, p8], [p2, p1]⟩) (Wk.sel2 [0, 1] kr kr kr ⟨⟨_, rfl, bu_c kr kr⟩, ⟨_, rfl, bu_c kr kr⟩, trivial⟩ ⟨lu kr kr, lu kr kr, lu kr kr, trivial⟩) (ref03_named_l1_ok x0 x1 _ 0 _ hr11)) ?_
     have hq := Option.some.inj h; subst hq
     exact ⟨⟨Fr 41 [(4, .v (.bool w13))], []⟩, (Wk.fr kr), .inr rfl, [.v (.bool w13)], kr, kr⟩
def t_ref03_named : List AV → Option AV := told cs_ref03_named (fun a => ref03_named a.1 a.2.1) er_ref03_named
theorem x_ref03_named : XOk 152 t_ref03_named := by
 refine xok_of_sem Tryz.func152 (c := cb_ref03_named) ?h2 ⟨Tryz.call152⟩ cs_ref03_named (fun a => ref03_named a.1 a.2.1) er_ref03_named (fun a => (by show 2 ≤ 41; decide)) ?h3 ?h4
 case h2 => kernel_rfl
 case h3 => intro b; kernel_rfl
 case h4 => exact fun a b h => ref03_named_sem a.1 a.2.1 b h
/- trestle/trestleref03.before -/
noncomputable def cb_ref03_before : Code := codeOf Tryz.f128
def ref03_before (x0 : Clause) (x1 : Guest) (x2 : Guest) (x3 : Int) (x4 : Int) : Option (Bool) :=
 if (x0.1 == 1) = true then
 (ref03_rank x0.2.2.2.1 x1.2.1).bind fun v2 =>
 (ref03_rank x0.2.2.2.1 x2.2.1).bind fun v3 =>
 some (decide (v2 < v3))
 else
 if (x0.1 == 2) = true then
 (if (x1.2.2.2.1 != 0) = true then if (x2.2.2.2.1 == 0) = true then some true else some (decide (x1.2.2.2.1 < x2.2.2.2.1)) else some false).bind fun j6 =>
 some j6
 else
 if (x0.1 == 3) = true then
 (if (x1.2.2.2.1 != 0) = true then if (x2.2.2.2.1 == 0) = true then some true else some (decide (x1.2.2.2.1 > x2.2.2.2.1)) else some false).bind fun j11 =>
 some j11
 else
 if (x0.1 == 8) = true then
 some (Go.Op.bytesLess x1.1 x2.1)
 else
 if (x0.1 == 9) = true then
 (ref03_between x3 0 63).bind fun v16 =>
 (if v16 = true then (ref03_between x4 0 63).bind fun v17 =>
 if v17 = true then some (decide (x3 < x4)) else some false else some false).bind fun j19 =>
 some j19
 else
 if (x0.1 == 10) = true then
 (ref03_between x3 0 63).bind fun v23 =>
 (if v23 = true then (ref03_between x4 0 63).bind fun v24 =>
 if v24 = true then (ref03_key x3 x0.2.2.2.2).bind fun v25 =>
 (ref03_key x4 x0.2.2.2.2).bind fun v26 =>
 some (decide (v25 < v26)) else some false else some false).bind fun j28 =>
 some j28
 else
 if x0.2.2.1 = true then
 (ref03_named x0 x1).bind fun v32 =>
 (if (!v32) = true then (ref03_named x0 x2).bind fun v33 =>
 some v33 else some false).bind fun j35 =>
 some j35
 else
 (ref03_named x0 x1).bind fun v37 =>
 (if v37 = true then (ref03_named x0 x2).bind fun v38 =>
 some (!v38) else some false).bind fun j40 =>
 some j40
def cs_ref03_before : Cs (Clause × Guest × Guest × Int × Int × Unit) := (csC cdClause (csC cdGuest (csC cdGuest (csC cdI (csC cdI csN)))))
def er_ref03_before (r : Bool) : AV := cdB.enc r
theorem ref03_before_sem (x0 : Clause) (x1 : Guest) (x2 : Guest) (x3 : Int) (x4 : Int) (r : Bool) (h : ref03_before x0 x1 x2 x3 x4 = some r) : Sem E0 ⟨none, false⟩ cb_ref03_before ⟨Fr 119 (pairs0 0 (cs_ref03_before.enc (x0, x1, x2, x3, x4, ()))), []⟩ fun e s' => (e = .normal ∨ e = .ret) ∧ ∃ xs, resA E0.P s'.fr s'.hp Tryz.f128.results.toList = some xs ∧ retA xs = er_ref03_before r := by
 unfold ref03_before at h
 let p1 : Nat × AV := (4, .v (.int .i64 x4))
 let p2 : Nat × AV := (3, .v (.int .i64 x3))
 refine Sem.wkQ (Sem.wk (s1 := ⟨Fr 119 [(0, cdClause.enc x0), (1, cdGuest.enc x1), (2, cdGuest.enc x2), p2, p1], []⟩) (Wk.fr kr) ?_)
 let p3 : Option Blk := some ⟨9, 44, [cdGuest.enc x2], false⟩
 let p4 : Option Blk := some ⟨9, 44, [cdGuest.enc x1], false⟩
 let p5 : Option Blk := some ⟨5, 70, [cdClause.enc x0], false⟩
 let p6 : Nat × AV := (7, .pt 2 0 0)
 let p7 : Nat × AV := (6, .pt 1 0 0)
 let p8 : Nat × AV := (5, .pt 0 0 0)
 refine Sem.sq E0_ok [p2, p1, p8, p7, p6] [p5, p4, p3] ?_
 refine Sem.seq ?_
 let p9 : Nat × AV := (12, .v (.int .u8 x0.1))
 refine Sem.sq E0_ok [p2, p1, p8, p7, p6, p9] [p5, p4, p3] ?_
 refine Sem.block ?_
 refine Sem.sq E0_ok [p2, p1, p8, p7, p6, p9, (13, .v (.bool (x0.1 == 1)))] [p5, p4, p3] ?_
 refine Sem.cond (b := (x0.1 == 1)) kr (fun hb1 => ?_) (fun hb1 => ?_)
 ·rw [if_pos hb1] at h
  refine Sem.seq ?_
  obtain ⟨v2, hv2, h⟩ := Option.bind_eq_some_iff.1 h
  obtain ⟨v3, hv3, h⟩ := Option.bind_eq_some_iff.1 h
  let p10 : Nat × AV := (10, .v (.bool (decide (v2 < v3))))
  refine Sem.runDS E0_ok (s1 := ⟨Fr 119 [p10], []⟩) kr ?_ ?_
  ·refine RunDS.segF (n := 119) E0_ok 4 [p8, p6, (16, .sl 1 (x0.2.2.2.1.map cdS.enc)), (18, .st x1.2.1)] [p5, p4, p3] kr kr ?_
   refine RunDS.callV (caps := []) (xs := [.sl 1 (x0.2.2.2.1.map cdS.enc), .st x1.2.1]) (u := (x0.2.2.2.1, x1.2.1, ())) rfl rfl x_ref03_rank rfl (wantedA_none rfl) kr kr (Sl.cons (Sm.enc (c := (cdL 1 cdS)) (v := x0.2.2.2.1)) (Sl.cons (Sm.enc (c := cdS) (v := x1.2.1)) Sl.nil)) kr hv2 ?_
   refine RunDS.segF (n := 119) E0_ok 4 [(19, .v (.int .i64 v2)), (21, .sl 1 (x0.2.2.2.1.map cdS.enc)), (23, .st x2.2.1)] [p5, p4, p3] kr kr ?_
   refine RunDS.callV (caps := []) (xs := [.sl 1 (x0.2.2.2.1.map cdS.enc), .st x2.2.1]) (u := (x0.2.2.2.1, x2.2.1, ())) rfl rfl x_ref03_rank rfl (wantedA_none rfl) kr kr (Sl.cons (Sm.enc (c := (cdL 1 cdS)) (v := x0.2.2.2.1)) (Sl.cons (Sm.enc (c := cdS) (v := x2.2.1)) Sl.nil)) kr hv3 ?_
   refine RunDS.segF (n := 119) E0_ok 2 [p10] [p5, p4, p3] kr kr ?_
   exact RunDS.done rfl (Wk.sel2 [] kr kr kr trivial ⟨lu kr kr, trivial⟩)
  refine Sem.ret ?_
  have hq := Option.some.inj h; subst hq
  exact ⟨⟨Fr 119 [p10], []⟩, (Wk.fr kr), .inr rfl, [.v (.bool (decide (v2 < v3)))], kr, kr⟩
 ·rw [if_f hb1] at h
  refine Sem.sq E0_ok [p2, p1, p8, p7, p6, p9, (26, .v (.bool (x0.1 == 2)))] [p5, p4, p3] ?_
  refine Sem.cond (b := (x0.1 == 2)) kr (fun hb4 => ?_) (fun hb4 => ?_)
  ·rw [if_pos hb4] at h
   refine Sem.seq ?_
   obtain ⟨j6, hj6, h⟩ := Option.bind_eq_some_iff.1 h
   refine Sem.runS (s1 := ⟨Fr 119 [(10, .v (.bool j6))], []⟩) ?_ ?_
   ·refine RunS.segF (n := 119) E0_ok 4 [p7, p6, (31, .v (.bool (x1.2.2.2.1 != 0)))] [p5, p4, p3] kr ?_
    rcases Bool.eq_false_or_eq_true (x1.2.2.2.1 != 0) with hc7 | hc7
    ·rw [if_pos hc7] at hj6
     rw [hc7]
     refine RunS.segF (n := 119) E0_ok 4 [p7, p6, (31, .v (.bool true)), (35, .v (.bool (x2.2.2.2.1 == 0)))] [p5, p4, p3] kr ?_
     rcases Bool.eq_false_or_eq_true (x2.2.2.2.1 == 0) with hc8 | hc8
     ·rw [if_pos hc8] at hj6
      rw [hc8]
      refine RunS.segF (n := 119) E0_ok 8 [(10, .v (.bool true))] [p5, p4, p3] kr ?_
      have hq := Option.some.inj hj6; subst hq
      exact RunS.done rfl (Wk.sel2 [] kr kr kr trivial ⟨lu kr kr, trivial⟩)
     ·rw [if_f hc8] at hj6
      rw [hc8]
      refine RunS.segF (n := 119) E0_ok 8 [(10, .v (.bool (decide (x1.2.2.2.1 < x2.2.2.2.1))))] [p5, p4, p3] kr ?_
      have hq := Option.some.inj hj6; subst hq
      exact RunS.done rfl (Wk.sel2 [] kr kr kr trivial ⟨lu kr kr, trivial⟩)
    ·rw [if_f hc7] at hj6
     rw [hc7]
     refine RunS.segF (n := 119) E0_ok 12 [(10, .v (.bool false))] [p5, p4, p3] kr ?_
     have hq := Option.some.inj hj6; subst hq
     exact RunS.done rfl (Wk.sel2 [] kr kr kr trivial ⟨lu kr kr, trivial⟩)
   refine Sem.ret ?_
   have hq := Option.some.inj h; subst hq
   exact ⟨⟨Fr 119 [(10, .v (.bool j6))], []⟩, (Wk.fr kr), .inr rfl, [.v (.bool j6)], kr, kr⟩
  ·rw [if_f hb4] at h
   refine Sem.sq E0_ok [p2, p1, p8, p7, p6, p9, (43, .v (.bool (x0.1 == 3)))] [p5, p4, p3] ?_
   refine Sem.cond (b := (x0.1 == 3)) kr (fun hb9 => ?_) (fun hb9 => ?_)
   ·rw [if_pos hb9] at h
    refine Sem.seq ?_
    obtain ⟨j11, hj11, h⟩ := Option.bind_eq_some_iff.1 h
    refine Sem.runS (s1 := ⟨Fr 119 [(10, .v (.bool j11))], []⟩) ?_ ?_
    ·refine RunS.segF (n := 119) E0_ok 4 [p7, p6, (48, .v (.bool (x1.2.2.2.1 != 0)))] [p5, p4, p3] kr ?_
     rcases Bool.eq_false_or_eq_true (x1.2.2.2.1 != 0) with hc12 | hc12
     ·rw [if_pos hc12] at hj11
      rw [hc12]
      refine RunS.segF (n := 119) E0_ok 4 [p7, p6, (48, .v (.bool true)), (52, .v (.bool (x2.2.2.2.1 == 0)))] [p5, p4, p3] kr ?_
      rcases Bool.eq_false_or_eq_true (x2.2.2.2.1 == 0) with hc13 | hc13
      ·rw [if_pos hc13] at hj11
       rw [hc13]
       refine RunS.segF (n := 119) E0_ok 8 [(10, .v (.bool true))] [p5, p4, p3] kr ?_
       have hq := Option.some.inj hj11; subst hq
       exact RunS.done rfl (Wk.sel2 [] kr kr kr trivial ⟨lu kr kr, trivial⟩)
      ·rw [if_f hc13] at hj11
       rw [hc13]
       refine RunS.segF (n := 119) E0_ok 8 [(10, .v (.bool (decide (x1.2.2.2.1 > x2.2.2.2.1))))] [p5, p4, p3] kr ?_
       have hq := Option.some.inj hj11; subst hq
       exact RunS.done rfl (Wk.sel2 [] kr kr kr trivial ⟨lu kr kr, trivial⟩)
     ·rw [if_f hc12] at hj11
      rw [hc12]
      refine RunS.segF (n := 119) E0_ok 12 [(10, .v (.bool false))] [p5, p4, p3] kr ?_
      have hq := Option.some.inj hj11; subst hq
      exact RunS.done rfl (Wk.sel2 [] kr kr kr trivial ⟨lu kr kr, trivial⟩)
    refine Sem.ret ?_
    have hq := Option.some.inj h; subst hq
    exact ⟨⟨Fr 119 [(10, .v (.bool j11))], []⟩, (Wk.fr kr), .inr rfl, [.v (.bool j11)], kr, kr⟩
   ·rw [if_f hb9] at h
    refine Sem.sq E0_ok [p2, p1, p8, p7, p6, p9, (60, .v (.bool (x0.1 == 8)))] [p5, p4, p3] ?_
    refine Sem.cond (b := (x0.1 == 8)) kr (fun hb14 => ?_) (fun hb14 => ?_)
    ·rw [if_pos hb14] at h
     refine Sem.seq ?_
     let p11 : Nat × AV := (10, .v (.bool (Go.Op.bytesLess x1.1 x2.1)))
     refine Sem.runS (s1 := ⟨Fr 119 [p11], []⟩) ?_ ?_
     ·refine RunS.segF (n := 119) E0_ok 6 [p11] [p5, p4, p3] kr ?_
      exact RunS.done rfl (Wk.sel2 [] kr kr kr trivial ⟨lu kr kr, trivial⟩)
     refine Sem.ret ?_
     have hq := Option.some.inj h; subst hq
     exact ⟨⟨Fr 119 [p11], []⟩, (Wk.fr kr), .inr rfl, [.v (.bool (Go.Op.bytesLess x1.1 x2.1))], kr, kr⟩
    ·rw [if_f hb14] at h
     refine Sem.sq E0_ok [p2, p1, p8, p7, p6, p9, (67, .v (.bool (x0.1 == 9)))] [p5, p4, p3] ?_
     refine Sem.cond (b := (x0.1 == 9)) kr (fun hb15 => ?_) (fun hb15 => ?_)
     ·rw [if_pos hb15] at h
      refine Sem.seq ?_
      obtain ⟨v16, hv16, h⟩ := Option.bind_eq_some_iff.1 h
      obtain ⟨j19, hj19, h⟩ := Option.bind_eq_some_iff.1 h
      refine Sem.runS (s1 := ⟨Fr 119 [(10, .v (.bool j19))], []⟩) ?_ ?_
      ·refine RunS.segF (n := 119) E0_ok 1 [p2, p1, (69, .v (.int .i64 x3))] [p5, p4, p3] kr ?_
       refine RunS.callV (caps := []) (xs := [.v (.int .i64 x3), .v (.int .i64 0), .v (.int .i64 63)]) (u := (x3, 0, 63, ())) rfl rfl x_ref03_between rfl (wantedA_none rfl) kr kr (Sl.cons (Sm.enc (c := cdI) (v := x3)) (Sl.cons (Sm.enc (c := cdI) (v := 0)) (Sl.cons (Sm.enc (c := cdI) (v := 63)) Sl.nil))) (.inl kr) hv16 ?_
       refine RunS.segF (n := 119) E0_ok 1 [p2, p1, (71, .v (.bool v16))] [p5, p4, p3] kr ?_
       rcases Bool.eq_false_or_eq_true v16 with hc20 | hc20
       ·rw [if_pos hc20] at hj19
        rw [hc20]
        refine RunS.segF (n := 119) E0_ok 1 [p2, p1, (71, .v (.bool true)), (72, .v (.int .i64 x4))] [p5, p4, p3] kr ?_
        obtain ⟨v17, hv17, hj19⟩ := Option.bind_eq_some_iff.1 hj19
        refine RunS.callV (caps := []) (xs := [.v (.int .i64 x4), .v (.int .i64 0), .v (.int .i64 63)]) (u := (x4, 0, 63, ())) rfl rfl x_ref03_between rfl kr kr kr (Sl.cons (Sm.enc (c := cdI) (v := x4)) (Sl.cons (Sm.enc (c := cdI) (v := 0)) (Sl.cons (Sm.enc (c := cdI) (v := 63)) Sl.nil))) (.inl kr) hv17 ?_
        refine RunS.segF (n := 119) E0_ok 2 [p2, p1, (75, .v (.bool v17))] [p5, p4, p3] kr ?_
        rcases Bool.eq_false_or_eq_true v17 with hc21 | hc21
        ·rw [if_pos hc21] at hj19
         rw [hc21]
         refine RunS.segF (n := 119) E0_ok 5 [(10, .v (.bool (decide (x3 < x4))))] [p5, p4, p3] kr ?_
         have hq := Option.some.inj hj19; subst hq
         exact RunS.done rfl (Wk.sel2 [] kr kr kr trivial ⟨lu kr kr, trivial⟩)
        ·rw [if_f hc21] at hj19
         rw [hc21]
         refine RunS.segF (n := 119) E0_ok 5 [(10, .v (.bool false))] [p5, p4, p3] kr ?_
         have hq := Option.some.inj hj19; subst hq
         exact RunS.done rfl (Wk.sel2 [] kr kr kr trivial ⟨lu kr kr, trivial⟩)
       ·rw [if_f hc20] at hj19
        rw [hc20]
        refine RunS.segF (n := 119) E0_ok 9 [(10, .v (.bool false))] [p5, p4, p3] kr ?_
        have hq := Option.some.inj hj19; subst hq
        exact RunS.done rfl (Wk.sel2 [] kr kr kr trivial ⟨lu kr kr, trivial⟩)
      refine Sem.ret ?_
      have hq := Option.some.inj h; subst hq
      exact ⟨⟨Fr 119 [(10, .v (.bool j19))], []⟩, (Wk.fr kr), .inr rfl, [.v (.bool j19)], kr, kr⟩
     ·rw [if_f hb15] at h
      refine Sem.sq E0_ok [p2, p1, p8, p7, p6, (80, .v (.bool (x0.1 == 10)))] [p5, p4, p3] ?_
      refine Sem.cond (b := (x0.1 == 10)) kr (fun hb22 => ?_) (fun hb22 => ?_)
      ·rw [if_pos hb22] at h
       refine Sem.seq ?_
       obtain ⟨v23, hv23, h⟩ := Option.bind_eq_some_iff.1 h
       obtain ⟨j28, hj28, h⟩ := Option.bind_eq_some_iff.1 h
       refine Sem.runDS E0_ok (s1 := ⟨Fr 119 [(10, .v (.bool j28))], []⟩) kr ?_ ?_
       ·refine RunDS.segF (n := 119) E0_ok 1 [p2, p1, p8, (82, .v (.int .i64 x3))] [p5, p4, p3] kr kr ?_
        refine RunDS.callV (caps := []) (xs := [.v (.int .i64 x3), .v (.int .i64 0), .v (.int .i64 63)]) (u := (x3, 0, 63, ())) rfl rfl x_ref03_between rfl (wantedA_none rfl) kr kr (Sl.cons (Sm.enc (c := cdI) (v := x3)) (Sl.cons (Sm.enc (c := cdI) (v := 0)) (Sl.cons (Sm.enc (c := cdI) (v := 63)) Sl.nil))) kr hv23 ?_
        refine RunDS.segF (n := 119) E0_ok 1 [p2, p1, p8, (84, .v (.bool v23))] [p5, p4, p3] kr kr ?_
        rcases Bool.eq_false_or_eq_true v23 with hc29 | hc29
        ·rw [if_pos hc29] at hj28
         rw [hc29]
         refine RunDS.segF (n := 119) E0_ok 1 [p2, p1, p8, (84, .v (.bool true)), (85, .v (.int .i64 x4))] [p5, p4, p3] kr kr ?_
         obtain ⟨v24, hv24, hj28⟩ := Option.bind_eq_some_iff.1 hj28
         refine RunDS.callV (caps := []) (xs := [.v (.int .i64 x4), .v (.int .i64 0), .v (.int .i64 63)]) (u := (x4, 0, 63, ())) rfl rfl x_ref03_between rfl kr kr kr (Sl.cons (Sm.enc (c := cdI) (v := x4)) (Sl.cons (Sm.enc (c := cdI) (v := 0)) (Sl.cons (Sm.enc (c := cdI) (v := 63)) Sl.nil))) kr hv24 ?_
         refine RunDS.segF (n := 119) E0_ok 2 [p2, p1, p8, (88, .v (.bool v24))] [p5, p4, p3] kr kr ?_
         rcases Bool.eq_false_or_eq_true v24 with hc30 | hc30
         ·rw [if_pos hc30] at hj28
          rw [hc30]
          refine RunDS.segF (n := 119) E0_ok 3 [p1, p8, (88, .v (.bool true)), (89, .v (.int .i64 x3)), (91, .v (.int .i64 x0.2.2.2.2))] [p5, p4, p3] kr kr ?_
          obtain ⟨v25, hv25, hj28⟩ := Option.bind_eq_some_iff.1 hj28
          refine RunDS.callV (caps := []) (xs := [.v (.int .i64 x3), .v (.int .i64 x0.2.2.2.2)]) (u := (x3, x0.2.2.2.2, ())) rfl rfl x_ref03_key rfl kr kr kr (Sl.cons (Sm.enc (c := cdI) (v := x3)) (Sl.cons (Sm.enc (c := cdI) (v := x0.2.2.2.2)) Sl.nil)) kr hv25 ?_
          refine RunDS.segF (n := 119) E0_ok 3 [(88, .v (.bool true)), (92, .v (.int .i64 v25)), (93, .v (.int .i64 x4)), (95, .v (.int .i64 x0.2.2.2.2))] [p5, p4, p3] kr kr ?_
          obtain ⟨v26, hv26, hj28⟩ := Option.bind_eq_some_iff.1 hj28
          refine RunDS.callV (caps := []) (xs := [.v (.int .i64 x4), .v (.int .i64 x0.2.2.2.2)]) (u := (x4, x0.2.2.2.2, ())) rfl rfl x_ref03_key rfl kr kr kr (Sl.cons (Sm.enc (c := cdI) (v := x4)) (Sl.cons (Sm.enc (c := cdI) (v := x0.2.2.2.2)) Sl.nil)) kr hv26 ?_
          refine RunDS.segF (n := 119) E0_ok 3 [(10, .v (.bool (decide (v25 < v26))))] [p5, p4, p3] kr kr ?_
          have hq := Option.some.inj hj28; subst hq
          exact RunDS.done rfl (Wk.sel2 [] kr kr kr trivial ⟨lu kr kr, trivial⟩)
         ·rw [if_f hc30] at hj28
          rw [hc30]
          refine RunDS.segF (n := 119) E0_ok 11 [(10, .v (.bool false))] [p5, p4, p3] kr kr ?_
          have hq := Option.some.inj hj28; subst hq
          exact RunDS.done rfl (Wk.sel2 [] kr kr kr trivial ⟨lu kr kr, trivial⟩)
        ·rw [if_f hc29] at hj28
         rw [hc29]
         refine RunDS.segF (n := 119) E0_ok 15 [(10, .v (.bool false))] [p5, p4, p3] kr kr ?_
         have hq := Option.some.inj hj28; subst hq
         exact RunDS.done rfl (Wk.sel2 [] kr kr kr trivial ⟨lu kr kr, trivial⟩)
       refine Sem.ret ?_
       have hq := Option.some.inj h; subst hq
       exact ⟨⟨Fr 119 [(10, .v (.bool j28))], []⟩, (Wk.fr kr), .inr rfl, [.v (.bool j28)], kr, kr⟩
      ·rw [if_f hb22] at h
       refine Sem.skip ?_
       refine Sem.seq ?_
       refine Sem.sq E0_ok [p8, p7, p6, (100, .v (.bool x0.2.2.1))] [p5, p4, p3] ?_
       refine Sem.cond (b := x0.2.2.1) kr (fun hb31 => ?_) (fun hb31 => ?_)
       ·rw [if_pos hb31] at h
        refine Sem.seq ?_
        obtain ⟨v32, hv32, h⟩ := Option.bind_eq_some_iff.1 h
        obtain ⟨j35, hj35, h⟩ := Option.bind_eq_some_iff.1 h
        refine Sem.runS (s1 := ⟨Fr 119 [(10, .v (.bool j35))], []⟩) ?_ ?_
        ·refine RunS.segF (n := 119) E0_ok 2 [p8, p6, (101, cdClause.enc x0), (102, cdGuest.enc x1)] [p5, p4, p3] kr ?_
         refine RunS.callV (caps := []) (xs := [cdClause.enc x0, cdGuest.enc x1]) (u := (x0, x1, ())) rfl rfl x_ref03_named rfl (wantedA_none rfl) kr kr (Sl.cons (Sm.enc (c := cdClause) (v := x0)) (Sl.cons (Sm.enc (c := cdGuest) (v := x1)) Sl.nil)) (.inl kr) hv32 ?_
         refine RunS.segF (n := 119) E0_ok 2 [p8, p6, (105, .v (.bool (!v32)))] [p5, p4, p3] kr ?_
         rcases Bool.eq_false_or_eq_true (!v32) with hc36 | hc36
         ·rw [if_pos hc36] at hj35
          rw [hc36]
          refine RunS.segF (n := 119) E0_ok 2 [(105, .v (.bool true)), (106, cdClause.enc x0), (107, cdGuest.enc x2)] [p5, p4, p3] kr ?_
          obtain ⟨v33, hv33, hj35⟩ := Option.bind_eq_some_iff.1 hj35
          refine RunS.callV (caps := []) (xs := [cdClause.enc x0, cdGuest.enc x2]) (u := (x0, x2, ())) rfl rfl x_ref03_named rfl kr kr kr (Sl.cons (Sm.enc (c := cdClause) (v := x0)) (Sl.cons (Sm.enc (c := cdGuest) (v := x2)) Sl.nil)) (.inl kr) hv33 ?_
          refine RunS.segF (n := 119) E0_ok 2 [(10, .v (.bool v33))] [p5, p4, p3] kr ?_
          have hq := Option.some.inj hj35; subst hq
          exact RunS.done rfl (Wk.sel2 [] kr kr kr trivial ⟨lu kr kr, trivial⟩)
         ·rw [if_f hc36] at hj35
          rw [hc36]
          refine RunS.segF (n := 119) E0_ok 5 [(10, .v (.bool false))] [p5, p4, p3] kr ?_
          have hq := Option.some.inj hj35; subst hq
          exact RunS.done rfl (Wk.sel2 [] kr kr kr trivial ⟨lu kr kr, trivial⟩)
        refine Sem.ret ?_
        have hq := Option.some.inj h; subst hq
        exact ⟨⟨Fr 119 [(10, .v (.bool j35))], []⟩, (Wk.fr kr), .inr rfl, [.v (.bool j35)], kr, kr⟩
       ·rw [if_f hb31] at h
        refine Sem.skip ?_
        refine Sem.seq ?_
        obtain ⟨v37, hv37, h⟩ := Option.bind_eq_some_iff.1 h
        obtain ⟨j40, hj40, h⟩ := Option.bind_eq_some_iff.1 h
        refine Sem.runS (s1 := ⟨Fr 119 [(10, .v (.bool j40))], []⟩) ?_ ?_
        ·refine RunS.segF (n := 119) E0_ok 2 [p8, p6, (110, cdClause.enc x0), (111, cdGuest.enc x1)] [p5, p4, p3] kr ?_
         refine RunS.callV (caps := []) (xs := [cdClause.enc x0, cdGuest.enc x1]) (u := (x0, x1, ())) rfl rfl x_ref03_named rfl (wantedA_none rfl) kr kr (Sl.cons (Sm.enc (c := cdClause) (v := x0)) (Sl.cons (Sm.enc (c := cdGuest) (v := x1)) Sl.nil)) (.inl kr) hv37 ?_
         refine RunS.segF (n := 119) E0_ok 1 [p8, p6, (113, .v (.bool v37))] [p5, p4, p3] kr ?_
         rcases Bool.eq_false_or_eq_true v37 with hc41 | hc41
         ·rw [if_pos hc41] at hj40
          rw [hc41]
          refine RunS.segF (n := 119) E0_ok 2 [(113, .v (.bool true)), (114, cdClause.enc x0), (115, cdGuest.enc x2)] [p5, p4, p3] kr ?_
          obtain ⟨v38, hv38, hj40⟩ := Option.bind_eq_some_iff.1 hj40
          refine RunS.callV (caps := []) (xs := [cdClause.enc x0, cdGuest.enc x2]) (u := (x0, x2, ())) rfl rfl x_ref03_named rfl kr kr kr (Sl.cons (Sm.enc (c := cdClause) (v := x0)) (Sl.cons (Sm.enc (c := cdGuest) (v := x2)) Sl.nil)) (.inl kr) hv38 ?_
          refine RunS.segF (n := 119) E0_ok 3 [(10, .v (.bool (!v38)))] [p5, p4, p3] kr ?_
          have hq := Option.some.inj hj40; subst hq
          exact RunS.done rfl (Wk.sel2 [] kr kr kr trivial ⟨lu kr kr, trivial⟩)
         ·rw [if_f hc41] at hj40
          rw [hc41]
          refine RunS.segF (n := 119) E0_ok 6 [(10, .v (.bool false))] [p5, p4, p3] kr ?_
          have hq := Option.some.inj hj40; subst hq
          exact RunS.done rfl (Wk.sel2 [] kr kr kr trivial ⟨lu kr kr, trivial⟩)
        refine Sem.ret ?_
        have hq := Option.some.inj h; subst hq
        exact ⟨⟨Fr 119 [(10, .v (.bool j40))], []⟩, (Wk.fr kr), .inr rfl, [.v (.bool j40)], kr, kr⟩
def t_ref03_before : List AV → Option AV := told cs_ref03_before (fun a => ref03_before a.1 a.2.1 a.2.2.1 a.2.2.2.1 a.2.2.2.2.1) er_ref03_before
theorem x_ref03_before : XOk 128 t_ref03_before := by
 refine xok_of_sem Tryz.func128 (c := cb_ref03_before) ?h2 ⟨Tryz.call128⟩ cs_ref03_before (fun a => ref03_before a.1 a.2.1 a.2.2.1 a.2.2.2.1 a.2.2.2.2.1) er_ref03_before (fun a => (by show 5 ≤ 119; decide)) ?h3 ?h4
 case h2 => kernel_rfl
 case h3 => intro b; kernel_rfl
 case h4 => exact fun a b h => ref03_before_sem a.1 a.2.1 a.2.2.1 a.2.2.2.1 a.2.2.2.2.1 b h
/- trestle/trestleref03.Reason -/
noncomputable def cb_ref03_Reason : Code := codeOf Tryz.f86
def ref03_Reason_l1 (x0 : (List Clause)) (x1 : Guest) (x2 : Guest) (x3 : Int) (x4 : Int) : Nat → Int → Option ((Unit) ⊕ (Int × Int))
 | 0, _ => none
 | f + 1, c1 =>
  if (decide (c1 < (x0.length : Int))) = true then
  (idx x0 c1).bind fun v3 =>
  (if (!(v3.2.1 == [])) = true then (idx x0 c1).bind fun v4 =>
  if (!(x1.2.1 == v4.2.1)) = true then some true else (idx x0 c1).bind fun v5 =>
  some (!(x2.2.1 == v5.2.1)) else some false).bind fun j7 =>
  if j7 = true then
  ref03_Reason_l1 x0 x1 x2 x3 x4 f (wr .i64 (c1 + 1))
  else
  (idx x0 c1).bind fun v9 =>
  (ref03_before v9 x1 x2 x3 x4).bind fun v10 =>
  if v10 = true then
  some (.inr (c1, (-1)))
  else
  (idx x0 c1).bind fun v14 =>
  (ref03_before v14 x2 x1 x4 x3).bind fun v15 =>
  if v15 = true then
  some (.inr (c1, 1))
  else
  ref03_Reason_l1 x0 x1 x2 x3 x4 f (wr .i64 (c1 + 1))
  else
  some (.inl ())
def ref03_Reason (x0 : (List Clause)) (x1 : Guest) (x2 : Guest) (x3 : Int) (x4 : Int) : Option (Int × Int) :=
 (ref03_Reason_l1 x0 x1 x2 x3 x4 100000 0).bind fun r19 =>
 match r19 with
 | (.inl w20) =>
  some ((-1), 0)
 | (.inr w21) =>
  some (w21.1, w21.2)
def cs_ref03_Reason : Cs ((List Clause) × Guest × Guest × Int × Int × Unit) := (csC (cdL 5 cdClause) (csC cdGuest (csC cdGuest (csC cdI (csC cdI csN)))))
def er_ref03_Reason (r : Int × Int) : AV := .tp [cdI.enc r.1, cdI.enc r.2]
theorem ref03_Reason_l1_ok (x0 : (List Clause)) (x1 : Guest) (x2 : Guest) (x3 : Int) (x4 : Int) : ∀ (f : Nat) (c1 : Int) (r : (Unit) ⊕ (Int × Int)), ref03_Reason_l1 x0 x1 x2 x3 x4 f c1 = some r → SemN E0 ⟨none, false⟩ (pc cb_ref03_Reason [1, 0, 1, 0, 0]) f ⟨Fr 65 [(0, .sl 5 (x0.map cdClause.enc)), (3, .v (.int .i64 x3)), (4, .v (.int .i64 x4)), (6, .pt 0 0 0), (7, .pt 1 0 0), (12, .v (.int .i64 c1))], [some ⟨9, 44, [cdGuest.enc x1], false⟩, some ⟨9, 44, [cdGuest.enc x2], false⟩]⟩ (fun e s => match r with
 | (.inl w) => e = (.exit 0) ∧ Wk E0 s ⟨Fr 65 [], []⟩
 | (.inr w) => e = .ret ∧ Wk E0 s ⟨Fr 65 [(10, .v (.int .i64 w.1)), (11, .v (.int .i64 w.2))], []⟩) := by
 intro f
 induction f with
 | zero => intro c1 r h; cases h
 | succ f ih0 =>
  intro c1 r h
  have ih := fun (c1 : Int) => ih0 c1 r
  unfold ref03_Reason_l1 at h
  refine SemN.succ ?_
  refine Sem.seq ?_
  refine Sem.seq ?_
  let p1 : Option Blk := some ⟨9, 44, [cdGuest.enc x2], false⟩
  let p2 : Option Blk := some ⟨9, 44, [cdGuest.enc x1], false⟩
  let p3 : Nat × AV := (12, .v (.int .i64 c1))
  let p4 : Nat × AV := (7, .pt 1 0 0)
  let p5 : Nat × AV := (6, .pt 0 0 0)
  let p6 : Nat × AV := (4, .v (.int .i64 x4))
  let p7 : Nat × AV := (3, .v (.int .i64 x3))
  let p8 : Nat × AV := (0, .sl 5 (x0.map cdClause.enc))
  refine Sem.runS (s1 := ⟨Fr 65 [p8, p7, p6, p5, p4, p3, (16, .v (.bool (decide (c1 < (x0.length : Int)))))], [p2, p1]⟩) ?_ ?_
  ·refine RunS.segF (n := 65) E0_ok 2 [p8, p7, p6, p5, p4, p3, (13, .v (.int .i64 c1)), (14, .sl 5 (x0.map cdClause.enc))] [p2, p1] kr ?_
   refine RunS.one E0_ok 0 rfl (op_q (wantedA_none rfl) rfl (q_len (a := .sl 5 (x0.map cdClause.enc)) kr (len_sl (el := 70) kr))) ?_
   exact RunS.last E0_ok
  refine Sem.cond (b := (decide (c1 < (x0.length : Int)))) kr (fun hb2 => ?_) (fun hb2 => ?_)
  ·rw [if_pos hb2] at h
   refine Sem.skip ?_
   refine Sem.seq ?_
   refine Sem.block ?_
   refine Sem.seq ?_
   refine Sem.seq ?_
   obtain ⟨v3, hv3, h⟩ := Option.bind_eq_some_iff.1 h
   obtain ⟨j7, hj7, h⟩ := Option.bind_eq_some_iff.1 h
   refine Sem.runDS E0_ok (s1 := ⟨Fr 65 [p8, p7, p6, p5, p4, p3, (44, .v (.bool j7))], [p2, p1]⟩) kr ?_ ?_
   ·refine RunDS.segF (n := 65) E0_ok 2 [p8, p7, p6, p5, p4, p3, (19, .sl 5 (x0.map cdClause.enc)), (20, .v (.int .i64 c1))] [p2, p1] kr kr ?_
    refine RunDS.one E0_ok rfl kr (opd_q kr (wantedA_none rfl) rfl (q_indexAddr (a := .sl 5 (x0.map cdClause.enc)) (b := .v (.int .i64 c1)) kr kr (ix_sl (e := cdClause.enc) (el := 70) (k := 5) (ki := .i64) kr kr hv3)) kr) ?_
    refine RunDS.segF (n := 65) E0_ok 4 [p8, p7, p6, p5, p4, p3, (25, .v (.bool (!(v3.2.1 == []))))] [p2, p1] kr kr ?_
    rcases Bool.eq_false_or_eq_true (!(v3.2.1 == [])) with hc17 | hc17
    ·rw [if_pos hc17] at hj7
     rw [hc17]
     let p9 : Nat × AV := (29, .v (.int .i64 c1))
     let p10 : Nat × AV := (28, .sl 5 (x0.map cdClause.enc))
     let p11 : Nat × AV := (27, .st x1.2.1)
     let p12 : Nat × AV := (26, .pt 0 0 1)
     refine RunDS.segF (n := 65) E0_ok 4 [p8, p7, p6, p5, p4, p3, (25, .v (.bool true)), p12, p11, p10, p9] [p2, p1] kr kr ?_
     obtain ⟨v4, hv4, hj7⟩ := Option.bind_eq_some_iff.1 hj7
     refine RunDS.one E0_ok rfl kr (opd_q kr kr rfl (q_indexAddr (a := .sl 5 (x0.map cdClause.enc)) (b := .v (.int .i64 c1)) kr kr (ix_sl (e := cdClause.enc) (el := 70) (k := 5) (ki := .i64) kr kr hv4)) kr) ?_
     let p13 : Nat × AV := (32, .st v4.2.1)
     let p14 : Nat × AV := (31, .pe (cdClause.enc v4) 1)
     let p15 : Nat × AV := (30, .pe (cdClause.enc v4) 0)
     refine RunDS.segF (n := 65) E0_ok 4 [p8, p7, p6, p5, p4, p3, (25, .v (.bool true)), p12, p11, p10, p9, p15, p14, p13, (33, .v (.bool (!(x1.2.1 == v4.2.1)))), (34, .v (.bool (!(x1.2.1 == v4.2.1))))] [p2, p1] kr kr ?_
     rcases Bool.eq_false_or_eq_true (!(x1.2.1 == v4.2.1)) with hc18 | hc18
     ·rw [if_pos hc18] at hj7
      rw [hc18]
      refine RunDS.segF (n := 65) E0_ok 10 [p8, p7, p6, p5, p4, p3, p12, p11, p10, p9, p15, p14, p13, (33, .v (.bool true)), (34, .v (.bool true)), (35, .tp []), (36, .tp []), (37, .tp []), (38, .tp []), (39, .tp []), (40, .tp []), (41, .tp []), (42, .tp []), (43, .v (.bool true)), (44, .v (.bool true))] [p2, p1] kr kr ?_
      have hq := Option.some.inj hj7; subst hq
      exact RunDS.done rfl (Wk.sel2 [0, 1] kr kr kr ⟨⟨_, rfl, bu_c kr kr⟩, ⟨_, rfl, bu_c kr kr⟩, trivial⟩ ⟨lu kr kr, lu kr kr, lu kr kr, lu kr kr, lu kr kr, lu kr kr, lu kr kr, trivial⟩)
     ·rw [if_f hc18] at hj7
      rw [hc18]
      refine RunDS.segF (n := 65) E0_ok 4 [p8, p7, p6, p5, p4, p3, (25, .v (.bool true)), p12, p11, p10, p9, p15, p14, p13, (33, .v (.bool false)), (34, .v (.bool false)), (35, .pt 1 0 1), (36, .st x2.2.1), (37, .sl 5 (x0.map cdClause.enc)), (38, .v (.int .i64 c1))] [p2, p1] kr kr ?_
      obtain ⟨v5, hv5, hj7⟩ := Option.bind_eq_some_iff.1 hj7
      refine RunDS.one E0_ok rfl kr (opd_q kr kr rfl (q_indexAddr (a := .sl 5 (x0.map cdClause.enc)) (b := .v (.int .i64 c1)) kr kr (ix_sl (e := cdClause.enc) (el := 70) (k := 5) (ki := .i64) kr kr hv5)) kr) ?_
      refine RunDS.segF (n := 65) E0_ok 5 [p8, p7, p6, p5, p4, p3, p12, p11, p10, p9, p15, p14, p13, (33, .v (.bool false)), (34, .v (.bool false)), (35, .pt 1 0 1), (36, .st x2.2.1), (37, .sl 5 (x0.map cdClause.enc)), (38, .v (.int .i64 c1)), (39, .pe (cdClause.enc v5) 0), (40, .pe (cdClause.enc v5) 1), (41, .st v5.2.1), (42, .v (.bool (!(x2.2.1 == v5.2.1)))), (43, .v (.bool (!(x2.2.1 == v5.2.1)))), (44, .v (.bool (!(x2.2.1 == v5.2.1))))] [p2, p1] kr kr ?_
      have hq := Option.some.inj hj7; subst hq
      exact RunDS.done rfl (Wk.sel2 [0, 1] kr kr kr ⟨⟨_, rfl, bu_c kr kr⟩, ⟨_, rfl, bu_c kr kr⟩, trivial⟩ ⟨lu kr kr, lu kr kr, lu kr kr, lu kr kr, lu kr kr, lu kr kr, lu kr kr, trivial⟩)
    ·rw [if_f hc17] at hj7
     rw [hc17]
     refine RunDS.segF (n := 65) E0_ok 19 [p8, p7, p6, p5, p4, p3, (26, .tp []), (27, .tp []), (28, .tp []), (29, .tp []), (30, .tp []), (31, .tp []), (32, .tp []), (33, .tp []), (34, .tp []), (35, .tp []), (36, .tp []), (37, .tp []), (38, .tp []), (39, .tp []), (40, .tp []), (41, .tp []), (42, .tp []), (43, .tp []), (44, .v (.bool false))] [p2, p1] kr kr ?_
     have hq := Option.some.inj hj7; subst hq
     exact RunDS.done rfl (Wk.sel2 [0, 1] kr kr kr ⟨⟨_, rfl, bu_c kr kr⟩, ⟨_, rfl, bu_c kr kr⟩, trivial⟩ ⟨lu kr kr, lu kr kr, lu kr kr, lu kr kr, lu kr kr, lu kr kr, lu kr kr, trivial⟩)
   refine Sem.cond (b := j7) kr (fun hb8 => ?_) (fun hb8 => ?_)
   ·rw [if_pos hb8] at h
    refine Sem.exit ?_
    let p16 : Nat × AV := (12, .v (.int .i64 (wr .i64 (c1 + 1))))
    refine Sem.rg E0_ok [p8, p7, p6, p5, p4, p16] [p2, p1] ?_
    exact SemN.wk (s1 := ⟨Fr 65 [p8, p7, p6, p5, p4, p16], [p2, p1]⟩) (Wk.sel2 [0, 1] kr kr kr ⟨⟨_, rfl, bu_c kr kr⟩, ⟨_, rfl, bu_c kr kr⟩, trivial⟩ ⟨lu kr kr, lu kr kr, lu kr kr, lu kr kr, lu kr kr, lu kr kr, trivial⟩) (ih (wr .i64 (c1 + 1)) h)
   ·rw [if_f hb8] at h
    refine Sem.skip ?_
    refine Sem.seq ?_
    refine Sem.seq ?_
    obtain ⟨v9, hv9, h⟩ := Option.bind_eq_some_iff.1 h
    obtain ⟨v10, hv10, h⟩ := Option.bind_eq_some_iff.1 h
    refine Sem.runDS E0_ok (s1 := ⟨Fr 65 [p8, p7, p6, p5, p4, p3, (53, .v (.bool v10))], [p2, p1]⟩) kr ?_ ?_
    ·refine RunDS.segF (n := 65) E0_ok 2 [p8, p7, p6, p5, p4, p3, (45, .sl 5 (x0.map cdClause.enc)), (46, .v (.int .i64 c1))] [p2, p1] kr kr ?_
     refine RunDS.one E0_ok rfl kr (opd_q kr (wantedA_none rfl) rfl (q_indexAddr (a := .sl 5 (x0.map cdClause.enc)) (b := .v (.int .i64 c1)) kr kr (ix_sl (e := cdClause.enc) (el := 70) (k := 5) (ki := .i64) kr kr hv9)) kr) ?_
     refine RunDS.segF (n := 65) E0_ok 5 [p8, p7, p6, p5, p4, p3, (48, cdClause.enc v9), (49, cdGuest.enc x1), (50, cdGuest.enc x2), (51, .v (.int .i64 x3)), (52, .v (.int .i64 x4))] [p2, p1] kr kr ?_
     refine RunDS.callV (caps := []) (xs := [cdClause.enc v9, cdGuest.enc x1, cdGuest.enc x2, .v (.int .i64 x3), .v (.int .i64 x4)]) (u := (v9, x1, x2, x3, x4, ())) rfl rfl x_ref03_before rfl (wantedA_none rfl) kr kr (Sl.cons (Sm.enc (c := cdClause) (v := v9)) (Sl.cons (Sm.enc (c := cdGuest) (v := x1)) (Sl.cons (Sm.enc (c := cdGuest) (v := x2)) (Sl.cons (Sm.enc (c := cdI) (v := x3)) (Sl.cons (Sm.enc (c := cdI) (v := x4)) Sl.nil))))) kr hv10 ?_
     exact RunDS.done rfl (Wk.sel2 [0, 1] kr kr kr ⟨⟨_, rfl, bu_c kr kr⟩, ⟨_, rfl, bu_c kr kr⟩, trivial⟩ ⟨lu kr kr, lu kr kr, lu kr kr, lu kr kr, lu kr kr, lu kr kr, lu kr kr, trivial⟩)
    refine Sem.cond (b := v10) kr (fun hb11 => ?_) (fun hb11 => ?_)
    ·rw [if_pos hb11] at h
     refine Sem.seq ?_
     refine Sem.runS (s1 := ⟨Fr 65 [(10, .v (.int .i64 c1)), (11, .v (.int .i64 (-1)))], []⟩) ?_ ?_
     ·refine RunS.segF (n := 65) E0_ok 3 [(10, .v (.int .i64 c1)), (11, .v (.int .i64 (-1)))] [p2, p1] kr ?_
      exact RunS.done rfl (Wk.sel2 [] kr kr kr trivial ⟨lu kr kr, lu kr kr, trivial⟩)
     refine Sem.ret ?_
     have hq := Option.some.inj h; subst hq
     exact ⟨rfl, (Wk.fr kr)⟩
    ·rw [if_f hb11] at h
     refine Sem.skip ?_
     refine Sem.seq ?_
     obtain ⟨v14, hv14, h⟩ := Option.bind_eq_some_iff.1 h
     obtain ⟨v15, hv15, h⟩ := Option.bind_eq_some_iff.1 h
     refine Sem.runDS E0_ok (s1 := ⟨Fr 65 [p8, p7, p6, p5, p4, p3, (63, .v (.bool v15))], [p2, p1]⟩) kr ?_ ?_
     ·refine RunDS.segF (n := 65) E0_ok 2 [p8, p7, p6, p5, p4, p3, (55, .sl 5 (x0.map cdClause.enc)), (56, .v (.int .i64 c1))] [p2, p1] kr kr ?_
      refine RunDS.one E0_ok rfl kr (opd_q kr (wantedA_none rfl) rfl (q_indexAddr (a := .sl 5 (x0.map cdClause.enc)) (b := .v (.int .i64 c1)) kr kr (ix_sl (e := cdClause.enc) (el := 70) (k := 5) (ki := .i64) kr kr hv14)) kr) ?_
      refine RunDS.segF (n := 65) E0_ok 5 [p8, p7, p6, p5, p4, p3, (58, cdClause.enc v14), (59, cdGuest.enc x2), (60, cdGuest.enc x1), (61, .v (.int .i64 x4)), (62, .v (.int .i64 x3))] [p2, p1] kr kr ?_
      refine RunDS.callV (caps := []) (xs := [cdClause.enc v14, cdGuest.enc x2, cdGuest.enc x1, .v (.int .i64 x4), .v (.int .i64 x3)]) (u := (v14, x2, x1, x4, x3, ())) rfl rfl x_ref03_before rfl (wantedA_none rfl) kr kr (Sl.cons (Sm.enc (c := cdClause) (v := v14)) (Sl.cons (Sm.enc (c := cdGuest) (v := x2)) (Sl.cons (Sm.enc (c := cdGuest) (v := x1)) (Sl.cons (Sm.enc (c := cdI) (v := x4)) (Sl.cons (Sm.enc (c := cdI) (v := x3)) Sl.nil))))) kr hv15 ?_
      exact RunDS.done rfl (Wk.sel2 [0, 1] kr kr kr ⟨⟨_, rfl, bu_c kr kr⟩, ⟨_, rfl, bu_c kr kr⟩, trivial⟩ ⟨lu kr kr, lu kr kr, lu kr kr, lu kr kr, lu kr kr, lu kr kr, lu kr kr, trivial⟩)
     refine Sem.cond (b := v15) kr (fun hb16 => ?_) (fun hb16 => ?_)
     ·rw [if_pos hb16] at h
      refine Sem.seq ?_
      refine Sem.runS (s1 := ⟨Fr 65 [(10, .v (.int .i64 c1)), (11, .v (.int .i64 1))], []⟩) ?_ ?_
      ·refine RunS.segF (n := 65) E0_ok 3 [(10, .v (.int .i64 c1)), (11, .v (.int .i64 1))] [p2, p1] kr ?_
       exact RunS.done rfl (Wk.sel2 [] kr kr kr trivial ⟨lu kr kr, lu kr kr, trivial⟩)
      refine Sem.ret ?_
      have hq := Option.some.inj h; subst hq
      exact ⟨rfl, (Wk.fr kr)⟩
     ·rw [if_f hb16] at h
      refine Sem.skip ?_
      refine Sem.rg E0_ok [p8, p7, p6, p5, p4, (12, .v (.int .i64 (wr .i64 (c1 + 1))))] [p2, p1] ?_
      exact SemN.wk (s1 := ⟨Fr 65 [p8, p7, p6, p5, p4, (12, .v (.int .i64 (wr .i64 (c1 + 1))))], [p2, p1]⟩) (Wk.sel2 [0, 1] kr kr kr ⟨⟨_, rfl, bu_c kr kr⟩, ⟨_, rfl, bu_c kr kr⟩, trivial⟩ ⟨lu kr kr, lu kr kr, lu kr kr, lu kr kr, lu kr kr, lu kr kr, trivial⟩) (ih (wr .i64 (c1 + 1)) h)
  ·rw [if_f hb2] at h
   refine Sem.exit ?_
   have hq := Option.some.inj h; subst hq
   exact ⟨rfl, (Wk.sel2 [] kr kr kr trivial trivial)⟩
theorem ref03_Reason_sem (x0 : (List Clause)) (x1 : Guest) (x2 : Guest) (x3 : Int) (x4 : Int) (r : Int × Int) (h : ref03_Reason x0 x1 x2 x3 x4 = some r) : Sem E0 ⟨none, false⟩ cb_ref03_Reason ⟨Fr 65 (pairs0 0 (cs_ref03_Reason.enc (x0, x1, x2, x3, x4, ()))), []⟩ fun e s' => (e = .normal ∨ e = .ret) ∧ ∃ xs, resA E0.P s'.fr s'.hp Tryz.f86.results.toList = some xs ∧ retA xs = er_ref03_Reason r := by
 unfold ref03_Reason at h
 let p1 : Nat × AV := (4, .v (.int .i64 x4))
 let p2 : Nat × AV := (3, .v (.int .i64 x3))
 let p3 : Nat × AV := (0, .sl 5 (x0.map cdClause.enc))
 refine Sem.wkQ (Sem.wk (s1 := ⟨Fr 65 [p3, (1, cdGuest.enc x1), (2, cdGuest.enc x2), p2, p1], []⟩) (Wk.fr kr) ?_)
 let p4 : Option Blk := some ⟨9, 44, [cdGuest.enc x2], false⟩
 let p5 : Option Blk := some ⟨9, 44, [cdGuest.enc x1], false⟩
 let p6 : Nat × AV := (7, .pt 1 0 0)
 let p7 : Nat × AV := (6, .pt 0 0 0)
 refine Sem.sq E0_ok [p3, p2, p1, p7, p6] [p5, p4] ?_
 refine Sem.seq ?_
 let p8 : Nat × AV := (12, .v (.int .i64 0))
 refine Sem.sq E0_ok [p3, p2, p1, p7, p6, p8] [p5, p4] ?_
 refine Sem.block ?_
 obtain ⟨r19, hr19, h⟩ := Option.bind_eq_some_iff.1 h
 refine Sem.loop (n := 100000) ?_
 rcases r19 with w20 | w21
 ·try dsimp only at h
  refine Sem.cutN (SemN.wk (s1 := ⟨Fr 65 [p3, p2, p1, p7, p6, p8], [p5, p4]⟩) (Wk.sel2 [0, 1] kr kr kr ⟨⟨_, rfl, bu_c kr kr⟩, ⟨_, rfl, bu_c kr kr⟩, trivial⟩ ⟨lu kr kr, lu kr kr, lu kr kr, lu kr kr, lu kr kr, lu kr kr, trivial⟩) (ref03_Reason_l1_ok x0 x1 x2 x3 x4 _ 0 _ hr19)) ?_
  refine Sem.sq E0_ok [(10, .v (.int .i64 (-1))), (11, .v (.int .i64 0))] [] ?_
  refine Sem.ret ?_
  have hq := Option.some.inj h; subst hq
  exact ⟨⟨Fr 65 [(10, .v (.int .i64 (-1))), (11, .v (.int .i64 0))], []⟩, (Wk.fr kr), .inr rfl, [.v (.int .i64 (-1)), .v (.int .i64 0)], kr, kr⟩
 ·try dsimp only at h
  refine Sem.cutN (SemN.wk (s1 := ⟨Fr 65 [p3, p2, p1, p7, p6, p8], [p5, p4]⟩) (Wk.sel2 [0, 1] kr kr kr ⟨⟨_, rfl, bu_c kr kr⟩, ⟨_, rfl, bu_c kr kr⟩, trivial⟩ ⟨lu kr kr, lu kr kr, lu kr kr, lu kr kr, lu kr kr, lu kr kr, trivial⟩) (ref03_Reason_l1_ok x0 x1 x2 x3 x4 _ 0 _ hr19)) ?_
  have hq := Option.some.inj h; subst hq
  exact ⟨⟨Fr 65 [(10, .v (.int .i64 w21.1)), (11, .v (.int .i64 w21.2))], []⟩, (Wk.fr kr), .inr rfl, [.v (.int .i64 w21.1), .v (.int .i64 w21.2)], kr, kr⟩
def t_ref03_Reason : List AV → Option AV := told cs_ref03_Reason (fun a => ref03_Reason a.1 a.2.1 a.2.2.1 a.2.2.2.1 a.2.2.2.2.1) er_ref03_Reason
theorem x_ref03_Reason : XOk 86 t_ref03_Reason := by
 refine xok_of_sem Tryz.func86 (c := cb_ref03_Reason) ?h2 ⟨Tryz.call86⟩ cs_ref03_Reason (fun a => ref03_Reason a.1 a.2.1 a.2.2.1 a.2.2.2.1 a.2.2.2.2.1) er_ref03_Reason (fun a => (by show 5 ≤ 65; decide)) ?h3 ?h4
 case h2 => kernel_rfl
 case h3 => intro b; kernel_rfl
 case h4 => exact fun a b h => ref03_Reason_sem a.1 a.2.1 a.2.2.1 a.2.2.2.1 a.2.2.2.2.1 b h
/-- Lists that are told by one value. -/
noncomputable def csJ {α : Type} (e : α → List AV) (hi : ∀ x y, e x = e y → x = y) (hn : ∀ x, (e x).all noRf2 = true) : Cs α where
 enc := e
 dec a := open Classical in if h : ∃ x, e x = a then some h.choose else none
 de x := by
  have h : ∃ y, e y = e x := ⟨x, rfl⟩
  rw [dif_pos h, hi _ _ h.choose_spec]
 vr := fun {w Z a x u} hd hv => by
  split at hd
  ·next h => injection hd with hd; subst hd; rw [h.choose_spec]; exact hv
  ·cases hd
 nr := hn
theorem Sl.encs {α : Type} {n : Nat} {h : Hp} {s : Cs α} {a : α} : Sl (n + 2) h s (s.enc a) a :=
 ⟨s.enc a, allV_id fun y hy => viewN_id2 (List.all_eq_true.1 (s.nr a) y hy) n, s.de a⟩
theorem cd_inj {α : Type} {c : Cd α} {x y : α} (h : c.enc x = c.enc y) : x = y := by
 have h1 := c.de x
 rw [h, c.de y] at h1
 exact (Option.some.inj h1).symm
/-- The order of a clause without regard to Among. -/
def encPlain (c : Clause) : AV :=
 if (c.1 == 1) = true then .fn 187 [] [.pe (.fn 164 [] [.pe (cdClause.enc c) 0]) 0] else
 if (c.1 == 2) = true then .fn 165 [] [.pe (cdClause.enc c) 0] else
 if (c.1 == 3) = true then .fn 165 [] [.pe (cdClause.enc c) 0] else
 if (c.1 == 4) = true then .fn 187 [] [.pe (.fn 188 [] [.pe (.fn 169 [] [.pe (cdClause.enc c) 0]) 0, .pe (cdClause.enc c) 0]) 0] else
 if (c.1 == 5) = true then .fn 187 [] [.pe (.fn 188 [] [.pe (.fn 170 [] []) 0, .pe (cdClause.enc c) 0]) 0] else
 if (c.1 == 6) = true then .fn 187 [] [.pe (.fn 188 [] [.pe (.fn 171 [] [.pe (cdClause.enc c) 0]) 0, .pe (cdClause.enc c) 0]) 0] else
 if (c.1 == 7) = true then .fn 187 [] [.pe (.fn 188 [] [.pe (.fn 173 [] [.pe (cdClause.enc c) 0]) 0, .pe (cdClause.enc c) 0]) 0] else
 if (c.1 == 8) = true then .fn 174 [] [] else
 if (c.1 == 10) = true then .fn 191 [] [.pe (.fn 190 [] []) 0, .pe (.fn 177 [] [.pe (cdClause.enc c) 0]) 0] else
 .fn 191 [] [.pe (.fn 190 [] []) 0, .pe (.fn 178 [] []) 0]
def encOrd (c : Clause) : AV := .fn 154 [] [.pe (cdClause.enc c) 0, .pe (encPlain c) 0]
noncomputable def cdOrd : Cd Clause := cdJ encOrd (fun x y h => by
 unfold encOrd at h
 injection h with _ _ h
 injection h with h
 injection h with h
 exact cd_inj h) (fun _ => rfl)
noncomputable def csOrdCaps : Cs Clause := csJ (fun c => [.pe (cdClause.enc c) 0, .pe (encPlain c) 0]) (fun x y h => by
 injection h with h
 injection h with h
 exact cd_inj h) (fun _ => rfl)
/-- A straight call, told by what the interpreter finds. -/
theorem xok_closed {f : FuncId} (hc : Callable E0.P f) {α β : Type} (s : Cs α) (F : α → Option β) (er : β → AV) (h : ∀ a b, F a = some b → ∃ n, closedRes E0 n f (s.enc a) = some (er b)) : XOk f (told s F er) := by
 refine ⟨hc, fun xs y hy w Z us hz hg hv => ?_⟩
 obtain ⟨a, ha, hy⟩ := Option.bind_eq_some_iff.1 hy
 obtain ⟨b, hb, rfl⟩ := Option.map_eq_some_iff.1 hy
 obtain ⟨n, hn⟩ := h a b hb
 unfold closedRes at hn
 split at hn
 ·next x h' he => exact frz_ret (enter_sound E0_ok (code_sound E0_ok n).1 he (hr_nil hz) (s.vr ha hv) hg (fun y hy => by cases hy)) hn
 ·cases hn
def court_orderOf (x0 : Clause) : Option Clause := if 1 ≤ x0.1 ∧ x0.1 ≤ 10 then some x0 else none
def cs_court_orderOf : Cs (Clause × Unit) := csC cdClause csN
noncomputable def er_court_orderOf (r : Clause) : AV := cdOrd.enc r
noncomputable def t_court_orderOf : List AV → Option AV := told cs_court_orderOf (fun a => court_orderOf a.1) er_court_orderOf
section
variable (am : List UInt8) (la : Bool) (nm : List (List UInt8)) (m : Int)
theorem ordOf_1 : closedRes E0 300 130 (cs_court_orderOf.enc ((1, am, la, nm, m), ())) = some (encOrd (1, am, la, nm, m)) := by kernel_rfl
theorem ordOf_2 : closedRes E0 300 130 (cs_court_orderOf.enc ((2, am, la, nm, m), ())) = some (encOrd (2, am, la, nm, m)) := by kernel_rfl
theorem ordOf_3 : closedRes E0 300 130 (cs_court_orderOf.enc ((3, am, la, nm, m), ())) = some (encOrd (3, am, la, nm, m)) := by kernel_rfl
theorem ordOf_4 : closedRes E0 300 130 (cs_court_orderOf.enc ((4, am, la, nm, m), ())) = some (encOrd (4, am, la, nm, m)) := by kernel_rfl
theorem ordOf_5 : closedRes E0 300 130 (cs_court_orderOf.enc ((5, am, la, nm, m), ())) = some (encOrd (5, am, la, nm, m)) := by kernel_rfl
theorem ordOf_6 : closedRes E0 300 130 (cs_court_orderOf.enc ((6, am, la, nm, m), ())) = some (encOrd (6, am, la, nm, m)) := by kernel_rfl
theorem ordOf_7 : closedRes E0 300 130 (cs_court_orderOf.enc ((7, am, la, nm, m), ())) = some (encOrd (7, am, la, nm, m)) := by kernel_rfl
theorem ordOf_8 : closedRes E0 300 130 (cs_court_orderOf.enc ((8, am, la, nm, m), ())) = some (encOrd (8, am, la, nm, m)) := by kernel_rfl
theorem ordOf_9 : closedRes E0 300 130 (cs_court_orderOf.enc ((9, am, la, nm, m), ())) = some (encOrd (9, am, la, nm, m)) := by kernel_rfl
theorem ordOf_10 : closedRes E0 300 130 (cs_court_orderOf.enc ((10, am, la, nm, m), ())) = some (encOrd (10, am, la, nm, m)) := by kernel_rfl
end
theorem x_court_orderOf : XOk 130 t_court_orderOf := by
 refine xok_closed ⟨Tryz.call130⟩ cs_court_orderOf (fun a => court_orderOf a.1) er_court_orderOf fun a b h => ⟨300, ?_⟩
 obtain ⟨⟨k, am, la, nm, m⟩, ⟨⟩⟩ := a
 by_cases hk : 1 ≤ k ∧ k ≤ 10
 ·have h1 : some (k, am, la, nm, m) = some b := (if_pos hk : court_orderOf (k, am, la, nm, m) = _).symm.trans h
  have h2 : er_court_orderOf b = encOrd (k, am, la, nm, m) := congrArg encOrd (Option.some.inj h1).symm
  rw [h2]
  clear h h1 h2
  have hk' : k = 1 ∨ k = 2 ∨ k = 3 ∨ k = 4 ∨ k = 5 ∨ k = 6 ∨ k = 7 ∨ k = 8 ∨ k = 9 ∨ k = 10 := by omega
  rcases hk' with rfl | rfl | rfl | rfl | rfl | rfl | rfl | rfl | rfl | rfl
  ·exact ordOf_1 am la nm m
  ·exact ordOf_2 am la nm m
  ·exact ordOf_3 am la nm m
  ·exact ordOf_4 am la nm m
  ·exact ordOf_5 am la nm m
  ·exact ordOf_6 am la nm m
  ·exact ordOf_7 am la nm m
  ·exact ordOf_8 am la nm m
  ·exact ordOf_9 am la nm m
  ·exact ordOf_10 am la nm m
 ·exact nomatch ((if_neg hk : court_orderOf (k, am, la, nm, m) = _).symm.trans h)
/- trestle/court.formed -/
noncomputable def cb_court_formed : Code := codeOf Tryz.f120
def court_formed_j4 (x0 : Clause) : Option ((Bool)) :=
 if (x0.1 == 8) = true then
 some (x0.1 == 8)
 else
 some (x0.1 == 9)
def court_formed_j3 (x0 : Clause) : Option ((Bool)) :=
 if (x0.1 == 3) = true then
 some (x0.1 == 3)
 else
 (court_formed_j4 x0).bind fun r14 =>
 some r14
def court_formed_j2 (x0 : Clause) : Option ((Bool)) :=
 if (x0.1 == 2) = true then
 some (x0.1 == 2)
 else
 (court_formed_j3 x0).bind fun r15 =>
 some r15
def court_formed_j8 (x0 : Clause) : Option ((Bool)) :=
 if (x0.1 == 6) = true then
 some (x0.1 == 6)
 else
 some (x0.1 == 7)
def court_formed_j9 (x0 : Clause) (r33 : Bool) : Option ((Int × Int × Bool) ⊕ (Bool)) :=
 if r33 = true then
 some (.inl (16, 0, true))
 else
 if (x0.1 == 10) = true then
 some (.inl (0, 63, false))
 else
 some (.inr false)
def court_formed_j7 (x0 : Clause) : Option ((Int × Int × Bool) ⊕ (Bool)) :=
 if (x0.1 == 5) = true then
 some (.inl (0, 0, true))
 else
 (court_formed_j8 x0).bind fun r33 =>
 (court_formed_j9 x0 r33).bind fun r40 =>
 match r40 with
 | (.inl w41) =>
  some (.inl (w41.1, w41.2.1, w41.2.2))
 | (.inr w42) =>
  some (.inr w42)
def court_formed_j6 (x0 : Clause) : Option ((Int × Int × Int × Bool) ⊕ (Bool)) :=
 if (x0.1 == 4) = true then
 some (.inl (0, 1, 2, true))
 else
 (court_formed_j7 x0).bind fun r44 =>
 match r44 with
 | (.inl w45) =>
  some (.inl (w45.1, 0, w45.2.1, w45.2.2))
 | (.inr w46) =>
  some (.inr w46)
def court_formed_j5 (x0 : Clause) (r16 : Bool) : Option ((Int × Int × Int × Bool) ⊕ (Bool)) :=
 if r16 = true then
 some (.inl (0, 0, 0, false))
 else
 (court_formed_j6 x0).bind fun r48 =>
 match r48 with
 | (.inl w49) =>
  some (.inl (w49.1, w49.2.1, w49.2.2.1, w49.2.2.2))
 | (.inr w50) =>
  some (.inr w50)
def court_formed_j1 (x0 : Clause) : Option ((Int × Int × Int × Bool) ⊕ (Bool)) :=
 if (x0.1 == 1) = true then
 if (!(x0.2.1 == [])) = true then
 some (.inr false)
 else
 some (.inl (16, 0, 0, false))
 else
 (court_formed_j2 x0).bind fun r16 =>
 (court_formed_j5 x0 r16).bind fun r52 =>
 match r52 with
 | (.inl w53) =>
  some (.inl (w53.1, w53.2.1, w53.2.2.1, w53.2.2.2))
 | (.inr w54) =>
  some (.inr w54)
def court_formed (x0 : Clause) : Option (Bool) :=
 (court_formed_j1 x0).bind fun r55 =>
 match r55 with
 | (.inl w56) =>
  (if (decide ((x0.2.2.2.1.length : Int) ≤ w56.1)) = true then if (w56.1 == 0) = true then if (decide (x0.2.2.2.2 ≥ w56.2.1)) = true then if (decide (x0.2.2.2.2 ≤ w56.2.2.1)) = true then if w56.2.2.2 = true then some true else some (!x0.2.2.1) else some false else some false else if (decide ((x0.2.2.2.1.length : Int) > 0)) = true then if (decide (x0.2.2.2.2 ≥ w56.2.1)) = true then if (decide (x0.2.2.2.2 ≤ w56.2.2.1)) = true then if w56.2.2.2 = true then some true else some (!x0.2.2.1) else some false else some false else some false else some false).bind fun j58 =>
  some j58
 | (.inr w68) =>
  some w68
def cs_court_formed : Cs (Clause × Unit) := (csC cdClause csN)
def er_court_formed (r : Bool) : AV := cdB.enc r
theorem court_formed_j4_ok (x0 : Clause) (r : (Bool)) (h : court_formed_j4 x0 = some r) : Sem E0 ⟨none, false⟩ (pc cb_court_formed [1, 1, 0, 1, 0, 1, 1, 0, 1, 1, 1, 1, 1]) ⟨Fr 63 [(1, .pt 0 0 0), (3, .v (.int .i64 0)), (4, .v (.int .i64 0)), (5, .v (.int .i64 0)), (6, .v (.bool false)), (8, .v (.int .u8 x0.1)), (14, .v (.bool (x0.1 == 8)))], [some ⟨5, 70, [cdClause.enc x0], false⟩]⟩ (fun e s => e = .normal ∧ Wk E0 s ⟨Fr 63 [(1, .pt 0 0 0), (3, .v (.int .i64 0)), (4, .v (.int .i64 0)), (5, .v (.int .i64 0)), (6, .v (.bool false)), (8, .v (.int .u8 x0.1)), (14, .v (.bool r))], [some ⟨5, 70, [cdClause.enc x0], false⟩]⟩) := by
 unfold court_formed_j4 at h
 refine Sem.cond (b := (x0.1 == 8)) kr (fun hb12 => ?_) (fun hb12 => ?_)
 ·rw [if_pos hb12] at h
  refine Sem.skip ?_
  have hq := Option.some.inj h; subst hq
  exact ⟨rfl, (Wk.sel2 [0] kr kr kr ⟨⟨_, rfl, bu_c kr kr⟩, trivial⟩ ⟨lu kr kr, lu kr kr, lu kr kr, lu kr kr, lu kr kr, lu kr kr, lu kr kr, trivial⟩)⟩
 ·rw [if_f hb12] at h
  refine Sem.rg E0_ok [(1, .pt 0 0 0), (3, .v (.int .i64 0)), (4, .v (.int .i64 0)), (5, .v (.int .i64 0)), (6, .v (.bool false)), (8, .v (.int .u8 x0.1)), (14, .v (.bool (x0.1 == 9)))] [some ⟨5, 70, [cdClause.enc x0], false⟩] ?_
  have hq := Option.some.inj h; subst hq
  exact ⟨rfl, (Wk.sel2 [0] kr kr kr ⟨⟨_, rfl, bu_c kr kr⟩, trivial⟩ ⟨lu kr kr, lu kr kr, lu kr kr, lu kr kr, lu kr kr, lu kr kr, lu kr kr, trivial⟩)⟩
theorem court_formed_j3_ok (x0 : Clause) (r : (Bool)) (h : court_formed_j3 x0 = some r) : Sem E0 ⟨none, false⟩ (pc cb_court_formed [1, 1, 0, 1, 0, 1, 1, 0, 1, 1, 1]) ⟨Fr 63 [(1, .pt 0 0 0), (3, .v (.int .i64 0)), (4, .v (.int .i64 0)), (5, .v (.int .i64 0)), (6, .v (.bool false)), (8, .v (.int .u8 x0.1)), (14, .v (.bool (x0.1 == 3)))], [some ⟨5, 70, [cdClause.enc x0], false⟩]⟩ (fun e s => e = .normal ∧ Wk E0 s ⟨Fr 63 [(1, .pt 0 0 0), (3, .v (.int .i64 0)), (4, .v (.int .i64 0)), (5, .v (.int .i64 0)), (6, .v (.bool false)), (8, .v (.int .u8 x0.1)), (14, .v (.bool r))], [some ⟨5, 70, [cdClause.enc x0], false⟩]⟩) := by
 unfold court_formed_j3 at h
 refine Sem.cond (b := (x0.1 == 3)) kr (fun hb10 => ?_) (fun hb10 => ?_)
 ·rw [if_pos hb10] at h
  refine Sem.skip ?_
  have hq := Option.some.inj h; subst hq
  exact ⟨rfl, (Wk.sel2 [0] kr kr kr ⟨⟨_, rfl, bu_c kr kr⟩, trivial⟩ ⟨lu kr kr, lu kr kr, lu kr kr, lu kr kr, lu kr kr, lu kr kr, lu kr kr, trivial⟩)⟩
 ·rw [if_f hb10] at h
  refine Sem.sq E0_ok [(1, .pt 0 0 0), (3, .v (.int .i64 0)), (4, .v (.int .i64 0)), (5, .v (.int .i64 0)), (6, .v (.bool false)), (8, .v (.int .u8 x0.1)), (14, .v (.bool (x0.1 == 8)))] [some ⟨5, 70, [cdClause.enc x0], false⟩] ?_
  obtain ⟨r14, hr14, h⟩ := Option.bind_eq_some_iff.1 h
  refine Sem.cut (court_formed_j4_ok x0 _ hr14) ?_
  have hq := Option.some.inj h; subst hq
  exact ⟨rfl, (Wk.sel2 [0] kr kr kr ⟨⟨_, rfl, bu_c kr kr⟩, trivial⟩ ⟨lu kr kr, lu kr kr, lu kr kr, lu kr kr, lu kr kr, lu kr kr, lu kr kr, trivial⟩)⟩
theorem court_formed_j2_ok (x0 : Clause) (r : (Bool)) (h : court_formed_j2 x0 = some r) : Sem E0 ⟨none, false⟩ (pc cb_court_formed [1, 1, 0, 1, 0, 1, 1, 0, 1]) ⟨Fr 63 [(1, .pt 0 0 0), (3, .v (.int .i64 0)), (4, .v (.int .i64 0)), (5, .v (.int .i64 0)), (6, .v (.bool false)), (8, .v (.int .u8 x0.1)), (14, .v (.bool (x0.1 == 2)))], [some ⟨5, 70, [cdClause.enc x0], false⟩]⟩ (fun e s => e = .normal ∧ Wk E0 s ⟨Fr 63 [(1, .pt 0 0 0), (3, .v (.int .i64 0)), (4, .v (.int .i64 0)), (5, .v (.int .i64 0)), (6, .v (.bool false)), (8, .v (.int .u8 x0.1)), (14, .v (.bool r))], [some ⟨5, 70, [cdClause.enc x0], false⟩]⟩) := by
 unfold court_formed_j2 at h
 refine Sem.cond (b := (x0.1 == 2)) kr (fun hb8 => ?_) (fun hb8 => ?_)
 ·rw [if_pos hb8] at h
  refine Sem.skip ?_
  have hq := Option.some.inj h; subst hq
  exact ⟨rfl, (Wk.sel2 [0] kr kr kr ⟨⟨_, rfl, bu_c kr kr⟩, trivial⟩ ⟨lu kr kr, lu kr kr, lu kr kr, lu kr kr, lu kr kr, lu kr kr, lu kr kr, trivial⟩)⟩
 ·rw [if_f hb8] at h
  refine Sem.sq E0_ok [(1, .pt 0 0 0), (3, .v (.int .i64 0)), (4, .v (.int .i64 0)), (5, .v (.int .i64 0)), (6, .v (.bool false)), (8, .v (.int .u8 x0.1)), (14, .v (.bool (x0.1 == 3)))] [some ⟨5, 70, [cdClause.enc x0], false⟩] ?_
  obtain ⟨r15, hr15, h⟩ := Option.bind_eq_some_iff.1 h
  refine Sem.cut (court_formed_j3_ok x0 _ hr15) ?_
  have hq := Option.some.inj h; subst hq
  exact ⟨rfl, (Wk.sel2 [0] kr kr kr ⟨⟨_, rfl, bu_c kr kr⟩, trivial⟩ ⟨lu kr kr, lu kr kr, lu kr kr, lu kr kr, lu kr kr, lu kr kr, lu kr kr, trivial⟩)⟩
theorem court_formed_j8_ok (x0 : Clause) (r : (Bool)) (h : court_formed_j8 x0 = some r) : Sem E0 ⟨none, false⟩ (pc cb_court_formed [1, 1, 0, 1, 0, 1, 1, 1, 1, 1, 1, 1, 1, 0, 1]) ⟨Fr 63 [(1, .pt 0 0 0), (3, .v (.int .i64 0)), (4, .v (.int .i64 0)), (5, .v (.int .i64 0)), (6, .v (.bool false)), (8, .v (.int .u8 x0.1)), (23, .v (.bool (x0.1 == 6)))], [some ⟨5, 70, [cdClause.enc x0], false⟩]⟩ (fun e s => e = .normal ∧ Wk E0 s ⟨Fr 63 [(1, .pt 0 0 0), (3, .v (.int .i64 0)), (4, .v (.int .i64 0)), (5, .v (.int .i64 0)), (6, .v (.bool false)), (8, .v (.int .u8 x0.1)), (23, .v (.bool r))], [some ⟨5, 70, [cdClause.enc x0], false⟩]⟩) := by
 unfold court_formed_j8 at h
 refine Sem.cond (b := (x0.1 == 6)) kr (fun hb31 => ?_) (fun hb31 => ?_)
 ·rw [if_pos hb31] at h
  refine Sem.skip ?_
  have hq := Option.some.inj h; subst hq
  exact ⟨rfl, (Wk.sel2 [0] kr kr kr ⟨⟨_, rfl, bu_c kr kr⟩, trivial⟩ ⟨lu kr kr, lu kr kr, lu kr kr, lu kr kr, lu kr kr, lu kr kr, lu kr kr, trivial⟩)⟩
 ·rw [if_f hb31] at h
  refine Sem.rg E0_ok [(1, .pt 0 0 0), (3, .v (.int .i64 0)), (4, .v (.int .i64 0)), (5, .v (.int .i64 0)), (6, .v (.bool false)), (8, .v (.int .u8 x0.1)), (23, .v (.bool (x0.1 == 7)))] [some ⟨5, 70, [cdClause.enc x0], false⟩] ?_
  have hq := Option.some.inj h; subst hq
  exact ⟨rfl, (Wk.sel2 [0] kr kr kr ⟨⟨_, rfl, bu_c kr kr⟩, trivial⟩ ⟨lu kr kr, lu kr kr, lu kr kr, lu kr kr, lu kr kr, lu kr kr, lu kr kr, trivial⟩)⟩
theorem court_formed_j9_ok (x0 : Clause) (r33 : Bool) (r : (Int × Int × Bool) ⊕ (Bool)) (h : court_formed_j9 x0 r33 = some r) : Sem E0 ⟨none, false⟩ (pc cb_court_formed [1, 1, 0, 1, 0, 1, 1, 1, 1, 1, 1, 1, 1, 1]) ⟨Fr 63 [(1, .pt 0 0 0), (3, .v (.int .i64 0)), (4, .v (.int .i64 0)), (5, .v (.int .i64 0)), (6, .v (.bool false)), (8, .v (.int .u8 x0.1)), (23, .v (.bool r33))], [some ⟨5, 70, [cdClause.enc x0], false⟩]⟩ (fun e s => match r with
 | (.inl w) => e = .normal ∧ Wk E0 s ⟨Fr 63 [(1, .pt 0 0 0), (3, .v (.int .i64 w.1)), (4, .v (.int .i64 0)), (5, .v (.int .i64 w.2.1)), (6, .v (.bool w.2.2))], [some ⟨5, 70, [cdClause.enc x0], false⟩]⟩
 | (.inr w) => e = .ret ∧ Wk E0 s ⟨Fr 63 [(2, .v (.bool w))], []⟩) := by
 unfold court_formed_j9 at h
 refine Sem.cond (b := r33) kr (fun hb34 => ?_) (fun hb34 => ?_)
 ·rw [if_pos hb34] at h
  refine Sem.rg E0_ok [(1, .pt 0 0 0), (3, .v (.int .i64 16)), (4, .v (.int .i64 0)), (5, .v (.int .i64 0)), (6, .v (.bool true))] [some ⟨5, 70, [cdClause.enc x0], false⟩] ?_
  have hq := Option.some.inj h; subst hq
  exact ⟨rfl, (Wk.sel2 [0] kr kr kr ⟨⟨_, rfl, bu_c kr kr⟩, trivial⟩ ⟨lu kr kr, lu kr kr, lu kr kr, lu kr kr, lu kr kr, trivial⟩)⟩
 ·rw [if_f hb34] at h
  let p1 : Option Blk := some ⟨5, 70, [cdClause.enc x0], false⟩
  refine Sem.sq E0_ok [(1, .pt 0 0 0), (3, .v (.int .i64 0)), (4, .v (.int .i64 0)), (6, .v (.bool false)), (26, .v (.bool (x0.1 == 10)))] [p1] ?_
  refine Sem.cond (b := (x0.1 == 10)) kr (fun hb38 => ?_) (fun hb38 => ?_)
  ·rw [if_pos hb38] at h
   refine Sem.rg E0_ok [(1, .pt 0 0 0), (3, .v (.int .i64 0)), (4, .v (.int .i64 0)), (5, .v (.int .i64 63)), (6, .v (.bool false))] [p1] ?_
   have hq := Option.some.inj h; subst hq
   exact ⟨rfl, (Wk.sel2 [0] kr kr kr ⟨⟨_, rfl, bu_c kr kr⟩, trivial⟩ ⟨lu kr kr, lu kr kr, lu kr kr, lu kr kr, lu kr kr, trivial⟩)⟩
  ·rw [if_f hb38] at h
   refine Sem.seq ?_
   refine Sem.runS (s1 := ⟨Fr 63 [(2, .v (.bool false))], []⟩) ?_ ?_
   ·refine RunS.segF (n := 63) E0_ok 1 [(2, .v (.bool false))] [p1] kr ?_
    exact RunS.done rfl (Wk.sel2 [] kr kr kr trivial ⟨lu kr kr, trivial⟩)
   refine Sem.ret ?_
   have hq := Option.some.inj h; subst hq
   exact ⟨rfl, (Wk.fr kr)⟩
theorem court_formed_j7_ok (x0 : Clause) (r : (Int × Int × Bool) ⊕ (Bool)) (h : court_formed_j7 x0 = some r) : Sem E0 ⟨none, false⟩ (pc cb_court_formed [1, 1, 0, 1, 0, 1, 1, 1, 1, 1, 1, 1]) ⟨Fr 63 [(1, .pt 0 0 0), (3, .v (.int .i64 0)), (4, .v (.int .i64 0)), (5, .v (.int .i64 0)), (6, .v (.bool false)), (8, .v (.int .u8 x0.1)), (21, .v (.bool (x0.1 == 5)))], [some ⟨5, 70, [cdClause.enc x0], false⟩]⟩ (fun e s => match r with
 | (.inl w) => e = .normal ∧ Wk E0 s ⟨Fr 63 [(1, .pt 0 0 0), (3, .v (.int .i64 w.1)), (4, .v (.int .i64 0)), (5, .v (.int .i64 w.2.1)), (6, .v (.bool w.2.2))], [some ⟨5, 70, [cdClause.enc x0], false⟩]⟩
 | (.inr w) => e = .ret ∧ Wk E0 s ⟨Fr 63 [(2, .v (.bool w))], []⟩) := by
 unfold court_formed_j7 at h
 refine Sem.cond (b := (x0.1 == 5)) kr (fun hb27 => ?_) (fun hb27 => ?_)
 ·rw [if_pos hb27] at h
  refine Sem.rg E0_ok [(1, .pt 0 0 0), (3, .v (.int .i64 0)), (4, .v (.int .i64 0)), (5, .v (.int .i64 0)), (6, .v (.bool true))] [some ⟨5, 70, [cdClause.enc x0], false⟩] ?_
  have hq := Option.some.inj h; subst hq
  exact ⟨rfl, (Wk.sel2 [0] kr kr kr ⟨⟨_, rfl, bu_c kr kr⟩, trivial⟩ ⟨lu kr kr, lu kr kr, lu kr kr, lu kr kr, lu kr kr, trivial⟩)⟩
 ·rw [if_f hb27] at h
  refine Sem.seq ?_
  refine Sem.sq E0_ok [(1, .pt 0 0 0), (3, .v (.int .i64 0)), (4, .v (.int .i64 0)), (5, .v (.int .i64 0)), (6, .v (.bool false)), (8, .v (.int .u8 x0.1)), (23, .v (.bool (x0.1 == 6)))] [some ⟨5, 70, [cdClause.enc x0], false⟩] ?_
  obtain ⟨r33, hr33, h⟩ := Option.bind_eq_some_iff.1 h
  refine Sem.cut (court_formed_j8_ok x0 _ hr33) ?_
  obtain ⟨r40, hr40, h⟩ := Option.bind_eq_some_iff.1 h
  rcases r40 with w41 | w42
  ·try dsimp only at h
   refine Sem.cut (court_formed_j9_ok x0 r33 _ hr40) ?_
   have hq := Option.some.inj h; subst hq
   exact ⟨rfl, (Wk.sel2 [0] kr kr kr ⟨⟨_, rfl, bu_c kr kr⟩, trivial⟩ ⟨lu kr kr, lu kr kr, lu kr kr, lu kr kr, lu kr kr, trivial⟩)⟩
  ·try dsimp only at h
   refine Sem.cut (court_formed_j9_ok x0 r33 _ hr40) ?_
   have hq := Option.some.inj h; subst hq
   exact ⟨rfl, (Wk.fr kr)⟩
theorem court_formed_j6_ok (x0 : Clause) (r : (Int × Int × Int × Bool) ⊕ (Bool)) (h : court_formed_j6 x0 = some r) : Sem E0 ⟨none, false⟩ (pc cb_court_formed [1, 1, 0, 1, 0, 1, 1, 1, 1, 1]) ⟨Fr 63 [(1, .pt 0 0 0), (3, .v (.int .i64 0)), (4, .v (.int .i64 0)), (5, .v (.int .i64 0)), (6, .v (.bool false)), (8, .v (.int .u8 x0.1)), (19, .v (.bool (x0.1 == 4)))], [some ⟨5, 70, [cdClause.enc x0], false⟩]⟩ (fun e s => match r with
 | (.inl w) => e = .normal ∧ Wk E0 s ⟨Fr 63 [(1, .pt 0 0 0), (3, .v (.int .i64 w.1)), (4, .v (.int .i64 w.2.1)), (5, .v (.int .i64 w.2.2.1)), (6, .v (.bool w.2.2.2))], [some ⟨5, 70, [cdClause.enc x0], false⟩]⟩
 | (.inr w) => e = .ret ∧ Wk E0 s ⟨Fr 63 [(2, .v (.bool w))], []⟩) := by
 unfold court_formed_j6 at h
 refine Sem.cond (b := (x0.1 == 4)) kr (fun hb22 => ?_) (fun hb22 => ?_)
 ·rw [if_pos hb22] at h
  refine Sem.rg E0_ok [(1, .pt 0 0 0), (3, .v (.int .i64 0)), (4, .v (.int .i64 1)), (5, .v (.int .i64 2)), (6, .v (.bool true))] [some ⟨5, 70, [cdClause.enc x0], false⟩] ?_
  have hq := Option.some.inj h; subst hq
  exact ⟨rfl, (Wk.sel2 [0] kr kr kr ⟨⟨_, rfl, bu_c kr kr⟩, trivial⟩ ⟨lu kr kr, lu kr kr, lu kr kr, lu kr kr, lu kr kr, trivial⟩)⟩
 ·rw [if_f hb22] at h
  refine Sem.sq E0_ok [(1, .pt 0 0 0), (3, .v (.int .i64 0)), (4, .v (.int .i64 0)), (5, .v (.int .i64 0)), (6, .v (.bool false)), (8, .v (.int .u8 x0.1)), (21, .v (.bool (x0.1 == 5)))] [some ⟨5, 70, [cdClause.enc x0], false⟩] ?_
  obtain ⟨r44, hr44, h⟩ := Option.bind_eq_some_iff.1 h
  rcases r44 with w45 | w46
  ·try dsimp only at h
   refine Sem.cut (court_formed_j7_ok x0 _ hr44) ?_
   have hq := Option.some.inj h; subst hq
   exact ⟨rfl, (Wk.sel2 [0] kr kr kr ⟨⟨_, rfl, bu_c kr kr⟩, trivial⟩ ⟨lu kr kr, lu kr kr, lu kr kr, lu kr kr, lu kr kr, trivial⟩)⟩
  ·try dsimp only at h
   refine Sem.cut (court_formed_j7_ok x0 _ hr44) ?_
   have hq := Option.some.inj h; subst hq
   exact ⟨rfl, (Wk.fr kr)⟩
theorem court_formed_j5_ok (x0 : Clause) (r16 : Bool) (r : (Int × Int × Int × Bool) ⊕ (Bool)) (h : court_formed_j5 x0 r16 = some r) : Sem E0 ⟨none, false⟩ (pc cb_court_formed [1, 1, 0, 1, 0, 1, 1, 1]) ⟨Fr 63 [(1, .pt 0 0 0), (3, .v (.int .i64 0)), (4, .v (.int .i64 0)), (5, .v (.int .i64 0)), (6, .v (.bool false)), (8, .v (.int .u8 x0.1)), (14, .v (.bool r16))], [some ⟨5, 70, [cdClause.enc x0], false⟩]⟩ (fun e s => match r with
 | (.inl w) => e = .normal ∧ Wk E0 s ⟨Fr 63 [(1, .pt 0 0 0), (3, .v (.int .i64 w.1)), (4, .v (.int .i64 w.2.1)), (5, .v (.int .i64 w.2.2.1)), (6, .v (.bool w.2.2.2))], [some ⟨5, 70, [cdClause.enc x0], false⟩]⟩
 | (.inr w) => e = .ret ∧ Wk E0 s ⟨Fr 63 [(2, .v (.bool w))], []⟩) := by
 unfold court_formed_j5 at h
 refine Sem.cond (b := r16) kr (fun hb17 => ?_) (fun hb17 => ?_)
 ·rw [if_pos hb17] at h
  refine Sem.skip ?_
  have hq := Option.some.inj h; subst hq
  exact ⟨rfl, (Wk.sel2 [0] kr kr kr ⟨⟨_, rfl, bu_c kr kr⟩, trivial⟩ ⟨lu kr kr, lu kr kr, lu kr kr, lu kr kr, lu kr kr, trivial⟩)⟩
 ·rw [if_f hb17] at h
  refine Sem.sq E0_ok [(1, .pt 0 0 0), (3, .v (.int .i64 0)), (4, .v (.int .i64 0)), (5, .v (.int .i64 0)), (6, .v (.bool false)), (8, .v (.int .u8 x0.1)), (19, .v (.bool (x0.1 == 4)))] [some ⟨5, 70, [cdClause.enc x0], false⟩] ?_
  obtain ⟨r48, hr48, h⟩ := Option.bind_eq_some_iff.1 h
  rcases r48 with w49 | w50
  ·try dsimp only at h
   refine Sem.cut (court_formed_j6_ok x0 _ hr48) ?_
   have hq := Option.some.inj h; subst hq
   exact ⟨rfl, (Wk.sel2 [0] kr kr kr ⟨⟨_, rfl, bu_c kr kr⟩, trivial⟩ ⟨lu kr kr, lu kr kr, lu kr kr, lu kr kr, lu kr kr, trivial⟩)⟩
  ·try dsimp only at h
   refine Sem.cut (court_formed_j6_ok x0 _ hr48) ?_
   have hq := Option.some.inj h; subst hq
   exact ⟨rfl, (Wk.fr kr)⟩
theorem court_formed_j1_ok (x0 : Clause) (r : (Int × Int × Int × Bool) ⊕ (Bool)) (h : court_formed_j1 x0 = some r) : Sem E0 ⟨none, false⟩ (pc cb_court_formed [1, 1, 0, 1, 0, 1]) ⟨Fr 63 [(1, .pt 0 0 0), (3, .v (.int .i64 0)), (4, .v (.int .i64 0)), (5, .v (.int .i64 0)), (6, .v (.bool false)), (8, .v (.int .u8 x0.1)), (9, .v (.bool (x0.1 == 1)))], [some ⟨5, 70, [cdClause.enc x0], false⟩]⟩ (fun e s => match r with
 | (.inl w) => e = .normal ∧ Wk E0 s ⟨Fr 63 [(1, .pt 0 0 0), (3, .v (.int .i64 w.1)), (4, .v (.int .i64 w.2.1)), (5, .v (.int .i64 w.2.2.1)), (6, .v (.bool w.2.2.2))], [some ⟨5, 70, [cdClause.enc x0], false⟩]⟩
 | (.inr w) => e = .ret ∧ Wk E0 s ⟨Fr 63 [(2, .v (.bool w))], []⟩) := by
 unfold court_formed_j1 at h
 refine Sem.cond (b := (x0.1 == 1)) kr (fun hb1 => ?_) (fun hb1 => ?_)
 ·rw [if_pos hb1] at h
  refine Sem.seq ?_
  let p1 : Option Blk := some ⟨5, 70, [cdClause.enc x0], false⟩
  refine Sem.sq E0_ok [(1, .pt 0 0 0), (4, .v (.int .i64 0)), (5, .v (.int .i64 0)), (6, .v (.bool false)), (13, .v (.bool (!(x0.2.1 == []))))] [p1] ?_
  refine Sem.cond (b := (!(x0.2.1 == []))) kr (fun hb2 => ?_) (fun hb2 => ?_)
  ·rw [if_pos hb2] at h
   refine Sem.seq ?_
   refine Sem.runS (s1 := ⟨Fr 63 [(2, .v (.bool false))], []⟩) ?_ ?_
   ·refine RunS.segF (n := 63) E0_ok 1 [(2, .v (.bool false))] [p1] kr ?_
    exact RunS.done rfl (Wk.sel2 [] kr kr kr trivial ⟨lu kr kr, trivial⟩)
   refine Sem.ret ?_
   have hq := Option.some.inj h; subst hq
   exact ⟨rfl, (Wk.fr kr)⟩
  ·rw [if_f hb2] at h
   refine Sem.skip ?_
   refine Sem.rg E0_ok [(1, .pt 0 0 0), (3, .v (.int .i64 16)), (4, .v (.int .i64 0)), (5, .v (.int .i64 0)), (6, .v (.bool false))] [p1] ?_
   have hq := Option.some.inj h; subst hq
   exact ⟨rfl, (Wk.sel2 [0] kr kr kr ⟨⟨_, rfl, bu_c kr kr⟩, trivial⟩ ⟨lu kr kr, lu kr kr, lu kr kr, lu kr kr, lu kr kr, trivial⟩)⟩
 ·rw [if_f hb1] at h
  refine Sem.seq ?_
  refine Sem.sq E0_ok [(1, .pt 0 0 0), (3, .v (.int .i64 0)), (4, .v (.int .i64 0)), (5, .v (.int .i64 0)), (6, .v (.bool false)), (8, .v (.int .u8 x0.1)), (14, .v (.bool (x0.1 == 2)))] [some ⟨5, 70, [cdClause.enc x0], false⟩] ?_
  obtain ⟨r16, hr16, h⟩ := Option.bind_eq_some_iff.1 h
  refine Sem.cut (court_formed_j2_ok x0 _ hr16) ?_
  obtain ⟨r52, hr52, h⟩ := Option.bind_eq_some_iff.1 h
  rcases r52 with w53 | w54
  ·try dsimp only at h
   refine Sem.cut (court_formed_j5_ok x0 r16 _ hr52) ?_
   have hq := Option.some.inj h; subst hq
   exact ⟨rfl, (Wk.sel2 [0] kr kr kr ⟨⟨_, rfl, bu_c kr kr⟩, trivial⟩ ⟨lu kr kr, lu kr kr, lu kr kr, lu kr kr, lu kr kr, trivial⟩)⟩
  ·try dsimp only at h
   refine Sem.cut (court_formed_j5_ok x0 r16 _ hr52) ?_
   have hq := Option.some.inj h; subst hq
   exact ⟨rfl, (Wk.fr kr)⟩
theorem court_formed_sem (x0 : Clause) (r : Bool) (h : court_formed x0 = some r) : Sem E0 ⟨none, false⟩ cb_court_formed ⟨Fr 63 (pairs0 0 (cs_court_formed.enc (x0, ()))), []⟩ fun e s' => (e = .normal ∨ e = .ret) ∧ ∃ xs, resA E0.P s'.fr s'.hp Tryz.f120.results.toList = some xs ∧ retA xs = er_court_formed r := by
 unfold court_formed at h
 refine Sem.wkQ (Sem.wk (s1 := ⟨Fr 63 [(0, cdClause.enc x0)], []⟩) (Wk.fr kr) ?_)
 let p1 : Option Blk := some ⟨5, 70, [cdClause.enc x0], false⟩
 let p2 : Nat × AV := (1, .pt 0 0 0)
 refine Sem.sq E0_ok [p2] [p1] ?_
 let p3 : Nat × AV := (6, .v (.bool false))
 let p4 : Nat × AV := (5, .v (.int .i64 0))
 let p5 : Nat × AV := (4, .v (.int .i64 0))
 let p6 : Nat × AV := (3, .v (.int .i64 0))
 refine Sem.sq E0_ok [p2, p6, p5, p4, p3] [p1] ?_
 refine Sem.seq ?_
 refine Sem.sq E0_ok [p2, p6, p5, p4, p3, (8, .v (.int .u8 x0.1))] [p1] ?_
 refine Sem.block ?_
 refine Sem.sq E0_ok [p2, p6, p5, p4, p3, (8, .v (.int .u8 x0.1)), (9, .v (.bool (x0.1 == 1)))] [p1] ?_
 obtain ⟨r55, hr55, h⟩ := Option.bind_eq_some_iff.1 h
 rcases r55 with w56 | w68
 ·try dsimp only at h
  refine Sem.cut (court_formed_j1_ok x0 _ hr55) ?_
  refine Sem.seq ?_
  obtain ⟨j58, hj58, h⟩ := Option.bind_eq_some_iff.1 h
  refine Sem.runS (s1 := ⟨Fr 63 [(2, .v (.bool j58))], []⟩) ?_ ?_
  ·let p7 : Nat × AV := (6, .v (.bool w56.2.2.2))
   let p8 : Nat × AV := (5, .v (.int .i64 w56.2.2.1))
   let p9 : Nat × AV := (4, .v (.int .i64 w56.2.1))
   refine RunS.segF (n := 63) E0_ok 2 [p2, (3, .v (.int .i64 w56.1)), p9, p8, p7, (29, .sl 1 (x0.2.2.2.1.map cdS.enc))] [p1] kr ?_
   refine RunS.one E0_ok 0 rfl (op_q (wantedA_none rfl) rfl (q_len (a := .sl 1 (x0.2.2.2.1.map cdS.enc)) kr (len_sl (el := 9) kr))) ?_
   refine RunS.segF (n := 63) E0_ok 3 [p2, (3, .v (.int .i64 w56.1)), p9, p8, p7, (33, .v (.bool (decide ((x0.2.2.2.1.length : Int) ≤ w56.1))))] [p1] kr ?_
   rcases Bool.eq_false_or_eq_true (decide ((x0.2.2.2.1.length : Int) ≤ w56.1)) with hc59 | hc59
   ·rw [if_pos hc59] at hj58
    rw [hc59]
    refine RunS.segF (n := 63) E0_ok 3 [p2, p9, p8, p7, (33, .v (.bool true)), (36, .v (.bool (w56.1 == 0)))] [p1] kr ?_
    rcases Bool.eq_false_or_eq_true (w56.1 == 0) with hc60 | hc60
    ·rw [if_pos hc60] at hj58
     rw [hc60]
     refine RunS.segF (n := 63) E0_ok 13 [p2, p8, p7, (49, .v (.bool (decide (x0.2.2.2.2 ≥ w56.2.1))))] [p1] kr ?_
     rcases Bool.eq_false_or_eq_true (decide (x0.2.2.2.2 ≥ w56.2.1)) with hc61 | hc61
     ·rw [if_pos hc61] at hj58
      rw [hc61]
      refine RunS.segF (n := 63) E0_ok 6 [p2, p7, (55, .v (.bool (decide (x0.2.2.2.2 ≤ w56.2.2.1))))] [p1] kr ?_
      rcases Bool.eq_false_or_eq_true (decide (x0.2.2.2.2 ≤ w56.2.2.1)) with hc62 | hc62
      ·rw [if_pos hc62] at hj58
       rw [hc62]
       refine RunS.segF (n := 63) E0_ok 2 [p2, (55, .v (.bool true)), (57, .v (.bool w56.2.2.2))] [p1] kr ?_
       rcases Bool.eq_false_or_eq_true w56.2.2.2 with hc63 | hc63
       ·rw [if_pos hc63] at hj58
        rw [hc63]
        refine RunS.segF (n := 63) E0_ok 6 [(2, .v (.bool true))] [p1] kr ?_
        have hq := Option.some.inj hj58; subst hq
        exact RunS.done rfl (Wk.sel2 [] kr kr kr trivial ⟨lu kr kr, trivial⟩)
       ·rw [if_f hc63] at hj58
        rw [hc63]
        refine RunS.segF (n := 63) E0_ok 6 [(2, .v (.bool (!x0.2.2.1)))] [p1] kr ?_
        have hq := Option.some.inj hj58; subst hq
        exact RunS.done rfl (Wk.sel2 [] kr kr kr trivial ⟨lu kr kr, trivial⟩)
      ·rw [if_f hc62] at hj58
       rw [hc62]
       refine RunS.segF (n := 63) E0_ok 8 [(2, .v (.bool false))] [p1] kr ?_
       have hq := Option.some.inj hj58; subst hq
       exact RunS.done rfl (Wk.sel2 [] kr kr kr trivial ⟨lu kr kr, trivial⟩)
     ·rw [if_f hc61] at hj58
      rw [hc61]
      refine RunS.segF (n := 63) E0_ok 14 [(2, .v (.bool false))] [p1] kr ?_
      have hq := Option.some.inj hj58; subst hq
      exact RunS.done rfl (Wk.sel2 [] kr kr kr trivial ⟨lu kr kr, trivial⟩)
    ·rw [if_f hc60] at hj58
     rw [hc60]
     refine RunS.segF (n := 63) E0_ok 2 [p2, p9, p8, p7, (33, .v (.bool true)), (36, .v (.bool false)), (38, .sl 1 (x0.2.2.2.1.map cdS.enc))] [p1] kr ?_
     refine RunS.one E0_ok 0 rfl (op_q kr rfl (q_len (a := .sl 1 (x0.2.2.2.1.map cdS.enc)) kr (len_sl (el := 9) kr))) ?_
     refine RunS.segF (n := 63) E0_ok 4 [p2, p9, p8, p7, (43, .v (.bool (decide ((x0.2.2.2.1.length : Int) > 0))))] [p1] kr ?_
     rcases Bool.eq_false_or_eq_true (decide ((x0.2.2.2.1.length : Int) > 0)) with hc64 | hc64
     ·rw [if_pos hc64] at hj58
      rw [hc64]
      refine RunS.segF (n := 63) E0_ok 6 [p2, p8, p7, (49, .v (.bool (decide (x0.2.2.2.2 ≥ w56.2.1))))] [p1] kr ?_
      rcases Bool.eq_false_or_eq_true (decide (x0.2.2.2.2 ≥ w56.2.1)) with hc65 | hc65
      ·rw [if_pos hc65] at hj58
       rw [hc65]
       refine RunS.segF (n := 63) E0_ok 6 [p2, p7, (55, .v (.bool (decide (x0.2.2.2.2 ≤ w56.2.2.1))))] [p1] kr ?_
       rcases Bool.eq_false_or_eq_true (decide (x0.2.2.2.2 ≤ w56.2.2.1)) with hc66 | hc66
       ·rw [if_pos hc66] at hj58
        rw [hc66]
        refine RunS.segF (n := 63) E0_ok 2 [p2, (55, .v (.bool true)), (57, .v (.bool w56.2.2.2))] [p1] kr ?_
        rcases Bool.eq_false_or_eq_true w56.2.2.2 with hc67 | hc67
        ·rw [if_pos hc67] at hj58
         rw [hc67]
         refine RunS.segF (n := 63) E0_ok 6 [(2, .v (.bool true))] [p1] kr ?_
         have hq := Option.some.inj hj58; subst hq
         exact RunS.done rfl (Wk.sel2 [] kr kr kr trivial ⟨lu kr kr, trivial⟩)
        ·rw [if_f hc67] at hj58
         rw [hc67]
         refine RunS.segF (n := 63) E0_ok 6 [(2, .v (.bool (!x0.2.2.1)))] [p1] kr ?_
         have hq := Option.some.inj hj58; subst hq
         exact RunS.done rfl (Wk.sel2 [] kr kr kr trivial ⟨lu kr kr, trivial⟩)
       ·rw [if_f hc66] at hj58
        rw [hc66]
        refine RunS.segF (n := 63) E0_ok 8 [(2, .v (.bool false))] [p1] kr ?_
        have hq := Option.some.inj hj58; subst hq
        exact RunS.done rfl (Wk.sel2 [] kr kr kr trivial ⟨lu kr kr, trivial⟩)
      ·rw [if_f hc65] at hj58
       rw [hc65]
       refine RunS.segF (n := 63) E0_ok 14 [(2, .v (.bool false))] [p1] kr ?_
       have hq := Option.some.inj hj58; subst hq
       exact RunS.done rfl (Wk.sel2 [] kr kr kr trivial ⟨lu kr kr, trivial⟩)
     ·rw [if_f hc64] at hj58
      rw [hc64]
      refine RunS.segF (n := 63) E0_ok 20 [(2, .v (.bool false))] [p1] kr ?_
      have hq := Option.some.inj hj58; subst hq
      exact RunS.done rfl (Wk.sel2 [] kr kr kr trivial ⟨lu kr kr, trivial⟩)
   ·rw [if_f hc59] at hj58
    rw [hc59]
    refine RunS.segF (n := 63) E0_ok 30 [(2, .v (.bool false))] [p1] kr ?_
    have hq := Option.some.inj hj58; subst hq
    exact RunS.done rfl (Wk.sel2 [] kr kr kr trivial ⟨lu kr kr, trivial⟩)
  refine Sem.ret ?_
  have hq := Option.some.inj h; subst hq
  exact ⟨⟨Fr 63 [(2, .v (.bool j58))], []⟩, (Wk.fr kr), .inr rfl, [.v (.bool j58)], kr, kr⟩
 ·try dsimp only at h
  refine Sem.cut (court_formed_j1_ok x0 _ hr55) ?_
  have hq := Option.some.inj h; subst hq
  exact ⟨⟨Fr 63 [(2, .v (.bool w68))], []⟩, (Wk.fr kr), .inr rfl, [.v (.bool w68)], kr, kr⟩
def t_court_formed : List AV → Option AV := told cs_court_formed (fun a => court_formed a.1) er_court_formed
theorem x_court_formed : XOk 120 t_court_formed := by
 refine xok_of_sem Tryz.func120 (c := cb_court_formed) ?h2 ⟨Tryz.call120⟩ cs_court_formed (fun a => court_formed a.1) er_court_formed (fun a => (by show 1 ≤ 63; decide)) ?h3 ?h4
 case h2 => kernel_rfl
 case h3 => intro b; kernel_rfl
 case h4 => exact fun a b h => court_formed_sem a.1 b h
/- trestle/court.name -/
noncomputable def cb_court_name : Code := codeOf Tryz.f121
def court_name_l1 (x0 : (List UInt8)) : Nat → Int → Option ((Unit) ⊕ (Bool))
 | 0, _ => none
 | f + 1, c1 =>
  if (decide (c1 < (x0.length : Int))) = true then
  (idx x0 c1).bind fun v3 =>
  (if (decide ((v3.toNat : Int) < 97)) = true then some true else (idx x0 c1).bind fun v4 =>
  some (decide ((v4.toNat : Int) > 122))).bind fun j6 =>
  if j6 = true then
  some (.inr false)
  else
  court_name_l1 x0 f (wr .i64 (c1 + 1))
  else
  some (.inl ())
def court_name (x0 : (List UInt8)) : Option (Bool) :=
 (court_name_l1 x0 100000 0).bind fun r10 =>
 match r10 with
 | (.inl w11) =>
  (if (decide ((x0.length : Int) ≥ 1)) = true then some (decide ((x0.length : Int) ≤ 12)) else some false).bind fun j13 =>
  some j13
 | (.inr w15) =>
  some w15
def cs_court_name : Cs ((List UInt8) × Unit) := (csC cdS csN)
def er_court_name (r : Bool) : AV := cdB.enc r
theorem court_name_l1_ok (x0 : (List UInt8)) : ∀ (f : Nat) (c1 : Int) (r : (Unit) ⊕ (Bool)), court_name_l1 x0 f c1 = some r → SemN E0 ⟨none, false⟩ (pc cb_court_name [1, 0, 1, 0, 0]) f ⟨Fr 28 [(0, .st x0), (3, .v (.int .i64 c1))], []⟩ (fun e s => match r with
 | (.inl w) => e = (.exit 0) ∧ Wk E0 s ⟨Fr 28 [(0, .st x0)], []⟩
 | (.inr w) => e = .ret ∧ Wk E0 s ⟨Fr 28 [(2, .v (.bool w))], []⟩) := by
 intro f
 induction f with
 | zero => intro c1 r h; cases h
 | succ f ih0 =>
  intro c1 r h
  have ih := fun (c1 : Int) => ih0 c1 r
  unfold court_name_l1 at h
  refine SemN.succ ?_
  refine Sem.seq ?_
  let p1 : Nat × AV := (3, .v (.int .i64 c1))
  refine Sem.sq E0_ok [(0, .st x0), p1, (7, .v (.bool (decide (c1 < (x0.length : Int)))))] [] ?_
  refine Sem.cond (b := (decide (c1 < (x0.length : Int)))) kr (fun hb2 => ?_) (fun hb2 => ?_)
  ·rw [if_pos hb2] at h
   refine Sem.skip ?_
   refine Sem.seq ?_
   refine Sem.block ?_
   refine Sem.seq ?_
   obtain ⟨v3, hv3, h⟩ := Option.bind_eq_some_iff.1 h
   obtain ⟨j6, hj6, h⟩ := Option.bind_eq_some_iff.1 h
   refine Sem.runS (s1 := ⟨Fr 28 [(0, .st x0), p1, (19, .v (.bool j6))], []⟩) ?_ ?_
   ·refine RunS.segF (n := 28) E0_ok 2 [(0, .st x0), p1, (10, .st x0), (11, .v (.int .i64 c1))] [] kr ?_
    refine RunS.one E0_ok 0 rfl (op_q (wantedA_none rfl) rfl (q_index (a := .st x0) (b := .v (.int .i64 c1)) kr kr (index_st (bs := x0) (ki := .i64) kr hv3))) ?_
    refine RunS.segF (n := 28) E0_ok 2 [(0, .st x0), p1, (14, .v (.bool (decide ((v3.toNat : Int) < 97))))] [] kr ?_
    rcases Bool.eq_false_or_eq_true (decide ((v3.toNat : Int) < 97)) with hc9 | hc9
    ·rw [if_pos hc9] at hj6
     rw [hc9]
     refine RunS.segF (n := 28) E0_ok 5 [(0, .st x0), p1, (15, .tp []), (16, .tp []), (17, .tp []), (18, .tp []), (19, .v (.bool true))] [] kr ?_
     have hq := Option.some.inj hj6; subst hq
     exact RunS.done rfl (Wk.fr kr)
    ·rw [if_f hc9] at hj6
     rw [hc9]
     refine RunS.segF (n := 28) E0_ok 2 [(0, .st x0), p1, (14, .v (.bool false)), (15, .st x0), (16, .v (.int .i64 c1))] [] kr ?_
     obtain ⟨v4, hv4, hj6⟩ := Option.bind_eq_some_iff.1 hj6
     refine RunS.one E0_ok 0 rfl (op_q kr rfl (q_index (a := .st x0) (b := .v (.int .i64 c1)) kr kr (index_st (bs := x0) (ki := .i64) kr hv4))) ?_
     refine RunS.segF (n := 28) E0_ok 2 [(0, .st x0), p1, (15, .st x0), (16, .v (.int .i64 c1)), (17, .v (.int .u8 (v4.toNat : Int))), (18, .v (.bool (decide ((v4.toNat : Int) > 122)))), (19, .v (.bool (decide ((v4.toNat : Int) > 122))))] [] kr ?_
     have hq := Option.some.inj hj6; subst hq
     exact RunS.done rfl (Wk.fr kr)
   refine Sem.cond (b := j6) kr (fun hb7 => ?_) (fun hb7 => ?_)
   ·rw [if_pos hb7] at h
    refine Sem.sq E0_ok [(2, .v (.bool false))] [] ?_
    refine Sem.ret ?_
    have hq := Option.some.inj h; subst hq
    exact ⟨rfl, (Wk.fr kr)⟩
   ·rw [if_f hb7] at h
    refine Sem.skip ?_
    let p2 : Nat × AV := (3, .v (.int .i64 (wr .i64 (c1 + 1))))
    refine Sem.rg E0_ok [(0, .st x0), p2] [] ?_
    exact SemN.wk (s1 := ⟨Fr 28 [(0, .st x0), p2], []⟩) (Wk.fr kr) (ih (wr .i64 (c1 + 1)) h)
  ·rw [if_f hb2] at h
   refine Sem.exit ?_
   have hq := Option.some.inj h; subst hq
   exact ⟨rfl, (Wk.fr kr)⟩
theorem court_name_sem (x0 : (List UInt8)) (r : Bool) (h : court_name x0 = some r) : Sem E0 ⟨none, false⟩ cb_court_name ⟨Fr 28 (pairs0 0 (cs_court_name.enc (x0, ()))), []⟩ fun e s' => (e = .normal ∨ e = .ret) ∧ ∃ xs, resA E0.P s'.fr s'.hp Tryz.f121.results.toList = some xs ∧ retA xs = er_court_name r := by
 unfold court_name at h
 refine Sem.wkQ (Sem.wk (s1 := ⟨Fr 28 [(0, .st x0)], []⟩) (Wk.fr kr) ?_)
 refine Sem.sq E0_ok [(0, .st x0)] [] ?_
 refine Sem.seq ?_
 let p1 : Nat × AV := (3, .v (.int .i64 0))
 refine Sem.sq E0_ok [(0, .st x0), p1] [] ?_
 refine Sem.block ?_
 obtain ⟨r10, hr10, h⟩ := Option.bind_eq_some_iff.1 h
 refine Sem.loop (n := 100000) ?_
 rcases r10 with w11 | w15
 ·try dsimp only at h
  refine Sem.cutN (SemN.wk (s1 := ⟨Fr 28 [(0, .st x0), p1], []⟩) (Wk.fr kr) (court_name_l1_ok x0 _ 0 _ hr10)) ?_
  refine Sem.seq ?_
  obtain ⟨j13, hj13, h⟩ := Option.bind_eq_some_iff.1 h
  refine Sem.runS (s1 := ⟨Fr 28 [(2, .v (.bool j13))], []⟩) ?_ ?_
  ·refine RunS.segF (n := 28) E0_ok 4 [(0, .st x0), (23, .v (.bool (decide ((x0.length : Int) ≥ 1))))] [] kr ?_
   rcases Bool.eq_false_or_eq_true (decide ((x0.length : Int) ≥ 1)) with hc14 | hc14
   ·rw [if_pos hc14] at hj13
    rw [hc14]
    refine RunS.segF (n := 28) E0_ok 5 [(2, .v (.bool (decide ((x0.length : Int) ≤ 12))))] [] kr ?_
    have hq := Option.some.inj hj13; subst hq
    exact RunS.done rfl (Wk.fr kr)
   ·rw [if_f hc14] at hj13
    rw [hc14]
    refine RunS.segF (n := 28) E0_ok 5 [(2, .v (.bool false))] [] kr ?_
    have hq := Option.some.inj hj13; subst hq
    exact RunS.done rfl (Wk.fr kr)
  refine Sem.ret ?_
  have hq := Option.some.inj h; subst hq
  exact ⟨⟨Fr 28 [(2, .v (.bool j13))], []⟩, (Wk.fr kr), .inr rfl, [.v (.bool j13)], kr, kr⟩
 ·try dsimp only at h
  refine Sem.cutN (SemN.wk (s1 := ⟨Fr 28 [(0, .st x0), p1], []⟩) (Wk.fr kr) (court_name_l1_ok x0 _ 0 _ hr10)) ?_
  have hq := Option.some.inj h; subst hq
  exact ⟨⟨Fr 28 [(2, .v (.bool w15))], []⟩, (Wk.fr kr), .inr rfl, [.v (.bool w15)], kr, kr⟩
def t_court_name : List AV → Option AV := told cs_court_name (fun a => court_name a.1) er_court_name
theorem x_court_name : XOk 121 t_court_name := by
 refine xok_of_sem Tryz.func121 (c := cb_court_name) ?h2 ⟨Tryz.call121⟩ cs_court_name (fun a => court_name a.1) er_court_name (fun a => (by show 1 ≤ 28; decide)) ?h3 ?h4
 case h2 => kernel_rfl
 case h3 => intro b; kernel_rfl
 case h4 => exact fun a b h => court_name_sem a.1 b h
/- trestle/court.check$1 -/
noncomputable def cb_court_check_1 : Code := codeOf Tryz.f122
def court_check_1 (x0 : (List UInt8)) : Option (Bool) :=
 (court_name x0).bind fun v1 =>
 some (!v1)
def cs_court_check_1 : Cs ((List UInt8) × Unit) := (csC cdS csN)
def er_court_check_1 (r : Bool) : AV := cdB.enc r
theorem court_check_1_sem (x0 : (List UInt8)) (r : Bool) (h : court_check_1 x0 = some r) : Sem E0 ⟨none, false⟩ cb_court_check_1 ⟨Fr 6 (pairs0 0 (cs_court_check_1.enc (x0, ()))), []⟩ fun e s' => (e = .normal ∨ e = .ret) ∧ ∃ xs, resA E0.P s'.fr s'.hp Tryz.f122.results.toList = some xs ∧ retA xs = er_court_check_1 r := by
 unfold court_check_1 at h
 refine Sem.wkQ (Sem.wk (s1 := ⟨Fr 6 [(0, .st x0)], []⟩) (Wk.fr kr) ?_)
 refine Sem.sq E0_ok [(0, .st x0)] [] ?_
 refine Sem.seq ?_
 obtain ⟨v1, hv1, h⟩ := Option.bind_eq_some_iff.1 h
 refine Sem.runS (s1 := ⟨Fr 6 [(2, .v (.bool (!v1)))], []⟩) ?_ ?_
 ·refine RunS.segF (n := 6) E0_ok 1 [(3, .st x0)] [] kr ?_
  refine RunS.callV (caps := []) (xs := [.st x0]) (u := (x0, ())) rfl rfl x_court_name rfl (wantedA_none rfl) kr kr (Sl.cons (Sm.enc (c := cdS) (v := x0)) Sl.nil) (.inl kr) hv1 ?_
  exact RunS.last E0_ok
 refine Sem.ret ?_
 have hq := Option.some.inj h; subst hq
 exact ⟨⟨Fr 6 [(2, .v (.bool (!v1)))], []⟩, (Wk.fr kr), .inr rfl, [.v (.bool (!v1))], kr, kr⟩
def t_court_check_1 : List AV → Option AV := told cs_court_check_1 (fun a => court_check_1 a.1) er_court_check_1
theorem x_court_check_1 : XOk 122 t_court_check_1 := by
 refine xok_of_sem Tryz.func122 (c := cb_court_check_1) ?h2 ⟨Tryz.call122⟩ cs_court_check_1 (fun a => court_check_1 a.1) er_court_check_1 (fun a => (by show 1 ≤ 6; decide)) ?h3 ?h4
 case h2 => kernel_rfl
 case h3 => intro b; kernel_rfl
 case h4 => exact fun a b h => court_check_1_sem a.1 b h
/- slices.IndexFunc[[]string,string] -/
noncomputable def cb_slices_IndexFunc_string_string__court_check_1 : Code := codeOf Tryz.f100
def slices_IndexFunc_string_string__court_check_1_l1 (x0 : (List (List UInt8))) : Nat → Int → Option ((Unit) ⊕ (Int))
 | 0, _ => none
 | f + 1, c1 =>
  if (decide (c1 < (x0.length : Int))) = true then
  (idx x0 c1).bind fun v3 =>
  (court_check_1 v3).bind fun v4 =>
  if v4 = true then
  some (.inr c1)
  else
  slices_IndexFunc_string_string__court_check_1_l1 x0 f (wr .i64 (c1 + 1))
  else
  some (.inl ())
def slices_IndexFunc_string_string__court_check_1 (x0 : (List (List UInt8))) : Option (Int) :=
 (slices_IndexFunc_string_string__court_check_1_l1 x0 100000 0).bind fun r7 =>
 match r7 with
 | (.inl w8) =>
  some (-1)
 | (.inr w9) =>
  some w9
def cs_slices_IndexFunc_string_string__court_check_1 : Cs ((List (List UInt8)) × Unit × Unit) := (csC (cdL 1 cdS) (csC (cdF 122 csN (fun _ => rfl)) csN))
def er_slices_IndexFunc_string_string__court_check_1 (r : Int) : AV := cdI.enc r
theorem slices_IndexFunc_string_string__court_check_1_l1_ok (x0 : (List (List UInt8))) : ∀ (f : Nat) (c1 : Int) (r : (Unit) ⊕ (Int)), slices_IndexFunc_string_string__court_check_1_l1 x0 f c1 = some r → SemN E0 ⟨none, false⟩ (pc cb_slices_IndexFunc_string_string__court_check_1 [1, 0, 1, 0, 0]) f ⟨Fr 19 [(0, .sl 1 (x0.map cdS.enc)), (1, .fn 122 [] []), (7, .v (.int .i64 (x0.length : Int))), (8, .v (.int .i64 c1))], []⟩ (fun e s => match r with
 | (.inl w) => e = (.exit 0) ∧ Wk E0 s ⟨Fr 19 [], []⟩
 | (.inr w) => e = .ret ∧ Wk E0 s ⟨Fr 19 [(4, .v (.int .i64 w))], []⟩) := by
 intro f
 induction f with
 | zero => intro c1 r h; cases h
 | succ f ih0 =>
  intro c1 r h
  have ih := fun (c1 : Int) => ih0 c1 r
  unfold slices_IndexFunc_string_string__court_check_1_l1 at h
  refine SemN.succ ?_
  let p1 : Nat × AV := (8, .v (.int .i64 c1))
  let p2 : Nat × AV := (7, .v (.int .i64 (x0.length : Int)))
  let p3 : Nat × AV := (1, .fn 122 [] [])
  let p4 : Nat × AV := (0, .sl 1 (x0.map cdS.enc))
  refine Sem.sq E0_ok [p4, p3, p2, p1, (9, .v (.bool (decide (c1 < (x0.length : Int)))))] [] ?_
  refine Sem.seq ?_
  refine Sem.cond (b := (decide (c1 < (x0.length : Int)))) kr (fun hb2 => ?_) (fun hb2 => ?_)
  ·rw [if_pos hb2] at h
   refine Sem.skip ?_
   refine Sem.seq ?_
   refine Sem.block ?_
   let p5 : Nat × AV := (5, .v (.int .i64 c1))
   refine Sem.sq E0_ok [p4, p3, p5, p2, p1] [] ?_
   refine Sem.seq ?_
   obtain ⟨v3, hv3, h⟩ := Option.bind_eq_some_iff.1 h
   obtain ⟨v4, hv4, h⟩ := Option.bind_eq_some_iff.1 h
   refine Sem.runS (s1 := ⟨Fr 19 [p4, p3, p5, p2, p1, (16, .v (.bool v4))], []⟩) ?_ ?_
   ·refine RunS.segF (n := 19) E0_ok 3 [p4, p3, p5, p2, p1, (11, .fn 122 [] []), (12, .sl 1 (x0.map cdS.enc)), (13, .v (.int .i64 c1))] [] kr ?_
    refine RunS.one E0_ok 0 rfl (op_q (wantedA_none rfl) rfl (q_indexAddr (a := .sl 1 (x0.map cdS.enc)) (b := .v (.int .i64 c1)) kr kr (ix_sl (e := cdS.enc) (el := 9) (k := 1) (ki := .i64) kr kr hv3))) ?_
    refine RunS.segF (n := 19) E0_ok 1 [p4, p3, p5, p2, p1, (11, .fn 122 [] []), (15, .st v3)] [] kr ?_
    refine RunS.callV (caps := []) (xs := [.st v3]) (u := (v3, ())) rfl rfl x_court_check_1 rfl (wantedA_none rfl) kr kr (Sl.cons (Sm.enc (c := cdS) (v := v3)) Sl.nil) (.inl kr) hv4 ?_
    exact RunS.done rfl (Wk.fr kr)
   refine Sem.cond (b := v4) kr (fun hb5 => ?_) (fun hb5 => ?_)
   ·rw [if_pos hb5] at h
    refine Sem.sq E0_ok [(4, .v (.int .i64 c1))] [] ?_
    refine Sem.ret ?_
    have hq := Option.some.inj h; subst hq
    exact ⟨rfl, (Wk.fr kr)⟩
   ·rw [if_f hb5] at h
    refine Sem.skip ?_
    let p6 : Nat × AV := (8, .v (.int .i64 (wr .i64 (c1 + 1))))
    refine Sem.rg E0_ok [p4, p3, p2, p6] [] ?_
    exact SemN.wk (s1 := ⟨Fr 19 [p4, p3, p2, p6], []⟩) (Wk.fr kr) (ih (wr .i64 (c1 + 1)) h)
  ·rw [if_f hb2] at h
   refine Sem.exit ?_
   have hq := Option.some.inj h; subst hq
   exact ⟨rfl, (Wk.fr kr)⟩
theorem slices_IndexFunc_string_string__court_check_1_sem (x0 : (List (List UInt8))) (r : Int) (h : slices_IndexFunc_string_string__court_check_1 x0 = some r) : Sem E0 ⟨none, false⟩ cb_slices_IndexFunc_string_string__court_check_1 ⟨Fr 19 (pairs0 0 (cs_slices_IndexFunc_string_string__court_check_1.enc (x0, (), ()))), []⟩ fun e s' => (e = .normal ∨ e = .ret) ∧ ∃ xs, resA E0.P s'.fr s'.hp Tryz.f100.results.toList = some xs ∧ retA xs = er_slices_IndexFunc_string_string__court_check_1 r := by
 unfold slices_IndexFunc_string_string__court_check_1 at h
 let p1 : Nat × AV := (1, .fn 122 [] [])
 let p2 : Nat × AV := (0, .sl 1 (x0.map cdS.enc))
 refine Sem.wkQ (Sem.wk (s1 := ⟨Fr 19 [p2, p1], []⟩) (Wk.fr kr) ?_)
 refine Sem.sq E0_ok [p2, p1] [] ?_
 refine Sem.seq ?_
 refine Sem.seq ?_
 let p3 : Nat × AV := (8, .v (.int .i64 0))
 let p4 : Nat × AV := (7, .v (.int .i64 (x0.length : Int)))
 refine Sem.runS (s1 := ⟨Fr 19 [p2, p1, p4, p3], []⟩) ?_ ?_
 ·refine RunS.segF (n := 19) E0_ok 1 [p2, p1, (6, .sl 1 (x0.map cdS.enc))] [] kr ?_
  refine RunS.one E0_ok 0 rfl (op_q (wantedA_none rfl) rfl (q_len (a := .sl 1 (x0.map cdS.enc)) kr (len_sl (el := 9) kr))) ?_
  exact RunS.last E0_ok
 refine Sem.block ?_
 obtain ⟨r7, hr7, h⟩ := Option.bind_eq_some_iff.1 h
 refine Sem.loop (n := 100000) ?_
 rcases r7 with w8 | w9
 ·try dsimp only at h
  refine Sem.cutN (SemN.wk (s1 := ⟨Fr 19 [p2, p1, p4, p3], []⟩) (Wk.fr kr) (slices_IndexFunc_string_string__court_check_1_l1_ok x0 _ 0 _ hr7)) ?_
  refine Sem.sq E0_ok [(4, .v (.int .i64 (-1)))] [] ?_
  refine Sem.ret ?_
  have hq := Option.some.inj h; subst hq
  exact ⟨⟨Fr 19 [(4, .v (.int .i64 (-1)))], []⟩, (Wk.fr kr), .inr rfl, [.v (.int .i64 (-1))], kr, kr⟩
 ·try dsimp only at h
  refine Sem.cutN (SemN.wk (s1 := ⟨Fr 19 [p2, p1, p4, p3], []⟩) (Wk.fr kr) (slices_IndexFunc_string_string__court_check_1_l1_ok x0 _ 0 _ hr7)) ?_
  have hq := Option.some.inj h; subst hq
  exact ⟨⟨Fr 19 [(4, .v (.int .i64 w9))], []⟩, (Wk.fr kr), .inr rfl, [.v (.int .i64 w9)], kr, kr⟩
def t_slices_IndexFunc_string_string__court_check_1 : List AV → Option AV := told cs_slices_IndexFunc_string_string__court_check_1 (fun a => slices_IndexFunc_string_string__court_check_1 a.1) er_slices_IndexFunc_string_string__court_check_1
theorem x_slices_IndexFunc_string_string__court_check_1 : XOk 100 t_slices_IndexFunc_string_string__court_check_1 := by
 refine xok_of_sem Tryz.func100 (c := cb_slices_IndexFunc_string_string__court_check_1) ?h2 ⟨Tryz.call100⟩ cs_slices_IndexFunc_string_string__court_check_1 (fun a => slices_IndexFunc_string_string__court_check_1 a.1) er_slices_IndexFunc_string_string__court_check_1 (fun a => (by show 2 ≤ 19; decide)) ?h3 ?h4
 case h2 => kernel_rfl
 case h3 => intro b; kernel_rfl
 case h4 => exact fun a b h => slices_IndexFunc_string_string__court_check_1_sem a.1 b h
/- slices.ContainsFunc[[]string,string] -/
noncomputable def cb_slices_ContainsFunc_string_string__court_check_1 : Code := codeOf Tryz.f49
def slices_ContainsFunc_string_string__court_check_1 (x0 : (List (List UInt8))) : Option (Bool) :=
 (slices_IndexFunc_string_string__court_check_1 x0).bind fun v1 =>
 some (decide (v1 ≥ 0))
def cs_slices_ContainsFunc_string_string__court_check_1 : Cs ((List (List UInt8)) × Unit × Unit) := (csC (cdL 1 cdS) (csC (cdF 122 csN (fun _ => rfl)) csN))
def er_slices_ContainsFunc_string_string__court_check_1 (r : Bool) : AV := cdB.enc r
theorem slices_ContainsFunc_string_string__court_check_1_sem (x0 : (List (List UInt8))) (r : Bool) (h : slices_ContainsFunc_string_string__court_check_1 x0 = some r) : Sem E0 ⟨none, false⟩ cb_slices_ContainsFunc_string_string__court_check_1 ⟨Fr 9 (pairs0 0 (cs_slices_ContainsFunc_string_string__court_check_1.enc (x0, (), ()))), []⟩ fun e s' => (e = .normal ∨ e = .ret) ∧ ∃ xs, resA E0.P s'.fr s'.hp Tryz.f49.results.toList = some xs ∧ retA xs = er_slices_ContainsFunc_string_string__court_check_1 r := by
 unfold slices_ContainsFunc_string_string__court_check_1 at h
 refine Sem.wkQ (Sem.wk (s1 := ⟨Fr 9 [(0, .sl 1 (x0.map cdS.enc)), (1, .fn 122 [] [])], []⟩) (Wk.fr kr) ?_)
 refine Sem.sq E0_ok [(0, .sl 1 (x0.map cdS.enc)), (1, .fn 122 [] [])] [] ?_
 refine Sem.seq ?_
 obtain ⟨v1, hv1, h⟩ := Option.bind_eq_some_iff.1 h
 let p1 : Nat × AV := (4, .v (.bool (decide (v1 ≥ 0))))
 refine Sem.runS (s1 := ⟨Fr 9 [p1], []⟩) ?_ ?_
 ·refine RunS.segF (n := 9) E0_ok 2 [(5, .sl 1 (x0.map cdS.enc)), (6, .fn 122 [] [])] [] kr ?_
  refine RunS.callV (caps := []) (xs := [.sl 1 (x0.map cdS.enc), .fn 122 [] []]) (u := (x0, (), ())) rfl rfl x_slices_IndexFunc_string_string__court_check_1 rfl (wantedA_none rfl) kr kr (Sl.cons (Sm.enc (c := (cdL 1 cdS)) (v := x0)) (Sl.cons (Sm.fn Sl.nil) Sl.nil)) (.inl kr) hv1 ?_
  exact RunS.last E0_ok
 refine Sem.ret ?_
 have hq := Option.some.inj h; subst hq
 exact ⟨⟨Fr 9 [p1], []⟩, (Wk.fr kr), .inr rfl, [.v (.bool (decide (v1 ≥ 0)))], kr, kr⟩
def t_slices_ContainsFunc_string_string__court_check_1 : List AV → Option AV := told cs_slices_ContainsFunc_string_string__court_check_1 (fun a => slices_ContainsFunc_string_string__court_check_1 a.1) er_slices_ContainsFunc_string_string__court_check_1
theorem x_slices_ContainsFunc_string_string__court_check_1 : XOk 49 t_slices_ContainsFunc_string_string__court_check_1 := by
 refine xok_of_sem Tryz.func49 (c := cb_slices_ContainsFunc_string_string__court_check_1) ?h2 ⟨Tryz.call49⟩ cs_slices_ContainsFunc_string_string__court_check_1 (fun a => slices_ContainsFunc_string_string__court_check_1 a.1) er_slices_ContainsFunc_string_string__court_check_1 (fun a => (by show 2 ≤ 9; decide)) ?h3 ?h4
 case h2 => kernel_rfl
 case h3 => intro b; kernel_rfl
 case h4 => exact fun a b h => slices_ContainsFunc_string_string__court_check_1_sem a.1 b h
/- slices.Index[[]string,string] -/
noncomputable def cb_slices_Index_string_string : Code := codeOf Tryz.f144
def slices_Index_string_string_l1 (x0 : (List (List UInt8))) (x1 : (List UInt8)) : Nat → Int → Option ((Unit) ⊕ (Int))
 | 0, _ => none
 | f + 1, c1 =>
  if (decide (c1 < (x0.length : Int))) = true then
  (idx x0 c1).bind fun v3 =>
  if (x1 == v3) = true then
  some (.inr c1)
  else
  slices_Index_string_string_l1 x0 x1 f (wr .i64 (c1 + 1))
  else
  some (.inl ())
def slices_Index_string_string (x0 : (List (List UInt8))) (x1 : (List UInt8)) : Option (Int) :=
 (slices_Index_string_string_l1 x0 x1 100000 0).bind fun r6 =>
 match r6 with
 | (.inl w7) =>
  some (-1)
 | (.inr w8) =>
  some w8
def cs_slices_Index_string_string : Cs ((List (List UInt8)) × (List UInt8) × Unit) := (csC (cdL 1 cdS) (csC cdS csN))
def er_slices_Index_string_string (r : Int) : AV := cdI.enc r
theorem slices_Index_string_string_l1_ok (x0 : (List (List UInt8))) (x1 : (List UInt8)) : ∀ (f : Nat) (c1 : Int) (r : (Unit) ⊕ (Int)), slices_Index_string_string_l1 x0 x1 f c1 = some r → SemN E0 ⟨none, false⟩ (pc cb_slices_Index_string_string [1, 0, 1, 0, 0]) f ⟨Fr 19 [(0, .sl 1 (x0.map cdS.enc)), (1, .st x1), (7, .v (.int .i64 (x0.length : Int))), (8, .v (.int .i64 c1))], []⟩ (fun e s => match r with
 | (.inl w) => e = (.exit 0) ∧ Wk E0 s ⟨Fr 19 [], []⟩
 | (.inr w) => e = .ret ∧ Wk E0 s ⟨Fr 19 [(4, .v (.int .i64 w))], []⟩) := by
 intro f
 induction f with
 | zero => intro c1 r h; cases h
 | succ f ih0 =>
  intro c1 r h
  have ih := fun (c1 : Int) => ih0 c1 r
  unfold slices_Index_string_string_l1 at h
  refine SemN.succ ?_
  let p1 : Nat × AV := (8, .v (.int .i64 c1))
  let p2 : Nat × AV := (7, .v (.int .i64 (x0.length : Int)))
  let p3 : Nat × AV := (0, .sl 1 (x0.map cdS.enc))
  refine Sem.sq E0_ok [p3, (1, .st x1), p2, p1, (9, .v (.bool (decide (c1 < (x0.length : Int)))))] [] ?_
  refine Sem.seq ?_
  refine Sem.cond (b := (decide (c1 < (x0.length : Int)))) kr (fun hb2 => ?_) (fun hb2 => ?_)
  ·rw [if_pos hb2] at h
   refine Sem.skip ?_
   refine Sem.seq ?_
   refine Sem.block ?_
   let p4 : Nat × AV := (5, .v (.int .i64 c1))
   refine Sem.sq E0_ok [p3, (1, .st x1), p4, p2, p1] [] ?_
   refine Sem.seq ?_
   obtain ⟨v3, hv3, h⟩ := Option.bind_eq_some_iff.1 h
   refine Sem.runS (s1 := ⟨Fr 19 [p3, (1, .st x1), p4, p2, p1, (16, .v (.bool (x1 == v3)))], []⟩) ?_ ?_
   ·refine RunS.segF (n := 19) E0_ok 3 [p3, (1, .st x1), p4, p2, p1, (11, .st x1), (12, .sl 1 (x0.map cdS.enc)), (13, .v (.int .i64 c1))] [] kr ?_
    refine RunS.one E0_ok 0 rfl (op_q (wantedA_none rfl) rfl (q_indexAddr (a := .sl 1 (x0.map cdS.enc)) (b := .v (.int .i64 c1)) kr kr (ix_sl (e := cdS.enc) (el := 9) (k := 1) (ki := .i64) kr kr hv3))) ?_
    exact RunS.last E0_ok
   refine Sem.cond (b := (x1 == v3)) kr (fun hb4 => ?_) (fun hb4 => ?_)
   ·rw [if_pos hb4] at h
    refine Sem.sq E0_ok [(4, .v (.int .i64 c1))] [] ?_
    refine Sem.ret ?_
    have hq := Option.some.inj h; subst hq
    exact ⟨rfl, (Wk.fr kr)⟩
   ·rw [if_f hb4] at h
    refine Sem.skip ?_
    let p5 : Nat × AV := (8, .v (.int .i64 (wr .i64 (c1 + 1))))
    refine Sem.rg E0_ok [p3, (1, .st x1), p2, p5] [] ?_
    exact SemN.wk (s1 := ⟨Fr 19 [p3, (1, .st x1), p2, p5], []⟩) (Wk.fr kr) (ih (wr .i64 (c1 + 1)) h)
  ·rw [if_f hb2] at h
   refine Sem.exit ?_
   have hq := Option.some.inj h; subst hq
   exact ⟨rfl, (Wk.fr kr)⟩
theorem slices_Index_string_string_sem (x0 : (List (List UInt8))) (x1 : (List UInt8)) (r : Int) (h : slices_Index_string_string x0 x1 = some r) : Sem E0 ⟨none, false⟩ cb_slices_Index_string_string ⟨Fr 19 (pairs0 0 (cs_slices_Index_string_string.enc (x0, x1, ()))), []⟩ fun e s' => (e = .normal ∨ e = .ret) ∧ ∃ xs, resA E0.P s'.fr s'.hp Tryz.f144.results.toList = some xs ∧ retA xs = er_slices_Index_string_string r := by
 unfold slices_Index_string_string at h
 let p1 : Nat × AV := (0, .sl 1 (x0.map cdS.enc))
 refine Sem.wkQ (Sem.wk (s1 := ⟨Fr 19 [p1, (1, .st x1)], []⟩) (Wk.fr kr) ?_)
 refine Sem.sq E0_ok [p1, (1, .st x1)] [] ?_
 refine Sem.seq ?_
 refine Sem.seq ?_
 let p2 : Nat × AV := (8, .v (.int .i64 0))
 let p3 : Nat × AV := (7, .v (.int .i64 (x0.length : Int)))
 refine Sem.runS (s1 := ⟨Fr 19 [p1, (1, .st x1), p3, p2], []⟩) ?_ ?_
 ·refine RunS.segF (n := 19) E0_ok 1 [p1, (1, .st x1), (6, .sl 1 (x0.map cdS.enc))] [] kr ?_
  refine RunS.one E0_ok 0 rfl (op_q (wantedA_none rfl) rfl (q_len (a := .sl 1 (x0.map cdS.enc)) kr (len_sl (el := 9) kr))) ?_
  exact RunS.last E0_ok
 refine Sem.block ?_
 obtain ⟨r6, hr6, h⟩ := Option.bind_eq_some_iff.1 h
 refine Sem.loop (n := 100000) ?_
 rcases r6 with w7 | w8
 ·try dsimp only at h
  refine Sem.cutN (SemN.wk (s1 := ⟨Fr 19 [p1, (1, .st x1), p3, p2], []⟩) (Wk.fr kr) (slices_Index_string_string_l1_ok x0 x1 _ 0 _ hr6)) ?_
  refine Sem.sq E0_ok [(4, .v (.int .i64 (-1)))] [] ?_
  refine Sem.ret ?_
  have hq := Option.some.inj h; subst hq
  exact ⟨⟨Fr 19 [(4, .v (.int .i64 (-1)))], []⟩, (Wk.fr kr), .inr rfl, [.v (.int .i64 (-1))], kr, kr⟩
 ·try dsimp only at h
  refine Sem.cutN (SemN.wk (s1 := ⟨Fr 19 [p1, (1, .st x1), p3, p2], []⟩) (Wk.fr kr) (slices_Index_string_string_l1_ok x0 x1 _ 0 _ hr6)) ?_
  have hq := Option.some.inj h; subst hq
  exact ⟨⟨Fr 19 [(4, .v (.int .i64 w8))], []⟩, (Wk.fr kr), .inr rfl, [.v (.int .i64 w8)], kr, kr⟩
def t_slices_Index_string_string : List AV → Option AV := told cs_slices_Index_string_string (fun a => slices_Index_string_string a.1 a.2.1) er_slices_Index_string_string
theorem x_slices_Index_string_string : XOk 144 t_slices_Index_string_string := by
 refine xok_of_sem Tryz.func144 (c := cb_slices_Index_string_string) ?h2 ⟨Tryz.call144⟩ cs_slices_Index_string_string (fun a => slices_Index_string_string a.1 a.2.1) er_slices_Index_string_string (fun a => (by show 2 ≤ 19; decide)) ?h3 ?h4
 case h2 => kernel_rfl
 case h3 => intro b; kernel_rfl
 case h4 => exact fun a b h => slices_Index_string_string_sem a.1 a.2.1 b h
/- slices.Contains[[]string,string] -/
noncomputable def cb_slices_Contains_string_string : Code := codeOf Tryz.f123
def slices_Contains_string_string (x0 : (List (List UInt8))) (x1 : (List UInt8)) : Option (Bool) :=
 (slices_Index_string_string x0 x1).bind fun v1 =>
 some (decide (v1 ≥ 0))
def cs_slices_Contains_string_string : Cs ((List (List UInt8)) × (List UInt8) × Unit) := (csC (cdL 1 cdS) (csC cdS csN))
def er_slices_Contains_string_string (r : Bool) : AV := cdB.enc r
theorem slices_Contains_string_string_sem (x0 : (List (List UInt8))) (x1 : (List UInt8)) (r : Bool) (h : slices_Contains_string_string x0 x1 = some r) : Sem E0 ⟨none, false⟩ cb_slices_Contains_string_string ⟨Fr 9 (pairs0 0 (cs_slices_Contains_string_string.enc (x0, x1, ()))), []⟩ fun e s' => (e = .normal ∨ e = .ret) ∧ ∃ xs, resA E0.P s'.fr s'.hp Tryz.f123.results.toList = some xs ∧ retA xs = er_slices_Contains_string_string r := by
 unfold slices_Contains_string_string at h
 refine Sem.wkQ (Sem.wk (s1 := ⟨Fr 9 [(0, .sl 1 (x0.map cdS.enc)), (1, .st x1)], []⟩) (Wk.fr kr) ?_)
 refine Sem.sq E0_ok [(0, .sl 1 (x0.map cdS.enc)), (1, .st x1)] [] ?_
 refine Sem.seq ?_
 obtain ⟨v1, hv1, h⟩ := Option.bind_eq_some_iff.1 h
 let p1 : Nat × AV := (4, .v (.bool (decide (v1 ≥ 0))))
 refine Sem.runS (s1 := ⟨Fr 9 [p1], []⟩) ?_ ?_
 ·refine RunS.segF (n := 9) E0_ok 2 [(5, .sl 1 (x0.map cdS.enc)), (6, .st x1)] [] kr ?_
  refine RunS.callV (caps := []) (xs := [.sl 1 (x0.map cdS.enc), .st x1]) (u := (x0, x1, ())) rfl rfl x_slices_Index_string_string rfl (wantedA_none rfl) kr kr (Sl.cons (Sm.enc (c := (cdL 1 cdS)) (v := x0)) (Sl.cons (Sm.enc (c := cdS) (v := x1)) Sl.nil)) (.inl kr) hv1 ?_
  exact RunS.last E0_ok
 refine Sem.ret ?_
 have hq := Option.some.inj h; subst hq
 exact ⟨⟨Fr 9 [p1], []⟩, (Wk.fr kr), .inr rfl, [.v (.bool (decide (v1 ≥ 0)))], kr, kr⟩
def t_slices_Contains_string_string : List AV → Option AV := told cs_slices_Contains_string_string (fun a => slices_Contains_string_string a.1 a.2.1) er_slices_Contains_string_string
theorem x_slices_Contains_string_string : XOk 123 t_slices_Contains_string_string := by
 refine xok_of_sem Tryz.func123 (c := cb_slices_Contains_string_string) ?h2 ⟨Tryz.call123⟩ cs_slices_Contains_string_string (fun a => slices_Contains_string_string a.1 a.2.1) er_slices_Contains_string_string (fun a => (by show 2 ≤ 9; decide)) ?h3 ?h4
 case h2 => kernel_rfl
 case h3 => intro b; kernel_rfl
 case h4 => exact fun a b h => slices_Contains_string_string_sem a.1 a.2.1 b h
/- trestle/court.check$2 -/
noncomputable def cb_court_check_2 : Code := codeOf Tryz.f124
def court_check_2 (x0 : Clause) (x1 : Clause) : Option (Bool) :=
 (if (x0.1 == 1) = true then (slices_Contains_string_string x0.2.2.2.1 x1.2.1).bind fun v1 =>
 some v1 else some false).bind fun j3 =>
 some j3
def cs_court_check_2 : Cs (Clause × Clause × Unit) := (csC cdClause (csC (cdP cdClause) csN))
def er_court_check_2 (r : Bool) : AV := cdB.enc r
theorem court_check_2_sem (x0 : Clause) (x1 : Clause) (r : Bool) (h : court_check_2 x0 x1 = some r) : Sem E0 ⟨none, false⟩ cb_court_check_2 ⟨Fr 14 (pairs0 0 (cs_court_check_2.enc (x0, x1, ()))), []⟩ fun e s' => (e = .normal ∨ e = .ret) ∧ ∃ xs, resA E0.P s'.fr s'.hp Tryz.f124.results.toList = some xs ∧ retA xs = er_court_check_2 r := by
 unfold court_check_2 at h
 let p1 : Nat × AV := (1, .pe (cdClause.enc x1) 0)
 refine Sem.wkQ (Sem.wk (s1 := ⟨Fr 14 [(0, cdClause.enc x0), p1], []⟩) (Wk.fr kr) ?_)
 let p2 : Option Blk := some ⟨5, 70, [cdClause.enc x0], false⟩
 refine Sem.sq E0_ok [p1, (2, .pt 0 0 0)] [p2] ?_
 refine Sem.seq ?_
 obtain ⟨j3, hj3, h⟩ := Option.bind_eq_some_iff.1 h
 refine Sem.runS (s1 := ⟨Fr 14 [(3, .v (.bool j3))], []⟩) ?_ ?_
 ·refine RunS.segF (n := 14) E0_ok 4 [p1, (2, .pt 0 0 0), (7, .v (.bool (x0.1 == 1)))] [p2] kr ?_
  rcases Bool.eq_false_or_eq_true (x0.1 == 1) with hc4 | hc4
  ·rw [if_pos hc4] at hj3
   rw [hc4]
   refine RunS.segF (n := 14) E0_ok 4 [(7, .v (.bool true)), (9, .sl 1 (x0.2.2.2.1.map cdS.enc)), (11, .st x1.2.1)] [p2] kr ?_
   obtain ⟨v1, hv1, hj3⟩ := Option.bind_eq_some_iff.1 hj3
   refine RunS.callV (caps := []) (xs := [.sl 1 (x0.2.2.2.1.map cdS.enc), .st x1.2.1]) (u := (x0.2.2.2.1, x1.2.1, ())) rfl rfl x_slices_Contains_string_string rfl kr kr kr (Sl.cons (Sm.enc (c := (cdL 1 cdS)) (v := x0.2.2.2.1)) (Sl.cons (Sm.enc (c := cdS) (v := x1.2.1)) Sl.nil)) (.inl kr) hv1 ?_
   refine RunS.segF (n := 14) E0_ok 2 [(3, .v (.bool v1))] [p2] kr ?_
   have hq := Option.some.inj hj3; subst hq
   exact RunS.done rfl (Wk.sel2 [] kr kr kr trivial ⟨lu kr kr, trivial⟩)
  ·rw [if_f hc4] at hj3
   rw [hc4]
   refine RunS.segF (n := 14) E0_ok 7 [(3, .v (.bool false))] [p2] kr ?_
   have hq := Option.some.inj hj3; subst hq
   exact RunS.done rfl (Wk.sel2 [] kr kr kr trivial ⟨lu kr kr, trivial⟩)
 refine Sem.ret ?_
 have hq := Option.some.inj h; subst hq
 exact ⟨⟨Fr 14 [(3, .v (.bool j3))], []⟩, (Wk.fr kr), .inr rfl, [.v (.bool j3)], kr, kr⟩
def t_court_check_2 : List AV → Option AV := told cs_court_check_2 (fun a => court_check_2 a.1 a.2.1) er_court_check_2
theorem x_court_check_2 : XOk 124 t_court_check_2 := by
 refine xok_of_sem Tryz.func124 (c := cb_court_check_2) ?h2 ⟨Tryz.call124⟩ cs_court_check_2 (fun a => court_check_2 a.1 a.2.1) er_court_check_2 (fun a => (by show 2 ≤ 14; decide)) ?h3 ?h4
 case h2 => kernel_rfl
 case h3 => intro b; kernel_rfl
 case h4 => exact fun a b h => court_check_2_sem a.1 a.2.1 b h
/- slices.IndexFunc[[]trestle/api.Clause,trestle/api.Clause] -/
noncomputable def cb_slices_IndexFunc_api_Clause_api_Clause__court_check_2 : Code := codeOf Tryz.f96
def slices_IndexFunc_api_Clause_api_Clause__court_check_2_l1 (x0 : (List Clause)) (x1 : Clause) : Nat → Int → Option ((Unit) ⊕ (Int))
 | 0, _ => none
 | f + 1, c1 =>
  if (decide (c1 < (x0.length : Int))) = true then
  (idx x0 c1).bind fun v3 =>
  (court_check_2 v3 x1).bind fun v4 =>
  if v4 = true then
  some (.inr c1)
  else
  slices_IndexFunc_api_Clause_api_Clause__court_check_2_l1 x0 x1 f (wr .i64 (c1 + 1))
  else
  some (.inl ())
def slices_IndexFunc_api_Clause_api_Clause__court_check_2 (x0 : (List Clause)) (x1 : Clause) : Option (Int) :=
 (slices_IndexFunc_api_Clause_api_Clause__court_check_2_l1 x0 x1 100000 0).bind fun r7 =>
 match r7 with
 | (.inl w8) =>
  some (-1)
 | (.inr w9) =>
  some w9
def cs_slices_IndexFunc_api_Clause_api_Clause__court_check_2 : Cs ((List Clause) × Clause × Unit) := (csC (cdL 5 cdClause) (csC (cdF 124 (csE (cdP cdClause)) (fun _ => rfl)) csN))
def er_slices_IndexFunc_api_Clause_api_Clause__court_check_2 (r : Int) : AV := cdI.enc r
theorem slices_IndexFunc_api_Clause_api_Clause__court_check_2_l1_ok (x0 : (List Clause)) (x1 : Clause) : ∀ (f : Nat) (c1 : Int) (r : (Unit) ⊕ (Int)), slices_IndexFunc_api_Clause_api_Clause__court_check_2_l1 x0 x1 f c1 = some r → SemN E0 ⟨none, false⟩ (pc cb_slices_IndexFunc_api_Clause_api_Clause__court_check_2 [1, 0, 1, 0, 0]) f ⟨Fr 19 [(0, .sl 5 (x0.map cdClause.enc)), (1, .fn 124 [] [.pe (cdClause.enc x1) 0]), (7, .v (.int .i64 (x0.length : Int))), (8, .v (.int .i64 c1))], []⟩ (fun e s => match r with
 | (.inl w) => e = (.exit 0) ∧ Wk E0 s ⟨Fr 19 [], []⟩
 | (.inr w) => e = .ret ∧ Wk E0 s ⟨Fr 19 [(4, .v (.int .i64 w))], []⟩) := by
 intro f
 induction f with
 | zero => intro c1 r h; cases h
 | succ f ih0 =>
  intro c1 r h
  have ih := fun (c1 : Int) => ih0 c1 r
  unfold slices_IndexFunc_api_Clause_api_Clause__court_check_2_l1 at h
  refine SemN.succ ?_
  let p1 : Nat × AV := (8, .v (.int .i64 c1))
  let p2 : Nat × AV := (7, .v (.int .i64 (x0.length : Int)))
  let p3 : Nat × AV := (1, .fn 124 [] [.pe (cdClause.enc x1) 0])
  let p4 : Nat × AV := (0, .sl 5 (x0.map cdClause.enc))
  refine Sem.sq E0_ok [p4, p3, p2, p1, (9, .v (.bool (decide (c1 < (x0.length : Int)))))] [] ?_
  refine Sem.seq ?_
  refine Sem.cond (b := (decide (c1 < (x0.length : Int)))) kr (fun hb2 => ?_) (fun hb2 => ?_)
  ·rw [if_pos hb2] at h
   refine Sem.skip ?_
   refine Sem.seq ?_
   refine Sem.block ?_
   let p5 : Nat × AV := (5, .v (.int .i64 c1))
   refine Sem.sq E0_ok [p4, p3, p5, p2, p1] [] ?_
   refine Sem.seq ?_
   obtain ⟨v3, hv3, h⟩ := Option.bind_eq_some_iff.1 h
   obtain ⟨v4, hv4, h⟩ := Option.bind_eq_some_iff.1 h
   refine Sem.runS (s1 := ⟨Fr 19 [p4, p3, p5, p2, p1, (16, .v (.bool v4))], []⟩) ?_ ?_
   ·let p6 : Nat × AV := (11, .fn 124 [] [.pe (cdClause.enc x1) 0])
    refine RunS.segF (n := 19) E0_ok 3 [p4, p3, p5, p2, p1, p6, (12, .sl 5 (x0.map cdClause.enc)), (13, .v (.int .i64 c1))] [] kr ?_
    refine RunS.one E0_ok 0 rfl (op_q (wantedA_none rfl) rfl (q_indexAddr (a := .sl 5 (x0.map cdClause.enc)) (b := .v (.int .i64 c1)) kr kr (ix_sl (e := cdClause.enc) (el := 70) (k := 5) (ki := .i64) kr kr hv3))) ?_
    refine RunS.segF (n := 19) E0_ok 1 [p4, p3, p5, p2, p1, p6, (15, cdClause.enc v3)] [] kr ?_
    refine RunS.callV (caps := [.pe (cdClause.enc x1) 0]) (xs := [cdClause.enc v3]) (u := (v3, x1, ())) rfl rfl x_court_check_2 rfl (wantedA_none rfl) kr kr (Sl.cons (Sm.enc (c := cdClause) (v := v3)) (Sl.cons (Sm.enc (c := (cdP cdClause)) (v := x1)) Sl.nil)) (.inl kr) hv4 ?_
    exact RunS.done rfl (Wk.fr kr)
   refine Sem.cond (b := v4) kr (fun hb5 => ?_) (fun hb5 => ?_)
   ·rw [if_pos hb5] at h
    refine Sem.sq E0_ok [(4, .v (.int .i64 c1))] [] ?_
    refine Sem.ret ?_
    have hq := Option.some.inj h; subst hq
    exact ⟨rfl, (Wk.fr kr)⟩
   ·rw [if_f hb5] at h
    refine Sem.skip ?_
    let p7 : Nat × AV := (8, .v (.int .i64 (wr .i64 (c1 + 1))))
    refine Sem.rg E0_ok [p4, p3, p2, p7] [] ?_
    exact SemN.wk (s1 := ⟨Fr 19 [p4, p3, p2, p7], []⟩) (Wk.fr kr) (ih (wr .i64 (c1 + 1)) h)
  ·rw [if_f hb2] at h
   refine Sem.exit ?_
   have hq := Option.some.inj h; subst hq
   exact ⟨rfl, (Wk.fr kr)⟩
theorem slices_IndexFunc_api_Clause_api_Clause__court_check_2_sem (x0 : (List Clause)) (x1 : Clause) (r : Int) (h : slices_IndexFunc_api_Clause_api_Clause__court_check_2 x0 x1 = some r) : Sem E0 ⟨none, false⟩ cb_slices_IndexFunc_api_Clause_api_Clause__court_check_2 ⟨Fr 19 (pairs0 0 (cs_slices_IndexFunc_api_Clause_api_Clause__court_check_2.enc (x0, x1, ()))), []⟩ fun e s' => (e = .normal ∨ e = .ret) ∧ ∃ xs, resA E0.P s'.fr s'.hp Tryz.f96.results.toList = some xs ∧ retA xs = er_slices_IndexFunc_api_Clause_api_Clause__court_check_2 r := by
 unfold slices_IndexFunc_api_Clause_api_Clause__court_check_2 at h
 let p1 : Nat × AV := (1, .fn 124 [] [.pe (cdClause.enc x1) 0])
 let p2 : Nat × AV := (0, .sl 5 (x0.map cdClause.enc))
 refine Sem.wkQ (Sem.wk (s1 := ⟨Fr 19 [p2, p1], []⟩) (Wk.fr kr) ?_)
 refine Sem.sq E0_ok [p2, p1] [] ?_
 refine Sem.seq ?_
 refine Sem.seq ?_
 let p3 : Nat × AV := (8, .v (.int .i64 0))
 let p4 : Nat × AV := (7, .v (.int .i64 (x0.length : Int)))
 refine Sem.runS (s1 := ⟨Fr 19 [p2, p1, p4, p3], []⟩) ?_ ?_
 ·refine RunS.segF (n := 19) E0_ok 1 [p2, p1, (6, .sl 5 (x0.map cdClause.enc))] [] kr ?_
  refine RunS.one E0_ok 0 rfl (op_q (wantedA_none rfl) rfl (q_len (a := .sl 5 (x0.map cdClause.enc)) kr (len_sl (el := 70) kr))) ?_
  exact RunS.last E0_ok
 refine Sem.block ?_
 obtain ⟨r7, hr7, h⟩ := Option.bind_eq_some_iff.1 h
 refine Sem.loop (n := 100000) ?_
 rcases r7 with w8 | w9
 ·try dsimp only at h
  refine Sem.cutN (SemN.wk (s1 := ⟨Fr 19 [p2, p1, p4, p3], []⟩) (Wk.fr kr) (slices_IndexFunc_api_Clause_api_Clause__court_check_2_l1_ok x0 x1 _ 0 _ hr7)) ?_
  refine Sem.sq E0_ok [(4, .v (.int .i64 (-1)))] [] ?_
  refine Sem.ret ?_
  have hq := Option.some.inj h; subst hq
  exact ⟨⟨Fr 19 [(4, .v (.int .i64 (-1)))], []⟩, (Wk.fr kr), .inr rfl, [.v (.int .i64 (-1))], kr, kr⟩
 ·try dsimp only at h
  refine Sem.cutN (SemN.wk (s1 := ⟨Fr 19 [p2, p1, p4, p3], []⟩) (Wk.fr kr) (slices_IndexFunc_api_Clause_api_Clause__court_check_2_l1_ok x0 x1 _ 0 _ hr7)) ?_
  have hq := Option.some.inj h; subst hq
  exact ⟨⟨Fr 19 [(4, .v (.int .i64 w9))], []⟩, (Wk.fr kr), .inr rfl, [.v (.int .i64 w9)], kr, kr⟩
def t_slices_IndexFunc_api_Clause_api_Clause__court_check_2 : List AV → Option AV := told cs_slices_IndexFunc_api_Clause_api_Clause__court_check_2 (fun a => slices_IndexFunc_api_Clause_api_Clause__court_check_2 a.1 a.2.1) er_slices_IndexFunc_api_Clause_api_Clause__court_check_2
theorem x_slices_IndexFunc_api_Clause_api_Clause__court_check_2 : XOk 96 t_slices_IndexFunc_api_Clause_api_Clause__court_check_2 := by
 refine xok_of_sem Tryz.func96 (c := cb_slices_IndexFunc_api_Clause_api_Clause__court_check_2) ?h2 ⟨Tryz.call96⟩ cs_slices_IndexFunc_api_Clause_api_Clause__court_check_2 (fun a => slices_IndexFunc_api_Clause_api_Clause__court_check_2 a.1 a.2.1) er_slices_IndexFunc_api_Clause_api_Clause__court_check_2 (fun a => (by show 2 ≤ 19; decide)) ?h3 ?h4
 case h2 => kernel_rfl
 case h3 => intro b; kernel_rfl
 case h4 => exact fun a b h => slices_IndexFunc_api_Clause_api_Clause__court_check_2_sem a.1 a.2.1 b h
/- slices.ContainsFunc[[]trestle/api.Clause,trestle/api.Clause] -/
noncomputable def cb_slices_ContainsFunc_api_Clause_api_Clause__court_check_2 : Code := codeOf Tryz.f47
def slices_ContainsFunc_api_Clause_api_Clause__court_check_2 (x0 : (List Clause)) (x1 : Clause) : Option (Bool) :=
 (slices_IndexFunc_api_Clause_api_Clause__court_check_2 x0 x1).bind fun v1 =>
 some (decide (v1 ≥ 0))
def cs_slices_ContainsFunc_api_Clause_api_Clause__court_check_2 : Cs ((List Clause) × Clause × Unit) := (csC (cdL 5 cdClause) (csC (cdF 124 (csE (cdP cdClause)) (fun _ => rfl)) csN))
def er_slices_ContainsFunc_api_Clause_api_Clause__court_check_2 (r : Bool) : AV := cdB.enc r
theorem slices_ContainsFunc_api_Clause_api_Clause__court_check_2_sem (x0 : (List Clause)) (x1 : Clause) (r : Bool) (h : slices_ContainsFunc_api_Clause_api_Clause__court_check_2 x0 x1 = some r) : Sem E0 ⟨none, false⟩ cb_slices_ContainsFunc_api_Clause_api_Clause__court_check_2 ⟨Fr 9 (pairs0 0 (cs_slices_ContainsFunc_api_Clause_api_Clause__court_check_2.enc (x0, x1, ()))), []⟩ fun e s' => (e = .normal ∨ e = .ret) ∧ ∃ xs, resA E0.P s'.fr s'.hp Tryz.f47.results.toList = some xs ∧ retA xs = er_slices_ContainsFunc_api_Clause_api_Clause__court_check_2 r := by
 unfold slices_ContainsFunc_api_Clause_api_Clause__court_check_2 at h
 let p1 : Nat × AV := (1, .fn 124 [] [.pe (cdClause.enc x1) 0])
 let p2 : Nat × AV := (0, .sl 5 (x0.map cdClause.enc))
 refine Sem.wkQ (Sem.wk (s1 := ⟨Fr 9 [p2, p1], []⟩) (Wk.fr kr) ?_)
 refine Sem.sq E0_ok [p2, p1] [] ?_
 refine Sem.seq ?_
 obtain ⟨v1, hv1, h⟩ := Option.bind_eq_some_iff.1 h
 let p3 : Nat × AV := (4, .v (.bool (decide (v1 ≥ 0))))
 refine Sem.runS (s1 := ⟨Fr 9 [p3], []⟩) ?_ ?_
 ·refine RunS.segF (n := 9) E0_ok 2 [(5, .sl 5 (x0.map cdClause.enc)), (6, .fn 124 [] [.pe (cdClause.enc x1) 0])] [] kr ?_
  refine RunS.callV (caps := []) (xs := [.sl 5 (x0.map cdClause.enc), .fn 124 [] [.pe (cdClause.enc x1) 0]]) (u := (x0, x1, ())) rfl rfl x_slices_IndexFunc_api_Clause_api_Clause__court_check_2 rfl (wantedA_none rfl) kr kr (Sl.cons (Sm.enc (c := (cdL 5 cdClause)) (v := x0)) (Sl.cons (Sm.fn (Sl.last (Sm.enc (c := (cdP cdClause)) (v := x1)))) Sl.nil)) (.inl kr) hv1 ?_
  exact RunS.last E0_ok
 refine Sem.ret ?_
 have hq := Option.some.inj h; subst hq
 exact ⟨⟨Fr 9 [p3], []⟩, (Wk.fr kr), .inr rfl, [.v (.bool (decide (v1 ≥ 0)))], kr, kr⟩
def t_slices_ContainsFunc_api_Clause_api_Clause__court_check_2 : List AV → Option AV := told cs_slices_ContainsFunc_api_Clause_api_Clause__court_check_2 (fun a => slices_ContainsFunc_api_Clause_api_Clause__court_check_2 a.1 a.2.1) er_slices_ContainsFunc_api_Clause_api_Clause__court_check_2
theorem x_slices_ContainsFunc_api_Clause_api_Clause__court_check_2 : XOk 47 t_slices_ContainsFunc_api_Clause_api_Clause__court_check_2 := by
 refine xok_of_sem Tryz.func47 (c := cb_slices_ContainsFunc_api_Clause_api_Clause__court_check_2) ?h2 ⟨Tryz.call47⟩ cs_slices_ContainsFunc_api_Clause_api_Clause__court_check_2 (fun a => slices_ContainsFunc_api_Clause_api_Clause__court_check_2 a.1 a.2.1) er_slices_ContainsFunc_api_Clause_api_Clause__court_check_2 (fun a => (by show 2 ≤ 9; decide)) ?h3 ?h4
 case h2 => kernel_rfl
 case h3 => intro b; kernel_rfl
 case h4 => exact fun a b h => slices_ContainsFunc_api_Clause_api_Clause__court_check_2_sem a.1 a.2.1 b h
/- trestle/court.check -/
noncomputable def cb_court_check : Code := codeOf Tryz.f79
def court_check_l1 (x0 : (List Clause)) (x1 : Clause) : Nat → Int → Option ((Unit) ⊕ (Int))
 | 0, _ => none
 | f + 1, c9 =>
  if (decide (c9 < (x1.2.2.2.1.length : Int))) = true then
  (idx x1.2.2.2.1 c9).bind fun v11 =>
  if (cutOk 0 c9 x1.2.2.2.1.length) = true then
  (slices_Contains_string_string ((x1.2.2.2.1.take c9.toNat).drop (0 : Int).toNat) v11).bind fun v13 =>
  if v13 = true then
  some (.inr 5)
  else
  court_check_l1 x0 x1 f (wr .i64 (c9 + 1))
  else none
  else
  some (.inl ())
def court_check (x0 : (List Clause)) (x1 : Clause) : Option (Int) :=
 (court_formed x1).bind fun v1 =>
 if (!v1) = true then
 some 30
 else
 (if (!(x1.2.1 == [])) = true then (court_name x1.2.1).bind fun v3 =>
 if (!v3) = true then some true else (slices_ContainsFunc_string_string__court_check_1 x1.2.2.2.1).bind fun v4 =>
 some v4 else (slices_ContainsFunc_string_string__court_check_1 x1.2.2.2.1).bind fun v5 =>
 some v5).bind fun j7 =>
 if j7 = true then
 some 4
 else
 (court_check_l1 x0 x1 100000 0).bind fun r16 =>
 match r16 with
 | (.inl w17) =>
  (if (x1.2.1 == []) = true then some true else (slices_ContainsFunc_api_Clause_api_Clause__court_check_2 x0 x1).bind fun v18 =>
  some v18).bind fun j20 =>
  if j20 = true then
  some 0
  else
  some 31
 | (.inr w23) =>
  some w23
def cs_court_check : Cs ((List Clause) × Clause × Unit) := (csC (cdL 5 cdClause) (csC cdClause csN))
def er_court_check (r : Int) : AV := cdI.enc r
theorem court_check_l1_ok (x0 : (List Clause)) (x1 : Clause) : ∀ (f : Nat) (c9 : Int) (r : (Unit) ⊕ (Int)), court_check_l1 x0 x1 f c9 = some r → SemN E0 ⟨none, false⟩ (pc cb_court_check [1, 1, 1, 0, 1, 0, 0]) f ⟨Fr 47 [(0, .sl 5 (x0.map cdClause.enc)), (3, .pt 0 0 0), (25, .sl 1 (x1.2.2.2.1.map cdS.enc)), (26, .v (.int .i64 (x1.2.2.2.1.length : Int))), (27, .v (.int .i64 c9))], [some ⟨5, 70, [cdClause.enc x1], false⟩]⟩ (fun e s => match r with
 | (.inl w) => e = (.exit 0) ∧ Wk E0 s ⟨Fr 47 [(0, .sl 5 (x0.map cdClause.enc)), (3, .pt 0 0 0)], [some ⟨5, 70, [cdClause.enc x1], false⟩]⟩
 | (.inr w) => e = .ret ∧ Wk E0 s ⟨Fr 47 [(4, .v (.int .i64 w))], []⟩) := by
 intro f
 induction f with
 | zero => intro c9 r h; cases h
 | succ f ih0 =>
  intro c9 r h
  have ih := fun (c9 : Int) => ih0 c9 r
  unfold court_check_l1 at h
  refine SemN.succ ?_
  let p1 : Option Blk := some ⟨5, 70, [cdClause.enc x1], false⟩
  let p2 : Nat × AV := (27, .v (.int .i64 c9))
  let p3 : Nat × AV := (26, .v (.int .i64 (x1.2.2.2.1.length : Int)))
  let p4 : Nat × AV := (25, .sl 1 (x1.2.2.2.1.map cdS.enc))
  let p5 : Nat × AV := (3, .pt 0 0 0)
  let p6 : Nat × AV := (0, .sl 5 (x0.map cdClause.enc))
  refine Sem.sq E0_ok [p6, p5, p4, p3, p2, (28, .v (.bool (decide (c9 < (x1.2.2.2.1.length : Int)))))] [p1] ?_
  refine Sem.seq ?_
  refine Sem.cond (b := (decide (c9 < (x1.2.2.2.1.length : Int)))) kr (fun hb10 => ?_) (fun hb10 => ?_)
  ·rw [if_pos hb10] at h
   refine Sem.skip ?_
   refine Sem.seq ?_
   refine Sem.block ?_
   refine Sem.seq ?_
   obtain ⟨v11, hv11, h⟩ := Option.bind_eq_some_iff.1 h
   refine Sem.runS (s1 := ⟨Fr 47 [p6, p5, (5, .v (.int .i64 c9)), (6, .st v11), p4, p3, p2], [p1]⟩) ?_ ?_
   ·refine RunS.segF (n := 47) E0_ok 1 [p6, p5, p4, p3, p2, (29, .v (.int .i64 c9))] [p1] kr ?_
    refine RunS.one E0_ok 0 rfl (op_q (wantedA_none rfl) rfl (q_indexAddr (a := .sl 1 (x1.2.2.2.1.map cdS.enc)) (b := .v (.int .i64 c9)) kr kr (ix_sl (e := cdS.enc) (el := 9) (k := 1) (ki := .i64) kr kr hv11))) ?_
    exact RunS.last E0_ok
   refine Sem.seq ?_
   by_cases hk12 : (cutOk 0 c9 x1.2.2.2.1.length) = true
   case neg => rw [if_neg hk12] at h; cases h
   rw [if_pos hk12] at h
   obtain ⟨v13, hv13, h⟩ := Option.bind_eq_some_iff.1 h
   refine Sem.runS (s1 := ⟨Fr 47 [p6, p5, p4, p3, p2, (37, .v (.bool v13))], [p1]⟩) ?_ ?_
   ·refine RunS.segF (n := 47) E0_ok 3 [p6, p5, (6, .st v11), p4, p3, p2, (33, .sl 1 (x1.2.2.2.1.map cdS.enc)), (34, .v (.int .i64 c9))] [p1] kr ?_
    refine RunS.one E0_ok 0 rfl (op_q (wantedA_none rfl) rfl (q_slice (a := .sl 1 (x1.2.2.2.1.map cdS.enc)) (l := none) (u := (some (.v (.int .i64 c9)))) (m := none) kr kr kr rfl (slice_sl (xs := x1.2.2.2.1) (e := cdS.enc) (k := 1) (el := 9) (lo := 0) (hi := c9) kr kr rfl (natB_i (cut_hi hk12)) hk12))) ?_
    refine RunS.segF (n := 47) E0_ok 1 [p6, p5, p4, p3, p2, (35, .sl 1 (((x1.2.2.2.1.take c9.toNat).drop (0 : Int).toNat).map cdS.enc)), (36, .st v11)] [p1] kr ?_
    refine RunS.callV (caps := []) (xs := [.sl 1 (((x1.2.2.2.1.take c9.toNat).drop (0 : Int).toNat).map cdS.enc), .st v11]) (u := (((x1.2.2.2.1.take c9.toNat).drop (0 : Int).toNat), v11, ())) rfl rfl x_slices_Contains_string_string rfl (wantedA_none rfl) kr kr (Sl.cons (Sm.enc (c := (cdL 1 cdS)) (v := ((x1.2.2.2.1.take c9.toNat).drop (0 : Int).toNat))) (Sl.cons (Sm.enc (c := cdS) (v := v11)) Sl.nil)) (.inl kr) hv13 ?_
    exact RunS.done rfl (Wk.sel2 [0] kr kr kr ⟨⟨_, rfl, bu_c kr kr⟩, trivial⟩ ⟨lu kr kr, lu kr kr, lu kr kr, lu kr kr, lu kr kr, lu kr kr, trivial⟩)
   refine Sem.cond (b := v13) kr (fun hb14 => ?_) (fun hb14 => ?_)
   ·rw [if_pos hb14] at h
    refine Sem.seq ?_
    refine Sem.runS (s1 := ⟨Fr 47 [(4, .v (.int .i64 5))], []⟩) ?_ ?_
    ·refine RunS.segF (n := 47) E0_ok 1 [(4, .v (.int .i64 5))] [p1] kr ?_
     exact RunS.done rfl (Wk.sel2 [] kr kr kr trivial ⟨lu kr kr, trivial⟩)
    refine Sem.ret ?_
    have hq := Option.some.inj h; subst hq
    exact ⟨rfl, (Wk.fr kr)⟩
   ·rw [if_f hb14] at h
    refine Sem.skip ?_
    let p7 : Nat × AV := (27, .v (.int .i64 (wr .i64 (c9 + 1))))
    refine Sem.rg E0_ok [p6, p5, p4, p3, p7] [p1] ?_
    exact SemN.wk (s1 := ⟨Fr 47 [p6, p5, p4, p3, p7], [p1]⟩) (Wk.sel2 [0] kr kr kr ⟨⟨_, rfl, bu_c kr kr⟩, trivial⟩ ⟨lu kr kr, lu kr kr, lu kr kr, lu kr kr, lu kr kr, trivial⟩) (ih (wr .i64 (c9 + 1)) h)
  ·rw [if_f hb10] at h
   refine Sem.exit ?_
   have hq := Option.some.inj h; subst hq
   exact ⟨rfl, (Wk.sel2 [0] kr kr kr ⟨⟨_, rfl, bu_c kr kr⟩, trivial⟩ ⟨lu kr kr, lu kr kr, trivial⟩)⟩
theorem court_check_sem (x0 : (List Clause)) (x1 : Clause) (r : Int) (h : court_check x0 x1 = some r) : Sem E0 ⟨none, false⟩ cb_court_check ⟨Fr 47 (pairs0 0 (cs_court_check.enc (x0, x1, ()))), []⟩ fun e s' => (e = .normal ∨ e = .ret) ∧ ∃ xs, resA E0.P s'.fr s'.hp Tryz.f79.results.toList = some xs ∧ retA xs = er_court_check r := by
 unfold court_check at h
 let p1 : Nat × AV := (0, .sl 5 (x0.map cdClause.enc))
 refine Sem.wkQ (Sem.wk (s1 := ⟨Fr 47 [p1, (1, cdClause.enc x1)], []⟩) (Wk.fr kr) ?_)
 let p2 : Option Blk := some ⟨5, 70, [cdClause.enc x1], false⟩
 let p3 : Nat × AV := (3, .pt 0 0 0)
 refine Sem.sq E0_ok [p1, p3] [p2] ?_
 refine Sem.seq ?_
 refine Sem.seq ?_
 obtain ⟨v1, hv1, h⟩ := Option.bind_eq_some_iff.1 h
 refine Sem.runS (s1 := ⟨Fr 47 [p1, p3, (9, .v (.bool (!v1)))], [p2]⟩) ?_ ?_
 ·refine RunS.segF (n := 47) E0_ok 1 [p1, p3, (7, cdClause.enc x1)] [p2] kr ?_
  refine RunS.callV (caps := []) (xs := [cdClause.enc x1]) (u := (x1, ())) rfl rfl x_court_formed rfl (wantedA_none rfl) kr kr (Sl.cons (Sm.enc (c := cdClause) (v := x1)) Sl.nil) (.inl kr) hv1 ?_
  exact RunS.last E0_ok
 refine Sem.cond (b := (!v1)) kr (fun hb2 => ?_) (fun hb2 => ?_)
 ·rw [if_pos hb2] at h
  refine Sem.seq ?_
  let p4 : Nat × AV := (4, .v (.int .i64 30))
  refine Sem.runS (s1 := ⟨Fr 47 [p4], []⟩) ?_ ?_
  ·refine RunS.segF (n := 47) E0_ok 1 [p4] [p2] kr ?_
   exact RunS.done rfl (Wk.sel2 [] kr kr kr trivial ⟨lu kr kr, trivial⟩)
  refine Sem.ret ?_
  have hq := Option.some.inj h; subst hq
  exact ⟨⟨Fr 47 [p4], []⟩, (Wk.fr kr), .inr rfl, [.v (.int .i64 30)], kr, kr⟩
 ·rw [if_f hb2] at h
  refine Sem.skip ?_
  refine Sem.seq ?_
  refine Sem.seq ?_
  obtain ⟨j7, hj7, h⟩ := Option.bind_eq_some_iff.1 h
  refine Sem.runS (s1 := ⟨Fr 47 [p1, p3, (23, .v (.bool j7))], [p2]⟩) ?_ ?_
  ·refine RunS.segF (n := 47) E0_ok 4 [p1, p3, (13, .v (.bool (!(x1.2.1 == []))))] [p2] kr ?_
   rcases Bool.eq_false_or_eq_true (!(x1.2.1 == [])) with hc24 | hc24
   ·rw [if_pos hc24] at hj7
    rw [hc24]
    refine RunS.segF (n := 47) E0_ok 2 [p1, p3, (13, .v (.bool true)), (15, .st x1.2.1)] [p2] kr ?_
    obtain ⟨v3, hv3, hj7⟩ := Option.bind_eq_some_iff.1 hj7
    refine RunS.callV (caps := []) (xs := [.st x1.2.1]) (u := (x1.2.1, ())) rfl rfl x_court_name rfl kr kr kr (Sl.cons (Sm.enc (c := cdS) (v := x1.2.1)) Sl.nil) (.inl kr) hv3 ?_
    refine RunS.segF (n := 47) E0_ok 3 [p1, p3, (19, .v (.bool (!v3)))] [p2] kr ?_
    rcases Bool.eq_false_or_eq_true (!v3) with hc25 | hc25
    ·rw [if_pos hc25] at hj7
     rw [hc25]
     refine RunS.segF (n := 47) E0_ok 4 [p1, p3, (23, .v (.bool true))] [p2] kr ?_
     have hq := Option.some.inj hj7; subst hq
     exact RunS.done rfl (Wk.sel2 [0] kr kr kr ⟨⟨_, rfl, bu_c kr kr⟩, trivial⟩ ⟨lu kr kr, lu kr kr, lu kr kr, trivial⟩)
    ·rw [if_f hc25] at hj7
     rw [hc25]
     refine RunS.segF (n := 47) E0_ok 2 [p1, p3, (19, .v (.bool false)), (21, .sl 1 (x1.2.2.2.1.map cdS.enc))] [p2] kr ?_
     obtain ⟨v4, hv4, hj7⟩ := Option.bind_eq_some_iff.1 hj7
     refine RunS.callV (caps := []) (xs := [.sl 1 (x1.2.2.2.1.map cdS.enc), .fn 122 [] []]) (u := (x1.2.2.2.1, (), ())) rfl rfl x_slices_ContainsFunc_string_string__court_check_1 rfl kr kr kr (Sl.cons (Sm.enc (c := (cdL 1 cdS)) (v := x1.2.2.2.1)) (Sl.cons (Sm.fn Sl.nil) Sl.nil)) (.inl kr) hv4 ?_
     refine RunS.segF (n := 47) E0_ok 1 [p1, p3, (23, .v (.bool v4))] [p2] kr ?_
     have hq := Option.some.inj hj7; subst hq
     exact RunS.done rfl (Wk.sel2 [0] kr kr kr ⟨⟨_, rfl, bu_c kr kr⟩, trivial⟩ ⟨lu kr kr, lu kr kr, lu kr kr, trivial⟩)
   ·rw [if_f hc24] at hj7
    rw [hc24]
    refine RunS.segF (n := 47) E0_ok 8 [p1, p3, (19, .v (.bool false)), (21, .sl 1 (x1.2.2.2.1.map cdS.enc))] [p2] kr ?_
    obtain ⟨v5, hv5, hj7⟩ := Option.bind_eq_some_iff.1 hj7
    refine RunS.callV (caps := []) (xs := [.sl 1 (x1.2.2.2.1.map cdS.enc), .fn 122 [] []]) (u := (x1.2.2.2.1, (), ())) rfl rfl x_slices_ContainsFunc_string_string__court_check_1 rfl kr kr kr (Sl.cons (Sm.enc (c := (cdL 1 cdS)) (v := x1.2.2.2.1)) (Sl.cons (Sm.fn Sl.nil) Sl.nil)) (.inl kr) hv5 ?_
    refine RunS.segF (n := 47) E0_ok 1 [p1, p3, (23, .v (.bool v5))] [p2] kr ?_
    have hq := Option.some.inj hj7; subst hq
    exact RunS.done rfl (Wk.sel2 [0] kr kr kr ⟨⟨_, rfl, bu_c kr kr⟩, trivial⟩ ⟨lu kr kr, lu kr kr, lu kr kr, trivial⟩)
  refine Sem.cond (b := j7) kr (fun hb8 => ?_) (fun hb8 => ?_)
  ·rw [if_pos hb8] at h
   refine Sem.seq ?_
   let p5 : Nat × AV := (4, .v (.int .i64 4))
   refine Sem.runS (s1 := ⟨Fr 47 [p5], []⟩) ?_ ?_
   ·refine RunS.segF (n := 47) E0_ok 1 [p5] [p2] kr ?_
    exact RunS.done rfl (Wk.sel2 [] kr kr kr trivial ⟨lu kr kr, trivial⟩)
   refine Sem.ret ?_
   have hq := Option.some.inj h; subst hq
   exact ⟨⟨Fr 47 [p5], []⟩, (Wk.fr kr), .inr rfl, [.v (.int .i64 4)], kr, kr⟩
  ·rw [if_f hb8] at h
   refine Sem.skip ?_
   refine Sem.seq ?_
   refine Sem.seq ?_
   let p6 : Nat × AV := (27, .v (.int .i64 0))
   let p7 : Nat × AV := (26, .v (.int .i64 (x1.2.2.2.1.length : Int)))
   let p8 : Nat × AV := (25, .sl 1 (x1.2.2.2.1.map cdS.enc))
   refine Sem.runS (s1 := ⟨Fr 47 [p1, p3, p8, p7, p6], [p2]⟩) ?_ ?_
   ·refine RunS.segF (n := 47) E0_ok 2 [p1, p3, p8] [p2] kr ?_
    refine RunS.one E0_ok 0 rfl (op_q (wantedA_none rfl) rfl (q_len (a := .sl 1 (x1.2.2.2.1.map cdS.enc)) kr (len_sl (el := 9) kr))) ?_
    exact RunS.last E0_ok
   refine Sem.block ?_
   obtain ⟨r16, hr16, h⟩ := Option.bind_eq_some_iff.1 h
   refine Sem.loop (n := 100000) ?_
   rcases r16 with w17 | w23
   ·try dsimp only at h
    refine Sem.cutN (SemN.wk (s1 := ⟨Fr 47 [p1, p3, p8, p7, p6], [p2]⟩) (Wk.sel2 [0] kr kr kr ⟨⟨_, rfl, bu_c kr kr⟩, trivial⟩ ⟨lu kr kr, lu kr kr, lu kr kr, lu kr kr, lu kr kr, trivial⟩) (court_check_l1_ok x0 x1 _ 0 _ hr16)) ?_
    refine Sem.seq ?_
    refine Sem.seq ?_
    obtain ⟨j20, hj20, h⟩ := Option.bind_eq_some_iff.1 h
    refine Sem.runS (s1 := ⟨Fr 47 [(46, .v (.bool j20))], []⟩) ?_ ?_
    ·refine RunS.segF (n := 47) E0_ok 4 [p1, p3, (42, .v (.bool (x1.2.1 == [])))] [p2] kr ?_
     rcases Bool.eq_false_or_eq_true (x1.2.1 == []) with hc22 | hc22
     ·rw [if_pos hc22] at hj20
      rw [hc22]
      refine RunS.segF (n := 47) E0_ok 4 [(46, .v (.bool true))] [p2] kr ?_
      have hq := Option.some.inj hj20; subst hq
      exact RunS.done rfl (Wk.sel2 [] kr kr kr trivial ⟨lu kr kr, trivial⟩)
     ·rw [if_f hc22] at hj20
      rw [hc22]
      refine RunS.segF (n := 47) E0_ok 2 [(42, .v (.bool false)), (43, .sl 5 (x0.map cdClause.enc)), (44, .fn 124 [] [.pt 0 0 0])] [p2] kr ?_
      obtain ⟨v18, hv18, hj20⟩ := Option.bind_eq_some_iff.1 hj20
      refine RunS.callV (caps := []) (xs := [.sl 5 (x0.map cdClause.enc), .fn 124 [] [.pt 0 0 0]]) (u := (x0, x1, ())) rfl rfl x_slices_ContainsFunc_api_Clause_api_Clause__court_check_2 rfl kr kr kr (Sl.cons (Sm.enc (c := (cdL 5 cdClause)) (v := x0)) (Sl.cons (Sm.fn (Sl.last (Sm.pt (k := 5) (t := 70) (fz := false) (y := (cdClause.enc x1)) kr (Sm.enc (c := cdClause) (v := x1))))) Sl.nil)) (.inl kr) hv18 ?_
      refine RunS.segF (n := 47) E0_ok 1 [(46, .v (.bool v18))] [p2] kr ?_
      have hq := Option.some.inj hj20; subst hq
      exact RunS.done rfl (Wk.sel2 [] kr kr kr trivial ⟨lu kr kr, trivial⟩)
    refine Sem.cond (b := j20) kr (fun hb21 => ?_) (fun hb21 => ?_)
    ·rw [if_pos hb21] at h
     refine Sem.sq E0_ok [(4, .v (.int .i64 0))] [] ?_
     refine Sem.ret ?_
     have hq := Option.some.inj h; subst hq
     exact ⟨⟨Fr 47 [(4, .v (.int .i64 0))], []⟩, (Wk.fr kr), .inr rfl, [.v (.int .i64 0)], kr, kr⟩
    ·rw [if_f hb21] at h
     refine Sem.skip ?_
     refine Sem.sq E0_ok [(4, .v (.int .i64 31))] [] ?_
     refine Sem.ret ?_
     have hq := Option.some.inj h; subst hq
     exact ⟨⟨Fr 47 [(4, .v (.int .i64 31))], []⟩, (Wk.fr kr), .inr rfl, [.v (.int .i64 31)], kr, kr⟩
   ·try dsimp only at h
    refine Sem.cutN (SemN.wk (s1 := ⟨Fr 47 [p1, p3, p8, p7, p6], [p2]⟩) (Wk.sel2 [0] kr kr kr ⟨⟨_, rfl, bu_c kr kr⟩, trivial⟩ ⟨lu kr kr, lu kr kr, lu kr kr, lu kr kr, lu kr kr, trivial⟩) (court_check_l1_ok x0 x1 _ 0 _ hr16)) ?_
    have hq := Option.some.inj h; subst hq
    exact ⟨⟨Fr 47 [(4, .v (.int .i64 w23))], []⟩, (Wk.fr kr), .inr rfl, [.v (.int .i64 w23)], kr, kr⟩
def t_court_check : List AV → Option AV := told cs_court_check (fun a => court_check a.1 a.2.1) er_court_check
theorem x_court_check : XOk 79 t_court_check := by
 refine xok_of_sem Tryz.func79 (c := cb_court_check) ?h2 ⟨Tryz.call79⟩ cs_court_check (fun a => court_check a.1 a.2.1) er_court_check (fun a => (by show 2 ≤ 47; decide)) ?h3 ?h4
 case h2 => kernel_rfl
 case h3 => intro b; kernel_rfl
 case h4 => exact fun a b h => court_check_sem a.1 a.2.1 b h
/- trestle/court.Check -/
noncomputable def cb_court_Check : Code := codeOf Tryz.f52
def court_Check_l1 (x0 : (List Clause)) : Nat → Int → Option ((Unit) ⊕ (Int × Int))
 | 0, _ => none
 | f + 1, c2 =>
  if (decide (c2 < (x0.length : Int))) = true then
  (idx x0 c2).bind fun v4 =>
  if (cutOk 0 c2 x0.length) = true then
  (court_check ((x0.take c2.toNat).drop (0 : Int).toNat) v4).bind fun v6 =>
  if (v6 != 0) = true then
  some (.inr (c2, v6))
  else
  court_Check_l1 x0 f (wr .i64 (c2 + 1))
  else none
  else
  some (.inl ())
def court_Check (x0 : (List Clause)) : Option (Int × Int) :=
 if (decide ((x0.length : Int) > 32)) = true then
 some (0, 7)
 else
 (court_Check_l1 x0 100000 0).bind fun r10 =>
 match r10 with
 | (.inl w11) =>
  some (0, 0)
 | (.inr w12) =>
  some (w12.1, w12.2)
def cs_court_Check : Cs ((List Clause) × Unit) := (csC (cdL 5 cdClause) csN)
def er_court_Check (r : Int × Int) : AV := .tp [cdI.enc r.1, cdI.enc r.2]
theorem court_Check_l1_ok (x0 : (List Clause)) : ∀ (f : Nat) (c2 : Int) (r : (Unit) ⊕ (Int × Int)), court_Check_l1 x0 f c2 = some r → SemN E0 ⟨none, false⟩ (pc cb_court_Check [1, 1, 0, 1, 0, 0]) f ⟨Fr 27 [(0, .sl 5 (x0.map cdClause.enc)), (10, .sl 5 (x0.map cdClause.enc)), (11, .v (.int .i64 (x0.length : Int))), (12, .v (.int .i64 c2))], []⟩ (fun e s => match r with
 | (.inl w) => e = (.exit 0) ∧ Wk E0 s ⟨Fr 27 [], []⟩
 | (.inr w) => e = .ret ∧ Wk E0 s ⟨Fr 27 [(2, .v (.int .i64 w.1)), (3, .v (.int .i64 w.2))], []⟩) := by
 intro f
 induction f with
 | zero => intro c2 r h; cases h
 | succ f ih0 =>
  intro c2 r h
  have ih := fun (c2 : Int) => ih0 c2 r
  unfold court_Check_l1 at h
  refine SemN.succ ?_
  let p1 : Nat × AV := (12, .v (.int .i64 c2))
  let p2 : Nat × AV := (11, .v (.int .i64 (x0.length : Int)))
  let p3 : Nat × AV := (10, .sl 5 (x0.map cdClause.enc))
  let p4 : Nat × AV := (0, .sl 5 (x0.map cdClause.enc))
  refine Sem.sq E0_ok [p4, p3, p2, p1, (13, .v (.bool (decide (c2 < (x0.length : Int)))))] [] ?_
  refine Sem.seq ?_
  refine Sem.cond (b := (decide (c2 < (x0.length : Int)))) kr (fun hb3 => ?_) (fun hb3 => ?_)
  ·rw [if_pos hb3] at h
   refine Sem.skip ?_
   refine Sem.seq ?_
   refine Sem.block ?_
   refine Sem.seq ?_
   obtain ⟨v4, hv4, h⟩ := Option.bind_eq_some_iff.1 h
   let p5 : Option Blk := some ⟨5, 70, [cdClause.enc v4], false⟩
   let p6 : Nat × AV := (4, .v (.int .i64 c2))
   refine Sem.runS (s1 := ⟨Fr 27 [p4, p6, (5, .pt 0 0 0), p3, p2, p1], [p5]⟩) ?_ ?_
   ·refine RunS.segF (n := 27) E0_ok 1 [p4, p3, p2, p1, (14, .v (.int .i64 c2))] [] kr ?_
    refine RunS.one E0_ok 0 rfl (op_q (wantedA_none rfl) rfl (q_indexAddr (a := .sl 5 (x0.map cdClause.enc)) (b := .v (.int .i64 c2)) kr kr (ix_sl (e := cdClause.enc) (el := 70) (k := 5) (ki := .i64) kr kr hv4))) ?_
    exact RunS.last E0_ok
   refine Sem.seq ?_
   by_cases hk5 : (cutOk 0 c2 x0.length) = true
   case neg => rw [if_neg hk5] at h; cases h
   rw [if_pos hk5] at h
   obtain ⟨v6, hv6, h⟩ := Option.bind_eq_some_iff.1 h
   let p7 : Nat × AV := (6, .v (.int .i64 v6))
   refine Sem.runDS E0_ok (s1 := ⟨Fr 27 [p4, p6, p7, p3, p2, p1], []⟩) kr ?_ ?_
   ·refine RunDS.segF (n := 27) E0_ok 2 [p4, p6, (5, .pt 0 0 0), p3, p2, p1, (17, .sl 5 (x0.map cdClause.enc)), (18, .v (.int .i64 c2))] [p5] kr kr ?_
    refine RunDS.one E0_ok rfl kr (opd_q kr (wantedA_none rfl) rfl (q_slice (a := .sl 5 (x0.map cdClause.enc)) (l := none) (u := (some (.v (.int .i64 c2)))) (m := none) kr kr kr rfl (slice_sl (xs := x0) (e := cdClause.enc) (k := 5) (el := 70) (lo := 0) (hi := c2) kr kr rfl (natB_i (cut_hi hk5)) hk5)) kr) ?_
    refine RunDS.segF (n := 27) E0_ok 1 [p4, p6, p3, p2, p1, (19, .sl 5 (((x0.take c2.toNat).drop (0 : Int).toNat).map cdClause.enc)), (20, cdClause.enc v4)] [p5] kr kr ?_
    refine RunDS.callV (caps := []) (xs := [.sl 5 (((x0.take c2.toNat).drop (0 : Int).toNat).map cdClause.enc), cdClause.enc v4]) (u := (((x0.take c2.toNat).drop (0 : Int).toNat), v4, ())) rfl rfl x_court_check rfl (wantedA_none rfl) kr kr (Sl.cons (Sm.enc (c := (cdL 5 cdClause)) (v := ((x0.take c2.toNat).drop (0 : Int).toNat))) (Sl.cons (Sm.enc (c := cdClause) (v := v4)) Sl.nil)) kr hv6 ?_
    refine RunDS.segF (n := 27) E0_ok 1 [p4, p6, p7, p3, p2, p1] [p5] kr kr ?_
    exact RunDS.done rfl (Wk.sel2 [] kr kr kr trivial ⟨lu kr kr, lu kr kr, lu kr kr, lu kr kr, lu kr kr, lu kr kr, trivial⟩)
   refine Sem.sq E0_ok [p4, p6, p7, p3, p2, p1, (23, .v (.bool (v6 != 0)))] [] ?_
   refine Sem.cond (b := (v6 != 0)) kr (fun hb7 => ?_) (fun hb7 => ?_)
   ·rw [if_pos hb7] at h
    refine Sem.sq E0_ok [(2, .v (.int .i64 c2)), (3, .v (.int .i64 v6))] [] ?_
    refine Sem.ret ?_
    have hq := Option.some.inj h; subst hq
    exact ⟨rfl, (Wk.fr kr)⟩
   ·rw [if_f hb7] at h
    refine Sem.skip ?_
    let p8 : Nat × AV := (12, .v (.int .i64 (wr .i64 (c2 + 1))))
    refine Sem.rg E0_ok [p4, p3, p2, p8] [] ?_
    exact SemN.wk (s1 := ⟨Fr 27 [p4, p3, p2, p8], []⟩) (Wk.fr kr) (ih (wr .i64 (c2 + 1)) h)
  ·rw [if_f hb3] at h
   refine Sem.exit ?_
   have hq := Option.some.inj h; subst hq
   exact ⟨rfl, (Wk.fr kr)⟩
theorem court_Check_sem (x0 : (List Clause)) (r : Int × Int) (h : court_Check x0 = some r) : Sem E0 ⟨none, false⟩ cb_court_Check ⟨Fr 27 (pairs0 0 (cs_court_Check.enc (x0, ()))), []⟩ fun e s' => (e = .normal ∨ e = .ret) ∧ ∃ xs, resA E0.P s'.fr s'.hp Tryz.f52.results.toList = some xs ∧ retA xs = er_court_Check r := by
 unfold court_Check at h
 let p1 : Nat × AV := (0, .sl 5 (x0.map cdClause.enc))
 refine Sem.wkQ (Sem.wk (s1 := ⟨Fr 27 [p1], []⟩) (Wk.fr kr) ?_)
 refine Sem.sq E0_ok [p1] [] ?_
 refine Sem.seq ?_
 refine Sem.seq ?_
 refine Sem.runS (s1 := ⟨Fr 27 [p1, (9, .v (.bool (decide ((x0.length : Int) > 32))))], []⟩) ?_ ?_
 ·refine RunS.segF (n := 27) E0_ok 1 [p1, (7, .sl 5 (x0.map cdClause.enc))] [] kr ?_
  refine RunS.one E0_ok 0 rfl (op_q (wantedA_none rfl) rfl (q_len (a := .sl 5 (x0.map cdClause.enc)) kr (len_sl (el := 70) kr))) ?_
  exact RunS.last E0_ok
 refine Sem.cond (b := (decide ((x0.length : Int) > 32))) kr (fun hb1 => ?_) (fun hb1 => ?_)
 ·rw [if_pos hb1] at h
  refine Sem.sq E0_ok [(2, .v (.int .i64 0)), (3, .v (.int .i64 7))] [] ?_
  refine Sem.ret ?_
  have hq := Option.some.inj h; subst hq
  exact ⟨⟨Fr 27 [(2, .v (.int .i64 0)), (3, .v (.int .i64 7))], []⟩, (Wk.fr kr), .inr rfl, [.v (.int .i64 0), .v (.int .i64 7)], kr, kr⟩
 ·rw [if_f hb1] at h
  refine Sem.skip ?_
  refine Sem.seq ?_
  refine Sem.seq ?_
  let p2 : Nat × AV := (12, .v (.int .i64 0))
  let p3 : Nat × AV := (11, .v (.int .i64 (x0.length : Int)))
  let p4 : Nat × AV := (10, .sl 5 (x0.map cdClause.enc))
  refine Sem.runS (s1 := ⟨Fr 27 [p1, p4, p3, p2], []⟩) ?_ ?_
  ·refine RunS.segF (n := 27) E0_ok 1 [p1, p4] [] kr ?_
   refine RunS.one E0_ok 0 rfl (op_q (wantedA_none rfl) rfl (q_len (a := .sl 5 (x0.map cdClause.enc)) kr (len_sl (el := 70) kr))) ?_
   exact RunS.last E0_ok
  refine Sem.block ?_
  obtain ⟨r10, hr10, h⟩ := Option.bind_eq_some_iff.1 h
  refine Sem.loop (n := 100000) ?_
  rcases r10 with w11 | w12
  ·try dsimp only at h
   refine Sem.cutN (SemN.wk (s1 := ⟨Fr 27 [p1, p4, p3, p2], []⟩) (Wk.fr kr) (court_Check_l1_ok x0 _ 0 _ hr10)) ?_
   refine Sem.sq E0_ok [(2, .v (.int .i64 0)), (3, .v (.int .i64 0))] [] ?_
   refine Sem.ret ?_
   have hq := Option.some.inj h; subst hq
   exact ⟨⟨Fr 27 [(2, .v (.int .i64 0)), (3, .v (.int .i64 0))], []⟩, (Wk.fr kr), .inr rfl, [.v (.int .i64 0), .v (.int .i64 0)], kr, kr⟩
  ·try dsimp only at h
   refine Sem.cutN (SemN.wk (s1 := ⟨Fr 27 [p1, p4, p3, p2], []⟩) (Wk.fr kr) (court_Check_l1_ok x0 _ 0 _ hr10)) ?_
   have hq := Option.some.inj h; subst hq
   exact ⟨⟨Fr 27 [(2, .v (.int .i64 w12.1)), (3, .v (.int .i64 w12.2))], []⟩, (Wk.fr kr), .inr rfl, [.v (.int .i64 w12.1), .v (.int .i64 w12.2)], kr, kr⟩
def t_court_Check : List AV → Option AV := told cs_court_Check (fun a => court_Check a.1) er_court_Check
theorem x_court_Check : XOk 52 t_court_Check := by
 refine xok_of_sem Tryz.func52 (c := cb_court_Check) ?h2 ⟨Tryz.call52⟩ cs_court_Check (fun a => court_Check a.1) er_court_Check (fun a => (by show 1 ≤ 27; decide)) ?h3 ?h4
 case h2 => kernel_rfl
 case h3 => intro b; kernel_rfl
 case h4 => exact fun a b h => court_Check_sem a.1 b h
/- trestle/court.orders -/
noncomputable def cb_court_orders : Code := codeOf Tryz.f89
def court_orders_l1 (x0 : (List Clause)) : Nat → (List Clause) → Int → Option (((List Clause)))
 | 0, _, _ => none
 | f + 1, c3, c4 =>
  if (decide (c4 < (x0.length : Int))) = true then
  (idx x0 c4).bind fun v6 =>
  (court_orderOf v6).bind fun v7 =>
  if (capOk 8 (c3.length + 1)) = true then
  court_orders_l1 x0 f (c3 ++ [v7]) (wr .i64 (c4 + 1))
  else none
  else
  some c3
def court_orders (x0 : (List Clause)) : Option ((List Clause) × Bool) :=
 (court_Check x0).bind fun v1 =>
 if (v1.2 != 0) = true then
 some ([], false)
 else
 (court_orders_l1 x0 100000 [] 0).bind fun r10 =>
 some (r10, true)
noncomputable def cs_court_orders : Cs ((List Clause) × Unit) := (csC (cdL 5 cdClause) csN)
noncomputable def er_court_orders (r : (List Clause) × Bool) : AV := .tp [(cdL 1 cdOrd).enc r.1, cdB.enc r.2]
theorem court_orders_l1_ok (x0 : (List Clause)) : ∀ (f : Nat) (c3 : (List Clause)) (c4 : Int) (r : ((List Clause))), court_orders_l1 x0 f c3 c4 = some r → SemN E0 ⟨none, false⟩ (pc cb_court_orders [1, 1, 1, 0, 1, 0, 0]) f ⟨Fr 29 [(6, hd 0 (c3.map cdOrd.enc)), (16, .sl 5 (x0.map cdClause.enc)), (17, .v (.int .i64 (x0.length : Int))), (18, .v (.int .i64 c4))], [mk 1 133 (c3.map cdOrd.enc)]⟩ (fun e s => e = (.exit 0) ∧ Wk E0 s ⟨Fr 29 [(6, hd 0 (r.map cdOrd.enc))], [mk 1 133 (r.map cdOrd.enc)]⟩) := by
 intro f
 induction f with
 | zero => intro c3 c4 r h; cases h
 | succ f ih0 =>
  intro c3 c4 r h
  have ih := fun (c3 : (List Clause)) (c4 : Int) => ih0 c3 c4 r
  unfold court_orders_l1 at h
  refine SemN.succ ?_
  let p1 : Option Blk := mk 1 133 (c3.map cdOrd.enc)
  let p2 : Nat × AV := (18, .v (.int .i64 c4))
  let p3 : Nat × AV := (17, .v (.int .i64 (x0.length : Int)))
  let p4 : Nat × AV := (16, .sl 5 (x0.map cdClause.enc))
  refine Sem.sq E0_ok [(6, hd 0 (c3.map cdOrd.enc)), p4, p3, p2, (19, .v (.bool (decide (c4 < (x0.length : Int)))))] [p1] ?_
  refine Sem.seq ?_
  refine Sem.cond (b := (decide (c4 < (x0.length : Int)))) kr (fun hb5 => ?_) (fun hb5 => ?_)
  ·rw [if_pos hb5] at h
   refine Sem.skip ?_
   refine Sem.seq ?_
   refine Sem.block ?_
   refine Sem.seq ?_
   obtain ⟨v6, hv6, h⟩ := Option.bind_eq_some_iff.1 h
   let p5 : Option Blk := some ⟨5, 70, [cdClause.enc v6], false⟩
   refine Sem.runS (s1 := ⟨Fr 29 [(6, hd 0 (c3.map cdOrd.enc)), (8, .pt 1 0 0), p4, p3, p2], [p1, p5]⟩) ?_ ?_
   ·refine RunS.one E0_ok 0 rfl (op_q (wantedA_none rfl) rfl (q_indexAddr (a := .sl 5 (x0.map cdClause.enc)) (b := .v (.int .i64 c4)) kr kr (ix_sl (e := cdClause.enc) (el := 70) (k := 5) (ki := .i64) kr kr hv6))) ?_
    exact RunS.last E0_ok
   obtain ⟨v7, hv7, h⟩ := Option.bind_eq_some_iff.1 h
   by_cases hk8 : (capOk 8 (c3.length + 1)) = true
   case neg => rw [if_neg hk8] at h; cases h
   rw [if_pos hk8] at h
   let p6 : Option Blk := mk 1 133 ((c3 ++ [v7]).map cdOrd.enc)
   let p7 : Nat × AV := (6, hd 0 ((c3 ++ [v7]).map cdOrd.enc))
   refine Sem.runS (s1 := ⟨Fr 29 [p7, p4, p3, p2], [p6]⟩) ?_ ?_
   ·refine RunS.segF (n := 29) E0_ok 2 [p4, p3, p2, (22, hd 0 (c3.map cdOrd.enc)), (23, cdClause.enc v6)] [p1, p5] kr ?_
    refine RunS.callV (caps := []) (xs := [cdClause.enc v6]) (u := (v6, ())) rfl rfl x_court_orderOf rfl (wantedA_none rfl) kr kr (Sl.cons (Sm.enc (c := cdClause) (v := v6)) Sl.nil) (.inr kr) hv7 ?_
    refine RunS.segF (n := 29) E0_ok 1 [p4, p3, p2, (22, hd 0 (c3.map cdOrd.enc)), (25, hd 2 ([v7].map cdOrd.enc))] [p1, p5, mk 1 133 ([v7].map cdOrd.enc)] kr ?_
    refine RunS.one E0_ok 0 rfl (op_w (wantedA_none rfl) rfl kr kr (w_append (a := hd 0 (c3.map cdOrd.enc)) (b := hd 2 ([v7].map cdOrd.enc)) kr kr (append_B (c := cdOrd) (xs := c3) (vs := [v7]) (k := 1) (bytes := 8) (el := 133) kr kr (elems_hd (t := 133) kr) (List.cons_ne_nil _ _) kr hk8))) ?_
    refine RunS.segF (n := 29) E0_ok 1 [(6, hd 3 ((c3 ++ [v7]).map cdOrd.enc)), p4, p3, p2] [none, p5, mk 1 133 ([v7].map cdOrd.enc), p6] kr ?_
    exact RunS.done rfl (Wk.sel2 [3] kr kr kr ⟨⟨_, rfl, bu_mk⟩, trivial⟩ ⟨lu_hd (b' := 3) kr kr, lu kr kr, lu kr kr, lu kr kr, trivial⟩)
   let p8 : Nat × AV := (18, .v (.int .i64 (wr .i64 (c4 + 1))))
   refine Sem.rg E0_ok [p7, p4, p3, p8] [p6] ?_
   exact SemN.wk (s1 := ⟨Fr 29 [p7, p4, p3, p8], [p6]⟩) (Wk.sel2 [0] kr kr kr ⟨⟨_, rfl, bu_mk⟩, trivial⟩ ⟨lu_hd (b' := 0) kr kr, lu kr kr, lu kr kr, lu kr kr, trivial⟩) (ih (c3 ++ [v7]) (wr .i64 (c4 + 1)) h)
  ·rw [if_f hb5] at h
   refine Sem.exit ?_
   have hq := Option.some.inj h; subst hq
   exact ⟨rfl, (Wk.sel2 [0] kr kr kr ⟨⟨_, rfl, bu_mk⟩, trivial⟩ ⟨lu_hd (b' := 0) kr kr, trivial⟩)⟩
theorem court_orders_sem (x0 : (List Clause)) (r : (List Clause) × Bool) (h : court_orders x0 = some r) : Sem E0 ⟨none, false⟩ cb_court_orders ⟨Fr 29 (pairs0 0 (cs_court_orders.enc (x0, ()))), []⟩ fun e s' => (e = .normal ∨ e = .ret) ∧ ∃ xs, resA E0.P s'.fr s'.hp Tryz.f89.results.toList = some xs ∧ retA xs = er_court_orders r := by
 unfold court_orders at h
 let p1 : Nat × AV := (0, .sl 5 (x0.map cdClause.enc))
 refine Sem.wkQ (Sem.wk (s1 := ⟨Fr 29 [p1], []⟩) (Wk.fr kr) ?_)
 refine Sem.sq E0_ok [p1] [] ?_
 refine Sem.seq ?_
 refine Sem.seq ?_
 obtain ⟨v1, hv1, h⟩ := Option.bind_eq_some_iff.1 h
 refine Sem.runS (s1 := ⟨Fr 29 [p1, (5, .v (.int .i64 v1.2))], []⟩) ?_ ?_
 ·refine RunS.segF (n := 29) E0_ok 1 [p1, (10, .sl 5 (x0.map cdClause.enc))] [] kr ?_
  refine RunS.callV (caps := []) (xs := [.sl 5 (x0.map cdClause.enc)]) (u := (x0, ())) rfl rfl x_court_Check rfl (wantedA_none rfl) kr kr (Sl.cons (Sm.enc (c := (cdL 5 cdClause)) (v := x0)) Sl.nil) (.inl kr) hv1 ?_
  exact RunS.last E0_ok
 refine Sem.sq E0_ok [p1, (15, .v (.bool (v1.2 != 0)))] [] ?_
 refine Sem.cond (b := (v1.2 != 0)) kr (fun hb2 => ?_) (fun hb2 => ?_)
 ·rw [if_pos hb2] at h
  let p2 : Nat × AV := (3, .v (.bool false))
  refine Sem.sq E0_ok [(2, .e0), p2] [] ?_
  refine Sem.ret ?_
  have hq := Option.some.inj h; subst hq
  exact ⟨⟨Fr 29 [(2, .sl 1 ([].map cdOrd.enc)), p2], []⟩, (Wk.trans (s1 := ⟨Fr 29 [(2, .e0), p2], []⟩) (Wk.fr kr) (Wk.trans (s1 := ⟨Fr 29 [(2, .e0), p2], [none]⟩) Wk.none (Wk.trans (s1 := ⟨Fr 29 [(2, .sl 1 ([].map cdOrd.enc)), p2], [none]⟩) (Wk.frzG 0 (.inr kr) ⟨.inl rfl, trivial⟩ ⟨⟨.e0, kr, fz_e0⟩, ⟨.v (.bool false), kr, .inl rfl⟩, trivial⟩) (Wk.sel2 [] kr kr kr trivial ⟨lu kr kr, lu kr kr, trivial⟩)))), .inr rfl, [.sl 1 ([].map cdOrd.enc), .v (.bool false)], kr, kr⟩
 ·rw [if_f hb2] at h
  refine Sem.skip ?_
  refine Sem.sq E0_ok [p1, (6, .e0)] [] ?_
  refine Sem.seq ?_
  refine Sem.seq ?_
  let p3 : Nat × AV := (18, .v (.int .i64 0))
  let p4 : Nat × AV := (17, .v (.int .i64 (x0.length : Int)))
  let p5 : Nat × AV := (16, .sl 5 (x0.map cdClause.enc))
  refine Sem.runS (s1 := ⟨Fr 29 [(6, .e0), p5, p4, p3], []⟩) ?_ ?_
  ·refine RunS.segF (n := 29) E0_ok 1 [(6, .e0), p5] [] kr ?_
   refine RunS.one E0_ok 0 rfl (op_q (wantedA_none rfl) rfl (q_len (a := .sl 5 (x0.map cdClause.enc)) kr (len_sl (el := 70) kr))) ?_
   exact RunS.last E0_ok
  refine Sem.block ?_
  obtain ⟨r10, hr10, h⟩ := Option.bind_eq_some_iff.1 h
  refine Sem.loop (n := 100000) ?_
  refine Sem.cutN (SemN.wk (s1 := ⟨Fr 29 [(6, hd 0 ([].map cdOrd.enc)), p5, p4, p3], [mk 1 133 ([].map cdOrd.enc)]⟩) (Wk.trans (s1 := ⟨Fr 29 [(6, hd 0 ([].map cdOrd.enc)), p5, p4, p3], [mk 1 133 ([].map cdOrd.enc)]⟩) Wk.none (Wk.sel2 [0] kr kr kr ⟨⟨_, rfl, bu_none⟩, trivial⟩ ⟨lu kr kr, lu kr kr, lu kr kr, lu kr kr, trivial⟩)) (court_orders_l1_ok x0 _ [] 0 _ hr10)) ?_
  let p6 : Nat × AV := (3, .v (.bool true))
  refine Sem.sq E0_ok [(2, hd 0 (r10.map cdOrd.enc)), p6] [mk 1 133 (r10.map cdOrd.enc)] ?_
  refine Sem.ret ?_
  have hq := Option.some.inj h; subst hq
  exact ⟨⟨Fr 29 [(2, .sl 1 (r10.map cdOrd.enc)), p6], []⟩, (Wk.trans (s1 := ⟨Fr 29 [(2, .sl 1 (r10.map cdOrd.enc)), p6], [none]⟩) (Wk.frzG 0 (.inl kr) ⟨.inl rfl, trivial⟩ ⟨⟨hd 0 (r10.map cdOrd.enc), kr, fz_hd (t := 133) kr enc_ok⟩, ⟨.v (.bool true), kr, .inl rfl⟩, trivial⟩) (Wk.sel2 [] kr kr kr trivial ⟨lu kr kr, lu kr kr, trivial⟩)), .inr rfl, [.sl 1 (r10.map cdOrd.enc), .v (.bool true)], kr, kr⟩
noncomputable def t_court_orders : List AV → Option AV := told cs_court_orders (fun a => court_orders a.1) er_court_orders
theorem x_court_orders : XOk 89 t_court_orders := by
 refine xok_of_sem Tryz.func89 (c := cb_court_orders) ?h2 ⟨Tryz.call89⟩ cs_court_orders (fun a => court_orders a.1) er_court_orders (fun a => (by show 1 ≤ 29; decide)) ?h3 ?h4
 case h2 => kernel_rfl
 case h3 => intro b; kernel_rfl
 case h4 => exact fun a b h => court_orders_sem a.1 b h
/- trestle/court.b2i -/
noncomputable def cb_court_b2i : Code := codeOf Tryz.f167
def court_b2i (x0 : Bool) : Option (Int) :=
 if x0 = true then
 some 1
 else
 some 0
def cs_court_b2i : Cs (Bool × Unit) := (csC cdB csN)
def er_court_b2i (r : Int) : AV := cdI.enc r
theorem court_b2i_sem (x0 : Bool) (r : Int) (h : court_b2i x0 = some r) : Sem E0 ⟨none, false⟩ cb_court_b2i ⟨Fr 4 (pairs0 0 (cs_court_b2i.enc (x0, ()))), []⟩ fun e s' => (e = .normal ∨ e = .ret) ∧ ∃ xs, resA E0.P s'.fr s'.hp Tryz.f167.results.toList = some xs ∧ retA xs = er_court_b2i r := by
 unfold court_b2i at h
 refine Sem.wkQ (Sem.wk (s1 := ⟨Fr 4 [(0, .v (.bool x0))], []⟩) (Wk.fr kr) ?_)
 refine Sem.sq E0_ok [(0, .v (.bool x0))] [] ?_
 refine Sem.seq ?_
 refine Sem.sq E0_ok [(3, .v (.bool x0))] [] ?_
 refine Sem.cond (b := x0) kr (fun hb1 => ?_) (fun hb1 => ?_)
 ·rw [if_pos hb1] at h
  refine Sem.sq E0_ok [(2, .v (.int .i64 1))] [] ?_
  refine Sem.ret ?_
  have hq := Option.some.inj h; subst hq
  exact ⟨⟨Fr 4 [(2, .v (.int .i64 1))], []⟩, (Wk.fr kr), .inr rfl, [.v (.int .i64 1)], kr, kr⟩
 ·rw [if_f hb1] at h
  refine Sem.skip ?_
  refine Sem.sq E0_ok [(2, .v (.int .i64 0))] [] ?_
  refine Sem.ret ?_
  have hq := Option.some.inj h; subst hq
  exact ⟨⟨Fr 4 [(2, .v (.int .i64 0))], []⟩, (Wk.fr kr), .inr rfl, [.v (.int .i64 0)], kr, kr⟩
def t_court_b2i : List AV → Option AV := told cs_court_b2i (fun a => court_b2i a.1) er_court_b2i
theorem x_court_b2i : XOk 167 t_court_b2i := by
 refine xok_of_sem Tryz.func167 (c := cb_court_b2i) ?h2 ⟨Tryz.call167⟩ cs_court_b2i (fun a => court_b2i a.1) er_court_b2i (fun a => (by show 1 ≤ 4; decide)) ?h3 ?h4
 case h2 => kernel_rfl
 case h3 => intro b; kernel_rfl
 case h4 => exact fun a b h => court_b2i_sem a.1 b h
/- cmp.isNaN[int] -/
noncomputable def cb_cmp_isNaN_int : Code := codeOf Tryz.f134
def cmp_isNaN_int (x0 : Int) : Option (Bool) :=
 some (x0 != x0)
def cs_cmp_isNaN_int : Cs (Int × Unit) := (csC cdI csN)
def er_cmp_isNaN_int (r : Bool) : AV := cdB.enc r
theorem cmp_isNaN_int_sem (x0 : Int) (r : Bool) (h : cmp_isNaN_int x0 = some r) : Sem E0 ⟨none, false⟩ cb_cmp_isNaN_int ⟨Fr 6 (pairs0 0 (cs_cmp_isNaN_int.enc (x0, ()))), []⟩ fun e s' => (e = .normal ∨ e = .ret) ∧ ∃ xs, resA E0.P s'.fr s'.hp Tryz.f134.results.toList = some xs ∧ retA xs = er_cmp_isNaN_int r := by
 unfold cmp_isNaN_int at h
 refine Sem.wkQ (Sem.wk (s1 := ⟨Fr 6 [(0, .v (.int .i64 x0))], []⟩) (Wk.fr kr) ?_)
 refine Sem.sq E0_ok [(0, .v (.int .i64 x0))] [] ?_
 refine Sem.sq E0_ok [(2, .v (.bool (x0 != x0)))] [] ?_
 refine Sem.ret ?_
 have hq := Option.some.inj h; subst hq
 exact ⟨⟨Fr 6 [(2, .v (.bool (x0 != x0)))], []⟩, (Wk.fr kr), .inr rfl, [.v (.bool (x0 != x0))], kr, kr⟩
def t_cmp_isNaN_int : List AV → Option AV := told cs_cmp_isNaN_int (fun a => cmp_isNaN_int a.1) er_cmp_isNaN_int
theorem x_cmp_isNaN_int : XOk 134 t_cmp_isNaN_int := by
 refine xok_of_sem Tryz.func134 (c := cb_cmp_isNaN_int) ?h2 ⟨Tryz.call134⟩ cs_cmp_isNaN_int (fun a => cmp_isNaN_int a.1) er_cmp_isNaN_int (fun a => (by show 1 ≤ 6; decide)) ?h3 ?h4
 case h2 => kernel_rfl
 case h3 => intro b; kernel_rfl
 case h4 => exact fun a b h => cmp_isNaN_int_sem a.1 b h
/- cmp.Compare[int] -/
noncomputable def cb_cmp_Compare_int : Code := codeOf Tryz.f166
def cmp_Compare_int (x0 : Int) (x1 : Int) : Option (Int) :=
 (cmp_isNaN_int x0).bind fun v1 =>
 (cmp_isNaN_int x1).bind fun v2 =>
 if v1 = true then
 if v2 = true then
 some 0
 else
 some (-1)
 else
 if v2 = true then
 some 1
 else
 if (decide (x0 < x1)) = true then
 some (-1)
 else
 if (decide (x0 > x1)) = true then
 some 1
 else
 some 0
def cs_cmp_Compare_int : Cs (Int × Int × Unit) := (csC cdI (csC cdI csN))
def er_cmp_Compare_int (r : Int) : AV := cdI.enc r
theorem cmp_Compare_int_sem (x0 : Int) (x1 : Int) (r : Int) (h : cmp_Compare_int x0 x1 = some r) : Sem E0 ⟨none, false⟩ cb_cmp_Compare_int ⟨Fr 20 (pairs0 0 (cs_cmp_Compare_int.enc (x0, x1, ()))), []⟩ fun e s' => (e = .normal ∨ e = .ret) ∧ ∃ xs, resA E0.P s'.fr s'.hp Tryz.f166.results.toList = some xs ∧ retA xs = er_cmp_Compare_int r := by
 unfold cmp_Compare_int at h
 let p1 : Nat × AV := (1, .v (.int .i64 x1))
 let p2 : Nat × AV := (0, .v (.int .i64 x0))
 refine Sem.wkQ (Sem.wk (s1 := ⟨Fr 20 [p2, p1], []⟩) (Wk.fr kr) ?_)
 refine Sem.sq E0_ok [p2, p1] [] ?_
 refine Sem.seq ?_
 obtain ⟨v1, hv1, h⟩ := Option.bind_eq_some_iff.1 h
 let p3 : Nat × AV := (5, .v (.bool v1))
 refine Sem.runS (s1 := ⟨Fr 20 [p2, p1, p3], []⟩) ?_ ?_
 ·refine RunS.segF (n := 20) E0_ok 1 [p2, p1, (7, .v (.int .i64 x0))] [] kr ?_
  refine RunS.callV (caps := []) (xs := [.v (.int .i64 x0)]) (u := (x0, ())) rfl rfl x_cmp_isNaN_int rfl (wantedA_none rfl) kr kr (Sl.cons (Sm.enc (c := cdI) (v := x0)) Sl.nil) (.inl kr) hv1 ?_
  exact RunS.last E0_ok
 refine Sem.seq ?_
 obtain ⟨v2, hv2, h⟩ := Option.bind_eq_some_iff.1 h
 refine Sem.runS (s1 := ⟨Fr 20 [p2, p1, p3, (6, .v (.bool v2))], []⟩) ?_ ?_
 ·refine RunS.segF (n := 20) E0_ok 1 [p2, p1, p3, (9, .v (.int .i64 x1))] [] kr ?_
  refine RunS.callV (caps := []) (xs := [.v (.int .i64 x1)]) (u := (x1, ())) rfl rfl x_cmp_isNaN_int rfl (wantedA_none rfl) kr kr (Sl.cons (Sm.enc (c := cdI) (v := x1)) Sl.nil) (.inl kr) hv2 ?_
  exact RunS.last E0_ok
 refine Sem.seq ?_
 refine Sem.sq E0_ok [p2, p1, (6, .v (.bool v2)), (11, .v (.bool v1))] [] ?_
 refine Sem.cond (b := v1) kr (fun hb3 => ?_) (fun hb3 => ?_)
 ·rw [if_pos hb3] at h
  refine Sem.seq ?_
  refine Sem.sq E0_ok [(12, .v (.bool v2))] [] ?_
  refine Sem.cond (b := v2) kr (fun hb4 => ?_) (fun hb4 => ?_)
  ·rw [if_pos hb4] at h
   refine Sem.sq E0_ok [(4, .v (.int .i64 0))] [] ?_
   refine Sem.ret ?_
   have hq := Option.some.inj h; subst hq
   exact ⟨⟨Fr 20 [(4, .v (.int .i64 0))], []⟩, (Wk.fr kr), .inr rfl, [.v (.int .i64 0)], kr, kr⟩
  ·rw [if_f hb4] at h
   refine Sem.skip ?_
   refine Sem.sq E0_ok [(4, .v (.int .i64 (-1)))] [] ?_
   refine Sem.ret ?_
   have hq := Option.some.inj h; subst hq
   exact ⟨⟨Fr 20 [(4, .v (.int .i64 (-1)))], []⟩, (Wk.fr kr), .inr rfl, [.v (.int .i64 (-1))], kr, kr⟩
 ·rw [if_f hb3] at h
  refine Sem.skip ?_
  refine Sem.seq ?_
  refine Sem.sq E0_ok [p2, p1, (13, .v (.bool v2))] [] ?_
  refine Sem.cond (b := v2) kr (fun hb5 => ?_) (fun hb5 => ?_)
  ·rw [if_pos hb5] at h
   refine Sem.sq E0_ok [(4, .v (.int .i64 1))] [] ?_
   refine Sem.ret ?_
   have hq := Option.some.inj h; subst hq
   exact ⟨⟨Fr 20 [(4, .v (.int .i64 1))], []⟩, (Wk.fr kr), .inr rfl, [.v (.int .i64 1)], kr, kr⟩
  ·rw [if_f hb5] at h
   refine Sem.skip ?_
   refine Sem.seq ?_
   refine Sem.sq E0_ok [p2, p1, (16, .v (.bool (decide (x0 < x1))))] [] ?_
   refine Sem.cond (b := (decide (x0 < x1))) kr (fun hb6 => ?_) (fun hb6 => ?_)
   ·rw [if_pos hb6] at h
    refine Sem.sq E0_ok [(4, .v (.int .i64 (-1)))] [] ?_
    refine Sem.ret ?_
    have hq := Option.some.inj h; subst hq
    exact ⟨⟨Fr 20 [(4, .v (.int .i64 (-1)))], []⟩, (Wk.fr kr), .inr rfl, [.v (.int .i64 (-1))], kr, kr⟩
   ·rw [if_f hb6] at h
    refine Sem.skip ?_
    refine Sem.seq ?_
    refine Sem.sq E0_ok [(19, .v (.bool (decide (x0 > x1))))] [] ?_
    refine Sem.cond (b := (decide (x0 > x1))) kr (fun hb7 => ?_) (fun hb7 => ?_)
    ·rw [if_pos hb7] at h
     refine Sem.sq E0_ok [(4, .v (.int .i64 1))] [] ?_
     refine Sem.ret ?_
     have hq := Option.some.inj h; subst hq
     exact ⟨⟨Fr 20 [(4, .v (.int .i64 1))], []⟩, (Wk.fr kr), .inr rfl, [.v (.int .i64 1)], kr, kr⟩
    ·rw [if_f hb7] at h
     refine Sem.skip ?_
     refine Sem.sq E0_ok [(4, .v (.int .i64 0))] [] ?_
     refine Sem.ret ?_
     have hq := Option.some.inj h; subst hq
     exact ⟨⟨Fr 20 [(4, .v (.int .i64 0))], []⟩, (Wk.fr kr), .inr rfl, [.v (.int .i64 0)], kr, kr⟩
def t_cmp_Compare_int : List AV → Option AV := told cs_cmp_Compare_int (fun a => cmp_Compare_int a.1 a.2.1) er_cmp_Compare_int
theorem x_cmp_Compare_int : XOk 166 t_cmp_Compare_int := by
 refine xok_of_sem Tryz.func166 (c := cb_cmp_Compare_int) ?h2 ⟨Tryz.call166⟩ cs_cmp_Compare_int (fun a => cmp_Compare_int a.1 a.2.1) er_cmp_Compare_int (fun a => (by show 2 ≤ 20; decide)) ?h3 ?h4
 case h2 => kernel_rfl
 case h3 => intro b; kernel_rfl
 case h4 => exact fun a b h => cmp_Compare_int_sem a.1 a.2.1 b h
/- trestle/court.plain$2 -/
noncomputable def cb_court_plain_2 : Code := codeOf Tryz.f165
def court_plain_2_j1 (x2 : Clause) (v5 : Int) : Option ((Int)) :=
 if (x2.1 == 3) = true then
 some (wr .i64 (0 - v5))
 else
 some v5
def court_plain_2 (x0 : Seated) (x1 : Seated) (x2 : Clause) : Option (Int) :=
 if (!((x0.1.2.2.2.1 == 0) == (x1.1.2.2.2.1 == 0))) = true then
 (court_b2i (x0.1.2.2.2.1 == 0)).bind fun v2 =>
 (court_b2i (x1.1.2.2.2.1 == 0)).bind fun v3 =>
 (cmp_Compare_int v2 v3).bind fun v4 =>
 some v4
 else
 (cmp_Compare_int x0.1.2.2.2.1 x1.1.2.2.2.1).bind fun v5 =>
 (court_plain_2_j1 x2 v5).bind fun r8 =>
 some r8
def cs_court_plain_2 : Cs (Seated × Seated × Clause × Unit) := (csC cdSeated (csC cdSeated (csC (cdP cdClause) csN)))
def er_court_plain_2 (r : Int) : AV := cdI.enc r
theorem court_plain_2_j1_ok (x2 : Clause) (v5 : Int) (r : (Int)) (h : court_plain_2_j1 x2 v5 = some r) : Sem E0 ⟨none, false⟩ (pc cb_court_plain_2 [1, 1, 1, 0, 1]) ⟨Fr 40 [(6, .v (.int .i64 v5)), (36, .v (.bool (x2.1 == 3)))], []⟩ (fun e s => e = .normal ∧ Wk E0 s ⟨Fr 40 [(6, .v (.int .i64 r))], []⟩) := by
 unfold court_plain_2_j1 at h
 refine Sem.cond (b := (x2.1 == 3)) kr (fun hb6 => ?_) (fun hb6 => ?_)
 ·rw [if_pos hb6] at h
  refine Sem.rg E0_ok [(6, .v (.int .i64 (wr .i64 (0 - v5))))] [] ?_
  have hq := Option.some.inj h; subst hq
  exact ⟨rfl, (Wk.fr kr)⟩
 ·rw [if_f hb6] at h
  refine Sem.skip ?_
  have hq := Option.some.inj h; subst hq
  exact ⟨rfl, (Wk.fr kr)⟩
theorem court_plain_2_sem (x0 : Seated) (x1 : Seated) (x2 : Clause) (r : Int) (h : court_plain_2 x0 x1 x2 = some r) : Sem E0 ⟨none, false⟩ cb_court_plain_2 ⟨Fr 40 (pairs0 0 (cs_court_plain_2.enc (x0, x1, x2, ()))), []⟩ fun e s' => (e = .normal ∨ e = .ret) ∧ ∃ xs, resA E0.P s'.fr s'.hp Tryz.f165.results.toList = some xs ∧ retA xs = er_court_plain_2 r := by
 unfold court_plain_2 at h
 let p1 : Nat × AV := (2, .pe (cdClause.enc x2) 0)
 refine Sem.wkQ (Sem.wk (s1 := ⟨Fr 40 [(0, cdSeated.enc x0), (1, cdSeated.enc x1), p1], []⟩) (Wk.fr kr) ?_)
 let p2 : Option Blk := some ⟨10, 131, [cdSeated.enc x1], false⟩
 let p3 : Option Blk := some ⟨10, 131, [cdSeated.enc x0], false⟩
 refine Sem.sq E0_ok [p1, (3, .pt 0 0 0), (4, .pt 1 0 0)] [p3, p2] ?_
 refine Sem.seq ?_
 refine Sem.sq E0_ok [p1, (3, .pt 0 0 0), (4, .pt 1 0 0), (15, .v (.bool (!((x0.1.2.2.2.1 == 0) == (x1.1.2.2.2.1 == 0)))))] [p3, p2] ?_
 refine Sem.cond (b := (!((x0.1.2.2.2.1 == 0) == (x1.1.2.2.2.1 == 0)))) kr (fun hb1 => ?_) (fun hb1 => ?_)
 ·rw [if_pos hb1] at h
  refine Sem.seq ?_
  obtain ⟨v2, hv2, h⟩ := Option.bind_eq_some_iff.1 h
  obtain ⟨v3, hv3, h⟩ := Option.bind_eq_some_iff.1 h
  obtain ⟨v4, hv4, h⟩ := Option.bind_eq_some_iff.1 h
  let p4 : Nat × AV := (5, .v (.int .i64 v4))
  refine Sem.runDS E0_ok (s1 := ⟨Fr 40 [p4], []⟩) kr ?_ ?_
  ·refine RunDS.segF (n := 40) E0_ok 4 [(4, .pt 1 0 0), (19, .v (.bool (x0.1.2.2.2.1 == 0)))] [p3, p2] kr kr ?_
   refine RunDS.callV (caps := []) (xs := [.v (.bool (x0.1.2.2.2.1 == 0))]) (u := ((x0.1.2.2.2.1 == 0), ())) rfl rfl x_court_b2i rfl (wantedA_none rfl) kr kr (Sl.cons (Sm.enc (c := cdB) (v := (x0.1.2.2.2.1 == 0))) Sl.nil) kr hv2 ?_
   refine RunDS.segF (n := 40) E0_ok 4 [(20, .v (.int .i64 v2)), (24, .v (.bool (x1.1.2.2.2.1 == 0)))] [p3, p2] kr kr ?_
   refine RunDS.callV (caps := []) (xs := [.v (.bool (x1.1.2.2.2.1 == 0))]) (u := ((x1.1.2.2.2.1 == 0), ())) rfl rfl x_court_b2i rfl (wantedA_none rfl) kr kr (Sl.cons (Sm.enc (c := cdB) (v := (x1.1.2.2.2.1 == 0))) Sl.nil) kr hv3 ?_
   refine RunDS.callV (caps := []) (xs := [.v (.int .i64 v2), .v (.int .i64 v3)]) (u := (v2, v3, ())) rfl rfl x_cmp_Compare_int rfl (wantedA_none rfl) kr kr (Sl.cons (Sm.enc (c := cdI) (v := v2)) (Sl.cons (Sm.enc (c := cdI) (v := v3)) Sl.nil)) kr hv4 ?_
   refine RunDS.segF (n := 40) E0_ok 1 [p4] [p3, p2] kr kr ?_
   exact RunDS.done rfl (Wk.sel2 [] kr kr kr trivial ⟨lu kr kr, trivial⟩)
  refine Sem.ret ?_
  have hq := Option.some.inj h; subst hq
  exact ⟨⟨Fr 40 [p4], []⟩, (Wk.fr kr), .inr rfl, [.v (.int .i64 v4)], kr, kr⟩
 ·rw [if_f hb1] at h
  refine Sem.skip ?_
  refine Sem.seq ?_
  obtain ⟨v5, hv5, h⟩ := Option.bind_eq_some_iff.1 h
  let p5 : Nat × AV := (6, .v (.int .i64 v5))
  refine Sem.runS (s1 := ⟨Fr 40 [p1, p5], []⟩) ?_ ?_
  ·refine RunS.segF (n := 40) E0_ok 6 [p1, (29, .v (.int .i64 x0.1.2.2.2.1)), (32, .v (.int .i64 x1.1.2.2.2.1))] [p3, p2] kr ?_
   refine RunS.callV (caps := []) (xs := [.v (.int .i64 x0.1.2.2.2.1), .v (.int .i64 x1.1.2.2.2.1)]) (u := (x0.1.2.2.2.1, x1.1.2.2.2.1, ())) rfl rfl x_cmp_Compare_int rfl (wantedA_none rfl) kr kr (Sl.cons (Sm.enc (c := cdI) (v := x0.1.2.2.2.1)) (Sl.cons (Sm.enc (c := cdI) (v := x1.1.2.2.2.1)) Sl.nil)) (.inl kr) hv5 ?_
   refine RunS.segF (n := 40) E0_ok 1 [p1, p5] [p3, p2] kr ?_
   exact RunS.done rfl (Wk.sel2 [] kr kr kr trivial ⟨lu kr kr, lu kr kr, trivial⟩)
  refine Sem.seq ?_
  refine Sem.sq E0_ok [p5, (36, .v (.bool (x2.1 == 3)))] [] ?_
  obtain ⟨r8, hr8, h⟩ := Option.bind_eq_some_iff.1 h
  refine Sem.cut (court_plain_2_j1_ok x2 v5 _ hr8) ?_
  refine Sem.sq E0_ok [(5, .v (.int .i64 r8))] [] ?_
  refine Sem.ret ?_
  have hq := Option.some.inj h; subst hq
  exact ⟨⟨Fr 40 [(5, .v (.int .i64 r8))], []⟩, (Wk.fr kr), .inr rfl, [.v (.int .i64 r8)], kr, kr⟩
def t_court_plain_2 : List AV → Option AV := told cs_court_plain_2 (fun a => court_plain_2 a.1 a.2.1 a.2.2.1) er_court_plain_2
theorem x_court_plain_2 : XOk 165 t_court_plain_2 := by
 refine xok_of_sem Tryz.func165 (c := cb_court_plain_2) ?h2 ⟨Tryz.call165⟩ cs_court_plain_2 (fun a => court_plain_2 a.1 a.2.1 a.2.2.1) er_court_plain_2 (fun a => (by show 3 ≤ 40; decide)) ?h3 ?h4
 case h2 => kernel_rfl
 case h3 => intro b; kernel_rfl
 case h4 => exact fun a b h => court_plain_2_sem a.1 a.2.1 a.2.2.1 b h
/- trestle/court.orderOf$1 -/
noncomputable def cb_court_orderOf_1__court_plain_2 : Code := codeOf Tryz.f154
def court_orderOf_1__court_plain_2 (x0 : Seated) (x1 : Seated) (x2 : Clause) (x3 : Clause) : Option (Int) :=
 (if (!(x2.2.1 == [])) = true then if (!(x0.1.2.1 == x2.2.1)) = true then some true else some (!(x1.1.2.1 == x2.2.1)) else some false).bind fun j2 =>
 if j2 = true then
 some 0
 else
 (court_plain_2 x0 x1 x3).bind fun v4 =>
 some v4
def cs_court_orderOf_1__court_plain_2 : Cs (Seated × Seated × Clause × Clause × Unit) := (csC cdSeated (csC cdSeated (csC (cdP cdClause) (csC (cdP (cdF 165 (csE (cdP cdClause)) (fun _ => rfl))) csN))))
def er_court_orderOf_1__court_plain_2 (r : Int) : AV := cdI.enc r
theorem court_orderOf_1__court_plain_2_sem (x0 : Seated) (x1 : Seated) (x2 : Clause) (x3 : Clause) (r : Int) (h : court_orderOf_1__court_plain_2 x0 x1 x2 x3 = some r) : Sem E0 ⟨none, false⟩ cb_court_orderOf_1__court_plain_2 ⟨Fr 30 (pairs0 0 (cs_court_orderOf_1__court_plain_2.enc (x0, x1, x2, x3, ()))), []⟩ fun e s' => (e = .normal ∨ e = .ret) ∧ ∃ xs, resA E0.P s'.fr s'.hp Tryz.f154.results.toList = some xs ∧ retA xs = er_court_orderOf_1__court_plain_2 r := by
 unfold court_orderOf_1__court_plain_2 at h
 let p1 : Nat × AV := (3, .pe (.fn 165 [] [.pe (cdClause.enc x3) 0]) 0)
 let p2 : Nat × AV := (2, .pe (cdClause.enc x2) 0)
 refine Sem.wkQ (Sem.wk (s1 := ⟨Fr 30 [(0, cdSeated.enc x0), (1, cdSeated.enc x1), p2, p1], []⟩) (Wk.fr kr) ?_)
 let p3 : Option Blk := some ⟨10, 131, [cdSeated.enc x1], false⟩
 let p4 : Option Blk := some ⟨10, 131, [cdSeated.enc x0], false⟩
 let p5 : Nat × AV := (5, .pt 1 0 0)
 let p6 : Nat × AV := (4, .pt 0 0 0)
 refine Sem.sq E0_ok [p2, p1, p6, p5] [p4, p3] ?_
 refine Sem.seq ?_
 refine Sem.seq ?_
 obtain ⟨j2, hj2, h⟩ := Option.bind_eq_some_iff.1 h
 refine Sem.runS (s1 := ⟨Fr 30 [p1, p6, p5, (25, .v (.bool j2))], [p4, p3]⟩) ?_ ?_
 ·refine RunS.segF (n := 30) E0_ok 4 [p2, p1, p6, p5, (10, .v (.bool (!(x2.2.1 == []))))] [p4, p3] kr ?_
  rcases Bool.eq_false_or_eq_true (!(x2.2.1 == [])) with hc5 | hc5
  ·rw [if_pos hc5] at hj2
   rw [hc5]
   refine RunS.segF (n := 30) E0_ok 7 [p2, p1, p6, p5, (10, .v (.bool true)), (17, .v (.bool (!(x0.1.2.1 == x2.2.1))))] [p4, p3] kr ?_
   rcases Bool.eq_false_or_eq_true (!(x0.1.2.1 == x2.2.1)) with hc6 | hc6
   ·rw [if_pos hc6] at hj2
    rw [hc6]
    refine RunS.segF (n := 30) E0_ok 8 [p1, p6, p5, (25, .v (.bool true))] [p4, p3] kr ?_
    have hq := Option.some.inj hj2; subst hq
    exact RunS.done rfl (Wk.sel2 [0, 1] kr kr kr ⟨⟨_, rfl, bu_c kr kr⟩, ⟨_, rfl, bu_c kr kr⟩, trivial⟩ ⟨lu kr kr, lu kr kr, lu kr kr, lu kr kr, trivial⟩)
   ·rw [if_f hc6] at hj2
    rw [hc6]
    refine RunS.segF (n := 30) E0_ok 8 [p1, p6, p5, (25, .v (.bool (!(x1.1.2.1 == x2.2.1))))] [p4, p3] kr ?_
    have hq := Option.some.inj hj2; subst hq
    exact RunS.done rfl (Wk.sel2 [0, 1] kr kr kr ⟨⟨_, rfl, bu_c kr kr⟩, ⟨_, rfl, bu_c kr kr⟩, trivial⟩ ⟨lu kr kr, lu kr kr, lu kr kr, lu kr kr, trivial⟩)
  ·rw [if_f hc5] at hj2
   rw [hc5]
   refine RunS.segF (n := 30) E0_ok 15 [p1, p6, p5, (25, .v (.bool false))] [p4, p3] kr ?_
   have hq := Option.some.inj hj2; subst hq
   exact RunS.done rfl (Wk.sel2 [0, 1] kr kr kr ⟨⟨_, rfl, bu_c kr kr⟩, ⟨_, rfl, bu_c kr kr⟩, trivial⟩ ⟨lu kr kr, lu kr kr, lu kr kr, lu kr kr, trivial⟩)
 refine Sem.cond (b := j2) kr (fun hb3 => ?_) (fun hb3 => ?_)
 ·rw [if_pos hb3] at h
  refine Sem.seq ?_
  let p7 : Nat × AV := (6, .v (.int .i64 0))
  refine Sem.runS (s1 := ⟨Fr 30 [p7], []⟩) ?_ ?_
  ·refine RunS.segF (n := 30) E0_ok 1 [p7] [p4, p3] kr ?_
   exact RunS.done rfl (Wk.sel2 [] kr kr kr trivial ⟨lu kr kr, trivial⟩)
  refine Sem.ret ?_
  have hq := Option.some.inj h; subst hq
  exact ⟨⟨Fr 30 [p7], []⟩, (Wk.fr kr), .inr rfl, [.v (.int .i64 0)], kr, kr⟩
 ·rw [if_f hb3] at h
  refine Sem.skip ?_
  refine Sem.seq ?_
  obtain ⟨v4, hv4, h⟩ := Option.bind_eq_some_iff.1 h
  let p8 : Nat × AV := (6, .v (.int .i64 v4))
  refine Sem.runS (s1 := ⟨Fr 30 [p8], []⟩) ?_ ?_
  ·refine RunS.segF (n := 30) E0_ok 3 [(26, .fn 165 [] [.pe (cdClause.enc x3) 0]), (27, cdSeated.enc x0), (28, cdSeated.enc x1)] [p4, p3] kr ?_
   refine RunS.callV (caps := [.pe (cdClause.enc x3) 0]) (xs := [cdSeated.enc x0, cdSeated.enc x1]) (u := (x0, x1, x3, ())) rfl rfl x_court_plain_2 rfl (wantedA_none rfl) kr kr (Sl.cons (Sm.enc (c := cdSeated) (v := x0)) (Sl.cons (Sm.enc (c := cdSeated) (v := x1)) (Sl.cons (Sm.enc (c := (cdP cdClause)) (v := x3)) Sl.nil))) (.inl kr) hv4 ?_
   refine RunS.segF (n := 30) E0_ok 1 [p8] [p4, p3] kr ?_
   exact RunS.done rfl (Wk.sel2 [] kr kr kr trivial ⟨lu kr kr, trivial⟩)
  refine Sem.ret ?_
  have hq := Option.some.inj h; subst hq
  exact ⟨⟨Fr 30 [p8], []⟩, (Wk.fr kr), .inr rfl, [.v (.int .i64 v4)], kr, kr⟩
def t_court_orderOf_1__court_plain_2 : List AV → Option AV := told cs_court_orderOf_1__court_plain_2 (fun a => court_orderOf_1__court_plain_2 a.1 a.2.1 a.2.2.1 a.2.2.2.1) er_court_orderOf_1__court_plain_2
theorem x_court_orderOf_1__court_plain_2 : XOk 154 t_court_orderOf_1__court_plain_2 := by
 refine xok_of_sem Tryz.func154 (c := cb_court_orderOf_1__court_plain_2) ?h2 ⟨Tryz.call154⟩ cs_court_orderOf_1__court_plain_2 (fun a => court_orderOf_1__court_plain_2 a.1 a.2.1 a.2.2.1 a.2.2.2.1) er_court_orderOf_1__court_plain_2 (fun a => (by show 4 ≤ 30; decide)) ?h3 ?h4
 case h2 => kernel_rfl
 case h3 => intro b; kernel_rfl
 case h4 => exact fun a b h => court_orderOf_1__court_plain_2_sem a.1 a.2.1 a.2.2.1 a.2.2.2.1 b h
/- cmp.isNaN[string] -/
noncomputable def cb_cmp_isNaN_string : Code := codeOf Tryz.f189
def cmp_isNaN_string (x0 : (List UInt8)) : Option (Bool) :=
 some (!(x0 == x0))
def cs_cmp_isNaN_string : Cs ((List UInt8) × Unit) := (csC cdS csN)
def er_cmp_isNaN_string (r : Bool) : AV := cdB.enc r
theorem cmp_isNaN_string_sem (x0 : (List UInt8)) (r : Bool) (h : cmp_isNaN_string x0 = some r) : Sem E0 ⟨none, false⟩ cb_cmp_isNaN_string ⟨Fr 6 (pairs0 0 (cs_cmp_isNaN_string.enc (x0, ()))), []⟩ fun e s' => (e = .normal ∨ e = .ret) ∧ ∃ xs, resA E0.P s'.fr s'.hp Tryz.f189.results.toList = some xs ∧ retA xs = er_cmp_isNaN_string r := by
 unfold cmp_isNaN_string at h
 refine Sem.wkQ (Sem.wk (s1 := ⟨Fr 6 [(0, .st x0)], []⟩) (Wk.fr kr) ?_)
 refine Sem.sq E0_ok [(0, .st x0)] [] ?_
 refine Sem.sq E0_ok [(2, .v (.bool (!(x0 == x0))))] [] ?_
 refine Sem.ret ?_
 have hq := Option.some.inj h; subst hq
 exact ⟨⟨Fr 6 [(2, .v (.bool (!(x0 == x0))))], []⟩, (Wk.fr kr), .inr rfl, [.v (.bool (!(x0 == x0)))], kr, kr⟩
def t_cmp_isNaN_string : List AV → Option AV := told cs_cmp_isNaN_string (fun a => cmp_isNaN_string a.1) er_cmp_isNaN_string
theorem x_cmp_isNaN_string : XOk 189 t_cmp_isNaN_string := by
 refine xok_of_sem Tryz.func189 (c := cb_cmp_isNaN_string) ?h2 ⟨Tryz.call189⟩ cs_cmp_isNaN_string (fun a => cmp_isNaN_string a.1) er_cmp_isNaN_string (fun a => (by show 1 ≤ 6; decide)) ?h3 ?h4
 case h2 => kernel_rfl
 case h3 => intro b; kernel_rfl
 case h4 => exact fun a b h => cmp_isNaN_string_sem a.1 b h
/- cmp.Compare[string] -/
noncomputable def cb_cmp_Compare_string : Code := codeOf Tryz.f175
def cmp_Compare_string (x0 : (List UInt8)) (x1 : (List UInt8)) : Option (Int) :=
 (cmp_isNaN_string x0).bind fun v1 =>
 (cmp_isNaN_string x1).bind fun v2 =>
 if v1 = true then
 if v2 = true then
 some 0
 else
 some (-1)
 else
 if v2 = true then
 some 1
 else
 if (Go.Op.bytesLess x0 x1) = true then
 some (-1)
 else
 if (!((Go.Op.bytesLess x0 x1) || (x0 == x1))) = true then
 some 1
 else
 some 0
def cs_cmp_Compare_string : Cs ((List UInt8) × (List UInt8) × Unit) := (csC cdS (csC cdS csN))
def er_cmp_Compare_string (r : Int) : AV := cdI.enc r
theorem cmp_Compare_string_sem (x0 : (List UInt8)) (x1 : (List UInt8)) (r : Int) (h : cmp_Compare_string x0 x1 = some r) : Sem E0 ⟨none, false⟩ cb_cmp_Compare_string ⟨Fr 20 (pairs0 0 (cs_cmp_Compare_string.enc (x0, x1, ()))), []⟩ fun e s' => (e = .normal ∨ e = .ret) ∧ ∃ xs, resA E0.P s'.fr s'.hp Tryz.f175.results.toList = some xs ∧ retA xs = er_cmp_Compare_string r := by
 unfold cmp_Compare_string at h
 refine Sem.wkQ (Sem.wk (s1 := ⟨Fr 20 [(0, .st x0), (1, .st x1)], []⟩) (Wk.fr kr) ?_)
 refine Sem.sq E0_ok [(0, .st x0), (1, .st x1)] [] ?_
 refine Sem.seq ?_
 obtain ⟨v1, hv1, h⟩ := Option.bind_eq_some_iff.1 h
 let p1 : Nat × AV := (5, .v (.bool v1))
 refine Sem.runS (s1 := ⟨Fr 20 [(0, .st x0), (1, .st x1), p1], []⟩) ?_ ?_
 ·refine RunS.segF (n := 20) E0_ok 1 [(0, .st x0), (1, .st x1), (7, .st x0)] [] kr ?_
  refine RunS.callV (caps := []) (xs := [.st x0]) (u := (x0, ())) rfl rfl x_cmp_isNaN_string rfl (wantedA_none rfl) kr kr (Sl.cons (Sm.enc (c := cdS) (v := x0)) Sl.nil) (.inl kr) hv1 ?_
  exact RunS.last E0_ok
 refine Sem.seq ?_
 obtain ⟨v2, hv2, h⟩ := Option.bind_eq_some_iff.1 h
 refine Sem.runS (s1 := ⟨Fr 20 [(0, .st x0), (1, .st x1), p1, (6, .v (.bool v2))], []⟩) ?_ ?_
 ·refine RunS.segF (n := 20) E0_ok 1 [(0, .st x0), (1, .st x1), p1, (9, .st x1)] [] kr ?_
  refine RunS.callV (caps := []) (xs := [.st x1]) (u := (x1, ())) rfl rfl x_cmp_isNaN_string rfl (wantedA_none rfl) kr kr (Sl.cons (Sm.enc (c := cdS) (v := x1)) Sl.nil) (.inl kr) hv2 ?_
  exact RunS.last E0_ok
 refine Sem.seq ?_
 refine Sem.sq E0_ok [(0, .st x0), (1, .st x1), (6, .v (.bool v2)), (11, .v (.bool v1))] [] ?_
 refine Sem.cond (b := v1) kr (fun hb3 => ?_) (fun hb3 => ?_)
 ·rw [if_pos hb3] at h
  refine Sem.seq ?_
  refine Sem.sq E0_ok [(12, .v (.bool v2))] [] ?_
  refine Sem.cond (b := v2) kr (fun hb4 => ?_) (fun hb4 => ?_)
  ·rw [if_pos hb4] at h
   refine Sem.sq E0_ok [(4, .v (.int .i64 0))] [] ?_
   refine Sem.ret ?_
   have hq := Option.some.inj h; subst hq
   exact ⟨⟨Fr 20 [(4, .v (.int .i64 0))], []⟩, (Wk.fr kr), .inr rfl, [.v (.int .i64 0)], kr, kr⟩
  ·rw [if_f hb4] at h
   refine Sem.skip ?_
   refine Sem.sq E0_ok [(4, .v (.int .i64 (-1)))] [] ?_
   refine Sem.ret ?_
   have hq := Option.some.inj h; subst hq
   exact ⟨⟨Fr 20 [(4, .v (.int .i64 (-1)))], []⟩, (Wk.fr kr), .inr rfl, [.v (.int .i64 (-1))], kr, kr⟩
 ·rw [if_f hb3] at h
  refine Sem.skip ?_
  refine Sem.seq ?_
  refine Sem.sq E0_ok [(0, .st x0), (1, .st x1), (13, .v (.bool v2))] [] ?_
  refine Sem.cond (b := v2) kr (fun hb5 => ?_) (fun hb5 => ?_)
  ·rw [if_pos hb5] at h
   refine Sem.sq E0_ok [(4, .v (.int .i64 1))] [] ?_
   refine Sem.ret ?_
   have hq := Option.some.inj h; subst hq
   exact ⟨⟨Fr 20 [(4, .v (.int .i64 1))], []⟩, (Wk.fr kr), .inr rfl, [.v (.int .i64 1)], kr, kr⟩
  ·rw [if_f hb5] at h
   refine Sem.skip ?_
   refine Sem.seq ?_
   refine Sem.sq E0_ok [(0, .st x0), (1, .st x1), (16, .v (.bool (Go.Op.bytesLess x0 x1)))] [] ?_
   refine Sem.cond (b := (Go.Op.bytesLess x0 x1)) kr (fun hb6 => ?_) (fun hb6 => ?_)
   ·rw [if_pos hb6] at h
    refine Sem.sq E0_ok [(4, .v (.int .i64 (-1)))] [] ?_
    refine Sem.ret ?_
    have hq := Option.some.inj h; subst hq
    exact ⟨⟨Fr 20 [(4, .v (.int .i64 (-1)))], []⟩, (Wk.fr kr), .inr rfl, [.v (.int .i64 (-1))], kr, kr⟩
   ·rw [if_f hb6] at h
    refine Sem.skip ?_
    refine Sem.seq ?_
    refine Sem.sq E0_ok [(19, .v (.bool (!((Go.Op.bytesLess x0 x1) || (x0 == x1)))))] [] ?_
    refine Sem.cond (b := (!((Go.Op.bytesLess x0 x1) || (x0 == x1)))) kr (fun hb7 => ?_) (fun hb7 => ?_)
    ·rw [if_pos hb7] at h
     refine Sem.sq E0_ok [(4, .v (.int .i64 1))] [] ?_
     refine Sem.ret ?_
     have hq := Option.some.inj h; subst hq
     exact ⟨⟨Fr 20 [(4, .v (.int .i64 1))], []⟩, (Wk.fr kr), .inr rfl, [.v (.int .i64 1)], kr, kr⟩
    ·rw [if_f hb7] at h
     refine Sem.skip ?_
     refine Sem.sq E0_ok [(4, .v (.int .i64 0))] [] ?_
     refine Sem.ret ?_
     have hq := Option.some.inj h; subst hq
     exact ⟨⟨Fr 20 [(4, .v (.int .i64 0))], []⟩, (Wk.fr kr), .inr rfl, [.v (.int .i64 0)], kr, kr⟩
def t_cmp_Compare_string : List AV → Option AV := told cs_cmp_Compare_string (fun a => cmp_Compare_string a.1 a.2.1) er_cmp_Compare_string
theorem x_cmp_Compare_string : XOk 175 t_cmp_Compare_string := by
 refine xok_of_sem Tryz.func175 (c := cb_cmp_Compare_string) ?h2 ⟨Tryz.call175⟩ cs_cmp_Compare_string (fun a => cmp_Compare_string a.1 a.2.1) er_cmp_Compare_string (fun a => (by show 2 ≤ 20; decide)) ?h3 ?h4
 case h2 => kernel_rfl
 case h3 => intro b; kernel_rfl
 case h4 => exact fun a b h => cmp_Compare_string_sem a.1 a.2.1 b h
/- trestle/court.plain$7 -/
noncomputable def cb_court_plain_7 : Code := codeOf Tryz.f174
def court_plain_7 (x0 : Seated) (x1 : Seated) : Option (Int) :=
 (cmp_Compare_string x0.1.1 x1.1.1).bind fun v1 =>
 some v1
def cs_court_plain_7 : Cs (Seated × Seated × Unit) := (csC cdSeated (csC cdSeated csN))
def er_court_plain_7 (r : Int) : AV := cdI.enc r
theorem court_plain_7_sem (x0 : Seated) (x1 : Seated) (r : Int) (h : court_plain_7 x0 x1 = some r) : Sem E0 ⟨none, false⟩ cb_court_plain_7 ⟨Fr 12 (pairs0 0 (cs_court_plain_7.enc (x0, x1, ()))), []⟩ fun e s' => (e = .normal ∨ e = .ret) ∧ ∃ xs, resA E0.P s'.fr s'.hp Tryz.f174.results.toList = some xs ∧ retA xs = er_court_plain_7 r := by
 unfold court_plain_7 at h
 refine Sem.wkQ (Sem.wk (s1 := ⟨Fr 12 [(0, cdSeated.enc x0), (1, cdSeated.enc x1)], []⟩) (Wk.fr kr) ?_)
 let p1 : Option Blk := some ⟨10, 131, [cdSeated.enc x1], false⟩
 let p2 : Option Blk := some ⟨10, 131, [cdSeated.enc x0], false⟩
 refine Sem.sq E0_ok [(2, .pt 0 0 0), (3, .pt 1 0 0)] [p2, p1] ?_
 refine Sem.seq ?_
 obtain ⟨v1, hv1, h⟩ := Option.bind_eq_some_iff.1 h
 let p3 : Nat × AV := (4, .v (.int .i64 v1))
 refine Sem.runS (s1 := ⟨Fr 12 [p3], []⟩) ?_ ?_
 ·refine RunS.segF (n := 12) E0_ok 6 [(7, .st x0.1.1), (10, .st x1.1.1)] [p2, p1] kr ?_
  refine RunS.callV (caps := []) (xs := [.st x0.1.1, .st x1.1.1]) (u := (x0.1.1, x1.1.1, ())) rfl rfl x_cmp_Compare_string rfl (wantedA_none rfl) kr kr (Sl.cons (Sm.enc (c := cdS) (v := x0.1.1)) (Sl.cons (Sm.enc (c := cdS) (v := x1.1.1)) Sl.nil)) (.inl kr) hv1 ?_
  refine RunS.segF (n := 12) E0_ok 1 [p3] [p2, p1] kr ?_
  exact RunS.done rfl (Wk.sel2 [] kr kr kr trivial ⟨lu kr kr, trivial⟩)
 refine Sem.ret ?_
 have hq := Option.some.inj h; subst hq
 exact ⟨⟨Fr 12 [p3], []⟩, (Wk.fr kr), .inr rfl, [.v (.int .i64 v1)], kr, kr⟩
def t_court_plain_7 : List AV → Option AV := told cs_court_plain_7 (fun a => court_plain_7 a.1 a.2.1) er_court_plain_7
theorem x_court_plain_7 : XOk 174 t_court_plain_7 := by
 refine xok_of_sem Tryz.func174 (c := cb_court_plain_7) ?h2 ⟨Tryz.call174⟩ cs_court_plain_7 (fun a => court_plain_7 a.1 a.2.1) er_court_plain_7 (fun a => (by show 2 ≤ 12; decide)) ?h3 ?h4
 case h2 => kernel_rfl
 case h3 => intro b; kernel_rfl
 case h4 => exact fun a b h => court_plain_7_sem a.1 a.2.1 b h
/- trestle/court.orderOf$1 -/
noncomputable def cb_court_orderOf_1__court_plain_7 : Code := codeOf Tryz.f154
def court_orderOf_1__court_plain_7 (x0 : Seated) (x1 : Seated) (x2 : Clause) : Option (Int) :=
 (if (!(x2.2.1 == [])) = true then if (!(x0.1.2.1 == x2.2.1)) = true then some true else some (!(x1.1.2.1 == x2.2.1)) else some false).bind fun j2 =>
 if j2 = true then
 some 0
 else
 (court_plain_7 x0 x1).bind fun v4 =>
 some v4
def cs_court_orderOf_1__court_plain_7 : Cs (Seated × Seated × Clause × Unit × Unit) := (csC cdSeated (csC cdSeated (csC (cdP cdClause) (csC (cdP (cdF 174 csN (fun _ => rfl))) csN))))
def er_court_orderOf_1__court_plain_7 (r : Int) : AV := cdI.enc r
theorem court_orderOf_1__court_plain_7_sem (x0 : Seated) (x1 : Seated) (x2 : Clause) (r : Int) (h : court_orderOf_1__court_plain_7 x0 x1 x2 = some r) : Sem E0 ⟨none, false⟩ cb_court_orderOf_1__court_plain_7 ⟨Fr 30 (pairs0 0 (cs_court_orderOf_1__court_plain_7.enc (x0, x1, x2, (), ()))), []⟩ fun e s' => (e = .normal ∨ e = .ret) ∧ ∃ xs, resA E0.P s'.fr s'.hp Tryz.f154.results.toList = some xs ∧ retA xs = er_court_orderOf_1__court_plain_7 r := by
 unfold court_orderOf_1__court_plain_7 at h
 let p1 : Nat × AV := (3, .pe (.fn 174 [] []) 0)
 let p2 : Nat × AV := (2, .pe (cdClause.enc x2) 0)
 refine Sem.wkQ (Sem.wk (s1 := ⟨Fr 30 [(0, cdSeated.enc x0), (1, cdSeated.enc x1), p2, p1], []⟩) (Wk.fr kr) ?_)
 let p3 : Option Blk := some ⟨10, 131, [cdSeated.enc x1], false⟩
 let p4 : Option Blk := some ⟨10, 131, [cdSeated.enc x0], false⟩
 let p5 : Nat × AV := (5, .pt 1 0 0)
 let p6 : Nat × AV := (4, .pt 0 0 0)
 refine Sem.sq E0_ok [p2, p1, p6, p5] [p4, p3] ?_
 refine Sem.seq ?_
 refine Sem.seq ?_
 obtain ⟨j2, hj2, h⟩ := Option.bind_eq_some_iff.1 h
 refine Sem.runS (s1 := ⟨Fr 30 [p1, p6, p5, (25, .v (.bool j2))], [p4, p3]⟩) ?_ ?_
 ·refine RunS.segF (n := 30) E0_ok 4 [p2, p1, p6, p5, (10, .v (.bool (!(x2.2.1 == []))))] [p4, p3] kr ?_
  rcases Bool.eq_false_or_eq_true (!(x2.2.1 == [])) with hc5 | hc5
  ·rw [if_pos hc5] at hj2
   rw [hc5]
   refine RunS.segF (n := 30) E0_ok 7 [p2, p1, p6, p5, (10, .v (.bool true)), (17, .v (.bool (!(x0.1.2.1 == x2.2.1))))] [p4, p3] kr ?_
   rcases Bool.eq_false_or_eq_true (!(x0.1.2.1 == x2.2.1)) with hc6 | hc6
   ·rw [if_pos hc6] at hj2
    rw [hc6]
    refine RunS.segF (n := 30) E0_ok 8 [p1, p6, p5, (25, .v (.bool true))] [p4, p3] kr ?_
    have hq := Option.some.inj hj2; subst hq
    exact RunS.done rfl (Wk.sel2 [0, 1] kr kr kr ⟨⟨_, rfl, bu_c kr kr⟩, ⟨_, rfl, bu_c kr kr⟩, trivial⟩ ⟨lu kr kr, lu kr kr, lu kr kr, lu kr kr, trivial⟩)
   ·rw [if_f hc6] at hj2
    rw [hc6]
    refine RunS.segF (n := 30) E0_ok 8 [p1, p6, p5, (25, .v (.bool (!(x1.1.2.1 == x2.2.1))))] [p4, p3] kr ?_
    have hq := Option.some.inj hj2; subst hq
    exact RunS.done rfl (Wk.sel2 [0, 1] kr kr kr ⟨⟨_, rfl, bu_c kr kr⟩, ⟨_, rfl, bu_c kr kr⟩, trivial⟩ ⟨lu kr kr, lu kr kr, lu kr kr, lu kr kr, trivial⟩)
  ·rw [if_f hc5] at hj2
   rw [hc5]
   refine RunS.segF (n := 30) E0_ok 15 [p1, p6, p5, (25, .v (.bool false))] [p4, p3] kr ?_
   have hq := Option.some.inj hj2; subst hq
   exact RunS.done rfl (Wk.sel2 [0, 1] kr kr kr ⟨⟨_, rfl, bu_c kr kr⟩, ⟨_, rfl, bu_c kr kr⟩, trivial⟩ ⟨lu kr kr, lu kr kr, lu kr kr, lu kr kr, trivial⟩)
 refine Sem.cond (b := j2) kr (fun hb3 => ?_) (fun hb3 => ?_)
 ·rw [if_pos hb3] at h
  refine Sem.seq ?_
  let p7 : Nat × AV := (6, .v (.int .i64 0))
  refine Sem.runS (s1 := ⟨Fr 30 [p7], []⟩) ?_ ?_
  ·refine RunS.segF (n := 30) E0_ok 1 [p7] [p4, p3] kr ?_
   exact RunS.done rfl (Wk.sel2 [] kr kr kr trivial ⟨lu kr kr, trivial⟩)
  refine Sem.ret ?_
  have hq := Option.some.inj h; subst hq
  exact ⟨⟨Fr 30 [p7], []⟩, (Wk.fr kr), .inr rfl, [.v (.int .i64 0)], kr, kr⟩
 ·rw [if_f hb3] at h
  refine Sem.skip ?_
  refine Sem.seq ?_
  obtain ⟨v4, hv4, h⟩ := Option.bind_eq_some_iff.1 h
  let p8 : Nat × AV := (6, .v (.int .i64 v4))
  refine Sem.runS (s1 := ⟨Fr 30 [p8], []⟩) ?_ ?_
  ·refine RunS.segF (n := 30) E0_ok 3 [(26, .fn 174 [] []), (27, cdSeated.enc x0), (28, cdSeated.enc x1)] [p4, p3] kr ?_
   refine RunS.callV (caps := []) (xs := [cdSeated.enc x0, cdSeated.enc x1]) (u := (x0, x1, ())) rfl rfl x_court_plain_7 rfl (wantedA_none rfl) kr kr (Sl.cons (Sm.enc (c := cdSeated) (v := x0)) (Sl.cons (Sm.enc (c := cdSeated) (v := x1)) Sl.nil)) (.inl kr) hv4 ?_
   refine RunS.segF (n := 30) E0_ok 1 [p8] [p4, p3] kr ?_
   exact RunS.done rfl (Wk.sel2 [] kr kr kr trivial ⟨lu kr kr, trivial⟩)
  refine Sem.ret ?_
  have hq := Option.some.inj h; subst hq
  exact ⟨⟨Fr 30 [p8], []⟩, (Wk.fr kr), .inr rfl, [.v (.int .i64 v4)], kr, kr⟩
def t_court_orderOf_1__court_plain_7 : List AV → Option AV := told cs_court_orderOf_1__court_plain_7 (fun a => court_orderOf_1__court_plain_7 a.1 a.2.1 a.2.2.1) er_court_orderOf_1__court_plain_7
theorem x_court_orderOf_1__court_plain_7 : XOk 154 t_court_orderOf_1__court_plain_7 := by
 refine xok_of_sem Tryz.func154 (c := cb_court_orderOf_1__court_plain_7) ?h2 ⟨Tryz.call154⟩ cs_court_orderOf_1__court_plain_7 (fun a => court_orderOf_1__court_plain_7 a.1 a.2.1 a.2.2.1) er_court_orderOf_1__court_plain_7 (fun a => (by show 4 ≤ 30; decide)) ?h3 ?h4
 case h2 => kernel_rfl
 case h3 => intro b; kernel_rfl
 case h4 => exact fun a b h => court_orderOf_1__court_plain_7_sem a.1 a.2.1 a.2.2.1 b h
/- trestle/court.plain$1 -/
noncomputable def cb_court_plain_1 : Code := codeOf Tryz.f164
def court_plain_1 (x0 : Seated) (x1 : Clause) : Option (Int) :=
 (slices_Index_string_string x1.2.2.2.1 x0.1.2.1).bind fun v1 =>
 if (decide (v1 ≥ 0)) = true then
 some v1
 else
 some (x1.2.2.2.1.length : Int)
def cs_court_plain_1 : Cs (Seated × Clause × Unit) := (csC cdSeated (csC (cdP cdClause) csN))
def er_court_plain_1 (r : Int) : AV := cdI.enc r
theorem court_plain_1_sem (x0 : Seated) (x1 : Clause) (r : Int) (h : court_plain_1 x0 x1 = some r) : Sem E0 ⟨none, false⟩ cb_court_plain_1 ⟨Fr 17 (pairs0 0 (cs_court_plain_1.enc (x0, x1, ()))), []⟩ fun e s' => (e = .normal ∨ e = .ret) ∧ ∃ xs, resA E0.P s'.fr s'.hp Tryz.f164.results.toList = some xs ∧ retA xs = er_court_plain_1 r := by
 unfold court_plain_1 at h
 let p1 : Nat × AV := (1, .pe (cdClause.enc x1) 0)
 refine Sem.wkQ (Sem.wk (s1 := ⟨Fr 17 [(0, cdSeated.enc x0), p1], []⟩) (Wk.fr kr) ?_)
 let p2 : Option Blk := some ⟨10, 131, [cdSeated.enc x0], false⟩
 refine Sem.sq E0_ok [p1, (2, .pt 0 0 0)] [p2] ?_
 refine Sem.seq ?_
 refine Sem.seq ?_
 obtain ⟨v1, hv1, h⟩ := Option.bind_eq_some_iff.1 h
 let p3 : Nat × AV := (4, .v (.int .i64 v1))
 refine Sem.runS (s1 := ⟨Fr 17 [p1, p3], []⟩) ?_ ?_
 ·refine RunS.segF (n := 17) E0_ok 5 [p1, (6, .sl 1 (x1.2.2.2.1.map cdS.enc)), (9, .st x0.1.2.1)] [p2] kr ?_
  refine RunS.callV (caps := []) (xs := [.sl 1 (x1.2.2.2.1.map cdS.enc), .st x0.1.2.1]) (u := (x1.2.2.2.1, x0.1.2.1, ())) rfl rfl x_slices_Index_string_string rfl (wantedA_none rfl) kr kr (Sl.cons (Sm.enc (c := (cdL 1 cdS)) (v := x1.2.2.2.1)) (Sl.cons (Sm.enc (c := cdS) (v := x0.1.2.1)) Sl.nil)) (.inl kr) hv1 ?_
  refine RunS.segF (n := 17) E0_ok 1 [p1, p3] [p2] kr ?_
  exact RunS.done rfl (Wk.sel2 [] kr kr kr trivial ⟨lu kr kr, lu kr kr, trivial⟩)
 refine Sem.sq E0_ok [p1, p3, (12, .v (.bool (decide (v1 ≥ 0))))] [] ?_
 refine Sem.cond (b := (decide (v1 ≥ 0))) kr (fun hb2 => ?_) (fun hb2 => ?_)
 ·rw [if_pos hb2] at h
  refine Sem.sq E0_ok [(3, .v (.int .i64 v1))] [] ?_
  refine Sem.ret ?_
  have hq := Option.some.inj h; subst hq
  exact ⟨⟨Fr 17 [(3, .v (.int .i64 v1))], []⟩, (Wk.fr kr), .inr rfl, [.v (.int .i64 v1)], kr, kr⟩
 ·rw [if_f hb2] at h
  refine Sem.skip ?_
  refine Sem.seq ?_
  let p4 : Nat × AV := (3, .v (.int .i64 (x1.2.2.2.1.length : Int)))
  refine Sem.runS (s1 := ⟨Fr 17 [p4], []⟩) ?_ ?_
  ·refine RunS.segF (n := 17) E0_ok 2 [(15, .sl 1 (x1.2.2.2.1.map cdS.enc))] [] kr ?_
   refine RunS.one E0_ok 0 rfl (op_q (wantedA_none rfl) rfl (q_len (a := .sl 1 (x1.2.2.2.1.map cdS.enc)) kr (len_sl (el := 9) kr))) ?_
   exact RunS.last E0_ok
  refine Sem.ret ?_
  have hq := Option.some.inj h; subst hq
  exact ⟨⟨Fr 17 [p4], []⟩, (Wk.fr kr), .inr rfl, [.v (.int .i64 (x1.2.2.2.1.length : Int))], kr, kr⟩
def t_court_plain_1 : List AV → Option AV := told cs_court_plain_1 (fun a => court_plain_1 a.1 a.2.1) er_court_plain_1
theorem x_court_plain_1 : XOk 164 t_court_plain_1 := by
 refine xok_of_sem Tryz.func164 (c := cb_court_plain_1) ?h2 ⟨Tryz.call164⟩ cs_court_plain_1 (fun a => court_plain_1 a.1 a.2.1) er_court_plain_1 (fun a => (by show 2 ≤ 17; decide)) ?h3 ?h4
 case h2 => kernel_rfl
 case h3 => intro b; kernel_rfl
 case h4 => exact fun a b h => court_plain_1_sem a.1 a.2.1 b h
/- trestle/court.by$1 -/
noncomputable def cb_court_by_1__court_plain_1 : Code := codeOf Tryz.f187
def court_by_1__court_plain_1 (x0 : Seated) (x1 : Seated) (x2 : Clause) : Option (Int) :=
 (court_plain_1 x0 x2).bind fun v1 =>
 (court_plain_1 x1 x2).bind fun v2 =>
 (cmp_Compare_int v1 v2).bind fun v3 =>
 some v3
def cs_court_by_1__court_plain_1 : Cs (Seated × Seated × Clause × Unit) := (csC cdSeated (csC cdSeated (csC (cdP (cdF 164 (csE (cdP cdClause)) (fun _ => rfl))) csN)))
def er_court_by_1__court_plain_1 (r : Int) : AV := cdI.enc r
theorem court_by_1__court_plain_1_sem (x0 : Seated) (x1 : Seated) (x2 : Clause) (r : Int) (h : court_by_1__court_plain_1 x0 x1 x2 = some r) : Sem E0 ⟨none, false⟩ cb_court_by_1__court_plain_1 ⟨Fr 13 (pairs0 0 (cs_court_by_1__court_plain_1.enc (x0, x1, x2, ()))), []⟩ fun e s' => (e = .normal ∨ e = .ret) ∧ ∃ xs, resA E0.P s'.fr s'.hp Tryz.f187.results.toList = some xs ∧ retA xs = er_court_by_1__court_plain_1 r := by
 unfold court_by_1__court_plain_1 at h
 let p1 : Nat × AV := (2, .pe (.fn 164 [] [.pe (cdClause.enc x2) 0]) 0)
 refine Sem.wkQ (Sem.wk (s1 := ⟨Fr 13 [(0, cdSeated.enc x0), (1, cdSeated.enc x1), p1], []⟩) (Wk.fr kr) ?_)
 let p2 : Option Blk := some ⟨10, 131, [cdSeated.enc x1], false⟩
 let p3 : Option Blk := some ⟨10, 131, [cdSeated.enc x0], false⟩
 refine Sem.sq E0_ok [p1, (3, .pt 0 0 0), (4, .pt 1 0 0)] [p3, p2] ?_
 refine Sem.seq ?_
 obtain ⟨v1, hv1, h⟩ := Option.bind_eq_some_iff.1 h
 obtain ⟨v2, hv2, h⟩ := Option.bind_eq_some_iff.1 h
 obtain ⟨v3, hv3, h⟩ := Option.bind_eq_some_iff.1 h
 let p4 : Nat × AV := (5, .v (.int .i64 v3))
 refine Sem.runDS E0_ok (s1 := ⟨Fr 13 [p4], []⟩) kr ?_ ?_
 ·refine RunDS.segF (n := 13) E0_ok 2 [p1, (4, .pt 1 0 0), (6, .fn 164 [] [.pe (cdClause.enc x2) 0]), (7, cdSeated.enc x0)] [p3, p2] kr kr ?_
  refine RunDS.callV (caps := [.pe (cdClause.enc x2) 0]) (xs := [cdSeated.enc x0]) (u := (x0, x2, ())) rfl rfl x_court_plain_1 rfl (wantedA_none rfl) kr kr (Sl.cons (Sm.enc (c := cdSeated) (v := x0)) (Sl.cons (Sm.enc (c := (cdP cdClause)) (v := x2)) Sl.nil)) kr hv1 ?_
  refine RunDS.segF (n := 13) E0_ok 2 [(8, .v (.int .i64 v1)), (9, .fn 164 [] [.pe (cdClause.enc x2) 0]), (10, cdSeated.enc x1)] [p3, p2] kr kr ?_
  refine RunDS.callV (caps := [.pe (cdClause.enc x2) 0]) (xs := [cdSeated.enc x1]) (u := (x1, x2, ())) rfl rfl x_court_plain_1 rfl (wantedA_none rfl) kr kr (Sl.cons (Sm.enc (c := cdSeated) (v := x1)) (Sl.cons (Sm.enc (c := (cdP cdClause)) (v := x2)) Sl.nil)) kr hv2 ?_
  refine RunDS.callV (caps := []) (xs := [.v (.int .i64 v1), .v (.int .i64 v2)]) (u := (v1, v2, ())) rfl rfl x_cmp_Compare_int rfl (wantedA_none rfl) kr kr (Sl.cons (Sm.enc (c := cdI) (v := v1)) (Sl.cons (Sm.enc (c := cdI) (v := v2)) Sl.nil)) kr hv3 ?_
  refine RunDS.segF (n := 13) E0_ok 1 [p4] [p3, p2] kr kr ?_
  exact RunDS.done rfl (Wk.sel2 [] kr kr kr trivial ⟨lu kr kr, trivial⟩)
 refine Sem.ret ?_
 have hq := Option.some.inj h; subst hq
 exact ⟨⟨Fr 13 [p4], []⟩, (Wk.fr kr), .inr rfl, [.v (.int .i64 v3)], kr, kr⟩
def t_court_by_1__court_plain_1 : List AV → Option AV := told cs_court_by_1__court_plain_1 (fun a => court_by_1__court_plain_1 a.1 a.2.1 a.2.2.1) er_court_by_1__court_plain_1
theorem x_court_by_1__court_plain_1 : XOk 187 t_court_by_1__court_plain_1 := by
 refine xok_of_sem Tryz.func187 (c := cb_court_by_1__court_plain_1) ?h2 ⟨Tryz.call187⟩ cs_court_by_1__court_plain_1 (fun a => court_by_1__court_plain_1 a.1 a.2.1 a.2.2.1) er_court_by_1__court_plain_1 (fun a => (by show 3 ≤ 13; decide)) ?h3 ?h4
 case h2 => kernel_rfl
 case h3 => intro b; kernel_rfl
 case h4 => exact fun a b h => court_by_1__court_plain_1_sem a.1 a.2.1 a.2.2.1 b h
/- trestle/court.orderOf$1 -/
noncomputable def cb_court_orderOf_1__court_by_1__court_plain_1 : Code := codeOf Tryz.f154
def court_orderOf_1__court_by_1__court_plain_1 (x0 : Seated) (x1 : Seated) (x2 : Clause) (x3 : Clause) : Option (Int) :=
 (if (!(x2.2.1 == [])) = true then if (!(x0.1.2.1 == x2.2.1)) = true then some true else some (!(x1.1.2.1 == x2.2.1)) else some false).bind fun j2 =>
 if j2 = true then
 some 0
 else
 (court_by_1__court_plain_1 x0 x1 x3).bind fun v4 =>
 some v4
def cs_court_orderOf_1__court_by_1__court_plain_1 : Cs (Seated × Seated × Clause × Clause × Unit) := (csC cdSeated (csC cdSeated (csC (cdP cdClause) (csC (cdP (cdF 187 (csE (cdP (cdF 164 (csE (cdP cdClause)) (fun _ => rfl)))) (fun _ => rfl))) csN))))
def er_court_orderOf_1__court_by_1__court_plain_1 (r : Int) : AV := cdI.enc r
theorem court_orderOf_1__court_by_1__court_plain_1_sem (x0 : Seated) (x1 : Seated) (x2 : Clause) (x3 : Clause) (r : Int) (h : court_orderOf_1__court_by_1__court_plain_1 x0 x1 x2 x3 = some r) : Sem E0 ⟨none, false⟩ cb_court_orderOf_1__court_by_1__court_plain_1 ⟨Fr 30 (pairs0 0 (cs_court_orderOf_1__court_by_1__court_plain_1.enc (x0, x1, x2, x3, ()))), []⟩ fun e s' => (e = .normal ∨ e = .ret) ∧ ∃ xs, resA E0.P s'.fr s'.hp Tryz.f154.results.toList = some xs ∧ retA xs = er_court_orderOf_1__court_by_1__court_plain_1 r := by
 unfold court_orderOf_1__court_by_1__court_plain_1 at h
 let p1 : Nat × AV := (3, .pe (.fn 187 [] [.pe (.fn 164 [] [.pe (cdClause.enc x3) 0]) 0]) 0)
 let p2 : Nat × AV := (2, .pe (cdClause.enc x2) 0)
 refine Sem.wkQ (Sem.wk (s1 := ⟨Fr 30 [(0, cdSeated.enc x0), (1, cdSeated.enc x1), p2, p1], []⟩) (Wk.fr kr) ?_)
 let p3 : Option Blk := some ⟨10, 131, [cdSeated.enc x1], false⟩
 let p4 : Option Blk := some ⟨10, 131, [cdSeated.enc x0], false⟩
 let p5 : Nat × AV := (5, .pt 1 0 0)
 let p6 : Nat × AV := (4, .pt 0 0 0)
 refine Sem.sq E0_ok [p2, p1, p6, p5] [p4, p3] ?_
 refine Sem.seq ?_
 refine Sem.seq ?_
 obtain ⟨j2, hj2, h⟩ := Option.bind_eq_some_iff.1 h
 refine Sem.runS (s1 := ⟨Fr 30 [p1, p6, p5, (25, .v (.bool j2))], [p4, p3]⟩) ?_ ?_
 ·refine RunS.segF (n := 30) E0_ok 4 [p2, p1, p6, p5, (10, .v (.bool (!(x2.2.1 == []))))] [p4, p3] kr ?_
  rcases Bool.eq_false_or_eq_true (!(x2.2.1 == [])) with hc5 | hc5
  ·rw [if_pos hc5] at hj2
   rw [hc5]
   refine RunS.segF (n := 30) E0_ok 7 [p2, p1, p6, p5, (10, .v (.bool true)), (17, .v (.bool (!(x0.1.2.1 == x2.2.1))))] [p4, p3] kr ?_
   rcases Bool.eq_false_or_eq_true (!(x0.1.2.1 == x2.2.1)) with hc6 | hc6
   ·rw [if_pos hc6] at hj2
    rw [hc6]
    refine RunS.segF (n := 30) E0_ok 8 [p1, p6, p5, (25, .v (.bool true))] [p4, p3] kr ?_
    have hq := Option.some.inj hj2; subst hq
    exact RunS.done rfl (Wk.sel2 [0, 1] kr kr kr ⟨⟨_, rfl, bu_c kr kr⟩, ⟨_, rfl, bu_c kr kr⟩, trivial⟩ ⟨lu kr kr, lu kr kr, lu kr kr, lu kr kr, trivial⟩)
   ·rw [if_f hc6] at hj2
    rw [hc6]
    refine RunS.segF (n := 30) E0_ok 8 [p1, p6, p5, (25, .v (.bool (!(x1.1.2.1 == x2.2.1))))] [p4, p3] kr ?_
    have hq := Option.some.inj hj2; subst hq
    exact RunS.done rfl (Wk.sel2 [0, 1] kr kr kr ⟨⟨_, rfl, bu_c kr kr⟩, ⟨_, rfl, bu_c kr kr⟩, trivial⟩ ⟨lu kr kr, lu kr kr, lu kr kr, lu kr kr, trivial⟩)
  ·rw [if_f hc5] at hj2
   rw [hc5]
   refine RunS.segF (n := 30) E0_ok 15 [p1, p6, p5, (25, .v (.bool false))] [p4, p3] kr ?_
   have hq := Option.some.inj hj2; subst hq
   exact RunS.done rfl (Wk.sel2 [0, 1] kr kr kr ⟨⟨_, rfl, bu_c kr kr⟩, ⟨_, rfl, bu_c kr kr⟩, trivial⟩ ⟨lu kr kr, lu kr kr, lu kr kr, lu kr kr, trivial⟩)
 refine Sem.cond (b := j2) kr (fun hb3 => ?_) (fun hb3 => ?_)
 ·rw [if_pos hb3] at h
  refine Sem.seq ?_
  let p7 : Nat × AV := (6, .v (.int .i64 0))
  refine Sem.runS (s1 := ⟨Fr 30 [p7], []⟩) ?_ ?_
  ·refine RunS.segF (n := 30) E0_ok 1 [p7] [p4, p3] kr ?_
   exact RunS.done rfl (Wk.sel2 [] kr kr kr trivial ⟨lu kr kr, trivial⟩)
  refine Sem.ret ?_
  have hq := Option.some.inj h; subst hq
  exact ⟨⟨Fr 30 [p7], []⟩, (Wk.fr kr), .inr rfl, [.v (.int .i64 0)], kr, kr⟩
 ·rw [if_f hb3] at h
  refine Sem.skip ?_
  refine Sem.seq ?_
  obtain ⟨v4, hv4, h⟩ := Option.bind_eq_some_iff.1 h
  let p8 : Nat × AV := (6, .v (.int .i64 v4))
  refine Sem.runS (s1 := ⟨Fr 30 [p8], []⟩) ?_ ?_
  ·refine RunS.segF (n := 30) E0_ok 3 [(26, .fn 187 [] [.pe (.fn 164 [] [.pe (cdClause.enc x3) 0]) 0]), (27, cdSeated.enc x0), (28, cdSeated.enc x1)] [p4, p3] kr ?_
   refine RunS.callV (caps := [.pe (.fn 164 [] [.pe (cdClause.enc x3) 0]) 0]) (xs := [cdSeated.enc x0, cdSeated.enc x1]) (u := (x0, x1, x3, ())) rfl rfl x_court_by_1__court_plain_1 rfl (wantedA_none rfl) kr kr (Sl.cons (Sm.enc (c := cdSeated) (v := x0)) (Sl.cons (Sm.enc (c := cdSeated) (v := x1)) (Sl.cons (Sm.enc (c := (cdP (cdF 164 (csE (cdP cdClause)) (fun _ => rfl)))) (v := x3)) Sl.nil))) (.inl kr) hv4 ?_
   refine RunS.segF (n := 30) E0_ok 1 [p8] [p4, p3] kr ?_
   exact RunS.done rfl (Wk.sel2 [] kr kr kr trivial ⟨lu kr kr, trivial⟩)
  refine Sem.ret ?_
  have hq := Option.some.inj h; subst hq
  exact ⟨⟨Fr 30 [p8], []⟩, (Wk.fr kr), .inr rfl, [.v (.int .i64 v4)], kr, kr⟩
def t_court_orderOf_1__court_by_1__court_plain_1 : List AV → Option AV := told cs_court_orderOf_1__court_by_1__court_plain_1 (fun a => court_orderOf_1__court_by_1__court_plain_1 a.1 a.2.1 a.2.2.1 a.2.2.2.1) er_court_orderOf_1__court_by_1__court_plain_1
theorem x_court_orderOf_1__court_by_1__court_plain_1 : XOk 154 t_court_orderOf_1__court_by_1__court_plain_1 := by
 refine xok_of_sem Tryz.func154 (c := cb_court_orderOf_1__court_by_1__court_plain_1) ?h2 ⟨Tryz.call154⟩ cs_court_orderOf_1__court_by_1__court_plain_1 (fun a => court_orderOf_1__court_by_1__court_plain_1 a.1 a.2.1 a.2.2.1 a.2.2.2.1) er_court_orderOf_1__court_by_1__court_plain_1 (fun a => (by show 4 ≤ 30; decide)) ?h3 ?h4
 case h2 => kernel_rfl
 case h3 => intro b; kernel_rfl
 case h4 => exact fun a b h => court_orderOf_1__court_by_1__court_plain_1_sem a.1 a.2.1 a.2.2.1 a.2.2.2.1 b h
/- trestle/court.plain$3 -/
noncomputable def cb_court_plain_3 : Code := codeOf Tryz.f169
def court_plain_3 (x0 : Seated) (x1 : Clause) : Option (Bool) :=
 some (x0.1.2.2.2.2.1 == x1.2.2.2.2)
def cs_court_plain_3 : Cs (Seated × Clause × Unit) := (csC cdSeated (csC (cdP cdClause) csN))
def er_court_plain_3 (r : Bool) : AV := cdB.enc r
theorem court_plain_3_sem (x0 : Seated) (x1 : Clause) (r : Bool) (h : court_plain_3 x0 x1 = some r) : Sem E0 ⟨none, false⟩ cb_court_plain_3 ⟨Fr 10 (pairs0 0 (cs_court_plain_3.enc (x0, x1, ()))), []⟩ fun e s' => (e = .normal ∨ e = .ret) ∧ ∃ xs, resA E0.P s'.fr s'.hp Tryz.f169.results.toList = some xs ∧ retA xs = er_court_plain_3 r := by
 unfold court_plain_3 at h
 refine Sem.wkQ (Sem.wk (s1 := ⟨Fr 10 [(0, cdSeated.enc x0), (1, .pe (cdClause.enc x1) 0)], []⟩) (Wk.fr kr) ?_)
 let p1 : Option Blk := some ⟨10, 131, [cdSeated.enc x0], false⟩
 refine Sem.sq E0_ok [(1, .pe (cdClause.enc x1) 0), (2, .pt 0 0 0)] [p1] ?_
 refine Sem.seq ?_
 let p2 : Nat × AV := (3, .v (.bool (x0.1.2.2.2.2.1 == x1.2.2.2.2)))
 refine Sem.runS (s1 := ⟨Fr 10 [p2], []⟩) ?_ ?_
 ·refine RunS.segF (n := 10) E0_ok 7 [p2] [p1] kr ?_
  exact RunS.done rfl (Wk.sel2 [] kr kr kr trivial ⟨lu kr kr, trivial⟩)
 refine Sem.ret ?_
 have hq := Option.some.inj h; subst hq
 exact ⟨⟨Fr 10 [p2], []⟩, (Wk.fr kr), .inr rfl, [.v (.bool (x0.1.2.2.2.2.1 == x1.2.2.2.2))], kr, kr⟩
def t_court_plain_3 : List AV → Option AV := told cs_court_plain_3 (fun a => court_plain_3 a.1 a.2.1) er_court_plain_3
theorem x_court_plain_3 : XOk 169 t_court_plain_3 := by
 refine xok_of_sem Tryz.func169 (c := cb_court_plain_3) ?h2 ⟨Tryz.call169⟩ cs_court_plain_3 (fun a => court_plain_3 a.1 a.2.1) er_court_plain_3 (fun a => (by show 2 ≤ 10; decide)) ?h3 ?h4
 case h2 => kernel_rfl
 case h3 => intro b; kernel_rfl
 case h4 => exact fun a b h => court_plain_3_sem a.1 a.2.1 b h
/- trestle/court.named$1 -/
noncomputable def cb_court_named_1__court_plain_3 : Code := codeOf Tryz.f188
def court_named_1__court_plain_3 (x0 : Seated) (x1 : Clause) (x2 : Clause) : Option (Int) :=
 (court_plain_3 x0 x1).bind fun v1 =>
 if (!(v1 == x2.2.2.1)) = true then
 some 0
 else
 some 1
def cs_court_named_1__court_plain_3 : Cs (Seated × Clause × Clause × Unit) := (csC cdSeated (csC (cdP (cdF 169 (csE (cdP cdClause)) (fun _ => rfl))) (csC (cdP cdClause) csN)))
def er_court_named_1__court_plain_3 (r : Int) : AV := cdI.enc r
theorem court_named_1__court_plain_3_sem (x0 : Seated) (x1 : Clause) (x2 : Clause) (r : Int) (h : court_named_1__court_plain_3 x0 x1 x2 = some r) : Sem E0 ⟨none, false⟩ cb_court_named_1__court_plain_3 ⟨Fr 11 (pairs0 0 (cs_court_named_1__court_plain_3.enc (x0, x1, x2, ()))), []⟩ fun e s' => (e = .normal ∨ e = .ret) ∧ ∃ xs, resA E0.P s'.fr s'.hp Tryz.f188.results.toList = some xs ∧ retA xs = er_court_named_1__court_plain_3 r := by
 unfold court_named_1__court_plain_3 at h
 let p1 : Nat × AV := (2, .pe (cdClause.enc x2) 0)
 let p2 : Nat × AV := (1, .pe (.fn 169 [] [.pe (cdClause.enc x1) 0]) 0)
 refine Sem.wkQ (Sem.wk (s1 := ⟨Fr 11 [(0, cdSeated.enc x0), p2, p1], []⟩) (Wk.fr kr) ?_)
 let p3 : Option Blk := some ⟨10, 131, [cdSeated.enc x0], false⟩
 refine Sem.sq E0_ok [p2, p1, (3, .pt 0 0 0)] [p3] ?_
 refine Sem.seq ?_
 refine Sem.seq ?_
 obtain ⟨v1, hv1, h⟩ := Option.bind_eq_some_iff.1 h
 let p4 : Nat × AV := (10, .v (.bool (!(v1 == x2.2.2.1))))
 refine Sem.runDS E0_ok (s1 := ⟨Fr 11 [p4], []⟩) kr ?_ ?_
 ·refine RunDS.segF (n := 11) E0_ok 2 [p1, (5, .fn 169 [] [.pe (cdClause.enc x1) 0]), (6, cdSeated.enc x0)] [p3] kr kr ?_
  refine RunDS.callV (caps := [.pe (cdClause.enc x1) 0]) (xs := [cdSeated.enc x0]) (u := (x0, x1, ())) rfl rfl x_court_plain_3 rfl (wantedA_none rfl) kr kr (Sl.cons (Sm.enc (c := cdSeated) (v := x0)) (Sl.cons (Sm.enc (c := (cdP cdClause)) (v := x1)) Sl.nil)) kr hv1 ?_
  refine RunDS.segF (n := 11) E0_ok 3 [p4] [p3] kr kr ?_
  exact RunDS.done rfl (Wk.sel2 [] kr kr kr trivial ⟨lu kr kr, trivial⟩)
 refine Sem.cond (b := (!(v1 == x2.2.2.1))) kr (fun hb2 => ?_) (fun hb2 => ?_)
 ·rw [if_pos hb2] at h
  refine Sem.sq E0_ok [(4, .v (.int .i64 0))] [] ?_
  refine Sem.ret ?_
  have hq := Option.some.inj h; subst hq
  exact ⟨⟨Fr 11 [(4, .v (.int .i64 0))], []⟩, (Wk.fr kr), .inr rfl, [.v (.int .i64 0)], kr, kr⟩
 ·rw [if_f hb2] at h
  refine Sem.skip ?_
  refine Sem.sq E0_ok [(4, .v (.int .i64 1))] [] ?_
  refine Sem.ret ?_
  have hq := Option.some.inj h; subst hq
  exact ⟨⟨Fr 11 [(4, .v (.int .i64 1))], []⟩, (Wk.fr kr), .inr rfl, [.v (.int .i64 1)], kr, kr⟩
def t_court_named_1__court_plain_3 : List AV → Option AV := told cs_court_named_1__court_plain_3 (fun a => court_named_1__court_plain_3 a.1 a.2.1 a.2.2.1) er_court_named_1__court_plain_3
theorem x_court_named_1__court_plain_3 : XOk 188 t_court_named_1__court_plain_3 := by
 refine xok_of_sem Tryz.func188 (c := cb_court_named_1__court_plain_3) ?h2 ⟨Tryz.call188⟩ cs_court_named_1__court_plain_3 (fun a => court_named_1__court_plain_3 a.1 a.2.1 a.2.2.1) er_court_named_1__court_plain_3 (fun a => (by show 3 ≤ 11; decide)) ?h3 ?h4
 case h2 => kernel_rfl
 case h3 => intro b; kernel_rfl
 case h4 => exact fun a b h => court_named_1__court_plain_3_sem a.1 a.2.1 a.2.2.1 b h
/- trestle/court.by$1 -/
noncomputable def cb_court_by_1__court_named_1__court_plain_3 : Code := codeOf Tryz.f187
def court_by_1__court_named_1__court_plain_3 (x0 : Seated) (x1 : Seated) (x2 : Clause × Clause) : Option (Int) :=
 (court_named_1__court_plain_3 x0 x2.1 x2.2).bind fun v1 =>
 (court_named_1__court_plain_3 x1 x2.1 x2.2).bind fun v2 =>
 (cmp_Compare_int v1 v2).bind fun v3 =>
 some v3
def cs_court_by_1__court_named_1__court_plain_3 : Cs (Seated × Seated × (Clause × Clause) × Unit) := (csC cdSeated (csC cdSeated (csC (cdP (cdF 188 (csC (cdP (cdF 169 (csE (cdP cdClause)) (fun _ => rfl))) (csE (cdP cdClause))) (fun _ => rfl))) csN)))
def er_court_by_1__court_named_1__court_plain_3 (r : Int) : AV := cdI.enc r
theorem court_by_1__court_named_1__court_plain_3_sem (x0 : Seated) (x1 : Seated) (x2 : Clause × Clause) (r : Int) (h : court_by_1__court_named_1__court_plain_3 x0 x1 x2 = some r) : Sem E0 ⟨none, false⟩ cb_court_by_1__court_named_1__court_plain_3 ⟨Fr 13 (pairs0 0 (cs_court_by_1__court_named_1__court_plain_3.enc (x0, x1, x2, ()))), []⟩ fun e s' => (e = .normal ∨ e = .ret) ∧ ∃ xs, resA E0.P s'.fr s'.hp Tryz.f187.results.toList = some xs ∧ retA xs = er_court_by_1__court_named_1__court_plain_3 r := by
 unfold court_by_1__court_named_1__court_plain_3 at h
 let p1 : Nat × AV := (2, .pe (.fn 188 [] [.pe (.fn 169 [] [.pe (cdClause.enc x2.1) 0]) 0, .pe (cdClause.enc x2.2) 0]) 0)
 refine Sem.wkQ (Sem.wk (s1 := ⟨Fr 13 [(0, cdSeated.enc x0), (1, cdSeated.enc x1), p1], []⟩) (Wk.fr kr) ?_)
 let p2 : Option Blk := some ⟨10, 131, [cdSeated.enc x1], false⟩
 let p3 : Option Blk := some ⟨10, 131, [cdSeated.enc x0], false⟩
 refine Sem.sq E0_ok [p1, (3, .pt 0 0 0), (4, .pt 1 0 0)] [p3, p2] ?_
 refine Sem.seq ?_
 obtain ⟨v1, hv1, h⟩ := Option.bind_eq_some_iff.1 h
 obtain ⟨v2, hv2, h⟩ := Option.bind_eq_some_iff.1 h
 obtain ⟨v3, hv3, h⟩ := Option.bind_eq_some_iff.1 h
 let p4 : Nat × AV := (5, .v (.int .i64 v3))
 refine Sem.runDS E0_ok (s1 := ⟨Fr 13 [p4], []⟩) kr ?_ ?_
 ·refine RunDS.segF (n := 13) E0_ok 2 [p1, (4, .pt 1 0 0), (6, .fn 188 [] [.pe (.fn 169 [] [.pe (cdClause.enc x2.1) 0]) 0, .pe (cdClause.enc x2.2) 0]), (7, cdSeated.enc x0)] [p3, p2] kr kr ?_
  refine RunDS.callV (caps := [.pe (.fn 169 [] [.pe (cdClause.enc x2.1) 0]) 0, .pe (cdClause.enc x2.2) 0]) (xs := [cdSeated.enc x0]) (u := (x0, x2.1, x2.2, ())) rfl rfl x_court_named_1__court_plain_3 rfl (wantedA_none rfl) kr kr (Sl.cons (Sm.enc (c := cdSeated) (v := x0)) (Sl.cons (Sm.enc (c := (cdP (cdF 169 (csE (cdP cdClause)) (fun _ => rfl)))) (v := x2.1)) (Sl.cons (Sm.enc (c := (cdP cdClause)) (v := x2.2)) Sl.nil))) kr hv1 ?_
  refine RunDS.segF (n := 13) E0_ok 2 [(8, .v (.int .i64 v1)), (9, .fn 188 [] [.pe (.fn 169 [] [.pe (cdClause.enc x2.1) 0]) 0, .pe (cdClause.enc x2.2) 0]), (10, cdSeated.enc x1)] [p3, p2] kr kr ?_
  refine RunDS.callV (caps := [.pe (.fn 169 [] [.pe (cdClause.enc x2.1) 0]) 0, .pe (cdClause.enc x2.2) 0]) (xs := [cdSeated.enc x1]) (u := (x1, x2.1, x2.2, ())) rfl rfl x_court_named_1__court_plain_3 rfl (wantedA_none rfl) kr kr (Sl.cons (Sm.enc (c := cdSeated) (v := x1)) (Sl.cons (Sm.enc (c := (cdP (cdF 169 (csE (cdP cdClause)) (fun _ => rfl)))) (v := x2.1)) (Sl.cons (Sm.enc (c := (cdP cdClause)) (v := x2.2)) Sl.nil))) kr hv2 ?_
  refine RunDS.callV (caps := []) (xs := [.v (.int .i64 v1), .v (.int .i64 v2)]) (u := (v1, v2, ())) rfl rfl x_cmp_Compare_int rfl (wantedA_none rfl) kr kr (Sl.cons (Sm.enc (c := cdI) (v := v1)) (Sl.cons (Sm.enc (c := cdI) (v := v2)) Sl.nil)) kr hv3 ?_
  refine RunDS.segF (n := 13) E0_ok 1 [p4] [p3, p2] kr kr ?_
  exact RunDS.done rfl (Wk.sel2 [] kr kr kr trivial ⟨lu kr kr, trivial⟩)
 refine Sem.ret ?_
 have hq := Option.some.inj h; subst hq
 exact ⟨⟨Fr 13 [p4], []⟩, (Wk.fr kr), .inr rfl, [.v (.int .i64 v3)], kr, kr⟩
def t_court_by_1__court_named_1__court_plain_3 : List AV → Option AV := told cs_court_by_1__court_named_1__court_plain_3 (fun a => court_by_1__court_named_1__court_plain_3 a.1 a.2.1 a.2.2.1) er_court_by_1__court_named_1__court_plain_3
theorem x_court_by_1__court_named_1__court_plain_3 : XOk 187 t_court_by_1__court_named_1__court_plain_3 := by
 refine xok_of_sem Tryz.func187 (c := cb_court_by_1__court_named_1__court_plain_3) ?h2 ⟨Tryz.call187⟩ cs_court_by_1__court_named_1__court_plain_3 (fun a => court_by_1__court_named_1__court_plain_3 a.1 a.2.1 a.2.2.1) er_court_by_1__court_named_1__court_plain_3 (fun a => (by show 3 ≤ 13; decide)) ?h3 ?h4
 case h2 => kernel_rfl
 case h3 => intro b; kernel_rfl
 case h4 => exact fun a b h => court_by_1__court_named_1__court_plain_3_sem a.1 a.2.1 a.2.2.1 b h
/- trestle/court.orderOf$1 -/
noncomputable def cb_court_orderOf_1__court_by_1__court_named_1__court_plain_3 : Code := codeOf Tryz.f154
def court_orderOf_1__court_by_1__court_named_1__court_plain_3 (x0 : Seated) (x1 : Seated) (x2 : Clause) (x3 : Clause × Clause) : Option (Int) :=
 (if (!(x2.2.1 == [])) = true then if (!(x0.1.2.1 == x2.2.1)) = true then some true else some (!(x1.1.2.1 == x2.2.1)) else some false).bind fun j2 =>
 if j2 = true then
 some 0
 else
 (court_by_1__court_named_1__court_plain_3 x0 x1 x3).bind fun v4 =>
 some v4
def cs_court_orderOf_1__court_by_1__court_named_1__court_plain_3 : Cs (Seated × Seated × Clause × (Clause × Clause) × Unit) := (csC cdSeated (csC cdSeated (csC (cdP cdClause) (csC (cdP (cdF 187 (csE (cdP (cdF 188 (csC (cdP (cdF 169 (csE (cdP cdClause)) (fun _ => rfl))) (csE (cdP cdClause))) (fun _ => rfl)))) (fun _ => rfl))) csN))))
def er_court_orderOf_1__court_by_1__court_named_1__court_plain_3 (r : Int) : AV := cdI.enc r
theorem court_orderOf_1__court_by_1__court_named_1__court_plain_3_sem (x0 : Seated) (x1 : Seated) (x2 : Clause) (x3 : Clause × Clause) (r : Int) (h : court_orderOf_1__court_by_1__court_named_1__court_plain_3 x0 x1 x2 x3 = some r) : Sem E0 ⟨none, false⟩ cb_court_orderOf_1__court_by_1__court_named_1__court_plain_3 ⟨Fr 30 (pairs0 0 (cs_court_orderOf_1__court_by_1__court_named_1__court_plain_3.enc (x0, x1, x2, x3, ()))), []⟩ fun e s' => (e = .normal ∨ e = .ret) ∧ ∃ xs, resA E0.P s'.fr s'.hp Tryz.f154.results.toList = some xs ∧ retA xs = er_court_orderOf_1__court_by_1__court_named_1__court_plain_3 r := by
 unfold court_orderOf_1__court_by_1__court_named_1__court_plain_3 at h
 let p1 : Nat × AV := (3, .pe (.fn 187 [] [.pe (.fn 188 [] [.pe (.fn 169 [] [.pe (cdClause.enc x3.1) 0]) 0, .pe (cdClause.enc x3.2) 0]) 0]) 0)
 let p2 : Nat × AV := (2, .pe (cdClause.enc x2) 0)
 refine Sem.wkQ (Sem.wk (s1 := ⟨Fr 30 [(0, cdSeated.enc x0), (1, cdSeated.enc x1), p2, p1], []⟩) (Wk.fr kr) ?_)
 let p3 : Option Blk := some ⟨10, 131, [cdSeated.enc x1], false⟩
 let p4 : Option Blk := some ⟨10, 131, [cdSeated.enc x0], false⟩
 let p5 : Nat × AV := (5, .pt 1 0 0)
 let p6 : Nat × AV := (4, .pt 0 0 0)
 refine Sem.sq E0_ok [p2, p1, p6, p5] [p4, p3] ?_
 refine Sem.seq ?_
 refine Sem.seq ?_
 obtain ⟨j2, hj2, h⟩ := Option.bind_eq_some_iff.1 h
 refine Sem.runS (s1 := ⟨Fr 30 [p1, p6, p5, (25, .v (.bool j2))], [p4, p3]⟩) ?_ ?_
 ·refine RunS.segF (n := 30) E0_ok 4 [p2, p1, p6, p5, (10, .v (.bool (!(x2.2.1 == []))))] [p4, p3] kr ?_
  rcases Bool.eq_false_or_eq_true (!(x2.2.1 == [])) with hc5 | hc5
  ·rw [if_pos hc5] at hj2
   rw [hc5]
   refine RunS.segF (n := 30) E0_ok 7 [p2, p1, p6, p5, (10, .v (.bool true)), (17, .v (.bool (!(x0.1.2.1 == x2.2.1))))] [p4, p3] kr ?_
   rcases Bool.eq_false_or_eq_true (!(x0.1.2.1 == x2.2.1)) with hc6 | hc6
   ·rw [if_pos hc6] at hj2
    rw [hc6]
    refine RunS.segF (n := 30) E0_ok 8 [p1, p6, p5, (25, .v (.bool true))] [p4, p3] kr ?_
    have hq := Option.some.inj hj2; subst hq
    exact RunS.done rfl (Wk.sel2 [0, 1] kr kr kr ⟨⟨_, rfl, bu_c kr kr⟩, ⟨_, rfl, bu_c kr kr⟩, trivial⟩ ⟨lu kr kr, lu kr kr, lu kr kr, lu kr kr, trivial⟩)
   ·rw [if_f hc6] at hj2
    rw [hc6]
    refine RunS.segF (n := 30) E0_ok 8 [p1, p6, p5, (25, .v (.bool (!(x1.1.2.1 == x2.2.1))))] [p4, p3] kr ?_
    have hq := Option.some.inj hj2; subst hq
    exact RunS.done rfl (Wk.sel2 [0, 1] kr kr kr ⟨⟨_, rfl, bu_c kr kr⟩, ⟨_, rfl, bu_c kr kr⟩, trivial⟩ ⟨lu kr kr, lu kr kr, lu kr kr, lu kr kr, trivial⟩)
  ·rw [if_f hc5] at hj2
   rw [hc5]
   refine RunS.segF (n := 30) E0_ok 15 [p1, p6, p5, (25, .v (.bool false))] [p4, p3] kr ?_
   have hq := Option.some.inj hj2; subst hq
   exact RunS.done rfl (Wk.sel2 [0, 1] kr kr kr ⟨⟨_, rfl, bu_c kr kr⟩, ⟨_, rfl, bu_c kr kr⟩, trivial⟩ ⟨lu kr kr, lu kr kr, lu kr kr, lu kr kr, trivial⟩)
 refine Sem.cond (b := j2) kr (fun hb3 => ?_) (fun hb3 => ?_)
 ·rw [if_pos hb3] at h
  refine Sem.seq ?_
  let p7 : Nat × AV := (6, .v (.int .i64 0))
  refine Sem.runS (s1 := ⟨Fr 30 [p7], []⟩) ?_ ?_
  ·refine RunS.segF (n := 30) E0_ok 1 [p7] [p4, p3] kr ?_
   exact RunS.done rfl (Wk.sel2 [] kr kr kr trivial ⟨lu kr kr, trivial⟩)
  refine Sem.ret ?_
  have hq := Option.some.inj h; subst hq
  exact ⟨⟨Fr 30 [p7], []⟩, (Wk.fr kr), .inr rfl, [.v (.int .i64 0)], kr, kr⟩
 ·rw [if_f hb3] at h
  refine Sem.skip ?_
  refine Sem.seq ?_
  obtain ⟨v4, hv4, h⟩ := Option.bind_eq_some_iff.1 h
  let p8 : Nat × AV := (6, .v (.int .i64 v4))
  refine Sem.runS (s1 := ⟨Fr 30 [p8], []⟩) ?_ ?_
  ·refine RunS.segF (n := 30) E0_ok 3 [(26, .fn 187 [] [.pe (.fn 188 [] [.pe (.fn 169 [] [.pe (cdClause.enc x3.1) 0]) 0, .pe (cdClause.enc x3.2) 0]) 0]), (27, cdSeated.enc x0), (28, cdSeated.enc x1)] [p4, p3] kr ?_
   refine RunS.callV (caps := [.pe (.fn 188 [] [.pe (.fn 169 [] [.pe (cdClause.enc x3.1) 0]) 0, .pe (cdClause.enc x3.2) 0]) 0]) (xs := [cdSeated.enc x0, cdSeated.enc x1]) (u := (x0, x1, x3, ())) rfl rfl x_court_by_1__court_named_1__court_plain_3 rfl (wantedA_none rfl) kr kr (Sl.cons (Sm.enc (c := cdSeated) (v := x0)) (Sl.cons (Sm.enc (c := cdSeated) (v := x1)) (Sl.cons (Sm.enc (c := (cdP (cdF 188 (csC (cdP (cdF 169 (csE (cdP cdClause)) (fun _ => rfl))) (csE (cdP cdClause))) (fun _ => rfl)))) (v := x3)) Sl.nil))) (.inl kr) hv4 ?_
   refine RunS.segF (n := 30) E0_ok 1 [p8] [p4, p3] kr ?_
   exact RunS.done rfl (Wk.sel2 [] kr kr kr trivial ⟨lu kr kr, trivial⟩)
  refine Sem.ret ?_
  have hq := Option.some.inj h; subst hq
  exact ⟨⟨Fr 30 [p8], []⟩, (Wk.fr kr), .inr rfl, [.v (.int .i64 v4)], kr, kr⟩
def t_court_orderOf_1__court_by_1__court_named_1__court_plain_3 : List AV → Option AV := told cs_court_orderOf_1__court_by_1__court_named_1__court_plain_3 (fun a => court_orderOf_1__court_by_1__court_named_1__court_plain_3 a.1 a.2.1 a.2.2.1 a.2.2.2.1) er_court_orderOf_1__court_by_1__court_named_1__court_plain_3
theorem x_court_orderOf_1__court_by_1__court_named_1__court_plain_3 : XOk 154 t_court_orderOf_1__court_by_1__court_named_1__court_plain_3 := by
 refine xok_of_sem Tryz.func154 (c := cb_court_orderOf_1__court_by_1__court_named_1__court_plain_3) ?h2 ⟨Tryz.call154⟩ cs_court_orderOf_1__court_by_1__court_named_1__court_plain_3 (fun a => court_orderOf_1__court_by_1__court_named_1__court_plain_3 a.1 a.2.1 a.2.2.1 a.2.2.2.1) er_court_orderOf_1__court_by_1__court_named_1__court_plain_3 (fun a => (by show 4 ≤ 30; decide)) ?h3 ?h4
 case h2 => kernel_rfl
 case h3 => intro b; kernel_rfl
 case h4 => exact fun a b h => court_orderOf_1__court_by_1__court_named_1__court_plain_3_sem a.1 a.2.1 a.2.2.1 a.2.2.2.1 b h
/- trestle/court.plain$4 -/
noncomputable def cb_court_plain_4 : Code := codeOf Tryz.f170
def court_plain_4 (x0 : Seated) : Option (Bool) :=
 some x0.1.2.2.2.2.2.2.1
def cs_court_plain_4 : Cs (Seated × Unit) := (csC cdSeated csN)
def er_court_plain_4 (r : Bool) : AV := cdB.enc r
theorem court_plain_4_sem (x0 : Seated) (r : Bool) (h : court_plain_4 x0 = some r) : Sem E0 ⟨none, false⟩ cb_court_plain_4 ⟨Fr 6 (pairs0 0 (cs_court_plain_4.enc (x0, ()))), []⟩ fun e s' => (e = .normal ∨ e = .ret) ∧ ∃ xs, resA E0.P s'.fr s'.hp Tryz.f170.results.toList = some xs ∧ retA xs = er_court_plain_4 r := by
 unfold court_plain_4 at h
 refine Sem.wkQ (Sem.wk (s1 := ⟨Fr 6 [(0, cdSeated.enc x0)], []⟩) (Wk.fr kr) ?_)
 let p1 : Option Blk := some ⟨10, 131, [cdSeated.enc x0], false⟩
 refine Sem.sq E0_ok [(1, .pt 0 0 0)] [p1] ?_
 refine Sem.seq ?_
 let p2 : Nat × AV := (2, .v (.bool x0.1.2.2.2.2.2.2.1))
 refine Sem.runS (s1 := ⟨Fr 6 [p2], []⟩) ?_ ?_
 ·refine RunS.segF (n := 6) E0_ok 4 [p2] [p1] kr ?_
  exact RunS.done rfl (Wk.sel2 [] kr kr kr trivial ⟨lu kr kr, trivial⟩)
 refine Sem.ret ?_
 have hq := Option.some.inj h; subst hq
 exact ⟨⟨Fr 6 [p2], []⟩, (Wk.fr kr), .inr rfl, [.v (.bool x0.1.2.2.2.2.2.2.1)], kr, kr⟩
def t_court_plain_4 : List AV → Option AV := told cs_court_plain_4 (fun a => court_plain_4 a.1) er_court_plain_4
theorem x_court_plain_4 : XOk 170 t_court_plain_4 := by
 refine xok_of_sem Tryz.func170 (c := cb_court_plain_4) ?h2 ⟨Tryz.call170⟩ cs_court_plain_4 (fun a => court_plain_4 a.1) er_court_plain_4 (fun a => (by show 1 ≤ 6; decide)) ?h3 ?h4
 case h2 => kernel_rfl
 case h3 => intro b; kernel_rfl
 case h4 => exact fun a b h => court_plain_4_sem a.1 b h
end Go.Proofs.YtiphapnckldpbaaGreatDoor
