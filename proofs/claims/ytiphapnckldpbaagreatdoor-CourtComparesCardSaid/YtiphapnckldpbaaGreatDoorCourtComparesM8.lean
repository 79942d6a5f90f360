/- Lemmas for the proof. -/
import Derived.Test.YtiphapnckldpbaaGreatDoorCourtComparesM1
import Derived.Test.YtiphapnckldpbaaGreatDoorCourtComparesM2
import Derived.Test.YtiphapnckldpbaaGreatDoorCourtComparesM3
import Derived.Test.YtiphapnckldpbaaGreatDoorCourtComparesM4
import Derived.Test.YtiphapnckldpbaaGreatDoorCourtComparesM5
import Derived.Test.YtiphapnckldpbaaGreatDoorCourtComparesM6
import Derived.Test.YtiphapnckldpbaaGreatDoorCourtComparesM7
set_option maxHeartbeats 4000000
set_option maxRecDepth 100000
namespace Go.Proofs.YtiphapnckldpbaaGreatDoor
open Go.RowKit
/- trestle/court.named$1 -/
noncomputable def cb_court_named_1__court_plain_4 : Code := codeOf Tryz.f188
def court_named_1__court_plain_4 (x0 : Seated) (x2 : Clause) : Option (Int) :=
 (court_plain_4 x0).bind fun v1 =>
 if (!(v1 == x2.2.2.1)) = true then
 some 0
 else
 some 1
def cs_court_named_1__court_plain_4 : Cs (Seated × Unit × Clause × Unit) := (csC cdSeated (csC (cdP (cdF 170 csN (fun _ => rfl))) (csC (cdP cdClause) csN)))
def er_court_named_1__court_plain_4 (r : Int) : AV := cdI.enc r
theorem court_named_1__court_plain_4_sem (x0 : Seated) (x2 : Clause) (r : Int) (h : court_named_1__court_plain_4 x0 x2 = some r) : Sem E0 ⟨none, false⟩ cb_court_named_1__court_plain_4 ⟨Fr 11 (pairs0 0 (cs_court_named_1__court_plain_4.enc (x0, (), x2, ()))), []⟩ fun e s' => (e = .normal ∨ e = .ret) ∧ ∃ xs, resA E0.P s'.fr s'.hp Tryz.f188.results.toList = some xs ∧ retA xs = er_court_named_1__court_plain_4 r := by
 unfold court_named_1__court_plain_4 at h
 let p1 : Nat × AV := (2, .pe (cdClause.enc x2) 0)
 refine Sem.wkQ (Sem.wk (s1 := ⟨Fr 11 [(0, cdSeated.enc x0), (1, .pe (.fn 170 [] []) 0), p1], []⟩) (Wk.fr kr) ?_)
 let p2 : Option Blk := some ⟨10, 131, [cdSeated.enc x0], false⟩
 refine Sem.sq E0_ok [(1, .pe (.fn 170 [] []) 0), p1, (3, .pt 0 0 0)] [p2] ?_
 refine Sem.seq ?_
 refine Sem.seq ?_
 obtain ⟨v1, hv1, h⟩ := Option.bind_eq_some_iff.1 h
 let p3 : Nat × AV := (10, .v (.bool (!(v1 == x2.2.2.1))))
 refine Sem.runDS E0_ok (s1 := ⟨Fr 11 [p3], []⟩) kr ?_ ?_
 ·refine RunDS.segF (n := 11) E0_ok 2 [p1, (5, .fn 170 [] []), (6, cdSeated.enc x0)] [p2] kr kr ?_
  refine RunDS.callV (caps := []) (xs := [cdSeated.enc x0]) (u := (x0, ())) rfl rfl x_court_plain_4 rfl (wantedA_none rfl) kr kr (Sl.cons (Sm.enc (c := cdSeated) (v := x0)) Sl.nil) kr hv1 ?_
  refine RunDS.segF (n := 11) E0_ok 3 [p3] [p2] kr kr ?_
  exact RunDS.done rfl (Wk.sel2 [] kr kr kr trivial ⟨lu kr kr, trivial⟩)
 refine Sem.cond (b := (!(v1 == x2.2.2.1))) kr (fun hb2 => ?_) (fun hb2 => ?_)
 ·rw [if_pos hb2] at h
  refine Sem.sq E0_ok [(4, .v (.int .i64 0))] [] ?_
  refine Sem.ret ?_
  have hq := Option.some.inj h; subst hq
  exact ⟨⟨Fr 11 [(4, .v (.int .i64 0))], []⟩, (Wk.fr kr), .inr rfl, [.v (.int .i64 0)], kr, kr⟩
 ·rw [if_f hb2] at h
  refine Sem.skip ?_
  refine Sem.sq E0_ok [(4, .v (.int .i64 1))] [] ?_
  refine Sem.ret ?_
  have hq := Option.some.inj h; subst hq
  exact ⟨⟨Fr 11 [(4, .v (.int .i64 1))], []⟩, (Wk.fr kr), .inr rfl, [.v (.int .i64 1)], kr, kr⟩
def t_court_named_1__court_plain_4 : List AV → Option AV := told cs_court_named_1__court_plain_4 (fun a => court_named_1__court_plain_4 a.1 a.2.2.1) er_court_named_1__court_plain_4
theorem x_court_named_1__court_plain_4 : XOk 188 t_court_named_1__court_plain_4 := by
 refine xok_of_sem Tryz.func188 (c := cb_court_named_1__court_plain_4) ?h2 ⟨Tryz.call188⟩ cs_court_named_1__court_plain_4 (fun a => court_named_1__court_plain_4 a.1 a.2.2.1) er_court_named_1__court_plain_4 (fun a => (by show 3 ≤ 11; decide)) ?h3 ?h4
 case h2 => kernel_rfl
 case h3 => intro b; kernel_rfl
 case h4 => exact fun a b h => court_named_1__court_plain_4_sem a.1 a.2.2.1 b h
/- trestle/court.by$1 -/
noncomputable def cb_court_by_1__court_named_1__court_plain_4 : Code := codeOf Tryz.f187
def court_by_1__court_named_1__court_plain_4 (x0 : Seated) (x1 : Seated) (x2 : Unit × Clause) : Option (Int) :=
 (court_named_1__court_plain_4 x0 x2.2).bind fun v1 =>
 (court_named_1__court_plain_4 x1 x2.2).bind fun v2 =>
 (cmp_Compare_int v1 v2).bind fun v3 =>
 some v3
def cs_court_by_1__court_named_1__court_plain_4 : Cs (Seated × Seated × (Unit × Clause) × Unit) := (csC cdSeated (csC cdSeated (csC (cdP (cdF 188 (csC (cdP (cdF 170 csN (fun _ => rfl))) (csE (cdP cdClause))) (fun _ => rfl))) csN)))
def er_court_by_1__court_named_1__court_plain_4 (r : Int) : AV := cdI.enc r
theorem court_by_1__court_named_1__court_plain_4_sem (x0 : Seated) (x1 : Seated) (x2 : Unit × Clause) (r : Int) (h : court_by_1__court_named_1__court_plain_4 x0 x1 x2 = some r) : Sem E0 ⟨none, false⟩ cb_court_by_1__court_named_1__court_plain_4 ⟨Fr 13 (pairs0 0 (cs_court_by_1__court_named_1__court_plain_4.enc (x0, x1, x2, ()))), []⟩ fun e s' => (e = .normal ∨ e = .ret) ∧ ∃ xs, resA E0.P s'.fr s'.hp Tryz.f187.results.toList = some xs ∧ retA xs = er_court_by_1__court_named_1__court_plain_4 r := by
 unfold court_by_1__court_named_1__court_plain_4 at h
 let p1 : Nat × AV := (2, .pe (.fn 188 [] [.pe (.fn 170 [] []) 0, .pe (cdClause.enc x2.2) 0]) 0)
 refine Sem.wkQ (Sem.wk (s1 := ⟨Fr 13 [(0, cdSeated.enc x0), (1, cdSeated.enc x1), p1], []⟩) (Wk.fr kr) ?_)
 let p2 : Option Blk := some ⟨10, 131, [cdSeated.enc x1], false⟩
 let p3 : Option Blk := some ⟨10, 131, [cdSeated.enc x0], false⟩
 refine Sem.sq E0_ok [p1, (3, .pt 0 0 0), (4, .pt 1 0 0)] [p3, p2] ?_
 refine Sem.seq ?_
 obtain ⟨v1, hv1, h⟩ := Option.bind_eq_some_iff.1 h
 obtain ⟨v2, hv2, h⟩ := Option.bind_eq_some_iff.1 h
 obtain ⟨v3, hv3, h⟩ := Option.bind_eq_some_iff.1 h
 let p4 : Nat × AV := (5, .v (.int .i64 v3))
 refine Sem.runDS E0_ok (s1 := ⟨Fr 13 [p4], []⟩) kr ?_ ?_
 ·refine RunDS.segF (n := 13) E0_ok 2 [p1, (4, .pt 1 0 0), (6, .fn 188 [] [.pe (.fn 170 [] []) 0, .pe (cdClause.enc x2.2) 0]), (7, cdSeated.enc x0)] [p3, p2] kr kr ?_
  refine RunDS.callV (caps := [.pe (.fn 170 [] []) 0, .pe (cdClause.enc x2.2) 0]) (xs := [cdSeated.enc x0]) (u := (x0, (), x2.2, ())) rfl rfl x_court_named_1__court_plain_4 rfl (wantedA_none rfl) kr kr (Sl.cons (Sm.enc (c := cdSeated) (v := x0)) (Sl.cons (Sm.enc (c := (cdP (cdF 170 csN (fun _ => rfl)))) (v := ())) (Sl.cons (Sm.enc (c := (cdP cdClause)) (v := x2.2)) Sl.nil))) kr hv1 ?_
  refine RunDS.segF (n := 13) E0_ok 2 [(8, .v (.int .i64 v1)), (9, .fn 188 [] [.pe (.fn 170 [] []) 0, .pe (cdClause.enc x2.2) 0]), (10, cdSeated.enc x1)] [p3, p2] kr kr ?_
  refine RunDS.callV (caps := [.pe (.fn 170 [] []) 0, .pe (cdClause.enc x2.2) 0]) (xs := [cdSeated.enc x1]) (u := (x1, (), x2.2, ())) rfl rfl x_court_named_1__court_plain_4 rfl (wantedA_none rfl) kr kr (Sl.cons (Sm.enc (c := cdSeated) (v := x1)) (Sl.cons (Sm.enc (c := (cdP (cdF 170 csN (fun _ => rfl)))) (v := ())) (Sl.cons (Sm.enc (c := (cdP cdClause)) (v := x2.2)) Sl.nil))) kr hv2 ?_
  refine RunDS.callV (caps := []) (xs := [.v (.int .i64 v1), .v (.int .i64 v2)]) (u := (v1, v2, ())) rfl rfl x_cmp_Compare_int rfl (wantedA_none rfl) kr kr (Sl.cons (Sm.enc (c := cdI) (v := v1)) (Sl.cons (Sm.enc (c := cdI) (v := v2)) Sl.nil)) kr hv3 ?_
  refine RunDS.segF (n := 13) E0_ok 1 [p4] [p3, p2] kr kr ?_
  exact RunDS.done rfl (Wk.sel2 [] kr kr kr trivial ⟨lu kr kr, trivial⟩)
 refine Sem.ret ?_
 have hq := Option.some.inj h; subst hq
 exact ⟨⟨Fr 13 [p4], []⟩, (Wk.fr kr), .inr rfl, [.v (.int .i64 v3)], kr, kr⟩
def t_court_by_1__court_named_1__court_plain_4 : List AV → Option AV := told cs_court_by_1__court_named_1__court_plain_4 (fun a => court_by_1__court_named_1__court_plain_4 a.1 a.2.1 a.2.2.1) er_court_by_1__court_named_1__court_plain_4
theorem x_court_by_1__court_named_1__court_plain_4 : XOk 187 t_court_by_1__court_named_1__court_plain_4 := by
 refine xok_of_sem Tryz.func187 (c := cb_court_by_1__court_named_1__court_plain_4) ?h2 ⟨Tryz.call187⟩ cs_court_by_1__court_named_1__court_plain_4 (fun a => court_by_1__court_named_1__court_plain_4 a.1 a.2.1 a.2.2.1) er_court_by_1__court_named_1__court_plain_4 (fun a => (by show 3 ≤ 13; decide)) ?h3 ?h4
 case h2 => kernel_rfl
 case h3 => intro b; kernel_rfl
 case h4 => exact fun a b h => court_by_1__court_named_1__court_plain_4_sem a.1 a.2.1 a.2.2.1 b h
/- trestle/court.orderOf$1 -/
noncomputable def cb_court_orderOf_1__court_by_1__court_named_1__court_plain_4 : Code := codeOf Tryz.f154
def court_orderOf_1__court_by_1__court_named_1__court_plain_4 (x0 : Seated) (x1 : Seated) (x2 : Clause) (x3 : Unit × Clause) : Option (Int) :=
 (if (!(x2.2.1 == [])) = true then if (!(x0.1.2.1 == x2.2.1)) = true then some true else some (!(x1.1.2.1 == x2.2.1)) else some false).bind fun j2 =>
 if j2 = true then
 some 0
 else
 (court_by_1__court_named_1__court_plain_4 x0 x1 ((), x3.2)).bind fun v4 =>
 some v4
def cs_court_orderOf_1__court_by_1__court_named_1__court_plain_4 : Cs (Seated × Seated × Clause × (Unit × Clause) × Unit) := (csC cdSeated (csC cdSeated (csC (cdP cdClause) (csC (cdP (cdF 187 (csE (cdP (cdF 188 (csC (cdP (cdF 170 csN (fun _ => rfl))) (csE (cdP cdClause))) (fun _ => rfl)))) (fun _ => rfl))) csN))))
def er_court_orderOf_1__court_by_1__court_named_1__court_plain_4 (r : Int) : AV := cdI.enc r
theorem court_orderOf_1__court_by_1__court_named_1__court_plain_4_sem (x0 : Seated) (x1 : Seated) (x2 : Clause) (x3 : Unit × Clause) (r : Int) (h : court_orderOf_1__court_by_1__court_named_1__court_plain_4 x0 x1 x2 x3 = some r) : Sem E0 ⟨none, false⟩ cb_court_orderOf_1__court_by_1__court_named_1__court_plain_4 ⟨Fr 30 (pairs0 0 (cs_court_orderOf_1__court_by_1__court_named_1__court_plain_4.enc (x0, x1, x2, x3, ()))), []⟩ fun e s' => (e = .normal ∨ e = .ret) ∧ ∃ xs, resA E0.P s'.fr s'.hp Tryz.f154.results.toList = some xs ∧ retA xs = er_court_orderOf_1__court_by_1__court_named_1__court_plain_4 r := by
 unfold court_orderOf_1__court_by_1__court_named_1__court_plain_4 at h
 let p1 : Nat × AV := (3, .pe (.fn 187 [] [.pe (.fn 188 [] [.pe (.fn 170 [] []) 0, .pe (cdClause.enc x3.2) 0]) 0]) 0)
 let p2 : Nat × AV := (2, .pe (cdClause.enc x2) 0)
 refine Sem.wkQ (Sem.wk (s1 := ⟨Fr 30 [(0, cdSeated.enc x0), (1, cdSeated.enc x1), p2, p1], []⟩) (Wk.fr kr) ?_)
 let p3 : Option Blk := some ⟨10, 131, [cdSeated.enc x1], false⟩
 let p4 : Option Blk := some ⟨10, 131, [cdSeated.enc x0], false⟩
 let p5 : Nat × AV := (5, .pt 1 0 0)
 let p6 : Nat × AV := (4, .pt 0 0 0)
 refine Sem.sq E0_ok [p2, p1, p6, p5] [p4, p3] ?_
 refine Sem.seq ?_
 refine Sem.seq ?_
 obtain ⟨j2, hj2, h⟩ := Option.bind_eq_some_iff.1 h
 refine Sem.runS (s1 := ⟨Fr 30 [p1, p6, p5, (25, .v (.bool j2))], [p4, p3]⟩) ?_ ?_
 ·refine RunS.segF (n := 30) E0_ok 4 [p2, p1, p6, p5, (10, .v (.bool (!(x2.2.1 == []))))] [p4, p3] kr ?_
  rcases Bool.eq_false_or_eq_true (!(x2.2.1 == [])) with hc5 | hc5
  ·rw [if_pos hc5] at hj2
   rw [hc5]
   refine RunS.segF (n := 30) E0_ok 7 [p2, p1, p6, p5, (10, .v (.bool true)), (17, .v (.bool (!(x0.1.2.1 == x2.2.1))))] [p4, p3] kr ?_
   rcases Bool.eq_false_or_eq_true (!(x0.1.2.1 == x2.2.1)) with hc6 | hc6
   ·rw [if_pos hc6] at hj2
    rw [hc6]
    refine RunS.segF (n := 30) E0_ok 8 [p1, p6, p5, (25, .v (.bool true))] [p4, p3] kr ?_
    have hq := Option.some.inj hj2; subst hq
    exact RunS.done rfl (Wk.sel2 [0, 1] kr kr kr ⟨⟨_, rfl, bu_c kr kr⟩, ⟨_, rfl, bu_c kr kr⟩, trivial⟩ ⟨lu kr kr, lu kr kr, lu kr kr, lu kr kr, trivial⟩)
   ·rw [if_f hc6] at hj2
    rw [hc6]
    refine RunS.segF (n := 30) E0_ok 8 [p1, p6, p5, (25, .v (.bool (!(x1.1.2.1 == x2.2.1))))] [p4, p3] kr ?_
    have hq := Option.some.inj hj2; subst hq
    exact RunS.done rfl (Wk.sel2 [0, 1] kr kr kr ⟨⟨_, rfl, bu_c kr kr⟩, ⟨_, rfl, bu_c kr kr⟩, trivial⟩ ⟨lu kr kr, lu kr kr, lu kr kr, lu kr kr, trivial⟩)
  ·rw [if_f hc5] at hj2
   rw [hc5]
   refine RunS.segF (n := 30) E0_ok 15 [p1, p6, p5, (25, .v (.bool false))] [p4, p3] kr ?_
   have hq := Option.some.inj hj2; subst hq
   exact RunS.done rfl (Wk.sel2 [0, 1] kr kr kr ⟨⟨_, rfl, bu_c kr kr⟩, ⟨_, rfl, bu_c kr kr⟩, trivial⟩ ⟨lu kr kr, lu kr kr, lu kr kr, lu kr kr, trivial⟩)
 refine Sem.cond (b := j2) kr (fun hb3 => ?_) (fun hb3 => ?_)
 ·rw [if_pos hb3] at h
  refine Sem.seq ?_
  let p7 : Nat × AV := (6, .v (.int .i64 0))
  refine Sem.runS (s1 := ⟨Fr 30 [p7], []⟩) ?_ ?_
  ·refine RunS.segF (n := 30) E0_ok 1 [p7] [p4, p3] kr ?_
   exact RunS.done rfl (Wk.sel2 [] kr kr kr trivial ⟨lu kr kr, trivial⟩)
  refine Sem.ret ?_
  have hq := Option.some.inj h; subst hq
  exact ⟨⟨Fr 30 [p7], []⟩, (Wk.fr kr), .inr rfl, [.v (.int .i64 0)], kr, kr⟩
 ·rw [if_f hb3] at h
  refine Sem.skip ?_
  refine Sem.seq ?_
  obtain ⟨v4, hv4, h⟩ := Option.bind_eq_some_iff.1 h
  let p8 : Nat × AV := (6, .v (.int .i64 v4))
  refine Sem.runS (s1 := ⟨Fr 30 [p8], []⟩) ?_ ?_
  ·refine RunS.segF (n := 30) E0_ok 3 [(26, .fn 187 [] [.pe (.fn 188 [] [.pe (.fn 170 [] []) 0, .pe (cdClause.enc x3.2) 0]) 0]), (27, cdSeated.enc x0), (28, cdSeated.enc x1)] [p4, p3] kr ?_
   refine RunS.callV (caps := [.pe (.fn 188 [] [.pe (.fn 170 [] []) 0, .pe (cdClause.enc x3.2) 0]) 0]) (xs := [cdSeated.enc x0, cdSeated.enc x1]) (u := (x0, x1, ((), x3.2), ())) rfl rfl x_court_by_1__court_named_1__court_plain_4 rfl (wantedA_none rfl) kr kr (Sl.cons (Sm.enc (c := cdSeated) (v := x0)) (Sl.cons (Sm.enc (c := cdSeated) (v := x1)) (Sl.cons (Sm.enc (c := (cdP (cdF 188 (csC (cdP (cdF 170 csN (fun _ => rfl))) (csE (cdP cdClause))) (fun _ => rfl)))) (v := ((), x3.2))) Sl.nil))) (.inl kr) hv4 ?_
   refine RunS.segF (n := 30) E0_ok 1 [p8] [p4, p3] kr ?_
   exact RunS.done rfl (Wk.sel2 [] kr kr kr trivial ⟨lu kr kr, trivial⟩)
  refine Sem.ret ?_
  have hq := Option.some.inj h; subst hq
  exact ⟨⟨Fr 30 [p8], []⟩, (Wk.fr kr), .inr rfl, [.v (.int .i64 v4)], kr, kr⟩
def t_court_orderOf_1__court_by_1__court_named_1__court_plain_4 : List AV → Option AV := told cs_court_orderOf_1__court_by_1__court_named_1__court_plain_4 (fun a => court_orderOf_1__court_by_1__court_named_1__court_plain_4 a.1 a.2.1 a.2.2.1 a.2.2.2.1) er_court_orderOf_1__court_by_1__court_named_1__court_plain_4
theorem x_court_orderOf_1__court_by_1__court_named_1__court_plain_4 : XOk 154 t_court_orderOf_1__court_by_1__court_named_1__court_plain_4 := by
 refine xok_of_sem Tryz.func154 (c := cb_court_orderOf_1__court_by_1__court_named_1__court_plain_4) ?h2 ⟨Tryz.call154⟩ cs_court_orderOf_1__court_by_1__court_named_1__court_plain_4 (fun a => court_orderOf_1__court_by_1__court_named_1__court_plain_4 a.1 a.2.1 a.2.2.1 a.2.2.2.1) er_court_orderOf_1__court_by_1__court_named_1__court_plain_4 (fun a => (by show 4 ≤ 30; decide)) ?h3 ?h4
 case h2 => kernel_rfl
 case h3 => intro b; kernel_rfl
 case h4 => exact fun a b h => court_orderOf_1__court_by_1__court_named_1__court_plain_4_sem a.1 a.2.1 a.2.2.1 a.2.2.2.1 b h
/- trestle/court.plain$5$1 -/
noncomputable def cb_court_plain_5_1 : Code := codeOf Tryz.f172
def court_plain_5_1 (x0 : (List UInt8)) (x1 : Clause) : Option (Bool) :=
 (slices_Contains_string_string x1.2.2.2.1 x0).bind fun v1 =>
 some v1
def cs_court_plain_5_1 : Cs ((List UInt8) × Clause × Unit) := (csC cdS (csC (cdP cdClause) csN))
def er_court_plain_5_1 (r : Bool) : AV := cdB.enc r
theorem court_plain_5_1_sem (x0 : (List UInt8)) (x1 : Clause) (r : Bool) (h : court_plain_5_1 x0 x1 = some r) : Sem E0 ⟨none, false⟩ cb_court_plain_5_1 ⟨Fr 8 (pairs0 0 (cs_court_plain_5_1.enc (x0, x1, ()))), []⟩ fun e s' => (e = .normal ∨ e = .ret) ∧ ∃ xs, resA E0.P s'.fr s'.hp Tryz.f172.results.toList = some xs ∧ retA xs = er_court_plain_5_1 r := by
 unfold court_plain_5_1 at h
 refine Sem.wkQ (Sem.wk (s1 := ⟨Fr 8 [(0, .st x0), (1, .pe (cdClause.enc x1) 0)], []⟩) (Wk.fr kr) ?_)
 refine Sem.sq E0_ok [(0, .st x0), (1, .pe (cdClause.enc x1) 0)] [] ?_
 refine Sem.seq ?_
 obtain ⟨v1, hv1, h⟩ := Option.bind_eq_some_iff.1 h
 refine Sem.runS (s1 := ⟨Fr 8 [(3, .v (.bool v1))], []⟩) ?_ ?_
 ·refine RunS.segF (n := 8) E0_ok 3 [(5, .sl 1 (x1.2.2.2.1.map cdS.enc)), (6, .st x0)] [] kr ?_
  refine RunS.callV (caps := []) (xs := [.sl 1 (x1.2.2.2.1.map cdS.enc), .st x0]) (u := (x1.2.2.2.1, x0, ())) rfl rfl x_slices_Contains_string_string rfl (wantedA_none rfl) kr kr (Sl.cons (Sm.enc (c := (cdL 1 cdS)) (v := x1.2.2.2.1)) (Sl.cons (Sm.enc (c := cdS) (v := x0)) Sl.nil)) (.inl kr) hv1 ?_
  exact RunS.last E0_ok
 refine Sem.ret ?_
 have hq := Option.some.inj h; subst hq
 exact ⟨⟨Fr 8 [(3, .v (.bool v1))], []⟩, (Wk.fr kr), .inr rfl, [.v (.bool v1)], kr, kr⟩
def t_court_plain_5_1 : List AV → Option AV := told cs_court_plain_5_1 (fun a => court_plain_5_1 a.1 a.2.1) er_court_plain_5_1
theorem x_court_plain_5_1 : XOk 172 t_court_plain_5_1 := by
 refine xok_of_sem Tryz.func172 (c := cb_court_plain_5_1) ?h2 ⟨Tryz.call172⟩ cs_court_plain_5_1 (fun a => court_plain_5_1 a.1 a.2.1) er_court_plain_5_1 (fun a => (by show 2 ≤ 8; decide)) ?h3 ?h4
 case h2 => kernel_rfl
 case h3 => intro b; kernel_rfl
 case h4 => exact fun a b h => court_plain_5_1_sem a.1 a.2.1 b h
/- slices.IndexFunc[[]string,string] -/
noncomputable def cb_slices_IndexFunc_string_string__court_plain_5_1 : Code := codeOf Tryz.f100
def slices_IndexFunc_string_string__court_plain_5_1_l1 (x0 : (List (List UInt8))) (x1 : Clause) : Nat → Int → Option ((Unit) ⊕ (Int))
 | 0, _ => none
 | f + 1, c1 =>
  if (decide (c1 < (x0.length : Int))) = true then
  (idx x0 c1).bind fun v3 =>
  (court_plain_5_1 v3 x1).bind fun v4 =>
  if v4 = true then
  some (.inr c1)
  else
  slices_IndexFunc_string_string__court_plain_5_1_l1 x0 x1 f (wr .i64 (c1 + 1))
  else
  some (.inl ())
def slices_IndexFunc_string_string__court_plain_5_1 (x0 : (List (List UInt8))) (x1 : Clause) : Option (Int) :=
 (slices_IndexFunc_string_string__court_plain_5_1_l1 x0 x1 100000 0).bind fun r7 =>
 match r7 with
 | (.inl w8) =>
  some (-1)
 | (.inr w9) =>
  some w9
def cs_slices_IndexFunc_string_string__court_plain_5_1 : Cs ((List (List UInt8)) × Clause × Unit) := (csC (cdL 1 cdS) (csC (cdF 172 (csE (cdP cdClause)) (fun _ => rfl)) csN))
def er_slices_IndexFunc_string_string__court_plain_5_1 (r : Int) : AV := cdI.enc r
theorem slices_IndexFunc_string_string__court_plain_5_1_l1_ok (x0 : (List (List UInt8))) (x1 : Clause) : ∀ (f : Nat) (c1 : Int) (r : (Unit) ⊕ (Int)), slices_IndexFunc_string_string__court_plain_5_1_l1 x0 x1 f c1 = some r → SemN E0 ⟨none, false⟩ (pc cb_slices_IndexFunc_string_string__court_plain_5_1 [1, 0, 1, 0, 0]) f ⟨Fr 19 [(0, .sl 1 (x0.map cdS.enc)), (1, .fn 172 [] [.pe (cdClause.enc x1) 0]), (7, .v (.int .i64 (x0.length : Int))), (8, .v (.int .i64 c1))], []⟩ (fun e s => match r with
 | (.inl w) => e = (.exit 0) ∧ Wk E0 s ⟨Fr 19 [], []⟩
 | (.inr w) => e = .ret ∧ Wk E0 s ⟨Fr 19 [(4, .v (.int .i64 w))], []⟩) := by
 intro f
 induction f with
 | zero => intro c1 r h; cases h
 | succ f ih0 =>
  intro c1 r h
  have ih := fun (c1 : Int) => ih0 c1 r
  unfold slices_IndexFunc_string_string__court_plain_5_1_l1 at h
  refine SemN.succ ?_
  let p1 : Nat × AV := (8, .v (.int .i64 c1))
  let p2 : Nat × AV := (7, .v (.int .i64 (x0.length : Int)))
  let p3 : Nat × AV := (1, .fn 172 [] [.pe (cdClause.enc x1) 0])
  let p4 : Nat × AV := (0, .sl 1 (x0.map cdS.enc))
  refine Sem.sq E0_ok [p4, p3, p2, p1, (9, .v (.bool (decide (c1 < (x0.length : Int)))))] [] ?_
  refine Sem.seq ?_
  refine Sem.cond (b := (decide (c1 < (x0.length : Int)))) kr (fun hb2 => ?_) (fun hb2 => ?_)
  ·rw [if_pos hb2] at h
   refine Sem.skip ?_
   refine Sem.seq ?_
   refine Sem.block ?_
   let p5 : Nat × AV := (5, .v (.int .i64 c1))
   refine Sem.sq E0_ok [p4, p3, p5, p2, p1] [] ?_
   refine Sem.seq ?_
   obtain ⟨v3, hv3, h⟩ := Option.bind_eq_some_iff.1 h
   obtain ⟨v4, hv4, h⟩ := Option.bind_eq_some_iff.1 h
   refine Sem.runS (s1 := ⟨Fr 19 [p4, p3, p5, p2, p1, (16, .v (.bool v4))], []⟩) ?_ ?_
   ·let p6 : Nat × AV := (11, .fn 172 [] [.pe (cdClause.enc x1) 0])
    refine RunS.segF (n := 19) E0_ok 3 [p4, p3, p5, p2, p1, p6, (12, .sl 1 (x0.map cdS.enc)), (13, .v (.int .i64 c1))] [] kr ?_
    refine RunS.one E0_ok 0 rfl (op_q (wantedA_none rfl) rfl (q_indexAddr (a := .sl 1 (x0.map cdS.enc)) (b := .v (.int .i64 c1)) kr kr (ix_sl (e := cdS.enc) (el := 9) (k := 1) (ki := .i64) kr kr hv3))) ?_
    refine RunS.segF (n := 19) E0_ok 1 [p4, p3, p5, p2, p1, p6, (15, .st v3)] [] kr ?_
    refine RunS.callV (caps := [.pe (cdClause.enc x1) 0]) (xs := [.st v3]) (u := (v3, x1, ())) rfl rfl x_court_plain_5_1 rfl (wantedA_none rfl) kr kr (Sl.cons (Sm.enc (c := cdS) (v := v3)) (Sl.cons (Sm.enc (c := (cdP cdClause)) (v := x1)) Sl.nil)) (.inl kr) hv4 ?_
    exact RunS.done rfl (Wk.fr kr)
   refine Sem.cond (b := v4) kr (fun hb5 => ?_) (fun hb5 => ?_)
   ·rw [if_pos hb5] at h
    refine Sem.sq E0_ok [(4, .v (.int .i64 c1))] [] ?_
    refine Sem.ret ?_
    have hq := Option.some.inj h; subst hq
    exact ⟨rfl, (Wk.fr kr)⟩
   ·rw [if_f hb5] at h
    refine Sem.skip ?_
    let p7 : Nat × AV := (8, .v (.int .i64 (wr .i64 (c1 + 1))))
    refine Sem.rg E0_ok [p4, p3, p2, p7] [] ?_
    exact SemN.wk (s1 := ⟨Fr 19 [p4, p3, p2, p7], []⟩) (Wk.fr kr) (ih (wr .i64 (c1 + 1)) h)
  ·rw [if_f hb2] at h
   refine Sem.exit ?_
   have hq := Option.some.inj h; subst hq
   exact ⟨rfl, (Wk.fr kr)⟩
theorem slices_IndexFunc_string_string__court_plain_5_1_sem (x0 : (List (List UInt8))) (x1 : Clause) (r : Int) (h : slices_IndexFunc_string_string__court_plain_5_1 x0 x1 = some r) : Sem E0 ⟨none, false⟩ cb_slices_IndexFunc_string_string__court_plain_5_1 ⟨Fr 19 (pairs0 0 (cs_slices_IndexFunc_string_string__court_plain_5_1.enc (x0, x1, ()))), []⟩ fun e s' => (e = .normal ∨ e = .ret) ∧ ∃ xs, resA E0.P s'.fr s'.hp Tryz.f100.results.toList = some xs ∧ retA xs = er_slices_IndexFunc_string_string__court_plain_5_1 r := by
 unfold slices_IndexFunc_string_string__court_plain_5_1 at h
 let p1 : Nat × AV := (1, .fn 172 [] [.pe (cdClause.enc x1) 0])
 let p2 : Nat × AV := (0, .sl 1 (x0.map cdS.enc))
 refine Sem.wkQ (Sem.wk (s1 := ⟨Fr 19 [p2, p1], []⟩) (Wk.fr kr) ?_)
 refine Sem.sq E0_ok [p2, p1] [] ?_
 refine Sem.seq ?_
 refine Sem.seq ?_
 let p3 : Nat × AV := (8, .v (.int .i64 0))
 let p4 : Nat × AV := (7, .v (.int .i64 (x0.length : Int)))
 refine Sem.runS (s1 := ⟨Fr 19 [p2, p1, p4, p3], []⟩) ?_ ?_
 ·refine RunS.segF (n := 19) E0_ok 1 [p2, p1, (6, .sl 1 (x0.map cdS.enc))] [] kr ?_
  refine RunS.one E0_ok 0 rfl (op_q (wantedA_none rfl) rfl (q_len (a := .sl 1 (x0.map cdS.enc)) kr (len_sl (el := 9) kr))) ?_
  exact RunS.last E0_ok
 refine Sem.block ?_
 obtain ⟨r7, hr7, h⟩ := Option.bind_eq_some_iff.1 h
 refine Sem.loop (n := 100000) ?_
 rcases r7 with w8 | w9
 ·try dsimp only at h
  refine Sem.cutN (SemN.wk (s1 := ⟨Fr 19 [p2, p1, p4, p3], []⟩) (Wk.fr kr) (slices_IndexFunc_string_string__court_plain_5_1_l1_ok x0 x1 _ 0 _ hr7)) ?_
  refine Sem.sq E0_ok [(4, .v (.int .i64 (-1)))] [] ?_
  refine Sem.ret ?_
  have hq := Option.some.inj h; subst hq
  exact ⟨⟨Fr 19 [(4, .v (.int .i64 (-1)))], []⟩, (Wk.fr kr), .inr rfl, [.v (.int .i64 (-1))], kr, kr⟩
 ·try dsimp only at h
  refine Sem.cutN (SemN.wk (s1 := ⟨Fr 19 [p2, p1, p4, p3], []⟩) (Wk.fr kr) (slices_IndexFunc_string_string__court_plain_5_1_l1_ok x0 x1 _ 0 _ hr7)) ?_
  have hq := Option.some.inj h; subst hq
  exact ⟨⟨Fr 19 [(4, .v (.int .i64 w9))], []⟩, (Wk.fr kr), .inr rfl, [.v (.int .i64 w9)], kr, kr⟩
def t_slices_IndexFunc_string_string__court_plain_5_1 : List AV → Option AV := told cs_slices_IndexFunc_string_string__court_plain_5_1 (fun a => slices_IndexFunc_string_string__court_plain_5_1 a.1 a.2.1) er_slices_IndexFunc_string_string__court_plain_5_1
theorem x_slices_IndexFunc_string_string__court_plain_5_1 : XOk 100 t_slices_IndexFunc_string_string__court_plain_5_1 := by
 refine xok_of_sem Tryz.func100 (c := cb_slices_IndexFunc_string_string__court_plain_5_1) ?h2 ⟨Tryz.call100⟩ cs_slices_IndexFunc_string_string__court_plain_5_1 (fun a => slices_IndexFunc_string_string__court_plain_5_1 a.1 a.2.1) er_slices_IndexFunc_string_string__court_plain_5_1 (fun a => (by show 2 ≤ 19; decide)) ?h3 ?h4
 case h2 => kernel_rfl
 case h3 => intro b; kernel_rfl
 case h4 => exact fun a b h => slices_IndexFunc_string_string__court_plain_5_1_sem a.1 a.2.1 b h
/- slices.ContainsFunc[[]string,string] -/
noncomputable def cb_slices_ContainsFunc_string_string__court_plain_5_1 : Code := codeOf Tryz.f49
def slices_ContainsFunc_string_string__court_plain_5_1 (x0 : (List (List UInt8))) (x1 : Clause) : Option (Bool) :=
 (slices_IndexFunc_string_string__court_plain_5_1 x0 x1).bind fun v1 =>
 some (decide (v1 ≥ 0))
def cs_slices_ContainsFunc_string_string__court_plain_5_1 : Cs ((List (List UInt8)) × Clause × Unit) := (csC (cdL 1 cdS) (csC (cdF 172 (csE (cdP cdClause)) (fun _ => rfl)) csN))
def er_slices_ContainsFunc_string_string__court_plain_5_1 (r : Bool) : AV := cdB.enc r
theorem slices_ContainsFunc_string_string__court_plain_5_1_sem (x0 : (List (List UInt8))) (x1 : Clause) (r : Bool) (h : slices_ContainsFunc_string_string__court_plain_5_1 x0 x1 = some r) : Sem E0 ⟨none, false⟩ cb_slices_ContainsFunc_string_string__court_plain_5_1 ⟨Fr 9 (pairs0 0 (cs_slices_ContainsFunc_string_string__court_plain_5_1.enc (x0, x1, ()))), []⟩ fun e s' => (e = .normal ∨ e = .ret) ∧ ∃ xs, resA E0.P s'.fr s'.hp Tryz.f49.results.toList = some xs ∧ retA xs = er_slices_ContainsFunc_string_string__court_plain_5_1 r := by
 unfold slices_ContainsFunc_string_string__court_plain_5_1 at h
 let p1 : Nat × AV := (1, .fn 172 [] [.pe (cdClause.enc x1) 0])
 refine Sem.wkQ (Sem.wk (s1 := ⟨Fr 9 [(0, .sl 1 (x0.map cdS.enc)), p1], []⟩) (Wk.fr kr) ?_)
 refine Sem.sq E0_ok [(0, .sl 1 (x0.map cdS.enc)), p1] [] ?_
 refine Sem.seq ?_
 obtain ⟨v1, hv1, h⟩ := Option.bind_eq_some_iff.1 h
 let p2 : Nat × AV := (4, .v (.bool (decide (v1 ≥ 0))))
 refine Sem.runS (s1 := ⟨Fr 9 [p2], []⟩) ?_ ?_
 ·refine RunS.segF (n := 9) E0_ok 2 [(5, .sl 1 (x0.map cdS.enc)), (6, .fn 172 [] [.pe (cdClause.enc x1) 0])] [] kr ?_
  refine RunS.callV (caps := []) (xs := [.sl 1 (x0.map cdS.enc), .fn 172 [] [.pe (cdClause.enc x1) 0]]) (u := (x0, x1, ())) rfl rfl x_slices_IndexFunc_string_string__court_plain_5_1 rfl (wantedA_none rfl) kr kr (Sl.cons (Sm.enc (c := (cdL 1 cdS)) (v := x0)) (Sl.cons (Sm.fn (Sl.last (Sm.enc (c := (cdP cdClause)) (v := x1)))) Sl.nil)) (.inl kr) hv1 ?_
  exact RunS.last E0_ok
 refine Sem.ret ?_
 have hq := Option.some.inj h; subst hq
 exact ⟨⟨Fr 9 [p2], []⟩, (Wk.fr kr), .inr rfl, [.v (.bool (decide (v1 ≥ 0)))], kr, kr⟩
def t_slices_ContainsFunc_string_string__court_plain_5_1 : List AV → Option AV := told cs_slices_ContainsFunc_string_string__court_plain_5_1 (fun a => slices_ContainsFunc_string_string__court_plain_5_1 a.1 a.2.1) er_slices_ContainsFunc_string_string__court_plain_5_1
theorem x_slices_ContainsFunc_string_string__court_plain_5_1 : XOk 49 t_slices_ContainsFunc_string_string__court_plain_5_1 := by
 refine xok_of_sem Tryz.func49 (c := cb_slices_ContainsFunc_string_string__court_plain_5_1) ?h2 ⟨Tryz.call49⟩ cs_slices_ContainsFunc_string_string__court_plain_5_1 (fun a => slices_ContainsFunc_string_string__court_plain_5_1 a.1 a.2.1) er_slices_ContainsFunc_string_string__court_plain_5_1 (fun a => (by show 2 ≤ 9; decide)) ?h3 ?h4
 case h2 => kernel_rfl
 case h3 => intro b; kernel_rfl
 case h4 => exact fun a b h => slices_ContainsFunc_string_string__court_plain_5_1_sem a.1 a.2.1 b h
/- trestle/court.plain$5 -/
noncomputable def cb_court_plain_5 : Code := codeOf Tryz.f171
def court_plain_5 (x0 : Seated) (x1 : Clause) : Option (Bool) :=
 (slices_ContainsFunc_string_string__court_plain_5_1 x0.1.2.2.2.2.2.2.2.2 x1).bind fun v1 =>
 some v1
def cs_court_plain_5 : Cs (Seated × Clause × Unit) := (csC cdSeated (csC (cdP cdClause) csN))
def er_court_plain_5 (r : Bool) : AV := cdB.enc r
theorem court_plain_5_sem (x0 : Seated) (x1 : Clause) (r : Bool) (h : court_plain_5 x0 x1 = some r) : Sem E0 ⟨none, false⟩ cb_court_plain_5 ⟨Fr 9 (pairs0 0 (cs_court_plain_5.enc (x0, x1, ()))), []⟩ fun e s' => (e = .normal ∨ e = .ret) ∧ ∃ xs, resA E0.P s'.fr s'.hp Tryz.f171.results.toList = some xs ∧ retA xs = er_court_plain_5 r := by
 unfold court_plain_5 at h
 refine Sem.wkQ (Sem.wk (s1 := ⟨Fr 9 [(0, cdSeated.enc x0), (1, .pe (cdClause.enc x1) 0)], []⟩) (Wk.fr kr) ?_)
 let p1 : Option Blk := some ⟨10, 131, [cdSeated.enc x0], false⟩
 refine Sem.sq E0_ok [(1, .pe (cdClause.enc x1) 0), (2, .pt 0 0 0)] [p1] ?_
 refine Sem.seq ?_
 obtain ⟨v1, hv1, h⟩ := Option.bind_eq_some_iff.1 h
 let p2 : Nat × AV := (3, .v (.bool v1))
 refine Sem.runS (s1 := ⟨Fr 9 [p2], []⟩) ?_ ?_
 ·refine RunS.segF (n := 9) E0_ok 4 [(6, .sl 1 (x0.1.2.2.2.2.2.2.2.2.map cdS.enc)), (7, .fn 172 [] [.pe (cdClause.enc x1) 0])] [p1] kr ?_
  refine RunS.callV (caps := []) (xs := [.sl 1 (x0.1.2.2.2.2.2.2.2.2.map cdS.enc), .fn 172 [] [.pe (cdClause.enc x1) 0]]) (u := (x0.1.2.2.2.2.2.2.2.2, x1, ())) rfl rfl x_slices_ContainsFunc_string_string__court_plain_5_1 rfl (wantedA_none rfl) kr kr (Sl.cons (Sm.enc (c := (cdL 1 cdS)) (v := x0.1.2.2.2.2.2.2.2.2)) (Sl.cons (Sm.fn (Sl.last (Sm.enc (c := (cdP cdClause)) (v := x1)))) Sl.nil)) (.inl kr) hv1 ?_
  refine RunS.segF (n := 9) E0_ok 1 [p2] [p1] kr ?_
  exact RunS.done rfl (Wk.sel2 [] kr kr kr trivial ⟨lu kr kr, trivial⟩)
 refine Sem.ret ?_
 have hq := Option.some.inj h; subst hq
 exact ⟨⟨Fr 9 [p2], []⟩, (Wk.fr kr), .inr rfl, [.v (.bool v1)], kr, kr⟩
def t_court_plain_5 : List AV → Option AV := told cs_court_plain_5 (fun a => court_plain_5 a.1 a.2.1) er_court_plain_5
theorem x_court_plain_5 : XOk 171 t_court_plain_5 := by
 refine xok_of_sem Tryz.func171 (c := cb_court_plain_5) ?h2 ⟨Tryz.call171⟩ cs_court_plain_5 (fun a => court_plain_5 a.1 a.2.1) er_court_plain_5 (fun a => (by show 2 ≤ 9; decide)) ?h3 ?h4
 case h2 => kernel_rfl
 case h3 => intro b; kernel_rfl
 case h4 => exact fun a b h => court_plain_5_sem a.1 a.2.1 b h
/- trestle/court.named$1 -/
noncomputable def cb_court_named_1__court_plain_5 : Code := codeOf Tryz.f188
def court_named_1__court_plain_5 (x0 : Seated) (x1 : Clause) (x2 : Clause) : Option (Int) :=
 (court_plain_5 x0 x1).bind fun v1 =>
 if (!(v1 == x2.2.2.1)) = true then
 some 0
 else
 some 1
def cs_court_named_1__court_plain_5 : Cs (Seated × Clause × Clause × Unit) := (csC cdSeated (csC (cdP (cdF 171 (csE (cdP cdClause)) (fun _ => rfl))) (csC (cdP cdClause) csN)))
def er_court_named_1__court_plain_5 (r : Int) : AV := cdI.enc r
theorem court_named_1__court_plain_5_sem (x0 : Seated) (x1 : Clause) (x2 : Clause) (r : Int) (h : court_named_1__court_plain_5 x0 x1 x2 = some r) : Sem E0 ⟨none, false⟩ cb_court_named_1__court_plain_5 ⟨Fr 11 (pairs0 0 (cs_court_named_1__court_plain_5.enc (x0, x1, x2, ()))), []⟩ fun e s' => (e = .normal ∨ e = .ret) ∧ ∃ xs, resA E0.P s'.fr s'.hp Tryz.f188.results.toList = some xs ∧ retA xs = er_court_named_1__court_plain_5 r := by
 unfold court_named_1__court_plain_5 at h
 let p1 : Nat × AV := (2, .pe (cdClause.enc x2) 0)
 let p2 : Nat × AV := (1, .pe (.fn 171 [] [.pe (cdClause.enc x1) 0]) 0)
 refine Sem.wkQ (Sem.wk (s1 := ⟨Fr 11 [(0, cdSeated.enc x0), p2, p1], []⟩) (Wk.fr kr) ?_)
 let p3 : Option Blk := some ⟨10, 131, [cdSeated.enc x0], false⟩
 refine Sem.sq E0_ok [p2, p1, (3, .pt 0 0 0)] [p3] ?_
 refine Sem.seq ?_
 refine Sem.seq ?_
 obtain ⟨v1, hv1, h⟩ := Option.bind_eq_some_iff.1 h
 let p4 : Nat × AV := (10, .v (.bool (!(v1 == x2.2.2.1))))
 refine Sem.runDS E0_ok (s1 := ⟨Fr 11 [p4], []⟩) kr ?_ ?_
 ·refine RunDS.segF (n := 11) E0_ok 2 [p1, (5, .fn 171 [] [.pe (cdClause.enc x1) 0]), (6, cdSeated.enc x0)] [p3] kr kr ?_
  refine RunDS.callV (caps := [.pe (cdClause.enc x1) 0]) (xs := [cdSeated.enc x0]) (u := (x0, x1, ())) rfl rfl x_court_plain_5 rfl (wantedA_none rfl) kr kr (Sl.cons (Sm.enc (c := cdSeated) (v := x0)) (Sl.cons (Sm.enc (c := (cdP cdClause)) (v := x1)) Sl.nil)) kr hv1 ?_
  refine RunDS.segF (n := 11) E0_ok 3 [p4] [p3] kr kr ?_
  exact RunDS.done rfl (Wk.sel2 [] kr kr kr trivial ⟨lu kr kr, trivial⟩)
 refine Sem.cond (b := (!(v1 == x2.2.2.1))) kr (fun hb2 => ?_) (fun hb2 => ?_)
 ·rw [if_pos hb2] at h
  refine Sem.sq E0_ok [(4, .v (.int .i64 0))] [] ?_
  refine Sem.ret ?_
  have hq := Option.some.inj h; subst hq
  exact ⟨⟨Fr 11 [(4, .v (.int .i64 0))], []⟩, (Wk.fr kr), .inr rfl, [.v (.int .i64 0)], kr, kr⟩
 ·rw [if_f hb2] at h
  refine Sem.skip ?_
  refine Sem.sq E0_ok [(4, .v (.int .i64 1))] [] ?_
  refine Sem.ret ?_
  have hq := Option.some.inj h; subst hq
  exact ⟨⟨Fr 11 [(4, .v (.int .i64 1))], []⟩, (Wk.fr kr), .inr rfl, [.v (.int .i64 1)], kr, kr⟩
def t_court_named_1__court_plain_5 : List AV → Option AV := told cs_court_named_1__court_plain_5 (fun a => court_named_1__court_plain_5 a.1 a.2.1 a.2.2.1) er_court_named_1__court_plain_5
theorem x_court_named_1__court_plain_5 : XOk 188 t_court_named_1__court_plain_5 := by
 refine xok_of_sem Tryz.func188 (c := cb_court_named_1__court_plain_5) ?h2 ⟨Tryz.call188⟩ cs_court_named_1__court_plain_5 (fun a => court_named_1__court_plain_5 a.1 a.2.1 a.2.2.1) er_court_named_1__court_plain_5 (fun a => (by show 3 ≤ 11; decide)) ?h3 ?h4
 case h2 => kernel_rfl
 case h3 => intro b; kernel_rfl
 case h4 => exact fun a b h => court_named_1__court_plain_5_sem a.1 a.2.1 a.2.2.1 b h
/- trestle/court.by$1 -/
noncomputable def cb_court_by_1__court_named_1__court_plain_5 : Code := codeOf Tryz.f187
def court_by_1__court_named_1__court_plain_5 (x0 : Seated) (x1 : Seated) (x2 : Clause × Clause) : Option (Int) :=
 (court_named_1__court_plain_5 x0 x2.1 x2.2).bind fun v1 =>
 (court_named_1__court_plain_5 x1 x2.1 x2.2).bind fun v2 =>
 (cmp_Compare_int v1 v2).bind fun v3 =>
 some v3
def cs_court_by_1__court_named_1__court_plain_5 : Cs (Seated × Seated × (Clause × Clause) × Unit) := (csC cdSeated (csC cdSeated (csC (cdP (cdF 188 (csC (cdP (cdF 171 (csE (cdP cdClause)) (fun _ => rfl))) (csE (cdP cdClause))) (fun _ => rfl))) csN)))
def er_court_by_1__court_named_1__court_plain_5 (r : Int) : AV := cdI.enc r
theorem court_by_1__court_named_1__court_plain_5_sem (x0 : Seated) (x1 : Seated) (x2 : Clause × Clause) (r : Int) (h : court_by_1__court_named_1__court_plain_5 x0 x1 x2 = some r) : Sem E0 ⟨none, false⟩ cb_court_by_1__court_named_1__court_plain_5 ⟨Fr 13 (pairs0 0 (cs_court_by_1__court_named_1__court_plain_5.enc (x0, x1, x2, ()))), []⟩ fun e s' => (e = .normal ∨ e = .ret) ∧ ∃ xs, resA E0.P s'.fr s'.hp Tryz.f187.results.toList = some xs ∧ retA xs = er_court_by_1__court_named_1__court_plain_5 r := by
 unfold court_by_1__court_named_1__court_plain_5 at h
 let p1 : Nat × AV := (2, .pe (.fn 188 [] [.pe (.fn 171 [] [.pe (cdClause.enc x2.1) 0]) 0, .pe (cdClause.enc x2.2) 0]) 0)
 refine Sem.wkQ (Sem.wk (s1 := ⟨Fr 13 [(0, cdSeated.enc x0), (1, cdSeated.enc x1), p1], []⟩) (Wk.fr kr) ?_)
 let p2 : Option Blk := some ⟨10, 131, [cdSeated.enc x1], false⟩
 let p3 : Option Blk := some ⟨10, 131, [cdSeated.enc x0], false⟩
 refine Sem.sq E0_ok [p1, (3, .pt 0 0 0), (4, .pt 1 0 0)] [p3, p2] ?_
 refine Sem.seq ?_
 obtain ⟨v1, hv1, h⟩ := Option.bind_eq_some_iff.1 h
 obtain ⟨v2, hv2, h⟩ := Option.bind_eq_some_iff.1 h
 obtain ⟨v3, hv3, h⟩ := Option.bind_eq_some_iff.1 h
 let p4 : Nat × AV := (5, .v (.int .i64 v3))
 refine Sem.runDS E0_ok (s1 := ⟨Fr 13 [p4], []⟩) kr ?_ ?_
 ·refine RunDS.segF (n := 13) E0_ok 2 [p1, (4, .pt 1 0 0), (6, .fn 188 [] [.pe (.fn 171 [] [.pe (cdClause.enc x2.1) 0]) 0, .pe (cdClause.enc x2.2) 0]), (7, cdSeated.enc x0)] [p3, p2] kr kr ?_
  refine RunDS.callV (caps := [.pe (.fn 171 [] [.pe (cdClause.enc x2.1) 0]) 0, .pe (cdClause.enc x2.2) 0]) (xs := [cdSeated.enc x0]) (u := (x0, x2.1, x2.2, ())) rfl rfl x_court_named_1__court_plain_5 rfl (wantedA_none rfl) kr kr (Sl.cons (Sm.enc (c := cdSeated) (v := x0)) (Sl.cons (Sm.enc (c := (cdP (cdF 171 (csE (cdP cdClause)) (fun _ => rfl)))) (v := x2.1)) (Sl.cons (Sm.enc (c := (cdP cdClause)) (v := x2.2)) Sl.nil))) kr hv1 ?_
  refine RunDS.segF (n := 13) E0_ok 2 [(8, .v (.int .i64 v1)), (9, .fn 188 [] [.pe (.fn 171 [] [.pe (cdClause.enc x2.1) 0]) 0, .pe (cdClause.enc x2.2) 0]), (10, cdSeated.enc x1)] [p3, p2] kr kr ?_
  refine RunDS.callV (caps := [.pe (.fn 171 [] [.pe (cdClause.enc x2.1) 0]) 0, .pe (cdClause.enc x2.2) 0]) (xs := [cdSeated.enc x1]) (u := (x1, x2.1, x2.2, ())) rfl rfl x_court_named_1__court_plain_5 rfl (wantedA_none rfl) kr kr (Sl.cons (Sm.enc (c := cdSeated) (v := x1)) (Sl.cons (Sm.enc (c := (cdP (cdF 171 (csE (cdP cdClause)) (fun _ => rfl)))) (v := x2.1)) (Sl.cons (Sm.enc (c := (cdP cdClause)) (v := x2.2)) Sl.nil))) kr hv2 ?_
  refine RunDS.callV (caps := []) (xs := [.v (.int .i64 v1), .v (.int .i64 v2)]) (u := (v1, v2, ())) rfl rfl x_cmp_Compare_int rfl (wantedA_none rfl) kr kr (Sl.cons (Sm.enc (c := cdI) (v := v1)) (Sl.cons (Sm.enc (c := cdI) (v := v2)) Sl.nil)) kr hv3 ?_
  refine RunDS.segF (n := 13) E0_ok 1 [p4] [p3, p2] kr kr ?_
  exact RunDS.done rfl (Wk.sel2 [] kr kr kr trivial ⟨lu kr kr, trivial⟩)
 refine Sem.ret ?_
 have hq := Option.some.inj h; subst hq
 exact ⟨⟨Fr 13 [p4], []⟩, (Wk.fr kr), .inr rfl, [.v (.int .i64 v3)], kr, kr⟩
def t_court_by_1__court_named_1__court_plain_5 : List AV → Option AV := told cs_court_by_1__court_named_1__court_plain_5 (fun a => court_by_1__court_named_1__court_plain_5 a.1 a.2.1 a.2.2.1) er_court_by_1__court_named_1__court_plain_5
theorem x_court_by_1__court_named_1__court_plain_5 : XOk 187 t_court_by_1__court_named_1__court_plain_5 := by
 refine xok_of_sem Tryz.func187 (c := cb_court_by_1__court_named_1__court_plain_5) ?h2 ⟨Tryz.call187⟩ cs_court_by_1__court_named_1__court_plain_5 (fun a => court_by_1__court_named_1__court_plain_5 a.1 a.2.1 a.2.2.1) er_court_by_1__court_named_1__court_plain_5 (fun a => (by show 3 ≤ 13; decide)) ?h3 ?h4
 case h2 => kernel_rfl
 case h3 => intro b; kernel_rfl
 case h4 => exact fun a b h => court_by_1__court_named_1__court_plain_5_sem a.1 a.2.1 a.2.2.1 b h
/- trestle/court.orderOf$1 -/
noncomputable def cb_court_orderOf_1__court_by_1__court_named_1__court_plain_5 : Code := codeOf Tryz.f154
def court_orderOf_1__court_by_1__court_named_1__court_plain_5 (x0 : Seated) (x1 : Seated) (x2 : Clause) (x3 : Clause × Clause) : Option (Int) :=
 (if (!(x2.2.1 == [])) = true then if (!(x0.1.2.1 == x2.2.1)) = true then some true else some (!(x1.1.2.1 == x2.2.1)) else some false).bind fun j2 =>
 if j2 = true then
 some 0
 else
 (court_by_1__court_named_1__court_plain_5 x0 x1 x3).bind fun v4 =>
 some v4
def cs_court_orderOf_1__court_by_1__court_named_1__court_plain_5 : Cs (Seated × Seated × Clause × (Clause × Clause) × Unit) := (csC cdSeated (csC cdSeated (csC (cdP cdClause) (csC (cdP (cdF 187 (csE (cdP (cdF 188 (csC (cdP (cdF 171 (csE (cdP cdClause)) (fun _ => rfl))) (csE (cdP cdClause))) (fun _ => rfl)))) (fun _ => rfl))) csN))))
def er_court_orderOf_1__court_by_1__court_named_1__court_plain_5 (r : Int) : AV := cdI.enc r
theorem court_orderOf_1__court_by_1__court_named_1__court_plain_5_sem (x0 : Seated) (x1 : Seated) (x2 : Clause) (x3 : Clause × Clause) (r : Int) (h : court_orderOf_1__court_by_1__court_named_1__court_plain_5 x0 x1 x2 x3 = some r) : Sem E0 ⟨none, false⟩ cb_court_orderOf_1__court_by_1__court_named_1__court_plain_5 ⟨Fr 30 (pairs0 0 (cs_court_orderOf_1__court_by_1__court_named_1__court_plain_5.enc (x0, x1, x2, x3, ()))), []⟩ fun e s' => (e = .normal ∨ e = .ret) ∧ ∃ xs, resA E0.P s'.fr s'.hp Tryz.f154.results.toList = some xs ∧ retA xs = er_court_orderOf_1__court_by_1__court_named_1__court_plain_5 r := by
 unfold court_orderOf_1__court_by_1__court_named_1__court_plain_5 at h
 let p1 : Nat × AV := (3, .pe (.fn 187 [] [.pe (.fn 188 [] [.pe (.fn 171 [] [.pe (cdClause.enc x3.1) 0]) 0, .pe (cdClause.enc x3.2) 0]) 0]) 0)
 let p2 : Nat × AV := (2, .pe (cdClause.enc x2) 0)
 refine Sem.wkQ (Sem.wk (s1 := ⟨Fr 30 [(0, cdSeated.enc x0), (1, cdSeated.enc x1), p2, p1], []⟩) (Wk.fr kr) ?_)
 let p3 : Option Blk := some ⟨10, 131, [cdSeated.enc x1], false⟩
 let p4 : Option Blk := some ⟨10, 131, [cdSeated.enc x0], false⟩
 let p5 : Nat × AV := (5, .pt 1 0 0)
 let p6 : Nat × AV := (4, .pt 0 0 0)
 refine Sem.sq E0_ok [p2, p1, p6, p5] [p4, p3] ?_
 refine Sem.seq ?_
 refine Sem.seq ?_
 obtain ⟨j2, hj2, h⟩ := Option.bind_eq_some_iff.1 h
 refine Sem.runS (s1 := ⟨Fr 30 [p1, p6, p5, (25, .v (.bool j2))], [p4, p3]⟩) ?_ ?_
 ·refine RunS.segF (n := 30) E0_ok 4 [p2, p1, p6, p5, (10, .v (.bool (!(x2.2.1 == []))))] [p4, p3] kr ?_
  rcases Bool.eq_false_or_eq_true (!(x2.2.1 == [])) with hc5 | hc5
  ·rw [if_pos hc5] at hj2
   rw [hc5]
   refine RunS.segF (n := 30) E0_ok 7 [p2, p1, p6, p5, (10, .v (.bool true)), (17, .v (.bool (!(x0.1.2.1 == x2.2.1))))] [p4, p3] kr ?_
   rcases Bool.eq_false_or_eq_true (!(x0.1.2.1 == x2.2.1)) with hc6 | hc6
   ·rw [if_pos hc6] at hj2
    rw [hc6]
    refine RunS.segF (n := 30) E0_ok 8 [p1, p6, p5, (25, .v (.bool true))] [p4, p3] kr ?_
    have hq := Option.some.inj hj2; subst hq
    exact RunS.done rfl (Wk.sel2 [0, 1] kr kr kr ⟨⟨_, rfl, bu_c kr kr⟩, ⟨_, rfl, bu_c kr kr⟩, trivial⟩ ⟨lu kr kr, lu kr kr, lu kr kr, lu kr kr, trivial⟩)
   ·rw [if_f hc6] at hj2
    rw [hc6]
    refine RunS.segF (n := 30) E0_ok 8 [p1, p6, p5, (25, .v (.bool (!(x1.1.2.1 == x2.2.1))))] [p4, p3] kr ?_
    have hq := Option.some.inj hj2; subst hq
    exact RunS.done rfl (Wk.sel2 [0, 1] kr kr kr ⟨⟨_, rfl, bu_c kr kr⟩, ⟨_, rfl, bu_c kr kr⟩, trivial⟩ ⟨lu kr kr, lu kr kr, lu kr kr, lu kr kr, trivial⟩)
  ·rw [if_f hc5] at hj2
   rw [hc5]
   refine RunS.segF (n := 30) E0_ok 15 [p1, p6, p5, (25, .v (.bool false))] [p4, p3] kr ?_
   have hq := Option.some.inj hj2; subst hq
   exact RunS.done rfl (Wk.sel2 [0, 1] kr kr kr ⟨⟨_, rfl, bu_c kr kr⟩, ⟨_, rfl, bu_c kr kr⟩, trivial⟩ ⟨lu kr kr, lu kr kr, lu kr kr, lu kr kr, trivial⟩)
 refine Sem.cond (b := j2) kr (fun hb3 => ?_) (fun hb3 => ?_)
 ·rw [if_pos hb3] at h
  refine Sem.seq ?_
  let p7 : Nat × AV := (6, .v (.int .i64 0))
  refine Sem.runS (s1 := ⟨Fr 30 [p7], []⟩) ?_ ?_
  ·refine RunS.segF (n := 30) E0_ok 1 [p7] [p4, p3] kr ?_
   exact RunS.done rfl (Wk.sel2 [] kr kr kr trivial ⟨lu kr kr, trivial⟩)
  refine Sem.ret ?_
  have hq := Option.some.inj h; subst hq
  exact ⟨⟨Fr 30 [p7], []⟩, (Wk.fr kr), .inr rfl, [.v (.int .i64 0)], kr, kr⟩
 ·rw [if_f hb3] at h
  refine Sem.skip ?_
  refine Sem.seq ?_
  obtain ⟨v4, hv4, h⟩ := Option.bind_eq_some_iff.1 h
  let p8 : Nat × AV := (6, .v (.int .i64 v4))
  refine Sem.runS (s1 := ⟨Fr 30 [p8], []⟩) ?_ ?_
  ·refine RunS.segF (n := 30) E0_ok 3 [(26, .fn 187 [] [.pe (.fn 188 [] [.pe (.fn 171 [] [.pe (cdClause.enc x3.1) 0]) 0, .pe (cdClause.enc x3.2) 0]) 0]), (27, cdSeated.enc x0), (28, cdSeated.enc x1)] [p4, p3] kr ?_
   refine RunS.callV (caps := [.pe (.fn 188 [] [.pe (.fn 171 [] [.pe (cdClause.enc x3.1) 0]) 0, .pe (cdClause.enc x3.2) 0]) 0]) (xs := [cdSeated.enc x0, cdSeated.enc x1]) (u := (x0, x1, x3, ())) rfl rfl x_court_by_1__court_named_1__court_plain_5 rfl (wantedA_none rfl) kr kr (Sl.cons (Sm.enc (c := cdSeated) (v := x0)) (Sl.cons (Sm.enc (c := cdSeated) (v := x1)) (Sl.cons (Sm.enc (c := (cdP (cdF 188 (csC (cdP (cdF 171 (csE (cdP cdClause)) (fun _ => rfl))) (csE (cdP cdClause))) (fun _ => rfl)))) (v := x3)) Sl.nil))) (.inl kr) hv4 ?_
   refine RunS.segF (n := 30) E0_ok 1 [p8] [p4, p3] kr ?_
   exact RunS.done rfl (Wk.sel2 [] kr kr kr trivial ⟨lu kr kr, trivial⟩)
  refine Sem.ret ?_
  have hq := Option.some.inj h; subst hq
  exact ⟨⟨Fr 30 [p8], []⟩, (Wk.fr kr), .inr rfl, [.v (.int .i64 v4)], kr, kr⟩
def t_court_orderOf_1__court_by_1__court_named_1__court_plain_5 : List AV → Option AV := told cs_court_orderOf_1__court_by_1__court_named_1__court_plain_5 (fun a => court_orderOf_1__court_by_1__court_named_1__court_plain_5 a.1 a.2.1 a.2.2.1 a.2.2.2.1) er_court_orderOf_1__court_by_1__court_named_1__court_plain_5
theorem x_court_orderOf_1__court_by_1__court_named_1__court_plain_5 : XOk 154 t_court_orderOf_1__court_by_1__court_named_1__court_plain_5 := by
 refine xok_of_sem Tryz.func154 (c := cb_court_orderOf_1__court_by_1__court_named_1__court_plain_5) ?h2 ⟨Tryz.call154⟩ cs_court_orderOf_1__court_by_1__court_named_1__court_plain_5 (fun a => court_orderOf_1__court_by_1__court_named_1__court_plain_5 a.1 a.2.1 a.2.2.1 a.2.2.2.1) er_court_orderOf_1__court_by_1__court_named_1__court_plain_5 (fun a => (by show 4 ≤ 30; decide)) ?h3 ?h4
 case h2 => kernel_rfl
 case h3 => intro b; kernel_rfl
 case h4 => exact fun a b h => court_orderOf_1__court_by_1__court_named_1__court_plain_5_sem a.1 a.2.1 a.2.2.1 a.2.2.2.1 b h
/- trestle/court.plain$6 -/
noncomputable def cb_court_plain_6 : Code := codeOf Tryz.f173
def court_plain_6 (x0 : Seated) (x1 : Clause) : Option (Bool) :=
 (slices_Contains_string_string x1.2.2.2.1 x0.1.2.2.1).bind fun v1 =>
 some v1
def cs_court_plain_6 : Cs (Seated × Clause × Unit) := (csC cdSeated (csC (cdP cdClause) csN))
def er_court_plain_6 (r : Bool) : AV := cdB.enc r
theorem court_plain_6_sem (x0 : Seated) (x1 : Clause) (r : Bool) (h : court_plain_6 x0 x1 = some r) : Sem E0 ⟨none, false⟩ cb_court_plain_6 ⟨Fr 10 (pairs0 0 (cs_court_plain_6.enc (x0, x1, ()))), []⟩ fun e s' => (e = .normal ∨ e = .ret) ∧ ∃ xs, resA E0.P s'.fr s'.hp Tryz.f173.results.toList = some xs ∧ retA xs = er_court_plain_6 r := by
 unfold court_plain_6 at h
 refine Sem.wkQ (Sem.wk (s1 := ⟨Fr 10 [(0, cdSeated.enc x0), (1, .pe (cdClause.enc x1) 0)], []⟩) (Wk.fr kr) ?_)
 let p1 : Option Blk := some ⟨10, 131, [cdSeated.enc x0], false⟩
 refine Sem.sq E0_ok [(1, .pe (cdClause.enc x1) 0), (2, .pt 0 0 0)] [p1] ?_
 refine Sem.seq ?_
 obtain ⟨v1, hv1, h⟩ := Option.bind_eq_some_iff.1 h
 let p2 : Nat × AV := (3, .v (.bool v1))
 refine Sem.runS (s1 := ⟨Fr 10 [p2], []⟩) ?_ ?_
 ·refine RunS.segF (n := 10) E0_ok 5 [(5, .sl 1 (x1.2.2.2.1.map cdS.enc)), (8, .st x0.1.2.2.1)] [p1] kr ?_
  refine RunS.callV (caps := []) (xs := [.sl 1 (x1.2.2.2.1.map cdS.enc), .st x0.1.2.2.1]) (u := (x1.2.2.2.1, x0.1.2.2.1, ())) rfl rfl x_slices_Contains_string_string rfl (wantedA_none rfl) kr kr (Sl.cons (Sm.enc (c := (cdL 1 cdS)) (v := x1.2.2.2.1)) (Sl.cons (Sm.enc (c := cdS) (v := x0.1.2.2.1)) Sl.nil)) (.inl kr) hv1 ?_
  refine RunS.segF (n := 10) E0_ok 1 [p2] [p1] kr ?_
  exact RunS.done rfl (Wk.sel2 [] kr kr kr trivial ⟨lu kr kr, trivial⟩)
 refine Sem.ret ?_
 have hq := Option.some.inj h; subst hq
 exact ⟨⟨Fr 10 [p2], []⟩, (Wk.fr kr), .inr rfl, [.v (.bool v1)], kr, kr⟩
def t_court_plain_6 : List AV → Option AV := told cs_court_plain_6 (fun a => court_plain_6 a.1 a.2.1) er_court_plain_6
theorem x_court_plain_6 : XOk 173 t_court_plain_6 := by
 refine xok_of_sem Tryz.func173 (c := cb_court_plain_6) ?h2 ⟨Tryz.call173⟩ cs_court_plain_6 (fun a => court_plain_6 a.1 a.2.1) er_court_plain_6 (fun a => (by show 2 ≤ 10; decide)) ?h3 ?h4
 case h2 => kernel_rfl
 case h3 => intro b; kernel_rfl
 case h4 => exact fun a b h => court_plain_6_sem a.1 a.2.1 b h
/- trestle/court.named$1 -/
noncomputable def cb_court_named_1__court_plain_6 : Code := codeOf Tryz.f188
def court_named_1__court_plain_6 (x0 : Seated) (x1 : Clause) (x2 : Clause) : Option (Int) :=
 (court_plain_6 x0 x1).bind fun v1 =>
 if (!(v1 == x2.2.2.1)) = true then
 some 0
 else
 some 1
def cs_court_named_1__court_plain_6 : Cs (Seated × Clause × Clause × Unit) := (csC cdSeated (csC (cdP (cdF 173 (csE (cdP cdClause)) (fun _ => rfl))) (csC (cdP cdClause) csN)))
def er_court_named_1__court_plain_6 (r : Int) : AV := cdI.enc r
theorem court_named_1__court_plain_6_sem (x0 : Seated) (x1 : Clause) (x2 : Clause) (r : Int) (h : court_named_1__court_plain_6 x0 x1 x2 = some r) : Sem E0 ⟨none, false⟩ cb_court_named_1__court_plain_6 ⟨Fr 11 (pairs0 0 (cs_court_named_1__court_plain_6.enc (x0, x1, x2, ()))), []⟩ fun e s' => (e = .normal ∨ e = .ret) ∧ ∃ xs, resA E0.P s'.fr s'.hp Tryz.f188.results.toList = some xs ∧ retA xs = er_court_named_1__court_plain_6 r := by
 unfold court_named_1__court_plain_6 at h
 let p1 : Nat × AV := (2, .pe (cdClause.enc x2) 0)
 let p2 : Nat × AV := (1, .pe (.fn 173 [] [.pe (cdClause.enc x1) 0]) 0)
 refine Sem.wkQ (Sem.wk (s1 := ⟨Fr 11 [(0, cdSeated.enc x0), p2, p1], []⟩) (Wk.fr kr) ?_)
 let p3 : Option Blk := some ⟨10, 131, [cdSeated.enc x0], false⟩
 refine Sem.sq E0_ok [p2, p1, (3, .pt 0 0 0)] [p3] ?_
 refine Sem.seq ?_
 refine Sem.seq ?_
 obtain ⟨v1, hv1, h⟩ := Option.bind_eq_some_iff.1 h
 let p4 : Nat × AV := (10, .v (.bool (!(v1 == x2.2.2.1))))
 refine Sem.runDS E0_ok (s1 := ⟨Fr 11 [p4], []⟩) kr ?_ ?_
 ·refine RunDS.segF (n := 11) E0_ok 2 [p1, (5, .fn 173 [] [.pe (cdClause.enc x1) 0]), (6, cdSeated.enc x0)] [p3] kr kr ?_
  refine RunDS.callV (caps := [.pe (cdClause.enc x1) 0]) (xs := [cdSeated.enc x0]) (u := (x0, x1, ())) rfl rfl x_court_plain_6 rfl (wantedA_none rfl) kr kr (Sl.cons (Sm.enc (c := cdSeated) (v := x0)) (Sl.cons (Sm.enc (c := (cdP cdClause)) (v := x1)) Sl.nil)) kr hv1 ?_
  refine RunDS.segF (n := 11) E0_ok 3 [p4] [p3] kr kr ?_
  exact RunDS.done rfl (Wk.sel2 [] kr kr kr trivial ⟨lu kr kr, trivial⟩)
 refine Sem.cond (b := (!(v1 == x2.2.2.1))) kr (fun hb2 => ?_) (fun hb2 => ?_)
 ·rw [if_pos hb2] at h
  refine Sem.sq E0_ok [(4, .v (.int .i64 0))] [] ?_
  refine Sem.ret ?_
  have hq := Option.some.inj h; subst hq
  exact ⟨⟨Fr 11 [(4, .v (.int .i64 0))], []⟩, (Wk.fr kr), .inr rfl, [.v (.int .i64 0)], kr, kr⟩
 ·rw [if_f hb2] at h
  refine Sem.skip ?_
  refine Sem.sq E0_ok [(4, .v (.int .i64 1))] [] ?_
  refine Sem.ret ?_
  have hq := Option.some.inj h; subst hq
  exact ⟨⟨Fr 11 [(4, .v (.int .i64 1))], []⟩, (Wk.fr kr), .inr rfl, [.v (.int .i64 1)], kr, kr⟩
def t_court_named_1__court_plain_6 : List AV → Option AV := told cs_court_named_1__court_plain_6 (fun a => court_named_1__court_plain_6 a.1 a.2.1 a.2.2.1) er_court_named_1__court_plain_6
theorem x_court_named_1__court_plain_6 : XOk 188 t_court_named_1__court_plain_6 := by
 refine xok_of_sem Tryz.func188 (c := cb_court_named_1__court_plain_6) ?h2 ⟨Tryz.call188⟩ cs_court_named_1__court_plain_6 (fun a => court_named_1__court_plain_6 a.1 a.2.1 a.2.2.1) er_court_named_1__court_plain_6 (fun a => (by show 3 ≤ 11; decide)) ?h3 ?h4
 case h2 => kernel_rfl
 case h3 => intro b; kernel_rfl
 case h4 => exact fun a b h => court_named_1__court_plain_6_sem a.1 a.2.1 a.2.2.1 b h
/- trestle/court.by$1 -/
noncomputable def cb_court_by_1__court_named_1__court_plain_6 : Code := codeOf Tryz.f187
def court_by_1__court_named_1__court_plain_6 (x0 : Seated) (x1 : Seated) (x2 : Clause × Clause) : Option (Int) :=
 (court_named_1__court_plain_6 x0 x2.1 x2.2).bind fun v1 =>
 (court_named_1__court_plain_6 x1 x2.1 x2.2).bind fun v2 =>
 (cmp_Compare_int v1 v2).bind fun v3 =>
 some v3
def cs_court_by_1__court_named_1__court_plain_6 : Cs (Seated × Seated × (Clause × Clause) × Unit) := (csC cdSeated (csC cdSeated (csC (cdP (cdF 188 (csC (cdP (cdF 173 (csE (cdP cdClause)) (fun _ => rfl))) (csE (cdP cdClause))) (fun _ => rfl))) csN)))
def er_court_by_1__court_named_1__court_plain_6 (r : Int) : AV := cdI.enc r
theorem court_by_1__court_named_1__court_plain_6_sem (x0 : Seated) (x1 : Seated) (x2 : Clause × Clause) (r : Int) (h : court_by_1__court_named_1__court_plain_6 x0 x1 x2 = some r) : Sem E0 ⟨none, false⟩ cb_court_by_1__court_named_1__court_plain_6 ⟨Fr 13 (pairs0 0 (cs_court_by_1__court_named_1__court_plain_6.enc (x0, x1, x2, ()))), []⟩ fun e s' => (e = .normal ∨ e = .ret) ∧ ∃ xs, resA E0.P s'.fr s'.hp Tryz.f187.results.toList = some xs ∧ retA xs = er_court_by_1__court_named_1__court_plain_6 r := by
 unfold court_by_1__court_named_1__court_plain_6 at h
 let p1 : Nat × AV := (2, .pe (.fn 188 [] [.pe (.fn 173 [] [.pe (cdClause.enc x2.1) 0]) 0, .pe (cdClause.enc x2.2) 0]) 0)
 refine Sem.wkQ (Sem.wk (s1 := ⟨Fr 13 [(0, cdSeated.enc x0), (1, cdSeated.enc x1), p1], []⟩) (Wk.fr kr) ?_)
 let p2 : Option Blk := some ⟨10, 131, [cdSeated.enc x1], false⟩
 let p3 : Option Blk := some ⟨10, 131, [cdSeated.enc x0], false⟩
 refine Sem.sq E0_ok [p1, (3, .pt 0 0 0), (4, .pt 1 0 0)] [p3, p2] ?_
 refine Sem.seq ?_
 obtain ⟨v1, hv1, h⟩ := Option.bind_eq_some_iff.1 h
 obtain ⟨v2, hv2, h⟩ := Option.bind_eq_some_iff.1 h
 obtain ⟨v3, hv3, h⟩ := Option.bind_eq_some_iff.1 h
 let p4 : Nat × AV := (5, .v (.int .i64 v3))
 refine Sem.runDS E0_ok (s1 := ⟨Fr 13 [p4], []⟩) kr ?_ ?_
 ·refine RunDS.segF (n := 13) E0_ok 2 [p1, (4, .pt 1 0 0), (6, .fn 188 [] [.pe (.fn 173 [] [.pe (cdClause.enc x2.1) 0]) 0, .pe (cdClause.enc x2.2) 0]), (7, cdSeated.enc x0)] [p3, p2] kr kr ?_
  refine RunDS.callV (caps := [.pe (.fn 173 [] [.pe (cdClause.enc x2.1) 0]) 0, .pe (cdClause.enc x2.2) 0]) (xs := [cdSeated.enc x0]) (u := (x0, x2.1, x2.2, ())) rfl rfl x_court_named_1__court_plain_6 rfl (wantedA_none rfl) kr kr (Sl.cons (Sm.enc (c := cdSeated) (v := x0)) (Sl.cons (Sm.enc (c := (cdP (cdF 173 (csE (cdP cdClause)) (fun _ => rfl)))) (v := x2.1)) (Sl.cons (Sm.enc (c := (cdP cdClause)) (v := x2.2)) Sl.nil))) kr hv1 ?_
  refine RunDS.segF (n := 13) E0_ok 2 [(8, .v (.int .i64 v1)), (9, .fn 188 [] [.pe (.fn 173 [] [.pe (cdClause.enc x2.1) 0]) 0, .pe (cdClause.enc x2.2) 0]), (10, cdSeated.enc x1)] [p3, p2] kr kr ?_
  refine RunDS.callV (caps := [.pe (.fn 173 [] [.pe (cdClause.enc x2.1) 0]) 0, .pe (cdClause.enc x2.2) 0]) (xs := [cdSeated.enc x1]) (u := (x1, x2.1, x2.2, ())) rfl rfl x_court_named_1__court_plain_6 rfl (wantedA_none rfl) kr kr (Sl.cons (Sm.enc (c := cdSeated) (v := x1)) (Sl.cons (Sm.enc (c := (cdP (cdF 173 (csE (cdP cdClause)) (fun _ => rfl)))) (v := x2.1)) (Sl.cons (Sm.enc (c := (cdP cdClause)) (v := x2.2)) Sl.nil))) kr hv2 ?_
  refine RunDS.callV (caps := []) (xs := [.v (.int .i64 v1), .v (.int .i64 v2)]) (u := (v1, v2, ())) rfl rfl x_cmp_Compare_int rfl (wantedA_none rfl) kr kr (Sl.cons (Sm.enc (c := cdI) (v := v1)) (Sl.cons (Sm.enc (c := cdI) (v := v2)) Sl.nil)) kr hv3 ?_
  refine RunDS.segF (n := 13) E0_ok 1 [p4] [p3, p2] kr kr ?_
  exact RunDS.done rfl (Wk.sel2 [] kr kr kr trivial ⟨lu kr kr, trivial⟩)
 refine Sem.ret ?_
 have hq := Option.some.inj h; subst hq
 exact ⟨⟨Fr 13 [p4], []⟩, (Wk.fr kr), .inr rfl, [.v (.int .i64 v3)], kr, kr⟩
def t_court_by_1__court_named_1__court_plain_6 : List AV → Option AV := told cs_court_by_1__court_named_1__court_plain_6 (fun a => court_by_1__court_named_1__court_plain_6 a.1 a.2.1 a.2.2.1) er_court_by_1__court_named_1__court_plain_6
theorem x_court_by_1__court_named_1__court_plain_6 : XOk 187 t_court_by_1__court_named_1__court_plain_6 := by
 refine xok_of_sem Tryz.func187 (c := cb_court_by_1__court_named_1__court_plain_6) ?h2 ⟨Tryz.call187⟩ cs_court_by_1__court_named_1__court_plain_6 (fun a => court_by_1__court_named_1__court_plain_6 a.1 a.2.1 a.2.2.1) er_court_by_1__court_named_1__court_plain_6 (fun a => (by show 3 ≤ 13; decide)) ?h3 ?h4
 case h2 => kernel_rfl
 case h3 => intro b; kernel_rfl
 case h4 => exact fun a b h => court_by_1__court_named_1__court_plain_6_sem a.1 a.2.1 a.2.2.1 b h
/- trestle/court.orderOf$1 -/
noncomputable def cb_court_orderOf_1__court_by_1__court_named_1__court_plain_6 : Code := codeOf Tryz.f154
def court_orderOf_1__court_by_1__court_named_1__court_plain_6 (x0 : Seated) (x1 : Seated) (x2 : Clause) (x3 : Clause × Clause) : Option (Int) :=
 (if (!(x2.2.1 == [])) = true then if (!(x0.1.2.1 == x2.2.1)) = true then some true else some (!(x1.1.2.1 == x2.2.1)) else some false).bind fun j2 =>
 if j2 = true then
 some 0
 else
 (court_by_1__court_named_1__court_plain_6 x0 x1 x3).bind fun v4 =>
 some v4
def cs_court_orderOf_1__court_by_1__court_named_1__court_plain_6 : Cs (Seated × Seated × Clause × (Clause × Clause) × Unit) := (csC cdSeated (csC cdSeated (csC (cdP cdClause) (csC (cdP (cdF 187 (csE (cdP (cdF 188 (csC (cdP (cdF 173 (csE (cdP cdClause)) (fun _ => rfl))) (csE (cdP cdClause))) (fun _ => rfl)))) (fun _ => rfl))) csN))))
def er_court_orderOf_1__court_by_1__court_named_1__court_plain_6 (r : Int) : AV := cdI.enc r
theorem court_orderOf_1__court_by_1__court_named_1__court_plain_6_sem (x0 : Seated) (x1 : Seated) (x2 : Clause) (x3 : Clause × Clause) (r : Int) (h : court_orderOf_1__court_by_1__court_named_1__court_plain_6 x0 x1 x2 x3 = some r) : Sem E0 ⟨none, false⟩ cb_court_orderOf_1__court_by_1__court_named_1__court_plain_6 ⟨Fr 30 (pairs0 0 (cs_court_orderOf_1__court_by_1__court_named_1__court_plain_6.enc (x0, x1, x2, x3, ()))), []⟩ fun e s' => (e = .normal ∨ e = .ret) ∧ ∃ xs, resA E0.P s'.fr s'.hp Tryz.f154.results.toList = some xs ∧ retA xs = er_court_orderOf_1__court_by_1__court_named_1__court_plain_6 r := by
 unfold court_orderOf_1__court_by_1__court_named_1__court_plain_6 at h
 let p1 : Nat × AV := (3, .pe (.fn 187 [] [.pe (.fn 188 [] [.pe (.fn 173 [] [.pe (cdClause.enc x3.1) 0]) 0, .pe (cdClause.enc x3.2) 0]) 0]) 0)
 let p2 : Nat × AV := (2, .pe (cdClause.enc x2) 0)
 refine Sem.wkQ (Sem.wk (s1 := ⟨Fr 30 [(0, cdSeated.enc x0), (1, cdSeated.enc x1), p2, p1], []⟩) (Wk.fr kr) ?_)
 let p3 : Option Blk := some ⟨10, 131, [cdSeated.enc x1], false⟩
 let p4 : Option Blk := some ⟨10, 131, [cdSeated.enc x0], false⟩
 let p5 : Nat × AV := (5, .pt 1 0 0)
 let p6 : Nat × AV := (4, .pt 0 0 0)
 refine Sem.sq E0_ok [p2, p1, p6, p5] [p4, p3] ?_
 refine Sem.seq ?_
 refine Sem.seq ?_
 obtain ⟨j2, hj2, h⟩ := Option.bind_eq_some_iff.1 h
 refine Sem.runS (s1 := ⟨Fr 30 [p1, p6, p5, (25, .v (.bool j2))], [p4, p3]⟩) ?_ ?_
 ·refine RunS.segF (n := 30) E0_ok 4 [p2, p1, p6, p5, (10, .v (.bool (!(x2.2.1 == []))))] [p4, p3] kr ?_
  rcases Bool.eq_false_or_eq_true (!(x2.2.1 == [])) with hc5 | hc5
  ·rw [if_pos hc5] at hj2
   rw [hc5]
   refine RunS.segF (n := 30) E0_ok 7 [p2, p1, p6, p5, (10, .v (.bool true)), (17, .v (.bool (!(x0.1.2.1 == x2.2.1))))] [p4, p3] kr ?_
   rcases Bool.eq_false_or_eq_true (!(x0.1.2.1 == x2.2.1)) with hc6 | hc6
   ·rw [if_pos hc6] at hj2
    rw [hc6]
    refine RunS.segF (n := 30) E0_ok 8 [p1, p6, p5, (25, .v (.bool true))] [p4, p3] kr ?_
    have hq := Option.some.inj hj2; subst hq
    exact RunS.done rfl (Wk.sel2 [0, 1] kr kr kr ⟨⟨_, rfl, bu_c kr kr⟩, ⟨_, rfl, bu_c kr kr⟩, trivial⟩ ⟨lu kr kr, lu kr kr, lu kr kr, lu kr kr, trivial⟩)
   ·rw [if_f hc6] at hj2
    rw [hc6]
    refine RunS.segF (n := 30) E0_ok 8 [p1, p6, p5, (25, .v (.bool (!(x1.1.2.1 == x2.2.1))))] [p4, p3] kr ?_
    have hq := Option.some.inj hj2; subst hq
    exact RunS.done rfl (Wk.sel2 [0, 1] kr kr kr ⟨⟨_, rfl, bu_c kr kr⟩, ⟨_, rfl, bu_c kr kr⟩, trivial⟩ ⟨lu kr kr, lu kr kr, lu kr kr, lu kr kr, trivial⟩)
  ·rw [if_f hc5] at hj2
   rw [hc5]
   refine RunS.segF (n := 30) E0_ok 15 [p1, p6, p5, (25, .v (.bool false))] [p4, p3] kr ?_
   have hq := Option.some.inj hj2; subst hq
   exact RunS.done rfl (Wk.sel2 [0, 1] kr kr kr ⟨⟨_, rfl, bu_c kr kr⟩, ⟨_, rfl, bu_c kr kr⟩, trivial⟩ ⟨lu kr kr, lu kr kr, lu kr kr, lu kr kr, trivial⟩)
 refine Sem.cond (b := j2) kr (fun hb3 => ?_) (fun hb3 => ?_)
 ·rw [if_pos hb3] at h
  refine Sem.seq ?_
  let p7 : Nat × AV := (6, .v (.int .i64 0))
  refine Sem.runS (s1 := ⟨Fr 30 [p7], []⟩) ?_ ?_
  ·refine RunS.segF (n := 30) E0_ok 1 [p7] [p4, p3] kr ?_
   exact RunS.done rfl (Wk.sel2 [] kr kr kr trivial ⟨lu kr kr, trivial⟩)
  refine Sem.ret ?_
  have hq := Option.some.inj h; subst hq
  exact ⟨⟨Fr 30 [p7], []⟩, (Wk.fr kr), .inr rfl, [.v (.int .i64 0)], kr, kr⟩
 ·rw [if_f hb3] at h
  refine Sem.skip ?_
  refine Sem.seq ?_
  obtain ⟨v4, hv4, h⟩ := Option.bind_eq_some_iff.1 h
  let p8 : Nat × AV := (6, .v (.int .i64 v4))
  refine Sem.runS (s1 := ⟨Fr 30 [p8], []⟩) ?_ ?_
  ·refine RunS.segF (n := 30) E0_ok 3 [(26, .fn 187 [] [.pe (.fn 188 [] [.pe (.fn 173 [] [.pe (cdClause.enc x3.1) 0]) 0, .pe (cdClause.enc x3.2) 0]) 0]), (27, cdSeated.enc x0), (28, cdSeated.enc x1)] [p4, p3] kr ?_
   refine RunS.callV (caps := [.pe (.fn 188 [] [.pe (.fn 173 [] [.pe (cdClause.enc x3.1) 0]) 0, .pe (cdClause.enc x3.2) 0]) 0]) (xs := [cdSeated.enc x0, cdSeated.enc x1]) (u := (x0, x1, x3, ())) rfl rfl x_court_by_1__court_named_1__court_plain_6 rfl (wantedA_none rfl) kr kr (Sl.cons (Sm.enc (c := cdSeated) (v := x0)) (Sl.cons (Sm.enc (c := cdSeated) (v := x1)) (Sl.cons (Sm.enc (c := (cdP (cdF 188 (csC (cdP (cdF 173 (csE (cdP cdClause)) (fun _ => rfl))) (csE (cdP cdClause))) (fun _ => rfl)))) (v := x3)) Sl.nil))) (.inl kr) hv4 ?_
   refine RunS.segF (n := 30) E0_ok 1 [p8] [p4, p3] kr ?_
   exact RunS.done rfl (Wk.sel2 [] kr kr kr trivial ⟨lu kr kr, trivial⟩)
  refine Sem.ret ?_
  have hq := Option.some.inj h; subst hq
  exact ⟨⟨Fr 30 [p8], []⟩, (Wk.fr kr), .inr rfl, [.v (.int .i64 v4)], kr, kr⟩
def t_court_orderOf_1__court_by_1__court_named_1__court_plain_6 : List AV → Option AV := told cs_court_orderOf_1__court_by_1__court_named_1__court_plain_6 (fun a => court_orderOf_1__court_by_1__court_named_1__court_plain_6 a.1 a.2.1 a.2.2.1 a.2.2.2.1) er_court_orderOf_1__court_by_1__court_named_1__court_plain_6
theorem x_court_orderOf_1__court_by_1__court_named_1__court_plain_6 : XOk 154 t_court_orderOf_1__court_by_1__court_named_1__court_plain_6 := by
 refine xok_of_sem Tryz.func154 (c := cb_court_orderOf_1__court_by_1__court_named_1__court_plain_6) ?h2 ⟨Tryz.call154⟩ cs_court_orderOf_1__court_by_1__court_named_1__court_plain_6 (fun a => court_orderOf_1__court_by_1__court_named_1__court_plain_6 a.1 a.2.1 a.2.2.1 a.2.2.2.1) er_court_orderOf_1__court_by_1__court_named_1__court_plain_6 (fun a => (by show 4 ≤ 30; decide)) ?h3 ?h4
 case h2 => kernel_rfl
 case h3 => intro b; kernel_rfl
 case h4 => exact fun a b h => court_orderOf_1__court_by_1__court_named_1__court_plain_6_sem a.1 a.2.1 a.2.2.1 a.2.2.2.1 b h
/- trestle/court.placed$1 -/
noncomputable def cb_court_placed_1 : Code := codeOf Tryz.f190
def court_placed_1 (x0 : Int) : Option (Bool) :=
 (if (decide (x0 ≥ 0)) = true then some (decide (x0 ≤ 63)) else some false).bind fun j2 =>
 some j2
def cs_court_placed_1 : Cs (Int × Unit) := (csC cdI csN)
def er_court_placed_1 (r : Bool) : AV := cdB.enc r
theorem court_placed_1_sem (x0 : Int) (r : Bool) (h : court_placed_1 x0 = some r) : Sem E0 ⟨none, false⟩ cb_court_placed_1 ⟨Fr 9 (pairs0 0 (cs_court_placed_1.enc (x0, ()))), []⟩ fun e s' => (e = .normal ∨ e = .ret) ∧ ∃ xs, resA E0.P s'.fr s'.hp Tryz.f190.results.toList = some xs ∧ retA xs = er_court_placed_1 r := by
 unfold court_placed_1 at h
 let p1 : Nat × AV := (0, .v (.int .i64 x0))
 refine Sem.wkQ (Sem.wk (s1 := ⟨Fr 9 [p1], []⟩) (Wk.fr kr) ?_)
 refine Sem.sq E0_ok [p1] [] ?_
 refine Sem.seq ?_
 obtain ⟨j2, hj2, h⟩ := Option.bind_eq_some_iff.1 h
 refine Sem.runS (s1 := ⟨Fr 9 [(2, .v (.bool j2))], []⟩) ?_ ?_
 ·refine RunS.segF (n := 9) E0_ok 3 [p1, (5, .v (.bool (decide (x0 ≥ 0))))] [] kr ?_
  rcases Bool.eq_false_or_eq_true (decide (x0 ≥ 0)) with hc3 | hc3
  ·rw [if_pos hc3] at hj2
   rw [hc3]
   refine RunS.segF (n := 9) E0_ok 4 [(2, .v (.bool (decide (x0 ≤ 63))))] [] kr ?_
   have hq := Option.some.inj hj2; subst hq
   exact RunS.done rfl (Wk.fr kr)
  ·rw [if_f hc3] at hj2
   rw [hc3]
   refine RunS.segF (n := 9) E0_ok 4 [(2, .v (.bool false))] [] kr ?_
   have hq := Option.some.inj hj2; subst hq
   exact RunS.done rfl (Wk.fr kr)
 refine Sem.ret ?_
 have hq := Option.some.inj h; subst hq
 exact ⟨⟨Fr 9 [(2, .v (.bool j2))], []⟩, (Wk.fr kr), .inr rfl, [.v (.bool j2)], kr, kr⟩
def t_court_placed_1 : List AV → Option AV := told cs_court_placed_1 (fun a => court_placed_1 a.1) er_court_placed_1
theorem x_court_placed_1 : XOk 190 t_court_placed_1 := by
 refine xok_of_sem Tryz.func190 (c := cb_court_placed_1) ?h2 ⟨Tryz.call190⟩ cs_court_placed_1 (fun a => court_placed_1 a.1) er_court_placed_1 (fun a => (by show 1 ≤ 9; decide)) ?h3 ?h4
 case h2 => kernel_rfl
 case h3 => intro b; kernel_rfl
 case h4 => exact fun a b h => court_placed_1_sem a.1 b h
/- trestle/court.plain$8 -/
noncomputable def cb_court_plain_8 : Code := codeOf Tryz.f177
def court_plain_8 (x0 : Int) (x1 : Clause) : Option (Int) :=
 some ((wr .i64 ((wr .i64 (x0 * (wr .i64 ((wr .i64 (2 * x1.2.2.2.2)) + 1)))) + x1.2.2.2.2)).tmod 64)
def cs_court_plain_8 : Cs (Int × Clause × Unit) := (csC cdI (csC (cdP cdClause) csN))
def er_court_plain_8 (r : Int) : AV := cdI.enc r
theorem court_plain_8_sem (x0 : Int) (x1 : Clause) (r : Int) (h : court_plain_8 x0 x1 = some r) : Sem E0 ⟨none, false⟩ cb_court_plain_8 ⟨Fr 14 (pairs0 0 (cs_court_plain_8.enc (x0, x1, ()))), []⟩ fun e s' => (e = .normal ∨ e = .ret) ∧ ∃ xs, resA E0.P s'.fr s'.hp Tryz.f177.results.toList = some xs ∧ retA xs = er_court_plain_8 r := by
 unfold court_plain_8 at h
 refine Sem.wkQ (Sem.wk (s1 := ⟨Fr 14 [(0, .v (.int .i64 x0)), (1, .pe (cdClause.enc x1) 0)], []⟩) (Wk.fr kr) ?_)
 refine Sem.sq E0_ok [(0, .v (.int .i64 x0)), (1, .pe (cdClause.enc x1) 0)] [] ?_
 let p1 : Nat × AV := (3, .v (.int .i64 ((wr .i64 ((wr .i64 (x0 * (wr .i64 ((wr .i64 (2 * x1.2.2.2.2)) + 1)))) + x1.2.2.2.2)).tmod 64)))
 refine Sem.sq E0_ok [p1] [] ?_
 refine Sem.ret ?_
 have hq := Option.some.inj h; subst hq
 exact ⟨⟨Fr 14 [p1], []⟩, (Wk.fr kr), .inr rfl, [.v (.int .i64 ((wr .i64 ((wr .i64 (x0 * (wr .i64 ((wr .i64 (2 * x1.2.2.2.2)) + 1)))) + x1.2.2.2.2)).tmod 64))], kr, kr⟩
def t_court_plain_8 : List AV → Option AV := told cs_court_plain_8 (fun a => court_plain_8 a.1 a.2.1) er_court_plain_8
theorem x_court_plain_8 : XOk 177 t_court_plain_8 := by
 refine xok_of_sem Tryz.func177 (c := cb_court_plain_8) ?h2 ⟨Tryz.call177⟩ cs_court_plain_8 (fun a => court_plain_8 a.1 a.2.1) er_court_plain_8 (fun a => (by show 2 ≤ 14; decide)) ?h3 ?h4
 case h2 => kernel_rfl
 case h3 => intro b; kernel_rfl
 case h4 => exact fun a b h => court_plain_8_sem a.1 a.2.1 b h
/- trestle/court.placed$2 -/
noncomputable def cb_court_placed_2__court_placed_1__court_plain_8 : Code := codeOf Tryz.f191
def court_placed_2__court_placed_1__court_plain_8 (x0 : Seated) (x1 : Seated) (x3 : Clause) : Option (Int) :=
 (court_placed_1 x0.2).bind fun v1 =>
 (if (!v1) = true then some true else (court_placed_1 x1.2).bind fun v2 =>
 some (!v2)).bind fun j4 =>
 if j4 = true then
 some 0
 else
 (court_plain_8 x0.2 x3).bind fun v6 =>
 (court_plain_8 x1.2 x3).bind fun v7 =>
 (cmp_Compare_int v6 v7).bind fun v8 =>
 some v8
def cs_court_placed_2__court_placed_1__court_plain_8 : Cs (Seated × Seated × Unit × Clause × Unit) := (csC cdSeated (csC cdSeated (csC (cdP (cdF 190 csN (fun _ => rfl))) (csC (cdP (cdF 177 (csE (cdP cdClause)) (fun _ => rfl))) csN))))
def er_court_placed_2__court_placed_1__court_plain_8 (r : Int) : AV := cdI.enc r
theorem court_placed_2__court_placed_1__court_plain_8_sem (x0 : Seated) (x1 : Seated) (x3 : Clause) (r : Int) (h : court_placed_2__court_placed_1__court_plain_8 x0 x1 x3 = some r) : Sem E0 ⟨none, false⟩ cb_court_placed_2__court_placed_1__court_plain_8 ⟨Fr 28 (pairs0 0 (cs_court_placed_2__court_placed_1__court_plain_8.enc (x0, x1, (), x3, ()))), []⟩ fun e s' => (e = .normal ∨ e = .ret) ∧ ∃ xs, resA E0.P s'.fr s'.hp Tryz.f191.results.toList = some xs ∧ retA xs = er_court_placed_2__court_placed_1__court_plain_8 r := by
 unfold court_placed_2__court_placed_1__court_plain_8 at h
 let p1 : Nat × AV := (3, .pe (.fn 177 [] [.pe (cdClause.enc x3) 0]) 0)
 let p2 : Nat × AV := (2, .pe (.fn 190 [] []) 0)
 refine Sem.wkQ (Sem.wk (s1 := ⟨Fr 28 [(0, cdSeated.enc x0), (1, cdSeated.enc x1), p2, p1], []⟩) (Wk.fr kr) ?_)
 let p3 : Option Blk := some ⟨10, 131, [cdSeated.enc x1], false⟩
 let p4 : Option Blk := some ⟨10, 131, [cdSeated.enc x0], false⟩
 let p5 : Nat × AV := (5, .pt 1 0 0)
 let p6 : Nat × AV := (4, .pt 0 0 0)
 refine Sem.sq E0_ok [p2, p1, p6, p5] [p4, p3] ?_
 refine Sem.seq ?_
 refine Sem.seq ?_
 obtain ⟨v1, hv1, h⟩ := Option.bind_eq_some_iff.1 h
 obtain ⟨j4, hj4, h⟩ := Option.bind_eq_some_iff.1 h
 refine Sem.runS (s1 := ⟨Fr 28 [p1, p6, p5, (18, .v (.bool j4))], [p4, p3]⟩) ?_ ?_
 ·refine RunS.segF (n := 28) E0_ok 3 [p2, p1, p6, p5, (7, .fn 190 [] []), (9, .v (.int .i64 x0.2))] [p4, p3] kr ?_
  refine RunS.callV (caps := []) (xs := [.v (.int .i64 x0.2)]) (u := (x0.2, ())) rfl rfl x_court_placed_1 rfl (wantedA_none rfl) kr kr (Sl.cons (Sm.enc (c := cdI) (v := x0.2)) Sl.nil) (.inl kr) hv1 ?_
  refine RunS.segF (n := 28) E0_ok 2 [p2, p1, p6, p5, (12, .v (.bool (!v1)))] [p4, p3] kr ?_
  rcases Bool.eq_false_or_eq_true (!v1) with hc9 | hc9
  ·rw [if_pos hc9] at hj4
   rw [hc9]
   refine RunS.segF (n := 28) E0_ok 6 [p1, p6, p5, (18, .v (.bool true))] [p4, p3] kr ?_
   have hq := Option.some.inj hj4; subst hq
   exact RunS.done rfl (Wk.sel2 [0, 1] kr kr kr ⟨⟨_, rfl, bu_c kr kr⟩, ⟨_, rfl, bu_c kr kr⟩, trivial⟩ ⟨lu kr kr, lu kr kr, lu kr kr, lu kr kr, trivial⟩)
  ·rw [if_f hc9] at hj4
   rw [hc9]
   refine RunS.segF (n := 28) E0_ok 3 [p1, p6, p5, (12, .v (.bool false)), (13, .fn 190 [] []), (15, .v (.int .i64 x1.2))] [p4, p3] kr ?_
   obtain ⟨v2, hv2, hj4⟩ := Option.bind_eq_some_iff.1 hj4
   refine RunS.callV (caps := []) (xs := [.v (.int .i64 x1.2)]) (u := (x1.2, ())) rfl rfl x_court_placed_1 rfl kr kr kr (Sl.cons (Sm.enc (c := cdI) (v := x1.2)) Sl.nil) (.inl kr) hv2 ?_
   refine RunS.segF (n := 28) E0_ok 2 [p1, p6, p5, (18, .v (.bool (!v2)))] [p4, p3] kr ?_
   have hq := Option.some.inj hj4; subst hq
   exact RunS.done rfl (Wk.sel2 [0, 1] kr kr kr ⟨⟨_, rfl, bu_c kr kr⟩, ⟨_, rfl, bu_c kr kr⟩, trivial⟩ ⟨lu kr kr, lu kr kr, lu kr kr, lu kr kr, trivial⟩)
 refine Sem.cond (b := j4) kr (fun hb5 => ?_) (fun hb5 => ?_)
 ·rw [if_pos hb5] at h
  refine Sem.seq ?_
  let p7 : Nat × AV := (6, .v (.int .i64 0))
  refine Sem.runS (s1 := ⟨Fr 28 [p7], []⟩) ?_ ?_
  ·refine RunS.segF (n := 28) E0_ok 1 [p7] [p4, p3] kr ?_
   exact RunS.done rfl (Wk.sel2 [] kr kr kr trivial ⟨lu kr kr, trivial⟩)
  refine Sem.ret ?_
  have hq := Option.some.inj h; subst hq
  exact ⟨⟨Fr 28 [p7], []⟩, (Wk.fr kr), .inr rfl, [.v (.int .i64 0)], kr, kr⟩
 ·rw [if_f hb5] at h
  refine Sem.skip ?_
  refine Sem.seq ?_
  obtain ⟨v6, hv6, h⟩ := Option.bind_eq_some_iff.1 h
  obtain ⟨v7, hv7, h⟩ := Option.bind_eq_some_iff.1 h
  obtain ⟨v8, hv8, h⟩ := Option.bind_eq_some_iff.1 h
  let p8 : Nat × AV := (6, .v (.int .i64 v8))
  refine Sem.runDS E0_ok (s1 := ⟨Fr 28 [p8], []⟩) kr ?_ ?_
  ·refine RunDS.segF (n := 28) E0_ok 3 [p1, p5, (19, .fn 177 [] [.pe (cdClause.enc x3) 0]), (21, .v (.int .i64 x0.2))] [p4, p3] kr kr ?_
   refine RunDS.callV (caps := [.pe (cdClause.enc x3) 0]) (xs := [.v (.int .i64 x0.2)]) (u := (x0.2, x3, ())) rfl rfl x_court_plain_8 rfl (wantedA_none rfl) kr kr (Sl.cons (Sm.enc (c := cdI) (v := x0.2)) (Sl.cons (Sm.enc (c := (cdP cdClause)) (v := x3)) Sl.nil)) kr hv6 ?_
   refine RunDS.segF (n := 28) E0_ok 3 [(22, .v (.int .i64 v6)), (23, .fn 177 [] [.pe (cdClause.enc x3) 0]), (25, .v (.int .i64 x1.2))] [p4, p3] kr kr ?_
   refine RunDS.callV (caps := [.pe (cdClause.enc x3) 0]) (xs := [.v (.int .i64 x1.2)]) (u := (x1.2, x3, ())) rfl rfl x_court_plain_8 rfl (wantedA_none rfl) kr kr (Sl.cons (Sm.enc (c := cdI) (v := x1.2)) (Sl.cons (Sm.enc (c := (cdP cdClause)) (v := x3)) Sl.nil)) kr hv7 ?_
   refine RunDS.callV (caps := []) (xs := [.v (.int .i64 v6), .v (.int .i64 v7)]) (u := (v6, v7, ())) rfl rfl x_cmp_Compare_int rfl (wantedA_none rfl) kr kr (Sl.cons (Sm.enc (c := cdI) (v := v6)) (Sl.cons (Sm.enc (c := cdI) (v := v7)) Sl.nil)) kr hv8 ?_
   refine RunDS.segF (n := 28) E0_ok 1 [p8] [p4, p3] kr kr ?_
   exact RunDS.done rfl (Wk.sel2 [] kr kr kr trivial ⟨lu kr kr, trivial⟩)
  refine Sem.ret ?_
  have hq := Option.some.inj h; subst hq
  exact ⟨⟨Fr 28 [p8], []⟩, (Wk.fr kr), .inr rfl, [.v (.int .i64 v8)], kr, kr⟩
def t_court_placed_2__court_placed_1__court_plain_8 : List AV → Option AV := told cs_court_placed_2__court_placed_1__court_plain_8 (fun a => court_placed_2__court_placed_1__court_plain_8 a.1 a.2.1 a.2.2.2.1) er_court_placed_2__court_placed_1__court_plain_8
theorem x_court_placed_2__court_placed_1__court_plain_8 : XOk 191 t_court_placed_2__court_placed_1__court_plain_8 := by
 refine xok_of_sem Tryz.func191 (c := cb_court_placed_2__court_placed_1__court_plain_8) ?h2 ⟨Tryz.call191⟩ cs_court_placed_2__court_placed_1__court_plain_8 (fun a => court_placed_2__court_placed_1__court_plain_8 a.1 a.2.1 a.2.2.2.1) er_court_placed_2__court_placed_1__court_plain_8 (fun a => (by show 4 ≤ 28; decide)) ?h3 ?h4
 case h2 => kernel_rfl
 case h3 => intro b; kernel_rfl
 case h4 => exact fun a b h => court_placed_2__court_placed_1__court_plain_8_sem a.1 a.2.1 a.2.2.2.1 b h
/- trestle/court.orderOf$1 -/
noncomputable def cb_court_orderOf_1__court_placed_2__court_placed_1__court_plain_8 : Code := codeOf Tryz.f154
def court_orderOf_1__court_placed_2__court_placed_1__court_plain_8 (x0 : Seated) (x1 : Seated) (x2 : Clause) (x3 : Unit × Clause) : Option (Int) :=
 (if (!(x2.2.1 == [])) = true then if (!(x0.1.2.1 == x2.2.1)) = true then some true else some (!(x1.1.2.1 == x2.2.1)) else some false).bind fun j2 =>
 if j2 = true then
 some 0
 else
 (court_placed_2__court_placed_1__court_plain_8 x0 x1 x3.2).bind fun v4 =>
 some v4
def cs_court_orderOf_1__court_placed_2__court_placed_1__court_plain_8 : Cs (Seated × Seated × Clause × (Unit × Clause) × Unit) := (csC cdSeated (csC cdSeated (csC (cdP cdClause) (csC (cdP (cdF 191 (csC (cdP (cdF 190 csN (fun _ => rfl))) (csE (cdP (cdF 177 (csE (cdP cdClause)) (fun _ => rfl))))) (fun _ => rfl))) csN))))
def er_court_orderOf_1__court_placed_2__court_placed_1__court_plain_8 (r : Int) : AV := cdI.enc r
theorem court_orderOf_1__court_placed_2__court_placed_1__court_plain_8_sem (x0 : Seated) (x1 : Seated) (x2 : Clause) (x3 : Unit × Clause) (r : Int) (h : court_orderOf_1__court_placed_2__court_placed_1__court_plain_8 x0 x1 x2 x3 = some r) : Sem E0 ⟨none, false⟩ cb_court_orderOf_1__court_placed_2__court_placed_1__court_plain_8 ⟨Fr 30 (pairs0 0 (cs_court_orderOf_1__court_placed_2__court_placed_1__court_plain_8.enc (x0, x1, x2, x3, ()))), []⟩ fun e s' => (e = .normal ∨ e = .ret) ∧ ∃ xs, resA E0.P s'.fr s'.hp Tryz.f154.results.toList = some xs ∧ retA xs = er_court_orderOf_1__court_placed_2__court_placed_1__court_plain_8 r := by
 unfold court_orderOf_1__court_placed_2__court_placed_1__court_plain_8 at h
 let p1 : Nat × AV := (3, .pe (.fn 191 [] [.pe (.fn 190 [] []) 0, .pe (.fn 177 [] [.pe (cdClause.enc x3.2) 0]) 0]) 0)
 let p2 : Nat × AV := (2, .pe (cdClause.enc x2) 0)
 refine Sem.wkQ (Sem.wk (s1 := ⟨Fr 30 [(0, cdSeated.enc x0), (1, cdSeated.enc x1), p2, p1], []⟩) (Wk.fr kr) ?_)
 let p3 : Option Blk := some ⟨10, 131, [cdSeated.enc x1], false⟩
 let p4 : Option Blk := some ⟨10, 131, [cdSeated.enc x0], false⟩
 let p5 : Nat × AV := (5, .pt 1 0 0)
 let p6 : Nat × AV := (4, .pt 0 0 0)
 refine Sem.sq E0_ok [p2, p1, p6, p5] [p4, p3] ?_
 refine Sem.seq ?_
 refine Sem.seq ?_
 obtain ⟨j2, hj2, h⟩ := Option.bind_eq_some_iff.1 h
 refine Sem.runS (s1 := ⟨Fr 30 [p1, p6, p5, (25, .v (.bool j2))], [p4, p3]⟩) ?_ ?_
 ·refine RunS.segF (n := 30) E0_ok 4 [p2, p1, p6, p5, (10, .v (.bool (!(x2.2.1 == []))))] [p4, p3] kr ?_
  rcases Bool.eq_false_or_eq_true (!(x2.2.1 == [])) with hc5 | hc5
  ·rw [if_pos hc5] at hj2
   rw [hc5]
   refine RunS.segF (n := 30) E0_ok 7 [p2, p1, p6, p5, (10, .v (.bool true)), (17, .v (.bool (!(x0.1.2.1 == x2.2.1))))] [p4, p3] kr ?_
   rcases Bool.eq_false_or_eq_true (!(x0.1.2.1 == x2.2.1)) with hc6 | hc6
   ·rw [if_pos hc6] at hj2
    rw [hc6]
    refine RunS.segF (n := 30) E0_ok 8 [p1, p6, p5, (25, .v (.bool true))] [p4, p3] kr ?_
    have hq := Option.some.inj hj2; subst hq
    exact RunS.done rfl (Wk.sel2 [0, 1] kr kr kr ⟨⟨_, rfl, bu_c kr kr⟩, ⟨_, rfl, bu_c kr kr⟩, trivial⟩ ⟨lu kr kr, lu kr kr, lu kr kr, lu kr kr, trivial⟩)
   ·rw [if_f hc6] at hj2
    rw [hc6]
    refine RunS.segF (n := 30) E0_ok 8 [p1, p6, p5, (25, .v (.bool (!(x1.1.2.1 == x2.2.1))))] [p4, p3] kr ?_
    have hq := Option.some.inj hj2; subst hq
    exact RunS.done rfl (Wk.sel2 [0, 1] kr kr kr ⟨⟨_, rfl, bu_c kr kr⟩, ⟨_, rfl, bu_c kr kr⟩, trivial⟩ ⟨lu kr kr, lu kr kr, lu kr kr, lu kr kr, trivial⟩)
  ·rw [if_f hc5] at hj2
   rw [hc5]
   refine RunS.segF (n := 30) E0_ok 15 [p1, p6, p5, (25, .v (.bool false))] [p4, p3] kr ?_
   have hq := Option.some.inj hj2; subst hq
   exact RunS.done rfl (Wk.sel2 [0, 1] kr kr kr ⟨⟨_, rfl, bu_c kr kr⟩, ⟨_, rfl, bu_c kr kr⟩, trivial⟩ ⟨lu kr kr, lu kr kr, lu kr kr, lu kr kr, trivial⟩)
 refine Sem.cond (b := j2) kr (fun hb3 => ?_) (fun hb3 => ?_)
 ·rw [if_pos hb3] at h
  refine Sem.seq ?_
  let p7 : Nat × AV := (6, .v (.int .i64 0))
  refine Sem.runS (s1 := ⟨Fr 30 [p7], []⟩) ?_ ?_
  ·refine RunS.segF (n := 30) E0_ok 1 [p7] [p4, p3] kr ?_
   exact RunS.done rfl (Wk.sel2 [] kr kr kr trivial ⟨lu kr kr, trivial⟩)
  refine Sem.ret ?_
  have hq := Option.some.inj h; subst hq
  exact ⟨⟨Fr 30 [p7], []⟩, (Wk.fr kr), .inr rfl, [.v (.int .i64 0)], kr, kr⟩
 ·rw [if_f hb3] at h
  refine Sem.skip ?_
  refine Sem.seq ?_
  obtain ⟨v4, hv4, h⟩ := Option.bind_eq_some_iff.1 h
  let p8 : Nat × AV := (6, .v (.int .i64 v4))
  refine Sem.runS (s1 := ⟨Fr 30 [p8], []⟩) ?_ ?_
  ·refine RunS.segF (n := 30) E0_ok 3 [(26, .fn 191 [] [.pe (.fn 190 [] []) 0, .pe (.fn 177 [] [.pe (cdClause.enc x3.2) 0]) 0]), (27, cdSeated.enc x0), (28, cdSeated.enc x1)] [p4, p3] kr ?_
   refine RunS.callV (caps := [.pe (.fn 190 [] []) 0, .pe (.fn 177 [] [.pe (cdClause.enc x3.2) 0]) 0]) (xs := [cdSeated.enc x0, cdSeated.enc x1]) (u := (x0, x1, (), x3.2, ())) rfl rfl x_court_placed_2__court_placed_1__court_plain_8 rfl (wantedA_none rfl) kr kr (Sl.cons (Sm.enc (c := cdSeated) (v := x0)) (Sl.cons (Sm.enc (c := cdSeated) (v := x1)) (Sl.cons (Sm.enc (c := (cdP (cdF 190 csN (fun _ => rfl)))) (v := ())) (Sl.cons (Sm.enc (c := (cdP (cdF 177 (csE (cdP cdClause)) (fun _ => rfl)))) (v := x3.2)) Sl.nil)))) (.inl kr) hv4 ?_
   refine RunS.segF (n := 30) E0_ok 1 [p8] [p4, p3] kr ?_
   exact RunS.done rfl (Wk.sel2 [] kr kr kr trivial ⟨lu kr kr, trivial⟩)
  refine Sem.ret ?_
  have hq := Option.some.inj h; subst hq
  exact ⟨⟨Fr 30 [p8], []⟩, (Wk.fr kr), .inr rfl, [.v (.int .i64 v4)], kr, kr⟩
def t_court_orderOf_1__court_placed_2__court_placed_1__court_plain_8 : List AV → Option AV := told cs_court_orderOf_1__court_placed_2__court_placed_1__court_plain_8 (fun a => court_orderOf_1__court_placed_2__court_placed_1__court_plain_8 a.1 a.2.1 a.2.2.1 a.2.2.2.1) er_court_orderOf_1__court_placed_2__court_placed_1__court_plain_8
theorem x_court_orderOf_1__court_placed_2__court_placed_1__court_plain_8 : XOk 154 t_court_orderOf_1__court_placed_2__court_placed_1__court_plain_8 := by
 refine xok_of_sem Tryz.func154 (c := cb_court_orderOf_1__court_placed_2__court_placed_1__court_plain_8) ?h2 ⟨Tryz.call154⟩ cs_court_orderOf_1__court_placed_2__court_placed_1__court_plain_8 (fun a => court_orderOf_1__court_placed_2__court_placed_1__court_plain_8 a.1 a.2.1 a.2.2.1 a.2.2.2.1) er_court_orderOf_1__court_placed_2__court_placed_1__court_plain_8 (fun a => (by show 4 ≤ 30; decide)) ?h3 ?h4
 case h2 => kernel_rfl
 case h3 => intro b; kernel_rfl
 case h4 => exact fun a b h => court_orderOf_1__court_placed_2__court_placed_1__court_plain_8_sem a.1 a.2.1 a.2.2.1 a.2.2.2.1 b h
/- trestle/court.plain$9 -/
noncomputable def cb_court_plain_9 : Code := codeOf Tryz.f178
def court_plain_9 (x0 : Int) : Option (Int) :=
 some x0
def cs_court_plain_9 : Cs (Int × Unit) := (csC cdI csN)
def er_court_plain_9 (r : Int) : AV := cdI.enc r
theorem court_plain_9_sem (x0 : Int) (r : Int) (h : court_plain_9 x0 = some r) : Sem E0 ⟨none, false⟩ cb_court_plain_9 ⟨Fr 4 (pairs0 0 (cs_court_plain_9.enc (x0, ()))), []⟩ fun e s' => (e = .normal ∨ e = .ret) ∧ ∃ xs, resA E0.P s'.fr s'.hp Tryz.f178.results.toList = some xs ∧ retA xs = er_court_plain_9 r := by
 unfold court_plain_9 at h
 refine Sem.wkQ (Sem.wk (s1 := ⟨Fr 4 [(0, .v (.int .i64 x0))], []⟩) (Wk.fr kr) ?_)
 refine Sem.sq E0_ok [(0, .v (.int .i64 x0))] [] ?_
 refine Sem.sq E0_ok [(2, .v (.int .i64 x0))] [] ?_
 refine Sem.ret ?_
 have hq := Option.some.inj h; subst hq
 exact ⟨⟨Fr 4 [(2, .v (.int .i64 x0))], []⟩, (Wk.fr kr), .inr rfl, [.v (.int .i64 x0)], kr, kr⟩
def t_court_plain_9 : List AV → Option AV := told cs_court_plain_9 (fun a => court_plain_9 a.1) er_court_plain_9
theorem x_court_plain_9 : XOk 178 t_court_plain_9 := by
 refine xok_of_sem Tryz.func178 (c := cb_court_plain_9) ?h2 ⟨Tryz.call178⟩ cs_court_plain_9 (fun a => court_plain_9 a.1) er_court_plain_9 (fun a => (by show 1 ≤ 4; decide)) ?h3 ?h4
 case h2 => kernel_rfl
 case h3 => intro b; kernel_rfl
 case h4 => exact fun a b h => court_plain_9_sem a.1 b h
/- trestle/court.placed$2 -/
noncomputable def cb_court_placed_2__court_placed_1__court_plain_9 : Code := codeOf Tryz.f191
def court_placed_2__court_placed_1__court_plain_9 (x0 : Seated) (x1 : Seated) : Option (Int) :=
 (court_placed_1 x0.2).bind fun v1 =>
 (if (!v1) = true then some true else (court_placed_1 x1.2).bind fun v2 =>
 some (!v2)).bind fun j4 =>
 if j4 = true then
 some 0
 else
 (court_plain_9 x0.2).bind fun v6 =>
 (court_plain_9 x1.2).bind fun v7 =>
 (cmp_Compare_int v6 v7).bind fun v8 =>
 some v8
def cs_court_placed_2__court_placed_1__court_plain_9 : Cs (Seated × Seated × Unit × Unit × Unit) := (csC cdSeated (csC cdSeated (csC (cdP (cdF 190 csN (fun _ => rfl))) (csC (cdP (cdF 178 csN (fun _ => rfl))) csN))))
def er_court_placed_2__court_placed_1__court_plain_9 (r : Int) : AV := cdI.enc r
theorem court_placed_2__court_placed_1__court_plain_9_sem (x0 : Seated) (x1 : Seated) (r : Int) (h : court_placed_2__court_placed_1__court_plain_9 x0 x1 = some r) : Sem E0 ⟨none, false⟩ cb_court_placed_2__court_placed_1__court_plain_9 ⟨Fr 28 (pairs0 0 (cs_court_placed_2__court_placed_1__court_plain_9.enc (x0, x1, (), (), ()))), []⟩ fun e s' => (e = .normal ∨ e = .ret) ∧ ∃ xs, resA E0.P s'.fr s'.hp Tryz.f191.results.toList = some xs ∧ retA xs = er_court_placed_2__court_placed_1__court_plain_9 r := by
 unfold court_placed_2__court_placed_1__court_plain_9 at h
 let p1 : Nat × AV := (3, .pe (.fn 178 [] []) 0)
 let p2 : Nat × AV := (2, .pe (.fn 190 [] []) 0)
 refine Sem.wkQ (Sem.wk (s1 := ⟨Fr 28 [(0, cdSeated.enc x0), (1, cdSeated.enc x1), p2, p1], []⟩) (Wk.fr kr) ?_)
 let p3 : Option Blk := some ⟨10, 131, [cdSeated.enc x1], false⟩
 let p4 : Option Blk := some ⟨10, 131, [cdSeated.enc x0], false⟩
 let p5 : Nat × AV := (5, .pt 1 0 0)
 let p6 : Nat × AV := (4, .pt 0 0 0)
 refine Sem.sq E0_ok [p2, p1, p6, p5] [p4, p3] ?_
 refine Sem.seq ?_
 refine Sem.seq ?_
 obtain ⟨v1, hv1, h⟩ := Option.bind_eq_some_iff.1 h
 obtain ⟨j4, hj4, h⟩ := Option.bind_eq_some_iff.1 h
 refine Sem.runS (s1 := ⟨Fr 28 [p1, p6, p5, (18, .v (.bool j4))], [p4, p3]⟩) ?_ ?_
 ·refine RunS.segF (n := 28) E0_ok 3 [p2, p1, p6, p5, (7, .fn 190 [] []), (9, .v (.int .i64 x0.2))] [p4, p3] kr ?_
  refine RunS.callV (caps := []) (xs := [.v (.int .i64 x0.2)]) (u := (x0.2, ())) rfl rfl x_court_placed_1 rfl (wantedA_none rfl) kr kr (Sl.cons (Sm.enc (c := cdI) (v := x0.2)) Sl.nil) (.inl kr) hv1 ?_
  refine RunS.segF (n := 28) E0_ok 2 [p2, p1, p6, p5, (12, .v (.bool (!v1)))] [p4, p3] kr ?_
  rcases Bool.eq_false_or_eq_true (!v1) with hc9 | hc9
  ·rw [if_pos hc9] at hj4
   rw [hc9]
   refine RunS.segF (n := 28) E0_ok 6 [p1, p6, p5, (18, .v (.bool true))] [p4, p3] kr ?_
   have hq := Option.some.inj hj4; subst hq
   exact RunS.done rfl (Wk.sel2 [0, 1] kr kr kr ⟨⟨_, rfl, bu_c kr kr⟩, ⟨_, rfl, bu_c kr kr⟩, trivial⟩ ⟨lu kr kr, lu kr kr, lu kr kr, lu kr kr, trivial⟩)
  ·rw [if_f hc9] at hj4
   rw [hc9]
   refine RunS.segF (n := 28) E0_ok 3 [p1, p6, p5, (12, .v (.bool false)), (13, .fn 190 [] []), (15, .v (.int .i64 x1.2))] [p4, p3] kr ?_
   obtain ⟨v2, hv2, hj4⟩ := Option.bind_eq_some_iff.1 hj4
   refine RunS.callV (caps := []) (xs := [.v (.int .i64 x1.2)]) (u := (x1.2, ())) rfl rfl x_court_placed_1 rfl kr kr kr (Sl.cons (Sm.enc (c := cdI) (v := x1.2)) Sl.nil) (.inl kr) hv2 ?_
   refine RunS.segF (n := 28) E0_ok 2 [p1, p6, p5, (18, .v (.bool (!v2)))] [p4, p3] kr ?_
   have hq := Option.some.inj hj4; subst hq
   exact RunS.done rfl (Wk.sel2 [0, 1] kr kr kr ⟨⟨_, rfl, bu_c kr kr⟩, ⟨_, rfl, bu_c kr kr⟩, trivial⟩ ⟨lu kr kr, lu kr kr, lu kr kr, lu kr kr, trivial⟩)
 refine Sem.cond (b := j4) kr (fun hb5 => ?_) (fun hb5 => ?_)
 ·rw [if_pos hb5] at h
  refine Sem.seq ?_
  let p7 : Nat × AV := (6, .v (.int .i64 0))
  refine Sem.runS (s1 := ⟨Fr 28 [p7], []⟩) ?_ ?_
  ·refine RunS.segF (n := 28) E0_ok 1 [p7] [p4, p3] kr ?_
   exact RunS.done rfl (Wk.sel2 [] kr kr kr trivial ⟨lu kr kr, trivial⟩)
  refine Sem.ret ?_
  have hq := Option.some.inj h; subst hq
  exact ⟨⟨Fr 28 [p7], []⟩, (Wk.fr kr), .inr rfl, [.v (.int .i64 0)], kr, kr⟩
 ·rw [if_f hb5] at h
  refine Sem.skip ?_
  refine Sem.seq ?_
  obtain ⟨v6, hv6, h⟩ := Option.bind_eq_some_iff.1 h
  obtain ⟨v7, hv7, h⟩ := Option.bind_eq_some_iff.1 h
  obtain ⟨v8, hv8, h⟩ := Option.bind_eq_some_iff.1 h
  let p8 : Nat × AV := (6, .v (.int .i64 v8))
  refine Sem.runDS E0_ok (s1 := ⟨Fr 28 [p8], []⟩) kr ?_ ?_
  ·refine RunDS.segF (n := 28) E0_ok 3 [p1, p5, (19, .fn 178 [] []), (21, .v (.int .i64 x0.2))] [p4, p3] kr kr ?_
   refine RunDS.callV (caps := []) (xs := [.v (.int .i64 x0.2)]) (u := (x0.2, ())) rfl rfl x_court_plain_9 rfl (wantedA_none rfl) kr kr (Sl.cons (Sm.enc (c := cdI) (v := x0.2)) Sl.nil) kr hv6 ?_
   refine RunDS.segF (n := 28) E0_ok 3 [(22, .v (.int .i64 v6)), (23, .fn 178 [] []), (25, .v (.int .i64 x1.2))] [p4, p3] kr kr ?_
   refine RunDS.callV (caps := []) (xs := [.v (.int .i64 x1.2)]) (u := (x1.2, ())) rfl rfl x_court_plain_9 rfl (wantedA_none rfl) kr kr (Sl.cons (Sm.enc (c := cdI) (v := x1.2)) Sl.nil) kr hv7 ?_
   refine RunDS.callV (caps := []) (xs := [.v (.int .i64 v6), .v (.int .i64 v7)]) (u := (v6, v7, ())) rfl rfl x_cmp_Compare_int rfl (wantedA_none rfl) kr kr (Sl.cons (Sm.enc (c := cdI) (v := v6)) (Sl.cons (Sm.enc (c := cdI) (v := v7)) Sl.nil)) kr hv8 ?_
   refine RunDS.segF (n := 28) E0_ok 1 [p8] [p4, p3] kr kr ?_
   exact RunDS.done rfl (Wk.sel2 [] kr kr kr trivial ⟨lu kr kr, trivial⟩)
  refine Sem.ret ?_
  have hq := Option.some.inj h; subst hq
  exact ⟨⟨Fr 28 [p8], []⟩, (Wk.fr kr), .inr rfl, [.v (.int .i64 v8)], kr, kr⟩
def t_court_placed_2__court_placed_1__court_plain_9 : List AV → Option AV := told cs_court_placed_2__court_placed_1__court_plain_9 (fun a => court_placed_2__court_placed_1__court_plain_9 a.1 a.2.1) er_court_placed_2__court_placed_1__court_plain_9
theorem x_court_placed_2__court_placed_1__court_plain_9 : XOk 191 t_court_placed_2__court_placed_1__court_plain_9 := by
 refine xok_of_sem Tryz.func191 (c := cb_court_placed_2__court_placed_1__court_plain_9) ?h2 ⟨Tryz.call191⟩ cs_court_placed_2__court_placed_1__court_plain_9 (fun a => court_placed_2__court_placed_1__court_plain_9 a.1 a.2.1) er_court_placed_2__court_placed_1__court_plain_9 (fun a => (by show 4 ≤ 28; decide)) ?h3 ?h4
 case h2 => kernel_rfl
 case h3 => intro b; kernel_rfl
 case h4 => exact fun a b h => court_placed_2__court_placed_1__court_plain_9_sem a.1 a.2.1 b h
/- trestle/court.orderOf$1 -/
noncomputable def cb_court_orderOf_1__court_placed_2__court_placed_1__court_plain_9 : Code := codeOf Tryz.f154
def court_orderOf_1__court_placed_2__court_placed_1__court_plain_9 (x0 : Seated) (x1 : Seated) (x2 : Clause) (x3 : Unit × Unit) : Option (Int) :=
 (if (!(x2.2.1 == [])) = true then if (!(x0.1.2.1 == x2.2.1)) = true then some true else some (!(x1.1.2.1 == x2.2.1)) else some false).bind fun j2 =>
 if j2 = true then
 some 0
 else
 (court_placed_2__court_placed_1__court_plain_9 x0 x1).bind fun v4 =>
 some v4
def cs_court_orderOf_1__court_placed_2__court_placed_1__court_plain_9 : Cs (Seated × Seated × Clause × (Unit × Unit) × Unit) := (csC cdSeated (csC cdSeated (csC (cdP cdClause) (csC (cdP (cdF 191 (csC (cdP (cdF 190 csN (fun _ => rfl))) (csE (cdP (cdF 178 csN (fun _ => rfl))))) (fun _ => rfl))) csN))))
def er_court_orderOf_1__court_placed_2__court_placed_1__court_plain_9 (r : Int) : AV := cdI.enc r
theorem court_orderOf_1__court_placed_2__court_placed_1__court_plain_9_sem (x0 : Seated) (x1 : Seated) (x2 : Clause) (x3 : Unit × Unit) (r : Int) (h : court_orderOf_1__court_placed_2__court_placed_1__court_plain_9 x0 x1 x2 x3 = some r) : Sem E0 ⟨none, false⟩ cb_court_orderOf_1__court_placed_2__court_placed_1__court_plain_9 ⟨Fr 30 (pairs0 0 (cs_court_orderOf_1__court_placed_2__court_placed_1__court_plain_9.enc (x0, x1, x2, x3, ()))), []⟩ fun e s' => (e = .normal ∨ e = .ret) ∧ ∃ xs, resA E0.P s'.fr s'.hp Tryz.f154.results.toList = some xs ∧ retA xs = er_court_orderOf_1__court_placed_2__court_placed_1__court_plain_9 r := by
 unfold court_orderOf_1__court_placed_2__court_placed_1__court_plain_9 at h
 let p1 : Nat × AV := (3, .pe (.fn 191 [] [.pe (.fn 190 [] []) 0, .pe (.fn 178 [] []) 0]) 0)
 let p2 : Nat × AV := (2, .pe (cdClause.enc x2) 0)
 refine Sem.wkQ (Sem.wk (s1 := ⟨Fr 30 [(0, cdSeated.enc x0), (1, cdSeated.enc x1), p2, p1], []⟩) (Wk.fr kr) ?_)
 let p3 : Option Blk := some ⟨10, 131, [cdSeated.enc x1], false⟩
 let p4 : Option Blk := some ⟨10, 131, [cdSeated.enc x0], false⟩
 let p5 : Nat × AV := (5, .pt 1 0 0)
 let p6 : Nat × AV := (4, .pt 0 0 0)
 refine Sem.sq E0_ok [p2, p1, p6, p5] [p4, p3] ?_
 refine Sem.seq ?_
 refine Sem.seq ?_
 obtain ⟨j2, hj2, h⟩ := Option.bind_eq_some_iff.1 h
 refine Sem.runS (s1 := ⟨Fr 30 [p1, p6, p5, (25, .v (.bool j2))], [p4, p3]⟩) ?_ ?_
 ·refine RunS.segF (n := 30) E0_ok 4 [p2, p1, p6, p5, (10, .v (.bool (!(x2.2.1 == []))))] [p4, p3] kr ?_
  rcases Bool.eq_false_or_eq_true (!(x2.2.1 == [])) with hc5 | hc5
  ·rw [if_pos hc5] at hj2
   rw [hc5]
   refine RunS.segF (n := 30) E0_ok 7 [p2, p1, p6, p5, (10, .v (.bool true)), (17, .v (.bool (!(x0.1.2.1 == x2.2.1))))] [p4, p3] kr ?_
   rcases Bool.eq_false_or_eq_true (!(x0.1.2.1 == x2.2.1)) with hc6 | hc6
   ·rw [if_pos hc6] at hj2
    rw [hc6]
    refine RunS.segF (n := 30) E0_ok 8 [p1, p6, p5, (25, .v (.bool true))] [p4, p3] kr ?_
    have hq := Option.some.inj hj2; subst hq
    exact RunS.done rfl (Wk.sel2 [0, 1] kr kr kr ⟨⟨_, rfl, bu_c kr kr⟩, ⟨_, rfl, bu_c kr kr⟩, trivial⟩ ⟨lu kr kr, lu kr kr, lu kr kr, lu kr kr, trivial⟩)
   ·rw [if_f hc6] at hj2
    rw [hc6]
    refine RunS.segF (n := 30) E0_ok 8 [p1, p6, p5, (25, .v (.bool (!(x1.1.2.1 == x2.2.1))))] [p4, p3] kr ?_
    have hq := Option.some.inj hj2; subst hq
    exact RunS.done rfl (Wk.sel2 [0, 1] kr kr kr ⟨⟨_, rfl, bu_c kr kr⟩, ⟨_, rfl, bu_c kr kr⟩, trivial⟩ ⟨lu kr kr, lu kr kr, lu kr kr, lu kr kr, trivial⟩)
  ·rw [if_f hc5] at hj2
   rw [hc5]
   refine RunS.segF (n := 30) E0_ok 15 [p1, p6, p5, (25, .v (.bool false))] [p4, p3] kr ?_
   have hq := Option.some.inj hj2; subst hq
   exact RunS.done rfl (Wk.sel2 [0, 1] kr kr kr ⟨⟨_, rfl, bu_c kr kr⟩, ⟨_, rfl, bu_c kr kr⟩, trivial⟩ ⟨lu kr kr, lu kr kr, lu kr kr, lu kr kr, trivial⟩)
 refine Sem.cond (b := j2) kr (fun hb3 => ?_) (fun hb3 => ?_)
 ·rw [if_pos hb3] at h
  refine Sem.seq ?_
  let p7 : Nat × AV := (6, .v (.int .i64 0))
  refine Sem.runS (s1 := ⟨Fr 30 [p7], []⟩) ?_ ?_
  ·refine RunS.segF (n := 30) E0_ok 1 [p7] [p4, p3] kr ?_
   exact RunS.done rfl (Wk.sel2 [] kr kr kr trivial ⟨lu kr kr, trivial⟩)
  refine Sem.ret ?_
  have hq := Option.some.inj h; subst hq
  exact ⟨⟨Fr 30 [p7], []⟩, (Wk.fr kr), .inr rfl, [.v (.int .i64 0)], kr, kr⟩
 ·rw [if_f hb3] at h
  refine Sem.skip ?_
  refine Sem.seq ?_
  obtain ⟨v4, hv4, h⟩ := Option.bind_eq_some_iff.1 h
  let p8 : Nat × AV := (6, .v (.int .i64 v4))
  refine Sem.runS (s1 := ⟨Fr 30 [p8], []⟩) ?_ ?_
  ·refine RunS.segF (n := 30) E0_ok 3 [(26, .fn 191 [] [.pe (.fn 190 [] []) 0, .pe (.fn 178 [] []) 0]), (27, cdSeated.enc x0), (28, cdSeated.enc x1)] [p4, p3] kr ?_
   refine RunS.callV (caps := [.pe (.fn 190 [] []) 0, .pe (.fn 178 [] []) 0]) (xs := [cdSeated.enc x0, cdSeated.enc x1]) (u := (x0, x1, (), (), ())) rfl rfl x_court_placed_2__court_placed_1__court_plain_9 rfl (wantedA_none rfl) kr kr (Sl.cons (Sm.enc (c := cdSeated) (v := x0)) (Sl.cons (Sm.enc (c := cdSeated) (v := x1)) (Sl.cons (Sm.enc (c := (cdP (cdF 190 csN (fun _ => rfl)))) (v := ())) (Sl.cons (Sm.enc (c := (cdP (cdF 178 csN (fun _ => rfl)))) (v := ())) Sl.nil)))) (.inl kr) hv4 ?_
   refine RunS.segF (n := 30) E0_ok 1 [p8] [p4, p3] kr ?_
   exact RunS.done rfl (Wk.sel2 [] kr kr kr trivial ⟨lu kr kr, trivial⟩)
  refine Sem.ret ?_
  have hq := Option.some.inj h; subst hq
  exact ⟨⟨Fr 30 [p8], []⟩, (Wk.fr kr), .inr rfl, [.v (.int .i64 v4)], kr, kr⟩
def t_court_orderOf_1__court_placed_2__court_placed_1__court_plain_9 : List AV → Option AV := told cs_court_orderOf_1__court_placed_2__court_placed_1__court_plain_9 (fun a => court_orderOf_1__court_placed_2__court_placed_1__court_plain_9 a.1 a.2.1 a.2.2.1 a.2.2.2.1) er_court_orderOf_1__court_placed_2__court_placed_1__court_plain_9
theorem x_court_orderOf_1__court_placed_2__court_placed_1__court_plain_9 : XOk 154 t_court_orderOf_1__court_placed_2__court_placed_1__court_plain_9 := by
 refine xok_of_sem Tryz.func154 (c := cb_court_orderOf_1__court_placed_2__court_placed_1__court_plain_9) ?h2 ⟨Tryz.call154⟩ cs_court_orderOf_1__court_placed_2__court_placed_1__court_plain_9 (fun a => court_orderOf_1__court_placed_2__court_placed_1__court_plain_9 a.1 a.2.1 a.2.2.1 a.2.2.2.1) er_court_orderOf_1__court_placed_2__court_placed_1__court_plain_9 (fun a => (by show 4 ≤ 30; decide)) ?h3 ?h4
 case h2 => kernel_rfl
 case h3 => intro b; kernel_rfl
 case h4 => exact fun a b h => court_orderOf_1__court_placed_2__court_placed_1__court_plain_9_sem a.1 a.2.1 a.2.2.1 a.2.2.2.1 b h
theorem xok_sub {f : FuncId} (hc : Callable E0.P f) {α β : Type} (s : Cs α) (F : α → Option β) (er : β → AV) (h : ∀ a b, F a = some b → ∃ t, XOk f t ∧ t (s.enc a) = some (er b)) : XOk f (told s F er) := by
 refine ⟨hc, fun xs y hy w Z us hz hg hv => ?_⟩
 obtain ⟨a, ha, hy⟩ := Option.bind_eq_some_iff.1 hy
 obtain ⟨b, hb, rfl⟩ := Option.map_eq_some_iff.1 hy
 obtain ⟨t, hX, ht⟩ := h a b hb
 exact hX.2 _ _ ht w Z us hz hg (s.vr ha hv)
def court_orderOf_1 (a b : Seated) (c : Clause) : Option Int :=
 if (c.1 == 1) = true then court_orderOf_1__court_by_1__court_plain_1 a b c c else
 if (c.1 == 2) = true then court_orderOf_1__court_plain_2 a b c c else
 if (c.1 == 3) = true then court_orderOf_1__court_plain_2 a b c c else
 if (c.1 == 4) = true then court_orderOf_1__court_by_1__court_named_1__court_plain_3 a b c (c, c) else
 if (c.1 == 5) = true then court_orderOf_1__court_by_1__court_named_1__court_plain_4 a b c ((), c) else
 if (c.1 == 6) = true then court_orderOf_1__court_by_1__court_named_1__court_plain_5 a b c (c, c) else
 if (c.1 == 7) = true then court_orderOf_1__court_by_1__court_named_1__court_plain_6 a b c (c, c) else
 if (c.1 == 8) = true then court_orderOf_1__court_plain_7 a b c else
 if (c.1 == 10) = true then court_orderOf_1__court_placed_2__court_placed_1__court_plain_8 a b c ((), c) else
 court_orderOf_1__court_placed_2__court_placed_1__court_plain_9 a b c ((), ())
noncomputable def cs_court_orderOf_1 : Cs (Seated × Seated × Clause) := csC cdSeated (csC cdSeated csOrdCaps)
noncomputable def er_court_orderOf_1 (r : Int) : AV := cdI.enc r
noncomputable def t_court_orderOf_1 : List AV → Option AV := told cs_court_orderOf_1 (fun a => court_orderOf_1 a.1 a.2.1 a.2.2) er_court_orderOf_1
theorem told_at {α β : Type} {s : Cs α} {F : α → Option β} {er : β → AV} {a : α} {b : β} {xs : List AV} (h : F a = some b) (e : xs = s.enc a) : told s F er xs = some (er b) := e ▸ told_enc h
theorem enc_ord (a b : Seated) (c : Clause) : cs_court_orderOf_1.enc (a, b, c) = [cdSeated.enc a, cdSeated.enc b, .pe (cdClause.enc c) 0, .pe (encPlain c) 0] := rfl
theorem x_court_orderOf_1 : XOk 154 t_court_orderOf_1 := by
 refine xok_sub ⟨Tryz.call154⟩ cs_court_orderOf_1 (fun a => court_orderOf_1 a.1 a.2.1 a.2.2) er_court_orderOf_1 fun x r h => ?_
 obtain ⟨a, b, c⟩ := x
 rw [enc_ord]
 dsimp only at h
 unfold court_orderOf_1 at h
 unfold encPlain
 rcases Bool.eq_false_or_eq_true (c.1 == 1) with h1 | h1
 ·rw [if_pos h1] at h; rw [if_pos h1]
  exact ⟨_, x_court_orderOf_1__court_by_1__court_plain_1, told_at (a := (a, b, c, c, ())) h rfl⟩
 rw [if_neg (by rw [h1]; decide)] at h; rw [if_neg (by rw [h1]; decide)]
 rcases Bool.eq_false_or_eq_true (c.1 == 2) with h1 | h1
 ·rw [if_pos h1] at h; rw [if_pos h1]
  exact ⟨_, x_court_orderOf_1__court_plain_2, told_at (a := (a, b, c, c, ())) h rfl⟩
 rw [if_neg (by rw [h1]; decide)] at h; rw [if_neg (by rw [h1]; decide)]
 rcases Bool.eq_false_or_eq_true (c.1 == 3) with h1 | h1
 ·rw [if_pos h1] at h; rw [if_pos h1]
  exact ⟨_, x_court_orderOf_1__court_plain_2, told_at (a := (a, b, c, c, ())) h rfl⟩
 rw [if_neg (by rw [h1]; decide)] at h; rw [if_neg (by rw [h1]; decide)]
 rcases Bool.eq_false_or_eq_true (c.1 == 4) with h1 | h1
 ·rw [if_pos h1] at h; rw [if_pos h1]
  exact ⟨_, x_court_orderOf_1__court_by_1__court_named_1__court_plain_3, told_at (a := (a, b, c, (c, c), ())) h rfl⟩
 rw [if_neg (by rw [h1]; decide)] at h; rw [if_neg (by rw [h1]; decide)]
 rcases Bool.eq_false_or_eq_true (c.1 == 5) with h1 | h1
 ·rw [if_pos h1] at h; rw [if_pos h1]
  exact ⟨_, x_court_orderOf_1__court_by_1__court_named_1__court_plain_4, told_at (a := (a, b, c, ((), c), ())) h rfl⟩
 rw [if_neg (by rw [h1]; decide)] at h; rw [if_neg (by rw [h1]; decide)]
 rcases Bool.eq_false_or_eq_true (c.1 == 6) with h1 | h1
 ·rw [if_pos h1] at h; rw [if_pos h1]
  exact ⟨_, x_court_orderOf_1__court_by_1__court_named_1__court_plain_5, told_at (a := (a, b, c, (c, c), ())) h rfl⟩
 rw [if_neg (by rw [h1]; decide)] at h; rw [if_neg (by rw [h1]; decide)]
 rcases Bool.eq_false_or_eq_true (c.1 == 7) with h1 | h1
 ·rw [if_pos h1] at h; rw [if_pos h1]
  exact ⟨_, x_court_orderOf_1__court_by_1__court_named_1__court_plain_6, told_at (a := (a, b, c, (c, c), ())) h rfl⟩
 rw [if_neg (by rw [h1]; decide)] at h; rw [if_neg (by rw [h1]; decide)]
 rcases Bool.eq_false_or_eq_true (c.1 == 8) with h1 | h1
 ·rw [if_pos h1] at h; rw [if_pos h1]
  exact ⟨_, x_court_orderOf_1__court_plain_7, told_at (a := (a, b, c, (), ())) h rfl⟩
 rw [if_neg (by rw [h1]; decide)] at h; rw [if_neg (by rw [h1]; decide)]
 rcases Bool.eq_false_or_eq_true (c.1 == 10) with h1 | h1
 ·rw [if_pos h1] at h; rw [if_pos h1]
  exact ⟨_, x_court_orderOf_1__court_placed_2__court_placed_1__court_plain_8, told_at (a := (a, b, c, ((), c), ())) h rfl⟩
 rw [if_neg (by rw [h1]; decide)] at h; rw [if_neg (by rw [h1]; decide)]
 exact ⟨_, x_court_orderOf_1__court_placed_2__court_placed_1__court_plain_9, told_at (a := (a, b, c, ((), ()), ())) h rfl⟩
/- trestle/court.first[trestle/court.seated,trestle/court.order] -/
noncomputable def cb_court_first_court_seated_court_order : Code := codeOf Tryz.f90
def court_first_court_seated_court_order_l1 (x0 : (List Clause)) : Nat → (List UInt8) → (List UInt8) → (List UInt8) → Int → Int → (List UInt8) → Bool → Bool → (List (List UInt8)) → Int → (List UInt8) → (List UInt8) → (List UInt8) → Int → Int → (List UInt8) → Bool → Bool → (List (List UInt8)) → Int → Int → Option ((Unit) ⊕ (Int × Int))
 | 0, _, _, _, _, _, _, _, _, _, _, _, _, _, _, _, _, _, _, _, _, _ => none
 | f + 1, c1, c2, c3, c4, c5, c6, c7, c8, c9, c10, c11, c12, c13, c14, c15, c16, c17, c18, c19, c20, c21 =>
  if (decide (c21 < (x0.length : Int))) = true then
  (idx x0 c21).bind fun v23 =>
  (court_orderOf_1 ((c1, c2, c3, c4, c5, c6, c7, c8, c9), c10) ((c11, c12, c13, c14, c15, c16, c17, c18, c19), c20) v23).bind fun v24 =>
  if (v24 != 0) = true then
  some (.inr (c21, v24))
  else
  court_first_court_seated_court_order_l1 x0 f c1 c2 c3 c4 c5 c6 c7 c8 c9 c10 c11 c12 c13 c14 c15 c16 c17 c18 c19 c20 (wr .i64 (c21 + 1))
  else
  some (.inl ())
def court_first_court_seated_court_order (x0 : (List Clause)) (x1 : Seated) (x2 : Seated) : Option (Int × Int) :=
 (court_first_court_seated_court_order_l1 x0 100000 x1.1.1 x1.1.2.1 x1.1.2.2.1 x1.1.2.2.2.1 x1.1.2.2.2.2.1 x1.1.2.2.2.2.2.1 x1.1.2.2.2.2.2.2.1 x1.1.2.2.2.2.2.2.2.1 x1.1.2.2.2.2.2.2.2.2 x1.2 x2.1.1 x2.1.2.1 x2.1.2.2.1 x2.1.2.2.2.1 x2.1.2.2.2.2.1 x2.1.2.2.2.2.2.1 x2.1.2.2.2.2.2.2.1 x2.1.2.2.2.2.2.2.2.1 x2.1.2.2.2.2.2.2.2.2 x2.2 0).bind fun r28 =>
 match r28 with
 | (.inl w29) =>
  some ((-1), 0)
 | (.inr w30) =>
  some (w30.1, w30.2)
noncomputable def cs_court_first_court_seated_court_order : Cs ((List Clause) × Seated × Seated × Unit) := (csC (cdL 1 cdOrd) (csC cdSeated (csC cdSeated csN)))
noncomputable def er_court_first_court_seated_court_order (r : Int × Int) : AV := .tp [cdI.enc r.1, cdI.enc r.2]
theorem court_first_court_seated_court_order_l1_ok (x0 : (List Clause)) : ∀ (f : Nat) (c1 : (List UInt8)) (c2 : (List UInt8)) (c3 : (List UInt8)) (c4 : Int) (c5 : Int) (c6 : (List UInt8)) (c7 : Bool) (c8 : Bool) (c9 : (List (List UInt8))) (c10 : Int) (c11 : (List UInt8)) (c12 : (List UInt8)) (c13 : (List UInt8)) (c14 : Int) (c15 : Int) (c16 : (List UInt8)) (c17 : Bool) (c18 : Bool) (c19 : (List (List UInt8))) (c20 : Int) (c21 : Int) (r : (Unit) ⊕ (Int × Int)), court_first_court_seated_court_order_l1 x0 f c1 c2 c3 c4 c5 c6 c7 c8 c9 c10 c11 c12 c13 c14 c15 c16 c17 c18 c19 c20 c21 = some r → SemN E0 ⟨none, false⟩ (pc cb_court_first_court_seated_court_order [1, 0, 1, 0, 0]) f ⟨Fr 27 [(4, .pt 0 0 0), (5, .pt 1 0 0), (11, .sl 1 (x0.map cdOrd.enc)), (12, .v (.int .i64 (x0.length : Int))), (13, .v (.int .i64 c21))], [some ⟨10, 131, [.ag [.st c1, .st c2, .st c3, .v (.int .i64 c4), .v (.int .i64 c5), .st c6, .v (.bool c7), .v (.bool c8), .sl 1 (c9.map cdS.enc), .v (.int .i64 c10)]], false⟩, some ⟨10, 131, [.ag [.st c11, .st c12, .st c13, .v (.int .i64 c14), .v (.int .i64 c15), .st c16, .v (.bool c17), .v (.bool c18), .sl 1 (c19.map cdS.enc), .v (.int .i64 c20)]], false⟩]⟩ (fun e s => match r with
 | (.inl w) => e = (.exit 0) ∧ Wk E0 s ⟨Fr 27 [], []⟩
 | (.inr w) => e = .ret ∧ Wk E0 s ⟨Fr 27 [(6, .v (.int .i64 w.1)), (7, .v (.int .i64 w.2))], []⟩) := by
 intro f
 induction f with
 | zero => intro c1 c2 c3 c4 c5 c6 c7 c8 c9 c10 c11 c12 c13 c14 c15 c16 c17 c18 c19 c20 c21 r h; cases h
 | succ f ih0 =>
  intro c1 c2 c3 c4 c5 c6 c7 c8 c9 c10 c11 c12 c13 c14 c15 c16 c17 c18 c19 c20 c21 r h
  have ih := fun (c1 : (List UInt8)) (c2 : (List UInt8)) (c3 : (List UInt8)) (c4 : Int) (c5 : Int) (c6 : (List UInt8)) (c7 : Bool) (c8 : Bool) (c9 : (List (List UInt8))) (c10 : Int) (c11 : (List UInt8)) (c12 : (List UInt8)) (c13 : (List UInt8)) (c14 : Int) (c15 : Int) (c16 : (List UInt8)) (c17 : Bool) (c18 : Bool) (c19 : (List (List UInt8))) (c20 : Int) (c21 : Int) => ih0 c1 c2 c3 c4 c5 c6 c7 c8 c9 c10 c11 c12 c13 c14 c15 c16 c17 c18 c19 c20 c21 r
  unfold court_first_court_seated_court_order_l1 at h
  refine SemN.succ ?_
  let p1 : Option Blk := some ⟨10, 131, [.ag [.st c11, .st c12, .st c13, .v (.int .i64 c14), .v (.int .i64 c15), .st c16, .v (.bool c17), .v (.bool c18), .sl 1 (c19.map cdS.enc), .v (.int .i64 c20)]], false⟩
  let p2 : Option Blk := some ⟨10, 131, [.ag [.st c1, .st c2, .st c3, .v (.int .i64 c4), .v (.int .i64 c5), .st c6, .v (.bool c7), .v (.bool c8), .sl 1 (c9.map cdS.enc), .v (.int .i64 c10)]], false⟩
  let p3 : Nat × AV := (13, .v (.int .i64 c21))
  let p4 : Nat × AV := (12, .v (.int .i64 (x0.length : Int)))
  let p5 : Nat × AV := (11, .sl 1 (x0.map cdOrd.enc))
  let p6 : Nat × AV := (5, .pt 1 0 0)
  let p7 : Nat × AV := (4, .pt 0 0 0)
  refine Sem.sq E0_ok [p7, p6, p5, p4, p3, (14, .v (.bool (decide (c21 < (x0.length : Int)))))] [p2, p1] ?_
  refine Sem.seq ?_
  refine Sem.cond (b := (decide (c21 < (x0.length : Int)))) kr (fun hb22 => ?_) (fun hb22 => ?_)
  ·rw [if_pos hb22] at h
   refine Sem.skip ?_
   refine Sem.seq ?_
   refine Sem.block ?_
   refine Sem.seq ?_
   obtain ⟨v23, hv23, h⟩ := Option.bind_eq_some_iff.1 h
   let p8 : Nat × AV := (8, .v (.int .i64 c21))
   refine Sem.runS (s1 := ⟨Fr 27 [p7, p6, p8, (9, cdOrd.enc v23), p5, p4, p3], [p2, p1]⟩) ?_ ?_
   ·refine RunS.segF (n := 27) E0_ok 1 [p7, p6, p5, p4, p3, (15, .v (.int .i64 c21))] [p2, p1] kr ?_
    refine RunS.one E0_ok 0 rfl (op_q (wantedA_none rfl) rfl (q_indexAddr (a := .sl 1 (x0.map cdOrd.enc)) (b := .v (.int .i64 c21)) kr kr (ix_sl (e := cdOrd.enc) (el := 133) (k := 1) (ki := .i64) kr kr hv23))) ?_
    exact RunS.last E0_ok
   refine Sem.seq ?_
   obtain ⟨v24, hv24, h⟩ := Option.bind_eq_some_iff.1 h
   refine Sem.runS (s1 := ⟨Fr 27 [p7, p6, p8, (10, .v (.int .i64 v24)), p5, p4, p3], [p2, p1]⟩) ?_ ?_
   ·refine RunS.segF (n := 27) E0_ok 3 [p7, p6, p8, p5, p4, p3, (18, cdOrd.enc v23), (19, .ag [.st c1, .st c2, .st c3, .v (.int .i64 c4), .v (.int .i64 c5), .st c6, .v (.bool c7), .v (.bool c8), .sl 1 (c9.map cdS.enc), .v (.int .i64 c10)]), (20, .ag [.st c11, .st c12, .st c13, .v (.int .i64 c14), .v (.int .i64 c15), .st c16, .v (.bool c17), .v (.bool c18), .sl 1 (c19.map cdS.enc), .v (.int .i64 c20)])] [p2, p1] kr ?_
    refine RunS.callV (caps := [.pe (cdClause.enc v23) 0, .pe (encPlain v23) 0]) (xs := [.ag [.st c1, .st c2, .st c3, .v (.int .i64 c4), .v (.int .i64 c5), .st c6, .v (.bool c7), .v (.bool c8), .sl 1 (c9.map cdS.enc), .v (.int .i64 c10)], .ag [.st c11, .st c12, .st c13, .v (.int .i64 c14), .v (.int .i64 c15), .st c16, .v (.bool c17), .v (.bool c18), .sl 1 (c19.map cdS.enc), .v (.int .i64 c20)]]) (u := (((c1, c2, c3, c4, c5, c6, c7, c8, c9), c10), ((c11, c12, c13, c14, c15, c16, c17, c18, c19), c20), v23)) rfl rfl x_court_orderOf_1 rfl (wantedA_none rfl) kr kr (Sl.cons (Sm.enc (c := cdSeated) (v := ((c1, c2, c3, c4, c5, c6, c7, c8, c9), c10))) (Sl.cons (Sm.enc (c := cdSeated) (v := ((c11, c12, c13, c14, c15, c16, c17, c18, c19), c20))) (Sl.encs (n := 10) (s := csOrdCaps) (a := v23)))) (.inl kr) hv24 ?_
    exact RunS.last E0_ok
   refine Sem.sq E0_ok [p7, p6, p8, (10, .v (.int .i64 v24)), p5, p4, p3, (23, .v (.bool (v24 != 0)))] [p2, p1] ?_
   refine Sem.cond (b := (v24 != 0)) kr (fun hb25 => ?_) (fun hb25 => ?_)
   ·rw [if_pos hb25] at h
    refine Sem.seq ?_
    refine Sem.runS (s1 := ⟨Fr 27 [(6, .v (.int .i64 c21)), (7, .v (.int .i64 v24))], []⟩) ?_ ?_
    ·refine RunS.segF (n := 27) E0_ok 4 [(6, .v (.int .i64 c21)), (7, .v (.int .i64 v24))] [p2, p1] kr ?_
     exact RunS.done rfl (Wk.sel2 [] kr kr kr trivial ⟨lu kr kr, lu kr kr, trivial⟩)
    refine Sem.ret ?_
    have hq := Option.some.inj h; subst hq
    exact ⟨rfl, (Wk.fr kr)⟩
   ·rw [if_f hb25] at h
    refine Sem.skip ?_
    let p9 : Nat × AV := (13, .v (.int .i64 (wr .i64 (c21 + 1))))
    refine Sem.rg E0_ok [p7, p6, p5, p4, p9] [p2, p1] ?_
    exact SemN.wk (s1 := ⟨Fr 27 [p7, p6, p5, p4, p9], [p2, p1]⟩) (Wk.sel2 [0, 1] kr kr kr ⟨⟨_, rfl, bu_c kr kr⟩, ⟨_, rfl, bu_c kr kr⟩, trivial⟩ ⟨lu kr kr, lu kr kr, lu kr kr, lu kr kr, lu kr kr, trivial⟩) (ih c1 c2 c3 c4 c5 c6 c7 c8 c9 c10 c11 c12 c13 c14 c15 c16 c17 c18 c19 c20 (wr .i64 (c21 + 1)) h)
  ·rw [if_f hb22] at h
   refine Sem.exit ?_
   have hq := Option.some.inj h; subst hq
   exact ⟨rfl, (Wk.sel2 [] kr kr kr trivial trivial)⟩
theorem court_first_court_seated_court_order_sem (x0 : (List Clause)) (x1 : Seated) (x2 : Seated) (r : Int × Int) (h : court_first_court_seated_court_order x0 x1 x2 = some r) : Sem E0 ⟨none, false⟩ cb_court_first_court_seated_court_order ⟨Fr 27 (pairs0 0 (cs_court_first_court_seated_court_order.enc (x0, x1, x2, ()))), []⟩ fun e s' => (e = .normal ∨ e = .ret) ∧ ∃ xs, resA E0.P s'.fr s'.hp Tryz.f90.results.toList = some xs ∧ retA xs = er_court_first_court_seated_court_order r := by
 unfold court_first_court_seated_court_order at h
 refine Sem.wkQ (Sem.wk (s1 := ⟨Fr 27 [(0, .sl 1 (x0.map cdOrd.enc)), (1, cdSeated.enc x1), (2, cdSeated.enc x2)], []⟩) (Wk.fr kr) ?_)
 let p1 : Option Blk := some ⟨10, 131, [cdSeated.enc x2], false⟩
 let p2 : Option Blk := some ⟨10, 131, [cdSeated.enc x1], false⟩
 let p3 : Nat × AV := (5, .pt 1 0 0)
 let p4 : Nat × AV := (4, .pt 0 0 0)
 refine Sem.sq E0_ok [(0, .sl 1 (x0.map cdOrd.enc)), p4, p3] [p2, p1] ?_
 refine Sem.seq ?_
 refine Sem.seq ?_
 let p5 : Nat × AV := (13, .v (.int .i64 0))
 let p6 : Nat × AV := (12, .v (.int .i64 (x0.length : Int)))
 let p7 : Nat × AV := (11, .sl 1 (x0.map cdOrd.enc))
 refine Sem.runS (s1 := ⟨Fr 27 [p4, p3, p7, p6, p5], [p2, p1]⟩) ?_ ?_
 ·refine RunS.segF (n := 27) E0_ok 1 [p4, p3, p7] [p2, p1] kr ?_
  refine RunS.one E0_ok 0 rfl (op_q (wantedA_none rfl) rfl (q_len (a := .sl 1 (x0.map cdOrd.enc)) kr (len_sl (el := 133) kr))) ?_
  exact RunS.last E0_ok
 refine Sem.block ?_
 obtain ⟨r28, hr28, h⟩ := Option.bind_eq_some_iff.1 h
 refine Sem.loop (n := 100000) ?_
 rcases r28 with w29 | w30
 ·try dsimp only at h
  refine Sem.cutN (SemN.wk (s1 := ⟨Fr 27 [p4, p3, p7, p6, p5], [p2, p1]⟩) (Wk.sel2 [0, 1] kr kr kr ⟨⟨_, rfl, bu_c kr kr⟩, ⟨_, rfl, bu_c kr kr⟩, trivial⟩ ⟨lu kr kr, lu kr kr, lu kr kr, lu kr kr, lu kr kr, trivial⟩) (court_first_court_seated_court_order_l1_ok x0 _ x1.1.1 x1.1.2.1 x1.1.2.2.1 x1.1.2.2.2.1 x1.1.2.2.2.2.1 x1.1.2.2.2.2.2.1 x1.1.2.2.2.2.2.2.1 x1.1.2.2.2.2.2.2.2.1 x1.1.2.2.2.2.2.2.2.2 x1.2 x2.1.1 x2.1.2.1 x2.1.2.2.1 x2.1.2.2.2.1 x2.1.2.2.2.2.1 x2.1.2.2.2.2.2.1 x2.1.2.2.2.2.2.2.1 x2.1.2.2.2.2.2.2.2.1 x2.1.2.2.2.2.2.2.2.2 x2.2 0 _ hr28)) ?_
  refine Sem.sq E0_ok [(6, .v (.int .i64 (-1))), (7, .v (.int .i64 0))] [] ?_
  refine Sem.ret ?_
  have hq := Option.some.inj h; subst hq
  exact ⟨⟨Fr 27 [(6, .v (.int .i64 (-1))), (7, .v (.int .i64 0))], []⟩, (Wk.fr kr), .inr rfl, [.v (.int .i64 (-1)), .v (.int .i64 0)], kr, kr⟩
 ·try dsimp only at h
  refine Sem.cutN (SemN.wk (s1 := ⟨Fr 27 [p4, p3, p7, p6, p5], [p2, p1]⟩) (Wk.sel2 [0, 1] kr kr kr ⟨⟨_, rfl, bu_c kr kr⟩, ⟨_, rfl, bu_c kr kr⟩, trivial⟩ ⟨lu kr kr, lu kr kr, lu kr kr, lu kr kr, lu kr kr, trivial⟩) (court_first_court_seated_court_order_l1_ok x0 _ x1.1.1 x1.1.2.1 x1.1.2.2.1 x1.1.2.2.2.1 x1.1.2.2.2.2.1 x1.1.2.2.2.2.2.1 x1.1.2.2.2.2.2.2.1 x1.1.2.2.2.2.2.2.2.1 x1.1.2.2.2.2.2.2.2.2 x1.2 x2.1.1 x2.1.2.1 x2.1.2.2.1 x2.1.2.2.2.1 x2.1.2.2.2.2.1 x2.1.2.2.2.2.2.1 x2.1.2.2.2.2.2.2.1 x2.1.2.2.2.2.2.2.2.1 x2.1.2.2.2.2.2.2.2.2 x2.2 0 _ hr28)) ?_
  have hq := Option.some.inj h; subst hq
  exact ⟨⟨Fr 27 [(6, .v (.int .i64 w30.1)), (7, .v (.int .i64 w30.2))], []⟩, (Wk.fr kr), .inr rfl, [.v (.int .i64 w30.1), .v (.int .i64 w30.2)], kr, kr⟩
noncomputable def t_court_first_court_seated_court_order : List AV → Option AV := told cs_court_first_court_seated_court_order (fun a => court_first_court_seated_court_order a.1 a.2.1 a.2.2.1) er_court_first_court_seated_court_order
theorem x_court_first_court_seated_court_order : XOk 90 t_court_first_court_seated_court_order := by
 refine xok_of_sem Tryz.func90 (c := cb_court_first_court_seated_court_order) ?h2 ⟨Tryz.call90⟩ cs_court_first_court_seated_court_order (fun a => court_first_court_seated_court_order a.1 a.2.1 a.2.2.1) er_court_first_court_seated_court_order (fun a => (by show 3 ≤ 27; decide)) ?h3 ?h4
 case h2 => kernel_rfl
 case h3 => intro b; kernel_rfl
 case h4 => exact fun a b h => court_first_court_seated_court_order_sem a.1 a.2.1 a.2.2.1 b h
/- trestle/court.Reason -/
noncomputable def cb_court_Reason : Code := codeOf Tryz.f33
def court_Reason (x0 : (List Clause)) (x1 : Guest) (x2 : Guest) (x3 : Int) (x4 : Int) : Option (Int × Int) :=
 (court_orders x0).bind fun v1 =>
 if (!v1.2) = true then
 some (0, 0)
 else
 (court_first_court_seated_court_order v1.1 (x1, x3) (x2, x4)).bind fun v3 =>
 some (v3.1, v3.2)
noncomputable def cs_court_Reason : Cs ((List Clause) × Guest × Guest × Int × Int × Unit) := (csC (cdL 5 cdClause) (csC cdGuest (csC cdGuest (csC cdI (csC cdI csN)))))
noncomputable def er_court_Reason (r : Int × Int) : AV := .tp [cdI.enc r.1, cdI.enc r.2]
theorem court_Reason_sem (x0 : (List Clause)) (x1 : Guest) (x2 : Guest) (x3 : Int) (x4 : Int) (r : Int × Int) (h : court_Reason x0 x1 x2 x3 x4 = some r) : Sem E0 ⟨none, false⟩ cb_court_Reason ⟨Fr 31 (pairs0 0 (cs_court_Reason.enc (x0, x1, x2, x3, x4, ()))), []⟩ fun e s' => (e = .normal ∨ e = .ret) ∧ ∃ xs, resA E0.P s'.fr s'.hp Tryz.f33.results.toList = some xs ∧ retA xs = er_court_Reason r := by
 unfold court_Reason at h
 let p1 : Nat × AV := (4, .v (.int .i64 x4))
 let p2 : Nat × AV := (3, .v (.int .i64 x3))
 let p3 : Nat × AV := (0, .sl 5 (x0.map cdClause.enc))
 refine Sem.wkQ (Sem.wk (s1 := ⟨Fr 31 [p3, (1, cdGuest.enc x1), (2, cdGuest.enc x2), p2, p1], []⟩) (Wk.fr kr) ?_)
 let p4 : Option Blk := some ⟨9, 44, [cdGuest.enc x2], false⟩
 let p5 : Option Blk := some ⟨9, 44, [cdGuest.enc x1], false⟩
 let p6 : Nat × AV := (7, .pt 1 0 0)
 let p7 : Nat × AV := (6, .pt 0 0 0)
 refine Sem.sq E0_ok [p3, p2, p1, p7, p6] [p5, p4] ?_
 refine Sem.seq ?_
 obtain ⟨v1, hv1, h⟩ := Option.bind_eq_some_iff.1 h
 let p8 : Nat × AV := (12, .sl 1 (v1.1.map cdOrd.enc))
 refine Sem.runS (s1 := ⟨Fr 31 [p2, p1, p7, p6, p8, (13, .v (.bool v1.2))], [p5, p4]⟩) ?_ ?_
 ·refine RunS.segF (n := 31) E0_ok 1 [p2, p1, p7, p6, (15, .sl 5 (x0.map cdClause.enc))] [p5, p4] kr ?_
  refine RunS.callV (caps := []) (xs := [.sl 5 (x0.map cdClause.enc)]) (u := (x0, ())) rfl rfl x_court_orders rfl (wantedA_none rfl) kr kr (Sl.cons (Sm.enc (c := (cdL 5 cdClause)) (v := x0)) Sl.nil) (.inr kr) hv1 ?_
  exact RunS.last E0_ok
 refine Sem.seq ?_
 refine Sem.sq E0_ok [p2, p1, p7, p6, p8, (20, .v (.bool (!v1.2)))] [p5, p4] ?_
 refine Sem.cond (b := (!v1.2)) kr (fun hb2 => ?_) (fun hb2 => ?_)
 ·rw [if_pos hb2] at h
  refine Sem.seq ?_
  let p9 : Nat × AV := (11, .v (.int .i64 0))
  let p10 : Nat × AV := (10, .v (.int .i64 0))
  refine Sem.runS (s1 := ⟨Fr 31 [p10, p9], []⟩) ?_ ?_
  ·refine RunS.segF (n := 31) E0_ok 2 [p10, p9] [p5, p4] kr ?_
   exact RunS.done rfl (Wk.sel2 [] kr kr kr trivial ⟨lu kr kr, lu kr kr, trivial⟩)
  refine Sem.ret ?_
  have hq := Option.some.inj h; subst hq
  exact ⟨⟨Fr 31 [p10, p9], []⟩, (Wk.fr kr), .inr rfl, [.v (.int .i64 0), .v (.int .i64 0)], kr, kr⟩
 ·rw [if_f hb2] at h
  refine Sem.skip ?_
  refine Sem.seq ?_
  obtain ⟨v3, hv3, h⟩ := Option.bind_eq_some_iff.1 h
  let p11 : Nat × AV := (11, .v (.int .i64 v3.2))
  let p12 : Nat × AV := (10, .v (.int .i64 v3.1))
  refine Sem.runS (s1 := ⟨Fr 31 [p12, p11], []⟩) ?_ ?_
  ·refine RunS.segF (n := 31) E0_ok 7 [(21, .sl 1 (v1.1.map cdOrd.enc)), (24, .ag [.st x1.1, .st x1.2.1, .st x1.2.2.1, .v (.int .i64 x1.2.2.2.1), .v (.int .i64 x1.2.2.2.2.1), .st x1.2.2.2.2.2.1, .v (.bool x1.2.2.2.2.2.2.1), .v (.bool x1.2.2.2.2.2.2.2.1), .sl 1 (x1.2.2.2.2.2.2.2.2.map cdS.enc), .v (.int .i64 x3)]), (27, .ag [.st x2.1, .st x2.2.1, .st x2.2.2.1, .v (.int .i64 x2.2.2.2.1), .v (.int .i64 x2.2.2.2.2.1), .st x2.2.2.2.2.2.1, .v (.bool x2.2.2.2.2.2.2.1), .v (.bool x2.2.2.2.2.2.2.2.1), .sl 1 (x2.2.2.2.2.2.2.2.2.map cdS.enc), .v (.int .i64 x4)])] [p5, p4] kr ?_
   refine RunS.callV (caps := []) (xs := [.sl 1 (v1.1.map cdOrd.enc), .ag [.st x1.1, .st x1.2.1, .st x1.2.2.1, .v (.int .i64 x1.2.2.2.1), .v (.int .i64 x1.2.2.2.2.1), .st x1.2.2.2.2.2.1, .v (.bool x1.2.2.2.2.2.2.1), .v (.bool x1.2.2.2.2.2.2.2.1), .sl 1 (x1.2.2.2.2.2.2.2.2.map cdS.enc), .v (.int .i64 x3)], .ag [.st x2.1, .st x2.2.1, .st x2.2.2.1, .v (.int .i64 x2.2.2.2.1), .v (.int .i64 x2.2.2.2.2.1), .st x2.2.2.2.2.2.1, .v (.bool x2.2.2.2.2.2.2.1), .v (.bool x2.2.2.2.2.2.2.2.1), .sl 1 (x2.2.2.2.2.2.2.2.2.map cdS.enc), .v (.int .i64 x4)]]) (u := (v1.1, (x1, x3), (x2, x4), ())) rfl rfl x_court_first_court_seated_court_order rfl (wantedA_none rfl) kr kr (Sl.cons (Sm.enc (c := (cdL 1 cdOrd)) (v := v1.1)) (Sl.cons (Sm.enc (c := cdSeated) (v := (x1, x3))) (Sl.cons (Sm.enc (c := cdSeated) (v := (x2, x4))) Sl.nil))) (.inl kr) hv3 ?_
   refine RunS.segF (n := 31) E0_ok 4 [p12, p11] [p5, p4] kr ?_
   exact RunS.done rfl (Wk.sel2 [] kr kr kr trivial ⟨lu kr kr, lu kr kr, trivial⟩)
  refine Sem.ret ?_
  have hq := Option.some.inj h; subst hq
  exact ⟨⟨Fr 31 [p12, p11], []⟩, (Wk.fr kr), .inr rfl, [.v (.int .i64 v3.1), .v (.int .i64 v3.2)], kr, kr⟩
noncomputable def t_court_Reason : List AV → Option AV := told cs_court_Reason (fun a => court_Reason a.1 a.2.1 a.2.2.1 a.2.2.2.1 a.2.2.2.2.1) er_court_Reason
theorem x_court_Reason : XOk 33 t_court_Reason := by
 refine xok_of_sem Tryz.func33 (c := cb_court_Reason) ?h2 ⟨Tryz.call33⟩ cs_court_Reason (fun a => court_Reason a.1 a.2.1 a.2.2.1 a.2.2.2.1 a.2.2.2.2.1) er_court_Reason (fun a => (by show 5 ≤ 31; decide)) ?h3 ?h4
 case h2 => kernel_rfl
 case h3 => intro b; kernel_rfl
 case h4 => exact fun a b h => court_Reason_sem a.1 a.2.1 a.2.2.1 a.2.2.2.1 a.2.2.2.2.1 b h
/- trestle/court.Compare -/
noncomputable def cb_court_Compare : Code := codeOf Tryz.f34
def court_Compare (x0 : (List Clause)) (x1 : Guest) (x2 : Guest) (x3 : Int) (x4 : Int) : Option (Int) :=
 (court_Reason x0 x1 x2 x3 x4).bind fun v1 =>
 some v1.2
def cs_court_Compare : Cs ((List Clause) × Guest × Guest × Int × Int × Unit) := (csC (cdL 5 cdClause) (csC cdGuest (csC cdGuest (csC cdI (csC cdI csN)))))
def er_court_Compare (r : Int) : AV := cdI.enc r
theorem court_Compare_sem (x0 : (List Clause)) (x1 : Guest) (x2 : Guest) (x3 : Int) (x4 : Int) (r : Int) (h : court_Compare x0 x1 x2 x3 x4 = some r) : Sem E0 ⟨none, false⟩ cb_court_Compare ⟨Fr 23 (pairs0 0 (cs_court_Compare.enc (x0, x1, x2, x3, x4, ()))), []⟩ fun e s' => (e = .normal ∨ e = .ret) ∧ ∃ xs, resA E0.P s'.fr s'.hp Tryz.f34.results.toList = some xs ∧ retA xs = er_court_Compare r := by
 unfold court_Compare at h
 let p1 : Nat × AV := (0, .sl 5 (x0.map cdClause.enc))
 refine Sem.wkQ (Sem.wk (s1 := ⟨Fr 23 [p1, (1, cdGuest.enc x1), (2, cdGuest.enc x2), (3, .v (.int .i64 x3)), (4, .v (.int .i64 x4))], []⟩) (Wk.fr kr) ?_)
 let p2 : Option Blk := some ⟨9, 44, [cdGuest.enc x2], false⟩
 let p3 : Option Blk := some ⟨9, 44, [cdGuest.enc x1], false⟩
 refine Sem.sq E0_ok [p1, (3, .v (.int .i64 x3)), (4, .v (.int .i64 x4)), (6, .pt 0 0 0), (7, .pt 1 0 0)] [p3, p2] ?_
 refine Sem.seq ?_
 obtain ⟨v1, hv1, h⟩ := Option.bind_eq_some_iff.1 h
 refine Sem.runS (s1 := ⟨Fr 23 [(12, .v (.int .i64 v1.2))], []⟩) ?_ ?_
 ·refine RunS.segF (n := 23) E0_ok 5 [(14, .sl 5 (x0.map cdClause.enc)), (15, cdGuest.enc x1), (16, cdGuest.enc x2), (17, .v (.int .i64 x3)), (18, .v (.int .i64 x4))] [p3, p2] kr ?_
  refine RunS.callV (caps := []) (xs := [.sl 5 (x0.map cdClause.enc), cdGuest.enc x1, cdGuest.enc x2, .v (.int .i64 x3), .v (.int .i64 x4)]) (u := (x0, x1, x2, x3, x4, ())) rfl rfl x_court_Reason rfl (wantedA_none rfl) kr kr (Sl.cons (Sm.enc (c := (cdL 5 cdClause)) (v := x0)) (Sl.cons (Sm.enc (c := cdGuest) (v := x1)) (Sl.cons (Sm.enc (c := cdGuest) (v := x2)) (Sl.cons (Sm.enc (c := cdI) (v := x3)) (Sl.cons (Sm.enc (c := cdI) (v := x4)) Sl.nil))))) (.inl kr) hv1 ?_
  refine RunS.segF (n := 23) E0_ok 5 [(12, .v (.int .i64 v1.2))] [p3, p2] kr ?_
  exact RunS.done rfl (Wk.sel2 [] kr kr kr trivial ⟨lu kr kr, trivial⟩)
 refine Sem.sq E0_ok [(10, .v (.int .i64 v1.2))] [] ?_
 refine Sem.ret ?_
 have hq := Option.some.inj h; subst hq
 exact ⟨⟨Fr 23 [(10, .v (.int .i64 v1.2))], []⟩, (Wk.fr kr), .inr rfl, [.v (.int .i64 v1.2)], kr, kr⟩
def t_court_Compare : List AV → Option AV := told cs_court_Compare (fun a => court_Compare a.1 a.2.1 a.2.2.1 a.2.2.2.1 a.2.2.2.2.1) er_court_Compare
theorem x_court_Compare : XOk 34 t_court_Compare := by
 refine xok_of_sem Tryz.func34 (c := cb_court_Compare) ?h2 ⟨Tryz.call34⟩ cs_court_Compare (fun a => court_Compare a.1 a.2.1 a.2.2.1 a.2.2.2.1 a.2.2.2.2.1) er_court_Compare (fun a => (by show 5 ≤ 23; decide)) ?h3 ?h4
 case h2 => kernel_rfl
 case h3 => intro b; kernel_rfl
 case h4 => exact fun a b h => court_Compare_sem a.1 a.2.1 a.2.2.1 a.2.2.2.1 a.2.2.2.2.1 b h
/- slices.Equal[[]string,string] -/
noncomputable def cb_slices_Equal_string_string : Code := codeOf Tryz.f125
def slices_Equal_string_string_l1 (x0 : (List (List UInt8))) (x1 : (List (List UInt8))) : Nat → Int → Option ((Unit) ⊕ (Bool))
 | 0, _ => none
 | f + 1, c2 =>
  if (decide (c2 < (x0.length : Int))) = true then
  (idx x0 c2).bind fun v4 =>
  (idx x1 c2).bind fun v5 =>
  if (!(v4 == v5)) = true then
  some (.inr false)
  else
  slices_Equal_string_string_l1 x0 x1 f (wr .i64 (c2 + 1))
  else
  some (.inl ())
def slices_Equal_string_string (x0 : (List (List UInt8))) (x1 : (List (List UInt8))) : Option (Bool) :=
 if ((x0.length : Int) != (x1.length : Int)) = true then
 some false
 else
 (slices_Equal_string_string_l1 x0 x1 100000 0).bind fun r8 =>
 match r8 with
 | (.inl w9) =>
  some true
 | (.inr w10) =>
  some w10
def cs_slices_Equal_string_string : Cs ((List (List UInt8)) × (List (List UInt8)) × Unit) := (csC (cdL 1 cdS) (csC (cdL 1 cdS) csN))
def er_slices_Equal_string_string (r : Bool) : AV := cdB.enc r
theorem slices_Equal_string_string_l1_ok (x0 : (List (List UInt8))) (x1 : (List (List UInt8))) : ∀ (f : Nat) (c2 : Int) (r : (Unit) ⊕ (Bool)), slices_Equal_string_string_l1 x0 x1 f c2 = some r → SemN E0 ⟨none, false⟩ (pc cb_slices_Equal_string_string [1, 1, 0, 1, 0, 0]) f ⟨Fr 26 [(0, .sl 1 (x0.map cdS.enc)), (1, .sl 1 (x1.map cdS.enc)), (12, .v (.int .i64 (x0.length : Int))), (13, .v (.int .i64 c2))], []⟩ (fun e s => match r with
 | (.inl w) => e = (.exit 0) ∧ Wk E0 s ⟨Fr 26 [], []⟩
 | (.inr w) => e = .ret ∧ Wk E0 s ⟨Fr 26 [(4, .v (.bool w))], []⟩) := by
 intro f
 induction f with
 | zero => intro c2 r h; cases h
 | succ f ih0 =>
  intro c2 r h
  have ih := fun (c2 : Int) => ih0 c2 r
  unfold slices_Equal_string_string_l1 at h
  refine SemN.succ ?_
  let p1 : Nat × AV := (13, .v (.int .i64 c2))
  let p2 : Nat × AV := (12, .v (.int .i64 (x0.length : Int)))
  let p3 : Nat × AV := (1, .sl 1 (x1.map cdS.enc))
  let p4 : Nat × AV := (0, .sl 1 (x0.map cdS.enc))
  refine Sem.sq E0_ok [p4, p3, p2, p1, (14, .v (.bool (decide (c2 < (x0.length : Int)))))] [] ?_
  refine Sem.seq ?_
  refine Sem.cond (b := (decide (c2 < (x0.length : Int)))) kr (fun hb3 => ?_) (fun hb3 => ?_)
  ·rw [if_pos hb3] at h
   refine Sem.skip ?_
   refine Sem.seq ?_
   refine Sem.block ?_
   refine Sem.sq E0_ok [p4, p3, (5, .v (.int .i64 c2)), p2, p1] [] ?_
   refine Sem.seq ?_
   obtain ⟨v4, hv4, h⟩ := Option.bind_eq_some_iff.1 h
   obtain ⟨v5, hv5, h⟩ := Option.bind_eq_some_iff.1 h
   refine Sem.runDS E0_ok (s1 := ⟨Fr 26 [p4, p3, p2, p1, (24, .v (.bool (!(v4 == v5))))], []⟩) kr ?_ ?_
   ·refine RunDS.segF (n := 26) E0_ok 2 [p4, p3, (5, .v (.int .i64 c2)), p2, p1, (16, .sl 1 (x0.map cdS.enc)), (17, .v (.int .i64 c2))] [] kr kr ?_
    refine RunDS.one E0_ok rfl kr (opd_q kr (wantedA_none rfl) rfl (q_indexAddr (a := .sl 1 (x0.map cdS.enc)) (b := .v (.int .i64 c2)) kr kr (ix_sl (e := cdS.enc) (el := 9) (k := 1) (ki := .i64) kr kr hv4)) kr) ?_
    refine RunDS.segF (n := 26) E0_ok 3 [p4, p3, p2, p1, (19, .st v4), (20, .sl 1 (x1.map cdS.enc)), (21, .v (.int .i64 c2))] [] kr kr ?_
    refine RunDS.one E0_ok rfl kr (opd_q kr (wantedA_none rfl) rfl (q_indexAddr (a := .sl 1 (x1.map cdS.enc)) (b := .v (.int .i64 c2)) kr kr (ix_sl (e := cdS.enc) (el := 9) (k := 1) (ki := .i64) kr kr hv5)) kr) ?_
    refine RunDS.segF (n := 26) E0_ok 2 [p4, p3, p2, p1, (24, .v (.bool (!(v4 == v5))))] [] kr kr ?_
    exact RunDS.done rfl (Wk.fr kr)
   refine Sem.cond (b := (!(v4 == v5))) kr (fun hb6 => ?_) (fun hb6 => ?_)
   ·rw [if_pos hb6] at h
    refine Sem.sq E0_ok [(4, .v (.bool false))] [] ?_
    refine Sem.ret ?_
    have hq := Option.some.inj h; subst hq
    exact ⟨rfl, (Wk.fr kr)⟩
   ·rw [if_f hb6] at h
    refine Sem.skip ?_
    let p5 : Nat × AV := (13, .v (.int .i64 (wr .i64 (c2 + 1))))
    refine Sem.rg E0_ok [p4, p3, p2, p5] [] ?_
    exact SemN.wk (s1 := ⟨Fr 26 [p4, p3, p2, p5], []⟩) (Wk.fr kr) (ih (wr .i64 (c2 + 1)) h)
  ·rw [if_f hb3] at h
   refine Sem.exit ?_
   have hq := Option.some.inj h; subst hq
   exact ⟨rfl, (Wk.fr kr)⟩
theorem slices_Equal_string_string_sem (x0 : (List (List UInt8))) (x1 : (List (List UInt8))) (r : Bool) (h : slices_Equal_string_string x0 x1 = some r) : Sem E0 ⟨none, false⟩ cb_slices_Equal_string_string ⟨Fr 26 (pairs0 0 (cs_slices_Equal_string_string.enc (x0, x1, ()))), []⟩ fun e s' => (e = .normal ∨ e = .ret) ∧ ∃ xs, resA E0.P s'.fr s'.hp Tryz.f125.results.toList = some xs ∧ retA xs = er_slices_Equal_string_string r := by
 unfold slices_Equal_string_string at h
 let p1 : Nat × AV := (1, .sl 1 (x1.map cdS.enc))
 let p2 : Nat × AV := (0, .sl 1 (x0.map cdS.enc))
 refine Sem.wkQ (Sem.wk (s1 := ⟨Fr 26 [p2, p1], []⟩) (Wk.fr kr) ?_)
 refine Sem.sq E0_ok [p2, p1] [] ?_
 refine Sem.seq ?_
 refine Sem.seq ?_
 refine Sem.runS (s1 := ⟨Fr 26 [p2, p1, (10, .v (.bool ((x0.length : Int) != (x1.length : Int))))], []⟩) ?_ ?_
 ·refine RunS.segF (n := 26) E0_ok 1 [p2, p1, (6, .sl 1 (x0.map cdS.enc))] [] kr ?_
  refine RunS.one E0_ok 0 rfl (op_q (wantedA_none rfl) rfl (q_len (a := .sl 1 (x0.map cdS.enc)) kr (len_sl (el := 9) kr))) ?_
  refine RunS.segF (n := 26) E0_ok 1 [p2, p1, (7, .v (.int .i64 (x0.length : Int))), (8, .sl 1 (x1.map cdS.enc))] [] kr ?_
  refine RunS.one E0_ok 0 rfl (op_q (wantedA_none rfl) rfl (q_len (a := .sl 1 (x1.map cdS.enc)) kr (len_sl (el := 9) kr))) ?_
  exact RunS.last E0_ok
 refine Sem.cond (b := ((x0.length : Int) != (x1.length : Int))) kr (fun hb1 => ?_) (fun hb1 => ?_)
 ·rw [if_pos hb1] at h
  refine Sem.sq E0_ok [(4, .v (.bool false))] [] ?_
  refine Sem.ret ?_
  have hq := Option.some.inj h; subst hq
  exact ⟨⟨Fr 26 [(4, .v (.bool false))], []⟩, (Wk.fr kr), .inr rfl, [.v (.bool false)], kr, kr⟩
 ·rw [if_f hb1] at h
  refine Sem.skip ?_
  refine Sem.seq ?_
  refine Sem.seq ?_
  let p3 : Nat × AV := (13, .v (.int .i64 0))
  let p4 : Nat × AV := (12, .v (.int .i64 (x0.length : Int)))
  refine Sem.runS (s1 := ⟨Fr 26 [p2, p1, p4, p3], []⟩) ?_ ?_
  ·refine RunS.segF (n := 26) E0_ok 1 [p2, p1, (11, .sl 1 (x0.map cdS.enc))] [] kr ?_
   refine RunS.one E0_ok 0 rfl (op_q (wantedA_none rfl) rfl (q_len (a := .sl 1 (x0.map cdS.enc)) kr (len_sl (el := 9) kr))) ?_
   exact RunS.last E0_ok
  refine Sem.block ?_
  obtain ⟨r8, hr8, h⟩ := Option.bind_eq_some_iff.1 h
  refine Sem.loop (n := 100000) ?_
  rcases r8 with w9 | w10
  ·try dsimp only at h
   refine Sem.cutN (SemN.wk (s1 := ⟨Fr 26 [p2, p1, p4, p3], []⟩) (Wk.fr kr) (slices_Equal_string_string_l1_ok x0 x1 _ 0 _ hr8)) ?_
   refine Sem.sq E0_ok [(4, .v (.bool true))] [] ?_
   refine Sem.ret ?_
   have hq := Option.some.inj h; subst hq
   exact ⟨⟨Fr 26 [(4, .v (.bool true))], []⟩, (Wk.fr kr), .inr rfl, [.v (.bool true)], kr, kr⟩
  ·try dsimp only at h
   refine Sem.cutN (SemN.wk (s1 := ⟨Fr 26 [p2, p1, p4, p3], []⟩) (Wk.fr kr) (slices_Equal_string_string_l1_ok x0 x1 _ 0 _ hr8)) ?_
   have hq := Option.some.inj h; subst hq
   exact ⟨⟨Fr 26 [(4, .v (.bool w10))], []⟩, (Wk.fr kr), .inr rfl, [.v (.bool w10)], kr, kr⟩
def t_slices_Equal_string_string : List AV → Option AV := told cs_slices_Equal_string_string (fun a => slices_Equal_string_string a.1 a.2.1) er_slices_Equal_string_string
theorem x_slices_Equal_string_string : XOk 125 t_slices_Equal_string_string := by
 refine xok_of_sem Tryz.func125 (c := cb_slices_Equal_string_string) ?h2 ⟨Tryz.call125⟩ cs_slices_Equal_string_string (fun a => slices_Equal_string_string a.1 a.2.1) er_slices_Equal_string_string (fun a => (by show 2 ≤ 26; decide)) ?h3 ?h4
 case h2 => kernel_rfl
 case h3 => intro b; kernel_rfl
 case h4 => exact fun a b h => slices_Equal_string_string_sem a.1 a.2.1 b h
/- trestle/trestlelaw03.SameClause -/
noncomputable def cb_law03_SameClause : Code := codeOf Tryz.f81
def law03_SameClause (x0 : Clause) (x1 : Clause) : Option (Bool) :=
 (if (x0.1 == x1.1) = true then if (x0.2.1 == x1.2.1) = true then if (x0.2.2.1 == x1.2.2.1) = true then if (x0.2.2.2.2 == x1.2.2.2.2) = true then (slices_Equal_string_string x0.2.2.2.1 x1.2.2.2.1).bind fun v1 =>
 some v1 else some false else some false else some false else some false).bind fun j3 =>
 some j3
def cs_law03_SameClause : Cs (Clause × Clause × Unit) := (csC cdClause (csC cdClause csN))
def er_law03_SameClause (r : Bool) : AV := cdB.enc r
theorem law03_SameClause_sem (x0 : Clause) (x1 : Clause) (r : Bool) (h : law03_SameClause x0 x1 = some r) : Sem E0 ⟨none, false⟩ cb_law03_SameClause ⟨Fr 38 (pairs0 0 (cs_law03_SameClause.enc (x0, x1, ()))), []⟩ fun e s' => (e = .normal ∨ e = .ret) ∧ ∃ xs, resA E0.P s'.fr s'.hp Tryz.f81.results.toList = some xs ∧ retA xs = er_law03_SameClause r := by
 unfold law03_SameClause at h
 refine Sem.wkQ (Sem.wk (s1 := ⟨Fr 38 [(0, cdClause.enc x0), (1, cdClause.enc x1)], []⟩) (Wk.fr kr) ?_)
 let p1 : Option Blk := some ⟨5, 70, [cdClause.enc x1], false⟩
 let p2 : Option Blk := some ⟨5, 70, [cdClause.enc x0], false⟩
 let p3 : Nat × AV := (3, .pt 1 0 0)
 let p4 : Nat × AV := (2, .pt 0 0 0)
 refine Sem.sq E0_ok [p4, p3] [p2, p1] ?_
 refine Sem.seq ?_
 obtain ⟨j3, hj3, h⟩ := Option.bind_eq_some_iff.1 h
 refine Sem.runS (s1 := ⟨Fr 38 [(4, .v (.bool j3))], []⟩) ?_ ?_
 ·refine RunS.segF (n := 38) E0_ok 6 [p4, p3, (10, .v (.bool (x0.1 == x1.1)))] [p2, p1] kr ?_
  rcases Bool.eq_false_or_eq_true (x0.1 == x1.1) with hc4 | hc4
  ·rw [if_pos hc4] at hj3
   rw [hc4]
   refine RunS.segF (n := 38) E0_ok 7 [p4, p3, (17, .v (.bool (x0.2.1 == x1.2.1)))] [p2, p1] kr ?_
   rcases Bool.eq_false_or_eq_true (x0.2.1 == x1.2.1) with hc5 | hc5
   ·rw [if_pos hc5] at hj3
    rw [hc5]
    refine RunS.segF (n := 38) E0_ok 7 [p4, p3, (24, .v (.bool (x0.2.2.1 == x1.2.2.1)))] [p2, p1] kr ?_
    rcases Bool.eq_false_or_eq_true (x0.2.2.1 == x1.2.2.1) with hc6 | hc6
    ·rw [if_pos hc6] at hj3
     rw [hc6]
     refine RunS.segF (n := 38) E0_ok 7 [p4, p3, (31, .v (.bool (x0.2.2.2.2 == x1.2.2.2.2)))] [p2, p1] kr ?_
     rcases Bool.eq_false_or_eq_true (x0.2.2.2.2 == x1.2.2.2.2) with hc7 | hc7
     ·rw [if_pos hc7] at hj3
      rw [hc7]
      refine RunS.segF (n := 38) E0_ok 4 [(31, .v (.bool true)), (33, .sl 1 (x0.2.2.2.1.map cdS.enc)), (35, .sl 1 (x1.2.2.2.1.map cdS.enc))] [p2, p1] kr ?_
      obtain ⟨v1, hv1, hj3⟩ := Option.bind_eq_some_iff.1 hj3
      refine RunS.callV (caps := []) (xs := [.sl 1 (x0.2.2.2.1.map cdS.enc), .sl 1 (x1.2.2.2.1.map cdS.enc)]) (u := (x0.2.2.2.1, x1.2.2.2.1, ())) rfl rfl x_slices_Equal_string_string rfl kr kr kr (Sl.cons (Sm.enc (c := (cdL 1 cdS)) (v := x0.2.2.2.1)) (Sl.cons (Sm.enc (c := (cdL 1 cdS)) (v := x1.2.2.2.1)) Sl.nil)) (.inl kr) hv1 ?_
      refine RunS.segF (n := 38) E0_ok 2 [(4, .v (.bool v1))] [p2, p1] kr ?_
      have hq := Option.some.inj hj3; subst hq
      exact RunS.done rfl (Wk.sel2 [] kr kr kr trivial ⟨lu kr kr, trivial⟩)
     ·rw [if_f hc7] at hj3
      rw [hc7]
      refine RunS.segF (n := 38) E0_ok 7 [(4, .v (.bool false))] [p2, p1] kr ?_
      have hq := Option.some.inj hj3; subst hq
      exact RunS.done rfl (Wk.sel2 [] kr kr kr trivial ⟨lu kr kr, trivial⟩)
    ·rw [if_f hc6] at hj3
     rw [hc6]
     refine RunS.segF (n := 38) E0_ok 14 [(4, .v (.bool false))] [p2, p1] kr ?_
     have hq := Option.some.inj hj3; subst hq
     exact RunS.done rfl (Wk.sel2 [] kr kr kr trivial ⟨lu kr kr, trivial⟩)
   ·rw [if_f hc5] at hj3
    rw [hc5]
    refine RunS.segF (n := 38) E0_ok 21 [(4, .v (.bool false))] [p2, p1] kr ?_
    have hq := Option.some.inj hj3; subst hq
    exact RunS.done rfl (Wk.sel2 [] kr kr kr trivial ⟨lu kr kr, trivial⟩)
  ·rw [if_f hc4] at hj3
   rw [hc4]
   refine RunS.segF (n := 38) E0_ok 28 [(4, .v (.bool false))] [p2, p1] kr ?_
   have hq := Option.some.inj hj3; subst hq
   exact RunS.done rfl (Wk.sel2 [] kr kr kr trivial ⟨lu kr kr, trivial⟩)
 refine Sem.ret ?_
 have hq := Option.some.inj h; subst hq
 exact ⟨⟨Fr 38 [(4, .v (.bool j3))], []⟩, (Wk.fr kr), .inr rfl, [.v (.bool j3)], kr, kr⟩
def t_law03_SameClause : List AV → Option AV := told cs_law03_SameClause (fun a => law03_SameClause a.1 a.2.1) er_law03_SameClause
theorem x_law03_SameClause : XOk 81 t_law03_SameClause := by
 refine xok_of_sem Tryz.func81 (c := cb_law03_SameClause) ?h2 ⟨Tryz.call81⟩ cs_law03_SameClause (fun a => law03_SameClause a.1 a.2.1) er_law03_SameClause (fun a => (by show 2 ≤ 38; decide)) ?h3 ?h4
 case h2 => kernel_rfl
 case h3 => intro b; kernel_rfl
 case h4 => exact fun a b h => law03_SameClause_sem a.1 a.2.1 b h
/- slices.EqualFunc[[]trestle/api.Clause,[]trestle/api.Clause,trestle/api.Clause,trestle/api.Clause] -/
noncomputable def cb_slices_EqualFunc_api_Clause_api_Clause_api_Clause_api_Clause__law03_SameClause : Code := codeOf Tryz.f80
def slices_EqualFunc_api_Clause_api_Clause_api_Clause_api_Clause__law03_SameClause_l1 (x0 : (List Clause)) (x1 : (List Clause)) : Nat → Int → Option ((Unit) ⊕ (Bool))
 | 0, _ => none
 | f + 1, c2 =>
  if (decide (c2 < (x0.length : Int))) = true then
  (idx x0 c2).bind fun v4 =>
  (idx x1 c2).bind fun v5 =>
  (law03_SameClause v4 v5).bind fun v6 =>
  if (!v6) = true then
  some (.inr false)
  else
  slices_EqualFunc_api_Clause_api_Clause_api_Clause_api_Clause__law03_SameClause_l1 x0 x1 f (wr .i64 (c2 + 1))
  else
  some (.inl ())
def slices_EqualFunc_api_Clause_api_Clause_api_Clause_api_Clause__law03_SameClause (x0 : (List Clause)) (x1 : (List Clause)) : Option (Bool) :=
 if ((x0.length : Int) != (x1.length : Int)) = true then
 some false
 else
 (slices_EqualFunc_api_Clause_api_Clause_api_Clause_api_Clause__law03_SameClause_l1 x0 x1 100000 0).bind fun r9 =>
 match r9 with
 | (.inl w10) =>
  some true
 | (.inr w11) =>
  some w11
def cs_slices_EqualFunc_api_Clause_api_Clause_api_Clause_api_Clause__law03_SameClause : Cs ((List Clause) × (List Clause) × Unit × Unit) := (csC (cdL 5 cdClause) (csC (cdL 5 cdClause) (csC (cdF 81 csN (fun _ => rfl)) csN)))
def er_slices_EqualFunc_api_Clause_api_Clause_api_Clause_api_Clause__law03_SameClause (r : Bool) : AV := cdB.enc r
theorem slices_EqualFunc_api_Clause_api_Clause_api_Clause_api_Clause__law03_SameClause_l1_ok (x0 : (List Clause)) (x1 : (List Clause)) : ∀ (f : Nat) (c2 : Int) (r : (Unit) ⊕ (Bool)), slices_EqualFunc_api_Clause_api_Clause_api_Clause_api_Clause__law03_SameClause_l1 x0 x1 f c2 = some r → SemN E0 ⟨none, false⟩ (pc cb_slices_EqualFunc_api_Clause_api_Clause_api_Clause_api_Clause__law03_SameClause [1, 1, 0, 1, 0, 0]) f ⟨Fr 32 [(1, .sl 5 (x1.map cdClause.enc)), (2, .fn 81 [] []), (15, .sl 5 (x0.map cdClause.enc)), (16, .v (.int .i64 (x0.length : Int))), (17, .v (.int .i64 c2))], []⟩ (fun e s => match r with
 | (.inl w) => e = (.exit 0) ∧ Wk E0 s ⟨Fr 32 [], []⟩
 | (.inr w) => e = .ret ∧ Wk E0 s ⟨Fr 32 [(6, .v (.bool w))], []⟩) := by
 intro f
 induction f with
 | zero => intro c2 r h; cases h
 | succ f ih0 =>
  intro c2 r h
  have ih := fun (c2 : Int) => ih0 c2 r
  unfold slices_EqualFunc_api_Clause_api_Clause_api_Clause_api_Clause__law03_SameClause_l1 at h
  refine SemN.succ ?_
  let p1 : Nat × AV := (17, .v (.int .i64 c2))
  let p2 : Nat × AV := (16, .v (.int .i64 (x0.length : Int)))
  let p3 : Nat × AV := (15, .sl 5 (x0.map cdClause.enc))
  let p4 : Nat × AV := (2, .fn 81 [] [])
  let p5 : Nat × AV := (1, .sl 5 (x1.map cdClause.enc))
  refine Sem.sq E0_ok [p5, p4, p3, p2, p1, (18, .v (.bool (decide (c2 < (x0.length : Int)))))] [] ?_
  refine Sem.seq ?_
  refine Sem.cond (b := (decide (c2 < (x0.length : Int)))) kr (fun hb3 => ?_) (fun hb3 => ?_)
  ·rw [if_pos hb3] at h
   refine Sem.skip ?_
   refine Sem.seq ?_
   refine Sem.block ?_
   refine Sem.seq ?_
   obtain ⟨v4, hv4, h⟩ := Option.bind_eq_some_iff.1 h
   let p6 : Option Blk := some ⟨5, 70, [cdClause.enc v4], false⟩
   refine Sem.runS (s1 := ⟨Fr 32 [p5, p4, (7, .v (.int .i64 c2)), (8, .pt 0 0 0), p3, p2, p1], [p6]⟩) ?_ ?_
   ·refine RunS.segF (n := 32) E0_ok 1 [p5, p4, p3, p2, p1, (19, .v (.int .i64 c2))] [] kr ?_
    refine RunS.one E0_ok 0 rfl (op_q (wantedA_none rfl) rfl (q_indexAddr (a := .sl 5 (x0.map cdClause.enc)) (b := .v (.int .i64 c2)) kr kr (ix_sl (e := cdClause.enc) (el := 70) (k := 5) (ki := .i64) kr kr hv4))) ?_
    exact RunS.last E0_ok
   refine Sem.seq ?_
   obtain ⟨v5, hv5, h⟩ := Option.bind_eq_some_iff.1 h
   let p7 : Option Blk := some ⟨5, 70, [cdClause.enc v5], false⟩
   refine Sem.runS (s1 := ⟨Fr 32 [p5, p4, (8, .pt 0 0 0), (9, .pt 1 0 0), p3, p2, p1], [p6, p7]⟩) ?_ ?_
   ·refine RunS.segF (n := 32) E0_ok 2 [p5, p4, (8, .pt 0 0 0), p3, p2, p1, (22, .sl 5 (x1.map cdClause.enc)), (23, .v (.int .i64 c2))] [p6] kr ?_
    refine RunS.one E0_ok 0 rfl (op_q (wantedA_none rfl) rfl (q_indexAddr (a := .sl 5 (x1.map cdClause.enc)) (b := .v (.int .i64 c2)) kr kr (ix_sl (e := cdClause.enc) (el := 70) (k := 5) (ki := .i64) kr kr hv5))) ?_
    exact RunS.last E0_ok
   refine Sem.seq ?_
   obtain ⟨v6, hv6, h⟩ := Option.bind_eq_some_iff.1 h
   refine Sem.runS (s1 := ⟨Fr 32 [p5, p4, p3, p2, p1, (30, .v (.bool (!v6)))], []⟩) ?_ ?_
   ·refine RunS.segF (n := 32) E0_ok 3 [p5, p4, p3, p2, p1, (26, .fn 81 [] []), (27, cdClause.enc v4), (28, cdClause.enc v5)] [p6, p7] kr ?_
    refine RunS.callV (caps := []) (xs := [cdClause.enc v4, cdClause.enc v5]) (u := (v4, v5, ())) rfl rfl x_law03_SameClause rfl (wantedA_none rfl) kr kr (Sl.cons (Sm.enc (c := cdClause) (v := v4)) (Sl.cons (Sm.enc (c := cdClause) (v := v5)) Sl.nil)) (.inl kr) hv6 ?_
    refine RunS.segF (n := 32) E0_ok 1 [p5, p4, p3, p2, p1, (30, .v (.bool (!v6)))] [p6, p7] kr ?_
    exact RunS.done rfl (Wk.sel2 [] kr kr kr trivial ⟨lu kr kr, lu kr kr, lu kr kr, lu kr kr, lu kr kr, lu kr kr, trivial⟩)
   refine Sem.cond (b := (!v6)) kr (fun hb7 => ?_) (fun hb7 => ?_)
   ·rw [if_pos hb7] at h
    refine Sem.sq E0_ok [(6, .v (.bool false))] [] ?_
    refine Sem.ret ?_
    have hq := Option.some.inj h; subst hq
    exact ⟨rfl, (Wk.fr kr)⟩
   ·rw [if_f hb7] at h
    refine Sem.skip ?_
    let p8 : Nat × AV := (17, .v (.int .i64 (wr .i64 (c2 + 1))))
    refine Sem.rg E0_ok [p5, p4, p3, p2, p8] [] ?_
    exact SemN.wk (s1 := ⟨Fr 32 [p5, p4, p3, p2, p8], []⟩) (Wk.fr kr) (ih (wr .i64 (c2 + 1)) h)
  ·rw [if_f hb3] at h
   refine Sem.exit ?_
   have hq := Option.some.inj h; subst hq
   exact ⟨rfl, (Wk.fr kr)⟩
theorem slices_EqualFunc_api_Clause_api_Clause_api_Clause_api_Clause__law03_SameClause_sem (x0 : (List Clause)) (x1 : (List Clause)) (r : Bool) (h : slices_EqualFunc_api_Clause_api_Clause_api_Clause_api_Clause__law03_SameClause x0 x1 = some r) : Sem E0 ⟨none, false⟩ cb_slices_EqualFunc_api_Clause_api_Clause_api_Clause_api_Clause__law03_SameClause ⟨Fr 32 (pairs0 0 (cs_slices_EqualFunc_api_Clause_api_Clause_api_Clause_api_Clause__law03_SameClause.enc (x0, x1, (), ()))), []⟩ fun e s' => (e = .normal ∨ e = .ret) ∧ ∃ xs, resA E0.P s'.fr s'.hp Tryz.f80.results.toList = some xs ∧ retA xs = er_slices_EqualFunc_api_Clause_api_Clause_api_Clause_api_Clause__law03_SameClause r := by
 unfold slices_EqualFunc_api_Clause_api_Clause_api_Clause_api_Clause__law03_SameClause at h
 let p1 : Nat × AV := (2, .fn 81 [] [])
 let p2 : Nat × AV := (1, .sl 5 (x1.map cdClause.enc))
 let p3 : Nat × AV := (0, .sl 5 (x0.map cdClause.enc))
 refine Sem.wkQ (Sem.wk (s1 := ⟨Fr 32 [p3, p2, p1], []⟩) (Wk.fr kr) ?_)
 refine Sem.sq E0_ok [p3, p2, p1] [] ?_
 refine Sem.seq ?_
 refine Sem.seq ?_
 refine Sem.runS (s1 := ⟨Fr 32 [p3, p2, p1, (14, .v (.bool ((x0.length : Int) != (x1.length : Int))))], []⟩) ?_ ?_
 ·refine RunS.segF (n := 32) E0_ok 1 [p3, p2, p1, (10, .sl 5 (x0.map cdClause.enc))] [] kr ?_
  refine RunS.one E0_ok 0 rfl (op_q (wantedA_none rfl) rfl (q_len (a := .sl 5 (x0.map cdClause.enc)) kr (len_sl (el := 70) kr))) ?_
  refine RunS.segF (n := 32) E0_ok 1 [p3, p2, p1, (11, .v (.int .i64 (x0.length : Int))), (12, .sl 5 (x1.map cdClause.enc))] [] kr ?_
  refine RunS.one E0_ok 0 rfl (op_q (wantedA_none rfl) rfl (q_len (a := .sl 5 (x1.map cdClause.enc)) kr (len_sl (el := 70) kr))) ?_
  exact RunS.last E0_ok
 refine Sem.cond (b := ((x0.length : Int) != (x1.length : Int))) kr (fun hb1 => ?_) (fun hb1 => ?_)
 ·rw [if_pos hb1] at h
  refine Sem.sq E0_ok [(6, .v (.bool false))] [] ?_
  refine Sem.ret ?_
  have hq := Option.some.inj h; subst hq
  exact ⟨⟨Fr 32 [(6, .v (.bool false))], []⟩, (Wk.fr kr), .inr rfl, [.v (.bool false)], kr, kr⟩
 ·rw [if_f hb1] at h
  refine Sem.skip ?_
  refine Sem.seq ?_
  refine Sem.seq ?_
  let p4 : Nat × AV := (17, .v (.int .i64 0))
  let p5 : Nat × AV := (16, .v (.int .i64 (x0.length : Int)))
  let p6 : Nat × AV := (15, .sl 5 (x0.map cdClause.enc))
  refine Sem.runS (s1 := ⟨Fr 32 [p2, p1, p6, p5, p4], []⟩) ?_ ?_
  ·refine RunS.segF (n := 32) E0_ok 1 [p2, p1, p6] [] kr ?_
   refine RunS.one E0_ok 0 rfl (op_q (wantedA_none rfl) rfl (q_len (a := .sl 5 (x0.map cdClause.enc)) kr (len_sl (el := 70) kr))) ?_
   exact RunS.last E0_ok
  refine Sem.block ?_
  obtain ⟨r9, hr9, h⟩ := Option.bind_eq_some_iff.1 h
  refine Sem.loop (n := 100000) ?_
  rcases r9 with w10 | w11
  ·try dsimp only at h
   refine Sem.cutN (SemN.wk (s1 := ⟨Fr 32 [p2, p1, p6, p5, p4], []⟩) (Wk.fr kr) (slices_EqualFunc_api_Clause_api_Clause_api_Clause_api_Clause__law03_SameClause_l1_ok x0 x1 _ 0 _ hr9)) ?_
   refine Sem.sq E0_ok [(6, .v (.bool true))] [] ?_
   refine Sem.ret ?_
   have hq := Option.some.inj h; subst hq
   exact ⟨⟨Fr 32 [(6, .v (.bool true))], []⟩, (Wk.fr kr), .inr rfl, [.v (.bool true)], kr, kr⟩
  ·try dsimp only at h
   refine Sem.cutN (SemN.wk (s1 := ⟨Fr 32 [p2, p1, p6, p5, p4], []⟩) (Wk.fr kr) (slices_EqualFunc_api_Clause_api_Clause_api_Clause_api_Clause__law03_SameClause_l1_ok x0 x1 _ 0 _ hr9)) ?_
   have hq := Option.some.inj h; subst hq
   exact ⟨⟨Fr 32 [(6, .v (.bool w11))], []⟩, (Wk.fr kr), .inr rfl, [.v (.bool w11)], kr, kr⟩
def t_slices_EqualFunc_api_Clause_api_Clause_api_Clause_api_Clause__law03_SameClause : List AV → Option AV := told cs_slices_EqualFunc_api_Clause_api_Clause_api_Clause_api_Clause__law03_SameClause (fun a => slices_EqualFunc_api_Clause_api_Clause_api_Clause_api_Clause__law03_SameClause a.1 a.2.1) er_slices_EqualFunc_api_Clause_api_Clause_api_Clause_api_Clause__law03_SameClause
theorem x_slices_EqualFunc_api_Clause_api_Clause_api_Clause_api_Clause__law03_SameClause : XOk 80 t_slices_EqualFunc_api_Clause_api_Clause_api_Clause_api_Clause__law03_SameClause := by
 refine xok_of_sem Tryz.func80 (c := cb_slices_EqualFunc_api_Clause_api_Clause_api_Clause_api_Clause__law03_SameClause) ?h2 ⟨Tryz.call80⟩ cs_slices_EqualFunc_api_Clause_api_Clause_api_Clause_api_Clause__law03_SameClause (fun a => slices_EqualFunc_api_Clause_api_Clause_api_Clause_api_Clause__law03_SameClause a.1 a.2.1) er_slices_EqualFunc_api_Clause_api_Clause_api_Clause_api_Clause__law03_SameClause (fun a => (by show 3 ≤ 32; decide)) ?h3 ?h4
 case h2 => kernel_rfl
 case h3 => intro b; kernel_rfl
 case h4 => exact fun a b h => slices_EqualFunc_api_Clause_api_Clause_api_Clause_api_Clause__law03_SameClause_sem a.1 a.2.1 b h
/- trestle/trestlelaw03.Same -/
noncomputable def cb_law03_Same : Code := codeOf Tryz.f29
def law03_Same (x0 : (List Clause)) (x1 : (List Clause)) : Option (Bool) :=
 (slices_EqualFunc_api_Clause_api_Clause_api_Clause_api_Clause__law03_SameClause x0 x1).bind fun v1 =>
 some v1
def cs_law03_Same : Cs ((List Clause) × (List Clause) × Unit) := (csC (cdL 5 cdClause) (csC (cdL 5 cdClause) csN))
def er_law03_Same (r : Bool) : AV := cdB.enc r
theorem law03_Same_sem (x0 : (List Clause)) (x1 : (List Clause)) (r : Bool) (h : law03_Same x0 x1 = some r) : Sem E0 ⟨none, false⟩ cb_law03_Same ⟨Fr 8 (pairs0 0 (cs_law03_Same.enc (x0, x1, ()))), []⟩ fun e s' => (e = .normal ∨ e = .ret) ∧ ∃ xs, resA E0.P s'.fr s'.hp Tryz.f29.results.toList = some xs ∧ retA xs = er_law03_Same r := by
 unfold law03_Same at h
 let p1 : Nat × AV := (1, .sl 5 (x1.map cdClause.enc))
 let p2 : Nat × AV := (0, .sl 5 (x0.map cdClause.enc))
 refine Sem.wkQ (Sem.wk (s1 := ⟨Fr 8 [p2, p1], []⟩) (Wk.fr kr) ?_)
 refine Sem.sq E0_ok [p2, p1] [] ?_
 refine Sem.seq ?_
 obtain ⟨v1, hv1, h⟩ := Option.bind_eq_some_iff.1 h
 refine Sem.runS (s1 := ⟨Fr 8 [(4, .v (.bool v1))], []⟩) ?_ ?_
 ·refine RunS.segF (n := 8) E0_ok 2 [(5, .sl 5 (x0.map cdClause.enc)), (6, .sl 5 (x1.map cdClause.enc))] [] kr ?_
  refine RunS.callV (caps := []) (xs := [.sl 5 (x0.map cdClause.enc), .sl 5 (x1.map cdClause.enc), .fn 81 [] []]) (u := (x0, x1, (), ())) rfl rfl x_slices_EqualFunc_api_Clause_api_Clause_api_Clause_api_Clause__law03_SameClause rfl (wantedA_none rfl) kr kr (Sl.cons (Sm.enc (c := (cdL 5 cdClause)) (v := x0)) (Sl.cons (Sm.enc (c := (cdL 5 cdClause)) (v := x1)) (Sl.cons (Sm.fn Sl.nil) Sl.nil))) (.inl kr) hv1 ?_
  exact RunS.last E0_ok
 refine Sem.ret ?_
 have hq := Option.some.inj h; subst hq
 exact ⟨⟨Fr 8 [(4, .v (.bool v1))], []⟩, (Wk.fr kr), .inr rfl, [.v (.bool v1)], kr, kr⟩
def t_law03_Same : List AV → Option AV := told cs_law03_Same (fun a => law03_Same a.1 a.2.1) er_law03_Same
theorem x_law03_Same : XOk 29 t_law03_Same := by
 refine xok_of_sem Tryz.func29 (c := cb_law03_Same) ?h2 ⟨Tryz.call29⟩ cs_law03_Same (fun a => law03_Same a.1 a.2.1) er_law03_Same (fun a => (by show 2 ≤ 8; decide)) ?h3 ?h4
 case h2 => kernel_rfl
 case h3 => intro b; kernel_rfl
 case h4 => exact fun a b h => law03_Same_sem a.1 a.2.1 b h
/- trestle/trestlekit.SameWords -/
noncomputable def cb_kit_SameWords : Code := codeOf Tryz.f129
def kit_SameWords_l1 (x0 : (List (List UInt8))) (x1 : (List (List UInt8))) : Nat → Int → Option ((Unit) ⊕ (Bool))
 | 0, _ => none
 | f + 1, c2 =>
  if (decide (c2 < (x0.length : Int))) = true then
  (idx x0 c2).bind fun v4 =>
  (idx x1 c2).bind fun v5 =>
  if (!(v4 == v5)) = true then
  some (.inr false)
  else
  kit_SameWords_l1 x0 x1 f (wr .i64 (c2 + 1))
  else
  some (.inl ())
def kit_SameWords (x0 : (List (List UInt8))) (x1 : (List (List UInt8))) : Option (Bool) :=
 if ((x0.length : Int) != (x1.length : Int)) = true then
 some false
 else
 (kit_SameWords_l1 x0 x1 100000 0).bind fun r8 =>
 match r8 with
 | (.inl w9) =>
  some true
 | (.inr w10) =>
  some w10
def cs_kit_SameWords : Cs ((List (List UInt8)) × (List (List UInt8)) × Unit) := (csC (cdL 1 cdS) (csC (cdL 1 cdS) csN))
def er_kit_SameWords (r : Bool) : AV := cdB.enc r
theorem kit_SameWords_l1_ok (x0 : (List (List UInt8))) (x1 : (List (List UInt8))) : ∀ (f : Nat) (c2 : Int) (r : (Unit) ⊕ (Bool)), kit_SameWords_l1 x0 x1 f c2 = some r → SemN E0 ⟨none, false⟩ (pc cb_kit_SameWords [1, 1, 0, 1, 0, 0]) f ⟨Fr 26 [(0, .sl 1 (x0.map cdS.enc)), (1, .sl 1 (x1.map cdS.enc)), (5, .v (.int .i64 c2))], []⟩ (fun e s => match r with
 | (.inl w) => e = (.exit 0) ∧ Wk E0 s ⟨Fr 26 [], []⟩
 | (.inr w) => e = .ret ∧ Wk E0 s ⟨Fr 26 [(4, .v (.bool w))], []⟩) := by
 intro f
 induction f with
 | zero => intro c2 r h; cases h
 | succ f ih0 =>
  intro c2 r h
  have ih := fun (c2 : Int) => ih0 c2 r
  unfold kit_SameWords_l1 at h
  refine SemN.succ ?_
  refine Sem.seq ?_
  refine Sem.seq ?_
  let p1 : Nat × AV := (5, .v (.int .i64 c2))
  let p2 : Nat × AV := (1, .sl 1 (x1.map cdS.enc))
  let p3 : Nat × AV := (0, .sl 1 (x0.map cdS.enc))
  refine Sem.runS (s1 := ⟨Fr 26 [p3, p2, p1, (14, .v (.bool (decide (c2 < (x0.length : Int)))))], []⟩) ?_ ?_
  ·refine RunS.segF (n := 26) E0_ok 2 [p3, p2, p1, (11, .v (.int .i64 c2)), (12, .sl 1 (x0.map cdS.enc))] [] kr ?_
   refine RunS.one E0_ok 0 rfl (op_q (wantedA_none rfl) rfl (q_len (a := .sl 1 (x0.map cdS.enc)) kr (len_sl (el := 9) kr))) ?_
   exact RunS.last E0_ok
  refine Sem.cond (b := (decide (c2 < (x0.length : Int)))) kr (fun hb3 => ?_) (fun hb3 => ?_)
  ·rw [if_pos hb3] at h
   refine Sem.skip ?_
   refine Sem.seq ?_
   refine Sem.block ?_
   refine Sem.seq ?_
   obtain ⟨v4, hv4, h⟩ := Option.bind_eq_some_iff.1 h
   obtain ⟨v5, hv5, h⟩ := Option.bind_eq_some_iff.1 h
   refine Sem.runDS E0_ok (s1 := ⟨Fr 26 [p3, p2, p1, (25, .v (.bool (!(v4 == v5))))], []⟩) kr ?_ ?_
   ·refine RunDS.segF (n := 26) E0_ok 2 [p3, p2, p1, (17, .sl 1 (x0.map cdS.enc)), (18, .v (.int .i64 c2))] [] kr kr ?_
    refine RunDS.one E0_ok rfl kr (opd_q kr (wantedA_none rfl) rfl (q_indexAddr (a := .sl 1 (x0.map cdS.enc)) (b := .v (.int .i64 c2)) kr kr (ix_sl (e := cdS.enc) (el := 9) (k := 1) (ki := .i64) kr kr hv4)) kr) ?_
    refine RunDS.segF (n := 26) E0_ok 3 [p3, p2, p1, (20, .st v4), (21, .sl 1 (x1.map cdS.enc)), (22, .v (.int .i64 c2))] [] kr kr ?_
    refine RunDS.one E0_ok rfl kr (opd_q kr (wantedA_none rfl) rfl (q_indexAddr (a := .sl 1 (x1.map cdS.enc)) (b := .v (.int .i64 c2)) kr kr (ix_sl (e := cdS.enc) (el := 9) (k := 1) (ki := .i64) kr kr hv5)) kr) ?_
    refine RunDS.segF (n := 26) E0_ok 2 [p3, p2, p1, (25, .v (.bool (!(v4 == v5))))] [] kr kr ?_
    exact RunDS.done rfl (Wk.fr kr)
   refine Sem.cond (b := (!(v4 == v5))) kr (fun hb6 => ?_) (fun hb6 => ?_)
   ·rw [if_pos hb6] at h
    refine Sem.sq E0_ok [(4, .v (.bool false))] [] ?_
    refine Sem.ret ?_
    have hq := Option.some.inj h; subst hq
    exact ⟨rfl, (Wk.fr kr)⟩
   ·rw [if_f hb6] at h
    refine Sem.skip ?_
    let p4 : Nat × AV := (5, .v (.int .i64 (wr .i64 (c2 + 1))))
    refine Sem.rg E0_ok [p3, p2, p4] [] ?_
    exact SemN.wk (s1 := ⟨Fr 26 [p3, p2, p4], []⟩) (Wk.fr kr) (ih (wr .i64 (c2 + 1)) h)
  ·rw [if_f hb3] at h
   refine Sem.exit ?_
   have hq := Option.some.inj h; subst hq
   exact ⟨rfl, (Wk.fr kr)⟩
theorem kit_SameWords_sem (x0 : (List (List UInt8))) (x1 : (List (List UInt8))) (r : Bool) (h : kit_SameWords x0 x1 = some r) : Sem E0 ⟨none, false⟩ cb_kit_SameWords ⟨Fr 26 (pairs0 0 (cs_kit_SameWords.enc (x0, x1, ()))), []⟩ fun e s' => (e = .normal ∨ e = .ret) ∧ ∃ xs, resA E0.P s'.fr s'.hp Tryz.f129.results.toList = some xs ∧ retA xs = er_kit_SameWords r := by
 unfold kit_SameWords at h
 let p1 : Nat × AV := (1, .sl 1 (x1.map cdS.enc))
 let p2 : Nat × AV := (0, .sl 1 (x0.map cdS.enc))
 refine Sem.wkQ (Sem.wk (s1 := ⟨Fr 26 [p2, p1], []⟩) (Wk.fr kr) ?_)
 refine Sem.sq E0_ok [p2, p1] [] ?_
 refine Sem.seq ?_
 refine Sem.seq ?_
 refine Sem.runS (s1 := ⟨Fr 26 [p2, p1, (10, .v (.bool ((x0.length : Int) != (x1.length : Int))))], []⟩) ?_ ?_
 ·refine RunS.segF (n := 26) E0_ok 1 [p2, p1, (6, .sl 1 (x0.map cdS.enc))] [] kr ?_
  refine RunS.one E0_ok 0 rfl (op_q (wantedA_none rfl) rfl (q_len (a := .sl 1 (x0.map cdS.enc)) kr (len_sl (el := 9) kr))) ?_
  refine RunS.segF (n := 26) E0_ok 1 [p2, p1, (7, .v (.int .i64 (x0.length : Int))), (8, .sl 1 (x1.map cdS.enc))] [] kr ?_
  refine RunS.one E0_ok 0 rfl (op_q (wantedA_none rfl) rfl (q_len (a := .sl 1 (x1.map cdS.enc)) kr (len_sl (el := 9) kr))) ?_
  exact RunS.last E0_ok
 refine Sem.cond (b := ((x0.length : Int) != (x1.length : Int))) kr (fun hb1 => ?_) (fun hb1 => ?_)
 ·rw [if_pos hb1] at h
  refine Sem.sq E0_ok [(4, .v (.bool false))] [] ?_
  refine Sem.ret ?_
  have hq := Option.some.inj h; subst hq
  exact ⟨⟨Fr 26 [(4, .v (.bool false))], []⟩, (Wk.fr kr), .inr rfl, [.v (.bool false)], kr, kr⟩
 ·rw [if_f hb1] at h
  refine Sem.skip ?_
  refine Sem.seq ?_
  let p3 : Nat × AV := (5, .v (.int .i64 0))
  refine Sem.sq E0_ok [p2, p1, p3] [] ?_
  refine Sem.block ?_
  obtain ⟨r8, hr8, h⟩ := Option.bind_eq_some_iff.1 h
  refine Sem.loop (n := 100000) ?_
  rcases r8 with w9 | w10
  ·try dsimp only at h
   refine Sem.cutN (SemN.wk (s1 := ⟨Fr 26 [p2, p1, p3], []⟩) (Wk.fr kr) (kit_SameWords_l1_ok x0 x1 _ 0 _ hr8)) ?_
   refine Sem.sq E0_ok [(4, .v (.bool true))] [] ?_
   refine Sem.ret ?_
   have hq := Option.some.inj h; subst hq
   exact ⟨⟨Fr 26 [(4, .v (.bool true))], []⟩, (Wk.fr kr), .inr rfl, [.v (.bool true)], kr, kr⟩
  ·try dsimp only at h
   refine Sem.cutN (SemN.wk (s1 := ⟨Fr 26 [p2, p1, p3], []⟩) (Wk.fr kr) (kit_SameWords_l1_ok x0 x1 _ 0 _ hr8)) ?_
   have hq := Option.some.inj h; subst hq
   exact ⟨⟨Fr 26 [(4, .v (.bool w10))], []⟩, (Wk.fr kr), .inr rfl, [.v (.bool w10)], kr, kr⟩
def t_kit_SameWords : List AV → Option AV := told cs_kit_SameWords (fun a => kit_SameWords a.1 a.2.1) er_kit_SameWords
theorem x_kit_SameWords : XOk 129 t_kit_SameWords := by
 refine xok_of_sem Tryz.func129 (c := cb_kit_SameWords) ?h2 ⟨Tryz.call129⟩ cs_kit_SameWords (fun a => kit_SameWords a.1 a.2.1) er_kit_SameWords (fun a => (by show 2 ≤ 26; decide)) ?h3 ?h4
 case h2 => kernel_rfl
 case h3 => intro b; kernel_rfl
 case h4 => exact fun a b h => kit_SameWords_sem a.1 a.2.1 b h
/- trestle/trestlekit.SameGuest -/
noncomputable def cb_kit_SameGuest : Code := codeOf Tryz.f87
def kit_SameGuest (x0 : Guest) (x1 : Guest) : Option (Bool) :=
 (if (x0.1 == x1.1) = true then if (x0.2.1 == x1.2.1) = true then if (x0.2.2.1 == x1.2.2.1) = true then if (x0.2.2.2.1 == x1.2.2.2.1) = true then if (x0.2.2.2.2.1 == x1.2.2.2.2.1) = true then if (x0.2.2.2.2.2.1 == x1.2.2.2.2.2.1) = true then if (x0.2.2.2.2.2.2.1 == x1.2.2.2.2.2.2.1) = true then if (x0.2.2.2.2.2.2.2.1 == x1.2.2.2.2.2.2.2.1) = true then (kit_SameWords x0.2.2.2.2.2.2.2.2 x1.2.2.2.2.2.2.2.2).bind fun v1 =>
 some v1 else some false else some false else some false else some false else some false else some false else some false else some false).bind fun j3 =>
 some j3
def cs_kit_SameGuest : Cs (Guest × Guest × Unit) := (csC cdGuest (csC cdGuest csN))
def er_kit_SameGuest (r : Bool) : AV := cdB.enc r
theorem kit_SameGuest_sem (x0 : Guest) (x1 : Guest) (r : Bool) (h : kit_SameGuest x0 x1 = some r) : Sem E0 ⟨none, false⟩ cb_kit_SameGuest ⟨Fr 66 (pairs0 0 (cs_kit_SameGuest.enc (x0, x1, ()))), []⟩ fun e s' => (e = .normal ∨ e = .ret) ∧ ∃ xs, resA E0.P s'.fr s'.hp Tryz.f87.results.toList = some xs ∧ retA xs = er_kit_SameGuest r := by
 unfold kit_SameGuest at h
 refine Sem.wkQ (Sem.wk (s1 := ⟨Fr 66 [(0, cdGuest.enc x0), (1, cdGuest.enc x1)], []⟩) (Wk.fr kr) ?_)
 let p1 : Option Blk := some ⟨9, 44, [cdGuest.enc x1], false⟩
 let p2 : Option Blk := some ⟨9, 44, [cdGuest.enc x0], false⟩
 let p3 : Nat × AV := (3, .pt 1 0 0)
 let p4 : Nat × AV := (2, .pt 0 0 0)
 refine Sem.sq E0_ok [p4, p3] [p2, p1] ?_
 refine Sem.seq ?_
 obtain ⟨j3, hj3, h⟩ := Option.bind_eq_some_iff.1 h
 refine Sem.runS (s1 := ⟨Fr 66 [(4, .v (.bool j3))], []⟩) ?_ ?_
 ·refine RunS.segF (n := 66) E0_ok 6 [p4, p3, (10, .v (.bool (x0.1 == x1.1)))] [p2, p1] kr ?_
  rcases Bool.eq_false_or_eq_true (x0.1 == x1.1) with hc4 | hc4
  ·rw [if_pos hc4] at hj3
   rw [hc4]
   refine RunS.segF (n := 66) E0_ok 7 [p4, p3, (17, .v (.bool (x0.2.1 == x1.2.1)))] [p2, p1] kr ?_
   rcases Bool.eq_false_or_eq_true (x0.2.1 == x1.2.1) with hc5 | hc5
   ·rw [if_pos hc5] at hj3
    rw [hc5]
    refine RunS.segF (n := 66) E0_ok 7 [p4, p3, (24, .v (.bool (x0.2.2.1 == x1.2.2.1)))] [p2, p1] kr ?_
    rcases Bool.eq_false_or_eq_true (x0.2.2.1 == x1.2.2.1) with hc6 | hc6
    ·rw [if_pos hc6] at hj3
     rw [hc6]
     refine RunS.segF (n := 66) E0_ok 7 [p4, p3, (31, .v (.bool (x0.2.2.2.1 == x1.2.2.2.1)))] [p2, p1] kr ?_
     rcases Bool.eq_false_or_eq_true (x0.2.2.2.1 == x1.2.2.2.1) with hc7 | hc7
     ·rw [if_pos hc7] at hj3
      rw [hc7]
      refine RunS.segF (n := 66) E0_ok 7 [p4, p3, (38, .v (.bool (x0.2.2.2.2.1 == x1.2.2.2.2.1)))] [p2, p1] kr ?_
      rcases Bool.eq_false_or_eq_true (x0.2.2.2.2.1 == x1.2.2.2.2.1) with hc8 | hc8
      ·rw [if_pos hc8] at hj3
       rw [hc8]
       refine RunS.segF (n := 66) E0_ok 7 [p4, p3, (45, .v (.bool (x0.2.2.2.2.2.1 == x1.2.2.2.2.2.1)))] [p2, p1] kr ?_
       rcases Bool.eq_false_or_eq_true (x0.2.2.2.2.2.1 == x1.2.2.2.2.2.1) with hc9 | hc9
       ·rw [if_pos hc9] at hj3
        rw [hc9]
        refine RunS.segF (n := 66) E0_ok 7 [p4, p3, (52, .v (.bool (x0.2.2.2.2.2.2.1 == x1.2.2.2.2.2.2.1)))] [p2, p1] kr ?_
        rcases Bool.eq_false_or_eq_true (x0.2.2.2.2.2.2.1 == x1.2.2.2.2.2.2.1) with hc10 | hc10
        ·rw [if_pos hc10] at hj3
         rw [hc10]
         refine RunS.segF (n := 66) E0_ok 7 [p4, p3, (59, .v (.bool (x0.2.2.2.2.2.2.2.1 == x1.2.2.2.2.2.2.2.1)))] [p2, p1] kr ?_
         rcases Bool.eq_false_or_eq_true (x0.2.2.2.2.2.2.2.1 == x1.2.2.2.2.2.2.2.1) with hc11 | hc11
         ·rw [if_pos hc11] at hj3
          rw [hc11]
          refine RunS.segF (n := 66) E0_ok 4 [(59, .v (.bool true)), (61, .sl 1 (x0.2.2.2.2.2.2.2.2.map cdS.enc)), (63, .sl 1 (x1.2.2.2.2.2.2.2.2.map cdS.enc))] [p2, p1] kr ?_
          obtain ⟨v1, hv1, hj3⟩ := Option.bind_eq_some_iff.1 hj3
          refine RunS.callV (caps := []) (xs := [.sl 1 (x0.2.2.2.2.2.2.2.2.map cdS.enc), .sl 1 (x1.2.2.2.2.2.2.2.2.map cdS.enc)]) (u := (x0.2.2.2.2.2.2.2.2, x1.2.2.2.2.2.2.2.2, ())) rfl rfl x_kit_SameWords rfl kr kr kr (Sl.cons (Sm.enc (c := (cdL 1 cdS)) (v := x0.2.2.2.2.2.2.2.2)) (Sl.cons (Sm.enc (c := (cdL 1 cdS)) (v := x1.2.2.2.2.2.2.2.2)) Sl.nil)) (.inl kr) hv1 ?_
          refine RunS.segF (n := 66) E0_ok 2 [(4, .v (.bool v1))] [p2, p1] kr ?_
          have hq := Option.some.inj hj3; subst hq
          exact RunS.done rfl (Wk.sel2 [] kr kr kr trivial ⟨lu kr kr, trivial⟩)
         ·rw [if_f hc11] at hj3
          rw [hc11]
          refine RunS.segF (n := 66) E0_ok 7 [(4, .v (.bool false))] [p2, p1] kr ?_
          have hq := Option.some.inj hj3; subst hq
          exact RunS.done rfl (Wk.sel2 [] kr kr kr trivial ⟨lu kr kr, trivial⟩)
        ·rw [if_f hc10] at hj3
         rw [hc10]
         refine RunS.segF (n := 66) E0_ok 14 [(4, .v (.bool false))] [p2, p1] kr ?_
         have hq := Option.some.inj hj3; subst hq
         exact RunS.done rfl (Wk.sel2 [] kr kr kr trivial ⟨lu kr kr, trivial⟩)
       ·rw [if_f hc9] at hj3
        rw [hc9]
        refine RunS.segF (n := 66) E0_ok 21 [(4, .v (.bool false))] [p2, p1] kr ?_
        have hq := Option.some.inj hj3; subst hq
        exact RunS.done rfl (Wk.sel2 [] kr kr kr trivial ⟨lu kr kr, trivial⟩)
      ·rw [if_f hc8] at hj3
       rw [hc8]
       refine RunS.segF (n := 66) E0_ok 28 [(4, .v (.bool false))] [p2, p1] kr ?_
       have hq := Option.some.inj hj3; subst hq
       exact RunS.done rfl (Wk.sel2 [] kr kr kr trivial ⟨lu kr kr, trivial⟩)
     ·rw [if_f hc7] at hj3
      rw [hc7]
      refine RunS.segF (n := 66) E0_ok 35 [(4, .v (.bool false))] [p2, p1] kr ?_
      have hq := Option.some.inj hj3; subst hq
      exact RunS.done rfl (Wk.sel2 [] kr kr kr trivial ⟨lu kr kr, trivial⟩)
    ·rw [if_f hc6] at hj3
     rw [hc6]
     refine RunS.segF (n := 66) E0_ok 42 [(4, .v (.bool false))] [p2, p1] kr ?_
     have hq := Option.some.inj hj3; subst hq
     exact RunS.done rfl (Wk.sel2 [] kr kr kr trivial ⟨lu kr kr, trivial⟩)
   ·rw [if_f hc5] at hj3
    rw [hc5]
    refine RunS.segF (n := 66) E0_ok 49 [(4, .v (.bool false))] [p2, p1] kr ?_
    have hq := Option.some.inj hj3; subst hq
    exact RunS.done rfl (Wk.sel2 [] kr kr kr trivial ⟨lu kr kr, trivial⟩)
  ·rw [if_f hc4] at hj3
   rw [hc4]
   refine RunS.segF (n := 66) E0_ok 56 [(4, .v (.bool false))] [p2, p1] kr ?_
   have hq := Option.some.inj hj3; subst hq
   exact RunS.done rfl (Wk.sel2 [] kr kr kr trivial ⟨lu kr kr, trivial⟩)
 refine Sem.ret ?_
 have hq := Option.some.inj h; subst hq
 exact ⟨⟨Fr 66 [(4, .v (.bool j3))], []⟩, (Wk.fr kr), .inr rfl, [.v (.bool j3)], kr, kr⟩
def t_kit_SameGuest : List AV → Option AV := told cs_kit_SameGuest (fun a => kit_SameGuest a.1 a.2.1) er_kit_SameGuest
theorem x_kit_SameGuest : XOk 87 t_kit_SameGuest := by
 refine xok_of_sem Tryz.func87 (c := cb_kit_SameGuest) ?h2 ⟨Tryz.call87⟩ cs_kit_SameGuest (fun a => kit_SameGuest a.1 a.2.1) er_kit_SameGuest (fun a => (by show 2 ≤ 66; decide)) ?h3 ?h4
 case h2 => kernel_rfl
 case h3 => intro b; kernel_rfl
 case h4 => exact fun a b h => kit_SameGuest_sem a.1 a.2.1 b h
/- trestle/trestlelaw03.compares -/
noncomputable def cb_law03_compares : Code := codeOf Tryz.f31
def law03_compares_j1 (x0 : (List Clause)) (x1 : Guest) (x2 : Guest) (x3 : Int) (x4 : Int) (v81 : (List Clause)) (v161 : Guest) (v241 : Guest) (v481 : Bool) : Option ((Int × Int)) :=
 if v481 = true then
 (ref03_Reason x0 x1 x2 x3 x4).bind fun v483 =>
 some (v483.1, v483.2)
 else
 some (0, 0)
def law03_compares (x0 : (List Clause)) (x1 : Guest) (x2 : Guest) (x3 : Int) (x4 : Int) : Option (Bool) :=
 (law03_Copy x0).bind fun v81 =>
 (kit_CopyGuest x1).bind fun v161 =>
 (kit_CopyGuest x2).bind fun v241 =>
 (ref03_Valid x0).bind fun v481 =>
 (law03_compares_j1 x0 x1 x2 x3 x4 v81 v161 v241 v481).bind fun r486 =>
 (court_Reason v81 v161 v241 x3 x4).bind fun v487 =>
 (if (v487.1 == r486.1) = true then if (v487.2 == r486.2) = true then (court_Compare v81 v161 v241 x3 x4).bind fun v488 =>
 if (v488 == r486.2) = true then (law03_Same v81 x0).bind fun v489 =>
 if v489 = true then (kit_SameGuest v161 x1).bind fun v490 =>
 if v490 = true then (kit_SameGuest v241 x2).bind fun v491 =>
 some v491 else some false else some false else some false else some false else some false).bind fun j493 =>
 some j493
def cs_law03_compares : Cs ((List Clause) × Guest × Guest × Int × Int × Unit) := (csC (cdL 5 cdClause) (csC cdGuest (csC cdGuest (csC cdI (csC cdI csN)))))
def er_law03_compares (r : Bool) : AV := cdB.enc r
theorem law03_compares_j1_ok (x0 : (List Clause)) (x1 : Guest) (x2 : Guest) (x3 : Int) (x4 : Int) (v81 : (List Clause)) (v161 : Guest) (v241 : Guest) (v481 : Bool) (r : (Int × Int)) (h : law03_compares_j1 x0 x1 x2 x3 x4 v81 v161 v241 v481 = some r) : Sem E0 ⟨none, false⟩ (pc cb_law03_compares [1, 1, 1, 0, 1]) ⟨Fr 77 [(0, .sl 5 (x0.map cdClause.enc)), (3, .v (.int .i64 x3)), (4, .v (.int .i64 x4)), (6, .pt 0 0 0), (7, .pt 1 0 0), (11, .sl 5 (v81.map cdClause.enc)), (12, .pt 2 0 0), (13, .pt 3 0 0), (14, .v (.int .i64 0)), (15, .v (.int .i64 0)), (25, .v (.bool v481))], [some ⟨9, 44, [cdGuest.enc x1], false⟩, some ⟨9, 44, [cdGuest.enc x2], false⟩, some ⟨9, 44, [cdGuest.enc v161], false⟩, some ⟨9, 44, [cdGuest.enc v241], false⟩]⟩ (fun e s => e = .normal ∧ Wk E0 s ⟨Fr 77 [(0, .sl 5 (x0.map cdClause.enc)), (3, .v (.int .i64 x3)), (4, .v (.int .i64 x4)), (6, .pt 0 0 0), (7, .pt 1 0 0), (11, .sl 5 (v81.map cdClause.enc)), (12, .pt 2 0 0), (13, .pt 3 0 0), (14, .v (.int .i64 r.1)), (15, .v (.int .i64 r.2))], [some ⟨9, 44, [cdGuest.enc x1], false⟩, some ⟨9, 44, [cdGuest.enc x2], false⟩, some ⟨9, 44, [cdGuest.enc v161], false⟩, some ⟨9, 44, [cdGuest.enc v241], false⟩]⟩) := by
 unfold law03_compares_j1 at h
 refine Sem.cond (b := v481) kr (fun hb482 => ?_) (fun hb482 => ?_)
 ·rw [if_pos hb482] at h
  obtain ⟨v483, hv483, h⟩ := Option.bind_eq_some_iff.1 h
  let p1 : Option Blk := some ⟨9, 44, [cdGuest.enc v241], false⟩
  let p2 : Option Blk := some ⟨9, 44, [cdGuest.enc v161], false⟩
  let p3 : Option Blk := some ⟨9, 44, [cdGuest.enc x2], false⟩
  let p4 : Option Blk := some ⟨9, 44, [cdGuest.enc x1], false⟩
  let p5 : Nat × AV := (11, .sl 5 (v81.map cdClause.enc))
  refine Sem.runS (s1 := ⟨Fr 77 [(0, .sl 5 (x0.map cdClause.enc)), (3, .v (.int .i64 x3)), (4, .v (.int .i64 x4)), (6, .pt 0 0 0), (7, .pt 1 0 0), p5, (12, .pt 2 0 0), (13, .pt 3 0 0), (14, .v (.int .i64 v483.1)), (15, .v (.int .i64 v483.2))], [p4, p3, p2, p1]⟩) ?_ ?_
  ·refine RunS.segF (n := 77) E0_ok 5 [(0, .sl 5 (x0.map cdClause.enc)), (3, .v (.int .i64 x3)), (4, .v (.int .i64 x4)), (6, .pt 0 0 0), (7, .pt 1 0 0), p5, (12, .pt 2 0 0), (13, .pt 3 0 0), (27, .sl 5 (x0.map cdClause.enc)), (28, cdGuest.enc x1), (29, cdGuest.enc x2), (30, .v (.int .i64 x3)), (31, .v (.int .i64 x4))] [p4, p3, p2, p1] kr ?_
   refine RunS.callV (caps := []) (xs := [.sl 5 (x0.map cdClause.enc), cdGuest.enc x1, cdGuest.enc x2, .v (.int .i64 x3), .v (.int .i64 x4)]) (u := (x0, x1, x2, x3, x4, ())) rfl rfl x_ref03_Reason rfl (wantedA_none rfl) kr kr (Sl.cons (Sm.enc (c := (cdL 5 cdClause)) (v := x0)) (Sl.cons (Sm.enc (c := cdGuest) (v := x1)) (Sl.cons (Sm.enc (c := cdGuest) (v := x2)) (Sl.cons (Sm.enc (c := cdI) (v := x3)) (Sl.cons (Sm.enc (c := cdI) (v := x4)) Sl.nil))))) (.inl kr) hv483 ?_
   exact RunS.last E0_ok
  have hq := Option.some.inj h; subst hq
  exact ⟨rfl, (Wk.sel2 [0, 1, 2, 3] kr kr kr ⟨⟨_, rfl, bu_c kr kr⟩, ⟨_, rfl, bu_c kr kr⟩, ⟨_, rfl, bu_c kr kr⟩, ⟨_, rfl, bu_c kr kr⟩, trivial⟩ ⟨lu kr kr, lu kr kr, lu kr kr, lu kr kr, lu kr kr, lu kr kr, lu kr kr, lu kr kr, lu kr kr, lu kr kr, trivial⟩)⟩
 ·rw [if_f hb482] at h
  refine Sem.skip ?_
  have hq := Option.some.inj h; subst hq
  exact ⟨rfl, (Wk.sel2 [0, 1, 2, 3] kr kr kr ⟨⟨_, rfl, bu_c kr kr⟩, ⟨_, rfl, bu_c kr kr⟩, ⟨_, rfl, bu_c kr kr⟩, ⟨_, rfl, bu_c kr kr⟩, trivial⟩ ⟨lu kr kr, lu kr kr, lu kr kr, lu kr kr, lu kr kr, lu kr kr, lu kr kr, lu kr kr, lu kr kr, lu kr kr, trivial⟩)⟩
theorem law03_compares_sem (x0 : (List Clause)) (x1 : Guest) (x2 : Guest) (x3 : Int) (x4 : Int) (r : Bool) (h : law03_compares x0 x1 x2 x3 x4 = some r) : Sem E0 ⟨none, false⟩ cb_law03_compares ⟨Fr 77 (pairs0 0 (cs_law03_compares.enc (x0, x1, x2, x3, x4, ()))), []⟩ fun e s' => (e = .normal ∨ e = .ret) ∧ ∃ xs, resA E0.P s'.fr s'.hp Tryz.f31.results.toList = some xs ∧ retA xs = er_law03_compares r := by
 unfold law03_compares at h
 let p1 : Nat × AV := (4, .v (.int .i64 x4))
 let p2 : Nat × AV := (3, .v (.int .i64 x3))
 let p3 : Nat × AV := (0, .sl 5 (x0.map cdClause.enc))
 refine Sem.wkQ (Sem.wk (s1 := ⟨Fr 77 [p3, (1, cdGuest.enc x1), (2, cdGuest.enc x2), p2, p1], []⟩) (Wk.fr kr) ?_)
 let p4 : Option Blk := some ⟨9, 44, [cdGuest.enc x2], false⟩
 let p5 : Option Blk := some ⟨9, 44, [cdGuest.enc x1], false⟩
 let p6 : Nat × AV := (7, .pt 1 0 0)
 let p7 : Nat × AV := (6, .pt 0 0 0)
 refine Sem.sq E0_ok [p3, p2, p1, p7, p6] [p5, p4] ?_
 refine Sem.seq ?_
 obtain ⟨v81, hv81, h⟩ := Option.bind_eq_some_iff.1 h
 obtain ⟨v161, hv161, h⟩ := Option.bind_eq_some_iff.1 h
 obtain ⟨v241, hv241, h⟩ := Option.bind_eq_some_iff.1 h
 let p8 : Option Blk := some ⟨9, 44, [cdGuest.enc v241], false⟩
 let p9 : Option Blk := some ⟨9, 44, [cdGuest.enc v161], false⟩
 let p10 : Nat × AV := (13, .pt 3 0 0)
 let p11 : Nat × AV := (12, .pt 2 0 0)
 let p12 : Nat × AV := (11, .sl 5 (v81.map cdClause.enc))
 refine Sem.runM (s1 := ⟨Fr 77 [p3, p2, p1, p7, p6, p12, p11, p10], [p5, p4, p9, p8]⟩) E0_ok 9 11 kr ?_ ?_
 ·refine RunM.q 0 kr rfl ?_
  let p13 : Nat × AV := (18, .sl 5 (x0.map cdClause.enc))
  refine Op1.seg (n := 77) E0_ok [p3, p2, p1, p7, p6, p13] [p5, p4] kr kr ?_
  refine RunM.q 2 kr rfl ?_
  let p14 : Nat × AV := (20, cdGuest.enc x1)
  refine Op1.seg (n := 77) E0_ok [p3, p2, p1, p7, p6, p13, p14] [p5, p4] kr kr ?_
  refine RunM.q 4 kr rfl ?_
  let p15 : Nat × AV := (22, cdGuest.enc x2)
  refine Op1.seg (n := 77) E0_ok [p3, p2, p1, p7, p6, p13, p14, p15] [p5, p4] kr kr ?_
  refine RunM.z ?_
  let p16 : Option Blk := some ⟨9, 44, [.ag [.st [], .st [], .st [], .v (.int .i64 0), .v (.int .i64 0), .st [], .v (.bool false), .v (.bool false), .e0]], false⟩
  let p17 : Nat × AV := (23, cdGuest.enc v241)
  let p18 : Nat × AV := (21, cdGuest.enc v161)
  refine RunZ.cut (f' := 2) (m' := [true, true, true, true, true, true, true, true, true, false, false]) (s' := ⟨Fr 77 [p3, p2, p1, p7, p6, p12, p11, p10, p18, p17], [p5, p4, p16, p16]⟩) ?_ fun hz0 => ?_
  ·refine RunZ.tail kr ?_
   refine RunS.segF (n := 77) E0_ok 2 [p3, p2, p1, p7, p6, p12, p11, p10] [p5, p4, p9, p8] kr ?_
   exact RunS.done rfl (Wk.sel2 [0, 1, 2, 3] kr kr kr ⟨⟨_, rfl, bu_c kr kr⟩, ⟨_, rfl, bu_c kr kr⟩, ⟨_, rfl, bu_c kr kr⟩, ⟨_, rfl, bu_c kr kr⟩, trivial⟩ ⟨lu kr kr, lu kr kr, lu kr kr, lu kr kr, lu kr kr, lu kr kr, lu kr kr, lu kr kr, trivial⟩)
  let p19 : Nat × AV := (13, .pt 2 0 0)
  let p20 : Nat × AV := (12, .pt 3 0 0)
  refine RunZ.cut (f' := 2) (m' := [true, true, true, true, true, true, true, true, true, false, false]) (s' := ⟨Fr 77 [p3, p2, p1, p7, p6, p12, p20, p19, p18, p17], [p5, p4, p16, p16]⟩) ?_ fun hz1 => ?_
  ·refine RunZ.tail kr ?_
   refine RunS.segF (n := 77) E0_ok 2 [p3, p2, p1, p7, p6, p12, p20, p19] [p5, p4, p8, p9] kr ?_
   exact RunS.done rfl (Wk.sel2 [0, 1, 3, 2] kr kr kr ⟨⟨_, rfl, bu_c kr kr⟩, ⟨_, rfl, bu_c kr kr⟩, ⟨_, rfl, bu_c kr kr⟩, ⟨_, rfl, bu_c kr kr⟩, trivial⟩ ⟨lu kr kr, lu kr kr, lu kr kr, lu kr kr, lu kr kr, lu kr kr, lu kr kr, lu kr kr, trivial⟩)
  let p21 : Nat × AV := (19, .sl 5 (v81.map cdClause.enc))
  refine RunZ.cut (f' := 3) (m' := [true, true, true, true, true, true, true, true, false, false, false]) (s' := ⟨Fr 77 [p3, p2, p1, p7, p6, p11, p10, p21, p18, p17], [p5, p4, p16, p16]⟩) ?_ fun hz2 => ?_
  ·refine RunZ.q 8 kr rfl ?_
   exact OpZ.seg (n := 77) E0_ok [p3, p2, p1, p7, p6, p12, p11, p10, p18, p17] [p5, p4, p16, p16] kr kr hz0
  refine RunZ.cut (f' := 3) (m' := [true, true, true, true, true, true, true, true, false, false, false]) (s' := ⟨Fr 77 [p3, p2, p1, p7, p6, p20, p19, p21, p18, p17], [p5, p4, p16, p16]⟩) ?_ fun hz3 => ?_
  ·refine RunZ.q 8 kr rfl ?_
   exact OpZ.seg (n := 77) E0_ok [p3, p2, p1, p7, p6, p12, p20, p19, p18, p17] [p5, p4, p16, p16] kr kr hz1
  refine RunZ.cut (f' := 4) (m' := [true, true, true, true, true, true, true, false, false, false, false]) (s' := ⟨Fr 77 [p3, p2, p1, p7, p6, p11, p21, p18, p17], [p5, p4, p16]⟩) ?_ fun hz4 => ?_
  ·refine RunZ.l1 7 kr rfl ?_
   exact OpZ.seg (n := 77) E0_ok [p3, p2, p1, p7, p6, p11, p10, p21, p18, p17] [p5, p4, p16, p16] kr kr hz2
  refine RunZ.cut (f' := 4) (m' := [true, true, true, true, true, true, false, true, false, false, false]) (s' := ⟨Fr 77 [p3, p2, p1, p7, p6, p19, p21, p18, p17], [p5, p4, p16]⟩) ?_ fun hz5 => ?_
  ·refine RunZ.l1 6 kr rfl ?_
   exact OpZ.seg (n := 77) E0_ok [p3, p2, p1, p7, p6, p20, p19, p21, p18, p17] [p5, p4, p16, p16] kr kr hz3
  refine RunZ.cut (f' := 4) (m' := [true, true, true, true, true, false, true, true, false, false, false]) (s' := ⟨Fr 77 [p3, p2, p1, p7, p6, p11, p10, p21, p18, p15], [p5, p4, p16, p16]⟩) ?_ fun hz6 => ?_
  ·refine RunZ.l1 5 kr rfl ?_
   exact OpZ.callV (caps := []) (xs := [cdGuest.enc x2]) (u := (x2, ())) rfl rfl x_kit_CopyGuest rfl (wantedA_none rfl) kr kr (Sl.cons (Sm.enc (c := cdGuest) (v := x2)) Sl.nil) (.inr kr) hv241 (RunZ.wk (Wk.fr kr) hz2)
  refine RunZ.cut (f' := 4) (m' := [true, true, true, true, true, false, true, true, false, false, false]) (s' := ⟨Fr 77 [p3, p2, p1, p7, p6, p20, p19, p21, p18, p15], [p5, p4, p16, p16]⟩) ?_ fun hz7 => ?_
  ·refine RunZ.l1 5 kr rfl ?_
   exact OpZ.callV (caps := []) (xs := [cdGuest.enc x2]) (u := (x2, ())) rfl rfl x_kit_CopyGuest rfl (wantedA_none rfl) kr kr (Sl.cons (Sm.enc (c := cdGuest) (v := x2)) Sl.nil) (.inr kr) hv241 (RunZ.wk (Wk.fr kr) hz3)
  refine RunZ.cut (f' := 5) (m' := [true, true, true, true, true, true, false, false, false, false, false]) (s' := ⟨Fr 77 [p3, p2, p1, p7, p6, p21, p18, p17], [p5, p4]⟩) ?_ fun hz8 => ?_
  ·refine RunZ.l2 6 7 kr rfl rfl ?_ ?_
   ·exact OpZ.seg (n := 77) E0_ok [p3, p2, p1, p7, p6, p11, p21, p18, p17] [p5, p4, p16] kr kr hz4
   ·exact OpZ.seg (n := 77) E0_ok [p3, p2, p1, p7, p6, p19, p21, p18, p17] [p5, p4, p16] kr kr hz5
  refine RunZ.cut (f' := 5) (m' := [true, true, true, true, true, false, true, false, false, false, false]) (s' := ⟨Fr 77 [p3, p2, p1, p7, p6, p11, p21, p18, p15], [p5, p4, p16]⟩) ?_ fun hz9 => ?_
  ·refine RunZ.l2 5 7 kr rfl rfl ?_ ?_
   ·exact OpZ.callV (caps := []) (xs := [cdGuest.enc x2]) (u := (x2, ())) rfl rfl x_kit_CopyGuest rfl (wantedA_none rfl) kr kr (Sl.cons (Sm.enc (c := cdGuest) (v := x2)) Sl.nil) (.inr kr) hv241 (RunZ.wk (Wk.fr kr) hz4)
   ·exact OpZ.seg (n := 77) E0_ok [p3, p2, p1, p7, p6, p11, p10, p21, p18, p15] [p5, p4, p16, p16] kr kr hz6
  refine RunZ.cut (f' := 5) (m' := [true, true, true, true, true, false, false, true, false, false, false]) (s' := ⟨Fr 77 [p3, p2, p1, p7, p6, p19, p21, p18, p15], [p5, p4, p16]⟩) ?_ fun hz10 => ?_
  ·refine RunZ.l2 5 6 kr rfl rfl ?_ ?_
   ·exact OpZ.callV (caps := []) (xs := [cdGuest.enc x2]) (u := (x2, ())) rfl rfl x_kit_CopyGuest rfl (wantedA_none rfl) kr kr (Sl.cons (Sm.enc (c := cdGuest) (v := x2)) Sl.nil) (.inr kr) hv241 (RunZ.wk (Wk.fr kr) hz5)
   ·exact OpZ.seg (n := 77) E0_ok [p3, p2, p1, p7, p6, p20, p19, p21, p18, p15] [p5, p4, p16, p16] kr kr hz7
  refine RunZ.cut (f' := 5) (m' := [true, true, true, false, true, false, true, true, false, false, false]) (s' := ⟨Fr 77 [p3, p2, p1, p7, p6, p11, p10, p21, p14, p15], [p5, p4, p16, p16]⟩) ?_ fun hz11 => ?_
  ·refine RunZ.l1 3 kr rfl ?_
   exact OpZ.callV (caps := []) (xs := [cdGuest.enc x1]) (u := (x1, ())) rfl rfl x_kit_CopyGuest rfl (wantedA_none rfl) kr kr (Sl.cons (Sm.enc (c := cdGuest) (v := x1)) Sl.nil) (.inr kr) hv161 (RunZ.wk (Wk.fr kr) hz6)
  refine RunZ.cut (f' := 5) (m' := [true, true, true, false, true, false, true, true, false, false, false]) (s' := ⟨Fr 77 [p3, p2, p1, p7, p6, p20, p19, p21, p14, p15], [p5, p4, p16, p16]⟩) ?_ fun hz12 => ?_
  ·refine RunZ.l1 3 kr rfl ?_
   exact OpZ.callV (caps := []) (xs := [cdGuest.enc x1]) (u := (x1, ())) rfl rfl x_kit_CopyGuest rfl (wantedA_none rfl) kr kr (Sl.cons (Sm.enc (c := cdGuest) (v := x1)) Sl.nil) (.inr kr) hv161 (RunZ.wk (Wk.fr kr) hz7)
  refine RunZ.cut (f' := 6) (m' := [true, true, true, true, true, false, false, false, false, false, false]) (s' := ⟨Fr 77 [p3, p2, p1, p7, p6, p21, p18, p15], [p5, p4]⟩) ?_ fun hz13 => ?_
  ·refine RunZ.l3 5 6 7 kr rfl rfl rfl ?_ ?_ ?_
   ·exact OpZ.callV (caps := []) (xs := [cdGuest.enc x2]) (u := (x2, ())) rfl rfl x_kit_CopyGuest rfl (wantedA_none rfl) kr kr (Sl.cons (Sm.enc (c := cdGuest) (v := x2)) Sl.nil) (.inr kr) hv241 (RunZ.wk (Wk.fr kr) hz8)
   ·exact OpZ.seg (n := 77) E0_ok [p3, p2, p1, p7, p6, p11, p21, p18, p15] [p5, p4, p16] kr kr hz9
   ·exact OpZ.seg (n := 77) E0_ok [p3, p2, p1, p7, p6, p19, p21, p18, p15] [p5, p4, p16] kr kr hz10
  refine RunZ.cut (f' := 6) (m' := [true, true, true, false, true, false, true, false, false, false, false]) (s' := ⟨Fr 77 [p3, p2, p1, p7, p6, p11, p21, p14, p15], [p5, p4, p16]⟩) ?_ fun hz14 => ?_
  ·refine RunZ.l2 3 7 kr rfl rfl ?_ ?_
   ·exact OpZ.callV (caps := []) (xs := [cdGuest.enc x1]) (u := (x1, ())) rfl rfl x_kit_CopyGuest rfl (wantedA_none rfl) kr kr (Sl.cons (Sm.enc (c := cdGuest) (v := x1)) Sl.nil) (.inr kr) hv161 (RunZ.wk (Wk.fr kr) hz9)
   ·exact OpZ.seg (n := 77) E0_ok [p3, p2, p1, p7, p6, p11, p10, p21, p14, p15] [p5, p4, p16, p16] kr kr hz11
  refine RunZ.cut (f' := 6) (m' := [true, true, true, false, true, false, false, true, false, false, false]) (s' := ⟨Fr 77 [p3, p2, p1, p7, p6, p19, p21, p14, p15], [p5, p4, p16]⟩) ?_ fun hz15 => ?_
  ·refine RunZ.l2 3 6 kr rfl rfl ?_ ?_
   ·exact OpZ.callV (caps := []) (xs := [cdGuest.enc x1]) (u := (x1, ())) rfl rfl x_kit_CopyGuest rfl (wantedA_none rfl) kr kr (Sl.cons (Sm.enc (c := cdGuest) (v := x1)) Sl.nil) (.inr kr) hv161 (RunZ.wk (Wk.fr kr) hz10)
   ·exact OpZ.seg (n := 77) E0_ok [p3, p2, p1, p7, p6, p20, p19, p21, p14, p15] [p5, p4, p16, p16] kr kr hz12
  refine RunZ.cut (f' := 6) (m' := [true, false, true, false, true, false, true, true, false, false, false]) (s' := ⟨Fr 77 [p3, p2, p1, p7, p6, p11, p10, p13, p14, p15], [p5, p4, p16, p16]⟩) ?_ fun hz16 => ?_
  ·refine RunZ.l1 1 kr rfl ?_
   exact OpZ.callV (caps := []) (xs := [.sl 5 (x0.map cdClause.enc)]) (u := (x0, ())) rfl rfl x_law03_Copy rfl (wantedA_none rfl) kr kr (Sl.cons (Sm.enc (c := (cdL 5 cdClause)) (v := x0)) Sl.nil) (.inr kr) hv81 (RunZ.wk (Wk.fr kr) hz11)
  refine RunZ.cut (f' := 6) (m' := [true, false, true, false, true, false, true, true, false, false, false]) (s' := ⟨Fr 77 [p3, p2, p1, p7, p6, p20, p19, p13, p14, p15], [p5, p4, p16, p16]⟩) ?_ fun hz17 => ?_
  ·refine RunZ.l1 1 kr rfl ?_
   exact OpZ.callV (caps := []) (xs := [.sl 5 (x0.map cdClause.enc)]) (u := (x0, ())) rfl rfl x_law03_Copy rfl (wantedA_none rfl) kr kr (Sl.cons (Sm.enc (c := (cdL 5 cdClause)) (v := x0)) Sl.nil) (.inr kr) hv81 (RunZ.wk (Wk.fr kr) hz12)
  refine RunZ.cut (f' := 7) (m' := [true, true, true, false, true, false, false, false, false, false, false]) (s' := ⟨Fr 77 [p3, p2, p1, p7, p6, p21, p14, p15], [p5, p4]⟩) ?_ fun hz18 => ?_
  ·refine RunZ.l3 3 6 7 kr rfl rfl rfl ?_ ?_ ?_
   ·exact OpZ.callV (caps := []) (xs := [cdGuest.enc x1]) (u := (x1, ())) rfl rfl x_kit_CopyGuest rfl (wantedA_none rfl) kr kr (Sl.cons (Sm.enc (c := cdGuest) (v := x1)) Sl.nil) (.inr kr) hv161 (RunZ.wk (Wk.fr kr) hz13)
   ·exact OpZ.seg (n := 77) E0_ok [p3, p2, p1, p7, p6, p11, p21, p14, p15] [p5, p4, p16] kr kr hz14
   ·exact OpZ.seg (n := 77) E0_ok [p3, p2, p1, p7, p6, p19, p21, p14, p15] [p5, p4, p16] kr kr hz15
  refine RunZ.cut (f' := 7) (m' := [true, false, true, false, true, false, true, false, false, false, false]) (s' := ⟨Fr 77 [p3, p2, p1, p7, p6, p11, p13, p14, p15], [p5, p4, p16]⟩) ?_ fun hz19 => ?_
  ·refine RunZ.l2 1 7 kr rfl rfl ?_ ?_
   ·exact OpZ.callV (caps := []) (xs := [.sl 5 (x0.map cdClause.enc)]) (u := (x0, ())) rfl rfl x_law03_Copy rfl (wantedA_none rfl) kr kr (Sl.cons (Sm.enc (c := (cdL 5 cdClause)) (v := x0)) Sl.nil) (.inr kr) hv81 (RunZ.wk (Wk.fr kr) hz14)
   ·exact OpZ.seg (n := 77) E0_ok [p3, p2, p1, p7, p6, p11, p10, p13, p14, p15] [p5, p4, p16, p16] kr kr hz16
  refine RunZ.cut (f' := 7) (m' := [true, false, true, false, true, false, false, true, false, false, false]) (s' := ⟨Fr 77 [p3, p2, p1, p7, p6, p19, p13, p14, p15], [p5, p4, p16]⟩) ?_ fun hz20 => ?_
  ·refine RunZ.l2 1 6 kr rfl rfl ?_ ?_
   ·exact OpZ.callV (caps := []) (xs := [.sl 5 (x0.map cdClause.enc)]) (u := (x0, ())) rfl rfl x_law03_Copy rfl (wantedA_none rfl) kr kr (Sl.cons (Sm.enc (c := (cdL 5 cdClause)) (v := x0)) Sl.nil) (.inr kr) hv81 (RunZ.wk (Wk.fr kr) hz15)
   ·exact OpZ.seg (n := 77) E0_ok [p3, p2, p1, p7, p6, p20, p19, p13, p14, p15] [p5, p4, p16, p16] kr kr hz17
  refine RunZ.l3 1 6 7 kr rfl rfl rfl ?_ ?_ ?_
  ·exact OpZ.callV (caps := []) (xs := [.sl 5 (x0.map cdClause.enc)]) (u := (x0, ())) rfl rfl x_law03_Copy rfl (wantedA_none rfl) kr kr (Sl.cons (Sm.enc (c := (cdL 5 cdClause)) (v := x0)) Sl.nil) (.inr kr) hv81 (RunZ.wk (Wk.fr kr) hz18)
  ·exact OpZ.seg (n := 77) E0_ok [p3, p2, p1, p7, p6, p11, p13, p14, p15] [p5, p4, p16] kr kr hz19
  ·exact OpZ.seg (n := 77) E0_ok [p3, p2, p1, p7, p6, p19, p13, p14, p15] [p5, p4, p16] kr kr hz20
 let p22 : Nat × AV := (15, .v (.int .i64 0))
 let p23 : Nat × AV := (14, .v (.int .i64 0))
 refine Sem.sq E0_ok [p3, p2, p1, p7, p6, p12, p11, p10, p23, p22] [p5, p4, p9, p8] ?_
 refine Sem.seq ?_
 refine Sem.seq ?_
 obtain ⟨v481, hv481, h⟩ := Option.bind_eq_some_iff.1 h
 refine Sem.runS (s1 := ⟨Fr 77 [p3, p2, p1, p7, p6, p12, p11, p10, p23, p22, (25, .v (.bool v481))], [p5, p4, p9, p8]⟩) ?_ ?_
 ·refine RunS.segF (n := 77) E0_ok 1 [p3, p2, p1, p7, p6, p12, p11, p10, p23, p22, (24, .sl 5 (x0.map cdClause.enc))] [p5, p4, p9, p8] kr ?_
  refine RunS.callV (caps := []) (xs := [.sl 5 (x0.map cdClause.enc)]) (u := (x0, ())) rfl rfl x_ref03_Valid rfl (wantedA_none rfl) kr kr (Sl.cons (Sm.enc (c := (cdL 5 cdClause)) (v := x0)) Sl.nil) (.inl kr) hv481 ?_
  exact RunS.done rfl (Wk.sel2 [0, 1, 2, 3] kr kr kr ⟨⟨_, rfl, bu_c kr kr⟩, ⟨_, rfl, bu_c kr kr⟩, ⟨_, rfl, bu_c kr kr⟩, ⟨_, rfl, bu_c kr kr⟩, trivial⟩ ⟨lu kr kr, lu kr kr, lu kr kr, lu kr kr, lu kr kr, lu kr kr, lu kr kr, lu kr kr, lu kr kr, lu kr kr, lu kr kr, trivial⟩)
 obtain ⟨r486, hr486, h⟩ := Option.bind_eq_some_iff.1 h
 refine Sem.cut (law03_compares_j1_ok x0 x1 x2 x3 x4 v81 v161 v241 v481 _ hr486) ?_
 refine Sem.seq ?_
 obtain ⟨v487, hv487, h⟩ := Option.bind_eq_some_iff.1 h
 let p24 : Nat × AV := (15, .v (.int .i64 r486.2))
 refine Sem.runS (s1 := ⟨Fr 77 [p3, p2, p1, p7, p6, p12, p11, p10, (14, .v (.int .i64 r486.1)), p24, (16, .v (.int .i64 v487.1)), (17, .v (.int .i64 v487.2))], [p5, p4, p9, p8]⟩) ?_ ?_
 ·refine RunS.segF (n := 77) E0_ok 5 [p3, p2, p1, p7, p6, p12, p11, p10, (14, .v (.int .i64 r486.1)), p24, (36, .sl 5 (v81.map cdClause.enc)), (37, cdGuest.enc v161), (38, cdGuest.enc v241), (39, .v (.int .i64 x3)), (40, .v (.int .i64 x4))] [p5, p4, p9, p8] kr ?_
  refine RunS.callV (caps := []) (xs := [.sl 5 (v81.map cdClause.enc), cdGuest.enc v161, cdGuest.enc v241, .v (.int .i64 x3), .v (.int .i64 x4)]) (u := (v81, v161, v241, x3, x4, ())) rfl rfl x_court_Reason rfl (wantedA_none rfl) kr kr (Sl.cons (Sm.enc (c := (cdL 5 cdClause)) (v := v81)) (Sl.cons (Sm.enc (c := cdGuest) (v := v161)) (Sl.cons (Sm.enc (c := cdGuest) (v := v241)) (Sl.cons (Sm.enc (c := cdI) (v := x3)) (Sl.cons (Sm.enc (c := cdI) (v := x4)) Sl.nil))))) (.inl kr) hv487 ?_
  exact RunS.last E0_ok
 refine Sem.seq ?_
 obtain ⟨j493, hj493, h⟩ := Option.bind_eq_some_iff.1 h
 refine Sem.runS (s1 := ⟨Fr 77 [(10, .v (.bool j493))], []⟩) ?_ ?_
 ·refine RunS.segF (n := 77) E0_ok 4 [p3, p2, p1, p7, p6, p12, p11, p10, p24, (17, .v (.int .i64 v487.2)), (47, .v (.bool (v487.1 == r486.1)))] [p5, p4, p9, p8] kr ?_
  rcases Bool.eq_false_or_eq_true (v487.1 == r486.1) with hc494 | hc494
  ·rw [if_pos hc494] at hj493
   rw [hc494]
   refine RunS.segF (n := 77) E0_ok 5 [p3, p2, p1, p7, p6, p12, p11, p10, p24, (52, .v (.bool (v487.2 == r486.2)))] [p5, p4, p9, p8] kr ?_
   rcases Bool.eq_false_or_eq_true (v487.2 == r486.2) with hc495 | hc495
   ·rw [if_pos hc495] at hj493
    rw [hc495]
    refine RunS.segF (n := 77) E0_ok 5 [p3, p7, p6, p12, p11, p10, p24, (52, .v (.bool true)), (53, .sl 5 (v81.map cdClause.enc)), (54, cdGuest.enc v161), (55, cdGuest.enc v241), (56, .v (.int .i64 x3)), (57, .v (.int .i64 x4))] [p5, p4, p9, p8] kr ?_
    obtain ⟨v488, hv488, hj493⟩ := Option.bind_eq_some_iff.1 hj493
    refine RunS.callV (caps := []) (xs := [.sl 5 (v81.map cdClause.enc), cdGuest.enc v161, cdGuest.enc v241, .v (.int .i64 x3), .v (.int .i64 x4)]) (u := (v81, v161, v241, x3, x4, ())) rfl rfl x_court_Compare rfl kr kr kr (Sl.cons (Sm.enc (c := (cdL 5 cdClause)) (v := v81)) (Sl.cons (Sm.enc (c := cdGuest) (v := v161)) (Sl.cons (Sm.enc (c := cdGuest) (v := v241)) (Sl.cons (Sm.enc (c := cdI) (v := x3)) (Sl.cons (Sm.enc (c := cdI) (v := x4)) Sl.nil))))) (.inl kr) hv488 ?_
    refine RunS.segF (n := 77) E0_ok 4 [p3, p7, p6, p12, p11, p10, (62, .v (.bool (v488 == r486.2)))] [p5, p4, p9, p8] kr ?_
    rcases Bool.eq_false_or_eq_true (v488 == r486.2) with hc496 | hc496
    ·rw [if_pos hc496] at hj493
     rw [hc496]
     refine RunS.segF (n := 77) E0_ok 2 [p7, p6, p11, p10, (62, .v (.bool true)), (63, .sl 5 (v81.map cdClause.enc)), (64, .sl 5 (x0.map cdClause.enc))] [p5, p4, p9, p8] kr ?_
     obtain ⟨v489, hv489, hj493⟩ := Option.bind_eq_some_iff.1 hj493
     refine RunS.callV (caps := []) (xs := [.sl 5 (v81.map cdClause.enc), .sl 5 (x0.map cdClause.enc)]) (u := (v81, x0, ())) rfl rfl x_law03_Same rfl kr kr kr (Sl.cons (Sm.enc (c := (cdL 5 cdClause)) (v := v81)) (Sl.cons (Sm.enc (c := (cdL 5 cdClause)) (v := x0)) Sl.nil)) (.inl kr) hv489 ?_
     refine RunS.segF (n := 77) E0_ok 2 [p7, p6, p11, p10, (67, .v (.bool v489))] [p5, p4, p9, p8] kr ?_
     rcases Bool.eq_false_or_eq_true v489 with hc497 | hc497
     ·rw [if_pos hc497] at hj493
      rw [hc497]
      refine RunS.segF (n := 77) E0_ok 2 [p6, p10, (67, .v (.bool true)), (68, cdGuest.enc v161), (69, cdGuest.enc x1)] [p5, p4, p9, p8] kr ?_
      obtain ⟨v490, hv490, hj493⟩ := Option.bind_eq_some_iff.1 hj493
      refine RunS.callV (caps := []) (xs := [cdGuest.enc v161, cdGuest.enc x1]) (u := (v161, x1, ())) rfl rfl x_kit_SameGuest rfl kr kr kr (Sl.cons (Sm.enc (c := cdGuest) (v := v161)) (Sl.cons (Sm.enc (c := cdGuest) (v := x1)) Sl.nil)) (.inl kr) hv490 ?_
      refine RunS.segF (n := 77) E0_ok 2 [p6, p10, (72, .v (.bool v490))] [p5, p4, p9, p8] kr ?_
      rcases Bool.eq_false_or_eq_true v490 with hc498 | hc498
      ·rw [if_pos hc498] at hj493
       rw [hc498]
       refine RunS.segF (n := 77) E0_ok 2 [(72, .v (.bool true)), (73, cdGuest.enc v241), (74, cdGuest.enc x2)] [p5, p4, p9, p8] kr ?_
       obtain ⟨v491, hv491, hj493⟩ := Option.bind_eq_some_iff.1 hj493
       refine RunS.callV (caps := []) (xs := [cdGuest.enc v241, cdGuest.enc x2]) (u := (v241, x2, ())) rfl rfl x_kit_SameGuest rfl kr kr kr (Sl.cons (Sm.enc (c := cdGuest) (v := v241)) (Sl.cons (Sm.enc (c := cdGuest) (v := x2)) Sl.nil)) (.inl kr) hv491 ?_
       refine RunS.segF (n := 77) E0_ok 2 [(10, .v (.bool v491))] [p5, p4, p9, p8] kr ?_
       have hq := Option.some.inj hj493; subst hq
       exact RunS.done rfl (Wk.sel2 [] kr kr kr trivial ⟨lu kr kr, trivial⟩)
      ·rw [if_f hc498] at hj493
       rw [hc498]
       refine RunS.segF (n := 77) E0_ok 5 [(10, .v (.bool false))] [p5, p4, p9, p8] kr ?_
       have hq := Option.some.inj hj493; subst hq
       exact RunS.done rfl (Wk.sel2 [] kr kr kr trivial ⟨lu kr kr, trivial⟩)
     ·rw [if_f hc497] at hj493
      rw [hc497]
      refine RunS.segF (n := 77) E0_ok 10 [(10, .v (.bool false))] [p5, p4, p9, p8] kr ?_
      have hq := Option.some.inj hj493; subst hq
      exact RunS.done rfl (Wk.sel2 [] kr kr kr trivial ⟨lu kr kr, trivial⟩)
    ·rw [if_f hc496] at hj493
     rw [hc496]
     refine RunS.segF (n := 77) E0_ok 15 [(10, .v (.bool false))] [p5, p4, p9, p8] kr ?_
     have hq := Option.some.inj hj493; subst hq
     exact RunS.done rfl (Wk.sel2 [] kr kr kr trivial ⟨lu kr kr, trivial⟩)
   ·rw [if_f hc495] at hj493
    rw [hc495]
    refine RunS.segF (n := 77) E0_ok 25 [(10, .v (.bool false))] [p5, p4, p9, p8] kr ?_
    have hq := Option.some.inj hj493; subst hq
    exact RunS.done rfl (Wk.sel2 [] kr kr kr trivial ⟨lu kr kr, trivial⟩)
  ·rw [if_f hc494] at hj493
   rw [hc494]
   refine RunS.segF (n := 77) E0_ok 30 [(10, .v (.bool false))] [p5, p4, p9, p8] kr ?_
   have hq := Option.some.inj hj493; subst hq
   exact RunS.done rfl (Wk.sel2 [] kr kr kr trivial ⟨lu kr kr, trivial⟩)
 refine Sem.ret ?_
 have hq := Option.some.inj h; subst hq
 exact ⟨⟨Fr 77 [(10, .v (.bool j493))], []⟩, (Wk.fr kr), .inr rfl, [.v (.bool j493)], kr, kr⟩
def t_law03_compares : List AV → Option AV := told cs_law03_compares (fun a => law03_compares a.1 a.2.1 a.2.2.1 a.2.2.2.1 a.2.2.2.2.1) er_law03_compares
theorem x_law03_compares : XOk 31 t_law03_compares := by
 refine xok_of_sem Tryz.func31 (c := cb_law03_compares) ?h2 ⟨Tryz.call31⟩ cs_law03_compares (fun a => law03_compares a.1 a.2.1 a.2.2.1 a.2.2.2.1 a.2.2.2.2.1) er_law03_compares (fun a => (by show 5 ≤ 77; decide)) ?h3 ?h4
 case h2 => kernel_rfl
 case h3 => intro b; kernel_rfl
 case h4 => exact fun a b h => law03_compares_sem a.1 a.2.1 a.2.2.1 a.2.2.2.1 a.2.2.2.2.1 b h
/- trestle/trestlelaw03.CourtCompares -/
noncomputable def cb_law03_CourtCompares : Code := codeOf Tryz.f9
def law03_CourtCompares (x0 : (List Clause)) (x1 : Guest) (x2 : Guest) (x3 : Int) (x4 : Int) : Option (Bool) :=
 (law03_Few x0).bind fun v1 =>
 (if (!v1) = true then law03_awake.bind fun v2 =>
 some v2 else (law03_FewGuests [x1, x2] 2).bind fun v3 =>
 if (!v3) = true then law03_awake.bind fun v4 =>
 some v4 else (law03_compares x0 x1 x2 x3 x4).bind fun v5 =>
 if v5 = true then law03_awake.bind fun v6 =>
 some v6 else some false).bind fun j8 =>
 some j8
def cs_law03_CourtCompares : Cs ((List Clause) × Guest × Guest × Int × Int × Unit) := (csC (cdL 5 cdClause) (csC cdGuest (csC cdGuest (csC cdI (csC cdI csN)))))
def er_law03_CourtCompares (r : Bool) : AV := cdB.enc r
theorem law03_CourtCompares_sem (x0 : (List Clause)) (x1 : Guest) (x2 : Guest) (x3 : Int) (x4 : Int) (r : Bool) (h : law03_CourtCompares x0 x1 x2 x3 x4 = some r) : Sem E0 ⟨none, false⟩ cb_law03_CourtCompares ⟨Fr 32 (pairs0 0 (cs_law03_CourtCompares.enc (x0, x1, x2, x3, x4, ()))), []⟩ fun e s' => (e = .normal ∨ e = .ret) ∧ ∃ xs, resA E0.P s'.fr s'.hp Tryz.f9.results.toList = some xs ∧ retA xs = er_law03_CourtCompares r := by
 unfold law03_CourtCompares at h
 let p1 : Nat × AV := (4, .v (.int .i64 x4))
 let p2 : Nat × AV := (3, .v (.int .i64 x3))
 let p3 : Nat × AV := (0, .sl 5 (x0.map cdClause.enc))
 refine Sem.wkQ (Sem.wk (s1 := ⟨Fr 32 [p3, (1, cdGuest.enc x1), (2, cdGuest.enc x2), p2, p1], []⟩) (Wk.fr kr) ?_)
 let p4 : Option Blk := some ⟨9, 44, [cdGuest.enc x2], false⟩
 let p5 : Option Blk := some ⟨9, 44, [cdGuest.enc x1], false⟩
 let p6 : Nat × AV := (7, .pt 1 0 0)
 let p7 : Nat × AV := (6, .pt 0 0 0)
 refine Sem.sq E0_ok [p3, p2, p1, p7, p6] [p5, p4] ?_
 refine Sem.seq ?_
 obtain ⟨v1, hv1, h⟩ := Option.bind_eq_some_iff.1 h
 obtain ⟨j8, hj8, h⟩ := Option.bind_eq_some_iff.1 h
 refine Sem.runS (s1 := ⟨Fr 32 [(10, .v (.bool j8))], []⟩) ?_ ?_
 ·refine RunS.segF (n := 32) E0_ok 1 [p3, p2, p1, p7, p6, (11, .sl 5 (x0.map cdClause.enc))] [p5, p4] kr ?_
  refine RunS.callV (caps := []) (xs := [.sl 5 (x0.map cdClause.enc)]) (u := (x0, ())) rfl rfl x_law03_Few rfl (wantedA_none rfl) kr kr (Sl.cons (Sm.enc (c := (cdL 5 cdClause)) (v := x0)) Sl.nil) (.inl kr) hv1 ?_
  refine RunS.segF (n := 32) E0_ok 2 [p3, p2, p1, p7, p6, (14, .v (.bool (!v1)))] [p5, p4] kr ?_
  rcases Bool.eq_false_or_eq_true (!v1) with hc9 | hc9
  ·rw [if_pos hc9] at hj8
   rw [hc9]
   refine RunS.segF (n := 32) E0_ok 15 [(29, .v (.bool true))] [p5, p4] kr ?_
   obtain ⟨v2, hv2, hj8⟩ := Option.bind_eq_some_iff.1 hj8
   refine RunS.callV (caps := []) (xs := []) (u := (())) rfl rfl x_law03_awake rfl kr kr kr Sl.nil (.inl kr) hv2 ?_
   refine RunS.segF (n := 32) E0_ok 2 [(10, .v (.bool v2))] [p5, p4] kr ?_
   have hq := Option.some.inj hj8; subst hq
   exact RunS.done rfl (Wk.sel2 [] kr kr kr trivial ⟨lu kr kr, trivial⟩)
  ·rw [if_f hc9] at hj8
   rw [hc9]
   let p8 : Option Blk := mk 9 44 ([x1, x2].map cdGuest.enc)
   refine RunS.segF (n := 32) E0_ok 3 [p3, p2, p1, p7, p6, (14, .v (.bool false)), (17, hd 2 ([x1, x2].map cdGuest.enc))] [p5, p4, p8] kr ?_
   obtain ⟨v3, hv3, hj8⟩ := Option.bind_eq_some_iff.1 hj8
   refine RunS.callV (caps := []) (xs := [hd 2 ([x1, x2].map cdGuest.enc), .v (.int .i64 2)]) (u := ([x1, x2], 2, ())) rfl rfl x_law03_FewGuests rfl kr kr kr (Sl.cons (Sm.hd (c := cdGuest) (xs := [x1, x2]) (t := 44) kr) (Sl.cons (Sm.enc (c := cdI) (v := 2)) Sl.nil)) (.inl kr) hv3 ?_
   refine RunS.segF (n := 32) E0_ok 3 [p3, p2, p1, p7, p6, (21, .v (.bool (!v3)))] [p5, p4, p8] kr ?_
   rcases Bool.eq_false_or_eq_true (!v3) with hc10 | hc10
   ·rw [if_pos hc10] at hj8
    rw [hc10]
    refine RunS.segF (n := 32) E0_ok 8 [(29, .v (.bool true))] [p5, p4, p8] kr ?_
    obtain ⟨v4, hv4, hj8⟩ := Option.bind_eq_some_iff.1 hj8
    refine RunS.callV (caps := []) (xs := []) (u := (())) rfl rfl x_law03_awake rfl kr kr kr Sl.nil (.inl kr) hv4 ?_
    refine RunS.segF (n := 32) E0_ok 2 [(10, .v (.bool v4))] [p5, p4, p8] kr ?_
    have hq := Option.some.inj hj8; subst hq
    exact RunS.done rfl (Wk.sel2 [] kr kr kr trivial ⟨lu kr kr, trivial⟩)
   ·rw [if_f hc10] at hj8
    rw [hc10]
    refine RunS.segF (n := 32) E0_ok 5 [(21, .v (.bool false)), (22, .sl 5 (x0.map cdClause.enc)), (23, cdGuest.enc x1), (24, cdGuest.enc x2), (25, .v (.int .i64 x3)), (26, .v (.int .i64 x4))] [p5, p4, p8] kr ?_
    obtain ⟨v5, hv5, hj8⟩ := Option.bind_eq_some_iff.1 hj8
    refine RunS.callV (caps := []) (xs := [.sl 5 (x0.map cdClause.enc), cdGuest.enc x1, cdGuest.enc x2, .v (.int .i64 x3), .v (.int .i64 x4)]) (u := (x0, x1, x2, x3, x4, ())) rfl rfl x_law03_compares rfl kr kr kr (Sl.cons (Sm.enc (c := (cdL 5 cdClause)) (v := x0)) (Sl.cons (Sm.enc (c := cdGuest) (v := x1)) (Sl.cons (Sm.enc (c := cdGuest) (v := x2)) (Sl.cons (Sm.enc (c := cdI) (v := x3)) (Sl.cons (Sm.enc (c := cdI) (v := x4)) Sl.nil))))) (.inl kr) hv5 ?_
    refine RunS.segF (n := 32) E0_ok 2 [(29, .v (.bool v5))] [p5, p4, p8] kr ?_
    rcases Bool.eq_false_or_eq_true v5 with hc11 | hc11
    ·rw [if_pos hc11] at hj8
     rw [hc11]
     obtain ⟨v6, hv6, hj8⟩ := Option.bind_eq_some_iff.1 hj8
     refine RunS.callV (caps := []) (xs := []) (u := (())) rfl rfl x_law03_awake rfl kr kr kr Sl.nil (.inl kr) hv6 ?_
     refine RunS.segF (n := 32) E0_ok 2 [(10, .v (.bool v6))] [p5, p4, p8] kr ?_
     have hq := Option.some.inj hj8; subst hq
     exact RunS.done rfl (Wk.sel2 [] kr kr kr trivial ⟨lu kr kr, trivial⟩)
    ·rw [if_f hc11] at hj8
     rw [hc11]
     refine RunS.segF (n := 32) E0_ok 3 [(10, .v (.bool false))] [p5, p4, p8] kr ?_
     have hq := Option.some.inj hj8; subst hq
     exact RunS.done rfl (Wk.sel2 [] kr kr kr trivial ⟨lu kr kr, trivial⟩)
 refine Sem.ret ?_
 have hq := Option.some.inj h; subst hq
 exact ⟨⟨Fr 32 [(10, .v (.bool j8))], []⟩, (Wk.fr kr), .inr rfl, [.v (.bool j8)], kr, kr⟩
def t_law03_CourtCompares : List AV → Option AV := told cs_law03_CourtCompares (fun a => law03_CourtCompares a.1 a.2.1 a.2.2.1 a.2.2.2.1 a.2.2.2.2.1) er_law03_CourtCompares
theorem x_law03_CourtCompares : XOk 9 t_law03_CourtCompares := by
 refine xok_of_sem Tryz.func9 (c := cb_law03_CourtCompares) ?h2 ⟨Tryz.call9⟩ cs_law03_CourtCompares (fun a => law03_CourtCompares a.1 a.2.1 a.2.2.1 a.2.2.2.1 a.2.2.2.2.1) er_law03_CourtCompares (fun a => (by show 5 ≤ 32; decide)) ?h3 ?h4
 case h2 => kernel_rfl
 case h3 => intro b; kernel_rfl
 case h4 => exact fun a b h => law03_CourtCompares_sem a.1 a.2.1 a.2.2.1 a.2.2.2.1 a.2.2.2.2.1 b h
theorem wr_i {n : Int} (h1 : -9223372036854775808 ≤ n) (h2 : n ≤ 9223372036854775807) : wr .i64 n = n := by
 show (if _ then n else _) = n
 rw [if_pos ⟨h1, h2⟩]
theorem idx_app {α : Type} (pre : List α) (v : α) (r : List α) : idx (pre ++ v :: r) (pre.length : Int) = some v := by
 unfold idx
 rw [if_pos (by omega)]
 simp
theorem wr_snoc {α : Type} (pre : List α) (v : α) (r : List α) (h : (pre ++ v :: r).length ≤ 1000000000) : wr .i64 ((pre.length : Int) + 1) = ((pre ++ [v]).length : Int) := by
 simp at h
 rw [wr_i (by omega) (by omega)]; simp
theorem lt_len {α : Type} (pre : List α) (v : α) (r : List α) : decide ((pre.length : Int) < ((pre ++ v :: r).length : Int)) = true := by
 simp; omega
theorem nlt_len {α : Type} (pre : List α) : decide ((pre.length : Int) < ((pre ++ []).length : Int)) = false := by simp
theorem capOk_le {b n : Nat} (hb : b ≤ 1000) (h : n ≤ 1000000000) : capOk b n = true := by
 have h1 : n * b ≤ 1000000000 * 1000 := Nat.mul_le_mul h hb
 unfold capOk
 rw [Bool.and_eq_true]
 exact ⟨Nat.ble_eq_true_of_le (by omega), Nat.ble_eq_true_of_le (by omega)⟩
/-- A loop over a list: v, its index, the rest. -/
def goU {α ρ : Type} (B : α → Nat → Option ρ → Option ρ) (D : Option ρ) : List α → Nat → Option ρ
 | [], _ => D
 | v :: r, i => B v i (goU B D r (i + 1))
theorem loopV {α ρ : Type} (xs : List α) (L : Nat → Int → Option ρ) (B : α → Nat → Option ρ → Option ρ) (D : Option ρ)
  (hs : ∀ f (pre : List α) v r, xs = pre ++ v :: r → L (f + 1) (pre.length : Int) = B v pre.length (L f (((pre ++ [v]).length : Nat) : Int))) (hd : ∀ f, L (f + 1) (xs.length : Int) = D) :
  ∀ (r pre : List α) (f : Nat), xs = pre ++ r → r.length < f → L f (pre.length : Int) = goU B D r pre.length
 | [], pre, f + 1, hx, _ => by
  rw [show pre.length = xs.length by rw [hx]; simp]
  exact hd f
 | v :: r, pre, f + 1, hx, hf => by
  rw [hs f pre v r hx]
  have := loopV xs L B D hs hd r (pre ++ [v]) f (by rw [hx]; simp) (by simp at hf; omega)
  rw [this]
  show B v pre.length _ = B v pre.length _
  congr 1
  simp
theorem loopV0 {α ρ : Type} (xs : List α) (L : Nat → Int → Option ρ) (B : α → Nat → Option ρ → Option ρ) (D : Option ρ) (f : Nat) (hf : xs.length < f)
  (hs : ∀ f (pre : List α) v r, xs = pre ++ v :: r → L (f + 1) (pre.length : Int) = B v pre.length (L f (((pre ++ [v]).length : Nat) : Int))) (hd : ∀ f, L (f + 1) (xs.length : Int) = D) : L f 0 = goU B D xs 0 :=
 loopV xs L B D hs hd xs [] f rfl hf
/-- .. as it is printed. -/
theorem loopU {α ρ : Type} (xs : List α) (L : Nat → Int → Option ρ) (B : α → Nat → Option ρ → Option ρ) (D : Option ρ) (f : Nat) (hf : xs.length < f) (hx : xs.length ≤ 1000000)
  (h : ∀ f c, L (f + 1) c = if decide (c < (xs.length : Int)) = true then (idx xs c).bind fun v => B v c.toNat (L f (wr .i64 (c + 1))) else D) : L f 0 = goU B D xs 0 :=
 loopV0 xs L B D f hf (fun f pre v r e => by
  subst e
  rw [h, if_pos (lt_len pre v r), idx_app, Option.bind_some, wr_snoc pre v r (by omega), Int.toNat_natCast]) (fun f => by rw [h, if_neg (by simp)])
/-- The first that meets a test. -/
theorem goU_any {α : Type} (P : α → Option Bool) (p : α → Bool) : ∀ (xs : List α) (i : Nat), (∀ x ∈ xs, P x = some (p x)) → ∃ r : Unit ⊕ Int, goU (fun v i k => (P v).bind fun b => if b = true then some (.inr (i : Int)) else k) (some (.inl ())) xs i = some r ∧ (match r with | .inl _ => xs.any p = false | .inr n => xs.any p = true ∧ 0 ≤ n)
 | [], i, _ => ⟨.inl (), rfl, rfl⟩
 | x :: xs, i, h => by
  unfold goU
  rw [h x (by simp), Option.bind_some]
  cases hp : p x with
  | true => exact ⟨.inr i, by simp, by simp [hp]⟩
  | false =>
   obtain ⟨r, h1, h2⟩ := goU_any P p xs (i + 1) fun y hy => h y (List.mem_cons_of_mem _ hy)
   refine ⟨r, by simpa using h1, ?_⟩
   cases r with
   | inl u => simpa [hp] using h2
   | inr n => simpa [hp] using h2
/-- slices.IndexFunc and slices.ContainsFunc. -/
theorem any_of {α : Type} (xs : List α) (hx : xs.length ≤ 99999) (P : α → Option Bool) (p : α → Bool) (hP : ∀ x ∈ xs, P x = some (p x)) (L : Nat → Int → Option (Unit ⊕ Int))
  (h : ∀ f c, L (f + 1) c = if decide (c < (xs.length : Int)) = true then (idx xs c).bind fun v => (P v).bind fun b => if b = true then some (.inr c) else L f (wr .i64 (c + 1)) else some (.inl ())) :
  ∃ n, ((L 100000 0).bind fun r => match r with | .inl _ => some (-1) | .inr w => some w) = some n ∧ decide (n ≥ 0) = xs.any p := by
 have e := loopV0 xs L (fun v i k => (P v).bind fun b => if b = true then some (.inr (i : Int)) else k) (some (.inl ())) 100000 (by omega) (fun f pre v r e => by
  subst e
  rw [h, if_pos (lt_len pre v r), idx_app, Option.bind_some, wr_snoc pre v r (by omega)]) (fun f => by rw [h, if_neg (by simp)])
 obtain ⟨r, h1, h2⟩ := goU_any P p xs 0 hP
 rw [e, h1]
 cases r with
 | inl u => exact ⟨-1, rfl, by rw [h2]; rfl⟩
 | inr n => exact ⟨n, rfl, by rw [h2.1]; simpa using h2.2⟩
/-- Two lists side by side. -/
def go2 {α β ρ : Type} (B : α → β → Option ρ → Option ρ) (D : Option ρ) : List α → List β → Option ρ
 | v :: r, u :: q => B v u (go2 B D r q)
 | _, _ => D
theorem loop2 {α β ρ : Type} (L : Nat → Int → Option ρ) (B : α → β → Option ρ → Option ρ) (D : Option ρ) (xs : List α) (ys : List β) (hl : xs.length = ys.length) (hx : xs.length ≤ 1000000)
  (h : ∀ f c, L (f + 1) c = if decide (c < (xs.length : Int)) = true then (idx xs c).bind fun v => (idx ys c).bind fun u => B v u (L f (wr .i64 (c + 1))) else D) :
  ∀ (r : List α) (q : List β) (pre : List α) (pre' : List β) (f : Nat), xs = pre ++ r → ys = pre' ++ q → pre.length = pre'.length → r.length < f → L f (pre.length : Int) = go2 B D r q
 | [], q, pre, pre', f + 1, e1, e2, e3, _ => by
  have : q = [] := by
   have : xs.length = pre.length := by rw [e1]; simp
   have h2 : ys.length = pre'.length + q.length := by rw [e2]; simp
   exact List.eq_nil_of_length_eq_zero (by omega)
  subst this
  subst e1
  rw [h, nlt_len]
  rfl
 | v :: r, [], pre, pre', f + 1, e1, e2, e3, _ => by
  exfalso
  have h1 : xs.length = pre.length + (r.length + 1) := by rw [e1]; simp
  have h2 : ys.length = pre'.length := by rw [e2]; simp
  omega
 | v :: r, u :: q, pre, pre', f + 1, e1, e2, e3, hf => by
  have ih := loop2 L B D xs ys hl hx h r q (pre ++ [v]) (pre' ++ [u]) f (by rw [e1]; simp) (by rw [e2]; simp) (by simp [e3]) (by simp at hf; omega)
  have k1 : idx xs (pre.length : Int) = some v := by rw [e1, idx_app]
  have k2 : idx ys (pre.length : Int) = some u := by rw [e2, e3, idx_app]
  have k3 : decide ((pre.length : Int) < (xs.length : Int)) = true := by rw [e1]; exact lt_len pre v r
  have k4 : wr .i64 ((pre.length : Int) + 1) = ((pre ++ [v]).length : Int) := wr_snoc pre v r (by rw [← e1]; omega)
  rw [h, if_pos k3, k1, Option.bind_some, k2, Option.bind_some, k4, ih]
  rfl
theorem go2_all {α β : Type} (P : α → β → Option Bool) (p : α → β → Bool) : ∀ (xs : List α) (ys : List β), (∀ x ∈ xs, ∀ y ∈ ys, P x y = some (p x y)) → xs.length = ys.length →
  go2 (fun v u k => (P v u).bind fun b => if (!b) = true then some (Sum.inr false) else k) (some (Sum.inl ())) xs ys = some (if (xs.zip ys).all (fun x => p x.1 x.2) then Sum.inl () else Sum.inr false)
 | [], [], _, _ => rfl
 | x :: xs, y :: ys, h, hl => by
  unfold go2
  rw [h x (by simp) y (by simp), Option.bind_some, go2_all P p xs ys (fun a ha b hb => h a (List.mem_cons_of_mem _ ha) b (List.mem_cons_of_mem _ hb)) (by simpa using hl)]
  rw [List.zip_cons_cons, List.all_cons]
  show (if (!p x y) = true then _ else _) = some (if (p x y && _) = true then _ else _)
  cases p x y <;> rfl
 | [], _ :: _, _, hl => by simp at hl
 | _ :: _, [], _, hl => by simp at hl
/-- slices.EqualFunc. -/
theorem all2_of {α β : Type} (xs : List α) (ys : List β) (hx : xs.length ≤ 99999) (P : α → β → Option Bool) (p : α → β → Bool) (hP : ∀ x ∈ xs, ∀ y ∈ ys, P x y = some (p x y)) (L : Nat → Int → Option (Unit ⊕ Bool))
  (h : ∀ f c, L (f + 1) c = if decide (c < (xs.length : Int)) = true then (idx xs c).bind fun v => (idx ys c).bind fun u => (P v u).bind fun b => if (!b) = true then some (.inr false) else L f (wr .i64 (c + 1)) else some (.inl ())) :
  (if ((xs.length : Int) != (ys.length : Int)) = true then some false else (L 100000 0).bind fun r => match r with | .inl _ => some true | .inr w => some w) = some (decide (xs.length = ys.length) && (xs.zip ys).all fun x => p x.1 x.2) := by
 by_cases hl : xs.length = ys.length
 ·rw [if_neg (by simp [hl])]
  have e := loop2 L (fun v u k => (P v u).bind fun b => if (!b) = true then some (Sum.inr false) else k) (some (Sum.inl ())) xs ys hl (by omega) h xs ys [] [] 100000 rfl rfl rfl (by omega)
  have e0 : L 100000 (([] : List α).length : Int) = L 100000 0 := rfl
  rw [← e0, e, go2_all P p xs ys hP hl]
  cases hq : (xs.zip ys).all (fun x => p x.1 x.2) <;> simp [hl]
 ·rw [if_pos (by simp; omega)]
  simp [hl]
theorem zip_all_eq {α : Type} [DecidableEq α] {p : α → α → Bool} (hp : ∀ a b, p a b = decide (a = b)) : ∀ (xs ys : List α), (decide (xs.length = ys.length) && (xs.zip ys).all fun x => p x.1 x.2) = decide (xs = ys)
 | [], [] => rfl
 | x :: xs, y :: ys => by
  have ih := zip_all_eq hp xs ys
  simp only [List.length_cons, Nat.add_right_cancel_iff, List.zip_cons_cons, List.all_cons, List.cons.injEq, hp]
  simp only [hp] at ih
  by_cases h1 : x = y
  ·subst h1; simpa using ih
  ·simp [h1]
 | [], _ :: _ => by simp
 | _ :: _, [] => by simp
/-- slices.Equal. -/
theorem eq_of {α : Type} [DecidableEq α] [BEq α] [LawfulBEq α] (xs ys : List α) (hx : xs.length ≤ 99999) (L : Nat → Int → Option (Unit ⊕ Bool))
  (h : ∀ f c, L (f + 1) c = if decide (c < (xs.length : Int)) = true then (idx xs c).bind fun v => (idx ys c).bind fun u => if (v != u) = true then some (.inr false) else L f (wr .i64 (c + 1)) else some (.inl ())) :
  (if ((xs.length : Int) != (ys.length : Int)) = true then some false else (L 100000 0).bind fun r => match r with | .inl _ => some true | .inr w => some w) = some (decide (xs = ys)) := by
 rw [all2_of xs ys hx (fun v u => some (v == u)) (fun v u => v == u) (fun _ _ _ _ => rfl) L (fun f c => by rw [h]; rfl), zip_all_eq (fun a b => by by_cases h : a = b <;> simp [h])]
end Go.Proofs.YtiphapnckldpbaaGreatDoor
