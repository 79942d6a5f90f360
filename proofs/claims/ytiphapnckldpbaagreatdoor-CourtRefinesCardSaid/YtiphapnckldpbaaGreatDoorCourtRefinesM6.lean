/- Lemmas for the proof. -/
import Derived.Test.YtiphapnckldpbaaGreatDoorCourtRefinesM1
import Derived.Test.YtiphapnckldpbaaGreatDoorCourtRefinesM2
import Derived.Test.YtiphapnckldpbaaGreatDoorCourtRefinesM3
import Derived.Test.YtiphapnckldpbaaGreatDoorCourtRefinesM4
import Derived.Test.YtiphapnckldpbaaGreatDoorCourtRefinesM5
import Derived.RecoverIn
import Derived.Shelf.Strings.Search1
import Derived.Shelf.Strings.Count
set_option maxHeartbeats 4000000
set_option maxRecDepth 100000
namespace Go.Proofs.YtiphapnckldpbaaGreatDoor
open Go.RowKit
/- trestle/court.orderOf$1 -/
noncomputable def cb_court_orderOf_1__court_by_1__court_named_1__court_plain_6 : Code := codeOf Tryz.f154
def court_orderOf_1__court_by_1__court_named_1__court_plain_6 (x0 : Seated) (x1 : Seated) (x2 : Clause) (x3 : Clause × Clause) : Option (Int) :=
 (if (!(x2.2.1 == [])) = true then if (!(x0.1.2.1 == x2.2.1)) = true then some true else some (!(x1.1.2.1 == x2.2.1)) else some false).bind fun j2 =>
 if j2 = true then
 some 0
 else
 (court_by_1__court_named_1__court_plain_6 x0 x1 x3).bind fun v4 =>
 some v4
def cs_court_orderOf_1__court_by_1__court_named_1__court_plain_6 : Cs (Seated × Seated × Clause × (Clause × Clause) × Unit) := (csC cdSeated (csC cdSeated (csC (cdP cdClause) (csC (cdP (cdF 187 (csE (cdP (cdF 188 (csC (cdP (cdF 173 (csE (cdP cdClause)) (fun _ => rfl))) (csE (cdP cdClause))) (fun _ => rfl)))) (fun _ => rfl))) csN))))
def er_court_orderOf_1__court_by_1__court_named_1__court_plain_6 (r : Int) : AV := cdI.enc r
theorem court_orderOf_1__court_by_1__court_named_1__court_plain_6_sem (x0 : Seated) (x1 : Seated) (x2 : Clause) (x3 : Clause × Clause) (r : Int) (h : court_orderOf_1__court_by_1__court_named_1__court_plain_6 x0 x1 x2 x3 = some r) : Sem E0 ⟨none, false⟩ cb_court_orderOf_1__court_by_1__court_named_1__court_plain_6 ⟨Fr 30 (pairs0 0 (cs_court_orderOf_1__court_by_1__court_named_1__court_plain_6.enc (x0, x1, x2, x3, ()))), []⟩ fun e s' => (e = .normal ∨ e = .ret) ∧ ∃ xs, resA E0.P s'.fr s'.hp Tryz.f154.results.toList = some xs ∧ retA xs = er_court_orderOf_1__court_by_1__court_named_1__court_plain_6 r := by
 unfold court_orderOf_1__court_by_1__court_named_1__court_plain_6 at h
 refine Sem.wkQ (Sem.wk (s1 := ⟨Fr 30 [(0, cdSeated.enc x0), (1, cdSeated.enc x1), (2, .pe (cdClause.enc x2) 0), (3, .pe (.fn 187 [] [.pe (.fn 188 [] [.pe (.fn 173 [] [.pe (cdClause.enc x3.1) 0]) 0, .pe (cdClause.enc x3.2) 0]) 0]) 0)], []⟩) (Wk.fr kr) ?_)
 refine Sem.sq E0_ok [(2, .pe (cdClause.enc x2) 0), (3, .pe (.fn 187 [] [.pe (.fn 188 [] [.pe (.fn 173 [] [.pe (cdClause.enc x3.1) 0]) 0, .pe (cdClause.enc x3.2) 0]) 0]) 0), (4, .pt 0 0 0), (5, .pt 1 0 0)] [some ⟨10, 131, [cdSeated.enc x0], false⟩, some ⟨10, 131, [cdSeated.enc x1], false⟩] ?_
 refine Sem.seq ?_
 refine Sem.seq ?_
 obtain ⟨j2, hj2, h⟩ := Option.bind_eq_some_iff.1 h
 refine Sem.runS (s1 := ⟨Fr 30 [(3, .pe (.fn 187 [] [.pe (.fn 188 [] [.pe (.fn 173 [] [.pe (cdClause.enc x3.1) 0]) 0, .pe (cdClause.enc x3.2) 0]) 0]) 0), (4, .pt 0 0 0), (5, .pt 1 0 0), (25, .v (.bool j2))], [some ⟨10, 131, [cdSeated.enc x0], false⟩, some ⟨10, 131, [cdSeated.enc x1], false⟩]⟩) ?_ ?_
 ·refine RunS.segF (n := 30) E0_ok 4 [(2, .pe (cdClause.enc x2) 0), (3, .pe (.fn 187 [] [.pe (.fn 188 [] [.pe (.fn 173 [] [.pe (cdClause.enc x3.1) 0]) 0, .pe (cdClause.enc x3.2) 0]) 0]) 0), (4, .pt 0 0 0), (5, .pt 1 0 0), (10, .v (.bool (!(x2.2.1 == []))))] [some ⟨10, 131, [cdSeated.enc x0], false⟩, some ⟨10, 131, [cdSeated.enc x1], false⟩] kr ?_
  rcases Bool.eq_false_or_eq_true (!(x2.2.1 == [])) with hc5 | hc5
  ·rw [if_pos hc5] at hj2
   rw [hc5]
   refine RunS.segF (n := 30) E0_ok 7 [(2, .pe (cdClause.enc x2) 0), (3, .pe (.fn 187 [] [.pe (.fn 188 [] [.pe (.fn 173 [] [.pe (cdClause.enc x3.1) 0]) 0, .pe (cdClause.enc x3.2) 0]) 0]) 0), (4, .pt 0 0 0), (5, .pt 1 0 0), (10, .v (.bool true)), (17, .v (.bool (!(x0.1.2.1 == x2.2.1))))] [some ⟨10, 131, [cdSeated.enc x0], false⟩, some ⟨10, 131, [cdSeated.enc x1], false⟩] kr ?_
   rcases Bool.eq_false_or_eq_true (!(x0.1.2.1 == x2.2.1)) with hc6 | hc6
   ·rw [if_pos hc6] at hj2
    rw [hc6]
    refine RunS.segF (n := 30) E0_ok 8 [(3, .pe (.fn 187 [] [.pe (.fn 188 [] [.pe (.fn 173 [] [.pe (cdClause.enc x3.1) 0]) 0, .pe (cdClause.enc x3.2) 0]) 0]) 0), (4, .pt 0 0 0), (5, .pt 1 0 0), (25, .v (.bool true))] [some ⟨10, 131, [cdSeated.enc x0], false⟩, some ⟨10, 131, [cdSeated.enc x1], false⟩] kr ?_
    have hq := Option.some.inj hj2; subst hq
    exact RunS.done rfl (Wk.sel2 [0, 1] kr kr kr ⟨⟨_, rfl, bu_c kr kr⟩, ⟨_, rfl, bu_c kr kr⟩, trivial⟩ ⟨lu kr kr, lu kr kr, lu kr kr, lu kr kr, trivial⟩)
   ·rw [if_f hc6] at hj2
    rw [hc6]
    refine RunS.segF (n := 30) E0_ok 8 [(3, .pe (.fn 187 [] [.pe (.fn 188 [] [.pe (.fn 173 [] [.pe (cdClause.enc x3.1) 0]) 0, .pe (cdClause.enc x3.2) 0]) 0]) 0), (4, .pt 0 0 0), (5, .pt 1 0 0), (25, .v (.bool (!(x1.1.2.1 == x2.2.1))))] [some ⟨10, 131, [cdSeated.enc x0], false⟩, some ⟨10, 131, [cdSeated.enc x1], false⟩] kr ?_
    have hq := Option.some.inj hj2; subst hq
    exact RunS.done rfl (Wk.sel2 [0, 1] kr kr kr ⟨⟨_, rfl, bu_c kr kr⟩, ⟨_, rfl, bu_c kr kr⟩, trivial⟩ ⟨lu kr kr, lu kr kr, lu kr kr, lu kr kr, trivial⟩)
  ·rw [if_f hc5] at hj2
   rw [hc5]
   refine RunS.segF (n := 30) E0_ok 15 [(3, .pe (.fn 187 [] [.pe (.fn 188 [] [.pe (.fn 173 [] [.pe (cdClause.enc x3.1) 0]) 0, .pe (cdClause.enc x3.2) 0]) 0]) 0), (4, .pt 0 0 0), (5, .pt 1 0 0), (25, .v (.bool false))] [some ⟨10, 131, [cdSeated.enc x0], false⟩, some ⟨10, 131, [cdSeated.enc x1], false⟩] kr ?_
   have hq := Option.some.inj hj2; subst hq
   exact RunS.done rfl (Wk.sel2 [0, 1] kr kr kr ⟨⟨_, rfl, bu_c kr kr⟩, ⟨_, rfl, bu_c kr kr⟩, trivial⟩ ⟨lu kr kr, lu kr kr, lu kr kr, lu kr kr, trivial⟩)
 refine Sem.cond (b := j2) kr (fun hb3 => ?_) (fun hb3 => ?_)
 ·rw [if_pos hb3] at h
  refine Sem.seq ?_
  refine Sem.runS (s1 := ⟨Fr 30 [(6, .v (.int .i64 0))], []⟩) ?_ ?_
  ·refine RunS.segF (n := 30) E0_ok 1 [(6, .v (.int .i64 0))] [some ⟨10, 131, [cdSeated.enc x0], false⟩, some ⟨10, 131, [cdSeated.enc x1], false⟩] kr ?_
   exact RunS.done rfl (Wk.sel2 [] kr kr kr trivial ⟨lu kr kr, trivial⟩)
  refine Sem.ret ?_
  have hq := Option.some.inj h; subst hq
  exact ⟨⟨Fr 30 [(6, .v (.int .i64 0))], []⟩, (Wk.fr kr), .inr rfl, [.v (.int .i64 0)], kr, kr⟩
 ·rw [if_f hb3] at h
  refine Sem.skip ?_
  refine Sem.seq ?_
  obtain ⟨v4, hv4, h⟩ := Option.bind_eq_some_iff.1 h
  refine Sem.runS (s1 := ⟨Fr 30 [(6, .v (.int .i64 v4))], []⟩) ?_ ?_
  ·refine RunS.segF (n := 30) E0_ok 3 [(26, .fn 187 [] [.pe (.fn 188 [] [.pe (.fn 173 [] [.pe (cdClause.enc x3.1) 0]) 0, .pe (cdClause.enc x3.2) 0]) 0]), (27, cdSeated.enc x0), (28, cdSeated.enc x1)] [some ⟨10, 131, [cdSeated.enc x0], false⟩, some ⟨10, 131, [cdSeated.enc x1], false⟩] kr ?_
   refine RunS.callV (caps := [.pe (.fn 188 [] [.pe (.fn 173 [] [.pe (cdClause.enc x3.1) 0]) 0, .pe (cdClause.enc x3.2) 0]) 0]) (xs := [cdSeated.enc x0, cdSeated.enc x1]) (u := (x0, x1, x3, ())) rfl rfl x_court_by_1__court_named_1__court_plain_6 rfl (wantedA_none rfl) kr kr (Sl.cons (Sm.enc (c := cdSeated) (v := x0)) (Sl.cons (Sm.enc (c := cdSeated) (v := x1)) (Sl.cons (Sm.enc (c := (cdP (cdF 188 (csC (cdP (cdF 173 (csE (cdP cdClause)) (fun _ => rfl))) (csE (cdP cdClause))) (fun _ => rfl)))) (v := x3)) Sl.nil))) (.inl kr) hv4 ?_
   refine RunS.segF (n := 30) E0_ok 1 [(6, .v (.int .i64 v4))] [some ⟨10, 131, [cdSeated.enc x0], false⟩, some ⟨10, 131, [cdSeated.enc x1], false⟩] kr ?_
   exact RunS.done rfl (Wk.sel2 [] kr kr kr trivial ⟨lu kr kr, trivial⟩)
  refine Sem.ret ?_
  have hq := Option.some.inj h; subst hq
  exact ⟨⟨Fr 30 [(6, .v (.int .i64 v4))], []⟩, (Wk.fr kr), .inr rfl, [.v (.int .i64 v4)], kr, kr⟩
def t_court_orderOf_1__court_by_1__court_named_1__court_plain_6 : List AV → Option AV := told cs_court_orderOf_1__court_by_1__court_named_1__court_plain_6 (fun a => court_orderOf_1__court_by_1__court_named_1__court_plain_6 a.1 a.2.1 a.2.2.1 a.2.2.2.1) er_court_orderOf_1__court_by_1__court_named_1__court_plain_6
theorem x_court_orderOf_1__court_by_1__court_named_1__court_plain_6 : XOk 154 t_court_orderOf_1__court_by_1__court_named_1__court_plain_6 := by
 refine xok_of_sem Tryz.func154 (c := cb_court_orderOf_1__court_by_1__court_named_1__court_plain_6) ?h2 ⟨Tryz.call154⟩ cs_court_orderOf_1__court_by_1__court_named_1__court_plain_6 (fun a => court_orderOf_1__court_by_1__court_named_1__court_plain_6 a.1 a.2.1 a.2.2.1 a.2.2.2.1) er_court_orderOf_1__court_by_1__court_named_1__court_plain_6 (fun a => (by show 4 ≤ 30; decide)) ?h3 ?h4
 case h2 => kernel_rfl
 case h3 => intro b; kernel_rfl
 case h4 => exact fun a b h => court_orderOf_1__court_by_1__court_named_1__court_plain_6_sem a.1 a.2.1 a.2.2.1 a.2.2.2.1 b h
/- trestle/court.placed$1 -/
noncomputable def cb_court_placed_1 : Code := codeOf Tryz.f190
def court_placed_1 (x0 : Int) : Option (Bool) :=
 (if (decide (x0 ≥ 0)) = true then some (decide (x0 ≤ 63)) else some false).bind fun j2 =>
 some j2
def cs_court_placed_1 : Cs (Int × Unit) := (csC cdI csN)
def er_court_placed_1 (r : Bool) : AV := cdB.enc r
theorem court_placed_1_sem (x0 : Int) (r : Bool) (h : court_placed_1 x0 = some r) : Sem E0 ⟨none, false⟩ cb_court_placed_1 ⟨Fr 9 (pairs0 0 (cs_court_placed_1.enc (x0, ()))), []⟩ fun e s' => (e = .normal ∨ e = .ret) ∧ ∃ xs, resA E0.P s'.fr s'.hp Tryz.f190.results.toList = some xs ∧ retA xs = er_court_placed_1 r := by
 unfold court_placed_1 at h
 refine Sem.wkQ (Sem.wk (s1 := ⟨Fr 9 [(0, .v (.int .i64 x0))], []⟩) (Wk.fr kr) ?_)
 refine Sem.sq E0_ok [(0, .v (.int .i64 x0))] [] ?_
 refine Sem.seq ?_
 obtain ⟨j2, hj2, h⟩ := Option.bind_eq_some_iff.1 h
 refine Sem.runS (s1 := ⟨Fr 9 [(2, .v (.bool j2))], []⟩) ?_ ?_
 ·refine RunS.segF (n := 9) E0_ok 3 [(0, .v (.int .i64 x0)), (5, .v (.bool (decide (x0 ≥ 0))))] [] kr ?_
  rcases Bool.eq_false_or_eq_true (decide (x0 ≥ 0)) with hc3 | hc3
  ·rw [if_pos hc3] at hj2
   rw [hc3]
   refine RunS.segF (n := 9) E0_ok 4 [(2, .v (.bool (decide (x0 ≤ 63))))] [] kr ?_
   have hq := Option.some.inj hj2; subst hq
   exact RunS.done rfl (Wk.fr kr)
  ·rw [if_f hc3] at hj2
   rw [hc3]
   refine RunS.segF (n := 9) E0_ok 4 [(2, .v (.bool false))] [] kr ?_
   have hq := Option.some.inj hj2; subst hq
   exact RunS.done rfl (Wk.fr kr)
 refine Sem.ret ?_
 have hq := Option.some.inj h; subst hq
 exact ⟨⟨Fr 9 [(2, .v (.bool j2))], []⟩, (Wk.fr kr), .inr rfl, [.v (.bool j2)], kr, kr⟩
def t_court_placed_1 : List AV → Option AV := told cs_court_placed_1 (fun a => court_placed_1 a.1) er_court_placed_1
theorem x_court_placed_1 : XOk 190 t_court_placed_1 := by
 refine xok_of_sem Tryz.func190 (c := cb_court_placed_1) ?h2 ⟨Tryz.call190⟩ cs_court_placed_1 (fun a => court_placed_1 a.1) er_court_placed_1 (fun a => (by show 1 ≤ 9; decide)) ?h3 ?h4
 case h2 => kernel_rfl
 case h3 => intro b; kernel_rfl
 case h4 => exact fun a b h => court_placed_1_sem a.1 b h
/- trestle/court.plain$8 -/
noncomputable def cb_court_plain_8 : Code := codeOf Tryz.f177
def court_plain_8 (x0 : Int) (x1 : Clause) : Option (Int) :=
 some ((wr .i64 ((wr .i64 (x0 * (wr .i64 ((wr .i64 (2 * x1.2.2.2.2)) + 1)))) + x1.2.2.2.2)).tmod 64)
def cs_court_plain_8 : Cs (Int × Clause × Unit) := (csC cdI (csC (cdP cdClause) csN))
def er_court_plain_8 (r : Int) : AV := cdI.enc r
theorem court_plain_8_sem (x0 : Int) (x1 : Clause) (r : Int) (h : court_plain_8 x0 x1 = some r) : Sem E0 ⟨none, false⟩ cb_court_plain_8 ⟨Fr 14 (pairs0 0 (cs_court_plain_8.enc (x0, x1, ()))), []⟩ fun e s' => (e = .normal ∨ e = .ret) ∧ ∃ xs, resA E0.P s'.fr s'.hp Tryz.f177.results.toList = some xs ∧ retA xs = er_court_plain_8 r := by
 unfold court_plain_8 at h
 refine Sem.wkQ (Sem.wk (s1 := ⟨Fr 14 [(0, .v (.int .i64 x0)), (1, .pe (cdClause.enc x1) 0)], []⟩) (Wk.fr kr) ?_)
 refine Sem.sq E0_ok [(0, .v (.int .i64 x0)), (1, .pe (cdClause.enc x1) 0)] [] ?_
 let p1 : Nat × AV := (3, .v (.int .i64 ((wr .i64 ((wr .i64 (x0 * (wr .i64 ((wr .i64 (2 * x1.2.2.2.2)) + 1)))) + x1.2.2.2.2)).tmod 64)))
 refine Sem.sq E0_ok [p1] [] ?_
 refine Sem.ret ?_
 have hq := Option.some.inj h; subst hq
 exact ⟨⟨Fr 14 [p1], []⟩, (Wk.fr kr), .inr rfl, [.v (.int .i64 ((wr .i64 ((wr .i64 (x0 * (wr .i64 ((wr .i64 (2 * x1.2.2.2.2)) + 1)))) + x1.2.2.2.2)).tmod 64))], kr, kr⟩
def t_court_plain_8 : List AV → Option AV := told cs_court_plain_8 (fun a => court_plain_8 a.1 a.2.1) er_court_plain_8
theorem x_court_plain_8 : XOk 177 t_court_plain_8 := by
 refine xok_of_sem Tryz.func177 (c := cb_court_plain_8) ?h2 ⟨Tryz.call177⟩ cs_court_plain_8 (fun a => court_plain_8 a.1 a.2.1) er_court_plain_8 (fun a => (by show 2 ≤ 14; decide)) ?h3 ?h4
 case h2 => kernel_rfl
 case h3 => intro b; kernel_rfl
 case h4 => exact fun a b h => court_plain_8_sem a.1 a.2.1 b h
/- trestle/court.placed$2 -/
noncomputable def cb_court_placed_2__court_placed_1__court_plain_8 : Code := codeOf Tryz.f191
def court_placed_2__court_placed_1__court_plain_8 (x0 : Seated) (x1 : Seated) (x3 : Clause) : Option (Int) :=
 (court_placed_1 x0.2).bind fun v1 =>
 (if (!v1) = true then some true else (court_placed_1 x1.2).bind fun v2 =>
 some (!v2)).bind fun j4 =>
 if j4 = true then
 some 0
 else
 (court_plain_8 x0.2 x3).bind fun v6 =>
 (court_plain_8 x1.2 x3).bind fun v7 =>
 (cmp_Compare_int v6 v7).bind fun v8 =>
 some v8
def cs_court_placed_2__court_placed_1__court_plain_8 : Cs (Seated × Seated × Unit × Clause × Unit) := (csC cdSeated (csC cdSeated (csC (cdP (cdF 190 csN (fun _ => rfl))) (csC (cdP (cdF 177 (csE (cdP cdClause)) (fun _ => rfl))) csN))))
def er_court_placed_2__court_placed_1__court_plain_8 (r : Int) : AV := cdI.enc r
theorem court_placed_2__court_placed_1__court_plain_8_sem (x0 : Seated) (x1 : Seated) (x3 : Clause) (r : Int) (h : court_placed_2__court_placed_1__court_plain_8 x0 x1 x3 = some r) : Sem E0 ⟨none, false⟩ cb_court_placed_2__court_placed_1__court_plain_8 ⟨Fr 28 (pairs0 0 (cs_court_placed_2__court_placed_1__court_plain_8.enc (x0, x1, (), x3, ()))), []⟩ fun e s' => (e = .normal ∨ e = .ret) ∧ ∃ xs, resA E0.P s'.fr s'.hp Tryz.f191.results.toList = some xs ∧ retA xs = er_court_placed_2__court_placed_1__court_plain_8 r := by
 unfold court_placed_2__court_placed_1__court_plain_8 at h
 refine Sem.wkQ (Sem.wk (s1 := ⟨Fr 28 [(0, cdSeated.enc x0), (1, cdSeated.enc x1), (2, .pe (.fn 190 [] []) 0), (3, .pe (.fn 177 [] [.pe (cdClause.enc x3) 0]) 0)], []⟩) (Wk.fr kr) ?_)
 refine Sem.sq E0_ok [(2, .pe (.fn 190 [] []) 0), (3, .pe (.fn 177 [] [.pe (cdClause.enc x3) 0]) 0), (4, .pt 0 0 0), (5, .pt 1 0 0)] [some ⟨10, 131, [cdSeated.enc x0], false⟩, some ⟨10, 131, [cdSeated.enc x1], false⟩] ?_
 refine Sem.seq ?_
 refine Sem.seq ?_
 obtain ⟨v1, hv1, h⟩ := Option.bind_eq_some_iff.1 h
 obtain ⟨j4, hj4, h⟩ := Option.bind_eq_some_iff.1 h
 refine Sem.runS (s1 := ⟨Fr 28 [(3, .pe (.fn 177 [] [.pe (cdClause.enc x3) 0]) 0), (4, .pt 0 0 0), (5, .pt 1 0 0), (18, .v (.bool j4))], [some ⟨10, 131, [cdSeated.enc x0], false⟩, some ⟨10, 131, [cdSeated.enc x1], false⟩]⟩) ?_ ?_
 ·refine RunS.segF (n := 28) E0_ok 3 [(2, .pe (.fn 190 [] []) 0), (3, .pe (.fn 177 [] [.pe (cdClause.enc x3) 0]) 0), (4, .pt 0 0 0), (5, .pt 1 0 0), (7, .fn 190 [] []), (9, .v (.int .i64 x0.2))] [some ⟨10, 131, [cdSeated.enc x0], false⟩, some ⟨10, 131, [cdSeated.enc x1], false⟩] kr ?_
  refine RunS.callV (caps := []) (xs := [.v (.int .i64 x0.2)]) (u := (x0.2, ())) rfl rfl x_court_placed_1 rfl (wantedA_none rfl) kr kr (Sl.cons (Sm.enc (c := cdI) (v := x0.2)) Sl.nil) (.inl kr) hv1 ?_
  refine RunS.segF (n := 28) E0_ok 2 [(2, .pe (.fn 190 [] []) 0), (3, .pe (.fn 177 [] [.pe (cdClause.enc x3) 0]) 0), (4, .pt 0 0 0), (5, .pt 1 0 0), (12, .v (.bool (!v1)))] [some ⟨10, 131, [cdSeated.enc x0], false⟩, some ⟨10, 131, [cdSeated.enc x1], false⟩] kr ?_
  rcases Bool.eq_false_or_eq_true (!v1) with hc9 | hc9
  ·rw [if_pos hc9] at hj4
   rw [hc9]
   refine RunS.segF (n := 28) E0_ok 6 [(3, .pe (.fn 177 [] [.pe (cdClause.enc x3) 0]) 0), (4, .pt 0 0 0), (5, .pt 1 0 0), (18, .v (.bool true))] [some ⟨10, 131, [cdSeated.enc x0], false⟩, some ⟨10, 131, [cdSeated.enc x1], false⟩] kr ?_
   have hq := Option.some.inj hj4; subst hq
   exact RunS.done rfl (Wk.sel2 [0, 1] kr kr kr ⟨⟨_, rfl, bu_c kr kr⟩, ⟨_, rfl, bu_c kr kr⟩, trivial⟩ ⟨lu kr kr, lu kr kr, lu kr kr, lu kr kr, trivial⟩)
  ·rw [if_f hc9] at hj4
   rw [hc9]
   refine RunS.segF (n := 28) E0_ok 3 [(3, .pe (.fn 177 [] [.pe (cdClause.enc x3) 0]) 0), (4, .pt 0 0 0), (5, .pt 1 0 0), (12, .v (.bool false)), (13, .fn 190 [] []), (15, .v (.int .i64 x1.2))] [some ⟨10, 131, [cdSeated.enc x0], false⟩, some ⟨10, 131, [cdSeated.enc x1], false⟩] kr ?_
   obtain ⟨v2, hv2, hj4⟩ := Option.bind_eq_some_iff.1 hj4
   refine RunS.callV (caps := []) (xs := [.v (.int .i64 x1.2)]) (u := (x1.2, ())) rfl rfl x_court_placed_1 rfl kr kr kr (Sl.cons (Sm.enc (c := cdI) (v := x1.2)) Sl.nil) (.inl kr) hv2 ?_
   refine RunS.segF (n := 28) E0_ok 2 [(3, .pe (.fn 177 [] [.pe (cdClause.enc x3) 0]) 0), (4, .pt 0 0 0), (5, .pt 1 0 0), (18, .v (.bool (!v2)))] [some ⟨10, 131, [cdSeated.enc x0], false⟩, some ⟨10, 131, [cdSeated.enc x1], false⟩] kr ?_
   have hq := Option.some.inj hj4; subst hq
   exact RunS.done rfl (Wk.sel2 [0, 1] kr kr kr ⟨⟨_, rfl, bu_c kr kr⟩, ⟨_, rfl, bu_c kr kr⟩, trivial⟩ ⟨lu kr kr, lu kr kr, lu kr kr, lu kr kr, trivial⟩)
 refine Sem.cond (b := j4) kr (fun hb5 => ?_) (fun hb5 => ?_)
 ·rw [if_pos hb5] at h
  refine Sem.seq ?_
  refine Sem.runS (s1 := ⟨Fr 28 [(6, .v (.int .i64 0))], []⟩) ?_ ?_
  ·refine RunS.segF (n := 28) E0_ok 1 [(6, .v (.int .i64 0))] [some ⟨10, 131, [cdSeated.enc x0], false⟩, some ⟨10, 131, [cdSeated.enc x1], false⟩] kr ?_
   exact RunS.done rfl (Wk.sel2 [] kr kr kr trivial ⟨lu kr kr, trivial⟩)
  refine Sem.ret ?_
  have hq := Option.some.inj h; subst hq
  exact ⟨⟨Fr 28 [(6, .v (.int .i64 0))], []⟩, (Wk.fr kr), .inr rfl, [.v (.int .i64 0)], kr, kr⟩
 ·rw [if_f hb5] at h
  refine Sem.skip ?_
  refine Sem.seq ?_
  obtain ⟨v6, hv6, h⟩ := Option.bind_eq_some_iff.1 h
  obtain ⟨v7, hv7, h⟩ := Option.bind_eq_some_iff.1 h
  obtain ⟨v8, hv8, h⟩ := Option.bind_eq_some_iff.1 h
  refine Sem.runDS E0_ok (s1 := ⟨Fr 28 [(6, .v (.int .i64 v8))], []⟩) kr ?_ ?_
  ·refine RunDS.segF (n := 28) E0_ok 3 [(3, .pe (.fn 177 [] [.pe (cdClause.enc x3) 0]) 0), (5, .pt 1 0 0), (19, .fn 177 [] [.pe (cdClause.enc x3) 0]), (21, .v (.int .i64 x0.2))] [some ⟨10, 131, [cdSeated.enc x0], false⟩, some ⟨10, 131, [cdSeated.enc x1], false⟩] kr kr ?_
   refine RunDS.callV (caps := [.pe (cdClause.enc x3) 0]) (xs := [.v (.int .i64 x0.2)]) (u := (x0.2, x3, ())) rfl rfl x_court_plain_8 rfl (wantedA_none rfl) kr kr (Sl.cons (Sm.enc (c := cdI) (v := x0.2)) (Sl.cons (Sm.enc (c := (cdP cdClause)) (v := x3)) Sl.nil)) kr hv6 ?_
   refine RunDS.segF (n := 28) E0_ok 3 [(22, .v (.int .i64 v6)), (23, .fn 177 [] [.pe (cdClause.enc x3) 0]), (25, .v (.int .i64 x1.2))] [some ⟨10, 131, [cdSeated.enc x0], false⟩, some ⟨10, 131, [cdSeated.enc x1], false⟩] kr kr ?_
   refine RunDS.callV (caps := [.pe (cdClause.enc x3) 0]) (xs := [.v (.int .i64 x1.2)]) (u := (x1.2, x3, ())) rfl rfl x_court_plain_8 rfl (wantedA_none rfl) kr kr (Sl.cons (Sm.enc (c := cdI) (v := x1.2)) (Sl.cons (Sm.enc (c := (cdP cdClause)) (v := x3)) Sl.nil)) kr hv7 ?_
   refine RunDS.callV (caps := []) (xs := [.v (.int .i64 v6), .v (.int .i64 v7)]) (u := (v6, v7, ())) rfl rfl x_cmp_Compare_int rfl (wantedA_none rfl) kr kr (Sl.cons (Sm.enc (c := cdI) (v := v6)) (Sl.cons (Sm.enc (c := cdI) (v := v7)) Sl.nil)) kr hv8 ?_
   refine RunDS.segF (n := 28) E0_ok 1 [(6, .v (.int .i64 v8))] [some ⟨10, 131, [cdSeated.enc x0], false⟩, some ⟨10, 131, [cdSeated.enc x1], false⟩] kr kr ?_
   exact RunDS.done rfl (Wk.sel2 [] kr kr kr trivial ⟨lu kr kr, trivial⟩)
  refine Sem.ret ?_
  have hq := Option.some.inj h; subst hq
  exact ⟨⟨Fr 28 [(6, .v (.int .i64 v8))], []⟩, (Wk.fr kr), .inr rfl, [.v (.int .i64 v8)], kr, kr⟩
def t_court_placed_2__court_placed_1__court_plain_8 : List AV → Option AV := told cs_court_placed_2__court_placed_1__court_plain_8 (fun a => court_placed_2__court_placed_1__court_plain_8 a.1 a.2.1 a.2.2.2.1) er_court_placed_2__court_placed_1__court_plain_8
theorem x_court_placed_2__court_placed_1__court_plain_8 : XOk 191 t_court_placed_2__court_placed_1__court_plain_8 := by
 refine xok_of_sem Tryz.func191 (c := cb_court_placed_2__court_placed_1__court_plain_8) ?h2 ⟨Tryz.call191⟩ cs_court_placed_2__court_placed_1__court_plain_8 (fun a => court_placed_2__court_placed_1__court_plain_8 a.1 a.2.1 a.2.2.2.1) er_court_placed_2__court_placed_1__court_plain_8 (fun a => (by show 4 ≤ 28; decide)) ?h3 ?h4
 case h2 => kernel_rfl
 case h3 => intro b; kernel_rfl
 case h4 => exact fun a b h => court_placed_2__court_placed_1__court_plain_8_sem a.1 a.2.1 a.2.2.2.1 b h
/- trestle/court.orderOf$1 -/
noncomputable def cb_court_orderOf_1__court_placed_2__court_placed_1__court_plain_8 : Code := codeOf Tryz.f154
def court_orderOf_1__court_placed_2__court_placed_1__court_plain_8 (x0 : Seated) (x1 : Seated) (x2 : Clause) (x3 : Unit × Clause) : Option (Int) :=
 (if (!(x2.2.1 == [])) = true then if (!(x0.1.2.1 == x2.2.1)) = true then some true else some (!(x1.1.2.1 == x2.2.1)) else some false).bind fun j2 =>
 if j2 = true then
 some 0
 else
 (court_placed_2__court_placed_1__court_plain_8 x0 x1 x3.2).bind fun v4 =>
 some v4
def cs_court_orderOf_1__court_placed_2__court_placed_1__court_plain_8 : Cs (Seated × Seated × Clause × (Unit × Clause) × Unit) := (csC cdSeated (csC cdSeated (csC (cdP cdClause) (csC (cdP (cdF 191 (csC (cdP (cdF 190 csN (fun _ => rfl))) (csE (cdP (cdF 177 (csE (cdP cdClause)) (fun _ => rfl))))) (fun _ => rfl))) csN))))
def er_court_orderOf_1__court_placed_2__court_placed_1__court_plain_8 (r : Int) : AV := cdI.enc r
theorem court_orderOf_1__court_placed_2__court_placed_1__court_plain_8_sem (x0 : Seated) (x1 : Seated) (x2 : Clause) (x3 : Unit × Clause) (r : Int) (h : court_orderOf_1__court_placed_2__court_placed_1__court_plain_8 x0 x1 x2 x3 = some r) : Sem E0 ⟨none, false⟩ cb_court_orderOf_1__court_placed_2__court_placed_1__court_plain_8 ⟨Fr 30 (pairs0 0 (cs_court_orderOf_1__court_placed_2__court_placed_1__court_plain_8.enc (x0, x1, x2, x3, ()))), []⟩ fun e s' => (e = .normal ∨ e = .ret) ∧ ∃ xs, resA E0.P s'.fr s'.hp Tryz.f154.results.toList = some xs ∧ retA xs = er_court_orderOf_1__court_placed_2__court_placed_1__court_plain_8 r := by
 unfold court_orderOf_1__court_placed_2__court_placed_1__court_plain_8 at h
 refine Sem.wkQ (Sem.wk (s1 := ⟨Fr 30 [(0, cdSeated.enc x0), (1, cdSeated.enc x1), (2, .pe (cdClause.enc x2) 0), (3, .pe (.fn 191 [] [.pe (.fn 190 [] []) 0, .pe (.fn 177 [] [.pe (cdClause.enc x3.2) 0]) 0]) 0)], []⟩) (Wk.fr kr) ?_)
 refine Sem.sq E0_ok [(2, .pe (cdClause.enc x2) 0), (3, .pe (.fn 191 [] [.pe (.fn 190 [] []) 0, .pe (.fn 177 [] [.pe (cdClause.enc x3.2) 0]) 0]) 0), (4, .pt 0 0 0), (5, .pt 1 0 0)] [some ⟨10, 131, [cdSeated.enc x0], false⟩, some ⟨10, 131, [cdSeated.enc x1], false⟩] ?_
 refine Sem.seq ?_
 refine Sem.seq ?_
 obtain ⟨j2, hj2, h⟩ := Option.bind_eq_some_iff.1 h
 refine Sem.runS (s1 := ⟨Fr 30 [(3, .pe (.fn 191 [] [.pe (.fn 190 [] []) 0, .pe (.fn 177 [] [.pe (cdClause.enc x3.2) 0]) 0]) 0), (4, .pt 0 0 0), (5, .pt 1 0 0), (25, .v (.bool j2))], [some ⟨10, 131, [cdSeated.enc x0], false⟩, some ⟨10, 131, [cdSeated.enc x1], false⟩]⟩) ?_ ?_
 ·refine RunS.segF (n := 30) E0_ok 4 [(2, .pe (cdClause.enc x2) 0), (3, .pe (.fn 191 [] [.pe (.fn 190 [] []) 0, .pe (.fn 177 [] [.pe (cdClause.enc x3.2) 0]) 0]) 0), (4, .pt 0 0 0), (5, .pt 1 0 0), (10, .v (.bool (!(x2.2.1 == []))))] [some ⟨10, 131, [cdSeated.enc x0], false⟩, some ⟨10, 131, [cdSeated.enc x1], false⟩] kr ?_
  rcases Bool.eq_false_or_eq_true (!(x2.2.1 == [])) with hc5 | hc5
  ·rw [if_pos hc5] at hj2
   rw [hc5]
   refine RunS.segF (n := 30) E0_ok 7 [(2, .pe (cdClause.enc x2) 0), (3, .pe (.fn 191 [] [.pe (.fn 190 [] []) 0, .pe (.fn 177 [] [.pe (cdClause.enc x3.2) 0]) 0]) 0), (4, .pt 0 0 0), (5, .pt 1 0 0), (10, .v (.bool true)), (17, .v (.bool (!(x0.1.2.1 == x2.2.1))))] [some ⟨10, 131, [cdSeated.enc x0], false⟩, some ⟨10, 131, [cdSeated.enc x1], false⟩] kr ?_
   rcases Bool.eq_false_or_eq_true (!(x0.1.2.1 == x2.2.1)) with hc6 | hc6
   ·rw [if_pos hc6] at hj2
    rw [hc6]
    refine RunS.segF (n := 30) E0_ok 8 [(3, .pe (.fn 191 [] [.pe (.fn 190 [] []) 0, .pe (.fn 177 [] [.pe (cdClause.enc x3.2) 0]) 0]) 0), (4, .pt 0 0 0), (5, .pt 1 0 0), (25, .v (.bool true))] [some ⟨10, 131, [cdSeated.enc x0], false⟩, some ⟨10, 131, [cdSeated.enc x1], false⟩] kr ?_
    have hq := Option.some.inj hj2; subst hq
    exact RunS.done rfl (Wk.sel2 [0, 1] kr kr kr ⟨⟨_, rfl, bu_c kr kr⟩, ⟨_, rfl, bu_c kr kr⟩, trivial⟩ ⟨lu kr kr, lu kr kr, lu kr kr, lu kr kr, trivial⟩)
   ·rw [if_f hc6] at hj2
    rw [hc6]
    refine RunS.segF (n := 30) E0_ok 8 [(3, .pe (.fn 191 [] [.pe (.fn 190 [] []) 0, .pe (.fn 177 [] [.pe (cdClause.enc x3.2) 0]) 0]) 0), (4, .pt 0 0 0), (5, .pt 1 0 0), (25, .v (.bool (!(x1.1.2.1 == x2.2.1))))] [some ⟨10, 131, [cdSeated.enc x0], false⟩, some ⟨10, 131, [cdSeated.enc x1], false⟩] kr ?_
    have hq := Option.some.inj hj2; subst hq
    exact RunS.done rfl (Wk.sel2 [0, 1] kr kr kr ⟨⟨_, rfl, bu_c kr kr⟩, ⟨_, rfl, bu_c kr kr⟩, trivial⟩ ⟨lu kr kr, lu kr kr, lu kr kr, lu kr kr, trivial⟩)
  ·rw [if_f hc5] at hj2
   rw [hc5]
   refine RunS.segF (n := 30) E0_ok 15 [(3, .pe (.fn 191 [] [.pe (.fn 190 [] []) 0, .pe (.fn 177 [] [.pe (cdClause.enc x3.2) 0]) 0]) 0), (4, .pt 0 0 0), (5, .pt 1 0 0), (25, .v (.bool false))] [some ⟨10, 131, [cdSeated.enc x0], false⟩, some ⟨10, 131, [cdSeated.enc x1], false⟩] kr ?_
   have hq := Option.some.inj hj2; subst hq
   exact RunS.done rfl (Wk.sel2 [0, 1] kr kr kr ⟨⟨_, rfl, bu_c kr kr⟩, ⟨_, rfl, bu_c kr kr⟩, trivial⟩ ⟨lu kr kr, lu kr kr, lu kr kr, lu kr kr, trivial⟩)
 refine Sem.cond (b := j2) kr (fun hb3 => ?_) (fun hb3 => ?_)
 ·rw [if_pos hb3] at h
  refine Sem.seq ?_
  refine Sem.runS (s1 := ⟨Fr 30 [(6, .v (.int .i64 0))], []⟩) ?_ ?_
  ·refine RunS.segF (n := 30) E0_ok 1 [(6, .v (.int .i64 0))] [some ⟨10, 131, [cdSeated.enc x0], false⟩, some ⟨10, 131, [cdSeated.enc x1], false⟩] kr ?_
   exact RunS.done rfl (Wk.sel2 [] kr kr kr trivial ⟨lu kr kr, trivial⟩)
  refine Sem.ret ?_
  have hq := Option.some.inj h; subst hq
  exact ⟨⟨Fr 30 [(6, .v (.int .i64 0))], []⟩, (Wk.fr kr), .inr rfl, [.v (.int .i64 0)], kr, kr⟩
 ·rw [if_f hb3] at h
  refine Sem.skip ?_
  refine Sem.seq ?_
  obtain ⟨v4, hv4, h⟩ := Option.bind_eq_some_iff.1 h
  refine Sem.runS (s1 := ⟨Fr 30 [(6, .v (.int .i64 v4))], []⟩) ?_ ?_
  ·refine RunS.segF (n := 30) E0_ok 3 [(26, .fn 191 [] [.pe (.fn 190 [] []) 0, .pe (.fn 177 [] [.pe (cdClause.enc x3.2) 0]) 0]), (27, cdSeated.enc x0), (28, cdSeated.enc x1)] [some ⟨10, 131, [cdSeated.enc x0], false⟩, some ⟨10, 131, [cdSeated.enc x1], false⟩] kr ?_
   refine RunS.callV (caps := [.pe (.fn 190 [] []) 0, .pe (.fn 177 [] [.pe (cdClause.enc x3.2) 0]) 0]) (xs := [cdSeated.enc x0, cdSeated.enc x1]) (u := (x0, x1, (), x3.2, ())) rfl rfl x_court_placed_2__court_placed_1__court_plain_8 rfl (wantedA_none rfl) kr kr (Sl.cons (Sm.enc (c := cdSeated) (v := x0)) (Sl.cons (Sm.enc (c := cdSeated) (v := x1)) (Sl.cons (Sm.enc (c := (cdP (cdF 190 csN (fun _ => rfl)))) (v := ())) (Sl.cons (Sm.enc (c := (cdP (cdF 177 (csE (cdP cdClause)) (fun _ => rfl)))) (v := x3.2)) Sl.nil)))) (.inl kr) hv4 ?_
   refine RunS.segF (n := 30) E0_ok 1 [(6, .v (.int .i64 v4))] [some ⟨10, 131, [cdSeated.enc x0], false⟩, some ⟨10, 131, [cdSeated.enc x1], false⟩] kr ?_
   exact RunS.done rfl (Wk.sel2 [] kr kr kr trivial ⟨lu kr kr, trivial⟩)
  refine Sem.ret ?_
  have hq := Option.some.inj h; subst hq
  exact ⟨⟨Fr 30 [(6, .v (.int .i64 v4))], []⟩, (Wk.fr kr), .inr rfl, [.v (.int .i64 v4)], kr, kr⟩
def t_court_orderOf_1__court_placed_2__court_placed_1__court_plain_8 : List AV → Option AV := told cs_court_orderOf_1__court_placed_2__court_placed_1__court_plain_8 (fun a => court_orderOf_1__court_placed_2__court_placed_1__court_plain_8 a.1 a.2.1 a.2.2.1 a.2.2.2.1) er_court_orderOf_1__court_placed_2__court_placed_1__court_plain_8
theorem x_court_orderOf_1__court_placed_2__court_placed_1__court_plain_8 : XOk 154 t_court_orderOf_1__court_placed_2__court_placed_1__court_plain_8 := by
 refine xok_of_sem Tryz.func154 (c := cb_court_orderOf_1__court_placed_2__court_placed_1__court_plain_8) ?h2 ⟨Tryz.call154⟩ cs_court_orderOf_1__court_placed_2__court_placed_1__court_plain_8 (fun a => court_orderOf_1__court_placed_2__court_placed_1__court_plain_8 a.1 a.2.1 a.2.2.1 a.2.2.2.1) er_court_orderOf_1__court_placed_2__court_placed_1__court_plain_8 (fun a => (by show 4 ≤ 30; decide)) ?h3 ?h4
 case h2 => kernel_rfl
 case h3 => intro b; kernel_rfl
 case h4 => exact fun a b h => court_orderOf_1__court_placed_2__court_placed_1__court_plain_8_sem a.1 a.2.1 a.2.2.1 a.2.2.2.1 b h
/- trestle/court.plain$9 -/
noncomputable def cb_court_plain_9 : Code := codeOf Tryz.f178
def court_plain_9 (x0 : Int) : Option (Int) :=
 some x0
def cs_court_plain_9 : Cs (Int × Unit) := (csC cdI csN)
def er_court_plain_9 (r : Int) : AV := cdI.enc r
theorem court_plain_9_sem (x0 : Int) (r : Int) (h : court_plain_9 x0 = some r) : Sem E0 ⟨none, false⟩ cb_court_plain_9 ⟨Fr 4 (pairs0 0 (cs_court_plain_9.enc (x0, ()))), []⟩ fun e s' => (e = .normal ∨ e = .ret) ∧ ∃ xs, resA E0.P s'.fr s'.hp Tryz.f178.results.toList = some xs ∧ retA xs = er_court_plain_9 r := by
 unfold court_plain_9 at h
 refine Sem.wkQ (Sem.wk (s1 := ⟨Fr 4 [(0, .v (.int .i64 x0))], []⟩) (Wk.fr kr) ?_)
 refine Sem.sq E0_ok [(0, .v (.int .i64 x0))] [] ?_
 refine Sem.sq E0_ok [(2, .v (.int .i64 x0))] [] ?_
 refine Sem.ret ?_
 have hq := Option.some.inj h; subst hq
 exact ⟨⟨Fr 4 [(2, .v (.int .i64 x0))], []⟩, (Wk.fr kr), .inr rfl, [.v (.int .i64 x0)], kr, kr⟩
def t_court_plain_9 : List AV → Option AV := told cs_court_plain_9 (fun a => court_plain_9 a.1) er_court_plain_9
theorem x_court_plain_9 : XOk 178 t_court_plain_9 := by
 refine xok_of_sem Tryz.func178 (c := cb_court_plain_9) ?h2 ⟨Tryz.call178⟩ cs_court_plain_9 (fun a => court_plain_9 a.1) er_court_plain_9 (fun a => (by show 1 ≤ 4; decide)) ?h3 ?h4
 case h2 => kernel_rfl
 case h3 => intro b; kernel_rfl
 case h4 => exact fun a b h => court_plain_9_sem a.1 b h
/- trestle/court.placed$2 -/
noncomputable def cb_court_placed_2__court_placed_1__court_plain_9 : Code := codeOf Tryz.f191
def court_placed_2__court_placed_1__court_plain_9 (x0 : Seated) (x1 : Seated) : Option (Int) :=
 (court_placed_1 x0.2).bind fun v1 =>
 (if (!v1) = true then some true else (court_placed_1 x1.2).bind fun v2 =>
 some (!v2)).bind fun j4 =>
 if j4 = true then
 some 0
 else
 (court_plain_9 x0.2).bind fun v6 =>
 (court_plain_9 x1.2).bind fun v7 =>
 (cmp_Compare_int v6 v7).bind fun v8 =>
 some v8
def cs_court_placed_2__court_placed_1__court_plain_9 : Cs (Seated × Seated × Unit × Unit × Unit) := (csC cdSeated (csC cdSeated (csC (cdP (cdF 190 csN (fun _ => rfl))) (csC (cdP (cdF 178 csN (fun _ => rfl))) csN))))
def er_court_placed_2__court_placed_1__court_plain_9 (r : Int) : AV := cdI.enc r
theorem court_placed_2__court_placed_1__court_plain_9_sem (x0 : Seated) (x1 : Seated) (r : Int) (h : court_placed_2__court_placed_1__court_plain_9 x0 x1 = some r) : Sem E0 ⟨none, false⟩ cb_court_placed_2__court_placed_1__court_plain_9 ⟨Fr 28 (pairs0 0 (cs_court_placed_2__court_placed_1__court_plain_9.enc (x0, x1, (), (), ()))), []⟩ fun e s' => (e = .normal ∨ e = .ret) ∧ ∃ xs, resA E0.P s'.fr s'.hp Tryz.f191.results.toList = some xs ∧ retA xs = er_court_placed_2__court_placed_1__court_plain_9 r := by
 unfold court_placed_2__court_placed_1__court_plain_9 at h
 refine Sem.wkQ (Sem.wk (s1 := ⟨Fr 28 [(0, cdSeated.enc x0), (1, cdSeated.enc x1), (2, .pe (.fn 190 [] []) 0), (3, .pe (.fn 178 [] []) 0)], []⟩) (Wk.fr kr) ?_)
 refine Sem.sq E0_ok [(2, .pe (.fn 190 [] []) 0), (3, .pe (.fn 178 [] []) 0), (4, .pt 0 0 0), (5, .pt 1 0 0)] [some ⟨10, 131, [cdSeated.enc x0], false⟩, some ⟨10, 131, [cdSeated.enc x1], false⟩] ?_
 refine Sem.seq ?_
 refine Sem.seq ?_
 obtain ⟨v1, hv1, h⟩ := Option.bind_eq_some_iff.1 h
 obtain ⟨j4, hj4, h⟩ := Option.bind_eq_some_iff.1 h
 refine Sem.runS (s1 := ⟨Fr 28 [(3, .pe (.fn 178 [] []) 0), (4, .pt 0 0 0), (5, .pt 1 0 0), (18, .v (.bool j4))], [some ⟨10, 131, [cdSeated.enc x0], false⟩, some ⟨10, 131, [cdSeated.enc x1], false⟩]⟩) ?_ ?_
 ·refine RunS.segF (n := 28) E0_ok 3 [(2, .pe (.fn 190 [] []) 0), (3, .pe (.fn 178 [] []) 0), (4, .pt 0 0 0), (5, .pt 1 0 0), (7, .fn 190 [] []), (9, .v (.int .i64 x0.2))] [some ⟨10, 131, [cdSeated.enc x0], false⟩, some ⟨10, 131, [cdSeated.enc x1], false⟩] kr ?_
  refine RunS.callV (caps := []) (xs := [.v (.int .i64 x0.2)]) (u := (x0.2, ())) rfl rfl x_court_placed_1 rfl (wantedA_none rfl) kr kr (Sl.cons (Sm.enc (c := cdI) (v := x0.2)) Sl.nil) (.inl kr) hv1 ?_
  refine RunS.segF (n := 28) E0_ok 2 [(2, .pe (.fn 190 [] []) 0), (3, .pe (.fn 178 [] []) 0), (4, .pt 0 0 0), (5, .pt 1 0 0), (12, .v (.bool (!v1)))] [some ⟨10, 131, [cdSeated.enc x0], false⟩, some ⟨10, 131, [cdSeated.enc x1], false⟩] kr ?_
  rcases Bool.eq_false_or_eq_true (!v1) with hc9 | hc9
  ·rw [if_pos hc9] at hj4
   rw [hc9]
   refine RunS.segF (n := 28) E0_ok 6 [(3, .pe (.fn 178 [] []) 0), (4, .pt 0 0 0), (5, .pt 1 0 0), (18, .v (.bool true))] [some ⟨10, 131, [cdSeated.enc x0], false⟩, some ⟨10, 131, [cdSeated.enc x1], false⟩] kr ?_
   have hq := Option.some.inj hj4; subst hq
   exact RunS.done rfl (Wk.sel2 [0, 1] kr kr kr ⟨⟨_, rfl, bu_c kr kr⟩, ⟨_, rfl, bu_c kr kr⟩, trivial⟩ ⟨lu kr kr, lu kr kr, lu kr kr, lu kr kr, trivial⟩)
  ·rw [if_f hc9] at hj4
   rw [hc9]
   refine RunS.segF (n := 28) E0_ok 3 [(3, .pe (.fn 178 [] []) 0), (4, .pt 0 0 0), (5, .pt 1 0 0), (12, .v (.bool false)), (13, .fn 190 [] []), (15, .v (.int .i64 x1.2))] [some ⟨10, 131, [cdSeated.enc x0], false⟩, some ⟨10, 131, [cdSeated.enc x1], false⟩] kr ?_
   obtain ⟨v2, hv2, hj4⟩ := Option.bind_eq_some_iff.1 hj4
   refine RunS.callV (caps := []) (xs := [.v (.int .i64 x1.2)]) (u := (x1.2, ())) rfl rfl x_court_placed_1 rfl kr kr kr (Sl.cons (Sm.enc (c := cdI) (v := x1.2)) Sl.nil) (.inl kr) hv2 ?_
   refine RunS.segF (n := 28) E0_ok 2 [(3, .pe (.fn 178 [] []) 0), (4, .pt 0 0 0), (5, .pt 1 0 0), (18, .v (.bool (!v2)))] [some ⟨10, 131, [cdSeated.enc x0], false⟩, some ⟨10, 131, [cdSeated.enc x1], false⟩] kr ?_
   have hq := Option.some.inj hj4; subst hq
   exact RunS.done rfl (Wk.sel2 [0, 1] kr kr kr ⟨⟨_, rfl, bu_c kr kr⟩, ⟨_, rfl, bu_c kr kr⟩, trivial⟩ ⟨lu kr kr, lu kr kr, lu kr kr, lu kr kr, trivial⟩)
 refine Sem.cond (b := j4) kr (fun hb5 => ?_) (fun hb5 => ?_)
 ·rw [if_pos hb5] at h
  refine Sem.seq ?_
  refine Sem.runS (s1 := ⟨Fr 28 [(6, .v (.int .i64 0))], []⟩) ?_ ?_
  ·refine RunS.segF (n := 28) E0_ok 1 [(6, .v (.int .i64 0))] [some ⟨10, 131, [cdSeated.enc x0], false⟩, some ⟨10, 131, [cdSeated.enc x1], false⟩] kr ?_
   exact RunS.done rfl (Wk.sel2 [] kr kr kr trivial ⟨lu kr kr, trivial⟩)
  refine Sem.ret ?_
  have hq := Option.some.inj h; subst hq
  exact ⟨⟨Fr 28 [(6, .v (.int .i64 0))], []⟩, (Wk.fr kr), .inr rfl, [.v (.int .i64 0)], kr, kr⟩
 ·rw [if_f hb5] at h
  refine Sem.skip ?_
  refine Sem.seq ?_
  obtain ⟨v6, hv6, h⟩ := Option.bind_eq_some_iff.1 h
  obtain ⟨v7, hv7, h⟩ := Option.bind_eq_some_iff.1 h
  obtain ⟨v8, hv8, h⟩ := Option.bind_eq_some_iff.1 h
  refine Sem.runDS E0_ok (s1 := ⟨Fr 28 [(6, .v (.int .i64 v8))], []⟩) kr ?_ ?_
  ·refine RunDS.segF (n := 28) E0_ok 3 [(3, .pe (.fn 178 [] []) 0), (5, .pt 1 0 0), (19, .fn 178 [] []), (21, .v (.int .i64 x0.2))] [some ⟨10, 131, [cdSeated.enc x0], false⟩, some ⟨10, 131, [cdSeated.enc x1], false⟩] kr kr ?_
   refine RunDS.callV (caps := []) (xs := [.v (.int .i64 x0.2)]) (u := (x0.2, ())) rfl rfl x_court_plain_9 rfl (wantedA_none rfl) kr kr (Sl.cons (Sm.enc (c := cdI) (v := x0.2)) Sl.nil) kr hv6 ?_
   refine RunDS.segF (n := 28) E0_ok 3 [(22, .v (.int .i64 v6)), (23, .fn 178 [] []), (25, .v (.int .i64 x1.2))] [some ⟨10, 131, [cdSeated.enc x0], false⟩, some ⟨10, 131, [cdSeated.enc x1], false⟩] kr kr ?_
   refine RunDS.callV (caps := []) (xs := [.v (.int .i64 x1.2)]) (u := (x1.2, ())) rfl rfl x_court_plain_9 rfl (wantedA_none rfl) kr kr (Sl.cons (Sm.enc (c := cdI) (v := x1.2)) Sl.nil) kr hv7 ?_
   refine RunDS.callV (caps := []) (xs := [.v (.int .i64 v6), .v (.int .i64 v7)]) (u := (v6, v7, ())) rfl rfl x_cmp_Compare_int rfl (wantedA_none rfl) kr kr (Sl.cons (Sm.enc (c := cdI) (v := v6)) (Sl.cons (Sm.enc (c := cdI) (v := v7)) Sl.nil)) kr hv8 ?_
   refine RunDS.segF (n := 28) E0_ok 1 [(6, .v (.int .i64 v8))] [some ⟨10, 131, [cdSeated.enc x0], false⟩, some ⟨10, 131, [cdSeated.enc x1], false⟩] kr kr ?_
   exact RunDS.done rfl (Wk.sel2 [] kr kr kr trivial ⟨lu kr kr, trivial⟩)
  refine Sem.ret ?_
  have hq := Option.some.inj h; subst hq
  exact ⟨⟨Fr 28 [(6, .v (.int .i64 v8))], []⟩, (Wk.fr kr), .inr rfl, [.v (.int .i64 v8)], kr, kr⟩
def t_court_placed_2__court_placed_1__court_plain_9 : List AV → Option AV := told cs_court_placed_2__court_placed_1__court_plain_9 (fun a => court_placed_2__court_placed_1__court_plain_9 a.1 a.2.1) er_court_placed_2__court_placed_1__court_plain_9
theorem x_court_placed_2__court_placed_1__court_plain_9 : XOk 191 t_court_placed_2__court_placed_1__court_plain_9 := by
 refine xok_of_sem Tryz.func191 (c := cb_court_placed_2__court_placed_1__court_plain_9) ?h2 ⟨Tryz.call191⟩ cs_court_placed_2__court_placed_1__court_plain_9 (fun a => court_placed_2__court_placed_1__court_plain_9 a.1 a.2.1) er_court_placed_2__court_placed_1__court_plain_9 (fun a => (by show 4 ≤ 28; decide)) ?h3 ?h4
 case h2 => kernel_rfl
 case h3 => intro b; kernel_rfl
 case h4 => exact fun a b h => court_placed_2__court_placed_1__court_plain_9_sem a.1 a.2.1 b h
/- trestle/court.orderOf$1 -/
noncomputable def cb_court_orderOf_1__court_placed_2__court_placed_1__court_plain_9 : Code := codeOf Tryz.f154
def court_orderOf_1__court_placed_2__court_placed_1__court_plain_9 (x0 : Seated) (x1 : Seated) (x2 : Clause) (x3 : Unit × Unit) : Option (Int) :=
 (if (!(x2.2.1 == [])) = true then if (!(x0.1.2.1 == x2.2.1)) = true then some true else some (!(x1.1.2.1 == x2.2.1)) else some false).bind fun j2 =>
 if j2 = true then
 some 0
 else
 (court_placed_2__court_placed_1__court_plain_9 x0 x1).bind fun v4 =>
 some v4
def cs_court_orderOf_1__court_placed_2__court_placed_1__court_plain_9 : Cs (Seated × Seated × Clause × (Unit × Unit) × Unit) := (csC cdSeated (csC cdSeated (csC (cdP cdClause) (csC (cdP (cdF 191 (csC (cdP (cdF 190 csN (fun _ => rfl))) (csE (cdP (cdF 178 csN (fun _ => rfl))))) (fun _ => rfl))) csN))))
def er_court_orderOf_1__court_placed_2__court_placed_1__court_plain_9 (r : Int) : AV := cdI.enc r
theorem court_orderOf_1__court_placed_2__court_placed_1__court_plain_9_sem (x0 : Seated) (x1 : Seated) (x2 : Clause) (x3 : Unit × Unit) (r : Int) (h : court_orderOf_1__court_placed_2__court_placed_1__court_plain_9 x0 x1 x2 x3 = some r) : Sem E0 ⟨none, false⟩ cb_court_orderOf_1__court_placed_2__court_placed_1__court_plain_9 ⟨Fr 30 (pairs0 0 (cs_court_orderOf_1__court_placed_2__court_placed_1__court_plain_9.enc (x0, x1, x2, x3, ()))), []⟩ fun e s' => (e = .normal ∨ e = .ret) ∧ ∃ xs, resA E0.P s'.fr s'.hp Tryz.f154.results.toList = some xs ∧ retA xs = er_court_orderOf_1__court_placed_2__court_placed_1__court_plain_9 r := by
 unfold court_orderOf_1__court_placed_2__court_placed_1__court_plain_9 at h
 refine Sem.wkQ (Sem.wk (s1 := ⟨Fr 30 [(0, cdSeated.enc x0), (1, cdSeated.enc x1), (2, .pe (cdClause.enc x2) 0), (3, .pe (.fn 191 [] [.pe (.fn 190 [] []) 0, .pe (.fn 178 [] []) 0]) 0)], []⟩) (Wk.fr kr) ?_)
 refine Sem.sq E0_ok [(2, .pe (cdClause.enc x2) 0), (3, .pe (.fn 191 [] [.pe (.fn 190 [] []) 0, .pe (.fn 178 [] []) 0]) 0), (4, .pt 0 0 0), (5, .pt 1 0 0)] [some ⟨10, 131, [cdSeated.enc x0], false⟩, some ⟨10, 131, [cdSeated.enc x1], false⟩] ?_
 refine Sem.seq ?_
 refine Sem.seq ?_
 obtain ⟨j2, hj2, h⟩ := Option.bind_eq_some_iff.1 h
 refine Sem.runS (s1 := ⟨Fr 30 [(3, .pe (.fn 191 [] [.pe (.fn 190 [] []) 0, .pe (.fn 178 [] []) 0]) 0), (4, .pt 0 0 0), (5, .pt 1 0 0), (25, .v (.bool j2))], [some ⟨10, 131, [cdSeated.enc x0], false⟩, some ⟨10, 131, [cdSeated.enc x1], false⟩]⟩) ?_ ?_
 ·refine RunS.segF (n := 30) E0_ok 4 [(2, .pe (cdClause.enc x2) 0), (3, .pe (.fn 191 [] [.pe (.fn 190 [] []) 0, .pe (.fn 178 [] []) 0]) 0), (4, .pt 0 0 0), (5, .pt 1 0 0), (10, .v (.bool (!(x2.2.1 == []))))] [some ⟨10, 131, [cdSeated.enc x0], false⟩, some ⟨10, 131, [cdSeated.enc x1], false⟩] kr ?_
  rcases Bool.eq_false_or_eq_true (!(x2.2.1 == [])) with hc5 | hc5
  ·rw [if_pos hc5] at hj2
   rw [hc5]
   refine RunS.segF (n := 30) E0_ok 7 [(2, .pe (cdClause.enc x2) 0), (3, .pe (.fn 191 [] [.pe (.fn 190 [] []) 0, .pe (.fn 178 [] []) 0]) 0), (4, .pt 0 0 0), (5, .pt 1 0 0), (10, .v (.bool true)), (17, .v (.bool (!(x0.1.2.1 == x2.2.1))))] [some ⟨10, 131, [cdSeated.enc x0], false⟩, some ⟨10, 131, [cdSeated.enc x1], false⟩] kr ?_
   rcases Bool.eq_false_or_eq_true (!(x0.1.2.1 == x2.2.1)) with hc6 | hc6
   ·rw [if_pos hc6] at hj2
    rw [hc6]
    refine RunS.segF (n := 30) E0_ok 8 [(3, .pe (.fn 191 [] [.pe (.fn 190 [] []) 0, .pe (.fn 178 [] []) 0]) 0), (4, .pt 0 0 0), (5, .pt 1 0 0), (25, .v (.bool true))] [some ⟨10, 131, [cdSeated.enc x0], false⟩, some ⟨10, 131, [cdSeated.enc x1], false⟩] kr ?_
    have hq := Option.some.inj hj2; subst hq
    exact RunS.done rfl (Wk.sel2 [0, 1] kr kr kr ⟨⟨_, rfl, bu_c kr kr⟩, ⟨_, rfl, bu_c kr kr⟩, trivial⟩ ⟨lu kr kr, lu kr kr, lu kr kr, lu kr kr, trivial⟩)
   ·rw [if_f hc6] at hj2
    rw [hc6]
    refine RunS.segF (n := 30) E0_ok 8 [(3, .pe (.fn 191 [] [.pe (.fn 190 [] []) 0, .pe (.fn 178 [] []) 0]) 0), (4, .pt 0 0 0), (5, .pt 1 0 0), (25, .v (.bool (!(x1.1.2.1 == x2.2.1))))] [some ⟨10, 131, [cdSeated.enc x0], false⟩, some ⟨10, 131, [cdSeated.enc x1], false⟩] kr ?_
    have hq := Option.some.inj hj2; subst hq
    exact RunS.done rfl (Wk.sel2 [0, 1] kr kr kr ⟨⟨_, rfl, bu_c kr kr⟩, ⟨_, rfl, bu_c kr kr⟩, trivial⟩ ⟨lu kr kr, lu kr kr, lu kr kr, lu kr kr, trivial⟩)
  ·rw [if_f hc5] at hj2
   rw [hc5]
   refine RunS.segF (n := 30) E0_ok 15 [(3, .pe (.fn 191 [] [.pe (.fn 190 [] []) 0, .pe (.fn 178 [] []) 0]) 0), (4, .pt 0 0 0), (5, .pt 1 0 0), (25, .v (.bool false))] [some ⟨10, 131, [cdSeated.enc x0], false⟩, some ⟨10, 131, [cdSeated.enc x1], false⟩] kr ?_
   have hq := Option.some.inj hj2; subst hq
   exact RunS.done rfl (Wk.sel2 [0, 1] kr kr kr ⟨⟨_, rfl, bu_c kr kr⟩, ⟨_, rfl, bu_c kr kr⟩, trivial⟩ ⟨lu kr kr, lu kr kr, lu kr kr, lu kr kr, trivial⟩)
 refine Sem.cond (b := j2) kr (fun hb3 => ?_) (fun hb3 => ?_)
 ·rw [if_pos hb3] at h
  refine Sem.seq ?_
  refine Sem.runS (s1 := ⟨Fr 30 [(6, .v (.int .i64 0))], []⟩) ?_ ?_
  ·refine RunS.segF (n := 30) E0_ok 1 [(6, .v (.int .i64 0))] [some ⟨10, 131, [cdSeated.enc x0], false⟩, some ⟨10, 131, [cdSeated.enc x1], false⟩] kr ?_
   exact RunS.done rfl (Wk.sel2 [] kr kr kr trivial ⟨lu kr kr, trivial⟩)
  refine Sem.ret ?_
  have hq := Option.some.inj h; subst hq
  exact ⟨⟨Fr 30 [(6, .v (.int .i64 0))], []⟩, (Wk.fr kr), .inr rfl, [.v (.int .i64 0)], kr, kr⟩
 ·rw [if_f hb3] at h
  refine Sem.skip ?_
  refine Sem.seq ?_
  obtain ⟨v4, hv4, h⟩ := Option.bind_eq_some_iff.1 h
  refine Sem.runS (s1 := ⟨Fr 30 [(6, .v (.int .i64 v4))], []⟩) ?_ ?_
  ·refine RunS.segF (n := 30) E0_ok 3 [(26, .fn 191 [] [.pe (.fn 190 [] []) 0, .pe (.fn 178 [] []) 0]), (27, cdSeated.enc x0), (28, cdSeated.enc x1)] [some ⟨10, 131, [cdSeated.enc x0], false⟩, some ⟨10, 131, [cdSeated.enc x1], false⟩] kr ?_
   refine RunS.callV (caps := [.pe (.fn 190 [] []) 0, .pe (.fn 178 [] []) 0]) (xs := [cdSeated.enc x0, cdSeated.enc x1]) (u := (x0, x1, (), (), ())) rfl rfl x_court_placed_2__court_placed_1__court_plain_9 rfl (wantedA_none rfl) kr kr (Sl.cons (Sm.enc (c := cdSeated) (v := x0)) (Sl.cons (Sm.enc (c := cdSeated) (v := x1)) (Sl.cons (Sm.enc (c := (cdP (cdF 190 csN (fun _ => rfl)))) (v := ())) (Sl.cons (Sm.enc (c := (cdP (cdF 178 csN (fun _ => rfl)))) (v := ())) Sl.nil)))) (.inl kr) hv4 ?_
   refine RunS.segF (n := 30) E0_ok 1 [(6, .v (.int .i64 v4))] [some ⟨10, 131, [cdSeated.enc x0], false⟩, some ⟨10, 131, [cdSeated.enc x1], false⟩] kr ?_
   exact RunS.done rfl (Wk.sel2 [] kr kr kr trivial ⟨lu kr kr, trivial⟩)
  refine Sem.ret ?_
  have hq := Option.some.inj h; subst hq
  exact ⟨⟨Fr 30 [(6, .v (.int .i64 v4))], []⟩, (Wk.fr kr), .inr rfl, [.v (.int .i64 v4)], kr, kr⟩
def t_court_orderOf_1__court_placed_2__court_placed_1__court_plain_9 : List AV → Option AV := told cs_court_orderOf_1__court_placed_2__court_placed_1__court_plain_9 (fun a => court_orderOf_1__court_placed_2__court_placed_1__court_plain_9 a.1 a.2.1 a.2.2.1 a.2.2.2.1) er_court_orderOf_1__court_placed_2__court_placed_1__court_plain_9
theorem x_court_orderOf_1__court_placed_2__court_placed_1__court_plain_9 : XOk 154 t_court_orderOf_1__court_placed_2__court_placed_1__court_plain_9 := by
 refine xok_of_sem Tryz.func154 (c := cb_court_orderOf_1__court_placed_2__court_placed_1__court_plain_9) ?h2 ⟨Tryz.call154⟩ cs_court_orderOf_1__court_placed_2__court_placed_1__court_plain_9 (fun a => court_orderOf_1__court_placed_2__court_placed_1__court_plain_9 a.1 a.2.1 a.2.2.1 a.2.2.2.1) er_court_orderOf_1__court_placed_2__court_placed_1__court_plain_9 (fun a => (by show 4 ≤ 30; decide)) ?h3 ?h4
 case h2 => kernel_rfl
 case h3 => intro b; kernel_rfl
 case h4 => exact fun a b h => court_orderOf_1__court_placed_2__court_placed_1__court_plain_9_sem a.1 a.2.1 a.2.2.1 a.2.2.2.1 b h
theorem xok_sub {f : FuncId} (hc : Callable E0.P f) {α β : Type} (s : Cs α) (F : α → Option β) (er : β → AV) (h : ∀ a b, F a = some b → ∃ t, XOk f t ∧ t (s.enc a) = some (er b)) : XOk f (told s F er) := by
 refine ⟨hc, fun xs y hy w Z us hz hg hv => ?_⟩
 obtain ⟨a, ha, hy⟩ := Option.bind_eq_some_iff.1 hy
 obtain ⟨b, hb, rfl⟩ := Option.map_eq_some_iff.1 hy
 obtain ⟨t, hX, ht⟩ := h a b hb
 exact hX.2 _ _ ht w Z us hz hg (s.vr ha hv)
def court_orderOf_1 (a b : Seated) (c : Clause) : Option Int :=
 if (c.1 == 1) = true then court_orderOf_1__court_by_1__court_plain_1 a b c c else
 if (c.1 == 2) = true then court_orderOf_1__court_plain_2 a b c c else
 if (c.1 == 3) = true then court_orderOf_1__court_plain_2 a b c c else
 if (c.1 == 4) = true then court_orderOf_1__court_by_1__court_named_1__court_plain_3 a b c (c, c) else
 if (c.1 == 5) = true then court_orderOf_1__court_by_1__court_named_1__court_plain_4 a b c ((), c) else
 if (c.1 == 6) = true then court_orderOf_1__court_by_1__court_named_1__court_plain_5 a b c (c, c) else
 if (c.1 == 7) = true then court_orderOf_1__court_by_1__court_named_1__court_plain_6 a b c (c, c) else
 if (c.1 == 8) = true then court_orderOf_1__court_plain_7 a b c else
 if (c.1 == 10) = true then court_orderOf_1__court_placed_2__court_placed_1__court_plain_8 a b c ((), c) else
 court_orderOf_1__court_placed_2__court_placed_1__court_plain_9 a b c ((), ())
noncomputable def cs_court_orderOf_1 : Cs (Seated × Seated × Clause) := csC cdSeated (csC cdSeated csOrdCaps)
noncomputable def er_court_orderOf_1 (r : Int) : AV := cdI.enc r
noncomputable def t_court_orderOf_1 : List AV → Option AV := told cs_court_orderOf_1 (fun a => court_orderOf_1 a.1 a.2.1 a.2.2) er_court_orderOf_1
theorem told_at {α β : Type} {s : Cs α} {F : α → Option β} {er : β → AV} {a : α} {b : β} {xs : List AV} (h : F a = some b) (e : xs = s.enc a) : told s F er xs = some (er b) := e ▸ told_enc h
theorem enc_ord (a b : Seated) (c : Clause) : cs_court_orderOf_1.enc (a, b, c) = [cdSeated.enc a, cdSeated.enc b, .pe (cdClause.enc c) 0, .pe (encPlain c) 0] := rfl
theorem x_court_orderOf_1 : XOk 154 t_court_orderOf_1 := by
 refine xok_sub ⟨Tryz.call154⟩ cs_court_orderOf_1 (fun a => court_orderOf_1 a.1 a.2.1 a.2.2) er_court_orderOf_1 fun x r h => ?_
 obtain ⟨a, b, c⟩ := x
 rw [enc_ord]
 dsimp only at h
 unfold court_orderOf_1 at h
 unfold encPlain
 rcases Bool.eq_false_or_eq_true (c.1 == 1) with h1 | h1
 ·rw [if_pos h1] at h; rw [if_pos h1]
  exact ⟨_, x_court_orderOf_1__court_by_1__court_plain_1, told_at (a := (a, b, c, c, ())) h rfl⟩
 rw [if_neg (by rw [h1]; decide)] at h; rw [if_neg (by rw [h1]; decide)]
 rcases Bool.eq_false_or_eq_true (c.1 == 2) with h1 | h1
 ·rw [if_pos h1] at h; rw [if_pos h1]
  exact ⟨_, x_court_orderOf_1__court_plain_2, told_at (a := (a, b, c, c, ())) h rfl⟩
 rw [if_neg (by rw [h1]; decide)] at h; rw [if_neg (by rw [h1]; decide)]
 rcases Bool.eq_false_or_eq_true (c.1 == 3) with h1 | h1
 ·rw [if_pos h1] at h; rw [if_pos h1]
  exact ⟨_, x_court_orderOf_1__court_plain_2, told_at (a := (a, b, c, c, ())) h rfl⟩
 rw [if_neg (by rw [h1]; decide)] at h; rw [if_neg (by rw [h1]; decide)]
 rcases Bool.eq_false_or_eq_true (c.1 == 4) with h1 | h1
 ·rw [if_pos h1] at h; rw [if_pos h1]
  exact ⟨_, x_court_orderOf_1__court_by_1__court_named_1__court_plain_3, told_at (a := (a, b, c, (c, c), ())) h rfl⟩
 rw [if_neg (by rw [h1]; decide)] at h; rw [if_neg (by rw [h1]; decide)]
 rcases Bool.eq_false_or_eq_true (c.1 == 5) with h1 | h1
 ·rw [if_pos h1] at h; rw [if_pos h1]
  exact ⟨_, x_court_orderOf_1__court_by_1__court_named_1__court_plain_4, told_at (a := (a, b, c, ((), c), ())) h rfl⟩
 rw [if_neg (by rw [h1]; decide)] at h; rw [if_neg (by rw [h1]; decide)]
 rcases Bool.eq_false_or_eq_true (c.1 == 6) with h1 | h1
 ·rw [if_pos h1] at h; rw [if_pos h1]
  exact ⟨_, x_court_orderOf_1__court_by_1__court_named_1__court_plain_5, told_at (a := (a, b, c, (c, c), ())) h rfl⟩
 rw [if_neg (by rw [h1]; decide)] at h; rw [if_neg (by rw [h1]; decide)]
 rcases Bool.eq_false_or_eq_true (c.1 == 7) with h1 | h1
 ·rw [if_pos h1] at h; rw [if_pos h1]
  exact ⟨_, x_court_orderOf_1__court_by_1__court_named_1__court_plain_6, told_at (a := (a, b, c, (c, c), ())) h rfl⟩
 rw [if_neg (by rw [h1]; decide)] at h; rw [if_neg (by rw [h1]; decide)]
 rcases Bool.eq_false_or_eq_true (c.1 == 8) with h1 | h1
 ·rw [if_pos h1] at h; rw [if_pos h1]
  exact ⟨_, x_court_orderOf_1__court_plain_7, told_at (a := (a, b, c, (), ())) h rfl⟩
 rw [if_neg (by rw [h1]; decide)] at h; rw [if_neg (by rw [h1]; decide)]
 rcases Bool.eq_false_or_eq_true (c.1 == 10) with h1 | h1
 ·rw [if_pos h1] at h; rw [if_pos h1]
  exact ⟨_, x_court_orderOf_1__court_placed_2__court_placed_1__court_plain_8, told_at (a := (a, b, c, ((), c), ())) h rfl⟩
 rw [if_neg (by rw [h1]; decide)] at h; rw [if_neg (by rw [h1]; decide)]
 exact ⟨_, x_court_orderOf_1__court_placed_2__court_placed_1__court_plain_9, told_at (a := (a, b, c, ((), ()), ())) h rfl⟩
end Go.Proofs.YtiphapnckldpbaaGreatDoor
namespace Go.Proofs.YtiphapnckldpbaaGreatDoor
open Go.Shelf Go.RowKit Go.Lib
def grow_0 : List AV → Option AV
 | [.e0, .v (.int .i64 n)] => if n = 0 then some .e0 else none
 | _ => none
theorem grow_0_ok : EnvOk (E0.withX 135 grow_0) := by
 refine E0_ok.withX ⟨Tryz.call135⟩ fun xs x h w Z us _ _ hv => ?_
 unfold grow_0 at h
 split at h
 ·next n =>
  split at h
  ·next h0 =>
   subst h0
   injection h with h
   subst h
   obtain ⟨u1, r1, rfl, h1, hv⟩ := hv.head
   obtain ⟨u2, r2, rfl, h2, hv⟩ := hv.head
   have : r2 = [] := List.eq_nil_of_length_eq_zero hv.len
   subst this
   have e2 := h2.v_inv
   subst e2
   cases h1 with
   | e0 =>
    rename_i A
    refine Calls.mono (Any8.slices_Grow_room lays4 A 0 0 0 w (Nat.le_refl _) (by decide) (by decide) (by decide)) fun e w' he => ?_
    obtain ⟨rfl, rfl⟩ := he
    exact ⟨pu_refl _, .e0⟩
  ·cases h
 ·cases h
theorem xok_closedX {g : FuncId} {t : List AV → Option AV} (hE : EnvOk (E0.withX g t)) {f : FuncId} (hc : Callable E0.P f) {α β : Type} (s : Cs α) (F : α → Option β) (er : β → AV) (h : ∀ a b, F a = some b → ∃ n y, closedRes (E0.withX g t) n f (s.enc a) = some y ∧ ∀ w Z v, VR w Z [] y v → VR w Z [] (er b) v) : XOk f (told s F er) := by
 refine ⟨hc, fun xs y hy w Z us hz hg hv => ?_⟩
 obtain ⟨a, ha, hy⟩ := Option.bind_eq_some_iff.1 hy
 obtain ⟨b, hb, rfl⟩ := Option.map_eq_some_iff.1 hy
 obtain ⟨n, y, hn, hy⟩ := h a b hb
 unfold closedRes at hn
 split at hn
 ·next x h' he => exact Ret.mono (frz_ret (enter_sound hE (code_sound hE n).1 he (hr_nil hz) (s.vr ha hv) hg (fun y hy => by cases hy)) hn) fun v w' hS => ⟨hS.1, hy _ _ _ hS.2⟩
 ·cases hn
def court_Merge (x0 x1 : List Clause) : Option (List Clause × Int) := if x0 = [] ∧ x1 = [] then some ([], 0) else court_MergeN x0 x1
def cs_court_Merge : Cs (List Clause × List Clause × Unit) := cs_court_MergeN
def er_court_Merge (r : List Clause × Int) : AV := er_court_MergeN r
def t_court_Merge : List AV → Option AV := told cs_court_Merge (fun a => court_Merge a.1 a.2.1) er_court_Merge
theorem merge_nil : closedRes (E0.withX 135 grow_0) 300 46 (cs_court_Merge.enc ([], [], ())) = some (.tp [.e0, .v (.int .i64 0)]) := by kernel_rfl
theorem x_court_Merge : XOk 46 t_court_Merge := by
 refine xok_sub ⟨Tryz.call46⟩ cs_court_Merge (fun a => court_Merge a.1 a.2.1) er_court_Merge fun a b h => ?_
 obtain ⟨x0, x1, ⟨⟩⟩ := a
 by_cases h0 : x0 = [] ∧ x1 = []
 ·refine ⟨_, xok_closedX grow_0_ok ⟨Tryz.call46⟩ cs_court_Merge (fun a => if a.1 = [] ∧ a.2.1 = [] then some (([] : List Clause), (0 : Int)) else none) er_court_Merge (fun a b h => ⟨300, .tp [.e0, .v (.int .i64 0)], ?_⟩), told_enc (a := (x0, x1, ())) (by
   have : court_Merge x0 x1 = some ([], 0) := if_pos h0
   rw [← h]
   exact (if_pos h0).trans this.symm)⟩
  obtain ⟨y0, y1, ⟨⟩⟩ := a
  by_cases h1 : y0 = [] ∧ y1 = []
  ·obtain ⟨rfl, rfl⟩ := h1
   have hb : b = ([], 0) := (Option.some.inj h).symm
   subst hb
   refine ⟨merge_nil, fun w Z v hv => ?_⟩
   cases hv with
   | tp hl hx =>
    refine .tp hl fun i x u hi hu => ?_
    match i with
    | 0 =>
     have h0 := hx 0 .e0 u rfl hu
     have hi' : x = .sl 5 [] := (Option.some.inj hi).symm
     subst hi'
     cases h0 with
     | e0 => exact VR.sl (us := []) rfl rfl (Nat.le_refl _) (by unfold maxLen; decide) (fun h => absurd h (by decide)) (fun i x u h => by simp at h)
    | 1 => exact hx 1 x u hi hu
    | i + 2 => exact absurd hi (by simp)
  ·exact nomatch ((if_neg h1 : (if y0 = [] ∧ y1 = [] then some (([] : List Clause), (0 : Int)) else none) = none).symm.trans h)
 ·exact ⟨t_court_MergeN, x_court_MergeN, told_enc (s := cs_court_MergeN) (a := (x0, x1, ())) ((if_neg h0 : court_Merge x0 x1 = _).symm.trans h)⟩
/- trestle/court.orders -/
noncomputable def cb_court_orders : Code := codeOf Tryz.f89
def court_orders_l1 (x0 : (List Clause)) : Nat → (List Clause) → Int → Option (((List Clause)))
 | 0, _, _ => none
 | f + 1, c3, c4 =>
  if (decide (c4 < (x0.length : Int))) = true then
  (idx x0 c4).bind fun v6 =>
  (court_orderOf v6).bind fun v7 =>
  if (capOk 8 (c3.length + 1)) = true then
  court_orders_l1 x0 f (c3 ++ [v7]) (wr .i64 (c4 + 1))
  else none
  else
  some c3
def court_orders (x0 : (List Clause)) : Option ((List Clause) × Bool) :=
 (court_Check x0).bind fun v1 =>
 if (v1.2 != 0) = true then
 some ([], false)
 else
 (court_orders_l1 x0 100000 [] 0).bind fun r10 =>
 some (r10, true)
noncomputable def cs_court_orders : Cs ((List Clause) × Unit) := (csC (cdL 5 cdClause) csN)
noncomputable def er_court_orders (r : (List Clause) × Bool) : AV := .tp [(cdL 1 cdOrd).enc r.1, cdB.enc r.2]
theorem court_orders_l1_ok (x0 : (List Clause)) : ∀ (f : Nat) (c3 : (List Clause)) (c4 : Int) (r : ((List Clause))), court_orders_l1 x0 f c3 c4 = some r → SemN E0 ⟨none, false⟩ (pc cb_court_orders [1, 1, 1, 0, 1, 0, 0]) f ⟨Fr 29 [(6, hd 0 (c3.map cdOrd.enc)), (16, .sl 5 (x0.map cdClause.enc)), (17, .v (.int .i64 (x0.length : Int))), (18, .v (.int .i64 c4))], [mk 1 133 (c3.map cdOrd.enc)]⟩ (fun e s => e = (.exit 0) ∧ Wk E0 s ⟨Fr 29 [(6, hd 0 (r.map cdOrd.enc))], [mk 1 133 (r.map cdOrd.enc)]⟩) := by
 intro f
 induction f with
 | zero => intro c3 c4 r h; cases h
 | succ f ih0 =>
  intro c3 c4 r h
  have ih := fun (c3 : (List Clause)) (c4 : Int) => ih0 c3 c4 r
  unfold court_orders_l1 at h
  refine SemN.succ ?_
  let p1 : Option Blk := mk 1 133 (c3.map cdOrd.enc)
  let p2 : Nat × AV := (18, .v (.int .i64 c4))
  let p3 : Nat × AV := (17, .v (.int .i64 (x0.length : Int)))
  let p4 : Nat × AV := (16, .sl 5 (x0.map cdClause.enc))
  refine Sem.sq E0_ok [(6, hd 0 (c3.map cdOrd.enc)), p4, p3, p2, (19, .v (.bool (decide (c4 < (x0.length : Int)))))] [p1] ?_
  refine Sem.seq ?_
  refine Sem.cond (b := (decide (c4 < (x0.length : Int)))) kr (fun hb5 => ?_) (fun hb5 => ?_)
  ·rw [if_pos hb5] at h
   refine Sem.skip ?_
   refine Sem.seq ?_
   refine Sem.block ?_
   refine Sem.seq ?_
   obtain ⟨v6, hv6, h⟩ := Option.bind_eq_some_iff.1 h
   let p5 : Option Blk := some ⟨5, 70, [cdClause.enc v6], false⟩
   refine Sem.runS (s1 := ⟨Fr 29 [(6, hd 0 (c3.map cdOrd.enc)), (8, .pt 1 0 0), p4, p3, p2], [p1, p5]⟩) ?_ ?_
   ·refine RunS.one E0_ok 0 rfl (op_q (wantedA_none rfl) rfl (q_indexAddr (a := .sl 5 (x0.map cdClause.enc)) (b := .v (.int .i64 c4)) kr kr (ix_sl (e := cdClause.enc) (el := 70) (k := 5) (ki := .i64) kr kr hv6))) ?_
    exact RunS.last E0_ok
   obtain ⟨v7, hv7, h⟩ := Option.bind_eq_some_iff.1 h
   by_cases hk8 : (capOk 8 (c3.length + 1)) = true
   case neg => rw [if_neg hk8] at h; cases h
   rw [if_pos hk8] at h
   let p6 : Option Blk := mk 1 133 ((c3 ++ [v7]).map cdOrd.enc)
   let p7 : Nat × AV := (6, hd 0 ((c3 ++ [v7]).map cdOrd.enc))
   refine Sem.runS (s1 := ⟨Fr 29 [p7, p4, p3, p2], [p6]⟩) ?_ ?_
   ·refine RunS.segF (n := 29) E0_ok 2 [p4, p3, p2, (22, hd 0 (c3.map cdOrd.enc)), (23, cdClause.enc v6)] [p1, p5] kr ?_
    refine RunS.callV (caps := []) (xs := [cdClause.enc v6]) (u := (v6, ())) rfl rfl x_court_orderOf rfl (wantedA_none rfl) kr kr (Sl.cons (Sm.enc (c := cdClause) (v := v6)) Sl.nil) (.inr kr) hv7 ?_
    refine RunS.segF (n := 29) E0_ok 1 [p4, p3, p2, (22, hd 0 (c3.map cdOrd.enc)), (25, hd 2 ([v7].map cdOrd.enc))] [p1, p5, mk 1 133 ([v7].map cdOrd.enc)] kr ?_
    refine RunS.one E0_ok 0 rfl (op_w (wantedA_none rfl) rfl kr kr (w_append (a := hd 0 (c3.map cdOrd.enc)) (b := hd 2 ([v7].map cdOrd.enc)) kr kr (append_B (c := cdOrd) (xs := c3) (vs := [v7]) (k := 1) (bytes := 8) (el := 133) kr kr (elems_hd (t := 133) kr) (List.cons_ne_nil _ _) kr hk8))) ?_
    refine RunS.segF (n := 29) E0_ok 1 [(6, hd 3 ((c3 ++ [v7]).map cdOrd.enc)), p4, p3, p2] [none, p5, mk 1 133 ([v7].map cdOrd.enc), p6] kr ?_
    exact RunS.done rfl (Wk.sel2 [3] kr kr kr ⟨⟨_, rfl, bu_mk⟩, trivial⟩ ⟨lu_hd (b' := 3) kr kr, lu kr kr, lu kr kr, lu kr kr, trivial⟩)
   let p8 : Nat × AV := (18, .v (.int .i64 (wr .i64 (c4 + 1))))
   refine Sem.rg E0_ok [p7, p4, p3, p8] [p6] ?_
   exact SemN.wk (s1 := ⟨Fr 29 [p7, p4, p3, p8], [p6]⟩) (Wk.sel2 [0] kr kr kr ⟨⟨_, rfl, bu_mk⟩, trivial⟩ ⟨lu_hd (b' := 0) kr kr, lu kr kr, lu kr kr, lu kr kr, trivial⟩) (ih (c3 ++ [v7]) (wr .i64 (c4 + 1)) h)
  ·rw [if_f hb5] at h
   refine Sem.exit ?_
   have hq := Option.some.inj h; subst hq
   exact ⟨rfl, (Wk.sel2 [0] kr kr kr ⟨⟨_, rfl, bu_mk⟩, trivial⟩ ⟨lu_hd (b' := 0) kr kr, trivial⟩)⟩
theorem court_orders_sem (x0 : (List Clause)) (r : (List Clause) × Bool) (h : court_orders x0 = some r) : Sem E0 ⟨none, false⟩ cb_court_orders ⟨Fr 29 (pairs0 0 (cs_court_orders.enc (x0, ()))), []⟩ fun e s' => (e = .normal ∨ e = .ret) ∧ ∃ xs, resA E0.P s'.fr s'.hp Tryz.f89.results.toList = some xs ∧ retA xs = er_court_orders r := by
 unfold court_orders at h
 let p1 : Nat × AV := (0, .sl 5 (x0.map cdClause.enc))
 refine Sem.wkQ (Sem.wk (s1 := ⟨Fr 29 [p1], []⟩) (Wk.fr kr) ?_)
 refine Sem.sq E0_ok [p1] [] ?_
 refine Sem.seq ?_
 refine Sem.seq ?_
 obtain ⟨v1, hv1, h⟩ := Option.bind_eq_some_iff.1 h
 refine Sem.runS (s1 := ⟨Fr 29 [p1, (5, .v (.int .i64 v1.2))], []⟩) ?_ ?_
 ·refine RunS.segF (n := 29) E0_ok 1 [p1, (10, .sl 5 (x0.map cdClause.enc))] [] kr ?_
  refine RunS.callV (caps := []) (xs := [.sl 5 (x0.map cdClause.enc)]) (u := (x0, ())) rfl rfl x_court_Check rfl (wantedA_none rfl) kr kr (Sl.cons (Sm.enc (c := (cdL 5 cdClause)) (v := x0)) Sl.nil) (.inl kr) hv1 ?_
  exact RunS.last E0_ok
 refine Sem.sq E0_ok [p1, (15, .v (.bool (v1.2 != 0)))] [] ?_
 refine Sem.cond (b := (v1.2 != 0)) kr (fun hb2 => ?_) (fun hb2 => ?_)
 ·rw [if_pos hb2] at h
  let p2 : Nat × AV := (3, .v (.bool false))
  refine Sem.sq E0_ok [(2, .e0), p2] [] ?_
  refine Sem.ret ?_
  have hq := Option.some.inj h; subst hq
  exact ⟨⟨Fr 29 [(2, .sl 1 ([].map cdOrd.enc)), p2], []⟩, (Wk.trans (s1 := ⟨Fr 29 [(2, .e0), p2], []⟩) (Wk.fr kr) (Wk.trans (s1 := ⟨Fr 29 [(2, .e0), p2], [none]⟩) Wk.none (Wk.trans (s1 := ⟨Fr 29 [(2, .sl 1 ([].map cdOrd.enc)), p2], [none]⟩) (Wk.frzG 0 (.inr kr) ⟨.inl rfl, trivial⟩ ⟨⟨.e0, kr, fz_e0⟩, ⟨.v (.bool false), kr, .inl rfl⟩, trivial⟩) (Wk.sel2 [] kr kr kr trivial ⟨lu kr kr, lu kr kr, trivial⟩)))), .inr rfl, [.sl 1 ([].map cdOrd.enc), .v (.bool false)], kr, kr⟩
 ·rw [if_f hb2] at h
  refine Sem.skip ?_
  refine Sem.sq E0_ok [p1, (6, .e0)] [] ?_
  refine Sem.seq ?_
  refine Sem.seq ?_
  let p3 : Nat × AV := (18, .v (.int .i64 0))
  let p4 : Nat × AV := (17, .v (.int .i64 (x0.length : Int)))
  let p5 : Nat × AV := (16, .sl 5 (x0.map cdClause.enc))
  refine Sem.runS (s1 := ⟨Fr 29 [(6, .e0), p5, p4, p3], []⟩) ?_ ?_
  ·refine RunS.segF (n := 29) E0_ok 1 [(6, .e0), p5] [] kr ?_
   refine RunS.one E0_ok 0 rfl (op_q (wantedA_none rfl) rfl (q_len (a := .sl 5 (x0.map cdClause.enc)) kr (len_sl (el := 70) kr))) ?_
   exact RunS.last E0_ok
  refine Sem.block ?_
  obtain ⟨r10, hr10, h⟩ := Option.bind_eq_some_iff.1 h
  refine Sem.loop (n := 100000) ?_
  refine Sem.cutN (SemN.wk (s1 := ⟨Fr 29 [(6, hd 0 ([].map cdOrd.enc)), p5, p4, p3], [mk 1 133 ([].map cdOrd.enc)]⟩) (Wk.trans (s1 := ⟨Fr 29 [(6, hd 0 ([].map cdOrd.enc)), p5, p4, p3], [mk 1 133 ([].map cdOrd.enc)]⟩) Wk.none (Wk.sel2 [0] kr kr kr ⟨⟨_, rfl, bu_none⟩, trivial⟩ ⟨lu kr kr, lu kr kr, lu kr kr, lu kr kr, trivial⟩)) (court_orders_l1_ok x0 _ [] 0 _ hr10)) ?_
  let p6 : Nat × AV := (3, .v (.bool true))
  refine Sem.sq E0_ok [(2, hd 0 (r10.map cdOrd.enc)), p6] [mk 1 133 (r10.map cdOrd.enc)] ?_
  refine Sem.ret ?_
  have hq := Option.some.inj h; subst hq
  exact ⟨⟨Fr 29 [(2, .sl 1 (r10.map cdOrd.enc)), p6], []⟩, (Wk.trans (s1 := ⟨Fr 29 [(2, .sl 1 (r10.map cdOrd.enc)), p6], [none]⟩) (Wk.frzG 0 (.inl kr) ⟨.inl rfl, trivial⟩ ⟨⟨hd 0 (r10.map cdOrd.enc), kr, fz_hd (t := 133) kr enc_ok⟩, ⟨.v (.bool true), kr, .inl rfl⟩, trivial⟩) (Wk.sel2 [] kr kr kr trivial ⟨lu kr kr, lu kr kr, trivial⟩)), .inr rfl, [.sl 1 (r10.map cdOrd.enc), .v (.bool true)], kr, kr⟩
noncomputable def t_court_orders : List AV → Option AV := told cs_court_orders (fun a => court_orders a.1) er_court_orders
theorem x_court_orders : XOk 89 t_court_orders := by
 refine xok_of_sem Tryz.func89 (c := cb_court_orders) ?h2 ⟨Tryz.call89⟩ cs_court_orders (fun a => court_orders a.1) er_court_orders (fun a => (by show 1 ≤ 29; decide)) ?h3 ?h4
 case h2 => kernel_rfl
 case h3 => intro b; kernel_rfl
 case h4 => exact fun a b h => court_orders_sem a.1 b h
/- trestle/court.first[trestle/court.seated,trestle/court.order] -/
noncomputable def cb_court_first_court_seated_court_order : Code := codeOf Tryz.f90
def court_first_court_seated_court_order_l1 (x0 : (List Clause)) : Nat → (List UInt8) → (List UInt8) → (List UInt8) → Int → Int → (List UInt8) → Bool → Bool → (List (List UInt8)) → Int → (List UInt8) → (List UInt8) → (List UInt8) → Int → Int → (List UInt8) → Bool → Bool → (List (List UInt8)) → Int → Int → Option ((Unit) ⊕ (Int × Int))
 | 0, _, _, _, _, _, _, _, _, _, _, _, _, _, _, _, _, _, _, _, _, _ => none
 | f + 1, c1, c2, c3, c4, c5, c6, c7, c8, c9, c10, c11, c12, c13, c14, c15, c16, c17, c18, c19, c20, c21 =>
  if (decide (c21 < (x0.length : Int))) = true then
  (idx x0 c21).bind fun v23 =>
  (court_orderOf_1 ((c1, c2, c3, c4, c5, c6, c7, c8, c9), c10) ((c11, c12, c13, c14, c15, c16, c17, c18, c19), c20) v23).bind fun v24 =>
  if (v24 != 0) = true then
  some (.inr (c21, v24))
  else
  court_first_court_seated_court_order_l1 x0 f c1 c2 c3 c4 c5 c6 c7 c8 c9 c10 c11 c12 c13 c14 c15 c16 c17 c18 c19 c20 (wr .i64 (c21 + 1))
  else
  some (.inl ())
def court_first_court_seated_court_order (x0 : (List Clause)) (x1 : Seated) (x2 : Seated) : Option (Int × Int) :=
 (court_first_court_seated_court_order_l1 x0 100000 x1.1.1 x1.1.2.1 x1.1.2.2.1 x1.1.2.2.2.1 x1.1.2.2.2.2.1 x1.1.2.2.2.2.2.1 x1.1.2.2.2.2.2.2.1 x1.1.2.2.2.2.2.2.2.1 x1.1.2.2.2.2.2.2.2.2 x1.2 x2.1.1 x2.1.2.1 x2.1.2.2.1 x2.1.2.2.2.1 x2.1.2.2.2.2.1 x2.1.2.2.2.2.2.1 x2.1.2.2.2.2.2.2.1 x2.1.2.2.2.2.2.2.2.1 x2.1.2.2.2.2.2.2.2.2 x2.2 0).bind fun r28 =>
 match r28 with
 | (.inl w29) =>
  some ((-1), 0)
 | (.inr w30) =>
  some (w30.1, w30.2)
noncomputable def cs_court_first_court_seated_court_order : Cs ((List Clause) × Seated × Seated × Unit) := (csC (cdL 1 cdOrd) (csC cdSeated (csC cdSeated csN)))
noncomputable def er_court_first_court_seated_court_order (r : Int × Int) : AV := .tp [cdI.enc r.1, cdI.enc r.2]
theorem court_first_court_seated_court_order_l1_ok (x0 : (List Clause)) : ∀ (f : Nat) (c1 : (List UInt8)) (c2 : (List UInt8)) (c3 : (List UInt8)) (c4 : Int) (c5 : Int) (c6 : (List UInt8)) (c7 : Bool) (c8 : Bool) (c9 : (List (List UInt8))) (c10 : Int) (c11 : (List UInt8)) (c12 : (List UInt8)) (c13 : (List UInt8)) (c14 : Int) (c15 : Int) (c16 : (List UInt8)) (c17 : Bool) (c18 : Bool) (c19 : (List (List UInt8))) (c20 : Int) (c21 : Int) (r : (Unit) ⊕ (Int × Int)), court_first_court_seated_court_order_l1 x0 f c1 c2 c3 c4 c5 c6 c7 c8 c9 c10 c11 c12 c13 c14 c15 c16 c17 c18 c19 c20 c21 = some r → SemN E0 ⟨none, false⟩ (pc cb_court_first_court_seated_court_order [1, 0, 1, 0, 0]) f ⟨Fr 27 [(4, .pt 0 0 0), (5, .pt 1 0 0), (11, .sl 1 (x0.map cdOrd.enc)), (12, .v (.int .i64 (x0.length : Int))), (13, .v (.int .i64 c21))], [some ⟨10, 131, [.ag [.st c1, .st c2, .st c3, .v (.int .i64 c4), .v (.int .i64 c5), .st c6, .v (.bool c7), .v (.bool c8), .sl 1 (c9.map cdS.enc), .v (.int .i64 c10)]], false⟩, some ⟨10, 131, [.ag [.st c11, .st c12, .st c13, .v (.int .i64 c14), .v (.int .i64 c15), .st c16, .v (.bool c17), .v (.bool c18), .sl 1 (c19.map cdS.enc), .v (.int .i64 c20)]], false⟩]⟩ (fun e s => match r with
 | (.inl w) => e = (.exit 0) ∧ Wk E0 s ⟨Fr 27 [], []⟩
 | (.inr w) => e = .ret ∧ Wk E0 s ⟨Fr 27 [(6, .v (.int .i64 w.1)), (7, .v (.int .i64 w.2))], []⟩) := by
 intro f
 induction f with
 | zero => intro c1 c2 c3 c4 c5 c6 c7 c8 c9 c10 c11 c12 c13 c14 c15 c16 c17 c18 c19 c20 c21 r h; cases h
 | succ f ih0 =>
  intro c1 c2 c3 c4 c5 c6 c7 c8 c9 c10 c11 c12 c13 c14 c15 c16 c17 c18 c19 c20 c21 r h
  have ih := fun (c1 : (List UInt8)) (c2 : (List UInt8)) (c3 : (List UInt8)) (c4 : Int) (c5 : Int) (c6 : (List UInt8)) (c7 : Bool) (c8 : Bool) (c9 : (List (List UInt8))) (c10 : Int) (c11 : (List UInt8)) (c12 : (List UInt8)) (c13 : (List UInt8)) (c14 : Int) (c15 : Int) (c16 : (List UInt8)) (c17 : Bool) (c18 : Bool) (c19 : (List (List UInt8))) (c20 : Int) (c21 : Int) => ih0 c1 c2 c3 c4 c5 c6 c7 c8 c9 c10 c11 c12 c13 c14 c15 c16 c17 c18 c19 c20 c21 r
  unfold court_first_court_seated_court_order_l1 at h
  refine SemN.succ ?_
  let p1 : Option Blk := some ⟨10, 131, [.ag [.st c11, .st c12, .st c13, .v (.int .i64 c14), .v (.int .i64 c15), .st c16, .v (.bool c17), .v (.bool c18), .sl 1 (c19.map cdS.enc), .v (.int .i64 c20)]], false⟩
  let p2 : Option Blk := some ⟨10, 131, [.ag [.st c1, .st c2, .st c3, .v (.int .i64 c4), .v (.int .i64 c5), .st c6, .v (.bool c7), .v (.bool c8), .sl 1 (c9.map cdS.enc), .v (.int .i64 c10)]], false⟩
  let p3 : Nat × AV := (13, .v (.int .i64 c21))
  let p4 : Nat × AV := (12, .v (.int .i64 (x0.length : Int)))
  let p5 : Nat × AV := (11, .sl 1 (x0.map cdOrd.enc))
  let p6 : Nat × AV := (5, .pt 1 0 0)
  let p7 : Nat × AV := (4, .pt 0 0 0)
  refine Sem.sq E0_ok [p7, p6, p5, p4, p3, (14, .v (.bool (decide (c21 < (x0.length : Int)))))] [p2, p1] ?_
  refine Sem.seq ?_
  refine Sem.cond (b := (decide (c21 < (x0.length : Int)))) kr (fun hb22 => ?_) (fun hb22 => ?_)
  ·rw [if_pos hb22] at h
   refine Sem.skip ?_
   refine Sem.seq ?_
   refine Sem.block ?_
   refine Sem.seq ?_
   obtain ⟨v23, hv23, h⟩ := Option.bind_eq_some_iff.1 h
   let p8 : Nat × AV := (8, .v (.int .i64 c21))
   refine Sem.runS (s1 := ⟨Fr 27 [p7, p6, p8, (9, cdOrd.enc v23), p5, p4, p3], [p2, p1]⟩) ?_ ?_
   ·refine RunS.segF (n := 27) E0_ok 1 [p7, p6, p5, p4, p3, (15, .v (.int .i64 c21))] [p2, p1] kr ?_
    refine RunS.one E0_ok 0 rfl (op_q (wantedA_none rfl) rfl (q_indexAddr (a := .sl 1 (x0.map cdOrd.enc)) (b := .v (.int .i64 c21)) kr kr (ix_sl (e := cdOrd.enc) (el := 133) (k := 1) (ki := .i64) kr kr hv23))) ?_
    exact RunS.last E0_ok
   refine Sem.seq ?_
   obtain ⟨v24, hv24, h⟩ := Option.bind_eq_some_iff.1 h
   refine Sem.runS (s1 := ⟨Fr 27 [p7, p6, p8, (10, .v (.int .i64 v24)), p5, p4, p3], [p2, p1]⟩) ?_ ?_
   ·refine RunS.segF (n := 27) E0_ok 3 [p7, p6, p8, p5, p4, p3, (18, cdOrd.enc v23), (19, .ag [.st c1, .st c2, .st c3, .v (.int .i64 c4), .v (.int .i64 c5), .st c6, .v (.bool c7), .v (.bool c8), .sl 1 (c9.map cdS.enc), .v (.int .i64 c10)]), (20, .ag [.st c11, .st c12, .st c13, .v (.int .i64 c14), .v (.int .i64 c15), .st c16, .v (.bool c17), .v (.bool c18), .sl 1 (c19.map cdS.enc), .v (.int .i64 c20)])] [p2, p1] kr ?_
    refine RunS.callV (caps := [.pe (cdClause.enc v23) 0, .pe (encPlain v23) 0]) (xs := [.ag [.st c1, .st c2, .st c3, .v (.int .i64 c4), .v (.int .i64 c5), .st c6, .v (.bool c7), .v (.bool c8), .sl 1 (c9.map cdS.enc), .v (.int .i64 c10)], .ag [.st c11, .st c12, .st c13, .v (.int .i64 c14), .v (.int .i64 c15), .st c16, .v (.bool c17), .v (.bool c18), .sl 1 (c19.map cdS.enc), .v (.int .i64 c20)]]) (u := (((c1, c2, c3, c4, c5, c6, c7, c8, c9), c10), ((c11, c12, c13, c14, c15, c16, c17, c18, c19), c20), v23)) rfl rfl x_court_orderOf_1 rfl (wantedA_none rfl) kr kr (Sl.cons (Sm.enc (c := cdSeated) (v := ((c1, c2, c3, c4, c5, c6, c7, c8, c9), c10))) (Sl.cons (Sm.enc (c := cdSeated) (v := ((c11, c12, c13, c14, c15, c16, c17, c18, c19), c20))) (Sl.encs (n := 10) (s := csOrdCaps) (a := v23)))) (.inl kr) hv24 ?_
    exact RunS.last E0_ok
   refine Sem.sq E0_ok [p7, p6, p8, (10, .v (.int .i64 v24)), p5, p4, p3, (23, .v (.bool (v24 != 0)))] [p2, p1] ?_
   refine Sem.cond (b := (v24 != 0)) kr (fun hb25 => ?_) (fun hb25 => ?_)
   ·rw [if_pos hb25] at h
    refine Sem.seq ?_
    refine Sem.runS (s1 := ⟨Fr 27 [(6, .v (.int .i64 c21)), (7, .v (.int .i64 v24))], []⟩) ?_ ?_
    ·refine RunS.segF (n := 27) E0_ok 4 [(6, .v (.int .i64 c21)), (7, .v (.int .i64 v24))] [p2, p1] kr ?_
     exact RunS.done rfl (Wk.sel2 [] kr kr kr trivial ⟨lu kr kr, lu kr kr, trivial⟩)
    refine Sem.ret ?_
    have hq := Option.some.inj h; subst hq
    exact ⟨rfl, (Wk.fr kr)⟩
   ·rw [if_f hb25] at h
    refine Sem.skip ?_
    let p9 : Nat × AV := (13, .v (.int .i64 (wr .i64 (c21 + 1))))
    refine Sem.rg E0_ok [p7, p6, p5, p4, p9] [p2, p1] ?_
    exact SemN.wk (s1 := ⟨Fr 27 [p7, p6, p5, p4, p9], [p2, p1]⟩) (Wk.sel2 [0, 1] kr kr kr ⟨⟨_, rfl, bu_c kr kr⟩, ⟨_, rfl, bu_c kr kr⟩, trivial⟩ ⟨lu kr kr, lu kr kr, lu kr kr, lu kr kr, lu kr kr, trivial⟩) (ih c1 c2 c3 c4 c5 c6 c7 c8 c9 c10 c11 c12 c13 c14 c15 c16 c17 c18 c19 c20 (wr .i64 (c21 + 1)) h)
  ·rw [if_f hb22] at h
   refine Sem.exit ?_
   have hq := Option.some.inj h; subst hq
   exact ⟨rfl, (Wk.sel2 [] kr kr kr trivial trivial)⟩
theorem court_first_court_seated_court_order_sem (x0 : (List Clause)) (x1 : Seated) (x2 : Seated) (r : Int × Int) (h : court_first_court_seated_court_order x0 x1 x2 = some r) : Sem E0 ⟨none, false⟩ cb_court_first_court_seated_court_order ⟨Fr 27 (pairs0 0 (cs_court_first_court_seated_court_order.enc (x0, x1, x2, ()))), []⟩ fun e s' => (e = .normal ∨ e = .ret) ∧ ∃ xs, resA E0.P s'.fr s'.hp Tryz.f90.results.toList = some xs ∧ retA xs = er_court_first_court_seated_court_order r := by
 unfold court_first_court_seated_court_order at h
 refine Sem.wkQ (Sem.wk (s1 := ⟨Fr 27 [(0, .sl 1 (x0.map cdOrd.enc)), (1, cdSeated.enc x1), (2, cdSeated.enc x2)], []⟩) (Wk.fr kr) ?_)
 let p1 : Option Blk := some ⟨10, 131, [cdSeated.enc x2], false⟩
 let p2 : Option Blk := some ⟨10, 131, [cdSeated.enc x1], false⟩
 let p3 : Nat × AV := (5, .pt 1 0 0)
 let p4 : Nat × AV := (4, .pt 0 0 0)
 refine Sem.sq E0_ok [(0, .sl 1 (x0.map cdOrd.enc)), p4, p3] [p2, p1] ?_
 refine Sem.seq ?_
 refine Sem.seq ?_
 let p5 : Nat × AV := (13, .v (.int .i64 0))
 let p6 : Nat × AV := (12, .v (.int .i64 (x0.length : Int)))
 let p7 : Nat × AV := (11, .sl 1 (x0.map cdOrd.enc))
 refine Sem.runS (s1 := ⟨Fr 27 [p4, p3, p7, p6, p5], [p2, p1]⟩) ?_ ?_
 ·refine RunS.segF (n := 27) E0_ok 1 [p4, p3, p7] [p2, p1] kr ?_
  refine RunS.one E0_ok 0 rfl (op_q (wantedA_none rfl) rfl (q_len (a := .sl 1 (x0.map cdOrd.enc)) kr (len_sl (el := 133) kr))) ?_
  exact RunS.last E0_ok
 refine Sem.block ?_
 obtain ⟨r28, hr28, h⟩ := Option.bind_eq_some_iff.1 h
 refine Sem.loop (n := 100000) ?_
 rcases r28 with w29 | w30
 ·try dsimp only at h
  refine Sem.cutN (SemN.wk (s1 := ⟨Fr 27 [p4, p3, p7, p6, p5], [p2, p1]⟩) (Wk.sel2 [0, 1] kr kr kr ⟨⟨_, rfl, bu_c kr kr⟩, ⟨_, rfl, bu_c kr kr⟩, trivial⟩ ⟨lu kr kr, lu kr kr, lu kr kr, lu kr kr, lu kr kr, trivial⟩) (court_first_court_seated_court_order_l1_ok x0 _ x1.1.1 x1.1.2.1 x1.1.2.2.1 x1.1.2.2.2.1 x1.1.2.2.2.2.1 x1.1.2.2.2.2.2.1 x1.1.2.2.2.2.2.2.1 x1.1.2.2.2.2.2.2.2.1 x1.1.2.2.2.2.2.2.2.2 x1.2 x2.1.1 x2.1.2.1 x2.1.2.2.1 x2.1.2.2.2.1 x2.1.2.2.2.2.1 x2.1.2.2.2.2.2.1 x2.1.2.2.2.2.2.2.1 x2.1.2.2.2.2.2.2.2.1 x2.1.2.2.2.2.2.2.2.2 x2.2 0 _ hr28)) ?_
  refine Sem.sq E0_ok [(6, .v (.int .i64 (-1))), (7, .v (.int .i64 0))] [] ?_
  refine Sem.ret ?_
  have hq := Option.some.inj h; subst hq
  exact ⟨⟨Fr 27 [(6, .v (.int .i64 (-1))), (7, .v (.int .i64 0))], []⟩, (Wk.fr kr), .inr rfl, [.v (.int .i64 (-1)), .v (.int .i64 0)], kr, kr⟩
 ·try dsimp only at h
  refine Sem.cutN (SemN.wk (s1 := ⟨Fr 27 [p4, p3, p7, p6, p5], [p2, p1]⟩) (Wk.sel2 [0, 1] kr kr kr ⟨⟨_, rfl, bu_c kr kr⟩, ⟨_, rfl, bu_c kr kr⟩, trivial⟩ ⟨lu kr kr, lu kr kr, lu kr kr, lu kr kr, lu kr kr, trivial⟩) (court_first_court_seated_court_order_l1_ok x0 _ x1.1.1 x1.1.2.1 x1.1.2.2.1 x1.1.2.2.2.1 x1.1.2.2.2.2.1 x1.1.2.2.2.2.2.1 x1.1.2.2.2.2.2.2.1 x1.1.2.2.2.2.2.2.2.1 x1.1.2.2.2.2.2.2.2.2 x1.2 x2.1.1 x2.1.2.1 x2.1.2.2.1 x2.1.2.2.2.1 x2.1.2.2.2.2.1 x2.1.2.2.2.2.2.1 x2.1.2.2.2.2.2.2.1 x2.1.2.2.2.2.2.2.2.1 x2.1.2.2.2.2.2.2.2.2 x2.2 0 _ hr28)) ?_
  have hq := Option.some.inj h; subst hq
  exact ⟨⟨Fr 27 [(6, .v (.int .i64 w30.1)), (7, .v (.int .i64 w30.2))], []⟩, (Wk.fr kr), .inr rfl, [.v (.int .i64 w30.1), .v (.int .i64 w30.2)], kr, kr⟩
noncomputable def t_court_first_court_seated_court_order : List AV → Option AV := told cs_court_first_court_seated_court_order (fun a => court_first_court_seated_court_order a.1 a.2.1 a.2.2.1) er_court_first_court_seated_court_order
theorem x_court_first_court_seated_court_order : XOk 90 t_court_first_court_seated_court_order := by
 refine xok_of_sem Tryz.func90 (c := cb_court_first_court_seated_court_order) ?h2 ⟨Tryz.call90⟩ cs_court_first_court_seated_court_order (fun a => court_first_court_seated_court_order a.1 a.2.1 a.2.2.1) er_court_first_court_seated_court_order (fun a => (by show 3 ≤ 27; decide)) ?h3 ?h4
 case h2 => kernel_rfl
 case h3 => intro b; kernel_rfl
 case h4 => exact fun a b h => court_first_court_seated_court_order_sem a.1 a.2.1 a.2.2.1 b h
/- trestle/court.Reason -/
noncomputable def cb_court_Reason : Code := codeOf Tryz.f33
def court_Reason (x0 : (List Clause)) (x1 : Guest) (x2 : Guest) (x3 : Int) (x4 : Int) : Option (Int × Int) :=
 (court_orders x0).bind fun v1 =>
 if (!v1.2) = true then
 some (0, 0)
 else
 (court_first_court_seated_court_order v1.1 (x1, x3) (x2, x4)).bind fun v3 =>
 some (v3.1, v3.2)
noncomputable def cs_court_Reason : Cs ((List Clause) × Guest × Guest × Int × Int × Unit) := (csC (cdL 5 cdClause) (csC cdGuest (csC cdGuest (csC cdI (csC cdI csN)))))
noncomputable def er_court_Reason (r : Int × Int) : AV := .tp [cdI.enc r.1, cdI.enc r.2]
theorem court_Reason_sem (x0 : (List Clause)) (x1 : Guest) (x2 : Guest) (x3 : Int) (x4 : Int) (r : Int × Int) (h : court_Reason x0 x1 x2 x3 x4 = some r) : Sem E0 ⟨none, false⟩ cb_court_Reason ⟨Fr 31 (pairs0 0 (cs_court_Reason.enc (x0, x1, x2, x3, x4, ()))), []⟩ fun e s' => (e = .normal ∨ e = .ret) ∧ ∃ xs, resA E0.P s'.fr s'.hp Tryz.f33.results.toList = some xs ∧ retA xs = er_court_Reason r := by
 unfold court_Reason at h
 let p1 : Nat × AV := (4, .v (.int .i64 x4))
 let p2 : Nat × AV := (3, .v (.int .i64 x3))
 let p3 : Nat × AV := (0, .sl 5 (x0.map cdClause.enc))
 refine Sem.wkQ (Sem.wk (s1 := ⟨Fr 31 [p3, (1, cdGuest.enc x1), (2, cdGuest.enc x2), p2, p1], []⟩) (Wk.fr kr) ?_)
 let p4 : Option Blk := some ⟨9, 44, [cdGuest.enc x2], false⟩
 let p5 : Option Blk := some ⟨9, 44, [cdGuest.enc x1], false⟩
 let p6 : Nat × AV := (7, .pt 1 0 0)
 let p7 : Nat × AV := (6, .pt 0 0 0)
 refine Sem.sq E0_ok [p3, p2, p1, p7, p6] [p5, p4] ?_
 refine Sem.seq ?_
 obtain ⟨v1, hv1, h⟩ := Option.bind_eq_some_iff.1 h
 let p8 : Nat × AV := (12, .sl 1 (v1.1.map cdOrd.enc))
 refine Sem.runS (s1 := ⟨Fr 31 [p2, p1, p7, p6, p8, (13, .v (.bool v1.2))], [p5, p4]⟩) ?_ ?_
 ·refine RunS.segF (n := 31) E0_ok 1 [p2, p1, p7, p6, (15, .sl 5 (x0.map cdClause.enc))] [p5, p4] kr ?_
  refine RunS.callV (caps := []) (xs := [.sl 5 (x0.map cdClause.enc)]) (u := (x0, ())) rfl rfl x_court_orders rfl (wantedA_none rfl) kr kr (Sl.cons (Sm.enc (c := (cdL 5 cdClause)) (v := x0)) Sl.nil) (.inr kr) hv1 ?_
  exact RunS.last E0_ok
 refine Sem.seq ?_
 refine Sem.sq E0_ok [p2, p1, p7, p6, p8, (20, .v (.bool (!v1.2)))] [p5, p4] ?_
 refine Sem.cond (b := (!v1.2)) kr (fun hb2 => ?_) (fun hb2 => ?_)
 ·rw [if_pos hb2] at h
  refine Sem.seq ?_
  let p9 : Nat × AV := (11, .v (.int .i64 0))
  let p10 : Nat × AV := (10, .v (.int .i64 0))
  refine Sem.runS (s1 := ⟨Fr 31 [p10, p9], []⟩) ?_ ?_
  ·refine RunS.segF (n := 31) E0_ok 2 [p10, p9] [p5, p4] kr ?_
   exact RunS.done rfl (Wk.sel2 [] kr kr kr trivial ⟨lu kr kr, lu kr kr, trivial⟩)
  refine Sem.ret ?_
  have hq := Option.some.inj h; subst hq
  exact ⟨⟨Fr 31 [p10, p9], []⟩, (Wk.fr kr), .inr rfl, [.v (.int .i64 0), .v (.int .i64 0)], kr, kr⟩
 ·rw [if_f hb2] at h
  refine Sem.skip ?_
  refine Sem.seq ?_
  obtain ⟨v3, hv3, h⟩ := Option.bind_eq_some_iff.1 h
  let p11 : Nat × AV := (11, .v (.int .i64 v3.2))
  let p12 : Nat × AV := (10, .v (.int .i64 v3.1))
  refine Sem.runS (s1 := ⟨Fr 31 [p12, p11], []⟩) ?_ ?_
  ·refine RunS.segF (n := 31) E0_ok 7 [(21, .sl 1 (v1.1.map cdOrd.enc)), (24, .ag [.st x1.1, .st x1.2.1, .st x1.2.2.1, .v (.int .i64 x1.2.2.2.1), .v (.int .i64 x1.2.2.2.2.1), .st x1.2.2.2.2.2.1, .v (.bool x1.2.2.2.2.2.2.1), .v (.bool x1.2.2.2.2.2.2.2.1), .sl 1 (x1.2.2.2.2.2.2.2.2.map cdS.enc), .v (.int .i64 x3)]), (27, .ag [.st x2.1, .st x2.2.1, .st x2.2.2.1, .v (.int .i64 x2.2.2.2.1), .v (.int .i64 x2.2.2.2.2.1), .st x2.2.2.2.2.2.1, .v (.bool x2.2.2.2.2.2.2.1), .v (.bool x2.2.2.2.2.2.2.2.1), .sl 1 (x2.2.2.2.2.2.2.2.2.map cdS.enc), .v (.int .i64 x4)])] [p5, p4] kr ?_
   refine RunS.callV (caps := []) (xs := [.sl 1 (v1.1.map cdOrd.enc), .ag [.st x1.1, .st x1.2.1, .st x1.2.2.1, .v (.int .i64 x1.2.2.2.1), .v (.int .i64 x1.2.2.2.2.1), .st x1.2.2.2.2.2.1, .v (.bool x1.2.2.2.2.2.2.1), .v (.bool x1.2.2.2.2.2.2.2.1), .sl 1 (x1.2.2.2.2.2.2.2.2.map cdS.enc), .v (.int .i64 x3)], .ag [.st x2.1, .st x2.2.1, .st x2.2.2.1, .v (.int .i64 x2.2.2.2.1), .v (.int .i64 x2.2.2.2.2.1), .st x2.2.2.2.2.2.1, .v (.bool x2.2.2.2.2.2.2.1), .v (.bool x2.2.2.2.2.2.2.2.1), .sl 1 (x2.2.2.2.2.2.2.2.2.map cdS.enc), .v (.int .i64 x4)]]) (u := (v1.1, (x1, x3), (x2, x4), ())) rfl rfl x_court_first_court_seated_court_order rfl (wantedA_none rfl) kr kr (Sl.cons (Sm.enc (c := (cdL 1 cdOrd)) (v := v1.1)) (Sl.cons (Sm.enc (c := cdSeated) (v := (x1, x3))) (Sl.cons (Sm.enc (c := cdSeated) (v := (x2, x4))) Sl.nil))) (.inl kr) hv3 ?_
   refine RunS.segF (n := 31) E0_ok 4 [p12, p11] [p5, p4] kr ?_
   exact RunS.done rfl (Wk.sel2 [] kr kr kr trivial ⟨lu kr kr, lu kr kr, trivial⟩)
  refine Sem.ret ?_
  have hq := Option.some.inj h; subst hq
  exact ⟨⟨Fr 31 [p12, p11], []⟩, (Wk.fr kr), .inr rfl, [.v (.int .i64 v3.1), .v (.int .i64 v3.2)], kr, kr⟩
noncomputable def t_court_Reason : List AV → Option AV := told cs_court_Reason (fun a => court_Reason a.1 a.2.1 a.2.2.1 a.2.2.2.1 a.2.2.2.2.1) er_court_Reason
theorem x_court_Reason : XOk 33 t_court_Reason := by
 refine xok_of_sem Tryz.func33 (c := cb_court_Reason) ?h2 ⟨Tryz.call33⟩ cs_court_Reason (fun a => court_Reason a.1 a.2.1 a.2.2.1 a.2.2.2.1 a.2.2.2.2.1) er_court_Reason (fun a => (by show 5 ≤ 31; decide)) ?h3 ?h4
 case h2 => kernel_rfl
 case h3 => intro b; kernel_rfl
 case h4 => exact fun a b h => court_Reason_sem a.1 a.2.1 a.2.2.1 a.2.2.2.1 a.2.2.2.2.1 b h
/- trestle/court.Compare -/
noncomputable def cb_court_Compare : Code := codeOf Tryz.f34
def court_Compare (x0 : (List Clause)) (x1 : Guest) (x2 : Guest) (x3 : Int) (x4 : Int) : Option (Int) :=
 (court_Reason x0 x1 x2 x3 x4).bind fun v1 =>
 some v1.2
def cs_court_Compare : Cs ((List Clause) × Guest × Guest × Int × Int × Unit) := (csC (cdL 5 cdClause) (csC cdGuest (csC cdGuest (csC cdI (csC cdI csN)))))
def er_court_Compare (r : Int) : AV := cdI.enc r
theorem court_Compare_sem (x0 : (List Clause)) (x1 : Guest) (x2 : Guest) (x3 : Int) (x4 : Int) (r : Int) (h : court_Compare x0 x1 x2 x3 x4 = some r) : Sem E0 ⟨none, false⟩ cb_court_Compare ⟨Fr 23 (pairs0 0 (cs_court_Compare.enc (x0, x1, x2, x3, x4, ()))), []⟩ fun e s' => (e = .normal ∨ e = .ret) ∧ ∃ xs, resA E0.P s'.fr s'.hp Tryz.f34.results.toList = some xs ∧ retA xs = er_court_Compare r := by
 unfold court_Compare at h
 let p1 : Nat × AV := (0, .sl 5 (x0.map cdClause.enc))
 refine Sem.wkQ (Sem.wk (s1 := ⟨Fr 23 [p1, (1, cdGuest.enc x1), (2, cdGuest.enc x2), (3, .v (.int .i64 x3)), (4, .v (.int .i64 x4))], []⟩) (Wk.fr kr) ?_)
 let p2 : Option Blk := some ⟨9, 44, [cdGuest.enc x2], false⟩
 let p3 : Option Blk := some ⟨9, 44, [cdGuest.enc x1], false⟩
 refine Sem.sq E0_ok [p1, (3, .v (.int .i64 x3)), (4, .v (.int .i64 x4)), (6, .pt 0 0 0), (7, .pt 1 0 0)] [p3, p2] ?_
 refine Sem.seq ?_
 obtain ⟨v1, hv1, h⟩ := Option.bind_eq_some_iff.1 h
 refine Sem.runS (s1 := ⟨Fr 23 [(12, .v (.int .i64 v1.2))], []⟩) ?_ ?_
 ·refine RunS.segF (n := 23) E0_ok 5 [(14, .sl 5 (x0.map cdClause.enc)), (15, cdGuest.enc x1), (16, cdGuest.enc x2), (17, .v (.int .i64 x3)), (18, .v (.int .i64 x4))] [p3, p2] kr ?_
  refine RunS.callV (caps := []) (xs := [.sl 5 (x0.map cdClause.enc), cdGuest.enc x1, cdGuest.enc x2, .v (.int .i64 x3), .v (.int .i64 x4)]) (u := (x0, x1, x2, x3, x4, ())) rfl rfl x_court_Reason rfl (wantedA_none rfl) kr kr (Sl.cons (Sm.enc (c := (cdL 5 cdClause)) (v := x0)) (Sl.cons (Sm.enc (c := cdGuest) (v := x1)) (Sl.cons (Sm.enc (c := cdGuest) (v := x2)) (Sl.cons (Sm.enc (c := cdI) (v := x3)) (Sl.cons (Sm.enc (c := cdI) (v := x4)) Sl.nil))))) (.inl kr) hv1 ?_
  refine RunS.segF (n := 23) E0_ok 5 [(12, .v (.int .i64 v1.2))] [p3, p2] kr ?_
  exact RunS.done rfl (Wk.sel2 [] kr kr kr trivial ⟨lu kr kr, trivial⟩)
 refine Sem.sq E0_ok [(10, .v (.int .i64 v1.2))] [] ?_
 refine Sem.ret ?_
 have hq := Option.some.inj h; subst hq
 exact ⟨⟨Fr 23 [(10, .v (.int .i64 v1.2))], []⟩, (Wk.fr kr), .inr rfl, [.v (.int .i64 v1.2)], kr, kr⟩
def t_court_Compare : List AV → Option AV := told cs_court_Compare (fun a => court_Compare a.1 a.2.1 a.2.2.1 a.2.2.2.1 a.2.2.2.2.1) er_court_Compare
theorem x_court_Compare : XOk 34 t_court_Compare := by
 refine xok_of_sem Tryz.func34 (c := cb_court_Compare) ?h2 ⟨Tryz.call34⟩ cs_court_Compare (fun a => court_Compare a.1 a.2.1 a.2.2.1 a.2.2.2.1 a.2.2.2.2.1) er_court_Compare (fun a => (by show 5 ≤ 23; decide)) ?h3 ?h4
 case h2 => kernel_rfl
 case h3 => intro b; kernel_rfl
 case h4 => exact fun a b h => court_Compare_sem a.1 a.2.1 a.2.2.1 a.2.2.2.1 a.2.2.2.2.1 b h
section
variable {E : Env} {w w' : World} {Z Z' : Nat → Prop} {R R' : List RI} {h h' : Hp} {base : Bs} {s s' : St} {a : Act} {n : Nat}
/-- What a deferred call must bring about when the function below returns: nothing but new blocks. -/
def DefOk (P : Program) (g : FuncId) (us : List Value) : Prop := ∀ w1, CallsDIn (Fw none) 0 P g us.toArray .returning w1 fun e u' w2 => match e with | .returned _ => settle u' = .returning ∧ w1.grownBy w2 none | _ => False
theorem SR.grown {D : List Deferred} {b' : Bs} (sr : SR E base w Z R s a) (hb : b'.n = base.n) (hg : w.grownBy w' none) (hm : MksD base.n w Z R s.hp D b'.D) : SR E b' w' Z R s { a with defers := D } := by
 have hz : ∀ c, Z c → w'.heap[c]? = w.heap[c]? := fun c hc => hg.block c (sr.hh.zlt c hc) (by simp)
 refine ⟨sr.hh.keep hg.size (fun c hc => hg.block c hc (by simp)), sr.fr.off hz, ?_, sr.gl.off hz, by rw [hb]; exact Nat.le_trans sr.bs hg.size⟩
 show MksD b'.n _ _ _ _ _ _
 rw [hb]
 exact MksD.imp (fun r h1 h2 h3 => ⟨(hg.block r (heapLt h1) (by simp)).trans h1, h2, h3⟩) hm
theorem leaves_one {d : Deferred} {g : FuncId} {fv : _} {cap : Array Value} {us : List Value} (hbD : base.D = [d]) (ht : d.target = .fn fv cap) (hinv : ∀ w1, (invoke d.target d.args).run E.P w1 = .ok (.enter g us.toArray) w1) (hcall : DefOk E.P g us) {fn : Func} {S : Value → World → Prop} {xs : List AV} (hres : resA E.P s.fr s.hp fn.results.toList = some xs)
  (hS : ∀ w' u, w.heap.size ≤ w'.heap.size → w'.os = w.os → w'.tape = w.tape → w'.output = w.output → (∀ c, c < base.n → w'.heap[c]? = w.heap[c]?) → HR w' Z R s.hp → VR w' Z R (retA xs) u → S u w') :
  ∀ {D : List Deferred} {w1 : World}, SR E base w1 Z R s { a with defers := D } → w1.heap.size = w.heap.size → w1.os = w.os → w1.tape = w.tape → w1.output = w.output → (∀ c, c < base.n → w1.heap[c]? = w.heap[c]?) →
  LeavesInM (Fw none) 0 E.P fn a.tmps (fun e w' => match e with | .returned v => S v w' | _ => False) D .returning w1
 | [], w1, sr, hz, ho, ht', hp, hb => by
  have := sr.mks
  unfold Mks MksD at this
  rw [hbD] at this
  cases this
 | d' :: D, w1, sr, hz, ho, ht', hp, hb => by
  rcases sr.mks with ⟨Ds', e, hno, hD⟩ | ⟨⟨r, h1, h2, h3, h4, h5, h6⟩, hD⟩
  ·rw [hbD] at e
   injection e with e1 e2
   subst e1 e2
   refine ⟨by simp, .inr ⟨(fun h => by cases h), fv, cap, g, us.toArray, ht, hinv w1, fun _ _ => trivial, CallsDIn.mono (hcall w1) fun e u' w2 he => ?_⟩⟩
   cases e with
   | returned v =>
    obtain ⟨k1, k2⟩ := he
    dsimp only
    rw [k1]
    refine leaves_mks (base := ⟨base.n, []⟩) (w := w2) rfl hres (fun w3 u g1 g2 g3 g4 g5 g6 g7 => hS w3 u ?_ (g2.trans (k2.os.trans ho)) (g3.trans (k2.tape.trans ht')) (g4.trans (k2.output.trans hp)) (fun c hc => ?_) g6 g7) (sr.grown (b' := ⟨base.n, []⟩) rfl k2 hD) rfl rfl rfl rfl (fun _ _ => rfl)
    ·rw [g1, ← hz]; exact k2.size
    ·rw [g5 c hc, k2.block c (Nat.lt_of_lt_of_le hc sr.bs) (by simp)]; exact hb c hc
   | panicked c => exact he.elim
   | outgrown => exact he.elim
  ·subst h2
   have hb' : ∀ c, (Z c ∨ own R s.hp c) → (w1.putObj r (.deferred none)).heap[c]? = w1.heap[c]? := fun c hc => put_ne (fun e => by subst e; exact hc.elim h4 h5)
   exact ⟨by simp, .inl ⟨r, w1.putObj r (.deferred none), rfl, run_takeDeferred h3, leaves_one hbD ht hinv hcall hres hS ⟨sr.hh.off (put_size _ _ _) hb', sr.fr.off fun c hc => hb' c (.inl hc), MksD.put hD h6, sr.gl.off fun c hc => hb' c (.inl hc), by rw [put_size]; exact sr.bs⟩ (by rw [put_size]; exact hz) ho ht' hp (fun c hc => (put_ne (by omega)).trans (hb c hc))⟩⟩
/-- The frame at the entry. -/
theorem sr_init {fn : Func} {args : List AV} {us : List Value} (hh : HR w Z R h) (hv : VRs w Z R args us) (hg : GI E w Z) : SR E (.of w.heap.size) w Z R ⟨args.map some ++ List.replicate (fn.ntmps - args.length) (some (.tp [])), h⟩ { tmps := us.toArray ++ Array.replicate (fn.ntmps - us.toArray.size) undef, defers := [] } := by
 have hul : us.length = args.length := hv.len
 refine ⟨hh, ⟨by simp [hul], fun t x hx => ?_⟩, rfl, hg, Nat.le_refl _⟩
 have e0 : us.toArray ++ Array.replicate (fn.ntmps - us.toArray.size) undef = (us ++ List.replicate (fn.ntmps - us.length) undef).toArray := by simp
 rw [e0, Array.getD_eq_getD_getElem?, List.getElem?_toArray]
 by_cases ht : t < args.length
 ·rw [List.getElem?_append_left (by simpa using ht), List.getElem?_map] at hx
  rw [List.getElem?_append_left (by omega)]
  cases hat : args[t]? with
  | none => rw [hat] at hx; cases hx
  | some q =>
   rw [hat] at hx
   have hx := Option.some.inj (Option.some.inj hx)
   subst hx
   obtain ⟨u, hu1, hu2⟩ := hv.get hat
   rw [hu1]; exact hu2
 ·rw [List.getElem?_append_right (by simp; omega), List.getElem?_replicate] at hx
  split at hx
  ·next hlt =>
   have hx := Option.some.inj (Option.some.inj hx)
   subst hx
   rw [List.getElem?_append_right (by omega), List.getElem?_replicate, if_pos (by rw [hul]; simpa using hlt)]
   exact .tp (us := []) rfl (fun i x u hx => by simp at hx)
  ·cases hx
/-- A function whose body is: A; B; a closure is made and deferred; the rest. -/
theorem defer_ret (hE : EnvOk E) {f g : FuncId} {fn : Func} {A B rest : Code} {id : Nat} {o1 o2 : Oper} {args cs xs : List AV} {s1 s2 s3 s4 : St} {ex : Ex} {p : Operand} {tys : Array TypeId} {us : List Value}
  (hf : E.P.funcs[f]? = some fn) (hb : fn.body = some (.seq A (.seq B (.seq (.region id #[o1, o2] false) rest)))) (hdA : drawOk A = true) (hdB : drawOk B = true) (hdR : drawOk rest = true)
  (eA : evC E n ⟨none, false⟩ A ⟨args.map some ++ List.replicate (fn.ntmps - args.length) (some (.tp [])), h⟩ = some (.normal, s1)) (eB : evC E n ⟨none, false⟩ B s1 = some (.normal, s2)) (hg1 : o1.guard = none) (e1 : op1 E (evC E n) ⟨none, false⟩ o1 s2 = some s3) (hg2 : o2.guard = none) (ho2 : o2.op = .defer ⟨.value p, #[], tys⟩) (hd2 : o2.dst = none) (hp : opA E s3.fr p = some (.fn g [] cs))
  (eR : evC E n ⟨none, false⟩ rest s3 = some (ex, s4)) (hex : ex = .normal ∨ ex = .ret) (hres : resA E.P s4.fr s4.hp fn.results.toList = some xs) (hcl : Callable E.P g) (hdef : ∀ us : List Value, us.length = cs.length → DefOk E.P g us)
  (hh : HR w Z R h) (hv : VRs w Z R args us) (hg : GI E w Z) : RetTo E f us w Z R h (retA xs) s4.hp := by
 have hCS := (code_sound hE n).1
 refine callsIn_wide.1 (callsIn_of_wp_marks (F := Fw none) (n := 0) hf hb trivial ?_)
 refine wpIn_seq (hCS _ A _ .normal s1 hdA eA none (.of w.heap.size) _ _ w Z R (fun _ => rfl) (sr_init hh hv hg) (fun y hy => by cases hy) fun a1 w1 Z1 R1 sr1 st1 => ?_)
 refine wpIn_seq (hCS _ B _ .normal s2 hdB eB none (.of w.heap.size) _ _ w1 Z1 R1 (fun _ => rfl) sr1 (fun y hy => by cases hy) fun a2 w2 Z2 R2 sr2 st2 => ?_)
 refine wpIn_seq (wpIn_region_list ?_)
 unfold wpListIn
 rw [if_pos (by simp [Region.wanted, hg1])]
 refine lw_wpIn none (op1_lw hE hCS e1 sr2 fun a3 w3 Z3 R3 sr3 st3 => ?_)
 unfold wpListIn
 rw [if_pos (by simp [Region.wanted, hg2])]
 have hvf := opA_vr sr3 p _ hp
 generalize hva : a3.eval p = va at hvf
 cases hvf with
 | fn hl hl' hx hy =>
  rename_i u1 u2
  have e1' : u1 = [] := by simpa using hl
  subst e1'
  have hrun : (o2.semAt (Fw none).round a3.eval).run E.P w3 = .ok (.defer ⟨.fn (.func g) u2.toArray, #[]⟩) w3 := by
   show (o2.semAt none a3.eval).run E.P w3 = _
   rw [Oper.semAt_none]
   simp [execOp, ho2, resolve, hva, Deferred.ofValue]
  refine ⟨fun _ _ => trivial, ?_⟩
  rw [hrun, Oper.uponIn_defer, hd2]
  have sr4 : SR E ⟨w.heap.size, [⟨.fn (.func g) u2.toArray, #[]⟩]⟩ w3 Z3 R3 s3 { a3 with defers := ⟨.fn (.func g) u2.toArray, #[]⟩ :: a3.defers } := by
   refine ⟨sr3.hh, sr3.fr, .inl ⟨_, rfl, fun r h => ?_, sr3.mks⟩, sr3.gl, sr3.bs⟩
   unfold mark at h
   injection h with h
   cases h
  refine hCS _ rest _ ex s4 hdR eR none ⟨w.heap.size, [⟨.fn (.func g) u2.toArray, #[]⟩]⟩ _ _ w3 Z3 R3 (fun _ => rfl) sr4 (fun y hy => by cases hy) fun a5 w5 Z5 R5 sr5 st5 => ?_
  have st := ((st1.trans st2).trans st3).trans st5
  have hle := leaves_one (base := ⟨w.heap.size, [⟨.fn (.func g) u2.toArray, #[]⟩]⟩) (w := w5) (a := a5) (fn := fn) (g := g) (us := u2) rfl rfl (fun w1 => by simp [invoke, hcl.run]) (hdef u2 hl') (S := fun v w'' => ∃ Z' R', HR w'' Z' R' s4.hp ∧ VR w'' Z' R' (retA xs) v ∧ Step w Z R h w'' Z' R' s4.hp) hres (fun w'' u g1 g2 g3 g4 g5 g6 g7 => ⟨Z5, R5, g6, g7, ⟨g2.trans st.os, g3.trans st.tape, g4.trans st.output, Nat.le_trans st.size g1, fun c hc hn => (g5 c hc).trans (st.block c hc hn), st.own_, st.z, st.z', st.r⟩⟩) (D := a5.defers) (w1 := w5) sr5 rfl rfl rfl rfl (fun _ _ => rfl)
  rcases hex with rfl | rfl
  ·exact hle
  ·exact hle
end
/-- Operations of a deferred call, where nothing is to be recovered. -/
def dfOps (E : Env) : List Oper → St → Option St
 | [], s => some s
 | o :: rest, s => match o.guard with
  | some _ => none
  | none => match o.op with
   | .call ⟨.builtin .recover, _, _⟩ => dfOps E rest ⟨putA s.fr o.dst (.v .nilIface), s.hp⟩
   | .typeAssert x _ u true => match opA E s.fr x, E.P.underlying u, tyZero E.P u with
    | some (.v .nilIface), some _, some z => dfOps E rest ⟨putA s.fr o.dst (.tp [z, .v (.bool false)]), s.hp⟩
    | _, _, _ => none
   | .store t p q => match o.dst, opA E s.fr p, opA E s.fr q with
    | none, some y, some z => match evStore E.P s.hp t y z with
     | some h => dfOps E rest ⟨s.fr, h⟩
     | none => none
    | _, _, _ => none
   | op => match evOpQ E.P (opA E s.fr) s.hp op with
    | some x => dfOps E rest ⟨putA s.fr o.dst x, s.hp⟩
    | none => match evOpN E.P (opA E s.fr) s.hp op with
     | some (x, h) => dfOps E rest ⟨putA s.fr o.dst x, h⟩
     | none => none
section
variable {E : Env} {base : Bs} {ops : Array Oper} {Q : Exit → Act → List Frame → World → Prop} {cs : List Frame} {D : List Deferred} {s' : St}
theorem put_defers (a : Act) (d : Option Tmp) (u : Value) : (a.put d u).defers = a.defers := by cases d <;> rfl
theorem ta_run {P : Program} {t u : TypeId} {d : TypeDesc} {v : Value} {w : World} (hu : P.underlying u = some d) (hz : ∀ w, (zeroValue u).run P w = .ok v w) : (Instr.typeAssert .nilIface t u true).run P w = .ok (.tuple #[v, .bool false]) w := by
 unfold Instr.typeAssert
 rw [Sem.run_bind, run_underlying hu]
 cases d <;> simp [hz, Result.andThen]
theorem dfOps_sound (hrec : recoverD cs = none) : ∀ {rest : List Oper} {s : St} {a : Act} {w : World} {Z : Nat → Prop} {R : List RI} {k : Nat}, dfOps E rest s = some s' → SR E base w Z R s a → a.defers = D → (∀ j, rest[j]? = ops[k + j]?) →
  (∀ a' w' Z' R', SR E base w' Z' R' s' a' → a'.defers = D → Step w Z R s.hp w' Z' R' s'.hp → Q .normal a' cs w') → wpOpsSIn (Fw none) 0 E.P ops Q (List.range' k rest.length) a cs w
 | [], s, a, w, Z, R, k, e, sr, hD, hops, q => by
  injection e with e; subst e
  exact q a w Z R sr hD (Step.refl _ _ _ _)
 | o :: rest, s, a, w, Z, R, k, e, sr, hD, hops, q => by
  have hok : ops[k]? = some o := by have := hops 0; simpa using this.symm
  have hops' : ∀ j, rest[j]? = ops[k + 1 + j]? := fun j => by have := hops (j + 1); simpa [Nat.add_assoc, Nat.add_comm 1 j] using this
  have hρ : ∀ o x, opA E s.fr o = some x → VR w Z R x (a.eval o) := fun o x e => opA_vr sr o x e
  unfold dfOps at e
  split at e
  ·cases e
  ·next hg =>
   rw [List.length_cons, List.range'_succ]
   unfold wpOpsSIn
   rw [hok]
   dsimp only
   refine ⟨fun _ _ => trivial, ?_⟩
   rw [if_pos (by simp [Region.wanted, hg])]
   have val : ∀ {x : AV} {h' : Hp}, Ld E.P w Z R s.hp x h' a.eval o → dfOps E rest ⟨putA s.fr o.dst x, h'⟩ = some s' → (match (execOp a.eval o).run E.P w with
    | .ok .recover w' => (match recoverD cs with
     | some (v, cs') => wpOpsSIn (Fw none) 0 E.P ops Q (List.range' (k + 1) rest.length) (a.put o.dst v) cs' w'
     | none => wpOpsSIn (Fw none) 0 E.P ops Q (List.range' (k + 1) rest.length) (a.put o.dst .nilIface) cs w')
    | .ok (.value v) w' => wpOpsSIn (Fw none) 0 E.P ops Q (List.range' (k + 1) rest.length) (a.put o.dst v) cs w'
    | .ok .skip w' => wpOpsSIn (Fw none) 0 E.P ops Q (List.range' (k + 1) rest.length) (a.put o.dst undef) cs w'
    | .halt (.panic v) w' => Q (.panic [{ v, recovered := false }]) a cs w'
    | _ => False) := fun {x h'} hl e => by
    obtain ⟨u, w', R', h1, h2, h3, h4⟩ := hl
    rw [h1]
    exact dfOps_sound hrec e ((sr.step h2 h4).put h3) ((put_defers _ _ _).trans hD) hops' fun a' w'' Z'' R'' sr'' hD'' st => q a' w'' Z'' R'' sr'' hD'' (h4.trans st)
   split at e
   ·next b c ho =>
    have hr : (execOp a.eval o).run E.P w = .ok .recover w := by
     simp [execOp, ho, resolve, invoke]
     rfl
    rw [hr]
    dsimp only
    rw [hrec]
    exact dfOps_sound hrec e (sr.put (.v rfl)) ((put_defers _ _ _).trans hD) hops' q
   ·next x t u ho =>
    split at e
    ·next d z hx hu hz =>
     have hv := (hρ _ _ hx).v_inv
     obtain ⟨v, hv1, _, hrun, _⟩ := run_zero' (w := w) (Z := Z) (R := R) hz
     refine val (x := .tp [z, .v (.bool false)]) (h' := s.hp) ⟨.tuple #[v, .bool false], w, R, ?_, sr.hh, .tp (us := [v, .bool false]) rfl (fun i x u hx hu => ?_), Step.refl _ _ _ _⟩ e
     ·simp only [execOp, ho, hv]
      rw [Sem.run_bind, ta_run hu hrun]
      rfl
     ·match i with
      | 0 => simp at hx hu; subst hx hu; exact hv1
      | 1 => simp at hx hu; subst hx hu; exact .v rfl
      | i + 2 => simp at hx
    ·cases e
   ·next t p r ho =>
    split at e
    ·next y z hd hp hq =>
     split at e
     ·next h' hst =>
      obtain ⟨w', h1, h2, h3⟩ := evStore_sound hρ sr.hh ho hp hq hst
      rw [h1, hd]
      dsimp only
      exact dfOps_sound hrec e (sr.step h2 h3) hD hops' fun a' w'' Z'' R'' sr'' hD'' st => q a' w'' Z'' R'' sr'' hD'' (h3.trans st)
     ·cases e
    ·cases e
   ·split at e
    ·next x hx => exact val ((evOpQ_sound sr.hh hρ hx).ld sr.hh) e
    ·split at e
     ·next x h' hx => exact val (evOpN_sound hρ sr.hh hx).ld e
     ·cases e
/-- A deferred closure of the form: what it recovers is looked at; where it was nothing, nothing is done. -/
theorem def_rc {g : FuncId} {fn : Func} {id0 id1 : Nat} {ops0 ops1 : Array Oper} {x : Operand} {X : Code} {s1 s2 : St} {us : List Value} (hG : ∀ q, E.G q = none) (hf : E.P.funcs[g]? = some fn) (hb : fn.body = some (.seq (.region id0 ops0 false) (.seq (.region id1 ops1 false) (.cond x X .skip)))) (hres : fn.results = #[])
  (e1 : dfOps E ops0.toList ⟨List.replicate fn.ntmps none, []⟩ = some s1) (e2 : dfOps E ops1.toList s1 = some s2) (ht : opA E s2.fr x = some (.v (.bool false))) (hl : us.length ≤ fn.ntmps) : DefOk E.P g us := by
 intro w1
 refine callsDIn_of_wpSIn hf hb trivial fun c₀ cs hm => ?_
 have hrec : recoverD (c₀ :: cs) = none := by simp [recoverD, hm]
 have sr0 : SR E (.of w1.heap.size) w1 (fun _ => False) [] ⟨List.replicate fn.ntmps none, []⟩ { tmps := us.toArray ++ Array.replicate (fn.ntmps - us.toArray.size) undef, defers := [] } :=
  ⟨hr_nil (fun _ h => h.elim), ⟨by simp; omega, fun t x hx => by simp [List.getElem?_replicate] at hx⟩, rfl, (fun q y hy => by rw [hG] at hy; cases hy), Nat.le_refl _⟩
 refine wpSIn_seq (wpSIn_region ?_)
 rw [List.range_eq_range', show ops0.size = ops0.toList.length by simp]
 refine dfOps_sound hrec (rest := ops0.toList) (k := 0) (D := []) e1 sr0 rfl (fun j => by simp) fun a2 w2 Z2 R2 sr2 hD2 st2 => ?_
 show (Code.seq _ _).wpSIn _ _ _ _ _ _ _
 refine wpSIn_seq (wpSIn_region ?_)
 rw [List.range_eq_range', show ops1.size = ops1.toList.length by simp]
 refine dfOps_sound hrec (rest := ops1.toList) (k := 0) (D := []) e2 sr2 hD2 (fun j => by simp) fun a3 w3 Z3 R3 sr3 hD3 st3 => ?_
 show (Code.cond _ _ _).wpSIn _ _ _ _ _ _ _
 refine wpSIn_cond (t := false) (opA_vr sr3 _ _ ht).v_inv ?_
 refine wpSIn_of_wpIn rfl (wpIn_skip ?_)
 have st := st2.trans st3
 have h0 : (Array.mapM (rdRes a3.tmps) (#[] : Array ResultVar)).run E.P w3 = .ok #[] w3 := run_arrayL (us := []) (by simp)
 exact ⟨hD3, .returning, by rw [← hm], .tuple #[], by rw [results_eq, hres, Sem.run_bind, h0]; rfl, rfl, ⟨st.os, st.tape, st.output, st.size, fun c hc _ => st.block c hc own_nil⟩⟩
end
end Go.Proofs.YtiphapnckldpbaaGreatDoor
namespace Go.Proofs.YtiphapnckldpbaaGreatDoor
open Go.Shelf
def lays217_ren : Go.Shelf.Ren := ⟨fun | 217 => 145 | 266 => 161 | n => n, fun | 9 => 9 | 5 => 5 | 3 => 3 | n => n, fun | n => n⟩
theorem lays217 : Go.Proofs.Lays.n217 Tryz.prog lays217_ren := {
 mixed := by kernel_rfl
 f217 := Tryz.func145.trans (congrArg some (by kernel_rfl))
 f266 := Tryz.func161.trans (congrArg some (by kernel_rfl))
 t3 := Tryz.underlying3
 a3 := Tryz.isAgg3
 z3 := Tryz.sizeOf3
 v3 := Tryz.zeroValue3
 t5 := Tryz.underlying5
 a5 := Tryz.isAgg5
 z5 := Tryz.sizeOf5
 v5 := Tryz.zeroValue5
 t9 := Tryz.underlying9
 a9 := Tryz.isAgg9
 z9 := Tryz.sizeOf9
 v9 := Tryz.zeroValue9 }
def lays138_ren : Go.Shelf.Ren := ⟨fun | 138 => 30 | 195 => 82 | 218 => 83 | 143 => 84 | 219 => 126 | 217 => 145 | 225 => 146 | 224 => 147 | 267 => 148 | 266 => 161 | 314 => 162 | n => n, fun | 9 => 9 | 3 => 3 | 4 => 4 | 5 => 5 | 0 => 0 | 46 => 165 | 146 => 190 | 51 => 189 | n => n, fun | 1 => 0 | n => n⟩
theorem lays138 : Go.Proofs.Lays.n138 Tryz.prog lays138_ren := {
 mixed := by kernel_rfl
 f138 := Tryz.func30.trans (congrArg some (by kernel_rfl))
 f143 := Tryz.func84.trans (congrArg some (by kernel_rfl))
 f195 := Tryz.func82.trans (congrArg some (by kernel_rfl))
 f217 := Tryz.func145.trans (congrArg some (by kernel_rfl))
 f218 := Tryz.func83.trans (congrArg some (by kernel_rfl))
 f219 := Tryz.func126.trans (congrArg some (by kernel_rfl))
 f224 := Tryz.func147.trans (congrArg some (by kernel_rfl))
 f225 := Tryz.func146.trans (congrArg some (by kernel_rfl))
 f266 := Tryz.func161.trans (congrArg some (by kernel_rfl))
 f267 := Tryz.func148.trans (congrArg some (by kernel_rfl))
 f314 := Tryz.func162.trans (congrArg some (by kernel_rfl))
 t0 := Tryz.underlying0
 a0 := Tryz.isAgg0
 z0 := Tryz.sizeOf0
 v0 := Tryz.zeroValue0
 t3 := Tryz.underlying3
 a3 := Tryz.isAgg3
 z3 := Tryz.sizeOf3
 v3 := Tryz.zeroValue3
 t4 := Tryz.underlying4
 a4 := Tryz.isAgg4
 z4 := Tryz.sizeOf4
 v4 := Tryz.zeroValue4
 t5 := Tryz.underlying5
 a5 := Tryz.isAgg5
 z5 := Tryz.sizeOf5
 v5 := Tryz.zeroValue5
 t9 := Tryz.underlying9
 a9 := Tryz.isAgg9
 z9 := Tryz.sizeOf9
 v9 := Tryz.zeroValue9
 t46 := Tryz.underlying165
 a46 := Tryz.isAgg165
 z46 := Tryz.sizeOf165
 v46 := Tryz.zeroValue165
 t51 := Tryz.underlying189
 a51 := Tryz.isAgg189
 z51 := Tryz.sizeOf189
 v51 := Tryz.zeroValue189
 t146 := Tryz.underlying190
 a146 := Tryz.isAgg190
 z146 := Tryz.sizeOf190
 v146 := Tryz.zeroValue190
 g1 := by kernel_rfl }
open Go.RowKit Go.Lib
/-- The first place of a byte. -/
def ixB : List AV → Option AV
 | [.st s, .v (.int .u8 c)] => some (.v (.int .i64 (Lib.indexByte s c.toNat.toUInt8)))
 | _ => none
theorem ixB_ok {E : Env} (hE : EnvOk E) (hP : E.P = Tryz.prog) : EnvOk (E.withX 145 ixB) := by
 refine hE.withX (hP ▸ ⟨Tryz.call145⟩) fun xs x h w Z us _ _ hv => ?_
 unfold ixB at h
 split at h
 ·next s c =>
  injection h with h
  subst h
  obtain ⟨u1, r1, rfl, h1, hv⟩ := hv.head
  obtain ⟨u2, r2, rfl, h2, hv⟩ := hv.head
  have : r2 = [] := List.eq_nil_of_length_eq_zero hv.len
  subst this
  have e2 := h2.v_inv
  subst e2
  cases h1 with
  | st hs hn =>
   rename_i sb
   rw [hP]
   refine Calls.mono (Any.stringslite_IndexByte lays217 sb c w) fun e w' he => ?_
   obtain ⟨rfl, rfl⟩ := he
   exact ⟨pu_refl _, by rw [hs]; exact .v rfl⟩
 ·cases h
/-- How often a byte stands in a string. -/
def cntB : List AV → Option AV
 | [.st s, .st [c]] => some (.v (.int .i64 (Lib.countByte s c)))
 | _ => none
theorem cntB_ok {E : Env} (hE : EnvOk E) (hP : E.P = Tryz.prog) : EnvOk (E.withX 30 cntB) := by
 refine hE.withX (hP ▸ ⟨Tryz.call30⟩) fun xs x h w Z us _ _ hv => ?_
 unfold cntB at h
 split at h
 ·next s c =>
  injection h with h
  subst h
  obtain ⟨u1, r1, rfl, h1, hv⟩ := hv.head
  obtain ⟨u2, r2, rfl, h2, hv⟩ := hv.head
  have : r2 = [] := List.eq_nil_of_length_eq_zero hv.len
  subst this
  obtain ⟨sb, rfl, hs⟩ : ∃ sb, u1 = .string sb ∧ sb.data.toList = s := by cases h1 with | st h _ => exact ⟨_, rfl, h⟩
  obtain ⟨sc, rfl, hs2⟩ : ∃ sc, u2 = .string sc ∧ sc.data.toList = [c] := by cases h2 with | st h _ => exact ⟨_, rfl, h⟩
  have e : sc = ByteArray.mk #[c] := by
   obtain ⟨d⟩ := sc
   congr 1
   apply Array.ext'
   exact hs2
  subst e
  rw [hP]
  refine Calls.mono (Any.strings_Count_one lays138 sb c w) fun e w' he => ?_
  obtain ⟨rfl, rfl⟩ := he
  exact ⟨pu_refl _, by rw [hs]; exact .v rfl⟩
 ·cases h
/-- A call of a function that defers one closure: the closure, how many captures it has, what is handed back. -/
def dfRun (E : Env) (n : Nat) (fn : Func) (args : List AV) : Option (FuncId × Nat × AV × Hp) := match fn.body with
 | some (.seq A (.seq B (.seq (.region _ ops false) rest))) => match ops.toList with
  | [o1, o2] => match o1.guard, o2.guard, o2.dst, o2.op with
   | none, none, none, .defer ⟨.value p, dargs, _⟩ =>
    if dargs.size = 0 ∧ drawOk A = true ∧ drawOk B = true ∧ drawOk rest = true then
     match evC E n ⟨none, false⟩ A ⟨args.map some ++ List.replicate (fn.ntmps - args.length) (some (.tp [])), []⟩ with
     | some (.normal, s1) => match evC E n ⟨none, false⟩ B s1 with
      | some (.normal, s2) => match op1 E (evC E n) ⟨none, false⟩ o1 s2 with
       | some s3 => match opA E s3.fr p with
        | some (.fn g [] cs) => match evC E n ⟨none, false⟩ rest s3 with
         | some (.normal, s4) => (resA E.P s4.fr s4.hp fn.results.toList).map fun xs => (g, cs.length, retA xs, s4.hp)
         | some (.ret, s4) => (resA E.P s4.fr s4.hp fn.results.toList).map fun xs => (g, cs.length, retA xs, s4.hp)
         | _ => none
        | _ => none
       | none => none
      | _ => none
     | _ => none
    else none
   | _, _, _, _ => none
  | _ => none
 | _ => none
theorem dfRun_sound {E : Env} (hE : EnvOk E) {n : Nat} {f : FuncId} {fn : Func} {args : List AV} {g m : Nat} {x : AV} {h' : Hp} (hf : E.P.funcs[f]? = some fn) (hcl : Callable E.P g) (hdef : ∀ us : List Value, us.length = m → DefOk E.P g us) (e : dfRun E n fn args = some (g, m, x, h')) {w : World} {Z : Nat → Prop} {us : List Value} (hz : ∀ c, Z c → c < w.heap.size) (hg : GI E w Z) (hv : VRs w Z [] args us) : RetTo E f us w Z [] [] x h' := by
 unfold dfRun at e
 split at e
 ·next A B id ops rest hb =>
  split at e
  ·next o1 o2 hops =>
   split at e
   ·next p dargs tys hg1 hg2 hd2 ho2 =>
    split at e
    ·next hc =>
     obtain ⟨c1, c2, c3, c4⟩ := hc
     have hops' : ops = #[o1, o2] := by apply Array.ext'; exact hops
     have hda : dargs = #[] := Array.eq_empty_of_size_eq_zero c1
     subst hops' hda
     split at e
     ·next s1 e1 =>
      split at e
      ·next s2 e2 =>
       split at e
       ·next s3 e3 =>
        split at e
        ·next g' cs hp =>
         split at e
         ·next s4 e4 =>
          obtain ⟨xs, hxs, hxe⟩ := Option.map_eq_some_iff.1 e
          injection hxe with k1 k2; injection k2 with k2 k3; injection k3 with k3 k4
          subst k1 k2 k3 k4
          exact defer_ret hE hf hb c2 c3 c4 e1 e2 hg1 e3 hg2 ho2 hd2 hp e4 (.inl rfl) hxs hcl hdef (hr_nil hz) hv hg
         ·next s4 e4 =>
          obtain ⟨xs, hxs, hxe⟩ := Option.map_eq_some_iff.1 e
          injection hxe with k1 k2; injection k2 with k2 k3; injection k3 with k3 k4
          subst k1 k2 k3 k4
          exact defer_ret hE hf hb c2 c3 c4 e1 e2 hg1 e3 hg2 ho2 hd2 hp e4 (.inr rfl) hxs hcl hdef (hr_nil hz) hv hg
         ·cases e
        ·cases e
       ·cases e
      ·cases e
     ·cases e
    ·cases e
   ·cases e
  ·cases e
 ·cases e
/-- .. as a contract. -/
def dfX (E : Env) (n : Nat) (fn : Func) (g m : Nat) (args : List AV) : Option AV := match dfRun E n fn args with
 | some (g', m', x, h') => if g' = g ∧ m' = m then viewT h' x else none
 | none => none
theorem dfX_ok {E : Env} (hE : EnvOk E) {n : Nat} {f : FuncId} {fn : Func} {g m : Nat} (hf : E.P.funcs[f]? = some fn) (hc : Callable E.P f) (hcl : Callable E.P g) (hdef : ∀ us : List Value, us.length = m → DefOk E.P g us) : EnvOk (E.withX f (dfX E n fn g m)) := by
 refine hE.withX hc fun xs y h w Z us hz hgi hv => ?_
 unfold dfX at h
 split at h
 ·next g' m' x h' e =>
  split at h
  ·next hgm =>
   obtain ⟨rfl, rfl⟩ := hgm
   exact frz_ret (dfRun_sound hE hf hcl hdef e hz hgi hv) h
  ·cases h
 ·cases h
noncomputable def E1 : Env := (E0.withX 145 ixB).withX 30 cntB
theorem E1_ok : EnvOk E1 := cntB_ok (ixB_ok E0_ok rfl) rfl
theorem pa_def (us : List Value) (hl : us.length = 2) : DefOk E1.P 75 us :=
 def_rc (E := E1) (s1 := (dfOps E1 (match Tryz.f75.body with | some (.seq (.region _ ops _) _) => ops.toList | _ => []) ⟨List.replicate Tryz.f75.ntmps none, []⟩).getD ⟨[], []⟩) (s2 := (dfOps E1 (match Tryz.f75.body with | some (.seq _ (.seq (.region _ ops _) _)) => ops.toList | _ => []) ((dfOps E1 (match Tryz.f75.body with | some (.seq (.region _ ops _) _) => ops.toList | _ => []) ⟨List.replicate Tryz.f75.ntmps none, []⟩).getD ⟨[], []⟩)).getD ⟨[], []⟩)
  (fun _ => rfl) Tryz.func75 rfl rfl (by kernel_rfl) (by kernel_rfl) (by kernel_rfl) (by rw [hl]; decide)
noncomputable def E2 : Env := E1.withX 28 (dfX E1 3000 Tryz.f28 75 2)
theorem E2_ok : EnvOk E2 := dfX_ok E1_ok Tryz.func28 ⟨Tryz.call28⟩ ⟨Tryz.call75⟩ pa_def
def exC : List AV := [.ag [.v (.int .u8 1), .st [], .v (.bool false), .sl 1 [.st [100, 117, 107, 101], .st [99, 111, 117, 110, 116]], .v (.int .i64 0)], .ag [.v (.int .u8 2), .st [100, 117, 107, 101], .v (.bool false), .e0, .v (.int .i64 0)], .ag [.v (.int .u8 4), .st [], .v (.bool false), .e0, .v (.int .i64 1)], .ag [.v (.int .u8 8), .st [], .v (.bool false), .e0, .v (.int .i64 0)]]
def exG : List AV := [.ag [.st [97, 100, 97], .st [99, 111, 117, 110, 116], .st [], .v (.int .i64 0), .v (.int .i64 2), .st [], .v (.bool false), .v (.bool false), .e0], .ag [.st [98, 101, 97], .st [100, 117, 107, 101], .st [], .v (.int .i64 1700), .v (.int .i64 0), .st [], .v (.bool false), .v (.bool false), .e0], .ag [.st [99, 121, 114], .st [100, 117, 107, 101], .st [], .v (.int .i64 1650), .v (.int .i64 0), .st [], .v (.bool false), .v (.bool false), .e0], .ag [.st [100, 97, 110], .st [], .st [], .v (.int .i64 0), .v (.int .i64 1), .st [], .v (.bool false), .v (.bool false), .e0], .ag [.st [101, 118, 97], .st [99, 111, 117, 110, 116], .st [], .v (.int .i64 0), .v (.int .i64 1), .st [], .v (.bool false), .v (.bool false), .e0]]
def i4 (n : Int) : AV := .v (.int .i64 n)
def exT : List UInt8 := [114, 97, 110, 107, 32, 100, 117, 107, 101, 32, 99, 111, 117, 110, 116, 10, 97, 109, 111, 110, 103, 32, 100, 117, 107, 101, 32, 101, 108, 100, 101, 114, 10, 115, 105, 100, 101, 32, 49, 32, 102, 105, 114, 115, 116, 10, 110, 97, 109, 101, 10]
end Go.Proofs.YtiphapnckldpbaaGreatDoor
