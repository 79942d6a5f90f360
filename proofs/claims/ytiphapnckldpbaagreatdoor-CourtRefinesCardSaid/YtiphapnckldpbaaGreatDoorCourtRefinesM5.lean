/- Lemmas for the proof. -/
import Derived.Test.YtiphapnckldpbaaGreatDoorCourtRefinesM1
import Derived.Test.YtiphapnckldpbaaGreatDoorCourtRefinesM2
import Derived.Test.YtiphapnckldpbaaGreatDoorCourtRefinesM3
import Derived.Test.YtiphapnckldpbaaGreatDoorCourtRefinesM4
import Derived.Shelf.Spec.SlicesGrow
set_option maxHeartbeats 4000000
set_option maxRecDepth 100000
namespace Go.Proofs.YtiphapnckldpbaaGreatDoor
open Go.RowKit
/- trestle/court.check -/
noncomputable def cb_court_check : Code := codeOf Tryz.f79
def court_check_l1 (x0 : (List Clause)) (x1 : Clause) : Nat → Int → Option ((Unit) ⊕ (Int))
 | 0, _ => none
 | f + 1, c9 =>
  if (decide (c9 < (x1.2.2.2.1.length : Int))) = true then
  (idx x1.2.2.2.1 c9).bind fun v11 =>
  if (cutOk 0 c9 x1.2.2.2.1.length) = true then
  (slices_Contains_string_string ((x1.2.2.2.1.take c9.toNat).drop (0 : Int).toNat) v11).bind fun v13 =>
  if v13 = true then
  some (.inr 5)
  else
  court_check_l1 x0 x1 f (wr .i64 (c9 + 1))
  else none
  else
  some (.inl ())
def court_check (x0 : (List Clause)) (x1 : Clause) : Option (Int) :=
 (court_formed x1).bind fun v1 =>
 if (!v1) = true then
 some 30
 else
 (if (!(x1.2.1 == [])) = true then (court_name x1.2.1).bind fun v3 =>
 if (!v3) = true then some true else (slices_ContainsFunc_string_string__court_check_1 x1.2.2.2.1).bind fun v4 =>
 some v4 else (slices_ContainsFunc_string_string__court_check_1 x1.2.2.2.1).bind fun v5 =>
 some v5).bind fun j7 =>
 if j7 = true then
 some 4
 else
 (court_check_l1 x0 x1 100000 0).bind fun r16 =>
 match r16 with
 | (.inl w17) =>
  (if (x1.2.1 == []) = true then some true else (slices_ContainsFunc_api_Clause_api_Clause__court_check_2 x0 x1).bind fun v18 =>
  some v18).bind fun j20 =>
  if j20 = true then
  some 0
  else
  some 31
 | (.inr w23) =>
  some w23
def cs_court_check : Cs ((List Clause) × Clause × Unit) := (csC (cdL 5 cdClause) (csC cdClause csN))
def er_court_check (r : Int) : AV := cdI.enc r
theorem court_check_l1_ok (x0 : (List Clause)) (x1 : Clause) : ∀ (f : Nat) (c9 : Int) (r : (Unit) ⊕ (Int)), court_check_l1 x0 x1 f c9 = some r → SemN E0 ⟨none, false⟩ (pc cb_court_check [1, 1, 1, 0, 1, 0, 0]) f ⟨Fr 47 [(0, .sl 5 (x0.map cdClause.enc)), (3, .pt 0 0 0), (25, .sl 1 (x1.2.2.2.1.map cdS.enc)), (26, .v (.int .i64 (x1.2.2.2.1.length : Int))), (27, .v (.int .i64 c9))], [some ⟨5, 70, [cdClause.enc x1], false⟩]⟩ (fun e s => match r with
 | (.inl w) => e = (.exit 0) ∧ Wk E0 s ⟨Fr 47 [(0, .sl 5 (x0.map cdClause.enc)), (3, .pt 0 0 0)], [some ⟨5, 70, [cdClause.enc x1], false⟩]⟩
 | (.inr w) => e = .ret ∧ Wk E0 s ⟨Fr 47 [(4, .v (.int .i64 w))], []⟩) := by
 intro f
 induction f with
 | zero => intro c9 r h; cases h
 | succ f ih0 =>
  intro c9 r h
  have ih := fun (c9 : Int) => ih0 c9 r
  unfold court_check_l1 at h
  refine SemN.succ ?_
  let p1 : Option Blk := some ⟨5, 70, [cdClause.enc x1], false⟩
  let p2 : Nat × AV := (27, .v (.int .i64 c9))
  let p3 : Nat × AV := (26, .v (.int .i64 (x1.2.2.2.1.length : Int)))
  let p4 : Nat × AV := (25, .sl 1 (x1.2.2.2.1.map cdS.enc))
  let p5 : Nat × AV := (3, .pt 0 0 0)
  let p6 : Nat × AV := (0, .sl 5 (x0.map cdClause.enc))
  refine Sem.sq E0_ok [p6, p5, p4, p3, p2, (28, .v (.bool (decide (c9 < (x1.2.2.2.1.length : Int)))))] [p1] ?_
  refine Sem.seq ?_
  refine Sem.cond (b := (decide (c9 < (x1.2.2.2.1.length : Int)))) kr (fun hb10 => ?_) (fun hb10 => ?_)
  ·rw [if_pos hb10] at h
   refine Sem.skip ?_
   refine Sem.seq ?_
   refine Sem.block ?_
   refine Sem.seq ?_
   obtain ⟨v11, hv11, h⟩ := Option.bind_eq_some_iff.1 h
   refine Sem.runS (s1 := ⟨Fr 47 [p6, p5, (5, .v (.int .i64 c9)), (6, .st v11), p4, p3, p2], [p1]⟩) ?_ ?_
   ·refine RunS.segF (n := 47) E0_ok 1 [p6, p5, p4, p3, p2, (29, .v (.int .i64 c9))] [p1] kr ?_
    refine RunS.one E0_ok 0 rfl (op_q (wantedA_none rfl) rfl (q_indexAddr (a := .sl 1 (x1.2.2.2.1.map cdS.enc)) (b := .v (.int .i64 c9)) kr kr (ix_sl (e := cdS.enc) (el := 9) (k := 1) (ki := .i64) kr kr hv11))) ?_
    exact RunS.last E0_ok
   refine Sem.seq ?_
   by_cases hk12 : (cutOk 0 c9 x1.2.2.2.1.length) = true
   case neg => rw [if_neg hk12] at h; cases h
   rw [if_pos hk12] at h
   obtain ⟨v13, hv13, h⟩ := Option.bind_eq_some_iff.1 h
   refine Sem.runS (s1 := ⟨Fr 47 [p6, p5, p4, p3, p2, (37, .v (.bool v13))], [p1]⟩) ?_ ?_
   ·refine RunS.segF (n := 47) E0_ok 3 [p6, p5, (6, .st v11), p4, p3, p2, (33, .sl 1 (x1.2.2.2.1.map cdS.enc)), (34, .v (.int .i64 c9))] [p1] kr ?_
    refine RunS.one E0_ok 0 rfl (op_q (wantedA_none rfl) rfl (q_slice (a := .sl 1 (x1.2.2.2.1.map cdS.enc)) (l := none) (u := (some (.v (.int .i64 c9)))) (m := none) kr kr kr rfl (slice_sl (xs := x1.2.2.2.1) (e := cdS.enc) (k := 1) (el := 9) (lo := 0) (hi := c9) kr kr rfl (natB_i (cut_hi hk12)) hk12))) ?_
    refine RunS.segF (n := 47) E0_ok 1 [p6, p5, p4, p3, p2, (35, .sl 1 (((x1.2.2.2.1.take c9.toNat).drop (0 : Int).toNat).map cdS.enc)), (36, .st v11)] [p1] kr ?_
    refine RunS.callV (caps := []) (xs := [.sl 1 (((x1.2.2.2.1.take c9.toNat).drop (0 : Int).toNat).map cdS.enc), .st v11]) (u := (((x1.2.2.2.1.take c9.toNat).drop (0 : Int).toNat), v11, ())) rfl rfl x_slices_Contains_string_string rfl (wantedA_none rfl) kr kr (Sl.cons (Sm.enc (c := (cdL 1 cdS)) (v := ((x1.2.2.2.1.take c9.toNat).drop (0 : Int).toNat))) (Sl.cons (Sm.enc (c := cdS) (v := v11)) Sl.nil)) (.inl kr) hv13 ?_
    exact RunS.done rfl (Wk.sel2 [0] kr kr kr ⟨⟨_, rfl, bu_c kr kr⟩, trivial⟩ ⟨lu kr kr, lu kr kr, lu kr kr, lu kr kr, lu kr kr, lu kr kr, trivial⟩)
   refine Sem.cond (b := v13) kr (fun hb14 => ?_) (fun hb14 => ?_)
   ·rw [if_pos hb14] at h
    refine Sem.seq ?_
    refine Sem.runS (s1 := ⟨Fr 47 [(4, .v (.int .i64 5))], []⟩) ?_ ?_
    ·refine RunS.segF (n := 47) E0_ok 1 [(4, .v (.int .i64 5))] [p1] kr ?_
     exact RunS.done rfl (Wk.sel2 [] kr kr kr trivial ⟨lu kr kr, trivial⟩)
    refine Sem.ret ?_
    have hq := Option.some.inj h; subst hq
    exact ⟨rfl, (Wk.fr kr)⟩
   ·rw [if_f hb14] at h
    refine Sem.skip ?_
    let p7 : Nat × AV := (27, .v (.int .i64 (wr .i64 (c9 + 1))))
    refine Sem.rg E0_ok [p6, p5, p4, p3, p7] [p1] ?_
    exact SemN.wk (s1 := ⟨Fr 47 [p6, p5, p4, p3, p7], [p1]⟩) (Wk.sel2 [0] kr kr kr ⟨⟨_, rfl, bu_c kr kr⟩, trivial⟩ ⟨lu kr kr, lu kr kr, lu kr kr, lu kr kr, lu kr kr, trivial⟩) (ih (wr .i64 (c9 + 1)) h)
  ·rw [if_f hb10] at h
   refine Sem.exit ?_
   have hq := Option.some.inj h; subst hq
   exact ⟨rfl, (Wk.sel2 [0] kr kr kr ⟨⟨_, rfl, bu_c kr kr⟩, trivial⟩ ⟨lu kr kr, lu kr kr, trivial⟩)⟩
theorem court_check_sem (x0 : (List Clause)) (x1 : Clause) (r : Int) (h : court_check x0 x1 = some r) : Sem E0 ⟨none, false⟩ cb_court_check ⟨Fr 47 (pairs0 0 (cs_court_check.enc (x0, x1, ()))), []⟩ fun e s' => (e = .normal ∨ e = .ret) ∧ ∃ xs, resA E0.P s'.fr s'.hp Tryz.f79.results.toList = some xs ∧ retA xs = er_court_check r := by
 unfold court_check at h
 refine Sem.wkQ (Sem.wk (s1 := ⟨Fr 47 [(0, .sl 5 (x0.map cdClause.enc)), (1, cdClause.enc x1)], []⟩) (Wk.fr kr) ?_)
 refine Sem.sq E0_ok [(0, .sl 5 (x0.map cdClause.enc)), (3, .pt 0 0 0)] [some ⟨5, 70, [cdClause.enc x1], false⟩] ?_
 refine Sem.seq ?_
 refine Sem.seq ?_
 obtain ⟨v1, hv1, h⟩ := Option.bind_eq_some_iff.1 h
 refine Sem.runS (s1 := ⟨Fr 47 [(0, .sl 5 (x0.map cdClause.enc)), (3, .pt 0 0 0), (9, .v (.bool (!v1)))], [some ⟨5, 70, [cdClause.enc x1], false⟩]⟩) ?_ ?_
 ·refine RunS.segF (n := 47) E0_ok 1 [(0, .sl 5 (x0.map cdClause.enc)), (3, .pt 0 0 0), (7, cdClause.enc x1)] [some ⟨5, 70, [cdClause.enc x1], false⟩] kr ?_
  refine RunS.callV (caps := []) (xs := [cdClause.enc x1]) (u := (x1, ())) rfl rfl x_court_formed rfl (wantedA_none rfl) kr kr (Sl.cons (Sm.enc (c := cdClause) (v := x1)) Sl.nil) (.inl kr) hv1 ?_
  exact RunS.last E0_ok
 refine Sem.cond (b := (!v1)) kr (fun hb2 => ?_) (fun hb2 => ?_)
 ·rw [if_pos hb2] at h
  refine Sem.seq ?_
  refine Sem.runS (s1 := ⟨Fr 47 [(4, .v (.int .i64 30))], []⟩) ?_ ?_
  ·refine RunS.segF (n := 47) E0_ok 1 [(4, .v (.int .i64 30))] [some ⟨5, 70, [cdClause.enc x1], false⟩] kr ?_
   exact RunS.done rfl (Wk.sel2 [] kr kr kr trivial ⟨lu kr kr, trivial⟩)
  refine Sem.ret ?_
  have hq := Option.some.inj h; subst hq
  exact ⟨⟨Fr 47 [(4, .v (.int .i64 30))], []⟩, (Wk.fr kr), .inr rfl, [.v (.int .i64 30)], kr, kr⟩
 ·rw [if_f hb2] at h
  refine Sem.skip ?_
  refine Sem.seq ?_
  refine Sem.seq ?_
  obtain ⟨j7, hj7, h⟩ := Option.bind_eq_some_iff.1 h
  refine Sem.runS (s1 := ⟨Fr 47 [(0, .sl 5 (x0.map cdClause.enc)), (3, .pt 0 0 0), (23, .v (.bool j7))], [some ⟨5, 70, [cdClause.enc x1], false⟩]⟩) ?_ ?_
  ·refine RunS.segF (n := 47) E0_ok 4 [(0, .sl 5 (x0.map cdClause.enc)), (3, .pt 0 0 0), (13, .v (.bool (!(x1.2.1 == []))))] [some ⟨5, 70, [cdClause.enc x1], false⟩] kr ?_
   rcases Bool.eq_false_or_eq_true (!(x1.2.1 == [])) with hc24 | hc24
   ·rw [if_pos hc24] at hj7
    rw [hc24]
    refine RunS.segF (n := 47) E0_ok 2 [(0, .sl 5 (x0.map cdClause.enc)), (3, .pt 0 0 0), (13, .v (.bool true)), (15, .st x1.2.1)] [some ⟨5, 70, [cdClause.enc x1], false⟩] kr ?_
    obtain ⟨v3, hv3, hj7⟩ := Option.bind_eq_some_iff.1 hj7
    refine RunS.callV (caps := []) (xs := [.st x1.2.1]) (u := (x1.2.1, ())) rfl rfl x_court_name rfl kr kr kr (Sl.cons (Sm.enc (c := cdS) (v := x1.2.1)) Sl.nil) (.inl kr) hv3 ?_
    refine RunS.segF (n := 47) E0_ok 3 [(0, .sl 5 (x0.map cdClause.enc)), (3, .pt 0 0 0), (19, .v (.bool (!v3)))] [some ⟨5, 70, [cdClause.enc x1], false⟩] kr ?_
    rcases Bool.eq_false_or_eq_true (!v3) with hc25 | hc25
    ·rw [if_pos hc25] at hj7
     rw [hc25]
     refine RunS.segF (n := 47) E0_ok 4 [(0, .sl 5 (x0.map cdClause.enc)), (3, .pt 0 0 0), (23, .v (.bool true))] [some ⟨5, 70, [cdClause.enc x1], false⟩] kr ?_
     have hq := Option.some.inj hj7; subst hq
     exact RunS.done rfl (Wk.sel2 [0] kr kr kr ⟨⟨_, rfl, bu_c kr kr⟩, trivial⟩ ⟨lu kr kr, lu kr kr, lu kr kr, trivial⟩)
    ·rw [if_f hc25] at hj7
     rw [hc25]
     refine RunS.segF (n := 47) E0_ok 2 [(0, .sl 5 (x0.map cdClause.enc)), (3, .pt 0 0 0), (19, .v (.bool false)), (21, .sl 1 (x1.2.2.2.1.map cdS.enc))] [some ⟨5, 70, [cdClause.enc x1], false⟩] kr ?_
     obtain ⟨v4, hv4, hj7⟩ := Option.bind_eq_some_iff.1 hj7
     refine RunS.callV (caps := []) (xs := [.sl 1 (x1.2.2.2.1.map cdS.enc), .fn 122 [] []]) (u := (x1.2.2.2.1, (), ())) rfl rfl x_slices_ContainsFunc_string_string__court_check_1 rfl kr kr kr (Sl.cons (Sm.enc (c := (cdL 1 cdS)) (v := x1.2.2.2.1)) (Sl.cons (Sm.fn Sl.nil) Sl.nil)) (.inl kr) hv4 ?_
     refine RunS.segF (n := 47) E0_ok 1 [(0, .sl 5 (x0.map cdClause.enc)), (3, .pt 0 0 0), (23, .v (.bool v4))] [some ⟨5, 70, [cdClause.enc x1], false⟩] kr ?_
     have hq := Option.some.inj hj7; subst hq
     exact RunS.done rfl (Wk.sel2 [0] kr kr kr ⟨⟨_, rfl, bu_c kr kr⟩, trivial⟩ ⟨lu kr kr, lu kr kr, lu kr kr, trivial⟩)
   ·rw [if_f hc24] at hj7
    rw [hc24]
    refine RunS.segF (n := 47) E0_ok 8 [(0, .sl 5 (x0.map cdClause.enc)), (3, .pt 0 0 0), (19, .v (.bool false)), (21, .sl 1 (x1.2.2.2.1.map cdS.enc))] [some ⟨5, 70, [cdClause.enc x1], false⟩] kr ?_
    obtain ⟨v5, hv5, hj7⟩ := Option.bind_eq_some_iff.1 hj7
    refine RunS.callV (caps := []) (xs := [.sl 1 (x1.2.2.2.1.map cdS.enc), .fn 122 [] []]) (u := (x1.2.2.2.1, (), ())) rfl rfl x_slices_ContainsFunc_string_string__court_check_1 rfl kr kr kr (Sl.cons (Sm.enc (c := (cdL 1 cdS)) (v := x1.2.2.2.1)) (Sl.cons (Sm.fn Sl.nil) Sl.nil)) (.inl kr) hv5 ?_
    refine RunS.segF (n := 47) E0_ok 1 [(0, .sl 5 (x0.map cdClause.enc)), (3, .pt 0 0 0), (23, .v (.bool v5))] [some ⟨5, 70, [cdClause.enc x1], false⟩] kr ?_
    have hq := Option.some.inj hj7; subst hq
    exact RunS.done rfl (Wk.sel2 [0] kr kr kr ⟨⟨_, rfl, bu_c kr kr⟩, trivial⟩ ⟨lu kr kr, lu kr kr, lu kr kr, trivial⟩)
  refine Sem.cond (b := j7) kr (fun hb8 => ?_) (fun hb8 => ?_)
  ·rw [if_pos hb8] at h
   refine Sem.seq ?_
   refine Sem.runS (s1 := ⟨Fr 47 [(4, .v (.int .i64 4))], []⟩) ?_ ?_
   ·refine RunS.segF (n := 47) E0_ok 1 [(4, .v (.int .i64 4))] [some ⟨5, 70, [cdClause.enc x1], false⟩] kr ?_
    exact RunS.done rfl (Wk.sel2 [] kr kr kr trivial ⟨lu kr kr, trivial⟩)
   refine Sem.ret ?_
   have hq := Option.some.inj h; subst hq
   exact ⟨⟨Fr 47 [(4, .v (.int .i64 4))], []⟩, (Wk.fr kr), .inr rfl, [.v (.int .i64 4)], kr, kr⟩
  ·rw [if_f hb8] at h
   refine Sem.skip ?_
   refine Sem.seq ?_
   refine Sem.seq ?_
   refine Sem.runS (s1 := ⟨Fr 47 [(0, .sl 5 (x0.map cdClause.enc)), (3, .pt 0 0 0), (25, .sl 1 (x1.2.2.2.1.map cdS.enc)), (26, .v (.int .i64 (x1.2.2.2.1.length : Int))), (27, .v (.int .i64 0))], [some ⟨5, 70, [cdClause.enc x1], false⟩]⟩) ?_ ?_
   ·refine RunS.segF (n := 47) E0_ok 2 [(0, .sl 5 (x0.map cdClause.enc)), (3, .pt 0 0 0), (25, .sl 1 (x1.2.2.2.1.map cdS.enc))] [some ⟨5, 70, [cdClause.enc x1], false⟩] kr ?_
    refine RunS.one E0_ok 0 rfl (op_q (wantedA_none rfl) rfl (q_len (a := .sl 1 (x1.2.2.2.1.map cdS.enc)) kr (len_sl (el := 9) kr))) ?_
    exact RunS.last E0_ok
   refine Sem.block ?_
   obtain ⟨r16, hr16, h⟩ := Option.bind_eq_some_iff.1 h
   refine Sem.loop (n := 100000) ?_
   rcases r16 with w17 | w23
   ·try dsimp only at h
    refine Sem.cutN (SemN.wk (s1 := ⟨Fr 47 [(0, .sl 5 (x0.map cdClause.enc)), (3, .pt 0 0 0), (25, .sl 1 (x1.2.2.2.1.map cdS.enc)), (26, .v (.int .i64 (x1.2.2.2.1.length : Int))), (27, .v (.int .i64 0))], [some ⟨5, 70, [cdClause.enc x1], false⟩]⟩) (Wk.sel2 [0] kr kr kr ⟨⟨_, rfl, bu_c kr kr⟩, trivial⟩ ⟨lu kr kr, lu kr kr, lu kr kr, lu kr kr, lu kr kr, trivial⟩) (court_check_l1_ok x0 x1 _ 0 _ hr16)) ?_
    refine Sem.seq ?_
    refine Sem.seq ?_
    obtain ⟨j20, hj20, h⟩ := Option.bind_eq_some_iff.1 h
    refine Sem.runS (s1 := ⟨Fr 47 [(46, .v (.bool j20))], []⟩) ?_ ?_
    ·refine RunS.segF (n := 47) E0_ok 4 [(0, .sl 5 (x0.map cdClause.enc)), (3, .pt 0 0 0), (42, .v (.bool (x1.2.1 == [])))] [some ⟨5, 70, [cdClause.enc x1], false⟩] kr ?_
     rcases Bool.eq_false_or_eq_true (x1.2.1 == []) with hc22 | hc22
     ·rw [if_pos hc22] at hj20
      rw [hc22]
      refine RunS.segF (n := 47) E0_ok 4 [(46, .v (.bool true))] [some ⟨5, 70, [cdClause.enc x1], false⟩] kr ?_
      have hq := Option.some.inj hj20; subst hq
      exact RunS.done rfl (Wk.sel2 [] kr kr kr trivial ⟨lu kr kr, trivial⟩)
     ·rw [if_f hc22] at hj20
      rw [hc22]
      refine RunS.segF (n := 47) E0_ok 2 [(42, .v (.bool false)), (43, .sl 5 (x0.map cdClause.enc)), (44, .fn 124 [] [.pt 0 0 0])] [some ⟨5, 70, [cdClause.enc x1], false⟩] kr ?_
      obtain ⟨v18, hv18, hj20⟩ := Option.bind_eq_some_iff.1 hj20
      refine RunS.callV (caps := []) (xs := [.sl 5 (x0.map cdClause.enc), .fn 124 [] [.pt 0 0 0]]) (u := (x0, x1, ())) rfl rfl x_slices_ContainsFunc_api_Clause_api_Clause__court_check_2 rfl kr kr kr (Sl.cons (Sm.enc (c := (cdL 5 cdClause)) (v := x0)) (Sl.cons (Sm.fn (Sl.last (Sm.pt (k := 5) (t := 70) (fz := false) (y := (cdClause.enc x1)) kr (Sm.enc (c := cdClause) (v := x1))))) Sl.nil)) (.inl kr) hv18 ?_
      refine RunS.segF (n := 47) E0_ok 1 [(46, .v (.bool v18))] [some ⟨5, 70, [cdClause.enc x1], false⟩] kr ?_
      have hq := Option.some.inj hj20; subst hq
      exact RunS.done rfl (Wk.sel2 [] kr kr kr trivial ⟨lu kr kr, trivial⟩)
    refine Sem.cond (b := j20) kr (fun hb21 => ?_) (fun hb21 => ?_)
    ·rw [if_pos hb21] at h
     refine Sem.sq E0_ok [(4, .v (.int .i64 0))] [] ?_
     refine Sem.ret ?_
     have hq := Option.some.inj h; subst hq
     exact ⟨⟨Fr 47 [(4, .v (.int .i64 0))], []⟩, (Wk.fr kr), .inr rfl, [.v (.int .i64 0)], kr, kr⟩
    ·rw [if_f hb21] at h
     refine Sem.skip ?_
     refine Sem.sq E0_ok [(4, .v (.int .i64 31))] [] ?_
     refine Sem.ret ?_
     have hq := Option.some.inj h; subst hq
     exact ⟨⟨Fr 47 [(4, .v (.int .i64 31))], []⟩, (Wk.fr kr), .inr rfl, [.v (.int .i64 31)], kr, kr⟩
   ·try dsimp only at h
    refine Sem.cutN (SemN.wk (s1 := ⟨Fr 47 [(0, .sl 5 (x0.map cdClause.enc)), (3, .pt 0 0 0), (25, .sl 1 (x1.2.2.2.1.map cdS.enc)), (26, .v (.int .i64 (x1.2.2.2.1.length : Int))), (27, .v (.int .i64 0))], [some ⟨5, 70, [cdClause.enc x1], false⟩]⟩) (Wk.sel2 [0] kr kr kr ⟨⟨_, rfl, bu_c kr kr⟩, trivial⟩ ⟨lu kr kr, lu kr kr, lu kr kr, lu kr kr, lu kr kr, trivial⟩) (court_check_l1_ok x0 x1 _ 0 _ hr16)) ?_
    have hq := Option.some.inj h; subst hq
    exact ⟨⟨Fr 47 [(4, .v (.int .i64 w23))], []⟩, (Wk.fr kr), .inr rfl, [.v (.int .i64 w23)], kr, kr⟩
def t_court_check : List AV → Option AV := told cs_court_check (fun a => court_check a.1 a.2.1) er_court_check
theorem x_court_check : XOk 79 t_court_check := by
 refine xok_of_sem Tryz.func79 (c := cb_court_check) ?h2 ⟨Tryz.call79⟩ cs_court_check (fun a => court_check a.1 a.2.1) er_court_check (fun a => (by show 2 ≤ 47; decide)) ?h3 ?h4
 case h2 => kernel_rfl
 case h3 => intro b; kernel_rfl
 case h4 => exact fun a b h => court_check_sem a.1 a.2.1 b h
/- trestle/court.Check -/
noncomputable def cb_court_Check : Code := codeOf Tryz.f52
def court_Check_l1 (x0 : (List Clause)) : Nat → Int → Option ((Unit) ⊕ (Int × Int))
 | 0, _ => none
 | f + 1, c2 =>
  if (decide (c2 < (x0.length : Int))) = true then
  (idx x0 c2).bind fun v4 =>
  if (cutOk 0 c2 x0.length) = true then
  (court_check ((x0.take c2.toNat).drop (0 : Int).toNat) v4).bind fun v6 =>
  if (v6 != 0) = true then
  some (.inr (c2, v6))
  else
  court_Check_l1 x0 f (wr .i64 (c2 + 1))
  else none
  else
  some (.inl ())
def court_Check (x0 : (List Clause)) : Option (Int × Int) :=
 if (decide ((x0.length : Int) > 32)) = true then
 some (0, 7)
 else
 (court_Check_l1 x0 100000 0).bind fun r10 =>
 match r10 with
 | (.inl w11) =>
  some (0, 0)
 | (.inr w12) =>
  some (w12.1, w12.2)
def cs_court_Check : Cs ((List Clause) × Unit) := (csC (cdL 5 cdClause) csN)
def er_court_Check (r : Int × Int) : AV := .tp [cdI.enc r.1, cdI.enc r.2]
theorem court_Check_l1_ok (x0 : (List Clause)) : ∀ (f : Nat) (c2 : Int) (r : (Unit) ⊕ (Int × Int)), court_Check_l1 x0 f c2 = some r → SemN E0 ⟨none, false⟩ (pc cb_court_Check [1, 1, 0, 1, 0, 0]) f ⟨Fr 27 [(0, .sl 5 (x0.map cdClause.enc)), (10, .sl 5 (x0.map cdClause.enc)), (11, .v (.int .i64 (x0.length : Int))), (12, .v (.int .i64 c2))], []⟩ (fun e s => match r with
 | (.inl w) => e = (.exit 0) ∧ Wk E0 s ⟨Fr 27 [], []⟩
 | (.inr w) => e = .ret ∧ Wk E0 s ⟨Fr 27 [(2, .v (.int .i64 w.1)), (3, .v (.int .i64 w.2))], []⟩) := by
 intro f
 induction f with
 | zero => intro c2 r h; cases h
 | succ f ih0 =>
  intro c2 r h
  have ih := fun (c2 : Int) => ih0 c2 r
  unfold court_Check_l1 at h
  refine SemN.succ ?_
  let p1 : Nat × AV := (12, .v (.int .i64 c2))
  let p2 : Nat × AV := (11, .v (.int .i64 (x0.length : Int)))
  let p3 : Nat × AV := (10, .sl 5 (x0.map cdClause.enc))
  let p4 : Nat × AV := (0, .sl 5 (x0.map cdClause.enc))
  refine Sem.sq E0_ok [p4, p3, p2, p1, (13, .v (.bool (decide (c2 < (x0.length : Int)))))] [] ?_
  refine Sem.seq ?_
  refine Sem.cond (b := (decide (c2 < (x0.length : Int)))) kr (fun hb3 => ?_) (fun hb3 => ?_)
  ·rw [if_pos hb3] at h
   refine Sem.skip ?_
   refine Sem.seq ?_
   refine Sem.block ?_
   refine Sem.seq ?_
   obtain ⟨v4, hv4, h⟩ := Option.bind_eq_some_iff.1 h
   let p5 : Option Blk := some ⟨5, 70, [cdClause.enc v4], false⟩
   let p6 : Nat × AV := (4, .v (.int .i64 c2))
   refine Sem.runS (s1 := ⟨Fr 27 [p4, p6, (5, .pt 0 0 0), p3, p2, p1], [p5]⟩) ?_ ?_
   ·refine RunS.segF (n := 27) E0_ok 1 [p4, p3, p2, p1, (14, .v (.int .i64 c2))] [] kr ?_
    refine RunS.one E0_ok 0 rfl (op_q (wantedA_none rfl) rfl (q_indexAddr (a := .sl 5 (x0.map cdClause.enc)) (b := .v (.int .i64 c2)) kr kr (ix_sl (e := cdClause.enc) (el := 70) (k := 5) (ki := .i64) kr kr hv4))) ?_
    exact RunS.last E0_ok
   refine Sem.seq ?_
   by_cases hk5 : (cutOk 0 c2 x0.length) = true
   case neg => rw [if_neg hk5] at h; cases h
   rw [if_pos hk5] at h
   obtain ⟨v6, hv6, h⟩ := Option.bind_eq_some_iff.1 h
   let p7 : Nat × AV := (6, .v (.int .i64 v6))
   refine Sem.runDS E0_ok (s1 := ⟨Fr 27 [p4, p6, p7, p3, p2, p1], []⟩) kr ?_ ?_
   ·refine RunDS.segF (n := 27) E0_ok 2 [p4, p6, (5, .pt 0 0 0), p3, p2, p1, (17, .sl 5 (x0.map cdClause.enc)), (18, .v (.int .i64 c2))] [p5] kr kr ?_
    refine RunDS.one E0_ok rfl kr (opd_q kr (wantedA_none rfl) rfl (q_slice (a := .sl 5 (x0.map cdClause.enc)) (l := none) (u := (some (.v (.int .i64 c2)))) (m := none) kr kr kr rfl (slice_sl (xs := x0) (e := cdClause.enc) (k := 5) (el := 70) (lo := 0) (hi := c2) kr kr rfl (natB_i (cut_hi hk5)) hk5)) kr) ?_
    refine RunDS.segF (n := 27) E0_ok 1 [p4, p6, p3, p2, p1, (19, .sl 5 (((x0.take c2.toNat).drop (0 : Int).toNat).map cdClause.enc)), (20, cdClause.enc v4)] [p5] kr kr ?_
    refine RunDS.callV (caps := []) (xs := [.sl 5 (((x0.take c2.toNat).drop (0 : Int).toNat).map cdClause.enc), cdClause.enc v4]) (u := (((x0.take c2.toNat).drop (0 : Int).toNat), v4, ())) rfl rfl x_court_check rfl (wantedA_none rfl) kr kr (Sl.cons (Sm.enc (c := (cdL 5 cdClause)) (v := ((x0.take c2.toNat).drop (0 : Int).toNat))) (Sl.cons (Sm.enc (c := cdClause) (v := v4)) Sl.nil)) kr hv6 ?_
    refine RunDS.segF (n := 27) E0_ok 1 [p4, p6, p7, p3, p2, p1] [p5] kr kr ?_
    exact RunDS.done rfl (Wk.sel2 [] kr kr kr trivial ⟨lu kr kr, lu kr kr, lu kr kr, lu kr kr, lu kr kr, lu kr kr, trivial⟩)
   refine Sem.sq E0_ok [p4, p6, p7, p3, p2, p1, (23, .v (.bool (v6 != 0)))] [] ?_
   refine Sem.cond (b := (v6 != 0)) kr (fun hb7 => ?_) (fun hb7 => ?_)
   ·rw [if_pos hb7] at h
    refine Sem.sq E0_ok [(2, .v (.int .i64 c2)), (3, .v (.int .i64 v6))] [] ?_
    refine Sem.ret ?_
    have hq := Option.some.inj h; subst hq
    exact ⟨rfl, (Wk.fr kr)⟩
   ·rw [if_f hb7] at h
    refine Sem.skip ?_
    let p8 : Nat × AV := (12, .v (.int .i64 (wr .i64 (c2 + 1))))
    refine Sem.rg E0_ok [p4, p3, p2, p8] [] ?_
    exact SemN.wk (s1 := ⟨Fr 27 [p4, p3, p2, p8], []⟩) (Wk.fr kr) (ih (wr .i64 (c2 + 1)) h)
  ·rw [if_f hb3] at h
   refine Sem.exit ?_
   have hq := Option.some.inj h; subst hq
   exact ⟨rfl, (Wk.fr kr)⟩
theorem court_Check_sem (x0 : (List Clause)) (r : Int × Int) (h : court_Check x0 = some r) : Sem E0 ⟨none, false⟩ cb_court_Check ⟨Fr 27 (pairs0 0 (cs_court_Check.enc (x0, ()))), []⟩ fun e s' => (e = .normal ∨ e = .ret) ∧ ∃ xs, resA E0.P s'.fr s'.hp Tryz.f52.results.toList = some xs ∧ retA xs = er_court_Check r := by
 unfold court_Check at h
 let p1 : Nat × AV := (0, .sl 5 (x0.map cdClause.enc))
 refine Sem.wkQ (Sem.wk (s1 := ⟨Fr 27 [p1], []⟩) (Wk.fr kr) ?_)
 refine Sem.sq E0_ok [p1] [] ?_
 refine Sem.seq ?_
 refine Sem.seq ?_
 refine Sem.runS (s1 := ⟨Fr 27 [p1, (9, .v (.bool (decide ((x0.length : Int) > 32))))], []⟩) ?_ ?_
 ·refine RunS.segF (n := 27) E0_ok 1 [p1, (7, .sl 5 (x0.map cdClause.enc))] [] kr ?_
  refine RunS.one E0_ok 0 rfl (op_q (wantedA_none rfl) rfl (q_len (a := .sl 5 (x0.map cdClause.enc)) kr (len_sl (el := 70) kr))) ?_
  exact RunS.last E0_ok
 refine Sem.cond (b := (decide ((x0.length : Int) > 32))) kr (fun hb1 => ?_) (fun hb1 => ?_)
 ·rw [if_pos hb1] at h
  refine Sem.sq E0_ok [(2, .v (.int .i64 0)), (3, .v (.int .i64 7))] [] ?_
  refine Sem.ret ?_
  have hq := Option.some.inj h; subst hq
  exact ⟨⟨Fr 27 [(2, .v (.int .i64 0)), (3, .v (.int .i64 7))], []⟩, (Wk.fr kr), .inr rfl, [.v (.int .i64 0), .v (.int .i64 7)], kr, kr⟩
 ·rw [if_f hb1] at h
  refine Sem.skip ?_
  refine Sem.seq ?_
  refine Sem.seq ?_
  let p2 : Nat × AV := (12, .v (.int .i64 0))
  let p3 : Nat × AV := (11, .v (.int .i64 (x0.length : Int)))
  let p4 : Nat × AV := (10, .sl 5 (x0.map cdClause.enc))
  refine Sem.runS (s1 := ⟨Fr 27 [p1, p4, p3, p2], []⟩) ?_ ?_
  ·refine RunS.segF (n := 27) E0_ok 1 [p1, p4] [] kr ?_
   refine RunS.one E0_ok 0 rfl (op_q (wantedA_none rfl) rfl (q_len (a := .sl 5 (x0.map cdClause.enc)) kr (len_sl (el := 70) kr))) ?_
   exact RunS.last E0_ok
  refine Sem.block ?_
  obtain ⟨r10, hr10, h⟩ := Option.bind_eq_some_iff.1 h
  refine Sem.loop (n := 100000) ?_
  rcases r10 with w11 | w12
  ·try dsimp only at h
   refine Sem.cutN (SemN.wk (s1 := ⟨Fr 27 [p1, p4, p3, p2], []⟩) (Wk.fr kr) (court_Check_l1_ok x0 _ 0 _ hr10)) ?_
   refine Sem.sq E0_ok [(2, .v (.int .i64 0)), (3, .v (.int .i64 0))] [] ?_
   refine Sem.ret ?_
   have hq := Option.some.inj h; subst hq
   exact ⟨⟨Fr 27 [(2, .v (.int .i64 0)), (3, .v (.int .i64 0))], []⟩, (Wk.fr kr), .inr rfl, [.v (.int .i64 0), .v (.int .i64 0)], kr, kr⟩
  ·try dsimp only at h
   refine Sem.cutN (SemN.wk (s1 := ⟨Fr 27 [p1, p4, p3, p2], []⟩) (Wk.fr kr) (court_Check_l1_ok x0 _ 0 _ hr10)) ?_
   have hq := Option.some.inj h; subst hq
   exact ⟨⟨Fr 27 [(2, .v (.int .i64 w12.1)), (3, .v (.int .i64 w12.2))], []⟩, (Wk.fr kr), .inr rfl, [.v (.int .i64 w12.1), .v (.int .i64 w12.2)], kr, kr⟩
def t_court_Check : List AV → Option AV := told cs_court_Check (fun a => court_Check a.1) er_court_Check
theorem x_court_Check : XOk 52 t_court_Check := by
 refine xok_of_sem Tryz.func52 (c := cb_court_Check) ?h2 ⟨Tryz.call52⟩ cs_court_Check (fun a => court_Check a.1) er_court_Check (fun a => (by show 1 ≤ 27; decide)) ?h3 ?h4
 case h2 => kernel_rfl
 case h3 => intro b; kernel_rfl
 case h4 => exact fun a b h => court_Check_sem a.1 b h
section
variable {E : Env} {ops : Array Oper} {rest rest' : List Oper} {K : St → Prop} {n d b k q : Nat} {l : List (Nat × AV)} {hp : Hp} {t : TypeId} {es : List AV} {w : World} {Z : Nat → Prop} {R : List RI} {base : Bs} {a : Act}
theorem move_get {j : Nat} {B : Blk} (hb : hp[b]? = some (some ⟨k, t, es, false⟩)) (h : ((hp.set b none) ++ [some ⟨k, t, es, false⟩])[j]? = some (some B)) : (j ≠ b ∧ hp[j]? = some (some B)) ∨ (j = hp.length ∧ B = ⟨k, t, es, false⟩) := by
 have hlt := (List.getElem?_eq_some_iff.1 hb).1
 rcases Nat.lt_or_ge j hp.length with h1 | h1
 ·rw [List.getElem?_append_left (by simpa using h1), List.getElem?_set] at h
  split at h
  ·cases h
  ·next hne => exact .inl ⟨fun e => hne e.symm, h⟩
 ·rw [List.getElem?_append_right (by simpa using h1)] at h
  simp only [List.length_set] at h
  have h2 : j - hp.length = 0 := by
   rcases Nat.eq_zero_or_pos (j - hp.length) with h0 | h0
   ·exact h0
   ·rw [List.getElem?_eq_none (by simp; omega)] at h; cases h
  rw [h2] at h
  simp at h
  exact .inr ⟨by omega, h.symm⟩
theorem SR.move (sr : SR E base w Z R ⟨Fr n ((d, .rf b 0 q q) :: l), hp⟩ a) (hb : hp[b]? = some (some ⟨k, t, es, false⟩)) :
  ∃ R', SR E base w Z R' ⟨Fr n ((d, .rf hp.length 0 q q) :: l), (hp.set b none) ++ [some ⟨k, t, es, false⟩]⟩ a ∧ Step w Z R hp w Z R' ((hp.set b none) ++ [some ⟨k, t, es, false⟩]) := by
 obtain ⟨r, arr, us, g1, g2, g3, g4, g5, g6, g7, g8, g9, g10⟩ := sr.hh.blk b _ hb
 have hlen := sr.hh.len
 dsimp only at hlen
 have hold : ∀ (i : Nat) (x : RI), R[i]? = some x → (R ++ [r])[i]? = some x := fun i x hx => by
  rw [List.getElem?_append_left (List.getElem?_eq_some_iff.1 hx).1]; exact hx
 have hnew : (R ++ [r])[hp.length]? = some r := by rw [← hlen]; simp
 have up : ∀ {x : AV} {u : Value}, VR w Z R x u → VR w Z (R ++ [r]) x u := fun h => h.mono (fun _ _ => rfl) (fun _ h => h) hold
 have own1 : ∀ c, own (R ++ [r]) ((hp.set b none) ++ [some ⟨k, t, es, false⟩]) c → own R hp c := fun c hc => by
  obtain ⟨j, B, r', h1, h2, h3, h4⟩ := hc
  rcases move_get hb h1 with ⟨hne, h5⟩ | ⟨rfl, rfl⟩
  ·obtain ⟨rj, _, _, e1, _⟩ := sr.hh.blk j B h5
   have : rj = r' := by have := hold j rj e1; rw [h3] at this; exact (Option.some.inj this).symm
   subst this
   exact ⟨j, B, rj, h5, h2, e1, h4⟩
  ·rw [hnew] at h3
   injection h3 with h3
   subst h3
   exact ⟨b, _, r, hb, rfl, g1, h4⟩
 have hh : HR w Z (R ++ [r]) ((hp.set b none) ++ [some ⟨k, t, es, false⟩]) := by
  refine ⟨by simp [hlen], fun j B hB => ?_, fun j j' B B' r1 r2 h1 f1 h2 f2 e1 e2 hc => ?_, sr.hh.zlt⟩
  ·rcases move_get hb hB with ⟨hne, h5⟩ | ⟨rfl, rfl⟩
   ·obtain ⟨rj, ar, uj, e1, e2, e3, e4, e5, e6, e7, e8, e9, e10⟩ := sr.hh.blk j B h5
    exact ⟨rj, ar, uj, hold _ _ e1, e2, e3, e4, e5, e6, e7, e8, ⟨e9.len, fun i x u hx hu => up (e9.at_ i x u hx hu)⟩, e10⟩
   ·exact ⟨r, arr, us, hnew, g2, g3, g4, g5, g6, g7, g8, ⟨g9.len, fun i x u hx hu => up (g9.at_ i x u hx hu)⟩, g10⟩
  ·have src : ∀ {j : Nat} {B : Blk} {r1 : RI}, ((hp.set b none) ++ [some ⟨k, t, es, false⟩])[j]? = some (some B) → (R ++ [r])[j]? = some r1 → ∃ j0, hp[j0]? = some (some B) ∧ R[j0]? = some r1 ∧ (j = j0 ∧ j ≠ b ∨ j = hp.length ∧ j0 = b) := fun {j B r1} h1 e1 => by
    rcases move_get hb h1 with ⟨hne, h5⟩ | ⟨rfl, rfl⟩
    ·obtain ⟨rj, _, _, q1, _⟩ := sr.hh.blk j B h5
     have : rj = r1 := by have := hold j rj q1; rw [e1] at this; exact (Option.some.inj this).symm
     subst this
     exact ⟨j, h5, q1, .inl ⟨rfl, hne⟩⟩
    ·rw [hnew] at e1
     injection e1 with e1
     subst e1
     exact ⟨b, hb, g1, .inr ⟨rfl, rfl⟩⟩
   obtain ⟨i1, p1, p2, p3⟩ := src h1 e1
   obtain ⟨i2, q1, q2, q3⟩ := src h2 e2
   have := sr.hh.inj i1 i2 B B' r1 r2 p1 f1 q1 f2 p2 q2 hc
   subst this
   rcases p3 with ⟨rfl, p4⟩ | ⟨rfl, rfl⟩ <;> rcases q3 with ⟨q4, q5⟩ | ⟨q4, q5⟩
   ·exact q4.symm
   ·exact absurd q5 p4
   ·exact absurd q4 q5
   ·exact q4.symm
 have st : Step w Z R hp w Z (R ++ [r]) ((hp.set b none) ++ [some ⟨k, t, es, false⟩]) := ⟨rfl, rfl, rfl, Nat.le_refl _, fun _ _ _ => rfl, fun c hc => .inl (own1 c hc), fun _ h => h, fun _ h => .inl h, hold⟩
 refine ⟨R ++ [r], ⟨hh, ⟨by have := sr.fr.1; rwa [Fr_len] at this ⊢, fun s x hx => ?_⟩, sr.mks.step st, sr.gl, sr.bs⟩, st⟩
 rw [Fr_get] at hx
 split at hx
 ·next hs =>
  injection hx with hx
  rw [lk_put] at hx
  split at hx
  ·next e =>
   injection hx with hx
   subst hx
   have hold2 := sr.fr.2 s (.rf b 0 q q) (by rw [Fr_get, if_pos hs, lk_put, if_pos e])
   generalize a.tmps.getD s undef = u at hold2 ⊢
   cases hold2 with
   | rf hr h0 h1 h2 hm =>
    rename_i c r'
    rw [g1] at hr
    injection hr with hr
    subst hr
    exact .rf hnew h0 h1 h2 hm
  ·next e => exact up (sr.fr.2 s x (by rw [Fr_get, if_pos hs, lk_put, if_neg e, hx]))
 ·cases hx
/-- append: with nothing in the list the slice stays where it is. -/
theorem RunS.appS (hE : EnvOk E) {α : Type} {c : Cd α} {xs vs : List α} {x y : Operand} {el ty t2 : TypeId} {bytes : Nat} {pos : String} {af : Array Edge} {g : Option (Nat × Bool)} {ty' : TypeId} (hr : rest = ⟨some d, .call ⟨.builtin .append, #[x, y], #[ty, t2]⟩, ty', pos, af, g⟩ :: rest') (hw : wantedA ops (Fr n l) ⟨some d, .call ⟨.builtin .append, #[x, y], #[ty, t2]⟩, ty', pos, af, g⟩ = some true)
  (hx : opA E (Fr n l) x = some (.rf b 0 xs.length xs.length)) (hy : opA E (Fr n l) y = some (.sl k (vs.map c.enc))) (ha : apB E.P ty el k bytes = true) (hu : E.P.underlying t2 = some (.slice el)) (hb : hp[b]? = some (some ⟨k, el, xs.map c.enc, false⟩)) (hc : capOk bytes (xs.length + vs.length) = true)
  (kk : RunS E ops rest' ⟨Fr n ((d, .rf hp.length 0 (xs ++ vs).length (xs ++ vs).length) :: l), (hp.set b none) ++ [some ⟨k, el, (xs ++ vs).map c.enc, false⟩]⟩ K) : RunS E ops rest ⟨Fr n l, hp⟩ K := by
 have hs : ∀ zs, srcOk E.P t2 (.sl k zs) = true := fun zs => by unfold srcOk; rw [hu]
 have hq : evOpQ E.P (opA E (Fr n l)) hp (.call ⟨.builtin .append, #[x, y], #[ty, t2]⟩) = none := rfl
 have hn : evOpN E.P (opA E (Fr n l)) hp (.call ⟨.builtin .append, #[x, y], #[ty, t2]⟩) = none := rfl
 by_cases hv : vs = []
 ·subst hv
  have he : evAppend E.P hp ty t2 (.rf b 0 xs.length xs.length) (.sl k (([] : List α).map c.enc)) = some (.rf b 0 xs.length xs.length, hp) := by
   obtain ⟨i, z, a1, a2, a3, a4, a5, a6, a7, a8⟩ := apB_inv ha
   unfold evAppend
   rw [if_neg (by rw [hs]; simp)]
   simp [a1, a2, a3, elems]
  refine RunS.one hE 0 hr (op_w hw rfl hq hn (w_append hx hy he)) ?_
  intro base Q ac w Z R sr q
  obtain ⟨R', sr', st⟩ := sr.move hb
  refine kk base Q ac w Z R' (by simpa using sr') fun s' a' w' Z' R'' hK sr'' st' => q s' a' w' Z' R'' hK sr'' (st.w.trans ?_)
  simpa using st'
 ·exact RunS.one hE 0 hr (op_w hw rfl hq hn (w_append hx hy (append_R (c := c) ha (hs _) elems_sl hv hb hc))) kk
end
end Go.Proofs.YtiphapnckldpbaaGreatDoor
namespace Go.Proofs.YtiphapnckldpbaaGreatDoor
open Go.Shelf
def lays4_ren : Go.Shelf.Ren := ⟨fun | 4 => 135 | n => n, fun | 25 => 70 | n => n, fun n => n⟩
theorem lays4 : Go.Proofs.Lays8.n4 Tryz.prog lays4_ren := {
 mixed := by kernel_rfl
 f4 := ⟨Tryz.f135.name, by kernel_rfl, Tryz.func135.trans (congrArg some (by kernel_rfl))⟩
 t0 := Tryz.underlying0
 a0 := Tryz.isAgg0
 z0 := Tryz.sizeOf0
 v0 := Tryz.zeroValue0
 t3 := Tryz.underlying3
 a3 := Tryz.isAgg3
 z3 := Tryz.sizeOf3
 v3 := Tryz.zeroValue3
 t4 := Tryz.underlying4
 a4 := Tryz.isAgg4
 z4 := Tryz.sizeOf4
 v4 := Tryz.zeroValue4
 t9 := Tryz.underlying9
 a9 := Tryz.isAgg9
 z9 := Tryz.sizeOf9
 v9 := Tryz.zeroValue9
 t20 := Tryz.underlying20
 a20 := Tryz.isAgg20
 z20 := Tryz.sizeOf20
 v20 := Tryz.zeroValue20
 t22 := Tryz.underlying22
 a22 := Tryz.isAgg22
 z22 := Tryz.sizeOf22
 v22 := Tryz.zeroValue22 }
open Go.RowKit Go.Lib
def grow0 (n : Nat) (x : AV) (h' : Hp) : Prop := (n = 0 ∧ x = .e0 ∧ h' = []) ∨ (0 < n ∧ x = .rf 0 0 0 0 ∧ h' = [some ⟨5, 70, [], false⟩])
theorem s_grow (n : Nat) (hn : n ≤ 1000000) : SOk 135 [.e0, .v (.int .i64 (n : Int))] (grow0 n) := by
 refine ⟨⟨Tryz.call135⟩, fun w Z us hz _ hv => ?_⟩
 obtain ⟨u1, r1, rfl, h1, hv⟩ := hv.head
 obtain ⟨u2, r2, rfl, h2, hv⟩ := hv.head
 have : r2 = [] := List.eq_nil_of_length_eq_zero hv.len
 subst this
 have e2 := h2.v_inv
 subst e2
 have hh : HR w Z [] [] := ⟨rfl, fun b B hB => by simp at hB, fun b b' B B' r r' hB => by simp at hB, hz⟩
 cases h1 with
 | e0 =>
  rename_i A
  rcases Nat.eq_zero_or_pos n with h0 | h0
  ·subst h0
   refine Calls.mono (Any8.slices_Grow_room lays4 A 0 0 0 w (Nat.le_refl _) (by decide) (by decide) (by decide)) fun e w' he => ?_
   obtain ⟨rfl, rfl⟩ := he
   exact ⟨Z, [], .e0, [], .inl ⟨rfl, rfl, rfl⟩, hh, .e0, StepW.refl _ _ _ _⟩
  ·have hs : (Tryz.prog.info? 70).isSome = true := by kernel_rfl
   have g2 : (Tryz.prog.info? 70).map (fun i => (i.size, i.bytes)) = some (5, 64) := by kernel_rfl
   have g3 : (Tryz.prog.info? 70).bind (fun i => i.zero) = some (.agg #[.int .u8 0, .string ⟨#[]⟩, .bool false, .slice none 0 0, .int .i64 0]) := by kernel_rfl
   obtain ⟨i, hi1⟩ := Option.isSome_iff_exists.1 hs
   rw [hi1] at g2 g3
   have hi2 : i.size = 5 := congrArg Prod.fst (Option.some.inj g2)
   have hi3 : i.bytes = 64 := congrArg Prod.snd (Option.some.inj g2)
   have hi4 : i.zero = some (.agg #[.int .u8 0, .string ⟨#[]⟩, .bool false, .slice none 0 0, .int .i64 0]) := g3
   refine Calls.mono (Any8.slices_Grow_grow lays4 i _ hi1 hi4 (by rw [hi2]; decide) A 0 0 n [] w (Nat.le_refl _) (by omega) (by rw [hi3]; omega) (by omega) (by simp) (fun _ => rfl) (fun a _ j v hj => by simp at hj)) fun e w' he => ?_
   obtain ⟨rfl, rfl⟩ := he
   have hge := grownCap_ge w (0 + n) 0 (lays4_ren.t 25)
   have hcm : grownCap w (0 + n) 0 (lays4_ren.t 25) ≤ maxLen := grownCap_le_maxLen w (0 + n) 0 _ (by unfold maxLen; omega)
   generalize grownCap w (0 + n) 0 (lays4_ren.t 25) = G at hge hcm ⊢
   have hgd : w.grownBy (w.drew.alloc (.cells (([] : List Value).toArray ++ Builtin.zeroCells (Value.agg #[.int .u8 0, .string ⟨#[]⟩, .bool false, .slice none 0 0, .int .i64 0]).cells (0 + n - 0) ++ Builtin.zeroCells (Value.agg #[.int .u8 0, .string ⟨#[]⟩, .bool false, .slice none 0 0, .int .i64 0]).cells (G - (0 + n))) (lays4_ren.t 25))) none := ⟨rfl, rfl, rfl, by simp, fun k hk _ => heap_alloc_old w.drew _ hk⟩
   obtain ⟨r1, r2, r3⟩ := hh.new (c := w.heap.size) (cap := G) (k := 5) (t := lays4_ren.t 25) (es := []) (us := []) hgd (Nat.le_refl _) (heap_alloc_new w.drew _) VRs.nil (by simp [Builtin.zeroCells, Value.cells]; omega) (Nat.zero_le _) hcm (fun i u h => by simp at h)
   refine ⟨Z, _, .rf 0 0 0 0, [some ⟨5, 70, [], false⟩], .inr ⟨h0, rfl, rfl⟩, r1, ?_, r2.w⟩
   have := VR.rf (w := w.drew.alloc (.cells (([] : List Value).toArray ++ Builtin.zeroCells (Value.agg #[.int .u8 0, .string ⟨#[]⟩, .bool false, .slice none 0 0, .int .i64 0]).cells (0 + n - 0) ++ Builtin.zeroCells (Value.agg #[.int .u8 0, .string ⟨#[]⟩, .bool false, .slice none 0 0, .int .i64 0]).cells (G - (0 + n))) (lays4_ren.t 25))) (Z := Z) (b := 0) (lo := 0) (n := 0) (m := 0) (c := G) r3 (Nat.le_refl _) (Nat.zero_le _) (by simp) hcm
   simpa using this
theorem s_growI (m : Int) (h : (decide (0 < m) && decide (m ≤ 1000000)) = true) : SOk 135 [.e0, .v (.int .i64 m)] (fun x h' => x = .rf 0 0 0 0 ∧ h' = [some ⟨5, 70, [], false⟩]) := by
 simp only [Bool.and_eq_true, decide_eq_true_eq] at h
 obtain ⟨n, rfl⟩ := Int.eq_ofNat_of_zero_le (show 0 ≤ m by omega)
 obtain ⟨h1, h2⟩ := s_grow n (by omega)
 refine ⟨h1, fun w Z us a b c => Ret.mono (h2 w Z us a b c) fun v w' hS => ?_⟩
 obtain ⟨Z', R', x, h', hO, k⟩ := hS
 rcases hO with ⟨h0, _, _⟩ | ⟨_, q1, q2⟩
 ·omega
 ·exact ⟨Z', R', x, h', ⟨q1, q2⟩, k⟩
theorem fl_grow : ∀ (x : AV) (h' : Hp), (x = .rf 0 0 0 0 ∧ h' = [some ⟨5, 70, [], false⟩]) → ownFlat x = true ∧ flatH h' = true := by
 rintro x h' ⟨rfl, rfl⟩
 exact ⟨rfl, rfl⟩
/- slices.Concat[[]trestle/api.Clause,trestle/api.Clause] -/
noncomputable def cb_slices_Concat_api_Clause_api_Clause : Code := codeOf Tryz.f98
def slices_Concat_api_Clause_api_Clause_l1 (x0 : (List (List Clause))) : Nat → Int → Int → Option ((Int))
 | 0, _, _ => none
 | f + 1, c1, c2 =>
  if (decide (c2 < (x0.length : Int))) = true then
  (idx x0 c2).bind fun v4 =>
  if (decide ((wr .i64 (c1 + (v4.length : Int))) < 0)) = true then none else
  slices_Concat_api_Clause_api_Clause_l1 x0 f (wr .i64 (c1 + (v4.length : Int))) (wr .i64 (c2 + 1))
  else
  some c1
def slices_Concat_api_Clause_api_Clause_l2 (x0 : (List (List Clause))) : Nat → (List Clause) → Int → Option (((List Clause)))
 | 0, _, _ => none
 | f + 1, c9, c10 =>
  if (decide (c10 < (x0.length : Int))) = true then
  (idx x0 c10).bind fun v12 =>
  if (capOk 64 (c9.length + v12.length)) = true then
  slices_Concat_api_Clause_api_Clause_l2 x0 f (c9 ++ v12) (wr .i64 (c10 + 1))
  else none
  else
  some c9
def slices_Concat_api_Clause_api_Clause (x0 : (List (List Clause))) : Option (List Clause) :=
 (slices_Concat_api_Clause_api_Clause_l1 x0 100000 0 0).bind fun r7 =>
 if (decide (0 < r7) && decide (r7 ≤ 1000000)) = true then
 (slices_Concat_api_Clause_api_Clause_l2 x0 100000 ([] : List Clause) 0).bind fun r15 =>
 some r15
 else none
def cs_slices_Concat_api_Clause_api_Clause : Cs ((List (List Clause)) × Unit) := (csC (cdL 1 (cdL 5 cdClause)) csN)
theorem slices_Concat_api_Clause_api_Clause_l1_ok (x0 : (List (List Clause))) : ∀ (f : Nat) (c1 : Int) (c2 : Int) (r : (Int)), slices_Concat_api_Clause_api_Clause_l1 x0 f c1 c2 = some r → SemN E0 ⟨none, false⟩ (pc cb_slices_Concat_api_Clause_api_Clause [1, 1, 0, 1, 0, 0]) f ⟨Fr 36 [(0, .sl 1 (x0.map (cdL 5 cdClause).enc)), (3, .v (.int .i64 c1)), (9, .sl 1 (x0.map (cdL 5 cdClause).enc)), (10, .v (.int .i64 (x0.length : Int))), (11, .v (.int .i64 c2))], []⟩ (fun e s => e = (.exit 0) ∧ Wk E0 s ⟨Fr 36 [(0, .sl 1 (x0.map (cdL 5 cdClause).enc)), (3, .v (.int .i64 r))], []⟩) := by
 intro f
 induction f with
 | zero => intro c1 c2 r h; cases h
 | succ f ih0 =>
  intro c1 c2 r h
  have ih := fun (c1 : Int) (c2 : Int) => ih0 c1 c2 r
  unfold slices_Concat_api_Clause_api_Clause_l1 at h
  refine SemN.succ ?_
  let p1 : Nat × AV := (11, .v (.int .i64 c2))
  let p2 : Nat × AV := (10, .v (.int .i64 (x0.length : Int)))
  let p3 : Nat × AV := (9, .sl 1 (x0.map (cdL 5 cdClause).enc))
  let p4 : Nat × AV := (0, .sl 1 (x0.map (cdL 5 cdClause).enc))
  refine Sem.sq E0_ok [p4, (3, .v (.int .i64 c1)), p3, p2, p1, (12, .v (.bool (decide (c2 < (x0.length : Int)))))] [] ?_
  refine Sem.seq ?_
  refine Sem.cond (b := (decide (c2 < (x0.length : Int)))) kr (fun hb3 => ?_) (fun hb3 => ?_)
  ·rw [if_pos hb3] at h
   refine Sem.skip ?_
   refine Sem.seq ?_
   refine Sem.block ?_
   refine Sem.seq ?_
   obtain ⟨v4, hv4, h⟩ := Option.bind_eq_some_iff.1 h
   refine Sem.runS (s1 := ⟨Fr 36 [p4, (3, .v (.int .i64 c1)), (5, .sl 5 (v4.map cdClause.enc)), p3, p2, p1], []⟩) ?_ ?_
   ·refine RunS.one E0_ok 0 rfl (op_q (wantedA_none rfl) rfl (q_indexAddr (a := .sl 1 (x0.map (cdL 5 cdClause).enc)) (b := .v (.int .i64 c2)) kr kr (ix_sl (e := (cdL 5 cdClause).enc) (el := 22) (k := 1) (ki := .i64) kr kr hv4))) ?_
    exact RunS.last E0_ok
   refine Sem.seq ?_
   let p5 : Nat × AV := (3, .v (.int .i64 (wr .i64 (c1 + (v4.length : Int)))))
   refine Sem.runS (s1 := ⟨Fr 36 [p4, p5, p3, p2, p1], []⟩) ?_ ?_
   ·refine RunS.segF (n := 36) E0_ok 2 [p4, p3, p2, p1, (15, .v (.int .i64 c1)), (16, .sl 5 (v4.map cdClause.enc))] [] kr ?_
    refine RunS.one E0_ok 0 rfl (op_q (wantedA_none rfl) rfl (q_len (a := .sl 5 (v4.map cdClause.enc)) kr (len_sl (el := 70) kr))) ?_
    exact RunS.last E0_ok
   refine Sem.sq E0_ok [p4, p5, p3, p2, p1, (20, .v (.bool (decide ((wr .i64 (c1 + (v4.length : Int))) < 0))))] [] ?_
   refine Sem.cond (b := (decide ((wr .i64 (c1 + (v4.length : Int))) < 0))) kr (fun hb5 => ?_) (fun hb5 => ?_)
   ·rw [if_pos hb5] at h
    cases h
   ·rw [if_f hb5] at h
    refine Sem.skip ?_
    let p6 : Nat × AV := (11, .v (.int .i64 (wr .i64 (c2 + 1))))
    refine Sem.rg E0_ok [p4, p5, p3, p2, p6] [] ?_
    exact SemN.wk (s1 := ⟨Fr 36 [p4, p5, p3, p2, p6], []⟩) (Wk.fr kr) (ih (wr .i64 (c1 + (v4.length : Int))) (wr .i64 (c2 + 1)) h)
  ·rw [if_f hb3] at h
   refine Sem.exit ?_
   have hq := Option.some.inj h; subst hq
   exact ⟨rfl, (Wk.fr kr)⟩
theorem slices_Concat_api_Clause_api_Clause_l2_ok (x0 : (List (List Clause))) : ∀ (f : Nat) (c9 : (List Clause)) (c10 : Int) (r : ((List Clause))), slices_Concat_api_Clause_api_Clause_l2 x0 f c9 c10 = some r → SemN E0 ⟨none, false⟩ (pc cb_slices_Concat_api_Clause_api_Clause [1, 1, 1, 1, 0, 1, 0, 0]) f ⟨Fr 36 [(6, .rf 0 0 c9.length c9.length), (25, .sl 1 (x0.map (cdL 5 cdClause).enc)), (26, .v (.int .i64 (x0.length : Int))), (27, .v (.int .i64 c10))], [some ⟨5, 70, (c9.map cdClause.enc), false⟩]⟩ (fun e s => e = (.exit 2) ∧ Wk E0 s ⟨Fr 36 [(6, .rf 0 0 r.length r.length)], [some ⟨5, 70, (r.map cdClause.enc), false⟩]⟩) := by
 intro f
 induction f with
 | zero => intro c9 c10 r h; cases h
 | succ f ih0 =>
  intro c9 c10 r h
  have ih := fun (c9 : (List Clause)) (c10 : Int) => ih0 c9 c10 r
  unfold slices_Concat_api_Clause_api_Clause_l2 at h
  refine SemN.succ ?_
  let p1 : Option Blk := some ⟨5, 70, (c9.map cdClause.enc), false⟩
  let p2 : Nat × AV := (27, .v (.int .i64 c10))
  let p3 : Nat × AV := (26, .v (.int .i64 (x0.length : Int)))
  let p4 : Nat × AV := (25, .sl 1 (x0.map (cdL 5 cdClause).enc))
  refine Sem.sq E0_ok [(6, .rf 0 0 c9.length c9.length), p4, p3, p2, (28, .v (.bool (decide (c10 < (x0.length : Int)))))] [p1] ?_
  refine Sem.seq ?_
  refine Sem.cond (b := (decide (c10 < (x0.length : Int)))) kr (fun hb11 => ?_) (fun hb11 => ?_)
  ·rw [if_pos hb11] at h
   refine Sem.skip ?_
   refine Sem.seq ?_
   refine Sem.block ?_
   refine Sem.seq ?_
   obtain ⟨v12, hv12, h⟩ := Option.bind_eq_some_iff.1 h
   refine Sem.runS (s1 := ⟨Fr 36 [(6, .rf 0 0 c9.length c9.length), (8, .sl 5 (v12.map cdClause.enc)), p4, p3, p2], [p1]⟩) ?_ ?_
   ·refine RunS.one E0_ok 0 rfl (op_q (wantedA_none rfl) rfl (q_indexAddr (a := .sl 1 (x0.map (cdL 5 cdClause).enc)) (b := .v (.int .i64 c10)) kr kr (ix_sl (e := (cdL 5 cdClause).enc) (el := 22) (k := 1) (ki := .i64) kr kr hv12))) ?_
    exact RunS.last E0_ok
   by_cases hk13 : (capOk 64 (c9.length + v12.length)) = true
   case neg => rw [if_neg hk13] at h; cases h
   rw [if_pos hk13] at h
   let p5 : Option Blk := some ⟨5, 70, ((c9 ++ v12).map cdClause.enc), false⟩
   let p6 : Nat × AV := (6, .rf 0 0 (c9 ++ v12).length (c9 ++ v12).length)
   refine Sem.runS (s1 := ⟨Fr 36 [p6, p4, p3, p2], [p5]⟩) ?_ ?_
   ·refine RunS.segF (n := 36) E0_ok 2 [p4, p3, p2, (31, .rf 0 0 c9.length c9.length), (32, .sl 5 (v12.map cdClause.enc))] [p1] kr ?_
    refine RunS.appS E0_ok (c := cdClause) (xs := c9) (vs := v12) (b := 0) (k := 5) (el := 70) (bytes := 64) rfl (wantedA_none rfl) kr kr kr kr kr hk13 ?_
    refine RunS.segF (n := 36) E0_ok 1 [(6, .rf 1 0 (c9 ++ v12).length (c9 ++ v12).length), p4, p3, p2] [none, p5] kr ?_
    exact RunS.done rfl (Wk.sel2 [1] kr kr kr ⟨⟨_, rfl, bu_own⟩, trivial⟩ ⟨lu kr kr, lu kr kr, lu kr kr, lu kr kr, trivial⟩)
   let p7 : Nat × AV := (27, .v (.int .i64 (wr .i64 (c10 + 1))))
   refine Sem.rg E0_ok [p6, p4, p3, p7] [p5] ?_
   exact SemN.wk (s1 := ⟨Fr 36 [p6, p4, p3, p7], [p5]⟩) (Wk.sel2 [0] kr kr kr ⟨⟨_, rfl, bu_own⟩, trivial⟩ ⟨lu kr kr, lu kr kr, lu kr kr, lu kr kr, trivial⟩) (ih (c9 ++ v12) (wr .i64 (c10 + 1)) h)
  ·rw [if_f hb11] at h
   refine Sem.exit ?_
   have hq := Option.some.inj h; subst hq
   exact ⟨rfl, (Wk.sel2 [0] kr kr kr ⟨⟨_, rfl, bu_own⟩, trivial⟩ ⟨lu kr kr, trivial⟩)⟩
theorem slices_Concat_api_Clause_api_Clause_sem (x0 : (List (List Clause))) (r : (List Clause)) (h : slices_Concat_api_Clause_api_Clause x0 = some r) : Sem E0 ⟨none, false⟩ cb_slices_Concat_api_Clause_api_Clause ⟨Fr 36 (pairs0 0 (cs_slices_Concat_api_Clause_api_Clause.enc (x0, ()))), []⟩ fun e s' => (e = .normal ∨ e = .ret) ∧ ∃ xs, resA E0.P s'.fr s'.hp Tryz.f98.results.toList = some xs ∧ (retA xs = .rf 0 0 r.length r.length ∧ s'.hp = [some ⟨5, 70, (r.map cdClause.enc), false⟩]) := by
 unfold slices_Concat_api_Clause_api_Clause at h
 let p1 : Nat × AV := (0, .sl 1 (x0.map (cdL 5 cdClause).enc))
 refine Sem.wkQ (Sem.wk (s1 := ⟨Fr 36 [p1], []⟩) (Wk.fr kr) ?_)
 refine Sem.sq E0_ok [p1] [] ?_
 let p2 : Nat × AV := (3, .v (.int .i64 0))
 refine Sem.sq E0_ok [p1, p2] [] ?_
 refine Sem.seq ?_
 refine Sem.seq ?_
 let p3 : Nat × AV := (10, .v (.int .i64 (x0.length : Int)))
 let p4 : Nat × AV := (9, .sl 1 (x0.map (cdL 5 cdClause).enc))
 refine Sem.runS (s1 := ⟨Fr 36 [p1, p2, p4, p3, (11, .v (.int .i64 0))], []⟩) ?_ ?_
 ·refine RunS.segF (n := 36) E0_ok 1 [p1, p2, p4] [] kr ?_
  refine RunS.one E0_ok 0 rfl (op_q (wantedA_none rfl) rfl (q_len (a := .sl 1 (x0.map (cdL 5 cdClause).enc)) kr (len_sl (el := 22) kr))) ?_
  exact RunS.last E0_ok
 refine Sem.block ?_
 obtain ⟨r7, hr7, h⟩ := Option.bind_eq_some_iff.1 h
 refine Sem.loop (n := 100000) ?_
 refine Sem.cutN (SemN.wk (s1 := ⟨Fr 36 [p1, p2, p4, p3, (11, .v (.int .i64 0))], []⟩) (Wk.fr kr) (slices_Concat_api_Clause_api_Clause_l1_ok x0 _ 0 0 _ hr7)) ?_
 refine Sem.seq ?_
 by_cases hk8 : (decide (0 < r7) && decide (r7 ≤ 1000000)) = true
 case neg => rw [if_neg hk8] at h; cases h
 rw [if_pos hk8] at h
 let p5 : Option Blk := some ⟨5, 70, (([] : List Clause).map cdClause.enc), false⟩
 let p6 : Nat × AV := (6, .rf 0 0 ([] : List Clause).length ([] : List Clause).length)
 refine Sem.runS (s1 := ⟨Fr 36 [p1, p6], [p5]⟩) ?_ ?_
 ·refine RunS.segF (n := 36) E0_ok 1 [p1, (23, .v (.int .i64 r7))] [] kr ?_
  refine RunS.callS rfl rfl (s_growI r7 hk8) rfl (wantedA_none rfl) kr (xs := [.e0, .v (.int .i64 r7)]) kr kr fl_grow ?_
  rintro x h' ⟨rfl, rfl⟩
  exact RunS.last E0_ok
 refine Sem.seq ?_
 refine Sem.seq ?_
 let p7 : Nat × AV := (26, .v (.int .i64 (x0.length : Int)))
 let p8 : Nat × AV := (25, .sl 1 (x0.map (cdL 5 cdClause).enc))
 refine Sem.runS (s1 := ⟨Fr 36 [p6, p8, p7, (27, .v (.int .i64 0))], [p5]⟩) ?_ ?_
 ·refine RunS.segF (n := 36) E0_ok 1 [p6, p8] [p5] kr ?_
  refine RunS.one E0_ok 0 rfl (op_q (wantedA_none rfl) rfl (q_len (a := .sl 1 (x0.map (cdL 5 cdClause).enc)) kr (len_sl (el := 22) kr))) ?_
  exact RunS.last E0_ok
 refine Sem.block ?_
 obtain ⟨r15, hr15, h⟩ := Option.bind_eq_some_iff.1 h
 refine Sem.loop (n := 100000) ?_
 refine Sem.cutN (SemN.wk (s1 := ⟨Fr 36 [p6, p8, p7, (27, .v (.int .i64 0))], [p5]⟩) (Wk.sel2 [0] kr kr kr ⟨⟨_, rfl, bu_own⟩, trivial⟩ ⟨lu kr kr, lu kr kr, lu kr kr, lu kr kr, trivial⟩) (slices_Concat_api_Clause_api_Clause_l2_ok x0 _ ([] : List Clause) 0 _ hr15)) ?_
 let p9 : Option Blk := some ⟨5, 70, (r15.map cdClause.enc), false⟩
 let p10 : Nat × AV := (2, .rf 0 0 r15.length r15.length)
 refine Sem.sq E0_ok [p10] [p9] ?_
 refine Sem.ret ?_
 have hq := Option.some.inj h; subst hq
 exact ⟨⟨Fr 36 [p10], [p9]⟩, (Wk.sel2 [0] kr kr kr ⟨⟨_, rfl, bu_own⟩, trivial⟩ ⟨lu kr kr, trivial⟩), .inr rfl, [.rf 0 0 r15.length r15.length], kr, rfl, rfl⟩
theorem s_slices_Concat_api_Clause_api_Clause (x0 : (List (List Clause))) (r : (List Clause)) (h : slices_Concat_api_Clause_api_Clause x0 = some r) : SOk 98 (cs_slices_Concat_api_Clause_api_Clause.enc (x0, ())) (fun x h' => x = .rf 0 0 r.length r.length ∧ h' = [some ⟨5, 70, (r.map cdClause.enc), false⟩]) := sok_of_sem E0_ok rfl rfl (fn := Tryz.f98) (c := cb_slices_Concat_api_Clause_api_Clause) kr kr ⟨Tryz.call98⟩ (by show 1 ≤ 36; decide) (slices_Concat_api_Clause_api_Clause_sem x0 r h)
theorem fl_slices_Concat_api_Clause_api_Clause (r : (List Clause)) : ∀ (x : AV) (h' : Hp), (x = .rf 0 0 r.length r.length ∧ h' = [some ⟨5, 70, (r.map cdClause.enc), false⟩]) → ownFlat x = true ∧ keepH h' = true := by
 rintro x h' ⟨rfl, rfl⟩
 exact ⟨rfl, keepH_own r⟩
noncomputable def cb_slices_Clone_string_string : Code := codeOf Tryz.f99
def ob_slices_Clone_string_string (xs : List (List UInt8)) : Option Blk := some ⟨1, 9, xs.map cdS.enc, false⟩
set_option maxRecDepth 100000 in
theorem cs_slices_Clone_string_string_sem (xs : List (List UInt8)) (hc : capOk 16 xs.length = true) : Sem E0 ⟨none, false⟩ cb_slices_Clone_string_string ⟨Fr 8 [(0, .sl 1 (xs.map cdS.enc))], []⟩ fun e s' => (e = .normal ∨ e = .ret) ∧ ((xs = [] ∧ s' = ⟨Fr 8 [(2, .e0)], []⟩) ∨ s' = ⟨Fr 8 [(2, .rf 0 0 xs.length xs.length)], [ob_slices_Clone_string_string xs]⟩) := by
 refine Sem.seq ?_
 refine Sem.runS (s1 := ⟨Fr 8 [(0, .sl 1 (xs.map cdS.enc)), (2, .e0)], []⟩) ?_ ?_
 ·refine RunS.seg E0_ok 1 (s1 := ⟨Fr 8 [(0, .sl 1 (xs.map cdS.enc)), (2, .e0)], []⟩) (by kernel_rfl) ?_
  exact RunS.done rfl Wk.f1
 refine Sem.seq ?_
 refine Sem.seq (Sem.runQ ?_)
 refine RunS.seg E0_ok 1 (s1 := ⟨Fr 8 [(0, .sl 1 (xs.map cdS.enc)), (2, .e0), (3, .sl 1 (xs.map cdS.enc))], []⟩) (by kernel_rfl) ?_
 refine RunS.isnil (k := 1) (el := 9) (es := xs.map cdS.enc) rfl (wantedA_none rfl) (by kernel_rfl) (by kernel_rfl) fun b hb => RunS.done rfl ?_
 have hb : b = true → xs = [] := fun h => List.map_eq_nil_iff.1 (hb h)
 refine Sem.cond (b := b) (by kernel_rfl) (fun hb1 => ?_) (fun hb1 => ?_)
 ·have hx := hb hb1
  refine Sem.wkQ ?_
  refine Sem.seq (Sem.runS (s1 := ⟨Fr 8 [(2, .e0)], []⟩) ?_ (Sem.ret ?_))
  ·refine RunS.seg E0_ok 1 (s1 := ⟨Fr 8 [(0, .sl 1 (xs.map cdS.enc)), (2, .e0), (3, .sl 1 (xs.map cdS.enc)), (4, .v (.bool b))], []⟩) (by kernel_rfl) ?_
   exact RunS.done rfl Wk.f1
  ·exact ⟨_, Wk.refl, .inr rfl, .inl ⟨hx, rfl⟩⟩
 ·refine Sem.skip ?_
  refine Sem.wkQ (Sem.seq (Sem.runQ ?_))
  refine RunS.seg E0_ok 2 (s1 := ⟨Fr 8 [(0, .sl 1 (xs.map cdS.enc)), (2, .e0), (3, .sl 1 (xs.map cdS.enc)), (4, .v (.bool b)), (5, .rf 0 0 0 0), (6, .sl 1 (xs.map cdS.enc))], [ob_slices_Clone_string_string []]⟩) (by kernel_rfl) ?_
  cases xs with
  | nil =>
   refine RunS.one E0_ok 0 rfl (op_w (x := .rf 0 0 0 0) (hp' := [ob_slices_Clone_string_string []]) (wantedA_none rfl) rfl (by kernel_rfl) (by kernel_rfl) (by kernel_rfl)) ?_
   refine RunS.seg E0_ok 1 (s1 := ⟨Fr 8 [(0, .sl 1 []), (2, .rf 0 0 0 0), (3, .sl 1 []), (4, .v (.bool b)), (5, .rf 0 0 0 0), (6, .sl 1 []), (7, .rf 0 0 0 0)], [ob_slices_Clone_string_string []]⟩) (by kernel_rfl) (RunS.done rfl (Sem.ret ?_))
   exact ⟨⟨Fr 8 [(2, .rf 0 0 0 0)], [ob_slices_Clone_string_string []]⟩, Wk.f1, .inr rfl, .inr rfl⟩
  | cons y ys =>
   refine RunS.one E0_ok 0 rfl (op_w (wantedA_none rfl) rfl (by kernel_rfl) (by kernel_rfl) (w_append (a := .rf 0 0 0 0) (b := .sl 1 ((y :: ys).map cdS.enc)) (by kernel_rfl) (by kernel_rfl) (append_R (c := cdS) (xs := []) (vs := y :: ys) (k := 1) (bytes := 16) (el := 9) (by kernel_rfl) (by kernel_rfl) elems_sl (List.cons_ne_nil _ _) (by kernel_rfl) (by rw [List.length_nil, Nat.zero_add]; exact hc)))) ?_
   refine RunS.seg E0_ok 1 (s1 := ⟨Fr 8 [(0, .sl 1 ((y :: ys).map cdS.enc)), (2, .rf 1 0 (y :: ys).length (y :: ys).length), (3, .sl 1 ((y :: ys).map cdS.enc)), (4, .v (.bool b)), (5, .rf 0 0 0 0), (6, .sl 1 ((y :: ys).map cdS.enc)), (7, .rf 1 0 (y :: ys).length (y :: ys).length)], [none, ob_slices_Clone_string_string (y :: ys)]⟩) (by kernel_rfl) (RunS.done rfl (Sem.ret ?_))
   exact ⟨⟨Fr 8 [(2, .rf 0 0 (y :: ys).length (y :: ys).length)], [ob_slices_Clone_string_string (y :: ys)]⟩, Wk.s3 [1] ⟨⟨_, rfl, bu_own⟩, trivial⟩ ⟨lv, trivial⟩, .inr rfl, .inr rfl⟩
/-- .. as it is told to those who only read. -/
def slices_Clone_string_string (xs : List (List UInt8)) : Option (List (List UInt8)) := if capOk 16 xs.length = true then some xs else none
def cs_slices_Clone_string_string : Cs (List (List UInt8) × Unit) := csC (cdL 1 cdS) csN
def er_slices_Clone_string_string (r : List (List UInt8)) : AV := (cdL 1 cdS).enc r
def t_slices_Clone_string_string : List AV → Option AV := told cs_slices_Clone_string_string (fun a => slices_Clone_string_string a.1) er_slices_Clone_string_string
theorem x_slices_Clone_string_string : XOk 99 t_slices_Clone_string_string := by
 refine EnvOk.x (E := E0) (contract_ok E0_ok (fn := Tryz.f99) (c := cb_slices_Clone_string_string) ?h1 ?h2 ⟨Tryz.call99⟩ cs_slices_Clone_string_string (fun a => slices_Clone_string_string a.1) er_slices_Clone_string_string (fun a => (by show 1 ≤ 8; decide)) ?h3 ?h4) rfl rfl
 case h1 => kernel_rfl
 case h2 => kernel_rfl
 case h3 => intro b; kernel_rfl
 case h4 =>
  intro a r h
  have h : slices_Clone_string_string a.1 = some r := h
  unfold slices_Clone_string_string at h
  by_cases hc : capOk 16 a.1.length = true
  ·rw [if_pos hc] at h
   injection h with h
   subst h
   refine Sem.wkQ (Sem.mono (cs_slices_Clone_string_string_sem a.1 hc) ?_)
   rintro e s' ⟨he, ⟨hx, rfl⟩ | rfl⟩
   ·rw [hx]
    exact ⟨⟨Fr 8 [(2, .sl 1 [])], [none]⟩, Wk.trans (s1 := ⟨Fr 8 [(2, .e0)], [none]⟩) Wk.none (Wk.frzG 0 (.inl (by kernel_rfl)) ⟨.inl rfl, trivial⟩ ⟨⟨.e0, (by kernel_rfl), fz_e0⟩, trivial⟩), he, [.sl 1 []], by kernel_rfl, by kernel_rfl⟩
   ·exact ⟨⟨Fr 8 [(2, .sl 1 (a.1.map cdS.enc))], [none]⟩, Wk.frzG 0 (.inl (by kernel_rfl)) ⟨.inl rfl, trivial⟩ ⟨⟨.rf 0 0 a.1.length a.1.length, (by kernel_rfl), fz_rlT (c := cdS) (xs := a.1) (t := 9) (by kernel_rfl)⟩, trivial⟩, he, [.sl 1 (a.1.map cdS.enc)], by kernel_rfl, by kernel_rfl⟩
  ·rw [if_neg hc] at h; cases h
/- trestle/court.Merge -/
noncomputable def cb_court_MergeN : Code := codeOf Tryz.f46
def court_MergeN_l1 (x0 : (List Clause)) (x1 : (List Clause)) : Nat → Int → Option ((Unit) ⊕ (Int))
 | 0, _ => none
 | f + 1, c1 =>
  if (decide (c1 < ([x0, x1].length : Int))) = true then
  (idx [x0, x1] c1).bind fun v3 =>
  (court_Check v3).bind fun v4 =>
  if (v4.2 != 0) = true then
  some (.inr v4.2)
  else
  court_MergeN_l1 x0 x1 f (wr .i64 (c1 + 1))
  else
  some (.inl ())
def court_MergeN_l2 (v10 : (List Clause)) : Nat → (List Clause) → Int → Option (((List Clause)))
 | 0, _, _ => none
 | f + 1, c11, c12 =>
  if (decide (c12 < (v10.length : Int))) = true then
  (idx c11 c12).bind fun v14 =>
  (slices_Clone_string_string v14.2.2.2.1).bind fun v15 =>
  (idx c11 c12).bind fun v16 =>
  court_MergeN_l2 v10 f (c11.set c12.toNat (v16.1, v16.2.1, v16.2.2.1, v15, v16.2.2.2.2)) (wr .i64 (c12 + 1))
  else
  some c11
def court_MergeN (x0 : (List Clause)) (x1 : (List Clause)) : Option ((List Clause) × Int) :=
 (court_MergeN_l1 x0 x1 100000 0).bind fun r7 =>
 match r7 with
 | (.inl w8) =>
  if (decide ((wr .i64 ((x0.length : Int) + (x1.length : Int))) > 32)) = true then
  some ([], 7)
  else
  (slices_Concat_api_Clause_api_Clause [x0, x1]).bind fun v10 =>
  (court_MergeN_l2 v10 100000 v10 0).bind fun r18 =>
  some (r18, 0)
 | (.inr w19) =>
  some ([], w19)
def cs_court_MergeN : Cs ((List Clause) × (List Clause) × Unit) := (csC (cdL 5 cdClause) (csC (cdL 5 cdClause) csN))
def er_court_MergeN (r : (List Clause) × Int) : AV := .tp [(cdL 5 cdClause).enc r.1, cdI.enc r.2]
theorem court_MergeN_l1_ok (x0 : (List Clause)) (x1 : (List Clause)) : ∀ (f : Nat) (c1 : Int) (r : (Unit) ⊕ (Int)), court_MergeN_l1 x0 x1 f c1 = some r → SemN E0 ⟨none, false⟩ (pc cb_court_MergeN [1, 0, 1, 0, 0]) f ⟨Fr 56 [(0, .sl 5 (x0.map cdClause.enc)), (1, .sl 5 (x1.map cdClause.enc)), (14, hd 0 ([x0, x1].map (cdL 5 cdClause).enc)), (15, .v (.int .i64 ([x0, x1].length : Int))), (16, .v (.int .i64 c1))], [mk 1 22 ([x0, x1].map (cdL 5 cdClause).enc)]⟩ (fun e s => match r with
 | (.inl w) => e = (.exit 0) ∧ Wk E0 s ⟨Fr 56 [(0, .sl 5 (x0.map cdClause.enc)), (1, .sl 5 (x1.map cdClause.enc))], []⟩
 | (.inr w) => e = .ret ∧ Wk E0 s ⟨Fr 56 [(4, .e0), (5, .v (.int .i64 w))], []⟩) := by
 intro f
 induction f with
 | zero => intro c1 r h; cases h
 | succ f ih0 =>
  intro c1 r h
  have ih := fun (c1 : Int) => ih0 c1 r
  unfold court_MergeN_l1 at h
  refine SemN.succ ?_
  let p1 : Option Blk := mk 1 22 ([x0, x1].map (cdL 5 cdClause).enc)
  let p2 : Nat × AV := (16, .v (.int .i64 c1))
  let p3 : Nat × AV := (15, .v (.int .i64 ([x0, x1].length : Int)))
  let p4 : Nat × AV := (14, hd 0 ([x0, x1].map (cdL 5 cdClause).enc))
  let p5 : Nat × AV := (1, .sl 5 (x1.map cdClause.enc))
  let p6 : Nat × AV := (0, .sl 5 (x0.map cdClause.enc))
  refine Sem.sq E0_ok [p6, p5, p4, p3, p2, (17, .v (.bool (decide (c1 < ([x0, x1].length : Int)))))] [p1] ?_
  refine Sem.seq ?_
  refine Sem.cond (b := (decide (c1 < ([x0, x1].length : Int)))) kr (fun hb2 => ?_) (fun hb2 => ?_)
  ·rw [if_pos hb2] at h
   refine Sem.skip ?_
   refine Sem.seq ?_
   refine Sem.block ?_
   refine Sem.seq ?_
   obtain ⟨v3, hv3, h⟩ := Option.bind_eq_some_iff.1 h
   refine Sem.runS (s1 := ⟨Fr 56 [p6, p5, (7, .sl 5 (v3.map cdClause.enc)), p4, p3, p2], [p1]⟩) ?_ ?_
   ·refine RunS.one E0_ok 0 rfl (op_q (wantedA_none rfl) rfl (q_indexAddr (a := hd 0 ([x0, x1].map (cdL 5 cdClause).enc)) (b := .v (.int .i64 c1)) kr kr (ix_hd (e := (cdL 5 cdClause).enc) (xs := [x0, x1]) (t' := 22) (el := 22) (k := 1) (ki := .i64) kr kr kr hv3))) ?_
    refine RunS.one E0_ok 0 rfl (op_q (wantedA_none rfl) rfl (q_load (p := .pt 0 c1.toNat 0) kr (ld_mk (t' := 22) (k := 1) (m := 1) (g := false) (e := (cdL 5 cdClause).enc) (xs := [x0, x1]) kr kr kr (idx_at hv3).2 kr))) ?_
    exact RunS.last E0_ok
   refine Sem.seq ?_
   obtain ⟨v4, hv4, h⟩ := Option.bind_eq_some_iff.1 h
   refine Sem.runS (s1 := ⟨Fr 56 [p6, p5, (9, .v (.int .i64 v4.2)), p4, p3, p2], [p1]⟩) ?_ ?_
   ·refine RunS.segF (n := 56) E0_ok 1 [p6, p5, p4, p3, p2, (21, .sl 5 (v3.map cdClause.enc))] [p1] kr ?_
    refine RunS.callV (caps := []) (xs := [.sl 5 (v3.map cdClause.enc)]) (u := (v3, ())) rfl rfl x_court_Check rfl (wantedA_none rfl) kr kr (Sl.cons (Sm.enc (c := (cdL 5 cdClause)) (v := v3)) Sl.nil) (.inl kr) hv4 ?_
    exact RunS.last E0_ok
   refine Sem.sq E0_ok [p6, p5, (9, .v (.int .i64 v4.2)), p4, p3, p2, (26, .v (.bool (v4.2 != 0)))] [p1] ?_
   refine Sem.cond (b := (v4.2 != 0)) kr (fun hb5 => ?_) (fun hb5 => ?_)
   ·rw [if_pos hb5] at h
    refine Sem.seq ?_
    refine Sem.runS (s1 := ⟨Fr 56 [(4, .e0), (5, .v (.int .i64 v4.2))], []⟩) ?_ ?_
    ·refine RunS.segF (n := 56) E0_ok 3 [(4, .e0), (5, .v (.int .i64 v4.2))] [p1] kr ?_
     exact RunS.done rfl (Wk.sel2 [] kr kr kr trivial ⟨lu kr kr, lu kr kr, trivial⟩)
    refine Sem.ret ?_
    have hq := Option.some.inj h; subst hq
    exact ⟨rfl, (Wk.fr kr)⟩
   ·rw [if_f hb5] at h
    refine Sem.skip ?_
    let p7 : Nat × AV := (16, .v (.int .i64 (wr .i64 (c1 + 1))))
    refine Sem.rg E0_ok [p6, p5, p4, p3, p7] [p1] ?_
    exact SemN.wk (s1 := ⟨Fr 56 [p6, p5, p4, p3, p7], [p1]⟩) (Wk.sel2 [0] kr kr kr ⟨⟨_, rfl, bu_mk⟩, trivial⟩ ⟨lu kr kr, lu kr kr, lu_hd (b' := 0) kr kr, lu kr kr, lu kr kr, trivial⟩) (ih (wr .i64 (c1 + 1)) h)
  ·rw [if_f hb2] at h
   refine Sem.exit ?_
   have hq := Option.some.inj h; subst hq
   exact ⟨rfl, (Wk.sel2 [] kr kr kr trivial ⟨lu kr kr, lu kr kr, trivial⟩)⟩
theorem court_MergeN_l2_ok (v10 : (List Clause)) : ∀ (f : Nat) (c11 : (List Clause)) (c12 : Int) (r : ((List Clause))), court_MergeN_l2 v10 f c11 c12 = some r → SemN E0 ⟨none, false⟩ (pc cb_court_MergeN [1, 1, 1, 1, 0, 1, 0, 0]) f ⟨Fr 56 [(10, .rf 0 0 c11.length c11.length), (40, .v (.int .i64 (v10.length : Int))), (41, .v (.int .i64 c12))], [some ⟨5, 70, (c11.map cdClause.enc), false⟩]⟩ (fun e s => e = (.exit 2) ∧ Wk E0 s ⟨Fr 56 [(10, .rf 0 0 r.length r.length)], [some ⟨5, 70, (r.map cdClause.enc), false⟩]⟩) := by
 intro f
 induction f with
 | zero => intro c11 c12 r h; cases h
 | succ f ih0 =>
  intro c11 c12 r h
  have ih := fun (c11 : (List Clause)) (c12 : Int) => ih0 c11 c12 r
  unfold court_MergeN_l2 at h
  refine SemN.succ ?_
  let p1 : Option Blk := some ⟨5, 70, (c11.map cdClause.enc), false⟩
  let p2 : Nat × AV := (41, .v (.int .i64 c12))
  let p3 : Nat × AV := (40, .v (.int .i64 (v10.length : Int)))
  let p4 : Nat × AV := (10, .rf 0 0 c11.length c11.length)
  refine Sem.sq E0_ok [p4, p3, p2, (42, .v (.bool (decide (c12 < (v10.length : Int)))))] [p1] ?_
  refine Sem.seq ?_
  refine Sem.cond (b := (decide (c12 < (v10.length : Int)))) kr (fun hb13 => ?_) (fun hb13 => ?_)
  ·rw [if_pos hb13] at h
   refine Sem.skip ?_
   refine Sem.seq ?_
   refine Sem.block ?_
   refine Sem.sq E0_ok [p4, (11, .v (.int .i64 c12)), p3, p2] [p1] ?_
   obtain ⟨v14, hv14, h⟩ := Option.bind_eq_some_iff.1 h
   obtain ⟨v15, hv15, h⟩ := Option.bind_eq_some_iff.1 h
   obtain ⟨v16, hv16, h⟩ := Option.bind_eq_some_iff.1 h
   let p5 : Option Blk := some ⟨5, 70, ((c11.set c12.toNat (v16.1, v16.2.1, v16.2.2.1, v15, v16.2.2.2.2)).map cdClause.enc), false⟩
   let p6 : Nat × AV := (10, .rf 0 0 (c11.set c12.toNat (v16.1, v16.2.1, v16.2.2.1, v15, v16.2.2.2.2)).length (c11.set c12.toNat (v16.1, v16.2.1, v16.2.2.1, v15, v16.2.2.2.2)).length)
   refine Sem.runS (s1 := ⟨Fr 56 [p6, p3, p2], [p5]⟩) ?_ ?_
   ·refine RunS.segF (n := 56) E0_ok 4 [p4, p3, p2, (44, .rf 0 0 c11.length c11.length), (45, .v (.int .i64 c12)), (46, .rf 0 0 c11.length c11.length), (47, .v (.int .i64 c12))] [p1] kr ?_
    refine RunS.one E0_ok 0 rfl (op_q (wantedA_none rfl) rfl (q_indexAddr (a := .rf 0 0 c11.length c11.length) (b := .v (.int .i64 c12)) kr kr (ix_rl (e := cdClause.enc) (xs := c11) (t' := 70) (el := 70) (k := 5) (ki := .i64) kr kr kr hv14))) ?_
    refine RunS.segF (n := 56) E0_ok 1 [p4, p3, p2, (44, .rf 0 0 c11.length c11.length), (45, .v (.int .i64 c12)), (49, .pt 0 c12.toNat 3)] [p1] kr ?_
    refine RunS.one E0_ok 0 rfl (op_q (wantedA_none rfl) rfl (q_load (p := .pt 0 c12.toNat 3) kr (ld_fld (t' := 70) (k := 5) (m := 1) (g := false) (y := .sl 1 (v14.2.2.2.1.map cdS.enc)) (e := cdClause.enc) (xs := c11) kr (idx_at hv14).2 kr kr kr))) ?_
    refine RunS.callV (caps := []) (xs := [.sl 1 (v14.2.2.2.1.map cdS.enc)]) (u := (v14.2.2.2.1, ())) rfl rfl x_slices_Clone_string_string rfl (wantedA_none rfl) kr kr (Sl.cons (Sm.enc (c := (cdL 1 cdS)) (v := v14.2.2.2.1)) Sl.nil) (.inr kr) hv15 ?_
    refine RunS.one E0_ok 0 rfl (op_q (wantedA_none rfl) rfl (q_indexAddr (a := .rf 0 0 c11.length c11.length) (b := .v (.int .i64 c12)) kr kr (ix_rl (e := cdClause.enc) (xs := c11) (t' := 70) (el := 70) (k := 5) (ki := .i64) kr kr kr hv16))) ?_
    refine RunS.segF (n := 56) E0_ok 1 [p4, p3, p2, (51, .sl 1 (v15.map cdS.enc)), (53, .pt 0 c12.toNat 3)] [p1] kr ?_
    refine RunS.store E0_ok (y := .pt 0 c12.toNat 3) (z := .sl 1 (v15.map cdS.enc)) rfl (wantedA_none rfl) kr kr (st_fld (t' := 70) (k := 5) (e := cdClause.enc) (xs := c11) (v := v16) (v' := (v16.1, v16.2.1, v16.2.2.1, v15, v16.2.2.2.2)) kr (idx_at hv16).2 kr kr kr) ?_
    exact RunS.done rfl (Wk.sel2 [0] kr kr kr ⟨⟨_, rfl, bu_own⟩, trivial⟩ ⟨lu_rl (b' := 0) (n := c11.length) kr (by simp) kr, lu kr kr, lu kr kr, trivial⟩)
   let p7 : Nat × AV := (41, .v (.int .i64 (wr .i64 (c12 + 1))))
   refine Sem.rg E0_ok [p6, p3, p7] [p5] ?_
   exact SemN.wk (s1 := ⟨Fr 56 [p6, p3, p7], [p5]⟩) (Wk.sel2 [0] kr kr kr ⟨⟨_, rfl, bu_own⟩, trivial⟩ ⟨lu kr kr, lu kr kr, lu kr kr, trivial⟩) (ih (c11.set c12.toNat (v16.1, v16.2.1, v16.2.2.1, v15, v16.2.2.2.2)) (wr .i64 (c12 + 1)) h)
  ·rw [if_f hb13] at h
   refine Sem.exit ?_
   have hq := Option.some.inj h; subst hq
   exact ⟨rfl, (Wk.sel2 [0] kr kr kr ⟨⟨_, rfl, bu_own⟩, trivial⟩ ⟨lu kr kr, trivial⟩)⟩
theorem court_MergeN_sem (x0 : (List Clause)) (x1 : (List Clause)) (r : (List Clause) × Int) (h : court_MergeN x0 x1 = some r) : Sem E0 ⟨none, false⟩ cb_court_MergeN ⟨Fr 56 (pairs0 0 (cs_court_MergeN.enc (x0, x1, ()))), []⟩ fun e s' => (e = .normal ∨ e = .ret) ∧ ∃ xs, resA E0.P s'.fr s'.hp Tryz.f46.results.toList = some xs ∧ retA xs = er_court_MergeN r := by
 unfold court_MergeN at h
 let p1 : Nat × AV := (1, .sl 5 (x1.map cdClause.enc))
 let p2 : Nat × AV := (0, .sl 5 (x0.map cdClause.enc))
 refine Sem.wkQ (Sem.wk (s1 := ⟨Fr 56 [p2, p1], []⟩) (Wk.fr kr) ?_)
 refine Sem.sq E0_ok [p2, p1] [] ?_
 refine Sem.seq ?_
 refine Sem.seq ?_
 let p3 : Option Blk := mk 1 22 ([x0, x1].map (cdL 5 cdClause).enc)
 let p4 : Nat × AV := (16, .v (.int .i64 0))
 let p5 : Nat × AV := (15, .v (.int .i64 ([x0, x1].length : Int)))
 let p6 : Nat × AV := (14, hd 0 ([x0, x1].map (cdL 5 cdClause).enc))
 refine Sem.runS (s1 := ⟨Fr 56 [p2, p1, p6, p5, p4], [p3]⟩) ?_ ?_
 ·refine RunS.segF (n := 56) E0_ok 3 [p2, p1, p6] [p3] kr ?_
  refine RunS.one E0_ok 0 rfl (op_q (wantedA_none rfl) rfl (q_len (a := hd 0 ([x0, x1].map (cdL 5 cdClause).enc)) kr (len_hd' (xs := [x0, x1]) (e := (cdL 5 cdClause).enc) (el := 22) kr))) ?_
  exact RunS.last E0_ok
 refine Sem.block ?_
 obtain ⟨r7, hr7, h⟩ := Option.bind_eq_some_iff.1 h
 refine Sem.loop (n := 100000) ?_
 rcases r7 with w8 | w19
 ·try dsimp only at h
  refine Sem.cutN (SemN.wk (s1 := ⟨Fr 56 [p2, p1, p6, p5, p4], [p3]⟩) (Wk.sel2 [0] kr kr kr ⟨⟨_, rfl, bu_mk⟩, trivial⟩ ⟨lu kr kr, lu kr kr, lu_hd (b' := 0) kr kr, lu kr kr, lu kr kr, trivial⟩) (court_MergeN_l1_ok x0 x1 _ 0 _ hr7)) ?_
  refine Sem.seq ?_
  refine Sem.seq ?_
  refine Sem.runS (s1 := ⟨Fr 56 [p2, p1, (34, .v (.bool (decide ((wr .i64 ((x0.length : Int) + (x1.length : Int))) > 32))))], []⟩) ?_ ?_
  ·refine RunS.segF (n := 56) E0_ok 1 [p2, p1, (29, .sl 5 (x0.map cdClause.enc))] [] kr ?_
   refine RunS.one E0_ok 0 rfl (op_q (wantedA_none rfl) rfl (q_len (a := .sl 5 (x0.map cdClause.enc)) kr (len_sl (el := 70) kr))) ?_
   refine RunS.segF (n := 56) E0_ok 1 [p2, p1, (30, .v (.int .i64 (x0.length : Int))), (31, .sl 5 (x1.map cdClause.enc))] [] kr ?_
   refine RunS.one E0_ok 0 rfl (op_q (wantedA_none rfl) rfl (q_len (a := .sl 5 (x1.map cdClause.enc)) kr (len_sl (el := 70) kr))) ?_
   exact RunS.last E0_ok
  refine Sem.cond (b := (decide ((wr .i64 ((x0.length : Int) + (x1.length : Int))) > 32))) kr (fun hb9 => ?_) (fun hb9 => ?_)
  ·rw [if_pos hb9] at h
   let p7 : Nat × AV := (5, .v (.int .i64 7))
   refine Sem.sq E0_ok [(4, .e0), p7] [] ?_
   refine Sem.ret ?_
   have hq := Option.some.inj h; subst hq
   exact ⟨⟨Fr 56 [(4, .sl 5 ([].map cdClause.enc)), p7], []⟩, (Wk.trans (s1 := ⟨Fr 56 [(4, .e0), p7], []⟩) (Wk.fr kr) (Wk.trans (s1 := ⟨Fr 56 [(4, .e0), p7], [none]⟩) Wk.none (Wk.trans (s1 := ⟨Fr 56 [(4, .sl 5 ([].map cdClause.enc)), p7], [none]⟩) (Wk.frzG 0 (.inr kr) ⟨.inl rfl, trivial⟩ ⟨⟨.e0, kr, fz_e0⟩, ⟨.v (.int .i64 7), kr, .inl rfl⟩, trivial⟩) (Wk.sel2 [] kr kr kr trivial ⟨lu kr kr, lu kr kr, trivial⟩)))), .inr rfl, [.sl 5 ([].map cdClause.enc), .v (.int .i64 7)], kr, kr⟩
  ·rw [if_f hb9] at h
   refine Sem.skip ?_
   refine Sem.seq ?_
   obtain ⟨v10, hv10, h⟩ := Option.bind_eq_some_iff.1 h
   let p8 : Option Blk := some ⟨5, 70, (v10.map cdClause.enc), false⟩
   let p9 : Nat × AV := (10, .rf 0 0 v10.length v10.length)
   refine Sem.runS (s1 := ⟨Fr 56 [p9], [p8]⟩) ?_ ?_
   ·refine RunS.segF (n := 56) E0_ok 3 [(37, hd 0 ([x0, x1].map (cdL 5 cdClause).enc))] [p3] kr ?_
    refine RunS.wk (s1 := ⟨Fr 56 [(37, .sl 1 ([x0, x1].map (cdL 5 cdClause).enc))], [none]⟩) (Wk.frzG 0 (.inl kr) ⟨.inl rfl, trivial⟩ ⟨⟨hd 0 ([x0, x1].map (cdL 5 cdClause).enc), kr, fz_hd (t := 22) kr enc_ok⟩, trivial⟩) ?_
    refine RunS.callF rfl rfl (s_slices_Concat_api_Clause_api_Clause [x0, x1] _ hv10) rfl (wantedA_none rfl) kr kr kr (fl_slices_Concat_api_Clause_api_Clause v10) ?_
    rintro x h' ⟨rfl, rfl⟩
    refine RunS.segF (n := 56) E0_ok 1 [(10, .rf 1 0 v10.length v10.length)] [none, p8] kr ?_
    exact RunS.done rfl (Wk.sel2 [1] kr kr kr ⟨⟨_, rfl, bu_own⟩, trivial⟩ ⟨lu kr kr, trivial⟩)
   refine Sem.seq ?_
   refine Sem.seq ?_
   let p10 : Nat × AV := (40, .v (.int .i64 (v10.length : Int)))
   refine Sem.runS (s1 := ⟨Fr 56 [p9, p10, (41, .v (.int .i64 0))], [p8]⟩) ?_ ?_
   ·refine RunS.segF (n := 56) E0_ok 1 [p9, (39, .rf 0 0 v10.length v10.length)] [p8] kr ?_
    refine RunS.one E0_ok 0 rfl (op_q (wantedA_none rfl) rfl (q_len (a := .rf 0 0 v10.length v10.length) kr (len_rl (xs := v10) (el := 70) kr))) ?_
    exact RunS.last E0_ok
   refine Sem.block ?_
   obtain ⟨r18, hr18, h⟩ := Option.bind_eq_some_iff.1 h
   refine Sem.loop (n := 100000) ?_
   refine Sem.cutN (SemN.wk (s1 := ⟨Fr 56 [p9, p10, (41, .v (.int .i64 0))], [p8]⟩) (Wk.sel2 [0] kr kr kr ⟨⟨_, rfl, bu_own⟩, trivial⟩ ⟨lu kr kr, lu kr kr, lu kr kr, trivial⟩) (court_MergeN_l2_ok v10 _ v10 0 _ hr18)) ?_
   let p11 : Nat × AV := (5, .v (.int .i64 0))
   refine Sem.sq E0_ok [(4, .rf 0 0 r18.length r18.length), p11] [some ⟨5, 70, (r18.map cdClause.enc), false⟩] ?_
   refine Sem.ret ?_
   have hq := Option.some.inj h; subst hq
   exact ⟨⟨Fr 56 [(4, .sl 5 (r18.map cdClause.enc)), p11], []⟩, (Wk.trans (s1 := ⟨Fr 56 [(4, .sl 5 (r18.map cdClause.enc)), p11], [none]⟩) (Wk.frzG 0 (.inl kr) ⟨.inl rfl, trivial⟩ ⟨⟨.rf 0 0 r18.length r18.length, kr, fz_rlT (c := cdClause) (xs := r18) (t := 70) kr⟩, ⟨.v (.int .i64 0), kr, .inl rfl⟩, trivial⟩) (Wk.sel2 [] kr kr kr trivial ⟨lu kr kr, lu kr kr, trivial⟩)), .inr rfl, [.sl 5 (r18.map cdClause.enc), .v (.int .i64 0)], kr, kr⟩
 ·try dsimp only at h
  refine Sem.cutN (SemN.wk (s1 := ⟨Fr 56 [p2, p1, p6, p5, p4], [p3]⟩) (Wk.sel2 [0] kr kr kr ⟨⟨_, rfl, bu_mk⟩, trivial⟩ ⟨lu kr kr, lu kr kr, lu_hd (b' := 0) kr kr, lu kr kr, lu kr kr, trivial⟩) (court_MergeN_l1_ok x0 x1 _ 0 _ hr7)) ?_
  have hq := Option.some.inj h; subst hq
  let p12 : Nat × AV := (5, .v (.int .i64 w19))
  exact ⟨⟨Fr 56 [(4, .sl 5 ([].map cdClause.enc)), p12], []⟩, (Wk.trans (s1 := ⟨Fr 56 [(4, .e0), p12], []⟩) (Wk.fr kr) (Wk.trans (s1 := ⟨Fr 56 [(4, .e0), p12], [none]⟩) Wk.none (Wk.trans (s1 := ⟨Fr 56 [(4, .sl 5 ([].map cdClause.enc)), p12], [none]⟩) (Wk.frzG 0 (.inr kr) ⟨.inl rfl, trivial⟩ ⟨⟨.e0, kr, fz_e0⟩, ⟨.v (.int .i64 w19), kr, .inl rfl⟩, trivial⟩) (Wk.sel2 [] kr kr kr trivial ⟨lu kr kr, lu kr kr, trivial⟩)))), .inr rfl, [.sl 5 ([].map cdClause.enc), .v (.int .i64 w19)], kr, kr⟩
def t_court_MergeN : List AV → Option AV := told cs_court_MergeN (fun a => court_MergeN a.1 a.2.1) er_court_MergeN
theorem x_court_MergeN : XOk 46 t_court_MergeN := by
 refine xok_of_sem Tryz.func46 (c := cb_court_MergeN) ?h2 ⟨Tryz.call46⟩ cs_court_MergeN (fun a => court_MergeN a.1 a.2.1) er_court_MergeN (fun a => (by show 2 ≤ 56; decide)) ?h3 ?h4
 case h2 => kernel_rfl
 case h3 => intro b; kernel_rfl
 case h4 => exact fun a b h => court_MergeN_sem a.1 a.2.1 b h
theorem own_nil {R : List RI} {c : Nat} : ¬ own R [] c := fun ⟨b, B, _, hb, _⟩ => by simp at hb
/-- What a call hands back, seen as frozen. -/
def viewT (h : Hp) : AV → Option AV
 | .tp l => (allV (viewN h 12) l).map .tp
 | x => viewN h 12 x
theorem viewT_vr {w : World} {Z : Nat → Prop} {R : List RI} {h : Hp} {x y : AV} {v : Value} (hh : HR w Z R h) (hv : VR w Z R x v) (e : viewT h x = some y) : VR w (fun c => Z c ∨ own R h c) [] y v := by
 unfold viewT at e
 split at e
 ·obtain ⟨ys, h1, rfl⟩ := Option.map_eq_some_iff.1 e
  cases hv with
  | tp hl hx =>
   have := allV_vr (viewN_vr hh 12) ⟨hl, hx⟩ h1
   exact .tp this.len this.at_
 ·exact viewN_vr hh 12 _ _ _ hv e
theorem frz_ret {E : Env} {f : FuncId} {w : World} {Z : Nat → Prop} {us : List Value} {x y : AV} {h' : Hp} (hr : RetTo E f us w Z [] [] x h') (hv : viewT h' x = some y) :
  Ret E.P f us.toArray w fun v w' => w.grownBy w' none ∧ VR w' (fun c => Z c ∨ (w.heap.size ≤ c ∧ c < w'.heap.size)) [] y v := by
 refine Ret.mono hr fun v w' hS => ?_
 obtain ⟨Z', R', k1, k2, k3⟩ := hS
 refine ⟨⟨k3.os, k3.tape, k3.output, k3.size, fun c hc _ => k3.block c hc own_nil⟩, (viewT_vr k1 k2 hv).mono (fun _ _ => rfl) (fun c hc => ?_) (fun _ _ h => h)⟩
 rcases hc with hc | hc
 ·rcases k3.z' c hc with h1 | h1 | h1
  ·exact .inl h1
  ·exact absurd h1 own_nil
  ·exact .inr ⟨h1, k1.zlt c hc⟩
 ·rcases k3.own_ c hc with h1 | h1
  ·exact absurd h1 own_nil
  ·obtain ⟨b, B, r, h2, _, h3, rfl⟩ := hc
   exact .inr ⟨h1, k1.rltL h2 h3⟩
theorem hr_nil {w : World} {Z : Nat → Prop} (hz : ∀ c, Z c → c < w.heap.size) : HR w Z [] [] := ⟨rfl, fun b B hB => by simp at hB, fun b b' B B' r r' hB => by simp at hB, hz⟩
/-- A closed call is told by what the interpreter finds. -/
theorem closed_ok {E : Env} (hE : EnvOk E) {f : FuncId} {g : List AV → Option AV} (hc : Callable E.P f) (hg : ∀ xs y, g xs = some y → ∃ n x h', enterA E (evC E n) none f xs [] = some (x, h') ∧ viewT h' x = some y) : EnvOk (E.withX f g) := by
 refine hE.withX hc fun xs y h w Z us hz hgi hv => ?_
 obtain ⟨n, x, h', he, hvw⟩ := hg xs y h
 exact frz_ret (enter_sound hE (code_sound hE n).1 he (hr_nil hz) hv hgi (fun y hy => by cases hy)) hvw
/-- What a closed call hands back, frozen. -/
def closedRes (E : Env) (n : Nat) (f : FuncId) (args : List AV) : Option AV := match enterA E (evC E n) none f args [] with
 | some (x, h') => viewT h' x
 | none => none
/-- The same values? -/
def kB : IntKind → IntKind → Bool
 | .i64, .i64 => true
 | .u8, .u8 => true
 | _, _ => false
def vB : Value → Value → Bool
 | .int k a, .int k' b => kB k k' && a == b
 | .bool a, .bool b => a == b
 | .pointer none, .pointer none => true
 | _, _ => false
def bsB : List UInt8 → List UInt8 → Bool
 | [], [] => true
 | a :: l, b :: r => Nat.beq a.toNat b.toNat && bsB l r
 | _, _ => false
def allB (g : AV → AV → Bool) : List AV → List AV → Bool
 | [], [] => true
 | a :: l, b :: r => g a b && allB g l r
 | _, _ => false
def beqN : Nat → AV → AV → Bool
 | 0, _, _ => false
 | n + 1, x, y => match x, y with
  | .v a, .v b => vB a b
  | .st a, .st b => bsB a b
  | .e0, .e0 => true
  | .sl k a, .sl k' b => Nat.beq k k' && allB (beqN n) a b
  | .pe a o, .pe b o' => Nat.beq o o' && beqN n a b
  | .ag a, .ag b => allB (beqN n) a b
  | .tp a, .tp b => allB (beqN n) a b
  | .fn f a b, .fn f' a' b' => Nat.beq f f' && (allB (beqN n) a a' && allB (beqN n) b b')
  | _, _ => false
theorem kB_eq {a b : IntKind} (h : kB a b = true) : a = b := by
 unfold kB at h
 split at h
 ·rfl
 ·rfl
 ·cases h
theorem vB_eq {a b : Value} (h : vB a b = true) : a = b := by
 unfold vB at h
 split at h
 ·rw [Bool.and_eq_true] at h
  rw [kB_eq h.1, eq_of_beq h.2]
 ·rw [eq_of_beq h]
 ·rfl
 ·cases h
theorem bsB_eq : ∀ {a b : List UInt8}, bsB a b = true → a = b
 | [], [], _ => rfl
 | x :: l, y :: r, h => by
  unfold bsB at h
  rw [Bool.and_eq_true] at h
  rw [UInt8.toNat_inj.1 (Nat.eq_of_beq_eq_true h.1), bsB_eq h.2]
 | [], _ :: _, h => by cases h
 | _ :: _, [], h => by cases h
theorem allB_eq {g : AV → AV → Bool} (hg : ∀ x y, g x y = true → x = y) : ∀ {a b : List AV}, allB g a b = true → a = b
 | [], [], _ => rfl
 | x :: l, y :: r, h => by
  unfold allB at h
  rw [Bool.and_eq_true] at h
  rw [hg _ _ h.1, allB_eq hg h.2]
 | [], _ :: _, h => by cases h
 | _ :: _, [], h => by cases h
theorem beqN_eq : ∀ (n : Nat) (x y : AV), beqN n x y = true → x = y
 | 0, _, _, h => by cases h
 | n + 1, x, y, h => by
  have ih := beqN_eq n
  unfold beqN at h
  split at h
  ·rw [vB_eq h]
  ·rw [bsB_eq h]
  ·rfl
  ·rw [Bool.and_eq_true] at h
   rw [Nat.eq_of_beq_eq_true h.1, allB_eq ih h.2]
  ·rw [Bool.and_eq_true] at h
   rw [Nat.eq_of_beq_eq_true h.1, ih _ _ h.2]
  ·rw [allB_eq ih h]
  ·rw [allB_eq ih h]
  ·rw [Bool.and_eq_true, Bool.and_eq_true] at h
   rw [Nat.eq_of_beq_eq_true h.1, allB_eq ih h.2.1, allB_eq ih h.2.2]
  ·cases h
/-- A table. -/
def tabX : List (List AV × AV) → List AV → Option AV
 | [], _ => none
 | (a, r) :: l, xs => if allB (beqN 40) a xs = true then some r else tabX l xs
def TabOk (E : Env) (f : FuncId) : List (List AV × AV) → Prop
 | [] => True
 | (a, r) :: l => (∃ n, closedRes E n f a = some r) ∧ TabOk E f l
theorem tab_at {E : Env} {f : FuncId} : ∀ {l : List (List AV × AV)} {xs : List AV} {y : AV}, TabOk E f l → tabX l xs = some y → ∃ n, closedRes E n f xs = some y
 | (a, r) :: l, xs, y, h, e => by
  unfold tabX at e
  split at e
  ·next hb =>
   injection e with e
   subst e
   rw [← allB_eq (beqN_eq 40) hb]
   exact h.1
  ·exact tab_at h.2 e
theorem tab_ok {E : Env} (hE : EnvOk E) {f : FuncId} {l : List (List AV × AV)} (hc : Callable E.P f) (h : TabOk E f l) : EnvOk (E.withX f (tabX l)) := by
 refine closed_ok hE hc fun xs y e => ?_
 obtain ⟨n, hn⟩ := tab_at h e
 unfold closedRes at hn
 split at hn
 ·next x h' he => exact ⟨n, x, h', he, hn⟩
 ·cases hn
/-- Another contract, told by a table of its own values. -/
theorem tabG_ok {E : Env} {f : FuncId} {g : List AV → Option AV} {l : List (List AV × AV)} (hE : EnvOk (E.withX f g)) (h : ∀ p ∈ l, g p.1 = some p.2) : EnvOk (E.withX f (tabX l)) := by
 have hl : ∀ {l : List (List AV × AV)} {xs : List AV} {y : AV}, (∀ p ∈ l, g p.1 = some p.2) → tabX l xs = some y → g xs = some y := by
  intro l
  induction l with
  | nil => intro xs y _ e; cases e
  | cons p l ih =>
   intro xs y h e
   obtain ⟨a, r⟩ := p
   unfold tabX at e
   split at e
   ·next hb =>
    injection e with e
    subst e
    rw [← allB_eq (beqN_eq 40) hb]
    exact h (a, r) (by simp)
   ·exact ih (fun p hp => h p (List.mem_cons_of_mem _ hp)) e
 refine ⟨hE.fn, hE.mixed, hE.I, fun k q hk => ?_⟩
 change (if k = f then some (tabX l) else E.X k) = some q at hk
 split at hk
 ·next hkf =>
  injection hk with hk
  subst hk hkf
  obtain ⟨h1, h2⟩ := hE.X k g (if_pos rfl)
  exact ⟨h1, fun xs x hx w Z us hz hg hv => h2 xs x (hl h hx) w Z us hz hg hv⟩
 ·next hkf => exact hE.X k q ((if_neg hkf).trans hk)
/-- What is told in one environment may be told in another of the same program. -/
theorem withX_of {E E' : Env} {f : FuncId} {g : List AV → Option AV} (hE : EnvOk E) (h : EnvOk (E'.withX f g)) (hP : E'.P = E.P) (hG : E'.G = E.G) : EnvOk (E.withX f g) := by
 obtain ⟨h1, h2⟩ := h.X f g (if_pos rfl)
 have e1 : (E'.withX f g).P = E.P := hP
 refine hE.withX (e1 ▸ h1) fun xs x hx w Z us hz hg hv => ?_
 have := h2 xs x hx w Z us hz (fun q y hy => hg q y (by rw [← hG]; exact hy)) hv
 exact e1 ▸ this
/-- Lists that are told by one value. -/
noncomputable def csJ {α : Type} (e : α → List AV) (hi : ∀ x y, e x = e y → x = y) (hn : ∀ x, (e x).all noRf2 = true) : Cs α where
 enc := e
 dec a := open Classical in if h : ∃ x, e x = a then some h.choose else none
 de x := by
  have h : ∃ y, e y = e x := ⟨x, rfl⟩
  rw [dif_pos h, hi _ _ h.choose_spec]
 vr := fun {w Z a x u} hd hv => by
  split at hd
  ·next h => injection hd with hd; subst hd; rw [h.choose_spec]; exact hv
  ·cases hd
 nr := hn
theorem Sl.encs {α : Type} {n : Nat} {h : Hp} {s : Cs α} {a : α} : Sl (n + 2) h s (s.enc a) a :=
 ⟨s.enc a, allV_id fun y hy => viewN_id2 (List.all_eq_true.1 (s.nr a) y hy) n, s.de a⟩
theorem cd_inj {α : Type} {c : Cd α} {x y : α} (h : c.enc x = c.enc y) : x = y := by
 have h1 := c.de x
 rw [h, c.de y] at h1
 exact (Option.some.inj h1).symm
/-- The order of a clause without regard to Among. -/
def encPlain (c : Clause) : AV :=
 if (c.1 == 1) = true then .fn 187 [] [.pe (.fn 164 [] [.pe (cdClause.enc c) 0]) 0] else
 if (c.1 == 2) = true then .fn 165 [] [.pe (cdClause.enc c) 0] else
 if (c.1 == 3) = true then .fn 165 [] [.pe (cdClause.enc c) 0] else
 if (c.1 == 4) = true then .fn 187 [] [.pe (.fn 188 [] [.pe (.fn 169 [] [.pe (cdClause.enc c) 0]) 0, .pe (cdClause.enc c) 0]) 0] else
 if (c.1 == 5) = true then .fn 187 [] [.pe (.fn 188 [] [.pe (.fn 170 [] []) 0, .pe (cdClause.enc c) 0]) 0] else
 if (c.1 == 6) = true then .fn 187 [] [.pe (.fn 188 [] [.pe (.fn 171 [] [.pe (cdClause.enc c) 0]) 0, .pe (cdClause.enc c) 0]) 0] else
 if (c.1 == 7) = true then .fn 187 [] [.pe (.fn 188 [] [.pe (.fn 173 [] [.pe (cdClause.enc c) 0]) 0, .pe (cdClause.enc c) 0]) 0] else
 if (c.1 == 8) = true then .fn 174 [] [] else
 if (c.1 == 10) = true then .fn 191 [] [.pe (.fn 190 [] []) 0, .pe (.fn 177 [] [.pe (cdClause.enc c) 0]) 0] else
 .fn 191 [] [.pe (.fn 190 [] []) 0, .pe (.fn 178 [] []) 0]
def encOrd (c : Clause) : AV := .fn 154 [] [.pe (cdClause.enc c) 0, .pe (encPlain c) 0]
noncomputable def cdOrd : Cd Clause := cdJ encOrd (fun x y h => by
 unfold encOrd at h
 injection h with _ _ h
 injection h with h
 injection h with h
 exact cd_inj h) (fun _ => rfl)
noncomputable def csOrdCaps : Cs Clause := csJ (fun c => [.pe (cdClause.enc c) 0, .pe (encPlain c) 0]) (fun x y h => by
 injection h with h
 injection h with h
 exact cd_inj h) (fun _ => rfl)
/-- A straight call, told by what the interpreter finds. -/
theorem xok_closed {f : FuncId} (hc : Callable E0.P f) {α β : Type} (s : Cs α) (F : α → Option β) (er : β → AV) (h : ∀ a b, F a = some b → ∃ n, closedRes E0 n f (s.enc a) = some (er b)) : XOk f (told s F er) := by
 refine ⟨hc, fun xs y hy w Z us hz hg hv => ?_⟩
 obtain ⟨a, ha, hy⟩ := Option.bind_eq_some_iff.1 hy
 obtain ⟨b, hb, rfl⟩ := Option.map_eq_some_iff.1 hy
 obtain ⟨n, hn⟩ := h a b hb
 unfold closedRes at hn
 split at hn
 ·next x h' he => exact frz_ret (enter_sound E0_ok (code_sound E0_ok n).1 he (hr_nil hz) (s.vr ha hv) hg (fun y hy => by cases hy)) hn
 ·cases hn
def court_orderOf (x0 : Clause) : Option Clause := if 1 ≤ x0.1 ∧ x0.1 ≤ 10 then some x0 else none
def cs_court_orderOf : Cs (Clause × Unit) := csC cdClause csN
noncomputable def er_court_orderOf (r : Clause) : AV := cdOrd.enc r
noncomputable def t_court_orderOf : List AV → Option AV := told cs_court_orderOf (fun a => court_orderOf a.1) er_court_orderOf
section
variable (am : List UInt8) (la : Bool) (nm : List (List UInt8)) (m : Int)
theorem ordOf_1 : closedRes E0 300 130 (cs_court_orderOf.enc ((1, am, la, nm, m), ())) = some (encOrd (1, am, la, nm, m)) := by kernel_rfl
theorem ordOf_2 : closedRes E0 300 130 (cs_court_orderOf.enc ((2, am, la, nm, m), ())) = some (encOrd (2, am, la, nm, m)) := by kernel_rfl
theorem ordOf_3 : closedRes E0 300 130 (cs_court_orderOf.enc ((3, am, la, nm, m), ())) = some (encOrd (3, am, la, nm, m)) := by kernel_rfl
theorem ordOf_4 : closedRes E0 300 130 (cs_court_orderOf.enc ((4, am, la, nm, m), ())) = some (encOrd (4, am, la, nm, m)) := by kernel_rfl
theorem ordOf_5 : closedRes E0 300 130 (cs_court_orderOf.enc ((5, am, la, nm, m), ())) = some (encOrd (5, am, la, nm, m)) := by kernel_rfl
theorem ordOf_6 : closedRes E0 300 130 (cs_court_orderOf.enc ((6, am, la, nm, m), ())) = some (encOrd (6, am, la, nm, m)) := by kernel_rfl
theorem ordOf_7 : closedRes E0 300 130 (cs_court_orderOf.enc ((7, am, la, nm, m), ())) = some (encOrd (7, am, la, nm, m)) := by kernel_rfl
theorem ordOf_8 : closedRes E0 300 130 (cs_court_orderOf.enc ((8, am, la, nm, m), ())) = some (encOrd (8, am, la, nm, m)) := by kernel_rfl
theorem ordOf_9 : closedRes E0 300 130 (cs_court_orderOf.enc ((9, am, la, nm, m), ())) = some (encOrd (9, am, la, nm, m)) := by kernel_rfl
theorem ordOf_10 : closedRes E0 300 130 (cs_court_orderOf.enc ((10, am, la, nm, m), ())) = some (encOrd (10, am, la, nm, m)) := by kernel_rfl
end
theorem x_court_orderOf : XOk 130 t_court_orderOf := by
 refine xok_closed ⟨Tryz.call130⟩ cs_court_orderOf (fun a => court_orderOf a.1) er_court_orderOf fun a b h => ⟨300, ?_⟩
 obtain ⟨⟨k, am, la, nm, m⟩, ⟨⟩⟩ := a
 by_cases hk : 1 ≤ k ∧ k ≤ 10
 ·have h1 : some (k, am, la, nm, m) = some b := (if_pos hk : court_orderOf (k, am, la, nm, m) = _).symm.trans h
  have h2 : er_court_orderOf b = encOrd (k, am, la, nm, m) := congrArg encOrd (Option.some.inj h1).symm
  rw [h2]
  clear h h1 h2
  have hk' : k = 1 ∨ k = 2 ∨ k = 3 ∨ k = 4 ∨ k = 5 ∨ k = 6 ∨ k = 7 ∨ k = 8 ∨ k = 9 ∨ k = 10 := by omega
  rcases hk' with rfl | rfl | rfl | rfl | rfl | rfl | rfl | rfl | rfl | rfl
  ·exact ordOf_1 am la nm m
  ·exact ordOf_2 am la nm m
  ·exact ordOf_3 am la nm m
  ·exact ordOf_4 am la nm m
  ·exact ordOf_5 am la nm m
  ·exact ordOf_6 am la nm m
  ·exact ordOf_7 am la nm m
  ·exact ordOf_8 am la nm m
  ·exact ordOf_9 am la nm m
  ·exact ordOf_10 am la nm m
 ·exact nomatch ((if_neg hk : court_orderOf (k, am, la, nm, m) = _).symm.trans h)
/- trestle/court.b2i -/
noncomputable def cb_court_b2i : Code := codeOf Tryz.f167
def court_b2i (x0 : Bool) : Option (Int) :=
 if x0 = true then
 some 1
 else
 some 0
def cs_court_b2i : Cs (Bool × Unit) := (csC cdB csN)
def er_court_b2i (r : Int) : AV := cdI.enc r
theorem court_b2i_sem (x0 : Bool) (r : Int) (h : court_b2i x0 = some r) : Sem E0 ⟨none, false⟩ cb_court_b2i ⟨Fr 4 (pairs0 0 (cs_court_b2i.enc (x0, ()))), []⟩ fun e s' => (e = .normal ∨ e = .ret) ∧ ∃ xs, resA E0.P s'.fr s'.hp Tryz.f167.results.toList = some xs ∧ retA xs = er_court_b2i r := by
 unfold court_b2i at h
 refine Sem.wkQ (Sem.wk (s1 := ⟨Fr 4 [(0, .v (.bool x0))], []⟩) (Wk.fr kr) ?_)
 refine Sem.sq E0_ok [(0, .v (.bool x0))] [] ?_
 refine Sem.seq ?_
 refine Sem.sq E0_ok [(3, .v (.bool x0))] [] ?_
 refine Sem.cond (b := x0) kr (fun hb1 => ?_) (fun hb1 => ?_)
 ·rw [if_pos hb1] at h
  refine Sem.sq E0_ok [(2, .v (.int .i64 1))] [] ?_
  refine Sem.ret ?_
  have hq := Option.some.inj h; subst hq
  exact ⟨⟨Fr 4 [(2, .v (.int .i64 1))], []⟩, (Wk.fr kr), .inr rfl, [.v (.int .i64 1)], kr, kr⟩
 ·rw [if_f hb1] at h
  refine Sem.skip ?_
  refine Sem.sq E0_ok [(2, .v (.int .i64 0))] [] ?_
  refine Sem.ret ?_
  have hq := Option.some.inj h; subst hq
  exact ⟨⟨Fr 4 [(2, .v (.int .i64 0))], []⟩, (Wk.fr kr), .inr rfl, [.v (.int .i64 0)], kr, kr⟩
def t_court_b2i : List AV → Option AV := told cs_court_b2i (fun a => court_b2i a.1) er_court_b2i
theorem x_court_b2i : XOk 167 t_court_b2i := by
 refine xok_of_sem Tryz.func167 (c := cb_court_b2i) ?h2 ⟨Tryz.call167⟩ cs_court_b2i (fun a => court_b2i a.1) er_court_b2i (fun a => (by show 1 ≤ 4; decide)) ?h3 ?h4
 case h2 => kernel_rfl
 case h3 => intro b; kernel_rfl
 case h4 => exact fun a b h => court_b2i_sem a.1 b h
/- cmp.isNaN[int] -/
noncomputable def cb_cmp_isNaN_int : Code := codeOf Tryz.f134
def cmp_isNaN_int (x0 : Int) : Option (Bool) :=
 some (x0 != x0)
def cs_cmp_isNaN_int : Cs (Int × Unit) := (csC cdI csN)
def er_cmp_isNaN_int (r : Bool) : AV := cdB.enc r
theorem cmp_isNaN_int_sem (x0 : Int) (r : Bool) (h : cmp_isNaN_int x0 = some r) : Sem E0 ⟨none, false⟩ cb_cmp_isNaN_int ⟨Fr 6 (pairs0 0 (cs_cmp_isNaN_int.enc (x0, ()))), []⟩ fun e s' => (e = .normal ∨ e = .ret) ∧ ∃ xs, resA E0.P s'.fr s'.hp Tryz.f134.results.toList = some xs ∧ retA xs = er_cmp_isNaN_int r := by
 unfold cmp_isNaN_int at h
 refine Sem.wkQ (Sem.wk (s1 := ⟨Fr 6 [(0, .v (.int .i64 x0))], []⟩) (Wk.fr kr) ?_)
 refine Sem.sq E0_ok [(0, .v (.int .i64 x0))] [] ?_
 refine Sem.sq E0_ok [(2, .v (.bool (x0 != x0)))] [] ?_
 refine Sem.ret ?_
 have hq := Option.some.inj h; subst hq
 exact ⟨⟨Fr 6 [(2, .v (.bool (x0 != x0)))], []⟩, (Wk.fr kr), .inr rfl, [.v (.bool (x0 != x0))], kr, kr⟩
def t_cmp_isNaN_int : List AV → Option AV := told cs_cmp_isNaN_int (fun a => cmp_isNaN_int a.1) er_cmp_isNaN_int
theorem x_cmp_isNaN_int : XOk 134 t_cmp_isNaN_int := by
 refine xok_of_sem Tryz.func134 (c := cb_cmp_isNaN_int) ?h2 ⟨Tryz.call134⟩ cs_cmp_isNaN_int (fun a => cmp_isNaN_int a.1) er_cmp_isNaN_int (fun a => (by show 1 ≤ 6; decide)) ?h3 ?h4
 case h2 => kernel_rfl
 case h3 => intro b; kernel_rfl
 case h4 => exact fun a b h => cmp_isNaN_int_sem a.1 b h
/- cmp.Compare[int] -/
noncomputable def cb_cmp_Compare_int : Code := codeOf Tryz.f166
def cmp_Compare_int (x0 : Int) (x1 : Int) : Option (Int) :=
 (cmp_isNaN_int x0).bind fun v1 =>
 (cmp_isNaN_int x1).bind fun v2 =>
 if v1 = true then
 if v2 = true then
 some 0
 else
 some (-1)
 else
 if v2 = true then
 some 1
 else
 if (decide (x0 < x1)) = true then
 some (-1)
 else
 if (decide (x0 > x1)) = true then
 some 1
 else
 some 0
def cs_cmp_Compare_int : Cs (Int × Int × Unit) := (csC cdI (csC cdI csN))
def er_cmp_Compare_int (r : Int) : AV := cdI.enc r
theorem cmp_Compare_int_sem (x0 : Int) (x1 : Int) (r : Int) (h : cmp_Compare_int x0 x1 = some r) : Sem E0 ⟨none, false⟩ cb_cmp_Compare_int ⟨Fr 20 (pairs0 0 (cs_cmp_Compare_int.enc (x0, x1, ()))), []⟩ fun e s' => (e = .normal ∨ e = .ret) ∧ ∃ xs, resA E0.P s'.fr s'.hp Tryz.f166.results.toList = some xs ∧ retA xs = er_cmp_Compare_int r := by
 unfold cmp_Compare_int at h
 let p1 : Nat × AV := (1, .v (.int .i64 x1))
 let p2 : Nat × AV := (0, .v (.int .i64 x0))
 refine Sem.wkQ (Sem.wk (s1 := ⟨Fr 20 [p2, p1], []⟩) (Wk.fr kr) ?_)
 refine Sem.sq E0_ok [p2, p1] [] ?_
 refine Sem.seq ?_
 obtain ⟨v1, hv1, h⟩ := Option.bind_eq_some_iff.1 h
 let p3 : Nat × AV := (5, .v (.bool v1))
 refine Sem.runS (s1 := ⟨Fr 20 [p2, p1, p3], []⟩) ?_ ?_
 ·refine RunS.segF (n := 20) E0_ok 1 [p2, p1, (7, .v (.int .i64 x0))] [] kr ?_
  refine RunS.callV (caps := []) (xs := [.v (.int .i64 x0)]) (u := (x0, ())) rfl rfl x_cmp_isNaN_int rfl (wantedA_none rfl) kr kr (Sl.cons (Sm.enc (c := cdI) (v := x0)) Sl.nil) (.inl kr) hv1 ?_
  exact RunS.last E0_ok
 refine Sem.seq ?_
 obtain ⟨v2, hv2, h⟩ := Option.bind_eq_some_iff.1 h
 refine Sem.runS (s1 := ⟨Fr 20 [p2, p1, p3, (6, .v (.bool v2))], []⟩) ?_ ?_
 ·refine RunS.segF (n := 20) E0_ok 1 [p2, p1, p3, (9, .v (.int .i64 x1))] [] kr ?_
  refine RunS.callV (caps := []) (xs := [.v (.int .i64 x1)]) (u := (x1, ())) rfl rfl x_cmp_isNaN_int rfl (wantedA_none rfl) kr kr (Sl.cons (Sm.enc (c := cdI) (v := x1)) Sl.nil) (.inl kr) hv2 ?_
  exact RunS.last E0_ok
 refine Sem.seq ?_
 refine Sem.sq E0_ok [p2, p1, (6, .v (.bool v2)), (11, .v (.bool v1))] [] ?_
 refine Sem.cond (b := v1) kr (fun hb3 => ?_) (fun hb3 => ?_)
 ·rw [if_pos hb3] at h
  refine Sem.seq ?_
  refine Sem.sq E0_ok [(12, .v (.bool v2))] [] ?_
  refine Sem.cond (b := v2) kr (fun hb4 => ?_) (fun hb4 => ?_)
  ·rw [if_pos hb4] at h
   refine Sem.sq E0_ok [(4, .v (.int .i64 0))] [] ?_
   refine Sem.ret ?_
   have hq := Option.some.inj h; subst hq
   exact ⟨⟨Fr 20 [(4, .v (.int .i64 0))], []⟩, (Wk.fr kr), .inr rfl, [.v (.int .i64 0)], kr, kr⟩
  ·rw [if_f hb4] at h
   refine Sem.skip ?_
   refine Sem.sq E0_ok [(4, .v (.int .i64 (-1)))] [] ?_
   refine Sem.ret ?_
   have hq := Option.some.inj h; subst hq
   exact ⟨⟨Fr 20 [(4, .v (.int .i64 (-1)))], []⟩, (Wk.fr kr), .inr rfl, [.v (.int .i64 (-1))], kr, kr⟩
 ·rw [if_f hb3] at h
  refine Sem.skip ?_
  refine Sem.seq ?_
  refine Sem.sq E0_ok [p2, p1, (13, .v (.bool v2))] [] ?_
  refine Sem.cond (b := v2) kr (fun hb5 => ?_) (fun hb5 => ?_)
  ·rw [if_pos hb5] at h
   refine Sem.sq E0_ok [(4, .v (.int .i64 1))] [] ?_
   refine Sem.ret ?_
   have hq := Option.some.inj h; subst hq
   exact ⟨⟨Fr 20 [(4, .v (.int .i64 1))], []⟩, (Wk.fr kr), .inr rfl, [.v (.int .i64 1)], kr, kr⟩
  ·rw [if_f hb5] at h
   refine Sem.skip ?_
   refine Sem.seq ?_
   refine Sem.sq E0_ok [p2, p1, (16, .v (.bool (decide (x0 < x1))))] [] ?_
   refine Sem.cond (b := (decide (x0 < x1))) kr (fun hb6 => ?_) (fun hb6 => ?_)
   ·rw [if_pos hb6] at h
    refine Sem.sq E0_ok [(4, .v (.int .i64 (-1)))] [] ?_
    refine Sem.ret ?_
    have hq := Option.some.inj h; subst hq
    exact ⟨⟨Fr 20 [(4, .v (.int .i64 (-1)))], []⟩, (Wk.fr kr), .inr rfl, [.v (.int .i64 (-1))], kr, kr⟩
   ·rw [if_f hb6] at h
    refine Sem.skip ?_
    refine Sem.seq ?_
    refine Sem.sq E0_ok [(19, .v (.bool (decide (x0 > x1))))] [] ?_
    refine Sem.cond (b := (decide (x0 > x1))) kr (fun hb7 => ?_) (fun hb7 => ?_)
    ·rw [if_pos hb7] at h
     refine Sem.sq E0_ok [(4, .v (.int .i64 1))] [] ?_
     refine Sem.ret ?_
     have hq := Option.some.inj h; subst hq
     exact ⟨⟨Fr 20 [(4, .v (.int .i64 1))], []⟩, (Wk.fr kr), .inr rfl, [.v (.int .i64 1)], kr, kr⟩
    ·rw [if_f hb7] at h
     refine Sem.skip ?_
     refine Sem.sq E0_ok [(4, .v (.int .i64 0))] [] ?_
     refine Sem.ret ?_
     have hq := Option.some.inj h; subst hq
     exact ⟨⟨Fr 20 [(4, .v (.int .i64 0))], []⟩, (Wk.fr kr), .inr rfl, [.v (.int .i64 0)], kr, kr⟩
def t_cmp_Compare_int : List AV → Option AV := told cs_cmp_Compare_int (fun a => cmp_Compare_int a.1 a.2.1) er_cmp_Compare_int
theorem x_cmp_Compare_int : XOk 166 t_cmp_Compare_int := by
 refine xok_of_sem Tryz.func166 (c := cb_cmp_Compare_int) ?h2 ⟨Tryz.call166⟩ cs_cmp_Compare_int (fun a => cmp_Compare_int a.1 a.2.1) er_cmp_Compare_int (fun a => (by show 2 ≤ 20; decide)) ?h3 ?h4
 case h2 => kernel_rfl
 case h3 => intro b; kernel_rfl
 case h4 => exact fun a b h => cmp_Compare_int_sem a.1 a.2.1 b h
/- trestle/court.plain$2 -/
noncomputable def cb_court_plain_2 : Code := codeOf Tryz.f165
def court_plain_2_j1 (x2 : Clause) (v5 : Int) : Option ((Int)) :=
 if (x2.1 == 3) = true then
 some (wr .i64 (0 - v5))
 else
 some v5
def court_plain_2 (x0 : Seated) (x1 : Seated) (x2 : Clause) : Option (Int) :=
 if (!((x0.1.2.2.2.1 == 0) == (x1.1.2.2.2.1 == 0))) = true then
 (court_b2i (x0.1.2.2.2.1 == 0)).bind fun v2 =>
 (court_b2i (x1.1.2.2.2.1 == 0)).bind fun v3 =>
 (cmp_Compare_int v2 v3).bind fun v4 =>
 some v4
 else
 (cmp_Compare_int x0.1.2.2.2.1 x1.1.2.2.2.1).bind fun v5 =>
 (court_plain_2_j1 x2 v5).bind fun r8 =>
 some r8
def cs_court_plain_2 : Cs (Seated × Seated × Clause × Unit) := (csC cdSeated (csC cdSeated (csC (cdP cdClause) csN)))
def er_court_plain_2 (r : Int) : AV := cdI.enc r
theorem court_plain_2_j1_ok (x2 : Clause) (v5 : Int) (r : (Int)) (h : court_plain_2_j1 x2 v5 = some r) : Sem E0 ⟨none, false⟩ (pc cb_court_plain_2 [1, 1, 1, 0, 1]) ⟨Fr 40 [(6, .v (.int .i64 v5)), (36, .v (.bool (x2.1 == 3)))], []⟩ (fun e s => e = .normal ∧ Wk E0 s ⟨Fr 40 [(6, .v (.int .i64 r))], []⟩) := by
 unfold court_plain_2_j1 at h
 refine Sem.cond (b := (x2.1 == 3)) kr (fun hb6 => ?_) (fun hb6 => ?_)
 ·rw [if_pos hb6] at h
  refine Sem.rg E0_ok [(6, .v (.int .i64 (wr .i64 (0 - v5))))] [] ?_
  have hq := Option.some.inj h; subst hq
  exact ⟨rfl, (Wk.fr kr)⟩
 ·rw [if_f hb6] at h
  refine Sem.skip ?_
  have hq := Option.some.inj h; subst hq
  exact ⟨rfl, (Wk.fr kr)⟩
theorem court_plain_2_sem (x0 : Seated) (x1 : Seated) (x2 : Clause) (r : Int) (h : court_plain_2 x0 x1 x2 = some r) : Sem E0 ⟨none, false⟩ cb_court_plain_2 ⟨Fr 40 (pairs0 0 (cs_court_plain_2.enc (x0, x1, x2, ()))), []⟩ fun e s' => (e = .normal ∨ e = .ret) ∧ ∃ xs, resA E0.P s'.fr s'.hp Tryz.f165.results.toList = some xs ∧ retA xs = er_court_plain_2 r := by
 unfold court_plain_2 at h
 let p1 : Nat × AV := (2, .pe (cdClause.enc x2) 0)
 refine Sem.wkQ (Sem.wk (s1 := ⟨Fr 40 [(0, cdSeated.enc x0), (1, cdSeated.enc x1), p1], []⟩) (Wk.fr kr) ?_)
 let p2 : Option Blk := some ⟨10, 131, [cdSeated.enc x1], false⟩
 let p3 : Option Blk := some ⟨10, 131, [cdSeated.enc x0], false⟩
 refine Sem.sq E0_ok [p1, (3, .pt 0 0 0), (4, .pt 1 0 0)] [p3, p2] ?_
 refine Sem.seq ?_
 refine Sem.sq E0_ok [p1, (3, .pt 0 0 0), (4, .pt 1 0 0), (15, .v (.bool (!((x0.1.2.2.2.1 == 0) == (x1.1.2.2.2.1 == 0)))))] [p3, p2] ?_
 refine Sem.cond (b := (!((x0.1.2.2.2.1 == 0) == (x1.1.2.2.2.1 == 0)))) kr (fun hb1 => ?_) (fun hb1 => ?_)
 ·rw [if_pos hb1] at h
  refine Sem.seq ?_
  obtain ⟨v2, hv2, h⟩ := Option.bind_eq_some_iff.1 h
  obtain ⟨v3, hv3, h⟩ := Option.bind_eq_some_iff.1 h
  obtain ⟨v4, hv4, h⟩ := Option.bind_eq_some_iff.1 h
  let p4 : Nat × AV := (5, .v (.int .i64 v4))
  refine Sem.runDS E0_ok (s1 := ⟨Fr 40 [p4], []⟩) kr ?_ ?_
  ·refine RunDS.segF (n := 40) E0_ok 4 [(4, .pt 1 0 0), (19, .v (.bool (x0.1.2.2.2.1 == 0)))] [p3, p2] kr kr ?_
   refine RunDS.callV (caps := []) (xs := [.v (.bool (x0.1.2.2.2.1 == 0))]) (u := ((x0.1.2.2.2.1 == 0), ())) rfl rfl x_court_b2i rfl (wantedA_none rfl) kr kr (Sl.cons (Sm.enc (c := cdB) (v := (x0.1.2.2.2.1 == 0))) Sl.nil) kr hv2 ?_
   refine RunDS.segF (n := 40) E0_ok 4 [(20, .v (.int .i64 v2)), (24, .v (.bool (x1.1.2.2.2.1 == 0)))] [p3, p2] kr kr ?_
   refine RunDS.callV (caps := []) (xs := [.v (.bool (x1.1.2.2.2.1 == 0))]) (u := ((x1.1.2.2.2.1 == 0), ())) rfl rfl x_court_b2i rfl (wantedA_none rfl) kr kr (Sl.cons (Sm.enc (c := cdB) (v := (x1.1.2.2.2.1 == 0))) Sl.nil) kr hv3 ?_
   refine RunDS.callV (caps := []) (xs := [.v (.int .i64 v2), .v (.int .i64 v3)]) (u := (v2, v3, ())) rfl rfl x_cmp_Compare_int rfl (wantedA_none rfl) kr kr (Sl.cons (Sm.enc (c := cdI) (v := v2)) (Sl.cons (Sm.enc (c := cdI) (v := v3)) Sl.nil)) kr hv4 ?_
   refine RunDS.segF (n := 40) E0_ok 1 [p4] [p3, p2] kr kr ?_
   exact RunDS.done rfl (Wk.sel2 [] kr kr kr trivial ⟨lu kr kr, trivial⟩)
  refine Sem.ret ?_
  have hq := Option.some.inj h; subst hq
  exact ⟨⟨Fr 40 [p4], []⟩, (Wk.fr kr), .inr rfl, [.v (.int .i64 v4)], kr, kr⟩
 ·rw [if_f hb1] at h
  refine Sem.skip ?_
  refine Sem.seq ?_
  obtain ⟨v5, hv5, h⟩ := Option.bind_eq_some_iff.1 h
  let p5 : Nat × AV := (6, .v (.int .i64 v5))
  refine Sem.runS (s1 := ⟨Fr 40 [p1, p5], []⟩) ?_ ?_
  ·refine RunS.segF (n := 40) E0_ok 6 [p1, (29, .v (.int .i64 x0.1.2.2.2.1)), (32, .v (.int .i64 x1.1.2.2.2.1))] [p3, p2] kr ?_
   refine RunS.callV (caps := []) (xs := [.v (.int .i64 x0.1.2.2.2.1), .v (.int .i64 x1.1.2.2.2.1)]) (u := (x0.1.2.2.2.1, x1.1.2.2.2.1, ())) rfl rfl x_cmp_Compare_int rfl (wantedA_none rfl) kr kr (Sl.cons (Sm.enc (c := cdI) (v := x0.1.2.2.2.1)) (Sl.cons (Sm.enc (c := cdI) (v := x1.1.2.2.2.1)) Sl.nil)) (.inl kr) hv5 ?_
   refine RunS.segF (n := 40) E0_ok 1 [p1, p5] [p3, p2] kr ?_
   exact RunS.done rfl (Wk.sel2 [] kr kr kr trivial ⟨lu kr kr, lu kr kr, trivial⟩)
  refine Sem.seq ?_
  refine Sem.sq E0_ok [p5, (36, .v (.bool (x2.1 == 3)))] [] ?_
  obtain ⟨r8, hr8, h⟩ := Option.bind_eq_some_iff.1 h
  refine Sem.cut (court_plain_2_j1_ok x2 v5 _ hr8) ?_
  refine Sem.sq E0_ok [(5, .v (.int .i64 r8))] [] ?_
  refine Sem.ret ?_
  have hq := Option.some.inj h; subst hq
  exact ⟨⟨Fr 40 [(5, .v (.int .i64 r8))], []⟩, (Wk.fr kr), .inr rfl, [.v (.int .i64 r8)], kr, kr⟩
def t_court_plain_2 : List AV → Option AV := told cs_court_plain_2 (fun a => court_plain_2 a.1 a.2.1 a.2.2.1) er_court_plain_2
theorem x_court_plain_2 : XOk 165 t_court_plain_2 := by
 refine xok_of_sem Tryz.func165 (c := cb_court_plain_2) ?h2 ⟨Tryz.call165⟩ cs_court_plain_2 (fun a => court_plain_2 a.1 a.2.1 a.2.2.1) er_court_plain_2 (fun a => (by show 3 ≤ 40; decide)) ?h3 ?h4
 case h2 => kernel_rfl
 case h3 => intro b; kernel_rfl
 case h4 => exact fun a b h => court_plain_2_sem a.1 a.2.1 a.2.2.1 b h
/- trestle/court.orderOf$1 -/
noncomputable def cb_court_orderOf_1__court_plain_2 : Code := codeOf Tryz.f154
def court_orderOf_1__court_plain_2 (x0 : Seated) (x1 : Seated) (x2 : Clause) (x3 : Clause) : Option (Int) :=
 (if (!(x2.2.1 == [])) = true then if (!(x0.1.2.1 == x2.2.1)) = true then some true else some (!(x1.1.2.1 == x2.2.1)) else some false).bind fun j2 =>
 if j2 = true then
 some 0
 else
 (court_plain_2 x0 x1 x3).bind fun v4 =>
 some v4
def cs_court_orderOf_1__court_plain_2 : Cs (Seated × Seated × Clause × Clause × Unit) := (csC cdSeated (csC cdSeated (csC (cdP cdClause) (csC (cdP (cdF 165 (csE (cdP cdClause)) (fun _ => rfl))) csN))))
def er_court_orderOf_1__court_plain_2 (r : Int) : AV := cdI.enc r
theorem court_orderOf_1__court_plain_2_sem (x0 : Seated) (x1 : Seated) (x2 : Clause) (x3 : Clause) (r : Int) (h : court_orderOf_1__court_plain_2 x0 x1 x2 x3 = some r) : Sem E0 ⟨none, false⟩ cb_court_orderOf_1__court_plain_2 ⟨Fr 30 (pairs0 0 (cs_court_orderOf_1__court_plain_2.enc (x0, x1, x2, x3, ()))), []⟩ fun e s' => (e = .normal ∨ e = .ret) ∧ ∃ xs, resA E0.P s'.fr s'.hp Tryz.f154.results.toList = some xs ∧ retA xs = er_court_orderOf_1__court_plain_2 r := by
 unfold court_orderOf_1__court_plain_2 at h
 refine Sem.wkQ (Sem.wk (s1 := ⟨Fr 30 [(0, cdSeated.enc x0), (1, cdSeated.enc x1), (2, .pe (cdClause.enc x2) 0), (3, .pe (.fn 165 [] [.pe (cdClause.enc x3) 0]) 0)], []⟩) (Wk.fr kr) ?_)
 refine Sem.sq E0_ok [(2, .pe (cdClause.enc x2) 0), (3, .pe (.fn 165 [] [.pe (cdClause.enc x3) 0]) 0), (4, .pt 0 0 0), (5, .pt 1 0 0)] [some ⟨10, 131, [cdSeated.enc x0], false⟩, some ⟨10, 131, [cdSeated.enc x1], false⟩] ?_
 refine Sem.seq ?_
 refine Sem.seq ?_
 obtain ⟨j2, hj2, h⟩ := Option.bind_eq_some_iff.1 h
 refine Sem.runS (s1 := ⟨Fr 30 [(3, .pe (.fn 165 [] [.pe (cdClause.enc x3) 0]) 0), (4, .pt 0 0 0), (5, .pt 1 0 0), (25, .v (.bool j2))], [some ⟨10, 131, [cdSeated.enc x0], false⟩, some ⟨10, 131, [cdSeated.enc x1], false⟩]⟩) ?_ ?_
 ·refine RunS.segF (n := 30) E0_ok 4 [(2, .pe (cdClause.enc x2) 0), (3, .pe (.fn 165 [] [.pe (cdClause.enc x3) 0]) 0), (4, .pt 0 0 0), (5, .pt 1 0 0), (10, .v (.bool (!(x2.2.1 == []))))] [some ⟨10, 131, [cdSeated.enc x0], false⟩, some ⟨10, 131, [cdSeated.enc x1], false⟩] kr ?_
  rcases Bool.eq_false_or_eq_true (!(x2.2.1 == [])) with hc5 | hc5
  ·rw [if_pos hc5] at hj2
   rw [hc5]
   refine RunS.segF (n := 30) E0_ok 7 [(2, .pe (cdClause.enc x2) 0), (3, .pe (.fn 165 [] [.pe (cdClause.enc x3) 0]) 0), (4, .pt 0 0 0), (5, .pt 1 0 0), (10, .v (.bool true)), (17, .v (.bool (!(x0.1.2.1 == x2.2.1))))] [some ⟨10, 131, [cdSeated.enc x0], false⟩, some ⟨10, 131, [cdSeated.enc x1], false⟩] kr ?_
   rcases Bool.eq_false_or_eq_true (!(x0.1.2.1 == x2.2.1)) with hc6 | hc6
   ·rw [if_pos hc6] at hj2
    rw [hc6]
    refine RunS.segF (n := 30) E0_ok 8 [(3, .pe (.fn 165 [] [.pe (cdClause.enc x3) 0]) 0), (4, .pt 0 0 0), (5, .pt 1 0 0), (25, .v (.bool true))] [some ⟨10, 131, [cdSeated.enc x0], false⟩, some ⟨10, 131, [cdSeated.enc x1], false⟩] kr ?_
    have hq := Option.some.inj hj2; subst hq
    exact RunS.done rfl (Wk.sel2 [0, 1] kr kr kr ⟨⟨_, rfl, bu_c kr kr⟩, ⟨_, rfl, bu_c kr kr⟩, trivial⟩ ⟨lu kr kr, lu kr kr, lu kr kr, lu kr kr, trivial⟩)
   ·rw [if_f hc6] at hj2
    rw [hc6]
    refine RunS.segF (n := 30) E0_ok 8 [(3, .pe (.fn 165 [] [.pe (cdClause.enc x3) 0]) 0), (4, .pt 0 0 0), (5, .pt 1 0 0), (25, .v (.bool (!(x1.1.2.1 == x2.2.1))))] [some ⟨10, 131, [cdSeated.enc x0], false⟩, some ⟨10, 131, [cdSeated.enc x1], false⟩] kr ?_
    have hq := Option.some.inj hj2; subst hq
    exact RunS.done rfl (Wk.sel2 [0, 1] kr kr kr ⟨⟨_, rfl, bu_c kr kr⟩, ⟨_, rfl, bu_c kr kr⟩, trivial⟩ ⟨lu kr kr, lu kr kr, lu kr kr, lu kr kr, trivial⟩)
  ·rw [if_f hc5] at hj2
   rw [hc5]
   refine RunS.segF (n := 30) E0_ok 15 [(3, .pe (.fn 165 [] [.pe (cdClause.enc x3) 0]) 0), (4, .pt 0 0 0), (5, .pt 1 0 0), (25, .v (.bool false))] [some ⟨10, 131, [cdSeated.enc x0], false⟩, some ⟨10, 131, [cdSeated.enc x1], false⟩] kr ?_
   have hq := Option.some.inj hj2; subst hq
   exact RunS.done rfl (Wk.sel2 [0, 1] kr kr kr ⟨⟨_, rfl, bu_c kr kr⟩, ⟨_, rfl, bu_c kr kr⟩, trivial⟩ ⟨lu kr kr, lu kr kr, lu kr kr, lu kr kr, trivial⟩)
 refine Sem.cond (b := j2) kr (fun hb3 => ?_) (fun hb3 => ?_)
 ·rw [if_pos hb3] at h
  refine Sem.seq ?_
  refine Sem.runS (s1 := ⟨Fr 30 [(6, .v (.int .i64 0))], []⟩) ?_ ?_
  ·refine RunS.segF (n := 30) E0_ok 1 [(6, .v (.int .i64 0))] [some ⟨10, 131, [cdSeated.enc x0], false⟩, some ⟨10, 131, [cdSeated.enc x1], false⟩] kr ?_
   exact RunS.done rfl (Wk.sel2 [] kr kr kr trivial ⟨lu kr kr, trivial⟩)
  refine Sem.ret ?_
  have hq := Option.some.inj h; subst hq
  exact ⟨⟨Fr 30 [(6, .v (.int .i64 0))], []⟩, (Wk.fr kr), .inr rfl, [.v (.int .i64 0)], kr, kr⟩
 ·rw [if_f hb3] at h
  refine Sem.skip ?_
  refine Sem.seq ?_
  obtain ⟨v4, hv4, h⟩ := Option.bind_eq_some_iff.1 h
  refine Sem.runS (s1 := ⟨Fr 30 [(6, .v (.int .i64 v4))], []⟩) ?_ ?_
  ·refine RunS.segF (n := 30) E0_ok 3 [(26, .fn 165 [] [.pe (cdClause.enc x3) 0]), (27, cdSeated.enc x0), (28, cdSeated.enc x1)] [some ⟨10, 131, [cdSeated.enc x0], false⟩, some ⟨10, 131, [cdSeated.enc x1], false⟩] kr ?_
   refine RunS.callV (caps := [.pe (cdClause.enc x3) 0]) (xs := [cdSeated.enc x0, cdSeated.enc x1]) (u := (x0, x1, x3, ())) rfl rfl x_court_plain_2 rfl (wantedA_none rfl) kr kr (Sl.cons (Sm.enc (c := cdSeated) (v := x0)) (Sl.cons (Sm.enc (c := cdSeated) (v := x1)) (Sl.cons (Sm.enc (c := (cdP cdClause)) (v := x3)) Sl.nil))) (.inl kr) hv4 ?_
   refine RunS.segF (n := 30) E0_ok 1 [(6, .v (.int .i64 v4))] [some ⟨10, 131, [cdSeated.enc x0], false⟩, some ⟨10, 131, [cdSeated.enc x1], false⟩] kr ?_
   exact RunS.done rfl (Wk.sel2 [] kr kr kr trivial ⟨lu kr kr, trivial⟩)
  refine Sem.ret ?_
  have hq := Option.some.inj h; subst hq
  exact ⟨⟨Fr 30 [(6, .v (.int .i64 v4))], []⟩, (Wk.fr kr), .inr rfl, [.v (.int .i64 v4)], kr, kr⟩
def t_court_orderOf_1__court_plain_2 : List AV → Option AV := told cs_court_orderOf_1__court_plain_2 (fun a => court_orderOf_1__court_plain_2 a.1 a.2.1 a.2.2.1 a.2.2.2.1) er_court_orderOf_1__court_plain_2
theorem x_court_orderOf_1__court_plain_2 : XOk 154 t_court_orderOf_1__court_plain_2 := by
 refine xok_of_sem Tryz.func154 (c := cb_court_orderOf_1__court_plain_2) ?h2 ⟨Tryz.call154⟩ cs_court_orderOf_1__court_plain_2 (fun a => court_orderOf_1__court_plain_2 a.1 a.2.1 a.2.2.1 a.2.2.2.1) er_court_orderOf_1__court_plain_2 (fun a => (by show 4 ≤ 30; decide)) ?h3 ?h4
 case h2 => kernel_rfl
 case h3 => intro b; kernel_rfl
 case h4 => exact fun a b h => court_orderOf_1__court_plain_2_sem a.1 a.2.1 a.2.2.1 a.2.2.2.1 b h
/- cmp.isNaN[string] -/
noncomputable def cb_cmp_isNaN_string : Code := codeOf Tryz.f189
def cmp_isNaN_string (x0 : (List UInt8)) : Option (Bool) :=
 some (!(x0 == x0))
def cs_cmp_isNaN_string : Cs ((List UInt8) × Unit) := (csC cdS csN)
def er_cmp_isNaN_string (r : Bool) : AV := cdB.enc r
theorem cmp_isNaN_string_sem (x0 : (List UInt8)) (r : Bool) (h : cmp_isNaN_string x0 = some r) : Sem E0 ⟨none, false⟩ cb_cmp_isNaN_string ⟨Fr 6 (pairs0 0 (cs_cmp_isNaN_string.enc (x0, ()))), []⟩ fun e s' => (e = .normal ∨ e = .ret) ∧ ∃ xs, resA E0.P s'.fr s'.hp Tryz.f189.results.toList = some xs ∧ retA xs = er_cmp_isNaN_string r := by
 unfold cmp_isNaN_string at h
 refine Sem.wkQ (Sem.wk (s1 := ⟨Fr 6 [(0, .st x0)], []⟩) (Wk.fr kr) ?_)
 refine Sem.sq E0_ok [(0, .st x0)] [] ?_
 refine Sem.sq E0_ok [(2, .v (.bool (!(x0 == x0))))] [] ?_
 refine Sem.ret ?_
 have hq := Option.some.inj h; subst hq
 exact ⟨⟨Fr 6 [(2, .v (.bool (!(x0 == x0))))], []⟩, (Wk.fr kr), .inr rfl, [.v (.bool (!(x0 == x0)))], kr, kr⟩
def t_cmp_isNaN_string : List AV → Option AV := told cs_cmp_isNaN_string (fun a => cmp_isNaN_string a.1) er_cmp_isNaN_string
theorem x_cmp_isNaN_string : XOk 189 t_cmp_isNaN_string := by
 refine xok_of_sem Tryz.func189 (c := cb_cmp_isNaN_string) ?h2 ⟨Tryz.call189⟩ cs_cmp_isNaN_string (fun a => cmp_isNaN_string a.1) er_cmp_isNaN_string (fun a => (by show 1 ≤ 6; decide)) ?h3 ?h4
 case h2 => kernel_rfl
 case h3 => intro b; kernel_rfl
 case h4 => exact fun a b h => cmp_isNaN_string_sem a.1 b h
/- cmp.Compare[string] -/
noncomputable def cb_cmp_Compare_string : Code := codeOf Tryz.f175
def cmp_Compare_string (x0 : (List UInt8)) (x1 : (List UInt8)) : Option (Int) :=
 (cmp_isNaN_string x0).bind fun v1 =>
 (cmp_isNaN_string x1).bind fun v2 =>
 if v1 = true then
 if v2 = true then
 some 0
 else
 some (-1)
 else
 if v2 = true then
 some 1
 else
 if (Go.Op.bytesLess x0 x1) = true then
 some (-1)
 else
 if (!((Go.Op.bytesLess x0 x1) || (x0 == x1))) = true then
 some 1
 else
 some 0
def cs_cmp_Compare_string : Cs ((List UInt8) × (List UInt8) × Unit) := (csC cdS (csC cdS csN))
def er_cmp_Compare_string (r : Int) : AV := cdI.enc r
theorem cmp_Compare_string_sem (x0 : (List UInt8)) (x1 : (List UInt8)) (r : Int) (h : cmp_Compare_string x0 x1 = some r) : Sem E0 ⟨none, false⟩ cb_cmp_Compare_string ⟨Fr 20 (pairs0 0 (cs_cmp_Compare_string.enc (x0, x1, ()))), []⟩ fun e s' => (e = .normal ∨ e = .ret) ∧ ∃ xs, resA E0.P s'.fr s'.hp Tryz.f175.results.toList = some xs ∧ retA xs = er_cmp_Compare_string r := by
 unfold cmp_Compare_string at h
 refine Sem.wkQ (Sem.wk (s1 := ⟨Fr 20 [(0, .st x0), (1, .st x1)], []⟩) (Wk.fr kr) ?_)
 refine Sem.sq E0_ok [(0, .st x0), (1, .st x1)] [] ?_
 refine Sem.seq ?_
 obtain ⟨v1, hv1, h⟩ := Option.bind_eq_some_iff.1 h
 let p1 : Nat × AV := (5, .v (.bool v1))
 refine Sem.runS (s1 := ⟨Fr 20 [(0, .st x0), (1, .st x1), p1], []⟩) ?_ ?_
 ·refine RunS.segF (n := 20) E0_ok 1 [(0, .st x0), (1, .st x1), (7, .st x0)] [] kr ?_
  refine RunS.callV (caps := []) (xs := [.st x0]) (u := (x0, ())) rfl rfl x_cmp_isNaN_string rfl (wantedA_none rfl) kr kr (Sl.cons (Sm.enc (c := cdS) (v := x0)) Sl.nil) (.inl kr) hv1 ?_
  exact RunS.last E0_ok
 refine Sem.seq ?_
 obtain ⟨v2, hv2, h⟩ := Option.bind_eq_some_iff.1 h
 refine Sem.runS (s1 := ⟨Fr 20 [(0, .st x0), (1, .st x1), p1, (6, .v (.bool v2))], []⟩) ?_ ?_
 ·refine RunS.segF (n := 20) E0_ok 1 [(0, .st x0), (1, .st x1), p1, (9, .st x1)] [] kr ?_
  refine RunS.callV (caps := []) (xs := [.st x1]) (u := (x1, ())) rfl rfl x_cmp_isNaN_string rfl (wantedA_none rfl) kr kr (Sl.cons (Sm.enc (c := cdS) (v := x1)) Sl.nil) (.inl kr) hv2 ?_
  exact RunS.last E0_ok
 refine Sem.seq ?_
 refine Sem.sq E0_ok [(0, .st x0), (1, .st x1), (6, .v (.bool v2)), (11, .v (.bool v1))] [] ?_
 refine Sem.cond (b := v1) kr (fun hb3 => ?_) (fun hb3 => ?_)
 ·rw [if_pos hb3] at h
  refine Sem.seq ?_
  refine Sem.sq E0_ok [(12, .v (.bool v2))] [] ?_
  refine Sem.cond (b := v2) kr (fun hb4 => ?_) (fun hb4 => ?_)
  ·rw [if_pos hb4] at h
   refine Sem.sq E0_ok [(4, .v (.int .i64 0))] [] ?_
   refine Sem.ret ?_
   have hq := Option.some.inj h; subst hq
   exact ⟨⟨Fr 20 [(4, .v (.int .i64 0))], []⟩, (Wk.fr kr), .inr rfl, [.v (.int .i64 0)], kr, kr⟩
  ·rw [if_f hb4] at h
   refine Sem.skip ?_
   refine Sem.sq E0_ok [(4, .v (.int .i64 (-1)))] [] ?_
   refine Sem.ret ?_
   have hq := Option.some.inj h; subst hq
   exact ⟨⟨Fr 20 [(4, .v (.int .i64 (-1)))], []⟩, (Wk.fr kr), .inr rfl, [.v (.int .i64 (-1))], kr, kr⟩
 ·rw [if_f hb3] at h
  refine Sem.skip ?_
  refine Sem.seq ?_
  refine Sem.sq E0_ok [(0, .st x0), (1, .st x1), (13, .v (.bool v2))] [] ?_
  refine Sem.cond (b := v2) kr (fun hb5 => ?_) (fun hb5 => ?_)
  ·rw [if_pos hb5] at h
   refine Sem.sq E0_ok [(4, .v (.int .i64 1))] [] ?_
   refine Sem.ret ?_
   have hq := Option.some.inj h; subst hq
   exact ⟨⟨Fr 20 [(4, .v (.int .i64 1))], []⟩, (Wk.fr kr), .inr rfl, [.v (.int .i64 1)], kr, kr⟩
  ·rw [if_f hb5] at h
   refine Sem.skip ?_
   refine Sem.seq ?_
   refine Sem.sq E0_ok [(0, .st x0), (1, .st x1), (16, .v (.bool (Go.Op.bytesLess x0 x1)))] [] ?_
   refine Sem.cond (b := (Go.Op.bytesLess x0 x1)) kr (fun hb6 => ?_) (fun hb6 => ?_)
   ·rw [if_pos hb6] at h
    refine Sem.sq E0_ok [(4, .v (.int .i64 (-1)))] [] ?_
    refine Sem.ret ?_
    have hq := Option.some.inj h; subst hq
    exact ⟨⟨Fr 20 [(4, .v (.int .i64 (-1)))], []⟩, (Wk.fr kr), .inr rfl, [.v (.int .i64 (-1))], kr, kr⟩
   ·rw [if_f hb6] at h
    refine Sem.skip ?_
    refine Sem.seq ?_
    refine Sem.sq E0_ok [(19, .v (.bool (!((Go.Op.bytesLess x0 x1) || (x0 == x1)))))] [] ?_
    refine Sem.cond (b := (!((Go.Op.bytesLess x0 x1) || (x0 == x1)))) kr (fun hb7 => ?_) (fun hb7 => ?_)
    ·rw [if_pos hb7] at h
     refine Sem.sq E0_ok [(4, .v (.int .i64 1))] [] ?_
     refine Sem.ret ?_
     have hq := Option.some.inj h; subst hq
     exact ⟨⟨Fr 20 [(4, .v (.int .i64 1))], []⟩, (Wk.fr kr), .inr rfl, [.v (.int .i64 1)], kr, kr⟩
    ·rw [if_f hb7] at h
     refine Sem.skip ?_
     refine Sem.sq E0_ok [(4, .v (.int .i64 0))] [] ?_
     refine Sem.ret ?_
     have hq := Option.some.inj h; subst hq
     exact ⟨⟨Fr 20 [(4, .v (.int .i64 0))], []⟩, (Wk.fr kr), .inr rfl, [.v (.int .i64 0)], kr, kr⟩
def t_cmp_Compare_string : List AV → Option AV := told cs_cmp_Compare_string (fun a => cmp_Compare_string a.1 a.2.1) er_cmp_Compare_string
theorem x_cmp_Compare_string : XOk 175 t_cmp_Compare_string := by
 refine xok_of_sem Tryz.func175 (c := cb_cmp_Compare_string) ?h2 ⟨Tryz.call175⟩ cs_cmp_Compare_string (fun a => cmp_Compare_string a.1 a.2.1) er_cmp_Compare_string (fun a => (by show 2 ≤ 20; decide)) ?h3 ?h4
 case h2 => kernel_rfl
 case h3 => intro b; kernel_rfl
 case h4 => exact fun a b h => cmp_Compare_string_sem a.1 a.2.1 b h
/- trestle/court.plain$7 -/
noncomputable def cb_court_plain_7 : Code := codeOf Tryz.f174
def court_plain_7 (x0 : Seated) (x1 : Seated) : Option (Int) :=
 (cmp_Compare_string x0.1.1 x1.1.1).bind fun v1 =>
 some v1
def cs_court_plain_7 : Cs (Seated × Seated × Unit) := (csC cdSeated (csC cdSeated csN))
def er_court_plain_7 (r : Int) : AV := cdI.enc r
theorem court_plain_7_sem (x0 : Seated) (x1 : Seated) (r : Int) (h : court_plain_7 x0 x1 = some r) : Sem E0 ⟨none, false⟩ cb_court_plain_7 ⟨Fr 12 (pairs0 0 (cs_court_plain_7.enc (x0, x1, ()))), []⟩ fun e s' => (e = .normal ∨ e = .ret) ∧ ∃ xs, resA E0.P s'.fr s'.hp Tryz.f174.results.toList = some xs ∧ retA xs = er_court_plain_7 r := by
 unfold court_plain_7 at h
 refine Sem.wkQ (Sem.wk (s1 := ⟨Fr 12 [(0, cdSeated.enc x0), (1, cdSeated.enc x1)], []⟩) (Wk.fr kr) ?_)
 let p1 : Option Blk := some ⟨10, 131, [cdSeated.enc x1], false⟩
 let p2 : Option Blk := some ⟨10, 131, [cdSeated.enc x0], false⟩
 refine Sem.sq E0_ok [(2, .pt 0 0 0), (3, .pt 1 0 0)] [p2, p1] ?_
 refine Sem.seq ?_
 obtain ⟨v1, hv1, h⟩ := Option.bind_eq_some_iff.1 h
 let p3 : Nat × AV := (4, .v (.int .i64 v1))
 refine Sem.runS (s1 := ⟨Fr 12 [p3], []⟩) ?_ ?_
 ·refine RunS.segF (n := 12) E0_ok 6 [(7, .st x0.1.1), (10, .st x1.1.1)] [p2, p1] kr ?_
  refine RunS.callV (caps := []) (xs := [.st x0.1.1, .st x1.1.1]) (u := (x0.1.1, x1.1.1, ())) rfl rfl x_cmp_Compare_string rfl (wantedA_none rfl) kr kr (Sl.cons (Sm.enc (c := cdS) (v := x0.1.1)) (Sl.cons (Sm.enc (c := cdS) (v := x1.1.1)) Sl.nil)) (.inl kr) hv1 ?_
  refine RunS.segF (n := 12) E0_ok 1 [p3] [p2, p1] kr ?_
  exact RunS.done rfl (Wk.sel2 [] kr kr kr trivial ⟨lu kr kr, trivial⟩)
 refine Sem.ret ?_
 have hq := Option.some.inj h; subst hq
 exact ⟨⟨Fr 12 [p3], []⟩, (Wk.fr kr), .inr rfl, [.v (.int .i64 v1)], kr, kr⟩
def t_court_plain_7 : List AV → Option AV := told cs_court_plain_7 (fun a => court_plain_7 a.1 a.2.1) er_court_plain_7
theorem x_court_plain_7 : XOk 174 t_court_plain_7 := by
 refine xok_of_sem Tryz.func174 (c := cb_court_plain_7) ?h2 ⟨Tryz.call174⟩ cs_court_plain_7 (fun a => court_plain_7 a.1 a.2.1) er_court_plain_7 (fun a => (by show 2 ≤ 12; decide)) ?h3 ?h4
 case h2 => kernel_rfl
 case h3 => intro b; kernel_rfl
 case h4 => exact fun a b h => court_plain_7_sem a.1 a.2.1 b h
/- trestle/court.orderOf$1 -/
noncomputable def cb_court_orderOf_1__court_plain_7 : Code := codeOf Tryz.f154
def court_orderOf_1__court_plain_7 (x0 : Seated) (x1 : Seated) (x2 : Clause) : Option (Int) :=
 (if (!(x2.2.1 == [])) = true then if (!(x0.1.2.1 == x2.2.1)) = true then some true else some (!(x1.1.2.1 == x2.2.1)) else some false).bind fun j2 =>
 if j2 = true then
 some 0
 else
 (court_plain_7 x0 x1).bind fun v4 =>
 some v4
def cs_court_orderOf_1__court_plain_7 : Cs (Seated × Seated × Clause × Unit × Unit) := (csC cdSeated (csC cdSeated (csC (cdP cdClause) (csC (cdP (cdF 174 csN (fun _ => rfl))) csN))))
def er_court_orderOf_1__court_plain_7 (r : Int) : AV := cdI.enc r
theorem court_orderOf_1__court_plain_7_sem (x0 : Seated) (x1 : Seated) (x2 : Clause) (r : Int) (h : court_orderOf_1__court_plain_7 x0 x1 x2 = some r) : Sem E0 ⟨none, false⟩ cb_court_orderOf_1__court_plain_7 ⟨Fr 30 (pairs0 0 (cs_court_orderOf_1__court_plain_7.enc (x0, x1, x2, (), ()))), []⟩ fun e s' => (e = .normal ∨ e = .ret) ∧ ∃ xs, resA E0.P s'.fr s'.hp Tryz.f154.results.toList = some xs ∧ retA xs = er_court_orderOf_1__court_plain_7 r := by
 unfold court_orderOf_1__court_plain_7 at h
 refine Sem.wkQ (Sem.wk (s1 := ⟨Fr 30 [(0, cdSeated.enc x0), (1, cdSeated.enc x1), (2, .pe (cdClause.enc x2) 0), (3, .pe (.fn 174 [] []) 0)], []⟩) (Wk.fr kr) ?_)
 refine Sem.sq E0_ok [(2, .pe (cdClause.enc x2) 0), (3, .pe (.fn 174 [] []) 0), (4, .pt 0 0 0), (5, .pt 1 0 0)] [some ⟨10, 131, [cdSeated.enc x0], false⟩, some ⟨10, 131, [cdSeated.enc x1], false⟩] ?_
 refine Sem.seq ?_
 refine Sem.seq ?_
 obtain ⟨j2, hj2, h⟩ := Option.bind_eq_some_iff.1 h
 refine Sem.runS (s1 := ⟨Fr 30 [(3, .pe (.fn 174 [] []) 0), (4, .pt 0 0 0), (5, .pt 1 0 0), (25, .v (.bool j2))], [some ⟨10, 131, [cdSeated.enc x0], false⟩, some ⟨10, 131, [cdSeated.enc x1], false⟩]⟩) ?_ ?_
 ·refine RunS.segF (n := 30) E0_ok 4 [(2, .pe (cdClause.enc x2) 0), (3, .pe (.fn 174 [] []) 0), (4, .pt 0 0 0), (5, .pt 1 0 0), (10, .v (.bool (!(x2.2.1 == []))))] [some ⟨10, 131, [cdSeated.enc x0], false⟩, some ⟨10, 131, [cdSeated.enc x1], false⟩] kr ?_
  rcases Bool.eq_false_or_eq_true (!(x2.2.1 == [])) with hc5 | hc5
  ·rw [if_pos hc5] at hj2
   rw [hc5]
   refine RunS.segF (n := 30) E0_ok 7 [(2, .pe (cdClause.enc x2) 0), (3, .pe (.fn 174 [] []) 0), (4, .pt 0 0 0), (5, .pt 1 0 0), (10, .v (.bool true)), (17, .v (.bool (!(x0.1.2.1 == x2.2.1))))] [some ⟨10, 131, [cdSeated.enc x0], false⟩, some ⟨10, 131, [cdSeated.enc x1], false⟩] kr ?_
   rcases Bool.eq_false_or_eq_true (!(x0.1.2.1 == x2.2.1)) with hc6 | hc6
   ·rw [if_pos hc6] at hj2
    rw [hc6]
    refine RunS.segF (n := 30) E0_ok 8 [(3, .pe (.fn 174 [] []) 0), (4, .pt 0 0 0), (5, .pt 1 0 0), (25, .v (.bool true))] [some ⟨10, 131, [cdSeated.enc x0], false⟩, some ⟨10, 131, [cdSeated.enc x1], false⟩] kr ?_
    have hq := Option.some.inj hj2; subst hq
    exact RunS.done rfl (Wk.sel2 [0, 1] kr kr kr ⟨⟨_, rfl, bu_c kr kr⟩, ⟨_, rfl, bu_c kr kr⟩, trivial⟩ ⟨lu kr kr, lu kr kr, lu kr kr, lu kr kr, trivial⟩)
   ·rw [if_f hc6] at hj2
    rw [hc6]
    refine RunS.segF (n := 30) E0_ok 8 [(3, .pe (.fn 174 [] []) 0), (4, .pt 0 0 0), (5, .pt 1 0 0), (25, .v (.bool (!(x1.1.2.1 == x2.2.1))))] [some ⟨10, 131, [cdSeated.enc x0], false⟩, some ⟨10, 131, [cdSeated.enc x1], false⟩] kr ?_
    have hq := Option.some.inj hj2; subst hq
    exact RunS.done rfl (Wk.sel2 [0, 1] kr kr kr ⟨⟨_, rfl, bu_c kr kr⟩, ⟨_, rfl, bu_c kr kr⟩, trivial⟩ ⟨lu kr kr, lu kr kr, lu kr kr, lu kr kr, trivial⟩)
  ·rw [if_f hc5] at hj2
   rw [hc5]
   refine RunS.segF (n := 30) E0_ok 15 [(3, .pe (.fn 174 [] []) 0), (4, .pt 0 0 0), (5, .pt 1 0 0), (25, .v (.bool false))] [some ⟨10, 131, [cdSeated.enc x0], false⟩, some ⟨10, 131, [cdSeated.enc x1], false⟩] kr ?_
   have hq := Option.some.inj hj2; subst hq
   exact RunS.done rfl (Wk.sel2 [0, 1] kr kr kr ⟨⟨_, rfl, bu_c kr kr⟩, ⟨_, rfl, bu_c kr kr⟩, trivial⟩ ⟨lu kr kr, lu kr kr, lu kr kr, lu kr kr, trivial⟩)
 refine Sem.cond (b := j2) kr (fun hb3 => ?_) (fun hb3 => ?_)
 ·rw [if_pos hb3] at h
  refine Sem.seq ?_
  refine Sem.runS (s1 := ⟨Fr 30 [(6, .v (.int .i64 0))], []⟩) ?_ ?_
  ·refine RunS.segF (n := 30) E0_ok 1 [(6, .v (.int .i64 0))] [some ⟨10, 131, [cdSeated.enc x0], false⟩, some ⟨10, 131, [cdSeated.enc x1], false⟩] kr ?_
   exact RunS.done rfl (Wk.sel2 [] kr kr kr trivial ⟨lu kr kr, trivial⟩)
  refine Sem.ret ?_
  have hq := Option.some.inj h; subst hq
  exact ⟨⟨Fr 30 [(6, .v (.int .i64 0))], []⟩, (Wk.fr kr), .inr rfl, [.v (.int .i64 0)], kr, kr⟩
 ·rw [if_f hb3] at h
  refine Sem.skip ?_
  refine Sem.seq ?_
  obtain ⟨v4, hv4, h⟩ := Option.bind_eq_some_iff.1 h
  refine Sem.runS (s1 := ⟨Fr 30 [(6, .v (.int .i64 v4))], []⟩) ?_ ?_
  ·refine RunS.segF (n := 30) E0_ok 3 [(26, .fn 174 [] []), (27, cdSeated.enc x0), (28, cdSeated.enc x1)] [some ⟨10, 131, [cdSeated.enc x0], false⟩, some ⟨10, 131, [cdSeated.enc x1], false⟩] kr ?_
   refine RunS.callV (caps := []) (xs := [cdSeated.enc x0, cdSeated.enc x1]) (u := (x0, x1, ())) rfl rfl x_court_plain_7 rfl (wantedA_none rfl) kr kr (Sl.cons (Sm.enc (c := cdSeated) (v := x0)) (Sl.cons (Sm.enc (c := cdSeated) (v := x1)) Sl.nil)) (.inl kr) hv4 ?_
   refine RunS.segF (n := 30) E0_ok 1 [(6, .v (.int .i64 v4))] [some ⟨10, 131, [cdSeated.enc x0], false⟩, some ⟨10, 131, [cdSeated.enc x1], false⟩] kr ?_
   exact RunS.done rfl (Wk.sel2 [] kr kr kr trivial ⟨lu kr kr, trivial⟩)
  refine Sem.ret ?_
  have hq := Option.some.inj h; subst hq
  exact ⟨⟨Fr 30 [(6, .v (.int .i64 v4))], []⟩, (Wk.fr kr), .inr rfl, [.v (.int .i64 v4)], kr, kr⟩
def t_court_orderOf_1__court_plain_7 : List AV → Option AV := told cs_court_orderOf_1__court_plain_7 (fun a => court_orderOf_1__court_plain_7 a.1 a.2.1 a.2.2.1) er_court_orderOf_1__court_plain_7
theorem x_court_orderOf_1__court_plain_7 : XOk 154 t_court_orderOf_1__court_plain_7 := by
 refine xok_of_sem Tryz.func154 (c := cb_court_orderOf_1__court_plain_7) ?h2 ⟨Tryz.call154⟩ cs_court_orderOf_1__court_plain_7 (fun a => court_orderOf_1__court_plain_7 a.1 a.2.1 a.2.2.1) er_court_orderOf_1__court_plain_7 (fun a => (by show 4 ≤ 30; decide)) ?h3 ?h4
 case h2 => kernel_rfl
 case h3 => intro b; kernel_rfl
 case h4 => exact fun a b h => court_orderOf_1__court_plain_7_sem a.1 a.2.1 a.2.2.1 b h
/- trestle/court.plain$1 -/
noncomputable def cb_court_plain_1 : Code := codeOf Tryz.f164
def court_plain_1 (x0 : Seated) (x1 : Clause) : Option (Int) :=
 (slices_Index_string_string x1.2.2.2.1 x0.1.2.1).bind fun v1 =>
 if (decide (v1 ≥ 0)) = true then
 some v1
 else
 some (x1.2.2.2.1.length : Int)
def cs_court_plain_1 : Cs (Seated × Clause × Unit) := (csC cdSeated (csC (cdP cdClause) csN))
def er_court_plain_1 (r : Int) : AV := cdI.enc r
theorem court_plain_1_sem (x0 : Seated) (x1 : Clause) (r : Int) (h : court_plain_1 x0 x1 = some r) : Sem E0 ⟨none, false⟩ cb_court_plain_1 ⟨Fr 17 (pairs0 0 (cs_court_plain_1.enc (x0, x1, ()))), []⟩ fun e s' => (e = .normal ∨ e = .ret) ∧ ∃ xs, resA E0.P s'.fr s'.hp Tryz.f164.results.toList = some xs ∧ retA xs = er_court_plain_1 r := by
 unfold court_plain_1 at h
 let p1 : Nat × AV := (1, .pe (cdClause.enc x1) 0)
 refine Sem.wkQ (Sem.wk (s1 := ⟨Fr 17 [(0, cdSeated.enc x0), p1], []⟩) (Wk.fr kr) ?_)
 let p2 : Option Blk := some ⟨10, 131, [cdSeated.enc x0], false⟩
 refine Sem.sq E0_ok [p1, (2, .pt 0 0 0)] [p2] ?_
 refine Sem.seq ?_
 refine Sem.seq ?_
 obtain ⟨v1, hv1, h⟩ := Option.bind_eq_some_iff.1 h
 let p3 : Nat × AV := (4, .v (.int .i64 v1))
 refine Sem.runS (s1 := ⟨Fr 17 [p1, p3], []⟩) ?_ ?_
 ·refine RunS.segF (n := 17) E0_ok 5 [p1, (6, .sl 1 (x1.2.2.2.1.map cdS.enc)), (9, .st x0.1.2.1)] [p2] kr ?_
  refine RunS.callV (caps := []) (xs := [.sl 1 (x1.2.2.2.1.map cdS.enc), .st x0.1.2.1]) (u := (x1.2.2.2.1, x0.1.2.1, ())) rfl rfl x_slices_Index_string_string rfl (wantedA_none rfl) kr kr (Sl.cons (Sm.enc (c := (cdL 1 cdS)) (v := x1.2.2.2.1)) (Sl.cons (Sm.enc (c := cdS) (v := x0.1.2.1)) Sl.nil)) (.inl kr) hv1 ?_
  refine RunS.segF (n := 17) E0_ok 1 [p1, p3] [p2] kr ?_
  exact RunS.done rfl (Wk.sel2 [] kr kr kr trivial ⟨lu kr kr, lu kr kr, trivial⟩)
 refine Sem.sq E0_ok [p1, p3, (12, .v (.bool (decide (v1 ≥ 0))))] [] ?_
 refine Sem.cond (b := (decide (v1 ≥ 0))) kr (fun hb2 => ?_) (fun hb2 => ?_)
 ·rw [if_pos hb2] at h
  refine Sem.sq E0_ok [(3, .v (.int .i64 v1))] [] ?_
  refine Sem.ret ?_
  have hq := Option.some.inj h; subst hq
  exact ⟨⟨Fr 17 [(3, .v (.int .i64 v1))], []⟩, (Wk.fr kr), .inr rfl, [.v (.int .i64 v1)], kr, kr⟩
 ·rw [if_f hb2] at h
  refine Sem.skip ?_
  refine Sem.seq ?_
  let p4 : Nat × AV := (3, .v (.int .i64 (x1.2.2.2.1.length : Int)))
  refine Sem.runS (s1 := ⟨Fr 17 [p4], []⟩) ?_ ?_
  ·refine RunS.segF (n := 17) E0_ok 2 [(15, .sl 1 (x1.2.2.2.1.map cdS.enc))] [] kr ?_
   refine RunS.one E0_ok 0 rfl (op_q (wantedA_none rfl) rfl (q_len (a := .sl 1 (x1.2.2.2.1.map cdS.enc)) kr (len_sl (el := 9) kr))) ?_
   exact RunS.last E0_ok
  refine Sem.ret ?_
  have hq := Option.some.inj h; subst hq
  exact ⟨⟨Fr 17 [p4], []⟩, (Wk.fr kr), .inr rfl, [.v (.int .i64 (x1.2.2.2.1.length : Int))], kr, kr⟩
def t_court_plain_1 : List AV → Option AV := told cs_court_plain_1 (fun a => court_plain_1 a.1 a.2.1) er_court_plain_1
theorem x_court_plain_1 : XOk 164 t_court_plain_1 := by
 refine xok_of_sem Tryz.func164 (c := cb_court_plain_1) ?h2 ⟨Tryz.call164⟩ cs_court_plain_1 (fun a => court_plain_1 a.1 a.2.1) er_court_plain_1 (fun a => (by show 2 ≤ 17; decide)) ?h3 ?h4
 case h2 => kernel_rfl
 case h3 => intro b; kernel_rfl
 case h4 => exact fun a b h => court_plain_1_sem a.1 a.2.1 b h
/- trestle/court.by$1 -/
noncomputable def cb_court_by_1__court_plain_1 : Code := codeOf Tryz.f187
def court_by_1__court_plain_1 (x0 : Seated) (x1 : Seated) (x2 : Clause) : Option (Int) :=
 (court_plain_1 x0 x2).bind fun v1 =>
 (court_plain_1 x1 x2).bind fun v2 =>
 (cmp_Compare_int v1 v2).bind fun v3 =>
 some v3
def cs_court_by_1__court_plain_1 : Cs (Seated × Seated × Clause × Unit) := (csC cdSeated (csC cdSeated (csC (cdP (cdF 164 (csE (cdP cdClause)) (fun _ => rfl))) csN)))
def er_court_by_1__court_plain_1 (r : Int) : AV := cdI.enc r
theorem court_by_1__court_plain_1_sem (x0 : Seated) (x1 : Seated) (x2 : Clause) (r : Int) (h : court_by_1__court_plain_1 x0 x1 x2 = some r) : Sem E0 ⟨none, false⟩ cb_court_by_1__court_plain_1 ⟨Fr 13 (pairs0 0 (cs_court_by_1__court_plain_1.enc (x0, x1, x2, ()))), []⟩ fun e s' => (e = .normal ∨ e = .ret) ∧ ∃ xs, resA E0.P s'.fr s'.hp Tryz.f187.results.toList = some xs ∧ retA xs = er_court_by_1__court_plain_1 r := by
 unfold court_by_1__court_plain_1 at h
 let p1 : Nat × AV := (2, .pe (.fn 164 [] [.pe (cdClause.enc x2) 0]) 0)
 refine Sem.wkQ (Sem.wk (s1 := ⟨Fr 13 [(0, cdSeated.enc x0), (1, cdSeated.enc x1), p1], []⟩) (Wk.fr kr) ?_)
 let p2 : Option Blk := some ⟨10, 131, [cdSeated.enc x1], false⟩
 let p3 : Option Blk := some ⟨10, 131, [cdSeated.enc x0], false⟩
 refine Sem.sq E0_ok [p1, (3, .pt 0 0 0), (4, .pt 1 0 0)] [p3, p2] ?_
 refine Sem.seq ?_
 obtain ⟨v1, hv1, h⟩ := Option.bind_eq_some_iff.1 h
 obtain ⟨v2, hv2, h⟩ := Option.bind_eq_some_iff.1 h
 obtain ⟨v3, hv3, h⟩ := Option.bind_eq_some_iff.1 h
 let p4 : Nat × AV := (5, .v (.int .i64 v3))
 refine Sem.runDS E0_ok (s1 := ⟨Fr 13 [p4], []⟩) kr ?_ ?_
 ·refine RunDS.segF (n := 13) E0_ok 2 [p1, (4, .pt 1 0 0), (6, .fn 164 [] [.pe (cdClause.enc x2) 0]), (7, cdSeated.enc x0)] [p3, p2] kr kr ?_
  refine RunDS.callV (caps := [.pe (cdClause.enc x2) 0]) (xs := [cdSeated.enc x0]) (u := (x0, x2, ())) rfl rfl x_court_plain_1 rfl (wantedA_none rfl) kr kr (Sl.cons (Sm.enc (c := cdSeated) (v := x0)) (Sl.cons (Sm.enc (c := (cdP cdClause)) (v := x2)) Sl.nil)) kr hv1 ?_
  refine RunDS.segF (n := 13) E0_ok 2 [(8, .v (.int .i64 v1)), (9, .fn 164 [] [.pe (cdClause.enc x2) 0]), (10, cdSeated.enc x1)] [p3, p2] kr kr ?_
  refine RunDS.callV (caps := [.pe (cdClause.enc x2) 0]) (xs := [cdSeated.enc x1]) (u := (x1, x2, ())) rfl rfl x_court_plain_1 rfl (wantedA_none rfl) kr kr (Sl.cons (Sm.enc (c := cdSeated) (v := x1)) (Sl.cons (Sm.enc (c := (cdP cdClause)) (v := x2)) Sl.nil)) kr hv2 ?_
  refine RunDS.callV (caps := []) (xs := [.v (.int .i64 v1), .v (.int .i64 v2)]) (u := (v1, v2, ())) rfl rfl x_cmp_Compare_int rfl (wantedA_none rfl) kr kr (Sl.cons (Sm.enc (c := cdI) (v := v1)) (Sl.cons (Sm.enc (c := cdI) (v := v2)) Sl.nil)) kr hv3 ?_
  refine RunDS.segF (n := 13) E0_ok 1 [p4] [p3, p2] kr kr ?_
  exact RunDS.done rfl (Wk.sel2 [] kr kr kr trivial ⟨lu kr kr, trivial⟩)
 refine Sem.ret ?_
 have hq := Option.some.inj h; subst hq
 exact ⟨⟨Fr 13 [p4], []⟩, (Wk.fr kr), .inr rfl, [.v (.int .i64 v3)], kr, kr⟩
def t_court_by_1__court_plain_1 : List AV → Option AV := told cs_court_by_1__court_plain_1 (fun a => court_by_1__court_plain_1 a.1 a.2.1 a.2.2.1) er_court_by_1__court_plain_1
theorem x_court_by_1__court_plain_1 : XOk 187 t_court_by_1__court_plain_1 := by
 refine xok_of_sem Tryz.func187 (c := cb_court_by_1__court_plain_1) ?h2 ⟨Tryz.call187⟩ cs_court_by_1__court_plain_1 (fun a => court_by_1__court_plain_1 a.1 a.2.1 a.2.2.1) er_court_by_1__court_plain_1 (fun a => (by show 3 ≤ 13; decide)) ?h3 ?h4
 case h2 => kernel_rfl
 case h3 => intro b; kernel_rfl
 case h4 => exact fun a b h => court_by_1__court_plain_1_sem a.1 a.2.1 a.2.2.1 b h
/- trestle/court.orderOf$1 -/
noncomputable def cb_court_orderOf_1__court_by_1__court_plain_1 : Code := codeOf Tryz.f154
def court_orderOf_1__court_by_1__court_plain_1 (x0 : Seated) (x1 : Seated) (x2 : Clause) (x3 : Clause) : Option (Int) :=
 (if (!(x2.2.1 == [])) = true then if (!(x0.1.2.1 == x2.2.1)) = true then some true else some (!(x1.1.2.1 == x2.2.1)) else some false).bind fun j2 =>
 if j2 = true then
 some 0
 else
 (court_by_1__court_plain_1 x0 x1 x3).bind fun v4 =>
 some v4
def cs_court_orderOf_1__court_by_1__court_plain_1 : Cs (Seated × Seated × Clause × Clause × Unit) := (csC cdSeated (csC cdSeated (csC (cdP cdClause) (csC (cdP (cdF 187 (csE (cdP (cdF 164 (csE (cdP cdClause)) (fun _ => rfl)))) (fun _ => rfl))) csN))))
def er_court_orderOf_1__court_by_1__court_plain_1 (r : Int) : AV := cdI.enc r
theorem court_orderOf_1__court_by_1__court_plain_1_sem (x0 : Seated) (x1 : Seated) (x2 : Clause) (x3 : Clause) (r : Int) (h : court_orderOf_1__court_by_1__court_plain_1 x0 x1 x2 x3 = some r) : Sem E0 ⟨none, false⟩ cb_court_orderOf_1__court_by_1__court_plain_1 ⟨Fr 30 (pairs0 0 (cs_court_orderOf_1__court_by_1__court_plain_1.enc (x0, x1, x2, x3, ()))), []⟩ fun e s' => (e = .normal ∨ e = .ret) ∧ ∃ xs, resA E0.P s'.fr s'.hp Tryz.f154.results.toList = some xs ∧ retA xs = er_court_orderOf_1__court_by_1__court_plain_1 r := by
 unfold court_orderOf_1__court_by_1__court_plain_1 at h
 refine Sem.wkQ (Sem.wk (s1 := ⟨Fr 30 [(0, cdSeated.enc x0), (1, cdSeated.enc x1), (2, .pe (cdClause.enc x2) 0), (3, .pe (.fn 187 [] [.pe (.fn 164 [] [.pe (cdClause.enc x3) 0]) 0]) 0)], []⟩) (Wk.fr kr) ?_)
 refine Sem.sq E0_ok [(2, .pe (cdClause.enc x2) 0), (3, .pe (.fn 187 [] [.pe (.fn 164 [] [.pe (cdClause.enc x3) 0]) 0]) 0), (4, .pt 0 0 0), (5, .pt 1 0 0)] [some ⟨10, 131, [cdSeated.enc x0], false⟩, some ⟨10, 131, [cdSeated.enc x1], false⟩] ?_
 refine Sem.seq ?_
 refine Sem.seq ?_
 obtain ⟨j2, hj2, h⟩ := Option.bind_eq_some_iff.1 h
 refine Sem.runS (s1 := ⟨Fr 30 [(3, .pe (.fn 187 [] [.pe (.fn 164 [] [.pe (cdClause.enc x3) 0]) 0]) 0), (4, .pt 0 0 0), (5, .pt 1 0 0), (25, .v (.bool j2))], [some ⟨10, 131, [cdSeated.enc x0], false⟩, some ⟨10, 131, [cdSeated.enc x1], false⟩]⟩) ?_ ?_
 ·refine RunS.segF (n := 30) E0_ok 4 [(2, .pe (cdClause.enc x2) 0), (3, .pe (.fn 187 [] [.pe (.fn 164 [] [.pe (cdClause.enc x3) 0]) 0]) 0), (4, .pt 0 0 0), (5, .pt 1 0 0), (10, .v (.bool (!(x2.2.1 == []))))] [some ⟨10, 131, [cdSeated.enc x0], false⟩, some ⟨10, 131, [cdSeated.enc x1], false⟩] kr ?_
  rcases Bool.eq_false_or_eq_true (!(x2.2.1 == [])) with hc5 | hc5
  ·rw [if_pos hc5] at hj2
   rw [hc5]
   refine RunS.segF (n := 30) E0_ok 7 [(2, .pe (cdClause.enc x2) 0), (3, .pe (.fn 187 [] [.pe (.fn 164 [] [.pe (cdClause.enc x3) 0]) 0]) 0), (4, .pt 0 0 0), (5, .pt 1 0 0), (10, .v (.bool true)), (17, .v (.bool (!(x0.1.2.1 == x2.2.1))))] [some ⟨10, 131, [cdSeated.enc x0], false⟩, some ⟨10, 131, [cdSeated.enc x1], false⟩] kr ?_
   rcases Bool.eq_false_or_eq_true (!(x0.1.2.1 == x2.2.1)) with hc6 | hc6
   ·rw [if_pos hc6] at hj2
    rw [hc6]
    refine RunS.segF (n := 30) E0_ok 8 [(3, .pe (.fn 187 [] [.pe (.fn 164 [] [.pe (cdClause.enc x3) 0]) 0]) 0), (4, .pt 0 0 0), (5, .pt 1 0 0), (25, .v (.bool true))] [some ⟨10, 131, [cdSeated.enc x0], false⟩, some ⟨10, 131, [cdSeated.enc x1], false⟩] kr ?_
    have hq := Option.some.inj hj2; subst hq
    exact RunS.done rfl (Wk.sel2 [0, 1] kr kr kr ⟨⟨_, rfl, bu_c kr kr⟩, ⟨_, rfl, bu_c kr kr⟩, trivial⟩ ⟨lu kr kr, lu kr kr, lu kr kr, lu kr kr, trivial⟩)
   ·rw [if_f hc6] at hj2
    rw [hc6]
    refine RunS.segF (n := 30) E0_ok 8 [(3, .pe (.fn 187 [] [.pe (.fn 164 [] [.pe (cdClause.enc x3) 0]) 0]) 0), (4, .pt 0 0 0), (5, .pt 1 0 0), (25, .v (.bool (!(x1.1.2.1 == x2.2.1))))] [some ⟨10, 131, [cdSeated.enc x0], false⟩, some ⟨10, 131, [cdSeated.enc x1], false⟩] kr ?_
    have hq := Option.some.inj hj2; subst hq
    exact RunS.done rfl (Wk.sel2 [0, 1] kr kr kr ⟨⟨_, rfl, bu_c kr kr⟩, ⟨_, rfl, bu_c kr kr⟩, trivial⟩ ⟨lu kr kr, lu kr kr, lu kr kr, lu kr kr, trivial⟩)
  ·rw [if_f hc5] at hj2
   rw [hc5]
   refine RunS.segF (n := 30) E0_ok 15 [(3, .pe (.fn 187 [] [.pe (.fn 164 [] [.pe (cdClause.enc x3) 0]) 0]) 0), (4, .pt 0 0 0), (5, .pt 1 0 0), (25, .v (.bool false))] [some ⟨10, 131, [cdSeated.enc x0], false⟩, some ⟨10, 131, [cdSeated.enc x1], false⟩] kr ?_
   have hq := Option.some.inj hj2; subst hq
   exact RunS.done rfl (Wk.sel2 [0, 1] kr kr kr ⟨⟨_, rfl, bu_c kr kr⟩, ⟨_, rfl, bu_c kr kr⟩, trivial⟩ ⟨lu kr kr, lu kr kr, lu kr kr, lu kr kr, trivial⟩)
 refine Sem.cond (b := j2) kr (fun hb3 => ?_) (fun hb3 => ?_)
 ·rw [if_pos hb3] at h
  refine Sem.seq ?_
  refine Sem.runS (s1 := ⟨Fr 30 [(6, .v (.int .i64 0))], []⟩) ?_ ?_
  ·refine RunS.segF (n := 30) E0_ok 1 [(6, .v (.int .i64 0))] [some ⟨10, 131, [cdSeated.enc x0], false⟩, some ⟨10, 131, [cdSeated.enc x1], false⟩] kr ?_
   exact RunS.done rfl (Wk.sel2 [] kr kr kr trivial ⟨lu kr kr, trivial⟩)
  refine Sem.ret ?_
  have hq := Option.some.inj h; subst hq
  exact ⟨⟨Fr 30 [(6, .v (.int .i64 0))], []⟩, (Wk.fr kr), .inr rfl, [.v (.int .i64 0)], kr, kr⟩
 ·rw [if_f hb3] at h
  refine Sem.skip ?_
  refine Sem.seq ?_
  obtain ⟨v4, hv4, h⟩ := Option.bind_eq_some_iff.1 h
  refine Sem.runS (s1 := ⟨Fr 30 [(6, .v (.int .i64 v4))], []⟩) ?_ ?_
  ·refine RunS.segF (n := 30) E0_ok 3 [(26, .fn 187 [] [.pe (.fn 164 [] [.pe (cdClause.enc x3) 0]) 0]), (27, cdSeated.enc x0), (28, cdSeated.enc x1)] [some ⟨10, 131, [cdSeated.enc x0], false⟩, some ⟨10, 131, [cdSeated.enc x1], false⟩] kr ?_
   refine RunS.callV (caps := [.pe (.fn 164 [] [.pe (cdClause.enc x3) 0]) 0]) (xs := [cdSeated.enc x0, cdSeated.enc x1]) (u := (x0, x1, x3, ())) rfl rfl x_court_by_1__court_plain_1 rfl (wantedA_none rfl) kr kr (Sl.cons (Sm.enc (c := cdSeated) (v := x0)) (Sl.cons (Sm.enc (c := cdSeated) (v := x1)) (Sl.cons (Sm.enc (c := (cdP (cdF 164 (csE (cdP cdClause)) (fun _ => rfl)))) (v := x3)) Sl.nil))) (.inl kr) hv4 ?_
   refine RunS.segF (n := 30) E0_ok 1 [(6, .v (.int .i64 v4))] [some ⟨10, 131, [cdSeated.enc x0], false⟩, some ⟨10, 131, [cdSeated.enc x1], false⟩] kr ?_
   exact RunS.done rfl (Wk.sel2 [] kr kr kr trivial ⟨lu kr kr, trivial⟩)
  refine Sem.ret ?_
  have hq := Option.some.inj h; subst hq
  exact ⟨⟨Fr 30 [(6, .v (.int .i64 v4))], []⟩, (Wk.fr kr), .inr rfl, [.v (.int .i64 v4)], kr, kr⟩
def t_court_orderOf_1__court_by_1__court_plain_1 : List AV → Option AV := told cs_court_orderOf_1__court_by_1__court_plain_1 (fun a => court_orderOf_1__court_by_1__court_plain_1 a.1 a.2.1 a.2.2.1 a.2.2.2.1) er_court_orderOf_1__court_by_1__court_plain_1
theorem x_court_orderOf_1__court_by_1__court_plain_1 : XOk 154 t_court_orderOf_1__court_by_1__court_plain_1 := by
 refine xok_of_sem Tryz.func154 (c := cb_court_orderOf_1__court_by_1__court_plain_1) ?h2 ⟨Tryz.call154⟩ cs_court_orderOf_1__court_by_1__court_plain_1 (fun a => court_orderOf_1__court_by_1__court_plain_1 a.1 a.2.1 a.2.2.1 a.2.2.2.1) er_court_orderOf_1__court_by_1__court_plain_1 (fun a => (by show 4 ≤ 30; decide)) ?h3 ?h4
 case h2 => kernel_rfl
 case h3 => intro b; kernel_rfl
 case h4 => exact fun a b h => court_orderOf_1__court_by_1__court_plain_1_sem a.1 a.2.1 a.2.2.1 a.2.2.2.1 b h
/- trestle/court.plain$3 -/
noncomputable def cb_court_plain_3 : Code := codeOf Tryz.f169
def court_plain_3 (x0 : Seated) (x1 : Clause) : Option (Bool) :=
 some (x0.1.2.2.2.2.1 == x1.2.2.2.2)
def cs_court_plain_3 : Cs (Seated × Clause × Unit) := (csC cdSeated (csC (cdP cdClause) csN))
def er_court_plain_3 (r : Bool) : AV := cdB.enc r
theorem court_plain_3_sem (x0 : Seated) (x1 : Clause) (r : Bool) (h : court_plain_3 x0 x1 = some r) : Sem E0 ⟨none, false⟩ cb_court_plain_3 ⟨Fr 10 (pairs0 0 (cs_court_plain_3.enc (x0, x1, ()))), []⟩ fun e s' => (e = .normal ∨ e = .ret) ∧ ∃ xs, resA E0.P s'.fr s'.hp Tryz.f169.results.toList = some xs ∧ retA xs = er_court_plain_3 r := by
 unfold court_plain_3 at h
 refine Sem.wkQ (Sem.wk (s1 := ⟨Fr 10 [(0, cdSeated.enc x0), (1, .pe (cdClause.enc x1) 0)], []⟩) (Wk.fr kr) ?_)
 let p1 : Option Blk := some ⟨10, 131, [cdSeated.enc x0], false⟩
 refine Sem.sq E0_ok [(1, .pe (cdClause.enc x1) 0), (2, .pt 0 0 0)] [p1] ?_
 refine Sem.seq ?_
 let p2 : Nat × AV := (3, .v (.bool (x0.1.2.2.2.2.1 == x1.2.2.2.2)))
 refine Sem.runS (s1 := ⟨Fr 10 [p2], []⟩) ?_ ?_
 ·refine RunS.segF (n := 10) E0_ok 7 [p2] [p1] kr ?_
  exact RunS.done rfl (Wk.sel2 [] kr kr kr trivial ⟨lu kr kr, trivial⟩)
 refine Sem.ret ?_
 have hq := Option.some.inj h; subst hq
 exact ⟨⟨Fr 10 [p2], []⟩, (Wk.fr kr), .inr rfl, [.v (.bool (x0.1.2.2.2.2.1 == x1.2.2.2.2))], kr, kr⟩
def t_court_plain_3 : List AV → Option AV := told cs_court_plain_3 (fun a => court_plain_3 a.1 a.2.1) er_court_plain_3
theorem x_court_plain_3 : XOk 169 t_court_plain_3 := by
 refine xok_of_sem Tryz.func169 (c := cb_court_plain_3) ?h2 ⟨Tryz.call169⟩ cs_court_plain_3 (fun a => court_plain_3 a.1 a.2.1) er_court_plain_3 (fun a => (by show 2 ≤ 10; decide)) ?h3 ?h4
 case h2 => kernel_rfl
 case h3 => intro b; kernel_rfl
 case h4 => exact fun a b h => court_plain_3_sem a.1 a.2.1 b h
/- trestle/court.named$1 -/
noncomputable def cb_court_named_1__court_plain_3 : Code := codeOf Tryz.f188
def court_named_1__court_plain_3 (x0 : Seated) (x1 : Clause) (x2 : Clause) : Option (Int) :=
 (court_plain_3 x0 x1).bind fun v1 =>
 if (!(v1 == x2.2.2.1)) = true then
 some 0
 else
 some 1
def cs_court_named_1__court_plain_3 : Cs (Seated × Clause × Clause × Unit) := (csC cdSeated (csC (cdP (cdF 169 (csE (cdP cdClause)) (fun _ => rfl))) (csC (cdP cdClause) csN)))
def er_court_named_1__court_plain_3 (r : Int) : AV := cdI.enc r
theorem court_named_1__court_plain_3_sem (x0 : Seated) (x1 : Clause) (x2 : Clause) (r : Int) (h : court_named_1__court_plain_3 x0 x1 x2 = some r) : Sem E0 ⟨none, false⟩ cb_court_named_1__court_plain_3 ⟨Fr 11 (pairs0 0 (cs_court_named_1__court_plain_3.enc (x0, x1, x2, ()))), []⟩ fun e s' => (e = .normal ∨ e = .ret) ∧ ∃ xs, resA E0.P s'.fr s'.hp Tryz.f188.results.toList = some xs ∧ retA xs = er_court_named_1__court_plain_3 r := by
 unfold court_named_1__court_plain_3 at h
 let p1 : Nat × AV := (2, .pe (cdClause.enc x2) 0)
 let p2 : Nat × AV := (1, .pe (.fn 169 [] [.pe (cdClause.enc x1) 0]) 0)
 refine Sem.wkQ (Sem.wk (s1 := ⟨Fr 11 [(0, cdSeated.enc x0), p2, p1], []⟩) (Wk.fr kr) ?_)
 let p3 : Option Blk := some ⟨10, 131, [cdSeated.enc x0], false⟩
 refine Sem.sq E0_ok [p2, p1, (3, .pt 0 0 0)] [p3] ?_
 refine Sem.seq ?_
 refine Sem.seq ?_
 obtain ⟨v1, hv1, h⟩ := Option.bind_eq_some_iff.1 h
 let p4 : Nat × AV := (10, .v (.bool (!(v1 == x2.2.2.1))))
 refine Sem.runDS E0_ok (s1 := ⟨Fr 11 [p4], []⟩) kr ?_ ?_
 ·refine RunDS.segF (n := 11) E0_ok 2 [p1, (5, .fn 169 [] [.pe (cdClause.enc x1) 0]), (6, cdSeated.enc x0)] [p3] kr kr ?_
  refine RunDS.callV (caps := [.pe (cdClause.enc x1) 0]) (xs := [cdSeated.enc x0]) (u := (x0, x1, ())) rfl rfl x_court_plain_3 rfl (wantedA_none rfl) kr kr (Sl.cons (Sm.enc (c := cdSeated) (v := x0)) (Sl.cons (Sm.enc (c := (cdP cdClause)) (v := x1)) Sl.nil)) kr hv1 ?_
  refine RunDS.segF (n := 11) E0_ok 3 [p4] [p3] kr kr ?_
  exact RunDS.done rfl (Wk.sel2 [] kr kr kr trivial ⟨lu kr kr, trivial⟩)
 refine Sem.cond (b := (!(v1 == x2.2.2.1))) kr (fun hb2 => ?_) (fun hb2 => ?_)
 ·rw [if_pos hb2] at h
  refine Sem.sq E0_ok [(4, .v (.int .i64 0))] [] ?_
  refine Sem.ret ?_
  have hq := Option.some.inj h; subst hq
  exact ⟨⟨Fr 11 [(4, .v (.int .i64 0))], []⟩, (Wk.fr kr), .inr rfl, [.v (.int .i64 0)], kr, kr⟩
 ·rw [if_f hb2] at h
  refine Sem.skip ?_
  refine Sem.sq E0_ok [(4, .v (.int .i64 1))] [] ?_
  refine Sem.ret ?_
  have hq := Option.some.inj h; subst hq
  exact ⟨⟨Fr 11 [(4, .v (.int .i64 1))], []⟩, (Wk.fr kr), .inr rfl, [.v (.int .i64 1)], kr, kr⟩
def t_court_named_1__court_plain_3 : List AV → Option AV := told cs_court_named_1__court_plain_3 (fun a => court_named_1__court_plain_3 a.1 a.2.1 a.2.2.1) er_court_named_1__court_plain_3
theorem x_court_named_1__court_plain_3 : XOk 188 t_court_named_1__court_plain_3 := by
 refine xok_of_sem Tryz.func188 (c := cb_court_named_1__court_plain_3) ?h2 ⟨Tryz.call188⟩ cs_court_named_1__court_plain_3 (fun a => court_named_1__court_plain_3 a.1 a.2.1 a.2.2.1) er_court_named_1__court_plain_3 (fun a => (by show 3 ≤ 11; decide)) ?h3 ?h4
 case h2 => kernel_rfl
 case h3 => intro b; kernel_rfl
 case h4 => exact fun a b h => court_named_1__court_plain_3_sem a.1 a.2.1 a.2.2.1 b h
/- trestle/court.by$1 -/
noncomputable def cb_court_by_1__court_named_1__court_plain_3 : Code := codeOf Tryz.f187
def court_by_1__court_named_1__court_plain_3 (x0 : Seated) (x1 : Seated) (x2 : Clause × Clause) : Option (Int) :=
 (court_named_1__court_plain_3 x0 x2.1 x2.2).bind fun v1 =>
 (court_named_1__court_plain_3 x1 x2.1 x2.2).bind fun v2 =>
 (cmp_Compare_int v1 v2).bind fun v3 =>
 some v3
def cs_court_by_1__court_named_1__court_plain_3 : Cs (Seated × Seated × (Clause × Clause) × Unit) := (csC cdSeated (csC cdSeated (csC (cdP (cdF 188 (csC (cdP (cdF 169 (csE (cdP cdClause)) (fun _ => rfl))) (csE (cdP cdClause))) (fun _ => rfl))) csN)))
def er_court_by_1__court_named_1__court_plain_3 (r : Int) : AV := cdI.enc r
theorem court_by_1__court_named_1__court_plain_3_sem (x0 : Seated) (x1 : Seated) (x2 : Clause × Clause) (r : Int) (h : court_by_1__court_named_1__court_plain_3 x0 x1 x2 = some r) : Sem E0 ⟨none, false⟩ cb_court_by_1__court_named_1__court_plain_3 ⟨Fr 13 (pairs0 0 (cs_court_by_1__court_named_1__court_plain_3.enc (x0, x1, x2, ()))), []⟩ fun e s' => (e = .normal ∨ e = .ret) ∧ ∃ xs, resA E0.P s'.fr s'.hp Tryz.f187.results.toList = some xs ∧ retA xs = er_court_by_1__court_named_1__court_plain_3 r := by
 unfold court_by_1__court_named_1__court_plain_3 at h
 let p1 : Nat × AV := (2, .pe (.fn 188 [] [.pe (.fn 169 [] [.pe (cdClause.enc x2.1) 0]) 0, .pe (cdClause.enc x2.2) 0]) 0)
 refine Sem.wkQ (Sem.wk (s1 := ⟨Fr 13 [(0, cdSeated.enc x0), (1, cdSeated.enc x1), p1], []⟩) (Wk.fr kr) ?_)
 let p2 : Option Blk := some ⟨10, 131, [cdSeated.enc x1], false⟩
 let p3 : Option Blk := some ⟨10, 131, [cdSeated.enc x0], false⟩
 refine Sem.sq E0_ok [p1, (3, .pt 0 0 0), (4, .pt 1 0 0)] [p3, p2] ?_
 refine Sem.seq ?_
 obtain ⟨v1, hv1, h⟩ := Option.bind_eq_some_iff.1 h
 obtain ⟨v2, hv2, h⟩ := Option.bind_eq_some_iff.1 h
 obtain ⟨v3, hv3, h⟩ := Option.bind_eq_some_iff.1 h
 let p4 : Nat × AV := (5, .v (.int .i64 v3))
 refine Sem.runDS E0_ok (s1 := ⟨Fr 13 [p4], []⟩) kr ?_ ?_
 ·refine RunDS.segF (n := 13) E0_ok 2 [p1, (4, .pt 1 0 0), (6, .fn 188 [] [.pe (.fn 169 [] [.pe (cdClause.enc x2.1) 0]) 0, .pe (cdClause.enc x2.2) 0]), (7, cdSeated.enc x0)] [p3, p2] kr kr ?_
  refine RunDS.callV (caps := [.pe (.fn 169 [] [.pe (cdClause.enc x2.1) 0]) 0, .pe (cdClause.enc x2.2) 0]) (xs := [cdSeated.enc x0]) (u := (x0, x2.1, x2.2, ())) rfl rfl x_court_named_1__court_plain_3 rfl (wantedA_none rfl) kr kr (Sl.cons (Sm.enc (c := cdSeated) (v := x0)) (Sl.cons (Sm.enc (c := (cdP (cdF 169 (csE (cdP cdClause)) (fun _ => rfl)))) (v := x2.1)) (Sl.cons (Sm.enc (c := (cdP cdClause)) (v := x2.2)) Sl.nil))) kr hv1 ?_
  refine RunDS.segF (n := 13) E0_ok 2 [(8, .v (.int .i64 v1)), (9, .fn 188 [] [.pe (.fn 169 [] [.pe (cdClause.enc x2.1) 0]) 0, .pe (cdClause.enc x2.2) 0]), (10, cdSeated.enc x1)] [p3, p2] kr kr ?_
  refine RunDS.callV (caps := [.pe (.fn 169 [] [.pe (cdClause.enc x2.1) 0]) 0, .pe (cdClause.enc x2.2) 0]) (xs := [cdSeated.enc x1]) (u := (x1, x2.1, x2.2, ())) rfl rfl x_court_named_1__court_plain_3 rfl (wantedA_none rfl) kr kr (Sl.cons (Sm.enc (c := cdSeated) (v := x1)) (Sl.cons (Sm.enc (c := (cdP (cdF 169 (csE (cdP cdClause)) (fun _ => rfl)))) (v := x2.1)) (Sl.cons (Sm.enc (c := (cdP cdClause)) (v := x2.2)) Sl.nil))) kr hv2 ?_
  refine RunDS.callV (caps := []) (xs := [.v (.int .i64 v1), .v (.int .i64 v2)]) (u := (v1, v2, ())) rfl rfl x_cmp_Compare_int rfl (wantedA_none rfl) kr kr (Sl.cons (Sm.enc (c := cdI) (v := v1)) (Sl.cons (Sm.enc (c := cdI) (v := v2)) Sl.nil)) kr hv3 ?_
  refine RunDS.segF (n := 13) E0_ok 1 [p4] [p3, p2] kr kr ?_
  exact RunDS.done rfl (Wk.sel2 [] kr kr kr trivial ⟨lu kr kr, trivial⟩)
 refine Sem.ret ?_
 have hq := Option.some.inj h; subst hq
 exact ⟨⟨Fr 13 [p4], []⟩, (Wk.fr kr), .inr rfl, [.v (.int .i64 v3)], kr, kr⟩
def t_court_by_1__court_named_1__court_plain_3 : List AV → Option AV := told cs_court_by_1__court_named_1__court_plain_3 (fun a => court_by_1__court_named_1__court_plain_3 a.1 a.2.1 a.2.2.1) er_court_by_1__court_named_1__court_plain_3
theorem x_court_by_1__court_named_1__court_plain_3 : XOk 187 t_court_by_1__court_named_1__court_plain_3 := by
 refine xok_of_sem Tryz.func187 (c := cb_court_by_1__court_named_1__court_plain_3) ?h2 ⟨Tryz.call187⟩ cs_court_by_1__court_named_1__court_plain_3 (fun a => court_by_1__court_named_1__court_plain_3 a.1 a.2.1 a.2.2.1) er_court_by_1__court_named_1__court_plain_3 (fun a => (by show 3 ≤ 13; decide)) ?h3 ?h4
 case h2 => kernel_rfl
 case h3 => intro b; kernel_rfl
 case h4 => exact fun a b h => court_by_1__court_named_1__court_plain_3_sem a.1 a.2.1 a.2.2.1 b h
/- trestle/court.orderOf$1 -/
noncomputable def cb_court_orderOf_1__court_by_1__court_named_1__court_plain_3 : Code := codeOf Tryz.f154
def court_orderOf_1__court_by_1__court_named_1__court_plain_3 (x0 : Seated) (x1 : Seated) (x2 : Clause) (x3 : Clause × Clause) : Option (Int) :=
 (if (!(x2.2.1 == [])) = true then if (!(x0.1.2.1 == x2.2.1)) = true then some true else some (!(x1.1.2.1 == x2.2.1)) else some false).bind fun j2 =>
 if j2 = true then
 some 0
 else
 (court_by_1__court_named_1__court_plain_3 x0 x1 x3).bind fun v4 =>
 some v4
def cs_court_orderOf_1__court_by_1__court_named_1__court_plain_3 : Cs (Seated × Seated × Clause × (Clause × Clause) × Unit) := (csC cdSeated (csC cdSeated (csC (cdP cdClause) (csC (cdP (cdF 187 (csE (cdP (cdF 188 (csC (cdP (cdF 169 (csE (cdP cdClause)) (fun _ => rfl))) (csE (cdP cdClause))) (fun _ => rfl)))) (fun _ => rfl))) csN))))
def er_court_orderOf_1__court_by_1__court_named_1__court_plain_3 (r : Int) : AV := cdI.enc r
theorem court_orderOf_1__court_by_1__court_named_1__court_plain_3_sem (x0 : Seated) (x1 : Seated) (x2 : Clause) (x3 : Clause × Clause) (r : Int) (h : court_orderOf_1__court_by_1__court_named_1__court_plain_3 x0 x1 x2 x3 = some r) : Sem E0 ⟨none, false⟩ cb_court_orderOf_1__court_by_1__court_named_1__court_plain_3 ⟨Fr 30 (pairs0 0 (cs_court_orderOf_1__court_by_1__court_named_1__court_plain_3.enc (x0, x1, x2, x3, ()))), []⟩ fun e s' => (e = .normal ∨ e = .ret) ∧ ∃ xs, resA E0.P s'.fr s'.hp Tryz.f154.results.toList = some xs ∧ retA xs = er_court_orderOf_1__court_by_1__court_named_1__court_plain_3 r := by
 unfold court_orderOf_1__court_by_1__court_named_1__court_plain_3 at h
 refine Sem.wkQ (Sem.wk (s1 := ⟨Fr 30 [(0, cdSeated.enc x0), (1, cdSeated.enc x1), (2, .pe (cdClause.enc x2) 0), (3, .pe (.fn 187 [] [.pe (.fn 188 [] [.pe (.fn 169 [] [.pe (cdClause.enc x3.1) 0]) 0, .pe (cdClause.enc x3.2) 0]) 0]) 0)], []⟩) (Wk.fr kr) ?_)
 refine Sem.sq E0_ok [(2, .pe (cdClause.enc x2) 0), (3, .pe (.fn 187 [] [.pe (.fn 188 [] [.pe (.fn 169 [] [.pe (cdClause.enc x3.1) 0]) 0, .pe (cdClause.enc x3.2) 0]) 0]) 0), (4, .pt 0 0 0), (5, .pt 1 0 0)] [some ⟨10, 131, [cdSeated.enc x0], false⟩, some ⟨10, 131, [cdSeated.enc x1], false⟩] ?_
 refine Sem.seq ?_
 refine Sem.seq ?_
 obtain ⟨j2, hj2, h⟩ := Option.bind_eq_some_iff.1 h
 refine Sem.runS (s1 := ⟨Fr 30 [(3, .pe (.fn 187 [] [.pe (.fn 188 [] [.pe (.fn 169 [] [.pe (cdClause.enc x3.1) 0]) 0, .pe (cdClause.enc x3.2) 0]) 0]) 0), (4, .pt 0 0 0), (5, .pt 1 0 0), (25, .v (.bool j2))], [some ⟨10, 131, [cdSeated.enc x0], false⟩, some ⟨10, 131, [cdSeated.enc x1], false⟩]⟩) ?_ ?_
 ·refine RunS.segF (n := 30) E0_ok 4 [(2, .pe (cdClause.enc x2) 0), (3, .pe (.fn 187 [] [.pe (.fn 188 [] [.pe (.fn 169 [] [.pe (cdClause.enc x3.1) 0]) 0, .pe (cdClause.enc x3.2) 0]) 0]) 0), (4, .pt 0 0 0), (5, .pt 1 0 0), (10, .v (.bool (!(x2.2.1 == []))))] [some ⟨10, 131, [cdSeated.enc x0], false⟩, some ⟨10, 131, [cdSeated.enc x1], false⟩] kr ?_
  rcases Bool.eq_false_or_eq_true (!(x2.2.1 == [])) with hc5 | hc5
  ·rw [if_pos hc5] at hj2
   rw [hc5]
   refine RunS.segF (n := 30) E0_ok 7 [(2, .pe (cdClause.enc x2) 0), (3, .pe (.fn 187 [] [.pe (.fn 188 [] [.pe (.fn 169 [] [.pe (cdClause.enc x3.1) 0]) 0, .pe (cdClause.enc x3.2) 0]) 0]) 0), (4, .pt 0 0 0), (5, .pt 1 0 0), (10, .v (.bool true)), (17, .v (.bool (!(x0.1.2.1 == x2.2.1))))] [some ⟨10, 131, [cdSeated.enc x0], false⟩, some ⟨10, 131, [cdSeated.enc x1], false⟩] kr ?_
   rcases Bool.eq_false_or_eq_true (!(x0.1.2.1 == x2.2.1)) with hc6 | hc6
   ·rw [if_pos hc6] at hj2
    rw [hc6]
    refine RunS.segF (n := 30) E0_ok 8 [(3, .pe (.fn 187 [] [.pe (.fn 188 [] [.pe (.fn 169 [] [.pe (cdClause.enc x3.1) 0]) 0, .pe (cdClause.enc x3.2) 0]) 0]) 0), (4, .pt 0 0 0), (5, .pt 1 0 0), (25, .v (.bool true))] [some ⟨10, 131, [cdSeated.enc x0], false⟩, some ⟨10, 131, [cdSeated.enc x1], false⟩] kr ?_
    have hq := Option.some.inj hj2; subst hq
    exact RunS.done rfl (Wk.sel2 [0, 1] kr kr kr ⟨⟨_, rfl, bu_c kr kr⟩, ⟨_, rfl, bu_c kr kr⟩, trivial⟩ ⟨lu kr kr, lu kr kr, lu kr kr, lu kr kr, trivial⟩)
   ·rw [if_f hc6] at hj2
    rw [hc6]
    refine RunS.segF (n := 30) E0_ok 8 [(3, .pe (.fn 187 [] [.pe (.fn 188 [] [.pe (.fn 169 [] [.pe (cdClause.enc x3.1) 0]) 0, .pe (cdClause.enc x3.2) 0]) 0]) 0), (4, .pt 0 0 0), (5, .pt 1 0 0), (25, .v (.bool (!(x1.1.2.1 == x2.2.1))))] [some ⟨10, 131, [cdSeated.enc x0], false⟩, some ⟨10, 131, [cdSeated.enc x1], false⟩] kr ?_
    have hq := Option.some.inj hj2; subst hq
    exact RunS.done rfl (Wk.sel2 [0, 1] kr kr kr ⟨⟨_, rfl, bu_c kr kr⟩, ⟨_, rfl, bu_c kr kr⟩, trivial⟩ ⟨lu kr kr, lu kr kr, lu kr kr, lu kr kr, trivial⟩)
  ·rw [if_f hc5] at hj2
   rw [hc5]
   refine RunS.segF (n := 30) E0_ok 15 [(3, .pe (.fn 187 [] [.pe (.fn 188 [] [.pe (.fn 169 [] [.pe (cdClause.enc x3.1) 0]) 0, .pe (cdClause.enc x3.2) 0]) 0]) 0), (4, .pt 0 0 0), (5, .pt 1 0 0), (25, .v (.bool false))] [some ⟨10, 131, [cdSeated.enc x0], false⟩, some ⟨10, 131, [cdSeated.enc x1], false⟩] kr ?_
   have hq := Option.some.inj hj2; subst hq
   exact RunS.done rfl (Wk.sel2 [0, 1] kr kr kr ⟨⟨_, rfl, bu_c kr kr⟩, ⟨_, rfl, bu_c kr kr⟩, trivial⟩ ⟨lu kr kr, lu kr kr, lu kr kr, lu kr kr, trivial⟩)
 refine Sem.cond (b := j2) kr (fun hb3 => ?_) (fun hb3 => ?_)
 ·rw [if_pos hb3] at h
  refine Sem.seq ?_
  refine Sem.runS (s1 := ⟨Fr 30 [(6, .v (.int .i64 0))], []⟩) ?_ ?_
  ·refine RunS.segF (n := 30) E0_ok 1 [(6, .v (.int .i64 0))] [some ⟨10, 131, [cdSeated.enc x0], false⟩, some ⟨10, 131, [cdSeated.enc x1], false⟩] kr ?_
   exact RunS.done rfl (Wk.sel2 [] kr kr kr trivial ⟨lu kr kr, trivial⟩)
  refine Sem.ret ?_
  have hq := Option.some.inj h; subst hq
  exact ⟨⟨Fr 30 [(6, .v (.int .i64 0))], []⟩, (Wk.fr kr), .inr rfl, [.v (.int .i64 0)], kr, kr⟩
 ·rw [if_f hb3] at h
  refine Sem.skip ?_
  refine Sem.seq ?_
  obtain ⟨v4, hv4, h⟩ := Option.bind_eq_some_iff.1 h
  refine Sem.runS (s1 := ⟨Fr 30 [(6, .v (.int .i64 v4))], []⟩) ?_ ?_
  ·refine RunS.segF (n := 30) E0_ok 3 [(26, .fn 187 [] [.pe (.fn 188 [] [.pe (.fn 169 [] [.pe (cdClause.enc x3.1) 0]) 0, .pe (cdClause.enc x3.2) 0]) 0]), (27, cdSeated.enc x0), (28, cdSeated.enc x1)] [some ⟨10, 131, [cdSeated.enc x0], false⟩, some ⟨10, 131, [cdSeated.enc x1], false⟩] kr ?_
   refine RunS.callV (caps := [.pe (.fn 188 [] [.pe (.fn 169 [] [.pe (cdClause.enc x3.1) 0]) 0, .pe (cdClause.enc x3.2) 0]) 0]) (xs := [cdSeated.enc x0, cdSeated.enc x1]) (u := (x0, x1, x3, ())) rfl rfl x_court_by_1__court_named_1__court_plain_3 rfl (wantedA_none rfl) kr kr (Sl.cons (Sm.enc (c := cdSeated) (v := x0)) (Sl.cons (Sm.enc (c := cdSeated) (v := x1)) (Sl.cons (Sm.enc (c := (cdP (cdF 188 (csC (cdP (cdF 169 (csE (cdP cdClause)) (fun _ => rfl))) (csE (cdP cdClause))) (fun _ => rfl)))) (v := x3)) Sl.nil))) (.inl kr) hv4 ?_
   refine RunS.segF (n := 30) E0_ok 1 [(6, .v (.int .i64 v4))] [some ⟨10, 131, [cdSeated.enc x0], false⟩, some ⟨10, 131, [cdSeated.enc x1], false⟩] kr ?_
   exact RunS.done rfl (Wk.sel2 [] kr kr kr trivial ⟨lu kr kr, trivial⟩)
  refine Sem.ret ?_
  have hq := Option.some.inj h; subst hq
  exact ⟨⟨Fr 30 [(6, .v (.int .i64 v4))], []⟩, (Wk.fr kr), .inr rfl, [.v (.int .i64 v4)], kr, kr⟩
def t_court_orderOf_1__court_by_1__court_named_1__court_plain_3 : List AV → Option AV := told cs_court_orderOf_1__court_by_1__court_named_1__court_plain_3 (fun a => court_orderOf_1__court_by_1__court_named_1__court_plain_3 a.1 a.2.1 a.2.2.1 a.2.2.2.1) er_court_orderOf_1__court_by_1__court_named_1__court_plain_3
theorem x_court_orderOf_1__court_by_1__court_named_1__court_plain_3 : XOk 154 t_court_orderOf_1__court_by_1__court_named_1__court_plain_3 := by
 refine xok_of_sem Tryz.func154 (c := cb_court_orderOf_1__court_by_1__court_named_1__court_plain_3) ?h2 ⟨Tryz.call154⟩ cs_court_orderOf_1__court_by_1__court_named_1__court_plain_3 (fun a => court_orderOf_1__court_by_1__court_named_1__court_plain_3 a.1 a.2.1 a.2.2.1 a.2.2.2.1) er_court_orderOf_1__court_by_1__court_named_1__court_plain_3 (fun a => (by show 4 ≤ 30; decide)) ?h3 ?h4
 case h2 => kernel_rfl
 case h3 => intro b; kernel_rfl
 case h4 => exact fun a b h => court_orderOf_1__court_by_1__court_named_1__court_plain_3_sem a.1 a.2.1 a.2.2.1 a.2.2.2.1 b h
/- trestle/court.plain$4 -/
noncomputable def cb_court_plain_4 : Code := codeOf Tryz.f170
def court_plain_4 (x0 : Seated) : Option (Bool) :=
 some x0.1.2.2.2.2.2.2.1
def cs_court_plain_4 : Cs (Seated × Unit) := (csC cdSeated csN)
def er_court_plain_4 (r : Bool) : AV := cdB.enc r
theorem court_plain_4_sem (x0 : Seated) (r : Bool) (h : court_plain_4 x0 = some r) : Sem E0 ⟨none, false⟩ cb_court_plain_4 ⟨Fr 6 (pairs0 0 (cs_court_plain_4.enc (x0, ()))), []⟩ fun e s' => (e = .normal ∨ e = .ret) ∧ ∃ xs, resA E0.P s'.fr s'.hp Tryz.f170.results.toList = some xs ∧ retA xs = er_court_plain_4 r := by
 unfold court_plain_4 at h
 refine Sem.wkQ (Sem.wk (s1 := ⟨Fr 6 [(0, cdSeated.enc x0)], []⟩) (Wk.fr kr) ?_)
 let p1 : Option Blk := some ⟨10, 131, [cdSeated.enc x0], false⟩
 refine Sem.sq E0_ok [(1, .pt 0 0 0)] [p1] ?_
 refine Sem.seq ?_
 let p2 : Nat × AV := (2, .v (.bool x0.1.2.2.2.2.2.2.1))
 refine Sem.runS (s1 := ⟨Fr 6 [p2], []⟩) ?_ ?_
 ·refine RunS.segF (n := 6) E0_ok 4 [p2] [p1] kr ?_
  exact RunS.done rfl (Wk.sel2 [] kr kr kr trivial ⟨lu kr kr, trivial⟩)
 refine Sem.ret ?_
 have hq := Option.some.inj h; subst hq
 exact ⟨⟨Fr 6 [p2], []⟩, (Wk.fr kr), .inr rfl, [.v (.bool x0.1.2.2.2.2.2.2.1)], kr, kr⟩
def t_court_plain_4 : List AV → Option AV := told cs_court_plain_4 (fun a => court_plain_4 a.1) er_court_plain_4
theorem x_court_plain_4 : XOk 170 t_court_plain_4 := by
 refine xok_of_sem Tryz.func170 (c := cb_court_plain_4) ?h2 ⟨Tryz.call170⟩ cs_court_plain_4 (fun a => court_plain_4 a.1) er_court_plain_4 (fun a => (by show 1 ≤ 6; decide)) ?h3 ?h4
 case h2 => kernel_rfl
 case h3 => intro b; kernel_rfl
 case h4 => exact fun a b h => court_plain_4_sem a.1 b h
/- trestle/court.named$1 -/
noncomputable def cb_court_named_1__court_plain_4 : Code := codeOf Tryz.f188
def court_named_1__court_plain_4 (x0 : Seated) (x2 : Clause) : Option (Int) :=
 (court_plain_4 x0).bind fun v1 =>
 if (!(v1 == x2.2.2.1)) = true then
 some 0
 else
 some 1
def cs_court_named_1__court_plain_4 : Cs (Seated × Unit × Clause × Unit) := (csC cdSeated (csC (cdP (cdF 170 csN (fun _ => rfl))) (csC (cdP cdClause) csN)))
def er_court_named_1__court_plain_4 (r : Int) : AV := cdI.enc r
theorem court_named_1__court_plain_4_sem (x0 : Seated) (x2 : Clause) (r : Int) (h : court_named_1__court_plain_4 x0 x2 = some r) : Sem E0 ⟨none, false⟩ cb_court_named_1__court_plain_4 ⟨Fr 11 (pairs0 0 (cs_court_named_1__court_plain_4.enc (x0, (), x2, ()))), []⟩ fun e s' => (e = .normal ∨ e = .ret) ∧ ∃ xs, resA E0.P s'.fr s'.hp Tryz.f188.results.toList = some xs ∧ retA xs = er_court_named_1__court_plain_4 r := by
 unfold court_named_1__court_plain_4 at h
 let p1 : Nat × AV := (2, .pe (cdClause.enc x2) 0)
 refine Sem.wkQ (Sem.wk (s1 := ⟨Fr 11 [(0, cdSeated.enc x0), (1, .pe (.fn 170 [] []) 0), p1], []⟩) (Wk.fr kr) ?_)
 let p2 : Option Blk := some ⟨10, 131, [cdSeated.enc x0], false⟩
 refine Sem.sq E0_ok [(1, .pe (.fn 170 [] []) 0), p1, (3, .pt 0 0 0)] [p2] ?_
 refine Sem.seq ?_
 refine Sem.seq ?_
 obtain ⟨v1, hv1, h⟩ := Option.bind_eq_some_iff.1 h
 let p3 : Nat × AV := (10, .v (.bool (!(v1 == x2.2.2.1))))
 refine Sem.runDS E0_ok (s1 := ⟨Fr 11 [p3], []⟩) kr ?_ ?_
 ·refine RunDS.segF (n := 11) E0_ok 2 [p1, (5, .fn 170 [] []), (6, cdSeated.enc x0)] [p2] kr kr ?_
  refine RunDS.callV (caps := []) (xs := [cdSeated.enc x0]) (u := (x0, ())) rfl rfl x_court_plain_4 rfl (wantedA_none rfl) kr kr (Sl.cons (Sm.enc (c := cdSeated) (v := x0)) Sl.nil) kr hv1 ?_
  refine RunDS.segF (n := 11) E0_ok 3 [p3] [p2] kr kr ?_
  exact RunDS.done rfl (Wk.sel2 [] kr kr kr trivial ⟨lu kr kr, trivial⟩)
 refine Sem.cond (b := (!(v1 == x2.2.2.1))) kr (fun hb2 => ?_) (fun hb2 => ?_)
 ·rw [if_pos hb2] at h
  refine Sem.sq E0_ok [(4, .v (.int .i64 0))] [] ?_
  refine Sem.ret ?_
  have hq := Option.some.inj h; subst hq
  exact ⟨⟨Fr 11 [(4, .v (.int .i64 0))], []⟩, (Wk.fr kr), .inr rfl, [.v (.int .i64 0)], kr, kr⟩
 ·rw [if_f hb2] at h
  refine Sem.skip ?_
  refine Sem.sq E0_ok [(4, .v (.int .i64 1))] [] ?_
  refine Sem.ret ?_
  have hq := Option.some.inj h; subst hq
  exact ⟨⟨Fr 11 [(4, .v (.int .i64 1))], []⟩, (Wk.fr kr), .inr rfl, [.v (.int .i64 1)], kr, kr⟩
def t_court_named_1__court_plain_4 : List AV → Option AV := told cs_court_named_1__court_plain_4 (fun a => court_named_1__court_plain_4 a.1 a.2.2.1) er_court_named_1__court_plain_4
theorem x_court_named_1__court_plain_4 : XOk 188 t_court_named_1__court_plain_4 := by
 refine xok_of_sem Tryz.func188 (c := cb_court_named_1__court_plain_4) ?h2 ⟨Tryz.call188⟩ cs_court_named_1__court_plain_4 (fun a => court_named_1__court_plain_4 a.1 a.2.2.1) er_court_named_1__court_plain_4 (fun a => (by show 3 ≤ 11; decide)) ?h3 ?h4
 case h2 => kernel_rfl
 case h3 => intro b; kernel_rfl
 case h4 => exact fun a b h => court_named_1__court_plain_4_sem a.1 a.2.2.1 b h
/- trestle/court.by$1 -/
noncomputable def cb_court_by_1__court_named_1__court_plain_4 : Code := codeOf Tryz.f187
def court_by_1__court_named_1__court_plain_4 (x0 : Seated) (x1 : Seated) (x2 : Unit × Clause) : Option (Int) :=
 (court_named_1__court_plain_4 x0 x2.2).bind fun v1 =>
 (court_named_1__court_plain_4 x1 x2.2).bind fun v2 =>
 (cmp_Compare_int v1 v2).bind fun v3 =>
 some v3
def cs_court_by_1__court_named_1__court_plain_4 : Cs (Seated × Seated × (Unit × Clause) × Unit) := (csC cdSeated (csC cdSeated (csC (cdP (cdF 188 (csC (cdP (cdF 170 csN (fun _ => rfl))) (csE (cdP cdClause))) (fun _ => rfl))) csN)))
def er_court_by_1__court_named_1__court_plain_4 (r : Int) : AV := cdI.enc r
theorem court_by_1__court_named_1__court_plain_4_sem (x0 : Seated) (x1 : Seated) (x2 : Unit × Clause) (r : Int) (h : court_by_1__court_named_1__court_plain_4 x0 x1 x2 = some r) : Sem E0 ⟨none, false⟩ cb_court_by_1__court_named_1__court_plain_4 ⟨Fr 13 (pairs0 0 (cs_court_by_1__court_named_1__court_plain_4.enc (x0, x1, x2, ()))), []⟩ fun e s' => (e = .normal ∨ e = .ret) ∧ ∃ xs, resA E0.P s'.fr s'.hp Tryz.f187.results.toList = some xs ∧ retA xs = er_court_by_1__court_named_1__court_plain_4 r := by
 unfold court_by_1__court_named_1__court_plain_4 at h
 let p1 : Nat × AV := (2, .pe (.fn 188 [] [.pe (.fn 170 [] []) 0, .pe (cdClause.enc x2.2) 0]) 0)
 refine Sem.wkQ (Sem.wk (s1 := ⟨Fr 13 [(0, cdSeated.enc x0), (1, cdSeated.enc x1), p1], []⟩) (Wk.fr kr) ?_)
 let p2 : Option Blk := some ⟨10, 131, [cdSeated.enc x1], false⟩
 let p3 : Option Blk := some ⟨10, 131, [cdSeated.enc x0], false⟩
 refine Sem.sq E0_ok [p1, (3, .pt 0 0 0), (4, .pt 1 0 0)] [p3, p2] ?_
 refine Sem.seq ?_
 obtain ⟨v1, hv1, h⟩ := Option.bind_eq_some_iff.1 h
 obtain ⟨v2, hv2, h⟩ := Option.bind_eq_some_iff.1 h
 obtain ⟨v3, hv3, h⟩ := Option.bind_eq_some_iff.1 h
 let p4 : Nat × AV := (5, .v (.int .i64 v3))
 refine Sem.runDS E0_ok (s1 := ⟨Fr 13 [p4], []⟩) kr ?_ ?_
 ·refine RunDS.segF (n := 13) E0_ok 2 [p1, (4, .pt 1 0 0), (6, .fn 188 [] [.pe (.fn 170 [] []) 0, .pe (cdClause.enc x2.2) 0]), (7, cdSeated.enc x0)] [p3, p2] kr kr ?_
  refine RunDS.callV (caps := [.pe (.fn 170 [] []) 0, .pe (cdClause.enc x2.2) 0]) (xs := [cdSeated.enc x0]) (u := (x0, (), x2.2, ())) rfl rfl x_court_named_1__court_plain_4 rfl (wantedA_none rfl) kr kr (Sl.cons (Sm.enc (c := cdSeated) (v := x0)) (Sl.cons (Sm.enc (c := (cdP (cdF 170 csN (fun _ => rfl)))) (v := ())) (Sl.cons (Sm.enc (c := (cdP cdClause)) (v := x2.2)) Sl.nil))) kr hv1 ?_
  refine RunDS.segF (n := 13) E0_ok 2 [(8, .v (.int .i64 v1)), (9, .fn 188 [] [.pe (.fn 170 [] []) 0, .pe (cdClause.enc x2.2) 0]), (10, cdSeated.enc x1)] [p3, p2] kr kr ?_
  refine RunDS.callV (caps := [.pe (.fn 170 [] []) 0, .pe (cdClause.enc x2.2) 0]) (xs := [cdSeated.enc x1]) (u := (x1, (), x2.2, ())) rfl rfl x_court_named_1__court_plain_4 rfl (wantedA_none rfl) kr kr (Sl.cons (Sm.enc (c := cdSeated) (v := x1)) (Sl.cons (Sm.enc (c := (cdP (cdF 170 csN (fun _ => rfl)))) (v := ())) (Sl.cons (Sm.enc (c := (cdP cdClause)) (v := x2.2)) Sl.nil))) kr hv2 ?_
  refine RunDS.callV (caps := []) (xs := [.v (.int .i64 v1), .v (.int .i64 v2)]) (u := (v1, v2, ())) rfl rfl x_cmp_Compare_int rfl (wantedA_none rfl) kr kr (Sl.cons (Sm.enc (c := cdI) (v := v1)) (Sl.cons (Sm.enc (c := cdI) (v := v2)) Sl.nil)) kr hv3 ?_
  refine RunDS.segF (n := 13) E0_ok 1 [p4] [p3, p2] kr kr ?_
  exact RunDS.done rfl (Wk.sel2 [] kr kr kr trivial ⟨lu kr kr, trivial⟩)
 refine Sem.ret ?_
 have hq := Option.some.inj h; subst hq
 exact ⟨⟨Fr 13 [p4], []⟩, (Wk.fr kr), .inr rfl, [.v (.int .i64 v3)], kr, kr⟩
def t_court_by_1__court_named_1__court_plain_4 : List AV → Option AV := told cs_court_by_1__court_named_1__court_plain_4 (fun a => court_by_1__court_named_1__court_plain_4 a.1 a.2.1 a.2.2.1) er_court_by_1__court_named_1__court_plain_4
theorem x_court_by_1__court_named_1__court_plain_4 : XOk 187 t_court_by_1__court_named_1__court_plain_4 := by
 refine xok_of_sem Tryz.func187 (c := cb_court_by_1__court_named_1__court_plain_4) ?h2 ⟨Tryz.call187⟩ cs_court_by_1__court_named_1__court_plain_4 (fun a => court_by_1__court_named_1__court_plain_4 a.1 a.2.1 a.2.2.1) er_court_by_1__court_named_1__court_plain_4 (fun a => (by show 3 ≤ 13; decide)) ?h3 ?h4
 case h2 => kernel_rfl
 case h3 => intro b; kernel_rfl
 case h4 => exact fun a b h => court_by_1__court_named_1__court_plain_4_sem a.1 a.2.1 a.2.2.1 b h
/- trestle/court.orderOf$1 -/
noncomputable def cb_court_orderOf_1__court_by_1__court_named_1__court_plain_4 : Code := codeOf Tryz.f154
def court_orderOf_1__court_by_1__court_named_1__court_plain_4 (x0 : Seated) (x1 : Seated) (x2 : Clause) (x3 : Unit × Clause) : Option (Int) :=
 (if (!(x2.2.1 == [])) = true then if (!(x0.1.2.1 == x2.2.1)) = true then some true else some (!(x1.1.2.1 == x2.2.1)) else some false).bind fun j2 =>
 if j2 = true then
 some 0
 else
 (court_by_1__court_named_1__court_plain_4 x0 x1 ((), x3.2)).bind fun v4 =>
 some v4
def cs_court_orderOf_1__court_by_1__court_named_1__court_plain_4 : Cs (Seated × Seated × Clause × (Unit × Clause) × Unit) := (csC cdSeated (csC cdSeated (csC (cdP cdClause) (csC (cdP (cdF 187 (csE (cdP (cdF 188 (csC (cdP (cdF 170 csN (fun _ => rfl))) (csE (cdP cdClause))) (fun _ => rfl)))) (fun _ => rfl))) csN))))
def er_court_orderOf_1__court_by_1__court_named_1__court_plain_4 (r : Int) : AV := cdI.enc r
theorem court_orderOf_1__court_by_1__court_named_1__court_plain_4_sem (x0 : Seated) (x1 : Seated) (x2 : Clause) (x3 : Unit × Clause) (r : Int) (h : court_orderOf_1__court_by_1__court_named_1__court_plain_4 x0 x1 x2 x3 = some r) : Sem E0 ⟨none, false⟩ cb_court_orderOf_1__court_by_1__court_named_1__court_plain_4 ⟨Fr 30 (pairs0 0 (cs_court_orderOf_1__court_by_1__court_named_1__court_plain_4.enc (x0, x1, x2, x3, ()))), []⟩ fun e s' => (e = .normal ∨ e = .ret) ∧ ∃ xs, resA E0.P s'.fr s'.hp Tryz.f154.results.toList = some xs ∧ retA xs = er_court_orderOf_1__court_by_1__court_named_1__court_plain_4 r := by
 unfold court_orderOf_1__court_by_1__court_named_1__court_plain_4 at h
 refine Sem.wkQ (Sem.wk (s1 := ⟨Fr 30 [(0, cdSeated.enc x0), (1, cdSeated.enc x1), (2, .pe (cdClause.enc x2) 0), (3, .pe (.fn 187 [] [.pe (.fn 188 [] [.pe (.fn 170 [] []) 0, .pe (cdClause.enc x3.2) 0]) 0]) 0)], []⟩) (Wk.fr kr) ?_)
 refine Sem.sq E0_ok [(2, .pe (cdClause.enc x2) 0), (3, .pe (.fn 187 [] [.pe (.fn 188 [] [.pe (.fn 170 [] []) 0, .pe (cdClause.enc x3.2) 0]) 0]) 0), (4, .pt 0 0 0), (5, .pt 1 0 0)] [some ⟨10, 131, [cdSeated.enc x0], false⟩, some ⟨10, 131, [cdSeated.enc x1], false⟩] ?_
 refine Sem.seq ?_
 refine Sem.seq ?_
 obtain ⟨j2, hj2, h⟩ := Option.bind_eq_some_iff.1 h
 refine Sem.runS (s1 := ⟨Fr 30 [(3, .pe (.fn 187 [] [.pe (.fn 188 [] [.pe (.fn 170 [] []) 0, .pe (cdClause.enc x3.2) 0]) 0]) 0), (4, .pt 0 0 0), (5, .pt 1 0 0), (25, .v (.bool j2))], [some ⟨10, 131, [cdSeated.enc x0], false⟩, some ⟨10, 131, [cdSeated.enc x1], false⟩]⟩) ?_ ?_
 ·refine RunS.segF (n := 30) E0_ok 4 [(2, .pe (cdClause.enc x2) 0), (3, .pe (.fn 187 [] [.pe (.fn 188 [] [.pe (.fn 170 [] []) 0, .pe (cdClause.enc x3.2) 0]) 0]) 0), (4, .pt 0 0 0), (5, .pt 1 0 0), (10, .v (.bool (!(x2.2.1 == []))))] [some ⟨10, 131, [cdSeated.enc x0], false⟩, some ⟨10, 131, [cdSeated.enc x1], false⟩] kr ?_
  rcases Bool.eq_false_or_eq_true (!(x2.2.1 == [])) with hc5 | hc5
  ·rw [if_pos hc5] at hj2
   rw [hc5]
   refine RunS.segF (n := 30) E0_ok 7 [(2, .pe (cdClause.enc x2) 0), (3, .pe (.fn 187 [] [.pe (.fn 188 [] [.pe (.fn 170 [] []) 0, .pe (cdClause.enc x3.2) 0]) 0]) 0), (4, .pt 0 0 0), (5, .pt 1 0 0), (10, .v (.bool true)), (17, .v (.bool (!(x0.1.2.1 == x2.2.1))))] [some ⟨10, 131, [cdSeated.enc x0], false⟩, some ⟨10, 131, [cdSeated.enc x1], false⟩] kr ?_
   rcases Bool.eq_false_or_eq_true (!(x0.1.2.1 == x2.2.1)) with hc6 | hc6
   ·rw [if_pos hc6] at hj2
    rw [hc6]
    refine RunS.segF (n := 30) E0_ok 8 [(3, .pe (.fn 187 [] [.pe (.fn 188 [] [.pe (.fn 170 [] []) 0, .pe (cdClause.enc x3.2) 0]) 0]) 0), (4, .pt 0 0 0), (5, .pt 1 0 0), (25, .v (.bool true))] [some ⟨10, 131, [cdSeated.enc x0], false⟩, some ⟨10, 131, [cdSeated.enc x1], false⟩] kr ?_
    have hq := Option.some.inj hj2; subst hq
    exact RunS.done rfl (Wk.sel2 [0, 1] kr kr kr ⟨⟨_, rfl, bu_c kr kr⟩, ⟨_, rfl, bu_c kr kr⟩, trivial⟩ ⟨lu kr kr, lu kr kr, lu kr kr, lu kr kr, trivial⟩)
   ·rw [if_f hc6] at hj2
    rw [hc6]
    refine RunS.segF (n := 30) E0_ok 8 [(3, .pe (.fn 187 [] [.pe (.fn 188 [] [.pe (.fn 170 [] []) 0, .pe (cdClause.enc x3.2) 0]) 0]) 0), (4, .pt 0 0 0), (5, .pt 1 0 0), (25, .v (.bool (!(x1.1.2.1 == x2.2.1))))] [some ⟨10, 131, [cdSeated.enc x0], false⟩, some ⟨10, 131, [cdSeated.enc x1], false⟩] kr ?_
    have hq := Option.some.inj hj2; subst hq
    exact RunS.done rfl (Wk.sel2 [0, 1] kr kr kr ⟨⟨_, rfl, bu_c kr kr⟩, ⟨_, rfl, bu_c kr kr⟩, trivial⟩ ⟨lu kr kr, lu kr kr, lu kr kr, lu kr kr, trivial⟩)
  ·rw [if_f hc5] at hj2
   rw [hc5]
   refine RunS.segF (n := 30) E0_ok 15 [(3, .pe (.fn 187 [] [.pe (.fn 188 [] [.pe (.fn 170 [] []) 0, .pe (cdClause.enc x3.2) 0]) 0]) 0), (4, .pt 0 0 0), (5, .pt 1 0 0), (25, .v (.bool false))] [some ⟨10, 131, [cdSeated.enc x0], false⟩, some ⟨10, 131, [cdSeated.enc x1], false⟩] kr ?_
   have hq := Option.some.inj hj2; subst hq
   exact RunS.done rfl (Wk.sel2 [0, 1] kr kr kr ⟨⟨_, rfl, bu_c kr kr⟩, ⟨_, rfl, bu_c kr kr⟩, trivial⟩ ⟨lu kr kr, lu kr kr, lu kr kr, lu kr kr, trivial⟩)
 refine Sem.cond (b := j2) kr (fun hb3 => ?_) (fun hb3 => ?_)
 ·rw [if_pos hb3] at h
  refine Sem.seq ?_
  refine Sem.runS (s1 := ⟨Fr 30 [(6, .v (.int .i64 0))], []⟩) ?_ ?_
  ·refine RunS.segF (n := 30) E0_ok 1 [(6, .v (.int .i64 0))] [some ⟨10, 131, [cdSeated.enc x0], false⟩, some ⟨10, 131, [cdSeated.enc x1], false⟩] kr ?_
   exact RunS.done rfl (Wk.sel2 [] kr kr kr trivial ⟨lu kr kr, trivial⟩)
  refine Sem.ret ?_
  have hq := Option.some.inj h; subst hq
  exact ⟨⟨Fr 30 [(6, .v (.int .i64 0))], []⟩, (Wk.fr kr), .inr rfl, [.v (.int .i64 0)], kr, kr⟩
 ·rw [if_f hb3] at h
  refine Sem.skip ?_
  refine Sem.seq ?_
  obtain ⟨v4, hv4, h⟩ := Option.bind_eq_some_iff.1 h
  refine Sem.runS (s1 := ⟨Fr 30 [(6, .v (.int .i64 v4))], []⟩) ?_ ?_
  ·refine RunS.segF (n := 30) E0_ok 3 [(26, .fn 187 [] [.pe (.fn 188 [] [.pe (.fn 170 [] []) 0, .pe (cdClause.enc x3.2) 0]) 0]), (27, cdSeated.enc x0), (28, cdSeated.enc x1)] [some ⟨10, 131, [cdSeated.enc x0], false⟩, some ⟨10, 131, [cdSeated.enc x1], false⟩] kr ?_
   refine RunS.callV (caps := [.pe (.fn 188 [] [.pe (.fn 170 [] []) 0, .pe (cdClause.enc x3.2) 0]) 0]) (xs := [cdSeated.enc x0, cdSeated.enc x1]) (u := (x0, x1, ((), x3.2), ())) rfl rfl x_court_by_1__court_named_1__court_plain_4 rfl (wantedA_none rfl) kr kr (Sl.cons (Sm.enc (c := cdSeated) (v := x0)) (Sl.cons (Sm.enc (c := cdSeated) (v := x1)) (Sl.cons (Sm.enc (c := (cdP (cdF 188 (csC (cdP (cdF 170 csN (fun _ => rfl))) (csE (cdP cdClause))) (fun _ => rfl)))) (v := ((), x3.2))) Sl.nil))) (.inl kr) hv4 ?_
   refine RunS.segF (n := 30) E0_ok 1 [(6, .v (.int .i64 v4))] [some ⟨10, 131, [cdSeated.enc x0], false⟩, some ⟨10, 131, [cdSeated.enc x1], false⟩] kr ?_
   exact RunS.done rfl (Wk.sel2 [] kr kr kr trivial ⟨lu kr kr, trivial⟩)
  refine Sem.ret ?_
  have hq := Option.some.inj h; subst hq
  exact ⟨⟨Fr 30 [(6, .v (.int .i64 v4))], []⟩, (Wk.fr kr), .inr rfl, [.v (.int .i64 v4)], kr, kr⟩
def t_court_orderOf_1__court_by_1__court_named_1__court_plain_4 : List AV → Option AV := told cs_court_orderOf_1__court_by_1__court_named_1__court_plain_4 (fun a => court_orderOf_1__court_by_1__court_named_1__court_plain_4 a.1 a.2.1 a.2.2.1 a.2.2.2.1) er_court_orderOf_1__court_by_1__court_named_1__court_plain_4
theorem x_court_orderOf_1__court_by_1__court_named_1__court_plain_4 : XOk 154 t_court_orderOf_1__court_by_1__court_named_1__court_plain_4 := by
 refine xok_of_sem Tryz.func154 (c := cb_court_orderOf_1__court_by_1__court_named_1__court_plain_4) ?h2 ⟨Tryz.call154⟩ cs_court_orderOf_1__court_by_1__court_named_1__court_plain_4 (fun a => court_orderOf_1__court_by_1__court_named_1__court_plain_4 a.1 a.2.1 a.2.2.1 a.2.2.2.1) er_court_orderOf_1__court_by_1__court_named_1__court_plain_4 (fun a => (by show 4 ≤ 30; decide)) ?h3 ?h4
 case h2 => kernel_rfl
 case h3 => intro b; kernel_rfl
 case h4 => exact fun a b h => court_orderOf_1__court_by_1__court_named_1__court_plain_4_sem a.1 a.2.1 a.2.2.1 a.2.2.2.1 b h
/- trestle/court.plain$5$1 -/
noncomputable def cb_court_plain_5_1 : Code := codeOf Tryz.f172
def court_plain_5_1 (x0 : (List UInt8)) (x1 : Clause) : Option (Bool) :=
 (slices_Contains_string_string x1.2.2.2.1 x0).bind fun v1 =>
 some v1
def cs_court_plain_5_1 : Cs ((List UInt8) × Clause × Unit) := (csC cdS (csC (cdP cdClause) csN))
def er_court_plain_5_1 (r : Bool) : AV := cdB.enc r
theorem court_plain_5_1_sem (x0 : (List UInt8)) (x1 : Clause) (r : Bool) (h : court_plain_5_1 x0 x1 = some r) : Sem E0 ⟨none, false⟩ cb_court_plain_5_1 ⟨Fr 8 (pairs0 0 (cs_court_plain_5_1.enc (x0, x1, ()))), []⟩ fun e s' => (e = .normal ∨ e = .ret) ∧ ∃ xs, resA E0.P s'.fr s'.hp Tryz.f172.results.toList = some xs ∧ retA xs = er_court_plain_5_1 r := by
 unfold court_plain_5_1 at h
 refine Sem.wkQ (Sem.wk (s1 := ⟨Fr 8 [(0, .st x0), (1, .pe (cdClause.enc x1) 0)], []⟩) (Wk.fr kr) ?_)
 refine Sem.sq E0_ok [(0, .st x0), (1, .pe (cdClause.enc x1) 0)] [] ?_
 refine Sem.seq ?_
 obtain ⟨v1, hv1, h⟩ := Option.bind_eq_some_iff.1 h
 refine Sem.runS (s1 := ⟨Fr 8 [(3, .v (.bool v1))], []⟩) ?_ ?_
 ·refine RunS.segF (n := 8) E0_ok 3 [(5, .sl 1 (x1.2.2.2.1.map cdS.enc)), (6, .st x0)] [] kr ?_
  refine RunS.callV (caps := []) (xs := [.sl 1 (x1.2.2.2.1.map cdS.enc), .st x0]) (u := (x1.2.2.2.1, x0, ())) rfl rfl x_slices_Contains_string_string rfl (wantedA_none rfl) kr kr (Sl.cons (Sm.enc (c := (cdL 1 cdS)) (v := x1.2.2.2.1)) (Sl.cons (Sm.enc (c := cdS) (v := x0)) Sl.nil)) (.inl kr) hv1 ?_
  exact RunS.last E0_ok
 refine Sem.ret ?_
 have hq := Option.some.inj h; subst hq
 exact ⟨⟨Fr 8 [(3, .v (.bool v1))], []⟩, (Wk.fr kr), .inr rfl, [.v (.bool v1)], kr, kr⟩
def t_court_plain_5_1 : List AV → Option AV := told cs_court_plain_5_1 (fun a => court_plain_5_1 a.1 a.2.1) er_court_plain_5_1
theorem x_court_plain_5_1 : XOk 172 t_court_plain_5_1 := by
 refine xok_of_sem Tryz.func172 (c := cb_court_plain_5_1) ?h2 ⟨Tryz.call172⟩ cs_court_plain_5_1 (fun a => court_plain_5_1 a.1 a.2.1) er_court_plain_5_1 (fun a => (by show 2 ≤ 8; decide)) ?h3 ?h4
 case h2 => kernel_rfl
 case h3 => intro b; kernel_rfl
 case h4 => exact fun a b h => court_plain_5_1_sem a.1 a.2.1 b h
/- slices.IndexFunc[[]string,string] -/
noncomputable def cb_slices_IndexFunc_string_string__court_plain_5_1 : Code := codeOf Tryz.f100
def slices_IndexFunc_string_string__court_plain_5_1_l1 (x0 : (List (List UInt8))) (x1 : Clause) : Nat → Int → Option ((Unit) ⊕ (Int))
 | 0, _ => none
 | f + 1, c1 =>
  if (decide (c1 < (x0.length : Int))) = true then
  (idx x0 c1).bind fun v3 =>
  (court_plain_5_1 v3 x1).bind fun v4 =>
  if v4 = true then
  some (.inr c1)
  else
  slices_IndexFunc_string_string__court_plain_5_1_l1 x0 x1 f (wr .i64 (c1 + 1))
  else
  some (.inl ())
def slices_IndexFunc_string_string__court_plain_5_1 (x0 : (List (List UInt8))) (x1 : Clause) : Option (Int) :=
 (slices_IndexFunc_string_string__court_plain_5_1_l1 x0 x1 100000 0).bind fun r7 =>
 match r7 with
 | (.inl w8) =>
  some (-1)
 | (.inr w9) =>
  some w9
def cs_slices_IndexFunc_string_string__court_plain_5_1 : Cs ((List (List UInt8)) × Clause × Unit) := (csC (cdL 1 cdS) (csC (cdF 172 (csE (cdP cdClause)) (fun _ => rfl)) csN))
def er_slices_IndexFunc_string_string__court_plain_5_1 (r : Int) : AV := cdI.enc r
theorem slices_IndexFunc_string_string__court_plain_5_1_l1_ok (x0 : (List (List UInt8))) (x1 : Clause) : ∀ (f : Nat) (c1 : Int) (r : (Unit) ⊕ (Int)), slices_IndexFunc_string_string__court_plain_5_1_l1 x0 x1 f c1 = some r → SemN E0 ⟨none, false⟩ (pc cb_slices_IndexFunc_string_string__court_plain_5_1 [1, 0, 1, 0, 0]) f ⟨Fr 19 [(0, .sl 1 (x0.map cdS.enc)), (1, .fn 172 [] [.pe (cdClause.enc x1) 0]), (7, .v (.int .i64 (x0.length : Int))), (8, .v (.int .i64 c1))], []⟩ (fun e s => match r with
 | (.inl w) => e = (.exit 0) ∧ Wk E0 s ⟨Fr 19 [], []⟩
 | (.inr w) => e = .ret ∧ Wk E0 s ⟨Fr 19 [(4, .v (.int .i64 w))], []⟩) := by
 intro f
 induction f with
 | zero => intro c1 r h; cases h
 | succ f ih0 =>
  intro c1 r h
  have ih := fun (c1 : Int) => ih0 c1 r
  unfold slices_IndexFunc_string_string__court_plain_5_1_l1 at h
  refine SemN.succ ?_
  let p1 : Nat × AV := (8, .v (.int .i64 c1))
  let p2 : Nat × AV := (7, .v (.int .i64 (x0.length : Int)))
  let p3 : Nat × AV := (1, .fn 172 [] [.pe (cdClause.enc x1) 0])
  let p4 : Nat × AV := (0, .sl 1 (x0.map cdS.enc))
  refine Sem.sq E0_ok [p4, p3, p2, p1, (9, .v (.bool (decide (c1 < (x0.length : Int)))))] [] ?_
  refine Sem.seq ?_
  refine Sem.cond (b := (decide (c1 < (x0.length : Int)))) kr (fun hb2 => ?_) (fun hb2 => ?_)
  ·rw [if_pos hb2] at h
   refine Sem.skip ?_
   refine Sem.seq ?_
   refine Sem.block ?_
   let p5 : Nat × AV := (5, .v (.int .i64 c1))
   refine Sem.sq E0_ok [p4, p3, p5, p2, p1] [] ?_
   refine Sem.seq ?_
   obtain ⟨v3, hv3, h⟩ := Option.bind_eq_some_iff.1 h
   obtain ⟨v4, hv4, h⟩ := Option.bind_eq_some_iff.1 h
   refine Sem.runS (s1 := ⟨Fr 19 [p4, p3, p5, p2, p1, (16, .v (.bool v4))], []⟩) ?_ ?_
   ·let p6 : Nat × AV := (11, .fn 172 [] [.pe (cdClause.enc x1) 0])
    refine RunS.segF (n := 19) E0_ok 3 [p4, p3, p5, p2, p1, p6, (12, .sl 1 (x0.map cdS.enc)), (13, .v (.int .i64 c1))] [] kr ?_
    refine RunS.one E0_ok 0 rfl (op_q (wantedA_none rfl) rfl (q_indexAddr (a := .sl 1 (x0.map cdS.enc)) (b := .v (.int .i64 c1)) kr kr (ix_sl (e := cdS.enc) (el := 9) (k := 1) (ki := .i64) kr kr hv3))) ?_
    refine RunS.segF (n := 19) E0_ok 1 [p4, p3, p5, p2, p1, p6, (15, .st v3)] [] kr ?_
    refine RunS.callV (caps := [.pe (cdClause.enc x1) 0]) (xs := [.st v3]) (u := (v3, x1, ())) rfl rfl x_court_plain_5_1 rfl (wantedA_none rfl) kr kr (Sl.cons (Sm.enc (c := cdS) (v := v3)) (Sl.cons (Sm.enc (c := (cdP cdClause)) (v := x1)) Sl.nil)) (.inl kr) hv4 ?_
    exact RunS.done rfl (Wk.fr kr)
   refine Sem.cond (b := v4) kr (fun hb5 => ?_) (fun hb5 => ?_)
   ·rw [if_pos hb5] at h
    refine Sem.sq E0_ok [(4, .v (.int .i64 c1))] [] ?_
    refine Sem.ret ?_
    have hq := Option.some.inj h; subst hq
    exact ⟨rfl, (Wk.fr kr)⟩
   ·rw [if_f hb5] at h
    refine Sem.skip ?_
    let p7 : Nat × AV := (8, .v (.int .i64 (wr .i64 (c1 + 1))))
    refine Sem.rg E0_ok [p4, p3, p2, p7] [] ?_
    exact SemN.wk (s1 := ⟨Fr 19 [p4, p3, p2, p7], []⟩) (Wk.fr kr) (ih (wr .i64 (c1 + 1)) h)
  ·rw [if_f hb2] at h
   refine Sem.exit ?_
   have hq := Option.some.inj h; subst hq
   exact ⟨rfl, (Wk.fr kr)⟩
theorem slices_IndexFunc_string_string__court_plain_5_1_sem (x0 : (List (List UInt8))) (x1 : Clause) (r : Int) (h : slices_IndexFunc_string_string__court_plain_5_1 x0 x1 = some r) : Sem E0 ⟨none, false⟩ cb_slices_IndexFunc_string_string__court_plain_5_1 ⟨Fr 19 (pairs0 0 (cs_slices_IndexFunc_string_string__court_plain_5_1.enc (x0, x1, ()))), []⟩ fun e s' => (e = .normal ∨ e = .ret) ∧ ∃ xs, resA E0.P s'.fr s'.hp Tryz.f100.results.toList = some xs ∧ retA xs = er_slices_IndexFunc_string_string__court_plain_5_1 r := by
 unfold slices_IndexFunc_string_string__court_plain_5_1 at h
 let p1 : Nat × AV := (1, .fn 172 [] [.pe (cdClause.enc x1) 0])
 let p2 : Nat × AV := (0, .sl 1 (x0.map cdS.enc))
 refine Sem.wkQ (Sem.wk (s1 := ⟨Fr 19 [p2, p1], []⟩) (Wk.fr kr) ?_)
 refine Sem.sq E0_ok [p2, p1] [] ?_
 refine Sem.seq ?_
 refine Sem.seq ?_
 let p3 : Nat × AV := (8, .v (.int .i64 0))
 let p4 : Nat × AV := (7, .v (.int .i64 (x0.length : Int)))
 refine Sem.runS (s1 := ⟨Fr 19 [p2, p1, p4, p3], []⟩) ?_ ?_
 ·refine RunS.segF (n := 19) E0_ok 1 [p2, p1, (6, .sl 1 (x0.map cdS.enc))] [] kr ?_
  refine RunS.one E0_ok 0 rfl (op_q (wantedA_none rfl) rfl (q_len (a := .sl 1 (x0.map cdS.enc)) kr (len_sl (el := 9) kr))) ?_
  exact RunS.last E0_ok
 refine Sem.block ?_
 obtain ⟨r7, hr7, h⟩ := Option.bind_eq_some_iff.1 h
 refine Sem.loop (n := 100000) ?_
 rcases r7 with w8 | w9
 ·try dsimp only at h
  refine Sem.cutN (SemN.wk (s1 := ⟨Fr 19 [p2, p1, p4, p3], []⟩) (Wk.fr kr) (slices_IndexFunc_string_string__court_plain_5_1_l1_ok x0 x1 _ 0 _ hr7)) ?_
  refine Sem.sq E0_ok [(4, .v (.int .i64 (-1)))] [] ?_
  refine Sem.ret ?_
  have hq := Option.some.inj h; subst hq
  exact ⟨⟨Fr 19 [(4, .v (.int .i64 (-1)))], []⟩, (Wk.fr kr), .inr rfl, [.v (.int .i64 (-1))], kr, kr⟩
 ·try dsimp only at h
  refine Sem.cutN (SemN.wk (s1 := ⟨Fr 19 [p2, p1, p4, p3], []⟩) (Wk.fr kr) (slices_IndexFunc_string_string__court_plain_5_1_l1_ok x0 x1 _ 0 _ hr7)) ?_
  have hq := Option.some.inj h; subst hq
  exact ⟨⟨Fr 19 [(4, .v (.int .i64 w9))], []⟩, (Wk.fr kr), .inr rfl, [.v (.int .i64 w9)], kr, kr⟩
def t_slices_IndexFunc_string_string__court_plain_5_1 : List AV → Option AV := told cs_slices_IndexFunc_string_string__court_plain_5_1 (fun a => slices_IndexFunc_string_string__court_plain_5_1 a.1 a.2.1) er_slices_IndexFunc_string_string__court_plain_5_1
theorem x_slices_IndexFunc_string_string__court_plain_5_1 : XOk 100 t_slices_IndexFunc_string_string__court_plain_5_1 := by
 refine xok_of_sem Tryz.func100 (c := cb_slices_IndexFunc_string_string__court_plain_5_1) ?h2 ⟨Tryz.call100⟩ cs_slices_IndexFunc_string_string__court_plain_5_1 (fun a => slices_IndexFunc_string_string__court_plain_5_1 a.1 a.2.1) er_slices_IndexFunc_string_string__court_plain_5_1 (fun a => (by show 2 ≤ 19; decide)) ?h3 ?h4
 case h2 => kernel_rfl
 case h3 => intro b; kernel_rfl
 case h4 => exact fun a b h => slices_IndexFunc_string_string__court_plain_5_1_sem a.1 a.2.1 b h
/- slices.ContainsFunc[[]string,string] -/
noncomputable def cb_slices_ContainsFunc_string_string__court_plain_5_1 : Code := codeOf Tryz.f49
def slices_ContainsFunc_string_string__court_plain_5_1 (x0 : (List (List UInt8))) (x1 : Clause) : Option (Bool) :=
 (slices_IndexFunc_string_string__court_plain_5_1 x0 x1).bind fun v1 =>
 some (decide (v1 ≥ 0))
def cs_slices_ContainsFunc_string_string__court_plain_5_1 : Cs ((List (List UInt8)) × Clause × Unit) := (csC (cdL 1 cdS) (csC (cdF 172 (csE (cdP cdClause)) (fun _ => rfl)) csN))
def er_slices_ContainsFunc_string_string__court_plain_5_1 (r : Bool) : AV := cdB.enc r
theorem slices_ContainsFunc_string_string__court_plain_5_1_sem (x0 : (List (List UInt8))) (x1 : Clause) (r : Bool) (h : slices_ContainsFunc_string_string__court_plain_5_1 x0 x1 = some r) : Sem E0 ⟨none, false⟩ cb_slices_ContainsFunc_string_string__court_plain_5_1 ⟨Fr 9 (pairs0 0 (cs_slices_ContainsFunc_string_string__court_plain_5_1.enc (x0, x1, ()))), []⟩ fun e s' => (e = .normal ∨ e = .ret) ∧ ∃ xs, resA E0.P s'.fr s'.hp Tryz.f49.results.toList = some xs ∧ retA xs = er_slices_ContainsFunc_string_string__court_plain_5_1 r := by
 unfold slices_ContainsFunc_string_string__court_plain_5_1 at h
 let p1 : Nat × AV := (1, .fn 172 [] [.pe (cdClause.enc x1) 0])
 refine Sem.wkQ (Sem.wk (s1 := ⟨Fr 9 [(0, .sl 1 (x0.map cdS.enc)), p1], []⟩) (Wk.fr kr) ?_)
 refine Sem.sq E0_ok [(0, .sl 1 (x0.map cdS.enc)), p1] [] ?_
 refine Sem.seq ?_
 obtain ⟨v1, hv1, h⟩ := Option.bind_eq_some_iff.1 h
 let p2 : Nat × AV := (4, .v (.bool (decide (v1 ≥ 0))))
 refine Sem.runS (s1 := ⟨Fr 9 [p2], []⟩) ?_ ?_
 ·refine RunS.segF (n := 9) E0_ok 2 [(5, .sl 1 (x0.map cdS.enc)), (6, .fn 172 [] [.pe (cdClause.enc x1) 0])] [] kr ?_
  refine RunS.callV (caps := []) (xs := [.sl 1 (x0.map cdS.enc), .fn 172 [] [.pe (cdClause.enc x1) 0]]) (u := (x0, x1, ())) rfl rfl x_slices_IndexFunc_string_string__court_plain_5_1 rfl (wantedA_none rfl) kr kr (Sl.cons (Sm.enc (c := (cdL 1 cdS)) (v := x0)) (Sl.cons (Sm.fn (Sl.last (Sm.enc (c := (cdP cdClause)) (v := x1)))) Sl.nil)) (.inl kr) hv1 ?_
  exact RunS.last E0_ok
 refine Sem.ret ?_
 have hq := Option.some.inj h; subst hq
 exact ⟨⟨Fr 9 [p2], []⟩, (Wk.fr kr), .inr rfl, [.v (.bool (decide (v1 ≥ 0)))], kr, kr⟩
def t_slices_ContainsFunc_string_string__court_plain_5_1 : List AV → Option AV := told cs_slices_ContainsFunc_string_string__court_plain_5_1 (fun a => slices_ContainsFunc_string_string__court_plain_5_1 a.1 a.2.1) er_slices_ContainsFunc_string_string__court_plain_5_1
theorem x_slices_ContainsFunc_string_string__court_plain_5_1 : XOk 49 t_slices_ContainsFunc_string_string__court_plain_5_1 := by
 refine xok_of_sem Tryz.func49 (c := cb_slices_ContainsFunc_string_string__court_plain_5_1) ?h2 ⟨Tryz.call49⟩ cs_slices_ContainsFunc_string_string__court_plain_5_1 (fun a => slices_ContainsFunc_string_string__court_plain_5_1 a.1 a.2.1) er_slices_ContainsFunc_string_string__court_plain_5_1 (fun a => (by show 2 ≤ 9; decide)) ?h3 ?h4
 case h2 => kernel_rfl
 case h3 => intro b; kernel_rfl
 case h4 => exact fun a b h => slices_ContainsFunc_string_string__court_plain_5_1_sem a.1 a.2.1 b h
/- trestle/court.plain$5 -/
noncomputable def cb_court_plain_5 : Code := codeOf Tryz.f171
def court_plain_5 (x0 : Seated) (x1 : Clause) : Option (Bool) :=
 (slices_ContainsFunc_string_string__court_plain_5_1 x0.1.2.2.2.2.2.2.2.2 x1).bind fun v1 =>
 some v1
def cs_court_plain_5 : Cs (Seated × Clause × Unit) := (csC cdSeated (csC (cdP cdClause) csN))
def er_court_plain_5 (r : Bool) : AV := cdB.enc r
theorem court_plain_5_sem (x0 : Seated) (x1 : Clause) (r : Bool) (h : court_plain_5 x0 x1 = some r) : Sem E0 ⟨none, false⟩ cb_court_plain_5 ⟨Fr 9 (pairs0 0 (cs_court_plain_5.enc (x0, x1, ()))), []⟩ fun e s' => (e = .normal ∨ e = .ret) ∧ ∃ xs, resA E0.P s'.fr s'.hp Tryz.f171.results.toList = some xs ∧ retA xs = er_court_plain_5 r := by
 unfold court_plain_5 at h
 refine Sem.wkQ (Sem.wk (s1 := ⟨Fr 9 [(0, cdSeated.enc x0), (1, .pe (cdClause.enc x1) 0)], []⟩) (Wk.fr kr) ?_)
 let p1 : Option Blk := some ⟨10, 131, [cdSeated.enc x0], false⟩
 refine Sem.sq E0_ok [(1, .pe (cdClause.enc x1) 0), (2, .pt 0 0 0)] [p1] ?_
 refine Sem.seq ?_
 obtain ⟨v1, hv1, h⟩ := Option.bind_eq_some_iff.1 h
 let p2 : Nat × AV := (3, .v (.bool v1))
 refine Sem.runS (s1 := ⟨Fr 9 [p2], []⟩) ?_ ?_
 ·refine RunS.segF (n := 9) E0_ok 4 [(6, .sl 1 (x0.1.2.2.2.2.2.2.2.2.map cdS.enc)), (7, .fn 172 [] [.pe (cdClause.enc x1) 0])] [p1] kr ?_
  refine RunS.callV (caps := []) (xs := [.sl 1 (x0.1.2.2.2.2.2.2.2.2.map cdS.enc), .fn 172 [] [.pe (cdClause.enc x1) 0]]) (u := (x0.1.2.2.2.2.2.2.2.2, x1, ())) rfl rfl x_slices_ContainsFunc_string_string__court_plain_5_1 rfl (wantedA_none rfl) kr kr (Sl.cons (Sm.enc (c := (cdL 1 cdS)) (v := x0.1.2.2.2.2.2.2.2.2)) (Sl.cons (Sm.fn (Sl.last (Sm.enc (c := (cdP cdClause)) (v := x1)))) Sl.nil)) (.inl kr) hv1 ?_
  refine RunS.segF (n := 9) E0_ok 1 [p2] [p1] kr ?_
  exact RunS.done rfl (Wk.sel2 [] kr kr kr trivial ⟨lu kr kr, trivial⟩)
 refine Sem.ret ?_
 have hq := Option.some.inj h; subst hq
 exact ⟨⟨Fr 9 [p2], []⟩, (Wk.fr kr), .inr rfl, [.v (.bool v1)], kr, kr⟩
def t_court_plain_5 : List AV → Option AV := told cs_court_plain_5 (fun a => court_plain_5 a.1 a.2.1) er_court_plain_5
theorem x_court_plain_5 : XOk 171 t_court_plain_5 := by
 refine xok_of_sem Tryz.func171 (c := cb_court_plain_5) ?h2 ⟨Tryz.call171⟩ cs_court_plain_5 (fun a => court_plain_5 a.1 a.2.1) er_court_plain_5 (fun a => (by show 2 ≤ 9; decide)) ?h3 ?h4
 case h2 => kernel_rfl
 case h3 => intro b; kernel_rfl
 case h4 => exact fun a b h => court_plain_5_sem a.1 a.2.1 b h
/- trestle/court.named$1 -/
noncomputable def cb_court_named_1__court_plain_5 : Code := codeOf Tryz.f188
def court_named_1__court_plain_5 (x0 : Seated) (x1 : Clause) (x2 : Clause) : Option (Int) :=
 (court_plain_5 x0 x1).bind fun v1 =>
 if (!(v1 == x2.2.2.1)) = true then
 some 0
 else
 some 1
def cs_court_named_1__court_plain_5 : Cs (Seated × Clause × Clause × Unit) := (csC cdSeated (csC (cdP (cdF 171 (csE (cdP cdClause)) (fun _ => rfl))) (csC (cdP cdClause) csN)))
def er_court_named_1__court_plain_5 (r : Int) : AV := cdI.enc r
theorem court_named_1__court_plain_5_sem (x0 : Seated) (x1 : Clause) (x2 : Clause) (r : Int) (h : court_named_1__court_plain_5 x0 x1 x2 = some r) : Sem E0 ⟨none, false⟩ cb_court_named_1__court_plain_5 ⟨Fr 11 (pairs0 0 (cs_court_named_1__court_plain_5.enc (x0, x1, x2, ()))), []⟩ fun e s' => (e = .normal ∨ e = .ret) ∧ ∃ xs, resA E0.P s'.fr s'.hp Tryz.f188.results.toList = some xs ∧ retA xs = er_court_named_1__court_plain_5 r := by
 unfold court_named_1__court_plain_5 at h
 let p1 : Nat × AV := (2, .pe (cdClause.enc x2) 0)
 let p2 : Nat × AV := (1, .pe (.fn 171 [] [.pe (cdClause.enc x1) 0]) 0)
 refine Sem.wkQ (Sem.wk (s1 := ⟨Fr 11 [(0, cdSeated.enc x0), p2, p1], []⟩) (Wk.fr kr) ?_)
 let p3 : Option Blk := some ⟨10, 131, [cdSeated.enc x0], false⟩
 refine Sem.sq E0_ok [p2, p1, (3, .pt 0 0 0)] [p3] ?_
 refine Sem.seq ?_
 refine Sem.seq ?_
 obtain ⟨v1, hv1, h⟩ := Option.bind_eq_some_iff.1 h
 let p4 : Nat × AV := (10, .v (.bool (!(v1 == x2.2.2.1))))
 refine Sem.runDS E0_ok (s1 := ⟨Fr 11 [p4], []⟩) kr ?_ ?_
 ·refine RunDS.segF (n := 11) E0_ok 2 [p1, (5, .fn 171 [] [.pe (cdClause.enc x1) 0]), (6, cdSeated.enc x0)] [p3] kr kr ?_
  refine RunDS.callV (caps := [.pe (cdClause.enc x1) 0]) (xs := [cdSeated.enc x0]) (u := (x0, x1, ())) rfl rfl x_court_plain_5 rfl (wantedA_none rfl) kr kr (Sl.cons (Sm.enc (c := cdSeated) (v := x0)) (Sl.cons (Sm.enc (c := (cdP cdClause)) (v := x1)) Sl.nil)) kr hv1 ?_
  refine RunDS.segF (n := 11) E0_ok 3 [p4] [p3] kr kr ?_
  exact RunDS.done rfl (Wk.sel2 [] kr kr kr trivial ⟨lu kr kr, trivial⟩)
 refine Sem.cond (b := (!(v1 == x2.2.2.1))) kr (fun hb2 => ?_) (fun hb2 => ?_)
 ·rw [if_pos hb2] at h
  refine Sem.sq E0_ok [(4, .v (.int .i64 0))] [] ?_
  refine Sem.ret ?_
  have hq := Option.some.inj h; subst hq
  exact ⟨⟨Fr 11 [(4, .v (.int .i64 0))], []⟩, (Wk.fr kr), .inr rfl, [.v (.int .i64 0)], kr, kr⟩
 ·rw [if_f hb2] at h
  refine Sem.skip ?_
  refine Sem.sq E0_ok [(4, .v (.int .i64 1))] [] ?_
  refine Sem.ret ?_
  have hq := Option.some.inj h; subst hq
  exact ⟨⟨Fr 11 [(4, .v (.int .i64 1))], []⟩, (Wk.fr kr), .inr rfl, [.v (.int .i64 1)], kr, kr⟩
def t_court_named_1__court_plain_5 : List AV → Option AV := told cs_court_named_1__court_plain_5 (fun a => court_named_1__court_plain_5 a.1 a.2.1 a.2.2.1) er_court_named_1__court_plain_5
theorem x_court_named_1__court_plain_5 : XOk 188 t_court_named_1__court_plain_5 := by
 refine xok_of_sem Tryz.func188 (c := cb_court_named_1__court_plain_5) ?h2 ⟨Tryz.call188⟩ cs_court_named_1__court_plain_5 (fun a => court_named_1__court_plain_5 a.1 a.2.1 a.2.2.1) er_court_named_1__court_plain_5 (fun a => (by show 3 ≤ 11; decide)) ?h3 ?h4
 case h2 => kernel_rfl
 case h3 => intro b; kernel_rfl
 case h4 => exact fun a b h => court_named_1__court_plain_5_sem a.1 a.2.1 a.2.2.1 b h
/- trestle/court.by$1 -/
noncomputable def cb_court_by_1__court_named_1__court_plain_5 : Code := codeOf Tryz.f187
def court_by_1__court_named_1__court_plain_5 (x0 : Seated) (x1 : Seated) (x2 : Clause × Clause) : Option (Int) :=
 (court_named_1__court_plain_5 x0 x2.1 x2.2).bind fun v1 =>
 (court_named_1__court_plain_5 x1 x2.1 x2.2).bind fun v2 =>
 (cmp_Compare_int v1 v2).bind fun v3 =>
 some v3
def cs_court_by_1__court_named_1__court_plain_5 : Cs (Seated × Seated × (Clause × Clause) × Unit) := (csC cdSeated (csC cdSeated (csC (cdP (cdF 188 (csC (cdP (cdF 171 (csE (cdP cdClause)) (fun _ => rfl))) (csE (cdP cdClause))) (fun _ => rfl))) csN)))
def er_court_by_1__court_named_1__court_plain_5 (r : Int) : AV := cdI.enc r
theorem court_by_1__court_named_1__court_plain_5_sem (x0 : Seated) (x1 : Seated) (x2 : Clause × Clause) (r : Int) (h : court_by_1__court_named_1__court_plain_5 x0 x1 x2 = some r) : Sem E0 ⟨none, false⟩ cb_court_by_1__court_named_1__court_plain_5 ⟨Fr 13 (pairs0 0 (cs_court_by_1__court_named_1__court_plain_5.enc (x0, x1, x2, ()))), []⟩ fun e s' => (e = .normal ∨ e = .ret) ∧ ∃ xs, resA E0.P s'.fr s'.hp Tryz.f187.results.toList = some xs ∧ retA xs = er_court_by_1__court_named_1__court_plain_5 r := by
 unfold court_by_1__court_named_1__court_plain_5 at h
 let p1 : Nat × AV := (2, .pe (.fn 188 [] [.pe (.fn 171 [] [.pe (cdClause.enc x2.1) 0]) 0, .pe (cdClause.enc x2.2) 0]) 0)
 refine Sem.wkQ (Sem.wk (s1 := ⟨Fr 13 [(0, cdSeated.enc x0), (1, cdSeated.enc x1), p1], []⟩) (Wk.fr kr) ?_)
 let p2 : Option Blk := some ⟨10, 131, [cdSeated.enc x1], false⟩
 let p3 : Option Blk := some ⟨10, 131, [cdSeated.enc x0], false⟩
 refine Sem.sq E0_ok [p1, (3, .pt 0 0 0), (4, .pt 1 0 0)] [p3, p2] ?_
 refine Sem.seq ?_
 obtain ⟨v1, hv1, h⟩ := Option.bind_eq_some_iff.1 h
 obtain ⟨v2, hv2, h⟩ := Option.bind_eq_some_iff.1 h
 obtain ⟨v3, hv3, h⟩ := Option.bind_eq_some_iff.1 h
 let p4 : Nat × AV := (5, .v (.int .i64 v3))
 refine Sem.runDS E0_ok (s1 := ⟨Fr 13 [p4], []⟩) kr ?_ ?_
 ·refine RunDS.segF (n := 13) E0_ok 2 [p1, (4, .pt 1 0 0), (6, .fn 188 [] [.pe (.fn 171 [] [.pe (cdClause.enc x2.1) 0]) 0, .pe (cdClause.enc x2.2) 0]), (7, cdSeated.enc x0)] [p3, p2] kr kr ?_
  refine RunDS.callV (caps := [.pe (.fn 171 [] [.pe (cdClause.enc x2.1) 0]) 0, .pe (cdClause.enc x2.2) 0]) (xs := [cdSeated.enc x0]) (u := (x0, x2.1, x2.2, ())) rfl rfl x_court_named_1__court_plain_5 rfl (wantedA_none rfl) kr kr (Sl.cons (Sm.enc (c := cdSeated) (v := x0)) (Sl.cons (Sm.enc (c := (cdP (cdF 171 (csE (cdP cdClause)) (fun _ => rfl)))) (v := x2.1)) (Sl.cons (Sm.enc (c := (cdP cdClause)) (v := x2.2)) Sl.nil))) kr hv1 ?_
  refine RunDS.segF (n := 13) E0_ok 2 [(8, .v (.int .i64 v1)), (9, .fn 188 [] [.pe (.fn 171 [] [.pe (cdClause.enc x2.1) 0]) 0, .pe (cdClause.enc x2.2) 0]), (10, cdSeated.enc x1)] [p3, p2] kr kr ?_
  refine RunDS.callV (caps := [.pe (.fn 171 [] [.pe (cdClause.enc x2.1) 0]) 0, .pe (cdClause.enc x2.2) 0]) (xs := [cdSeated.enc x1]) (u := (x1, x2.1, x2.2, ())) rfl rfl x_court_named_1__court_plain_5 rfl (wantedA_none rfl) kr kr (Sl.cons (Sm.enc (c := cdSeated) (v := x1)) (Sl.cons (Sm.enc (c := (cdP (cdF 171 (csE (cdP cdClause)) (fun _ => rfl)))) (v := x2.1)) (Sl.cons (Sm.enc (c := (cdP cdClause)) (v := x2.2)) Sl.nil))) kr hv2 ?_
  refine RunDS.callV (caps := []) (xs := [.v (.int .i64 v1), .v (.int .i64 v2)]) (u := (v1, v2, ())) rfl rfl x_cmp_Compare_int rfl (wantedA_none rfl) kr kr (Sl.cons (Sm.enc (c := cdI) (v := v1)) (Sl.cons (Sm.enc (c := cdI) (v := v2)) Sl.nil)) kr hv3 ?_
  refine RunDS.segF (n := 13) E0_ok 1 [p4] [p3, p2] kr kr ?_
  exact RunDS.done rfl (Wk.sel2 [] kr kr kr trivial ⟨lu kr kr, trivial⟩)
 refine Sem.ret ?_
 have hq := Option.some.inj h; subst hq
 exact ⟨⟨Fr 13 [p4], []⟩, (Wk.fr kr), .inr rfl, [.v (.int .i64 v3)], kr, kr⟩
def t_court_by_1__court_named_1__court_plain_5 : List AV → Option AV := told cs_court_by_1__court_named_1__court_plain_5 (fun a => court_by_1__court_named_1__court_plain_5 a.1 a.2.1 a.2.2.1) er_court_by_1__court_named_1__court_plain_5
theorem x_court_by_1__court_named_1__court_plain_5 : XOk 187 t_court_by_1__court_named_1__court_plain_5 := by
 refine xok_of_sem Tryz.func187 (c := cb_court_by_1__court_named_1__court_plain_5) ?h2 ⟨Tryz.call187⟩ cs_court_by_1__court_named_1__court_plain_5 (fun a => court_by_1__court_named_1__court_plain_5 a.1 a.2.1 a.2.2.1) er_court_by_1__court_named_1__court_plain_5 (fun a => (by show 3 ≤ 13; decide)) ?h3 ?h4
 case h2 => kernel_rfl
 case h3 => intro b; kernel_rfl
 case h4 => exact fun a b h => court_by_1__court_named_1__court_plain_5_sem a.1 a.2.1 a.2.2.1 b h
/- trestle/court.orderOf$1 -/
noncomputable def cb_court_orderOf_1__court_by_1__court_named_1__court_plain_5 : Code := codeOf Tryz.f154
def court_orderOf_1__court_by_1__court_named_1__court_plain_5 (x0 : Seated) (x1 : Seated) (x2 : Clause) (x3 : Clause × Clause) : Option (Int) :=
 (if (!(x2.2.1 == [])) = true then if (!(x0.1.2.1 == x2.2.1)) = true then some true else some (!(x1.1.2.1 == x2.2.1)) else some false).bind fun j2 =>
 if j2 = true then
 some 0
 else
 (court_by_1__court_named_1__court_plain_5 x0 x1 x3).bind fun v4 =>
 some v4
def cs_court_orderOf_1__court_by_1__court_named_1__court_plain_5 : Cs (Seated × Seated × Clause × (Clause × Clause) × Unit) := (csC cdSeated (csC cdSeated (csC (cdP cdClause) (csC (cdP (cdF 187 (csE (cdP (cdF 188 (csC (cdP (cdF 171 (csE (cdP cdClause)) (fun _ => rfl))) (csE (cdP cdClause))) (fun _ => rfl)))) (fun _ => rfl))) csN))))
def er_court_orderOf_1__court_by_1__court_named_1__court_plain_5 (r : Int) : AV := cdI.enc r
theorem court_orderOf_1__court_by_1__court_named_1__court_plain_5_sem (x0 : Seated) (x1 : Seated) (x2 : Clause) (x3 : Clause × Clause) (r : Int) (h : court_orderOf_1__court_by_1__court_named_1__court_plain_5 x0 x1 x2 x3 = some r) : Sem E0 ⟨none, false⟩ cb_court_orderOf_1__court_by_1__court_named_1__court_plain_5 ⟨Fr 30 (pairs0 0 (cs_court_orderOf_1__court_by_1__court_named_1__court_plain_5.enc (x0, x1, x2, x3, ()))), []⟩ fun e s' => (e = .normal ∨ e = .ret) ∧ ∃ xs, resA E0.P s'.fr s'.hp Tryz.f154.results.toList = some xs ∧ retA xs = er_court_orderOf_1__court_by_1__court_named_1__court_plain_5 r := by
 unfold court_orderOf_1__court_by_1__court_named_1__court_plain_5 at h
 refine Sem.wkQ (Sem.wk (s1 := ⟨Fr 30 [(0, cdSeated.enc x0), (1, cdSeated.enc x1), (2, .pe (cdClause.enc x2) 0), (3, .pe (.fn 187 [] [.pe (.fn 188 [] [.pe (.fn 171 [] [.pe (cdClause.enc x3.1) 0]) 0, .pe (cdClause.enc x3.2) 0]) 0]) 0)], []⟩) (Wk.fr kr) ?_)
 refine Sem.sq E0_ok [(2, .pe (cdClause.enc x2) 0), (3, .pe (.fn 187 [] [.pe (.fn 188 [] [.pe (.fn 171 [] [.pe (cdClause.enc x3.1) 0]) 0, .pe (cdClause.enc x3.2) 0]) 0]) 0), (4, .pt 0 0 0), (5, .pt 1 0 0)] [some ⟨10, 131, [cdSeated.enc x0], false⟩, some ⟨10, 131, [cdSeated.enc x1], false⟩] ?_
 refine Sem.seq ?_
 refine Sem.seq ?_
 obtain ⟨j2, hj2, h⟩ := Option.bind_eq_some_iff.1 h
 refine Sem.runS (s1 := ⟨Fr 30 [(3, .pe (.fn 187 [] [.pe (.fn 188 [] [.pe (.fn 171 [] [.pe (cdClause.enc x3.1) 0]) 0, .pe (cdClause.enc x3.2) 0]) 0]) 0), (4, .pt 0 0 0), (5, .pt 1 0 0), (25, .v (.bool j2))], [some ⟨10, 131, [cdSeated.enc x0], false⟩, some ⟨10, 131, [cdSeated.enc x1], false⟩]⟩) ?_ ?_
 ·refine RunS.segF (n := 30) E0_ok 4 [(2, .pe (cdClause.enc x2) 0), (3, .pe (.fn 187 [] [.pe (.fn 188 [] [.pe (.fn 171 [] [.pe (cdClause.enc x3.1) 0]) 0, .pe (cdClause.enc x3.2) 0]) 0]) 0), (4, .pt 0 0 0), (5, .pt 1 0 0), (10, .v (.bool (!(x2.2.1 == []))))] [some ⟨10, 131, [cdSeated.enc x0], false⟩, some ⟨10, 131, [cdSeated.enc x1], false⟩] kr ?_
  rcases Bool.eq_false_or_eq_true (!(x2.2.1 == [])) with hc5 | hc5
  ·rw [if_pos hc5] at hj2
   rw [hc5]
   refine RunS.segF (n := 30) E0_ok 7 [(2, .pe (cdClause.enc x2) 0), (3, .pe (.fn 187 [] [.pe (.fn 188 [] [.pe (.fn 171 [] [.pe (cdClause.enc x3.1) 0]) 0, .pe (cdClause.enc x3.2) 0]) 0]) 0), (4, .pt 0 0 0), (5, .pt 1 0 0), (10, .v (.bool true)), (17, .v (.bool (!(x0.1.2.1 == x2.2.1))))] [some ⟨10, 131, [cdSeated.enc x0], false⟩, some ⟨10, 131, [cdSeated.enc x1], false⟩] kr ?_
   rcases Bool.eq_false_or_eq_true (!(x0.1.2.1 == x2.2.1)) with hc6 | hc6
   ·rw [if_pos hc6] at hj2
    rw [hc6]
    refine RunS.segF (n := 30) E0_ok 8 [(3, .pe (.fn 187 [] [.pe (.fn 188 [] [.pe (.fn 171 [] [.pe (cdClause.enc x3.1) 0]) 0, .pe (cdClause.enc x3.2) 0]) 0]) 0), (4, .pt 0 0 0), (5, .pt 1 0 0), (25, .v (.bool true))] [some ⟨10, 131, [cdSeated.enc x0], false⟩, some ⟨10, 131, [cdSeated.enc x1], false⟩] kr ?_
    have hq := Option.some.inj hj2; subst hq
    exact RunS.done rfl (Wk.sel2 [0, 1] kr kr kr ⟨⟨_, rfl, bu_c kr kr⟩, ⟨_, rfl, bu_c kr kr⟩, trivial⟩ ⟨lu kr kr, lu kr kr, lu kr kr, lu kr kr, trivial⟩)
   ·rw [if_f hc6] at hj2
    rw [hc6]
    refine RunS.segF (n := 30) E0_ok 8 [(3, .pe (.fn 187 [] [.pe (.fn 188 [] [.pe (.fn 171 [] [.pe (cdClause.enc x3.1) 0]) 0, .pe (cdClause.enc x3.2) 0]) 0]) 0), (4, .pt 0 0 0), (5, .pt 1 0 0), (25, .v (.bool (!(x1.1.2.1 == x2.2.1))))] [some ⟨10, 131, [cdSeated.enc x0], false⟩, some ⟨10, 131, [cdSeated.enc x1], false⟩] kr ?_
    have hq := Option.some.inj hj2; subst hq
    exact RunS.done rfl (Wk.sel2 [0, 1] kr kr kr ⟨⟨_, rfl, bu_c kr kr⟩, ⟨_, rfl, bu_c kr kr⟩, trivial⟩ ⟨lu kr kr, lu kr kr, lu kr kr, lu kr kr, trivial⟩)
  ·rw [if_f hc5] at hj2
   rw [hc5]
   refine RunS.segF (n := 30) E0_ok 15 [(3, .pe (.fn 187 [] [.pe (.fn 188 [] [.pe (.fn 171 [] [.pe (cdClause.enc x3.1) 0]) 0, .pe (cdClause.enc x3.2) 0]) 0]) 0), (4, .pt 0 0 0), (5, .pt 1 0 0), (25, .v (.bool false))] [some ⟨10, 131, [cdSeated.enc x0], false⟩, some ⟨10, 131, [cdSeated.enc x1], false⟩] kr ?_
   have hq := Option.some.inj hj2; subst hq
   exact RunS.done rfl (Wk.sel2 [0, 1] kr kr kr ⟨⟨_, rfl, bu_c kr kr⟩, ⟨_, rfl, bu_c kr kr⟩, trivial⟩ ⟨lu kr kr, lu kr kr, lu kr kr, lu kr kr, trivial⟩)
 refine Sem.cond (b := j2) kr (fun hb3 => ?_) (fun hb3 => ?_)
 ·rw [if_pos hb3] at h
  refine Sem.seq ?_
  refine Sem.runS (s1 := ⟨Fr 30 [(6, .v (.int .i64 0))], []⟩) ?_ ?_
  ·refine RunS.segF (n := 30) E0_ok 1 [(6, .v (.int .i64 0))] [some ⟨10, 131, [cdSeated.enc x0], false⟩, some ⟨10, 131, [cdSeated.enc x1], false⟩] kr ?_
   exact RunS.done rfl (Wk.sel2 [] kr kr kr trivial ⟨lu kr kr, trivial⟩)
  refine Sem.ret ?_
  have hq := Option.some.inj h; subst hq
  exact ⟨⟨Fr 30 [(6, .v (.int .i64 0))], []⟩, (Wk.fr kr), .inr rfl, [.v (.int .i64 0)], kr, kr⟩
 ·rw [if_f hb3] at h
  refine Sem.skip ?_
  refine Sem.seq ?_
  obtain ⟨v4, hv4, h⟩ := Option.bind_eq_some_iff.1 h
  refine Sem.runS (s1 := ⟨Fr 30 [(6, .v (.int .i64 v4))], []⟩) ?_ ?_
  ·refine RunS.segF (n := 30) E0_ok 3 [(26, .fn 187 [] [.pe (.fn 188 [] [.pe (.fn 171 [] [.pe (cdClause.enc x3.1) 0]) 0, .pe (cdClause.enc x3.2) 0]) 0]), (27, cdSeated.enc x0), (28, cdSeated.enc x1)] [some ⟨10, 131, [cdSeated.enc x0], false⟩, some ⟨10, 131, [cdSeated.enc x1], false⟩] kr ?_
   refine RunS.callV (caps := [.pe (.fn 188 [] [.pe (.fn 171 [] [.pe (cdClause.enc x3.1) 0]) 0, .pe (cdClause.enc x3.2) 0]) 0]) (xs := [cdSeated.enc x0, cdSeated.enc x1]) (u := (x0, x1, x3, ())) rfl rfl x_court_by_1__court_named_1__court_plain_5 rfl (wantedA_none rfl) kr kr (Sl.cons (Sm.enc (c := cdSeated) (v := x0)) (Sl.cons (Sm.enc (c := cdSeated) (v := x1)) (Sl.cons (Sm.enc (c := (cdP (cdF 188 (csC (cdP (cdF 171 (csE (cdP cdClause)) (fun _ => rfl))) (csE (cdP cdClause))) (fun _ => rfl)))) (v := x3)) Sl.nil))) (.inl kr) hv4 ?_
   refine RunS.segF (n := 30) E0_ok 1 [(6, .v (.int .i64 v4))] [some ⟨10, 131, [cdSeated.enc x0], false⟩, some ⟨10, 131, [cdSeated.enc x1], false⟩] kr ?_
   exact RunS.done rfl (Wk.sel2 [] kr kr kr trivial ⟨lu kr kr, trivial⟩)
  refine Sem.ret ?_
  have hq := Option.some.inj h; subst hq
  exact ⟨⟨Fr 30 [(6, .v (.int .i64 v4))], []⟩, (Wk.fr kr), .inr rfl, [.v (.int .i64 v4)], kr, kr⟩
def t_court_orderOf_1__court_by_1__court_named_1__court_plain_5 : List AV → Option AV := told cs_court_orderOf_1__court_by_1__court_named_1__court_plain_5 (fun a => court_orderOf_1__court_by_1__court_named_1__court_plain_5 a.1 a.2.1 a.2.2.1 a.2.2.2.1) er_court_orderOf_1__court_by_1__court_named_1__court_plain_5
theorem x_court_orderOf_1__court_by_1__court_named_1__court_plain_5 : XOk 154 t_court_orderOf_1__court_by_1__court_named_1__court_plain_5 := by
 refine xok_of_sem Tryz.func154 (c := cb_court_orderOf_1__court_by_1__court_named_1__court_plain_5) ?h2 ⟨Tryz.call154⟩ cs_court_orderOf_1__court_by_1__court_named_1__court_plain_5 (fun a => court_orderOf_1__court_by_1__court_named_1__court_plain_5 a.1 a.2.1 a.2.2.1 a.2.2.2.1) er_court_orderOf_1__court_by_1__court_named_1__court_plain_5 (fun a => (by show 4 ≤ 30; decide)) ?h3 ?h4
 case h2 => kernel_rfl
 case h3 => intro b; kernel_rfl
 case h4 => exact fun a b h => court_orderOf_1__court_by_1__court_named_1__court_plain_5_sem a.1 a.2.1 a.2.2.1 a.2.2.2.1 b h
/- trestle/court.plain$6 -/
noncomputable def cb_court_plain_6 : Code := codeOf Tryz.f173
def court_plain_6 (x0 : Seated) (x1 : Clause) : Option (Bool) :=
 (slices_Contains_string_string x1.2.2.2.1 x0.1.2.2.1).bind fun v1 =>
 some v1
def cs_court_plain_6 : Cs (Seated × Clause × Unit) := (csC cdSeated (csC (cdP cdClause) csN))
def er_court_plain_6 (r : Bool) : AV := cdB.enc r
theorem court_plain_6_sem (x0 : Seated) (x1 : Clause) (r : Bool) (h : court_plain_6 x0 x1 = some r) : Sem E0 ⟨none, false⟩ cb_court_plain_6 ⟨Fr 10 (pairs0 0 (cs_court_plain_6.enc (x0, x1, ()))), []⟩ fun e s' => (e = .normal ∨ e = .ret) ∧ ∃ xs, resA E0.P s'.fr s'.hp Tryz.f173.results.toList = some xs ∧ retA xs = er_court_plain_6 r := by
 unfold court_plain_6 at h
 refine Sem.wkQ (Sem.wk (s1 := ⟨Fr 10 [(0, cdSeated.enc x0), (1, .pe (cdClause.enc x1) 0)], []⟩) (Wk.fr kr) ?_)
 let p1 : Option Blk := some ⟨10, 131, [cdSeated.enc x0], false⟩
 refine Sem.sq E0_ok [(1, .pe (cdClause.enc x1) 0), (2, .pt 0 0 0)] [p1] ?_
 refine Sem.seq ?_
 obtain ⟨v1, hv1, h⟩ := Option.bind_eq_some_iff.1 h
 let p2 : Nat × AV := (3, .v (.bool v1))
 refine Sem.runS (s1 := ⟨Fr 10 [p2], []⟩) ?_ ?_
 ·refine RunS.segF (n := 10) E0_ok 5 [(5, .sl 1 (x1.2.2.2.1.map cdS.enc)), (8, .st x0.1.2.2.1)] [p1] kr ?_
  refine RunS.callV (caps := []) (xs := [.sl 1 (x1.2.2.2.1.map cdS.enc), .st x0.1.2.2.1]) (u := (x1.2.2.2.1, x0.1.2.2.1, ())) rfl rfl x_slices_Contains_string_string rfl (wantedA_none rfl) kr kr (Sl.cons (Sm.enc (c := (cdL 1 cdS)) (v := x1.2.2.2.1)) (Sl.cons (Sm.enc (c := cdS) (v := x0.1.2.2.1)) Sl.nil)) (.inl kr) hv1 ?_
  refine RunS.segF (n := 10) E0_ok 1 [p2] [p1] kr ?_
  exact RunS.done rfl (Wk.sel2 [] kr kr kr trivial ⟨lu kr kr, trivial⟩)
 refine Sem.ret ?_
 have hq := Option.some.inj h; subst hq
 exact ⟨⟨Fr 10 [p2], []⟩, (Wk.fr kr), .inr rfl, [.v (.bool v1)], kr, kr⟩
def t_court_plain_6 : List AV → Option AV := told cs_court_plain_6 (fun a => court_plain_6 a.1 a.2.1) er_court_plain_6
theorem x_court_plain_6 : XOk 173 t_court_plain_6 := by
 refine xok_of_sem Tryz.func173 (c := cb_court_plain_6) ?h2 ⟨Tryz.call173⟩ cs_court_plain_6 (fun a => court_plain_6 a.1 a.2.1) er_court_plain_6 (fun a => (by show 2 ≤ 10; decide)) ?h3 ?h4
 case h2 => kernel_rfl
 case h3 => intro b; kernel_rfl
 case h4 => exact fun a b h => court_plain_6_sem a.1 a.2.1 b h
/- trestle/court.named$1 -/
noncomputable def cb_court_named_1__court_plain_6 : Code := codeOf Tryz.f188
def court_named_1__court_plain_6 (x0 : Seated) (x1 : Clause) (x2 : Clause) : Option (Int) :=
 (court_plain_6 x0 x1).bind fun v1 =>
 if (!(v1 == x2.2.2.1)) = true then
 some 0
 else
 some 1
def cs_court_named_1__court_plain_6 : Cs (Seated × Clause × Clause × Unit) := (csC cdSeated (csC (cdP (cdF 173 (csE (cdP cdClause)) (fun _ => rfl))) (csC (cdP cdClause) csN)))
def er_court_named_1__court_plain_6 (r : Int) : AV := cdI.enc r
theorem court_named_1__court_plain_6_sem (x0 : Seated) (x1 : Clause) (x2 : Clause) (r : Int) (h : court_named_1__court_plain_6 x0 x1 x2 = some r) : Sem E0 ⟨none, false⟩ cb_court_named_1__court_plain_6 ⟨Fr 11 (pairs0 0 (cs_court_named_1__court_plain_6.enc (x0, x1, x2, ()))), []⟩ fun e s' => (e = .normal ∨ e = .ret) ∧ ∃ xs, resA E0.P s'.fr s'.hp Tryz.f188.results.toList = some xs ∧ retA xs = er_court_named_1__court_plain_6 r := by
 unfold court_named_1__court_plain_6 at h
 let p1 : Nat × AV := (2, .pe (cdClause.enc x2) 0)
 let p2 : Nat × AV := (1, .pe (.fn 173 [] [.pe (cdClause.enc x1) 0]) 0)
 refine Sem.wkQ (Sem.wk (s1 := ⟨Fr 11 [(0, cdSeated.enc x0), p2, p1], []⟩) (Wk.fr kr) ?_)
 let p3 : Option Blk := some ⟨10, 131, [cdSeated.enc x0], false⟩
 refine Sem.sq E0_ok [p2, p1, (3, .pt 0 0 0)] [p3] ?_
 refine Sem.seq ?_
 refine Sem.seq ?_
 obtain ⟨v1, hv1, h⟩ := Option.bind_eq_some_iff.1 h
 let p4 : Nat × AV := (10, .v (.bool (!(v1 == x2.2.2.1))))
 refine Sem.runDS E0_ok (s1 := ⟨Fr 11 [p4], []⟩) kr ?_ ?_
 ·refine RunDS.segF (n := 11) E0_ok 2 [p1, (5, .fn 173 [] [.pe (cdClause.enc x1) 0]), (6, cdSeated.enc x0)] [p3] kr kr ?_
  refine RunDS.callV (caps := [.pe (cdClause.enc x1) 0]) (xs := [cdSeated.enc x0]) (u := (x0, x1, ())) rfl rfl x_court_plain_6 rfl (wantedA_none rfl) kr kr (Sl.cons (Sm.enc (c := cdSeated) (v := x0)) (Sl.cons (Sm.enc (c := (cdP cdClause)) (v := x1)) Sl.nil)) kr hv1 ?_
  refine RunDS.segF (n := 11) E0_ok 3 [p4] [p3] kr kr ?_
  exact RunDS.done rfl (Wk.sel2 [] kr kr kr trivial ⟨lu kr kr, trivial⟩)
 refine Sem.cond (b := (!(v1 == x2.2.2.1))) kr (fun hb2 => ?_) (fun hb2 => ?_)
 ·rw [if_pos hb2] at h
  refine Sem.sq E0_ok [(4, .v (.int .i64 0))] [] ?_
  refine Sem.ret ?_
  have hq := Option.some.inj h; subst hq
  exact ⟨⟨Fr 11 [(4, .v (.int .i64 0))], []⟩, (Wk.fr kr), .inr rfl, [.v (.int .i64 0)], kr, kr⟩
 ·rw [if_f hb2] at h
  refine Sem.skip ?_
  refine Sem.sq E0_ok [(4, .v (.int .i64 1))] [] ?_
  refine Sem.ret ?_
  have hq := Option.some.inj h; subst hq
  exact ⟨⟨Fr 11 [(4, .v (.int .i64 1))], []⟩, (Wk.fr kr), .inr rfl, [.v (.int .i64 1)], kr, kr⟩
def t_court_named_1__court_plain_6 : List AV → Option AV := told cs_court_named_1__court_plain_6 (fun a => court_named_1__court_plain_6 a.1 a.2.1 a.2.2.1) er_court_named_1__court_plain_6
theorem x_court_named_1__court_plain_6 : XOk 188 t_court_named_1__court_plain_6 := by
 refine xok_of_sem Tryz.func188 (c := cb_court_named_1__court_plain_6) ?h2 ⟨Tryz.call188⟩ cs_court_named_1__court_plain_6 (fun a => court_named_1__court_plain_6 a.1 a.2.1 a.2.2.1) er_court_named_1__court_plain_6 (fun a => (by show 3 ≤ 11; decide)) ?h3 ?h4
 case h2 => kernel_rfl
 case h3 => intro b; kernel_rfl
 case h4 => exact fun a b h => court_named_1__court_plain_6_sem a.1 a.2.1 a.2.2.1 b h
/- trestle/court.by$1 -/
noncomputable def cb_court_by_1__court_named_1__court_plain_6 : Code := codeOf Tryz.f187
def court_by_1__court_named_1__court_plain_6 (x0 : Seated) (x1 : Seated) (x2 : Clause × Clause) : Option (Int) :=
 (court_named_1__court_plain_6 x0 x2.1 x2.2).bind fun v1 =>
 (court_named_1__court_plain_6 x1 x2.1 x2.2).bind fun v2 =>
 (cmp_Compare_int v1 v2).bind fun v3 =>
 some v3
def cs_court_by_1__court_named_1__court_plain_6 : Cs (Seated × Seated × (Clause × Clause) × Unit) := (csC cdSeated (csC cdSeated (csC (cdP (cdF 188 (csC (cdP (cdF 173 (csE (cdP cdClause)) (fun _ => rfl))) (csE (cdP cdClause))) (fun _ => rfl))) csN)))
def er_court_by_1__court_named_1__court_plain_6 (r : Int) : AV := cdI.enc r
theorem court_by_1__court_named_1__court_plain_6_sem (x0 : Seated) (x1 : Seated) (x2 : Clause × Clause) (r : Int) (h : court_by_1__court_named_1__court_plain_6 x0 x1 x2 = some r) : Sem E0 ⟨none, false⟩ cb_court_by_1__court_named_1__court_plain_6 ⟨Fr 13 (pairs0 0 (cs_court_by_1__court_named_1__court_plain_6.enc (x0, x1, x2, ()))), []⟩ fun e s' => (e = .normal ∨ e = .ret) ∧ ∃ xs, resA E0.P s'.fr s'.hp Tryz.f187.results.toList = some xs ∧ retA xs = er_court_by_1__court_named_1__court_plain_6 r := by
 unfold court_by_1__court_named_1__court_plain_6 at h
 let p1 : Nat × AV := (2, .pe (.fn 188 [] [.pe (.fn 173 [] [.pe (cdClause.enc x2.1) 0]) 0, .pe (cdClause.enc x2.2) 0]) 0)
 refine Sem.wkQ (Sem.wk (s1 := ⟨Fr 13 [(0, cdSeated.enc x0), (1, cdSeated.enc x1), p1], []⟩) (Wk.fr kr) ?_)
 let p2 : Option Blk := some ⟨10, 131, [cdSeated.enc x1], false⟩
 let p3 : Option Blk := some ⟨10, 131, [cdSeated.enc x0], false⟩
 refine Sem.sq E0_ok [p1, (3, .pt 0 0 0), (4, .pt 1 0 0)] [p3, p2] ?_
 refine Sem.seq ?_
 obtain ⟨v1, hv1, h⟩ := Option.bind_eq_some_iff.1 h
 obtain ⟨v2, hv2, h⟩ := Option.bind_eq_some_iff.1 h
 obtain ⟨v3, hv3, h⟩ := Option.bind_eq_some_iff.1 h
 let p4 : Nat × AV := (5, .v (.int .i64 v3))
 refine Sem.runDS E0_ok (s1 := ⟨Fr 13 [p4], []⟩) kr ?_ ?_
 ·refine RunDS.segF (n := 13) E0_ok 2 [p1, (4, .pt 1 0 0), (6, .fn 188 [] [.pe (.fn 173 [] [.pe (cdClause.enc x2.1) 0]) 0, .pe (cdClause.enc x2.2) 0]), (7, cdSeated.enc x0)] [p3, p2] kr kr ?_
  refine RunDS.callV (caps := [.pe (.fn 173 [] [.pe (cdClause.enc x2.1) 0]) 0, .pe (cdClause.enc x2.2) 0]) (xs := [cdSeated.enc x0]) (u := (x0, x2.1, x2.2, ())) rfl rfl x_court_named_1__court_plain_6 rfl (wantedA_none rfl) kr kr (Sl.cons (Sm.enc (c := cdSeated) (v := x0)) (Sl.cons (Sm.enc (c := (cdP (cdF 173 (csE (cdP cdClause)) (fun _ => rfl)))) (v := x2.1)) (Sl.cons (Sm.enc (c := (cdP cdClause)) (v := x2.2)) Sl.nil))) kr hv1 ?_
  refine RunDS.segF (n := 13) E0_ok 2 [(8, .v (.int .i64 v1)), (9, .fn 188 [] [.pe (.fn 173 [] [.pe (cdClause.enc x2.1) 0]) 0, .pe (cdClause.enc x2.2) 0]), (10, cdSeated.enc x1)] [p3, p2] kr kr ?_
  refine RunDS.callV (caps := [.pe (.fn 173 [] [.pe (cdClause.enc x2.1) 0]) 0, .pe (cdClause.enc x2.2) 0]) (xs := [cdSeated.enc x1]) (u := (x1, x2.1, x2.2, ())) rfl rfl x_court_named_1__court_plain_6 rfl (wantedA_none rfl) kr kr (Sl.cons (Sm.enc (c := cdSeated) (v := x1)) (Sl.cons (Sm.enc (c := (cdP (cdF 173 (csE (cdP cdClause)) (fun _ => rfl)))) (v := x2.1)) (Sl.cons (Sm.enc (c := (cdP cdClause)) (v := x2.2)) Sl.nil))) kr hv2 ?_
  refine RunDS.callV (caps := []) (xs := [.v (.int .i64 v1), .v (.int .i64 v2)]) (u := (v1, v2, ())) rfl rfl x_cmp_Compare_int rfl (wantedA_none rfl) kr kr (Sl.cons (Sm.enc (c := cdI) (v := v1)) (Sl.cons (Sm.enc (c := cdI) (v := v2)) Sl.nil)) kr hv3 ?_
  refine RunDS.segF (n := 13) E0_ok 1 [p4] [p3, p2] kr kr ?_
  exact RunDS.done rfl (Wk.sel2 [] kr kr kr trivial ⟨lu kr kr, trivial⟩)
 refine Sem.ret ?_
 have hq := Option.some.inj h; subst hq
 exact ⟨⟨Fr 13 [p4], []⟩, (Wk.fr kr), .inr rfl, [.v (.int .i64 v3)], kr, kr⟩
def t_court_by_1__court_named_1__court_plain_6 : List AV → Option AV := told cs_court_by_1__court_named_1__court_plain_6 (fun a => court_by_1__court_named_1__court_plain_6 a.1 a.2.1 a.2.2.1) er_court_by_1__court_named_1__court_plain_6
theorem x_court_by_1__court_named_1__court_plain_6 : XOk 187 t_court_by_1__court_named_1__court_plain_6 := by
 refine xok_of_sem Tryz.func187 (c := cb_court_by_1__court_named_1__court_plain_6) ?h2 ⟨Tryz.call187⟩ cs_court_by_1__court_named_1__court_plain_6 (fun a => court_by_1__court_named_1__court_plain_6 a.1 a.2.1 a.2.2.1) er_court_by_1__court_named_1__court_plain_6 (fun a => (by show 3 ≤ 13; decide)) ?h3 ?h4
 case h2 => kernel_rfl
 case h3 => intro b; kernel_rfl
 case h4 => exact fun a b h => court_by_1__court_named_1__court_plain_6_sem a.1 a.2.1 a.2.2.1 b h
end Go.Proofs.YtiphapnckldpbaaGreatDoor
