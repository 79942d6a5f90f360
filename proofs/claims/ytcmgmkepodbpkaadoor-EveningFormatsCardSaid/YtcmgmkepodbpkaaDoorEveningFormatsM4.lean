/- Lemmas for the proof. -/
import Derived.Test.YtcmgmkepodbpkaaDoorEveningFormatsM1
import Derived.Test.YtcmgmkepodbpkaaDoorEveningFormatsM2
import Derived.Test.YtcmgmkepodbpkaaDoorEveningFormatsM3
import Derived.Laws.BytesArg
set_option maxHeartbeats 4000000
set_option maxRecDepth 100000
namespace Go.Proofs.YtcmgmkepodbpkaaDoor
open Go.RowKit
/- trestle/trestleref09.Check -/
noncomputable def e_ref09_Check : Env := ((E0.withX 74 t_ref09_Fit).withX 98 t_ref09_CheckEvening)
theorem e_ref09_Check_ok : EnvOk e_ref09_Check := (EnvOk.withX (EnvOk.withX E0_ok x_ref09_Fit.1 x_ref09_Fit.2) x_ref09_CheckEvening.1 x_ref09_CheckEvening.2)
noncomputable def cb_ref09_Check : Code := codeOf Tryd.f48
def ref09_Check_1 (x0 : Int) (x1 : (List Int)) (x2 : (List (List (List Int)))) : Nat → Int → Option ((Unit) ⊕ (Int × Int))
 | 0, _ => none
 | f + 1, c6 =>
  if (decide (c6 < (x2.length : Int))) = true then
  (idx x2 c6).bind fun v8 =>
  (ref09_CheckEvening x0 x1 v8).bind fun v9 =>
  if (v9 != 0) = true then
  some (.inr (c6, v9))
  else
  ref09_Check_1 x0 x1 x2 f (wr .i64 (c6 + 1))
  else
  some (.inl ())
def ref09_Check (x0 : Int) (x1 : (List Int)) (x2 : (List (List (List Int)))) : Option (Int × Int) :=
 (if (decide (x0 < 1)) = true then some true else if (decide (x0 > 64)) = true then some true else if (decide ((x1.length : Int) > 0)) = true then (ref09_Fit x0 x1).bind fun v1 =>
 some (!v1) else some false).bind fun j3 =>
 if j3 = true then
 some (0, 90)
 else
 if (decide ((x2.length : Int) > 64)) = true then
 some (0, 7)
 else
 (ref09_Check_1 x0 x1 x2 100000 0).bind fun r13 =>
 match r13 with
 | (.inl w14) =>
  some (0, 0)
 | (.inr w15) =>
  some (w15.1, w15.2)
def cs_ref09_Check : Cs (Int × (List Int) × (List (List (List Int))) × Unit) := (csC cdI (csC (cdL 1 cdI) (csC (cdL 1 (cdL 1 (cdL 1 cdI))) csN)))
def er_ref09_Check (r : Int × Int) : AV := .tp [cdI.enc r.1, cdI.enc r.2]
theorem ref09_Check_1_ok (x0 : Int) (x1 : (List Int)) (x2 : (List (List (List Int)))) : ∀ (f : Nat) (c6 : Int) (r : (Unit) ⊕ (Int × Int)), ref09_Check_1 x0 x1 x2 f c6 = some r → SemN e_ref09_Check ⟨none, false⟩ (pc cb_ref09_Check [1, 1, 1, 0, 1, 0, 0]) f ⟨Fr 47 [(0, .v (.int .i64 x0)), (1, .sl 1 (x1.map cdI.enc)), (2, .sl 1 (x2.map (cdL 1 (cdL 1 cdI)).enc)), (8, .v (.int .i64 c6))], []⟩ (fun e s => match r with
 | (.inl w) => e = (.exit 0) ∧ Wk e_ref09_Check s ⟨Fr 47 [], []⟩
 | (.inr w) => e = .ret ∧ Wk e_ref09_Check s ⟨Fr 47 [(6, .v (.int .i64 w.1)), (7, .v (.int .i64 w.2))], []⟩) := by
 have he := e_ref09_Check_ok
 intro f
 induction f with
 | zero => intro c6 r h; cases h
 | succ f ih0 =>
  intro c6 r h
  have ih := fun (c6 : Int) => ih0 c6 r
  unfold ref09_Check_1 at h
  refine SemN.succ ?_
  refine Sem.seq ?_
  refine Sem.seq ?_
  let p1 : Nat × AV := (8, .v (.int .i64 c6))
  let p2 : Nat × AV := (2, .sl 1 (x2.map (cdL 1 (cdL 1 cdI)).enc))
  let p3 : Nat × AV := (1, .sl 1 (x1.map cdI.enc))
  let p4 : Nat × AV := (0, .v (.int .i64 x0))
  refine Sem.runS (s1 := ⟨Fr 47 [p4, p3, p2, p1, (33, .v (.bool (decide (c6 < (x2.length : Int)))))], []⟩) ?_ ?_
  ·refine RunS.segF (n := 47) he 2 [p4, p3, p2, p1, (30, .v (.int .i64 c6)), (31, .sl 1 (x2.map (cdL 1 (cdL 1 cdI)).enc))] [] kr ?_
   refine RunS.one he 0 rfl (op_q (wantedA_none rfl) rfl (q_len (a := .sl 1 (x2.map (cdL 1 (cdL 1 cdI)).enc)) kr (len_sl (el := 50) kr))) ?_
   exact RunS.last he
  refine Sem.cond (b := (decide (c6 < (x2.length : Int)))) kr (fun hb7 => ?_) (fun hb7 => ?_)
  ·rw [if_pos hb7] at h
   refine Sem.skip ?_
   refine Sem.seq ?_
   refine Sem.block ?_
   refine Sem.seq ?_
   obtain ⟨v8, hv8, h⟩ := Option.bind_eq_some_iff.1 h
   obtain ⟨v9, hv9, h⟩ := Option.bind_eq_some_iff.1 h
   refine Sem.runS (s1 := ⟨Fr 47 [p4, p3, p2, p1, (9, .v (.int .i64 v9))], []⟩) ?_ ?_
   ·refine RunS.segF (n := 47) he 4 [p4, p3, p2, p1, (36, .v (.int .i64 x0)), (37, .sl 1 (x1.map cdI.enc)), (38, .sl 1 (x2.map (cdL 1 (cdL 1 cdI)).enc)), (39, .v (.int .i64 c6))] [] kr ?_
    refine RunS.one he 0 rfl (op_q (wantedA_none rfl) rfl (q_indexAddr (a := .sl 1 (x2.map (cdL 1 (cdL 1 cdI)).enc)) (b := .v (.int .i64 c6)) kr kr (ix_sl (e := (cdL 1 (cdL 1 cdI)).enc) (el := 50) (k := 1) (ki := .i64) kr kr hv8))) ?_
    refine RunS.segF (n := 47) he 1 [p4, p3, p2, p1, (36, .v (.int .i64 x0)), (37, .sl 1 (x1.map cdI.enc)), (41, .sl 1 (v8.map (cdL 1 cdI).enc))] [] kr ?_
    refine RunS.call he (fid := 98) (s := cs_ref09_CheckEvening) (F := fun a => ref09_CheckEvening a.1 a.2.1 a.2.2.1) (er := er_ref09_CheckEvening) (xs := [.v (.int .i64 x0), .sl 1 (x1.map cdI.enc), .sl 1 (v8.map (cdL 1 cdI).enc)]) (a := (x0, x1, v8, ())) rfl (wantedA_none rfl) kr kr kr kr (Sns.cons (Sn.enc (c := cdI) (v := x0)) (Sns.cons (Sn.enc (c := (cdL 1 cdI)) (v := x1)) (Sns.cons (Sn.enc (c := (cdL 1 (cdL 1 cdI))) (v := v8)) Sns.nil))) (.inl kr) hv9 ?_
    exact RunS.last he
   refine Sem.sq he [p4, p3, p2, p1, (9, .v (.int .i64 v9)), (44, .v (.bool (v9 != 0)))] [] ?_
   refine Sem.cond (b := (v9 != 0)) kr (fun hb10 => ?_) (fun hb10 => ?_)
   ·rw [if_pos hb10] at h
    refine Sem.sq he [(6, .v (.int .i64 c6)), (7, .v (.int .i64 v9))] [] ?_
    refine Sem.ret ?_
    have hq := Option.some.inj h; subst hq
    exact ⟨rfl, Wk.f1⟩
   ·rw [if_f hb10] at h
    refine Sem.skip ?_
    let p5 : Nat × AV := (8, .v (.int .i64 (wr .i64 (c6 + 1))))
    refine Sem.rg he [p4, p3, p2, p5] [] ?_
    exact SemN.wk (s1 := ⟨Fr 47 [p4, p3, p2, p5], []⟩) Wk.f1 (ih (wr .i64 (c6 + 1)) h)
  ·rw [if_f hb7] at h
   refine Sem.exit ?_
   have hq := Option.some.inj h; subst hq
   exact ⟨rfl, Wk.f1⟩
theorem ref09_Check_sem (x0 : Int) (x1 : (List Int)) (x2 : (List (List (List Int)))) (r : Int × Int) (h : ref09_Check x0 x1 x2 = some r) : Sem e_ref09_Check ⟨none, false⟩ cb_ref09_Check ⟨Fr 47 (pairs0 0 (cs_ref09_Check.enc (x0, x1, x2, ()))), []⟩ fun e s' => (e = .normal ∨ e = .ret) ∧ ∃ xs, resA e_ref09_Check.P s'.fr s'.hp Tryd.f48.results.toList = some xs ∧ retA xs = er_ref09_Check r := by
 have he := e_ref09_Check_ok
 unfold ref09_Check at h
 refine Sem.wkQ (Sem.wk (s1 := ⟨Fr 47 [(0, .v (.int .i64 x0)), (1, .sl 1 (x1.map cdI.enc)), (2, .sl 1 (x2.map (cdL 1 (cdL 1 cdI)).enc))], []⟩) Wk.f1 ?_)
 refine Sem.sq he [(0, .v (.int .i64 x0)), (1, .sl 1 (x1.map cdI.enc)), (2, .sl 1 (x2.map (cdL 1 (cdL 1 cdI)).enc))] [] ?_
 refine Sem.seq ?_
 refine Sem.seq ?_
 obtain ⟨j3, hj3, h⟩ := Option.bind_eq_some_iff.1 h
 refine Sem.runS (s1 := ⟨Fr 47 [(0, .v (.int .i64 x0)), (1, .sl 1 (x1.map cdI.enc)), (2, .sl 1 (x2.map (cdL 1 (cdL 1 cdI)).enc)), (26, .v (.bool j3))], []⟩) ?_ ?_
 ·refine RunS.segF (n := 47) he 3 [(0, .v (.int .i64 x0)), (1, .sl 1 (x1.map cdI.enc)), (2, .sl 1 (x2.map (cdL 1 (cdL 1 cdI)).enc)), (12, .v (.bool (decide (x0 < 1))))] [] kr ?_
  rcases Bool.eq_false_or_eq_true (decide (x0 < 1)) with hc16 | hc16
  ·rw [if_pos hc16] at hj3
   rw [hc16]
   refine RunS.segF (n := 47) he 14 [(0, .v (.int .i64 x0)), (1, .sl 1 (x1.map cdI.enc)), (2, .sl 1 (x2.map (cdL 1 (cdL 1 cdI)).enc)), (26, .v (.bool true))] [] kr ?_
   have hq := Option.some.inj hj3; subst hq
   exact RunS.done rfl Wk.f1
  ·rw [if_f hc16] at hj3
   rw [hc16]
   refine RunS.segF (n := 47) he 4 [(0, .v (.int .i64 x0)), (1, .sl 1 (x1.map cdI.enc)), (2, .sl 1 (x2.map (cdL 1 (cdL 1 cdI)).enc)), (16, .v (.bool (decide (x0 > 64))))] [] kr ?_
   rcases Bool.eq_false_or_eq_true (decide (x0 > 64)) with hc17 | hc17
   ·rw [if_pos hc17] at hj3
    rw [hc17]
    refine RunS.segF (n := 47) he 10 [(0, .v (.int .i64 x0)), (1, .sl 1 (x1.map cdI.enc)), (2, .sl 1 (x2.map (cdL 1 (cdL 1 cdI)).enc)), (26, .v (.bool true))] [] kr ?_
    have hq := Option.some.inj hj3; subst hq
    exact RunS.done rfl Wk.f1
   ·rw [if_f hc17] at hj3
    rw [hc17]
    refine RunS.segF (n := 47) he 1 [(0, .v (.int .i64 x0)), (1, .sl 1 (x1.map cdI.enc)), (2, .sl 1 (x2.map (cdL 1 (cdL 1 cdI)).enc)), (16, .v (.bool false)), (17, .sl 1 (x1.map cdI.enc))] [] kr ?_
    refine RunS.one he 0 rfl (op_q kr rfl (q_len (a := .sl 1 (x1.map cdI.enc)) kr (len_sl (el := 3) kr))) ?_
    refine RunS.segF (n := 47) he 2 [(0, .v (.int .i64 x0)), (1, .sl 1 (x1.map cdI.enc)), (2, .sl 1 (x2.map (cdL 1 (cdL 1 cdI)).enc)), (16, .v (.bool false)), (20, .v (.bool (decide ((x1.length : Int) > 0))))] [] kr ?_
    rcases Bool.eq_false_or_eq_true (decide ((x1.length : Int) > 0)) with hc18 | hc18
    ·rw [if_pos hc18] at hj3
     rw [hc18]
     refine RunS.segF (n := 47) he 2 [(0, .v (.int .i64 x0)), (1, .sl 1 (x1.map cdI.enc)), (2, .sl 1 (x2.map (cdL 1 (cdL 1 cdI)).enc)), (16, .v (.bool false)), (20, .v (.bool true)), (21, .v (.int .i64 x0)), (22, .sl 1 (x1.map cdI.enc))] [] kr ?_
     obtain ⟨v1, hv1, hj3⟩ := Option.bind_eq_some_iff.1 hj3
     refine RunS.call he (fid := 74) (s := cs_ref09_Fit) (F := fun a => ref09_Fit a.1 a.2.1) (er := er_ref09_Fit) (xs := [.v (.int .i64 x0), .sl 1 (x1.map cdI.enc)]) (a := (x0, x1, ())) rfl kr kr kr kr kr (Sns.cons (Sn.enc (c := cdI) (v := x0)) (Sns.cons (Sn.enc (c := (cdL 1 cdI)) (v := x1)) Sns.nil)) (.inl kr) hv1 ?_
     refine RunS.segF (n := 47) he 3 [(0, .v (.int .i64 x0)), (1, .sl 1 (x1.map cdI.enc)), (2, .sl 1 (x2.map (cdL 1 (cdL 1 cdI)).enc)), (26, .v (.bool (!v1)))] [] kr ?_
     have hq := Option.some.inj hj3; subst hq
     exact RunS.done rfl Wk.f1
    ·rw [if_f hc18] at hj3
     rw [hc18]
     refine RunS.segF (n := 47) he 6 [(0, .v (.int .i64 x0)), (1, .sl 1 (x1.map cdI.enc)), (2, .sl 1 (x2.map (cdL 1 (cdL 1 cdI)).enc)), (26, .v (.bool false))] [] kr ?_
     have hq := Option.some.inj hj3; subst hq
     exact RunS.done rfl Wk.f1
 refine Sem.cond (b := j3) kr (fun hb4 => ?_) (fun hb4 => ?_)
 ·rw [if_pos hb4] at h
  refine Sem.sq he [(6, .v (.int .i64 0)), (7, .v (.int .i64 90))] [] ?_
  refine Sem.ret ?_
  have hq := Option.some.inj h; subst hq
  exact ⟨⟨Fr 47 [(6, .v (.int .i64 0)), (7, .v (.int .i64 90))], []⟩, Wk.f1, .inr rfl, [.v (.int .i64 0), .v (.int .i64 90)], kr, kr⟩
 ·rw [if_f hb4] at h
  refine Sem.skip ?_
  refine Sem.seq ?_
  refine Sem.seq ?_
  refine Sem.runS (s1 := ⟨Fr 47 [(0, .v (.int .i64 x0)), (1, .sl 1 (x1.map cdI.enc)), (2, .sl 1 (x2.map (cdL 1 (cdL 1 cdI)).enc)), (29, .v (.bool (decide ((x2.length : Int) > 64))))], []⟩) ?_ ?_
  ·refine RunS.segF (n := 47) he 1 [(0, .v (.int .i64 x0)), (1, .sl 1 (x1.map cdI.enc)), (2, .sl 1 (x2.map (cdL 1 (cdL 1 cdI)).enc)), (27, .sl 1 (x2.map (cdL 1 (cdL 1 cdI)).enc))] [] kr ?_
   refine RunS.one he 0 rfl (op_q (wantedA_none rfl) rfl (q_len (a := .sl 1 (x2.map (cdL 1 (cdL 1 cdI)).enc)) kr (len_sl (el := 50) kr))) ?_
   exact RunS.last he
  refine Sem.cond (b := (decide ((x2.length : Int) > 64))) kr (fun hb5 => ?_) (fun hb5 => ?_)
  ·rw [if_pos hb5] at h
   refine Sem.sq he [(6, .v (.int .i64 0)), (7, .v (.int .i64 7))] [] ?_
   refine Sem.ret ?_
   have hq := Option.some.inj h; subst hq
   exact ⟨⟨Fr 47 [(6, .v (.int .i64 0)), (7, .v (.int .i64 7))], []⟩, Wk.f1, .inr rfl, [.v (.int .i64 0), .v (.int .i64 7)], kr, kr⟩
  ·rw [if_f hb5] at h
   refine Sem.skip ?_
   refine Sem.seq ?_
   refine Sem.sq he [(0, .v (.int .i64 x0)), (1, .sl 1 (x1.map cdI.enc)), (2, .sl 1 (x2.map (cdL 1 (cdL 1 cdI)).enc)), (8, .v (.int .i64 0))] [] ?_
   refine Sem.block ?_
   obtain ⟨r13, hr13, h⟩ := Option.bind_eq_some_iff.1 h
   refine Sem.loop (n := 100000) ?_
   rcases r13 with w14 | w15
   ·try dsimp only at h
    refine Sem.cutN (SemN.wk (s1 := ⟨Fr 47 [(0, .v (.int .i64 x0)), (1, .sl 1 (x1.map cdI.enc)), (2, .sl 1 (x2.map (cdL 1 (cdL 1 cdI)).enc)), (8, .v (.int .i64 0))], []⟩) Wk.f1 (ref09_Check_1_ok x0 x1 x2 _ 0 _ hr13)) ?_
    refine Sem.sq he [(6, .v (.int .i64 0)), (7, .v (.int .i64 0))] [] ?_
    refine Sem.ret ?_
    have hq := Option.some.inj h; subst hq
    exact ⟨⟨Fr 47 [(6, .v (.int .i64 0)), (7, .v (.int .i64 0))], []⟩, Wk.f1, .inr rfl, [.v (.int .i64 0), .v (.int .i64 0)], kr, kr⟩
   ·try dsimp only at h
    refine Sem.cutN (SemN.wk (s1 := ⟨Fr 47 [(0, .v (.int .i64 x0)), (1, .sl 1 (x1.map cdI.enc)), (2, .sl 1 (x2.map (cdL 1 (cdL 1 cdI)).enc)), (8, .v (.int .i64 0))], []⟩) Wk.f1 (ref09_Check_1_ok x0 x1 x2 _ 0 _ hr13)) ?_
    have hq := Option.some.inj h; subst hq
    exact ⟨⟨Fr 47 [(6, .v (.int .i64 w15.1)), (7, .v (.int .i64 w15.2))], []⟩, Wk.f1, .inr rfl, [.v (.int .i64 w15.1), .v (.int .i64 w15.2)], kr, kr⟩
def t_ref09_Check : List AV → Option AV := told cs_ref09_Check (fun a => ref09_Check a.1 a.2.1 a.2.2.1) er_ref09_Check
theorem x_ref09_Check : XOk 48 t_ref09_Check := by
 refine EnvOk.x (E := e_ref09_Check) (contract_ok e_ref09_Check_ok (fn := Tryd.f48) (c := cb_ref09_Check) ?h1 ?h2 ⟨Tryd.call48⟩ cs_ref09_Check (fun a => ref09_Check a.1 a.2.1 a.2.2.1) er_ref09_Check (fun a => (by show 3 ≤ 47; decide)) ?h3 ?h4) rfl rfl
 case h1 => kernel_rfl
 case h2 => kernel_rfl
 case h3 => intro b; kernel_rfl
 case h4 => exact fun a b h => ref09_Check_sem a.1 a.2.1 a.2.2.1 b h
/- trestle/trestleref09.Valid -/
noncomputable def e_ref09_Valid : Env := (E0.withX 48 t_ref09_Check)
theorem e_ref09_Valid_ok : EnvOk e_ref09_Valid := (EnvOk.withX E0_ok x_ref09_Check.1 x_ref09_Check.2)
noncomputable def cb_ref09_Valid : Code := codeOf Tryd.f15
def ref09_Valid (x0 : Int) (x1 : (List (List (List Int)))) : Option (Bool) :=
 (ref09_Check x0 [] x1).bind fun v1 =>
 some (v1.2 == 0)
def cs_ref09_Valid : Cs (Int × (List (List (List Int))) × Unit) := (csC cdI (csC (cdL 1 (cdL 1 (cdL 1 cdI))) csN))
def er_ref09_Valid (r : Bool) : AV := cdB.enc r
theorem ref09_Valid_sem (x0 : Int) (x1 : (List (List (List Int)))) (r : Bool) (h : ref09_Valid x0 x1 = some r) : Sem e_ref09_Valid ⟨none, false⟩ cb_ref09_Valid ⟨Fr 15 (pairs0 0 (cs_ref09_Valid.enc (x0, x1, ()))), []⟩ fun e s' => (e = .normal ∨ e = .ret) ∧ ∃ xs, resA e_ref09_Valid.P s'.fr s'.hp Tryd.f15.results.toList = some xs ∧ retA xs = er_ref09_Valid r := by
 have he := e_ref09_Valid_ok
 unfold ref09_Valid at h
 let p1 : Nat × AV := (1, .sl 1 (x1.map (cdL 1 (cdL 1 cdI)).enc))
 refine Sem.wkQ (Sem.wk (s1 := ⟨Fr 15 [(0, .v (.int .i64 x0)), p1], []⟩) Wk.f1 ?_)
 refine Sem.sq he [(0, .v (.int .i64 x0)), p1] [] ?_
 refine Sem.seq ?_
 obtain ⟨v1, hv1, h⟩ := Option.bind_eq_some_iff.1 h
 refine Sem.runS (s1 := ⟨Fr 15 [(6, .v (.int .i64 v1.2))], []⟩) ?_ ?_
 ·refine RunS.segF (n := 15) he 2 [(8, .v (.int .i64 x0)), (9, .sl 1 (x1.map (cdL 1 (cdL 1 cdI)).enc))] [] kr ?_
  refine RunS.call he (fid := 48) (s := cs_ref09_Check) (F := fun a => ref09_Check a.1 a.2.1 a.2.2.1) (er := er_ref09_Check) (xs := [.v (.int .i64 x0), .e0, .sl 1 (x1.map (cdL 1 (cdL 1 cdI)).enc)]) (a := (x0, [], x1, ())) rfl (wantedA_none rfl) kr kr kr kr (Sns.cons (Sn.enc (c := cdI) (v := x0)) (Sns.cons Sn.e0 (Sns.cons (Sn.enc (c := (cdL 1 (cdL 1 (cdL 1 cdI)))) (v := x1)) Sns.nil))) (.inl kr) hv1 ?_
  exact RunS.last he
 refine Sem.sq he [(4, .v (.bool (v1.2 == 0)))] [] ?_
 refine Sem.ret ?_
 have hq := Option.some.inj h; subst hq
 exact ⟨⟨Fr 15 [(4, .v (.bool (v1.2 == 0)))], []⟩, Wk.f1, .inr rfl, [.v (.bool (v1.2 == 0))], kr, kr⟩
def t_ref09_Valid : List AV → Option AV := told cs_ref09_Valid (fun a => ref09_Valid a.1 a.2.1) er_ref09_Valid
theorem x_ref09_Valid : XOk 15 t_ref09_Valid := by
 refine EnvOk.x (E := e_ref09_Valid) (contract_ok e_ref09_Valid_ok (fn := Tryd.f15) (c := cb_ref09_Valid) ?h1 ?h2 ⟨Tryd.call15⟩ cs_ref09_Valid (fun a => ref09_Valid a.1 a.2.1) er_ref09_Valid (fun a => (by show 2 ≤ 15; decide)) ?h3 ?h4) rfl rfl
 case h1 => kernel_rfl
 case h2 => kernel_rfl
 case h3 => intro b; kernel_rfl
 case h4 => exact fun a b h => ref09_Valid_sem a.1 a.2.1 b h
/-- Structs. -/
def cdA {α : Type} (s : Cs α) (h : ∀ x, (s.enc x).all noRf = true) : Cd α where
 enc x := .ag (s.enc x)
 dec a := match a with
  | .ag l => s.dec l
  | _ => none
 de x := s.de x
 vr := fun {w Z a x u} hd hv => by
  split at hd
  ·cases hv with
   | ag hl h1 hx =>
    have := s.vr hd ⟨hl, hx⟩
    exact .ag this.len h1 this.at_
  ·cases hd
 nr x := h x
theorem allV_id {g : AV → Option AV} : ∀ {xs : List AV}, (∀ x ∈ xs, g x = some x) → allV g xs = some xs
 | [], _ => rfl
 | x :: xs, h => by
  unfold allV
  rw [h x (by simp), allV_id fun y hy => h y (List.mem_cons_of_mem _ hy)]
theorem viewN_id0 {h : Hp} {x : AV} (hn : noRf0 x = true) : ∀ n, viewN h n x = some x
 | 0 => by
  have : noRf x = true := by cases x <;> first | exact hn | (simp [noRf0] at hn)
  unfold viewN
  rw [if_pos this]
 | n + 1 => by
  cases x <;> first | (simp [noRf0] at hn; done) | (unfold viewN; rfl)
theorem viewN_id1 {h : Hp} {x : AV} (hn : noRf x = true) (n : Nat) : viewN h (n + 1) x = some x := by
 cases x with
 | fn f p q =>
  simp only [noRf, Bool.and_eq_true] at hn
  show (match allV (viewN h n) p, allV (viewN h n) q with | some p, some q => some (AV.fn f p q) | _, _ => none) = _
  rw [allV_id (g := viewN h n) fun y hy => viewN_id0 (List.all_eq_true.1 hn.1 y hy) n, allV_id (g := viewN h n) fun y hy => viewN_id0 (List.all_eq_true.1 hn.2 y hy) n]
 | _ =>
  refine viewN_id0 ?_ (n + 1)
  exact hn
theorem viewN_id2 {h : Hp} {x : AV} (hn : noRf2 x = true) (n : Nat) : viewN h (n + 2) x = some x := by
 cases x with
 | ag cs =>
  show (allV (viewN h (n + 1)) cs).map AV.ag = _
  rw [allV_id (g := viewN h (n + 1)) fun y hy => viewN_id1 (List.all_eq_true.1 hn y hy) n]; rfl
 | _ =>
  refine viewN_id1 ?_ (n + 1)
  exact hn
/-- What a call sees of an argument. -/
def Sm {α : Type} (n : Nat) (h : Hp) (c : Cd α) (x : AV) (v : α) : Prop := ∃ y, viewN h n x = some y ∧ c.dec y = some v
def Sl {α : Type} (n : Nat) (h : Hp) (s : Cs α) (xs : List AV) (a : α) : Prop := ∃ ys, allV (viewN h n) xs = some ys ∧ s.dec ys = some a
section
variable {α β : Type} {n b k : Nat} {h : Hp} {c : Cd α} {t : TypeId}
theorem Sm.enc {v : α} : Sm (n + 2) h c (c.enc v) v := ⟨_, viewN_id2 (c.nr v) n, c.de v⟩
theorem Sm.e0 : Sm n h (cdL k c) .e0 [] := ⟨.e0, viewN_id0 rfl n, rfl⟩
theorem Sm.rl {xs : List α} (hb : h[b]? = some (some ⟨k, t, xs.map c.enc, false⟩)) : Sm (n + 3) h (cdL k c) (.rf b 0 xs.length xs.length) xs := by
 refine ⟨.sl k (xs.map c.enc), ?_, (cdL k c).de xs⟩
 unfold viewN
 simp only [hb]
 rw [if_pos (by simp), List.drop_zero, List.take_of_length_le (by simp), allV_id]
 ·rfl
 ·intro y hy
  obtain ⟨z, _, rfl⟩ := List.mem_map.1 hy
  exact viewN_id2 (c.nr z) n
theorem Sm.rf {xs : List α} {m q : Nat} (hb : h[b]? = some (some ⟨k, t, xs.map c.enc, false⟩)) (hm : m ≤ xs.length) : Sm (n + 3) h (cdL k c) (.rf b 0 m q) (xs.take m) := by
 refine ⟨.sl k ((xs.take m).map c.enc), ?_, (cdL k c).de _⟩
 unfold viewN
 simp only [hb]
 rw [if_pos (by simp; omega), List.drop_zero, ← List.map_take, allV_id]
 ·rfl
 ·intro y hy
  obtain ⟨z, _, rfl⟩ := List.mem_map.1 hy
  exact viewN_id2 (c.nr z) n
theorem Sm.hd {xs : List α} (hb : h[b]? = some (mk k t (xs.map c.enc))) : Sm (n + 3) h (cdL k c) (hd b (xs.map c.enc)) xs := by
 cases xs with
 | nil => exact .e0
 | cons x xs =>
  have := Sm.rl (n := n) (c := c) (xs := x :: xs) (b := b) (k := k) hb
  simpa [Go.Proofs.YtcmgmkepodbpkaaDoor.hd] using this
theorem Sl.nil : Sl n h csN [] () := ⟨[], rfl, rfl⟩
theorem Sl.cons {s : Cs β} {x : AV} {xs : List AV} {v : α} {a : β} (h1 : Sm n h c x v) (h2 : Sl n h s xs a) : Sl n h (csC c s) (x :: xs) (v, a) := by
 obtain ⟨y, k1, k2⟩ := h1
 obtain ⟨ys, q1, q2⟩ := h2
 refine ⟨y :: ys, ?_, ?_⟩
 ·unfold allV; rw [k1, q1]
 ·show ((c.dec y).bind fun x => (s.dec ys).map fun y => (x, y)) = _
  rw [k2, q2]; rfl
theorem Sm.ag {s : Cs α} {hn : ∀ x, (s.enc x).all noRf = true} {xs : List AV} {a : α} (h1 : Sl n h s xs a) : Sm (n + 1) h (cdA s hn) (.ag xs) a := by
 obtain ⟨ys, k1, k2⟩ := h1
 refine ⟨.ag ys, ?_, k2⟩
 show (allV (viewN h n) xs).map AV.ag = _
 rw [k1]; rfl
end
/-- A closure of a given function. -/
def cdF {α : Type} (f : FuncId) (s : Cs α) (hn : ∀ x, (s.enc x).all noRf0 = true) : Cd α where
 enc x := .fn f [] (s.enc x)
 dec a := match a with
  | .fn g [] q => if g = f then s.dec q else none
  | _ => none
 de x := by simp [s.de]
 vr := fun {w Z a x u} hd hv => by
  split at hd
  ·split at hd
   ·next e =>
    subst e
    cases hv with
    | fn hl hl' hx hy =>
     have := s.vr hd ⟨hl', hy⟩
     exact .fn hl this.len hx this.at_
   ·cases hd
  ·cases hd
 nr x := by simp [noRf2, noRf, hn]
theorem Sm.fn {α : Type} {n : Nat} {h : Hp} {f : FuncId} {s : Cs α} {hn : ∀ x, (s.enc x).all noRf0 = true} {q : List AV} {a : α} (h1 : Sl n h s q a) : Sm (n + 1) h (cdF f s hn) (.fn f [] q) a := by
 obtain ⟨ys, k1, k2⟩ := h1
 refine ⟨.fn f [] ys, ?_, ?_⟩
 ·show (match allV (viewN h n) [], allV (viewN h n) q with | some p, some q => some (AV.fn f p q) | _, _ => none) = _
  rw [k1]; rfl
 ·show (if f = f then s.dec ys else none) = _
  rw [if_pos rfl]; exact k2
section
variable {E : Env} {cx : Cx} {ops : Array Oper} {rest rest' : List Oper} {K : St → Prop} {n n0 k : Nat} {l : List (Nat × AV)} {hp : Hp} {α β : Type} {s : Cs α} {F : α → Option β} {er : β → AV} {u : α} {v : β} {fid : FuncId} {w : World} {Z : Nat → Prop} {R : List RI}
/-- A told call, in a world. -/
theorem V_ret (hX : XOk fid (told s F er)) (hh : HR w Z R hp) (hg : GI E0 w Z) {xs : List AV} {us : List Value} (hvs : VRs w Z R xs us) (hv : Sl 12 hp s xs u) (hok : flatTp (er v) = true ∨ xs.all noRf2 = true) (hF : F u = some v) :
  Ret E0.P fid us.toArray w fun x w' => ∃ Z', HR w' Z' R hp ∧ VR w' Z' R (er v) x ∧ Step w Z R hp w' Z' R hp ∧ w.grownBy w' none ∧ (flatTp (er v) = true → Z' = Z) := by
 obtain ⟨ys, h1, h2⟩ := hv
 by_cases hf : flatTp (er v) = true
 ·have hz1 : ∀ c, (Z c ∨ own R hp c) → c < w.heap.size := fun c hc => hc.elim (hh.zlt c) (fun ⟨b, B, r, h1, _, h3, h4⟩ => h4 ▸ hh.rltL h1 h3)
  have hg1 : GI E0 w (fun c => Z c ∨ own R hp c) := fun q y hy => (hg q y hy).mono (fun _ _ => rfl) (fun _ h => .inl h) (fun _ _ h => h)
  refine Ret.mono (hX.2 ys (er v) (told_dec h2 hF) w _ us hz1 hg1 (allV_vr (viewN_vr hh 12) hvs h1)) fun x w' ⟨hs, hx⟩ => ?_
  exact ⟨Z, hh.keep hs.size (fun c hc => hs.block c hc (by simp)), flat_vr hf hx, ⟨hs.os, hs.tape, hs.output, hs.size, fun c hc _ => hs.block c hc (by simp), fun _ h => .inl h, fun _ h => h, fun _ h => .inl h, fun _ _ h => h⟩, hs, fun _ => rfl⟩
 ·have hn := hok.resolve_left hf
  have e : xs = ys := Option.some.inj ((allV_id fun y hy => viewN_id2 (List.all_eq_true.1 hn y hy) 10).symm.trans h1)
  subst e
  refine Ret.mono (hX.2 xs (er v) (told_dec h2 hF) w Z us hh.zlt hg (noRfs_vr hn hvs)) fun x w' ⟨hs, hx⟩ => ?_
  obtain ⟨k1, k2⟩ := hh.addZ hs
  exact ⟨_, k1, hx.up, k2, hs, fun h => absurd h hf⟩
/-- .. at an operation. -/
theorem V_op (hP : E.P = E0.P) (hG : E.G = E0.G) {caps xs : List AV} {d : Option Nat} {f : Operand} {args : Array Operand} {tys : Array TypeId} {ty : TypeId} {pos : String} {af : Array Edge} {g : Option (Nat × Bool)} {base : Bs} {a : Act} (hX : XOk fid (told s F er)) (sr : SR E base w Z R ⟨Fr n l, hp⟩ a)
  (hf : opA E (Fr n l) f = some (.fn fid [] caps)) (ha : opds (opA E (Fr n l)) args.toList = some xs) (hv : Sl 12 hp s (xs ++ caps) u) (hok : flatTp (er v) = true ∨ (xs ++ caps).all noRf2 = true) (hF : F u = some v) {Q : Act → World → Prop}
  (kk : ∀ x w' Z', HR w' Z' R hp → VR w' Z' R (er v) x → Step w Z R hp w' Z' R hp → w.grownBy w' none → (flatTp (er v) = true → Z' = Z) → SR E base w' Z' R ⟨Fr n l, hp⟩ a → Q (a.put d x) w') : Lw E.P ⟨d, .call ⟨.value f, args, tys⟩, ty, pos, af, g⟩ a w Q := by
 have hρ : ∀ o x, opA E (Fr n l) o = some x → VR w Z R x (a.eval o) := fun o x e => opA_vr sr o x e
 have hvf := hρ _ _ hf
 have hva : ∃ uc : List Value, a.eval f = .func (.func fid) #[] uc.toArray ∧ VRs w Z R caps uc := by
  generalize a.eval f = vf at hvf
  cases hvf with
  | fn hl hl' hx hy =>
   rename_i u1 u2
   have e1 : u1 = [] := by simpa using hl
   subst e1
   exact ⟨u2, rfl, hl', hy⟩
 obtain ⟨uc, hva, huc⟩ := hva
 have hcl : Callable E.P fid := hP ▸ hX.1
 unfold Lw
 rw [run_call (uf := []) (uc := uc) rfl hva rfl hcl w]
 have hret := V_ret hX sr.hh (by have := sr.gl; exact fun q y hy => this q y (by rw [hG]; exact hy)) ((opds_vr hρ ha).append huc) hv hok hF
 rw [← hP] at hret
 simp only [List.nil_append]
 refine Ret.mono hret fun x w' ⟨Z', k1, k2, k3, k4, k5⟩ => ?_
 exact kk x w' Z' k1 k2 k3 k4 k5 (sr.step k1 k3)
theorem RunS.callV (hP : E.P = E0.P) (hG : E.G = E0.G) (hX : XOk fid (told s F er)) {caps xs : List AV} {d : Nat} {f : Operand} {args : Array Operand} {tys : Array TypeId} {ty : TypeId} {pos : String} {af : Array Edge} {g : Option (Nat × Bool)} (hr : rest = ⟨some d, .call ⟨.value f, args, tys⟩, ty, pos, af, g⟩ :: rest') (hw : wantedA ops (Fr n l) ⟨some d, .call ⟨.value f, args, tys⟩, ty, pos, af, g⟩ = some true)
  (hf : opA E (Fr n l) f = some (.fn fid [] caps)) (ha : opds (opA E (Fr n l)) args.toList = some xs) (hv : Sl 12 hp s (xs ++ caps) u) (hok : flatTp (er v) = true ∨ (xs ++ caps).all noRf2 = true) (hF : F u = some v) (kk : RunS E ops rest' ⟨Fr n ((d, er v) :: l), hp⟩ K) : RunS E ops rest ⟨Fr n l, hp⟩ K := by
 subst hr
 intro base Q a w Z R sr q
 refine lwl_loud rfl (wantedA_eq sr hw) (V_op hP hG hX sr hf ha hv hok hF fun x w' Z' k1 k2 k3 k4 k5 sr' => ?_)
 refine kk base Q _ w' Z' R ?_ fun s' a' w'' Z'' R'' hK sr'' st' => q s' a' w'' Z'' R'' hK sr'' (k3.w.trans st')
 have := sr'.put (d := some d) k2
 rwa [putA_Fr] at this
/-- What is left of a region that draws its order, of which nothing is read any more. -/
def RunDZ (E : Env) (ops : Array Oper) (k : Nat) (rest : List Oper) (s : St) (K : St → Prop) : Prop :=
 ∀ (base : Bs) (Q : Act → World → Prop) (w0 : World) (Z : Nat → Prop) (a : Act) (w : World) (R : List RI), tailAt ops ≤ ops.size → SR E base w Z R s a → w0.grownBy w none → tailAt ops = tailGo rest k → k + rest.length = ops.size → (∀ j, rest[j]? = ops[k + j]?) →
  (∀ s' a' w' Z' R', K s' → SR E base w' Z' R' s' a' → StepW w Z R s.hp w' Z' R' s'.hp → Q a' w') → wpMix E.P ops (fun w' => w0.grownBy w' none) (loudT ops (tailAt ops)) (tailAt ops) Q k rest a w
/-- From now on nothing is read. -/
theorem RunDS.z {s : St} (kk : RunDZ E ops k rest s K) : RunDS E ops n0 k rest s K :=
 fun base Q w0 Z _ _ a w R _ _ hT sr hgr st _ hTk hlen hops q => kk base Q w0 Z a w R hT sr hgr hTk hlen hops fun s' a' w' Z' R' hK sr' st' => q s' a' w' Z' R' hK sr' (st.w.trans st')
theorem RunDZ.done {s : St} (hr : rest = []) (kk : K s) : RunDZ E ops k rest s K := by
 subst hr
 exact fun base Q w0 Z a w R _ sr hgr _ _ _ q => ⟨fun _ => hgr, q s a w Z R kk sr (StepW.refl _ _ _ _)⟩
theorem RunDZ.tail {s : St} {o : Oper} (hr : rest = o :: rest') (hW : isW o.op = true) (h : RunS E ops rest s K) : RunDZ E ops k rest s K := by
 subst hr
 intro base Q w0 Z a w R hT sr hgr hTk hlen hops q
 have hTk' : tailAt ops = k := by rw [hTk]; unfold tailGo; rw [if_pos hW]
 exact lwl_mix (h base Q a w Z R sr fun s' a' w' Z' R' hK sr' st' => q s' a' w' Z' R' hK sr' st') (by omega) (fun _ => hgr) (fun j hj => loudT_or (by omega)) hops
theorem RunDZ.app (hE : EnvOk E) : ∀ {pre : List Oper} {s s1 : St} {k : Nat}, (pre.all fun o => !isW o.op && !isLd o.op) = true → opsD E (evC E 0) ⟨none, false⟩ ops n0 pre s = some s1 → RunDZ E ops (k + pre.length) rest s1 K → RunDZ E ops k (pre ++ rest) s K
 | [], s, s1, k, _, e, kk => by injection e with e; subst e; exact kk
 | o :: pre, s, s1, k, hp, e, kk => by
  intro base Q w0 Z a w R hT sr hgr hTk hlen hops q
  simp only [List.all_cons, Bool.and_eq_true, Bool.not_eq_true'] at hp
  obtain ⟨⟨hW, hLd⟩, hp⟩ := hp
  have hok : ops[k]? = some o := by have := hops 0; simpa using this.symm
  have hops' : ∀ j, (pre ++ rest)[j]? = ops[k + 1 + j]? := fun j => by have := hops (j + 1); simpa [Nat.add_assoc, Nat.add_comm 1 j] using this
  have hk1 : k + 1 + pre.length = k + (o :: pre).length := by simp; omega
  have kk' : RunDZ E ops (k + 1 + pre.length) rest s1 K := by rw [hk1]; exact kk
  have hp' : (pre.all fun o => !isW o.op && !isLd o.op) = true := by simpa using hp
  have hlen' : k + 1 + (pre ++ rest).length = ops.size := by simp at hlen ⊢; omega
  have hTk' : tailAt ops = tailGo (pre ++ rest) (k + 1) := by
   rw [hTk]
   show tailGo (o :: (pre ++ rest)) k = _
   conv => lhs; unfold tailGo; rw [if_neg (by rw [hW]; simp)]
  have hkT : ¬ tailAt ops ≤ k := by have := tailGo_ge (pre ++ rest) (k + 1); omega
  show wpMix E.P ops _ _ _ Q k (o :: (pre ++ rest)) a w
  refine ⟨fun _ => hgr, ?_⟩
  unfold opsD at e
  rw [if_neg (by rw [hW]; simp)] at e
  split at e
  ·cases e
  ·next hw =>
   rw [if_neg (by rw [wantedA_eq sr hw]; simp)]
   exact RunDZ.app hE hp' e kk' base Q w0 Z _ w R hT (sr.put undef_vr) hgr hTk' hlen' hops' q
  ·next hw =>
   rw [if_pos (wantedA_eq sr hw)]
   have hρ : ∀ o x, opA E s.fr o = some x → VR w Z R x (a.eval o) := fun o x e => opA_vr sr o x e
   split at e
   ·next x hx =>
    split at e
    ·have hq := isQ_of hx
     rw [if_neg (by rw [loudT_q hok hq hkT]; simp)]
     obtain ⟨u, hu, hrun⟩ := evOpQ_sound sr.hh hρ hx
     exact ⟨u, (fun w' _ => hrun w' fun h => by rw [hLd] at h; cases h), RunDZ.app hE hp' e kk' base Q w0 Z _ w R hT (sr.put hu) hgr hTk' hlen' hops' q⟩
    ·cases e
   ·split at e
    ·next x h' hx =>
     have hq := isQ_of_N hx
     rw [if_pos (loudT_n hok hq)]
     obtain ⟨u, w', R', h1, h2, h3, h4, h5⟩ := evOpN_sound hρ sr.hh hx
     exact lw_val h1 (RunDZ.app hE hp' e kk' base Q w0 Z _ w' R' hT ((sr.step h2 h4).put h3) (pu_trans hgr h5) hTk' hlen' hops' fun s' a' w'' Z'' R'' hK sr'' st' => q s' a' w'' Z'' R'' hK sr'' (h4.w.trans st'))
    ·split at e
     ·next f args tys ho =>
      split at e
      ·next fv xs hf hxs =>
       split at e
       ·next r hr =>
        obtain ⟨x, h'⟩ := r
        have hq : isQ o.op = false := by rw [ho]; rfl
        rw [if_pos (loudT_n hok hq)]
        obtain ⟨g, uf, uc, hva, hcl, hret⟩ := callP_sound hE (code_sound hE 0).1 (hρ _ _ hf) (opds_vr hρ hxs) sr.hh sr.gl hr
        unfold Lw
        rw [run_call (uf := uf) (uc := uc) ho hva rfl hcl w]
        refine Ret.mono hret fun v w' hS => ?_
        obtain ⟨hg1, R', k1, k2, k3⟩ := hS
        exact RunDZ.app hE hp' e kk' base Q w0 Z _ w' R' hT ((sr.step k1 k3).put k2) (pu_trans hgr hg1) hTk' hlen' hops' fun s' a' w'' Z'' R'' hK sr'' st' => q s' a' w'' Z'' R'' hK sr'' (k3.w.trans st')
       ·cases e
      ·cases e
     ·cases e
theorem RunDZ.one (hE : EnvOk E) {s s1 : St} {o : Oper} (hr : rest = o :: rest') (hW : (!isW o.op && !isLd o.op) = true) (h : opsD E (evC E 0) ⟨none, false⟩ ops n0 [o] s = some s1) (kk : RunDZ E ops (k + 1) rest' s1 K) : RunDZ E ops k rest s K := by
 subst hr
 exact RunDZ.app (k := k) hE (pre := [o]) (by simpa using hW) h kk
end
/-- A function, entered: from what its body does; the interpreter need not take it. -/
theorem ret_sem2 {E : Env} {c : Code} {Q : Ex → St → Prop} {f : FuncId} {fn : Func} {args : List AV} {h : Hp} (hff : E.P.funcs[f]? = some fn) (hc : fn.body = some c) (hle : args.length ≤ fn.ntmps)
  (hb : Sem E ⟨none, false⟩ c ⟨args.map some ++ List.replicate (fn.ntmps - args.length) (some (.tp [])), h⟩ fun e s => (e = .normal ∨ e = .ret) ∧ ∃ xs, resA E.P s.fr s.hp fn.results.toList = some xs ∧ Q .ret ⟨[some (retA xs)], s.hp⟩)
  {w : World} {Z : Nat → Prop} {R : List RI} {us : List Value} (hh : HR w Z R h) (hv : VRs w Z R args us) (hg : GI E w Z) :
  Ret E.P f us.toArray w fun v w' => ∃ Z' R' x h', Q .ret ⟨[some x], h'⟩ ∧ HR w' Z' R' h' ∧ VR w' Z' R' x v ∧ StepW w Z R h w' Z' R' h' := by
 refine callsIn_wide.1 (callsIn_of_wp_marks (F := Fw none) (n := 0) hff hc trivial ?_)
 have hul : us.length = args.length := hv.len
 have hsr : SR E (.of w.heap.size) w Z R ⟨args.map some ++ List.replicate (fn.ntmps - args.length) (some (.tp [])), h⟩ { tmps := us.toArray ++ Array.replicate (fn.ntmps - us.toArray.size) undef, defers := [] } := by
  refine ⟨hh, ⟨by simp [hul], fun t x hx => ?_⟩, rfl, hg, Nat.le_refl _⟩
  have e0 : us.toArray ++ Array.replicate (fn.ntmps - us.toArray.size) undef = (us ++ List.replicate (fn.ntmps - us.length) undef).toArray := by simp
  rw [e0, Array.getD_eq_getD_getElem?, List.getElem?_toArray]
  by_cases ht : t < args.length
  ·rw [List.getElem?_append_left (by simpa using ht), List.getElem?_map] at hx
   rw [List.getElem?_append_left (by omega)]
   cases hat : args[t]? with
   | none => rw [hat] at hx; cases hx
   | some q =>
    rw [hat] at hx
    have hx := Option.some.inj (Option.some.inj hx)
    subst hx
    obtain ⟨u, hu1, hu2⟩ := hv.get hat
    rw [hu1]; exact hu2
  ·rw [List.getElem?_append_right (by simp; omega), List.getElem?_replicate] at hx
   split at hx
   ·next hlt =>
    have hx := Option.some.inj (Option.some.inj hx)
    subst hx
    rw [List.getElem?_append_right (by omega), List.getElem?_replicate, if_pos (by rw [hul]; simpa using hlt)]
    exact .tp (us := []) rfl (fun i x u hx => by simp at hx)
   ·cases hx
 refine hb none (.of w.heap.size) _ _ w Z R (fun _ => rfl) hsr rfl fun e s' a' w' Z' R' hQ sr' st => ?_
 obtain ⟨hex, xs, hxs, hq⟩ := hQ
 have hl := leaves_mks (base := .of w.heap.size) rfl (E := E) (w := w') (a := a') (fn := fn) (S := fun v w'' => ∃ Z' R' x h', Q .ret ⟨[some x], h'⟩ ∧ HR w'' Z' R' h' ∧ VR w'' Z' R' x v ∧ StepW w Z R h w'' Z' R' h') hxs (fun w'' u g1 g2 g3 g4 g5 g6 g7 => ⟨Z', R', _, _, hq, g6, g7, ⟨g2.trans st.os, g3.trans st.tape, g4.trans st.output, by rw [g1]; exact st.size, fun c hc hn => (g5 c hc).trans (st.block c hc hn), st.own_, st.z, st.z'⟩⟩) (D := a'.defers) (w1 := w') sr' rfl rfl rfl rfl (fun _ _ => rfl)
 rcases hex with rfl | rfl
 ·exact hl
 ·exact hl
/-- A contract out of what the body does. -/
theorem xok_of_sem {f : FuncId} {fn : Func} {c : Code} (hf : E0.P.funcs[f]? = some fn) (hc : fn.body = some c) (hcall : Callable E0.P f) {α β : Type} (s : Cs α) (F : α → Option β) (er : β → AV) (hle : ∀ a, (s.enc a).length ≤ fn.ntmps) (hnr : ∀ b, noRfT (er b) = true)
  (sem : ∀ a b, F a = some b → Sem E0 ⟨none, false⟩ c ⟨Fr fn.ntmps (pairs0 0 (s.enc a)), []⟩ fun e s' => (e = .normal ∨ e = .ret) ∧ ∃ xs, resA E0.P s'.fr s'.hp fn.results.toList = some xs ∧ retA xs = er b) :
  XOk f (told s F er) := by
 refine ⟨hcall, fun xs x h w Z us hz hg hv => ?_⟩
 obtain ⟨a, ha, h⟩ := Option.bind_eq_some_iff.1 h
 obtain ⟨b, hb, rfl⟩ := Option.map_eq_some_iff.1 h
 have hh : HR w Z [] [] := ⟨rfl, fun b B hB => by simp at hB, fun b b' B B' r r' hB => by simp at hB, hz⟩
 refine Ret.mono (ret_sem2 hf hc (hle a) (Q := fun _ s => s.fr = [some (er b)]) (Sem.mono (Sem.wk (Wk.enter (hle a)) (sem a b hb)) fun e s' hs => ?_) hh (s.vr ha hv) hg) fun v w' hS => ?_
 ·obtain ⟨h1, xs, h2, h3⟩ := hs
  exact ⟨h1, xs, h2, by rw [h3]⟩
 ·obtain ⟨Z', R', x, h', hQ, k1, k2, st⟩ := hS
  have hx : x = er b := by simpa using hQ
  subst hx
  refine ⟨⟨st.os, st.tape, st.output, st.size, fun c hc _ => st.block c hc (fun ⟨b, B, r, hb, _⟩ => by simp at hb)⟩, (noRfT_vr (hnr b) k2).mono (fun _ _ => rfl) (fun c hc => ?_) (fun _ _ h => h)⟩
  rcases st.z' c hc with h1 | ⟨b, B, r, hb, _⟩ | h1
  ·exact .inl h1
  ·simp at hb
  ·exact .inr ⟨h1, k1.zlt c hc⟩
/-- The first n blocks are given up. -/
def killN : Nat → Hp → Hp
 | 0, h => h
 | n + 1, h => (killN n h).set n none
theorem killN_hr {w : World} {Z : Nat → Prop} {R : List RI} {h : Hp} (hh : HR w Z R h) : ∀ n, HR w Z R (killN n h)
 | 0 => hh
 | n + 1 => ((killN_hr hh n).kill n).1
theorem killN_get {h : Hp} : ∀ {n b : Nat} {B : Blk}, (killN n h)[b]? = some (some B) → n ≤ b ∧ h[b]? = some (some B)
 | 0, b, B, e => ⟨Nat.zero_le _, e⟩
 | n + 1, b, B, e => by
  unfold killN at e
  rw [List.getElem?_set] at e
  split at e
  ·split at e <;> cases e
  ·next hne =>
   obtain ⟨h1, h2⟩ := killN_get e
   exact ⟨by omega, h2⟩
def RunDX (E : Env) (ops : Array Oper) (T : Nat) (n0 k : Nat) (rest : List Oper) (s : St) (K : St → Prop) : Prop :=
 ∀ (base : Bs) (Q : Act → World → Prop) (w0 : World) (Z : Nat → Prop) (R0 : List RI) (h0 : Hp) (a : Act) (w : World) (R : List RI), HR w0 Z R0 h0 → n0 = h0.length → SR E base w Z R s a → w0.grownBy w none → Step w0 Z R0 h0 w Z R s.hp → (∀ (b : Nat) (B : Option Blk), h0[b]? = some B → s.hp[b]? = some B) → (∀ j, rest[j]? = ops[k + j]?) →
  (∀ s' a' w' Z' R', K s' → SR E base w' Z' R' s' a' → StepW w0 Z R0 h0 w' Z' R' s'.hp → Q a' w') → wpMix E.P ops (fun w' => w0.grownBy w' none) (loudT ops T) T Q k rest a w
section
variable {E : Env} {cx : Cx} {ops : Array Oper} {pre rest rest' : List Oper} {s s1 : St} {K : St → Prop} {n n0 k T : Nat} {l : List (Nat × AV)} {hp hp' : Hp} {Q : Ex → St → Prop} {id : Nat} {fid : FuncId}
theorem RunDX.done (hr : rest = []) (kk : K s) : RunDX E ops T n0 k rest s K := by
 subst hr
 exact fun base Q w0 Z R0 h0 a w R _ _ sr hgr st _ _ q => ⟨fun _ => hgr, q s a w Z R kk sr st.w⟩
theorem RunDX.tail (hT : T = k) (h : RunS E ops rest s K) : RunDX E ops T n0 k rest s K := by
 subst hT
 intro base Q w0 Z R0 h0 a w R _ _ sr hgr st _ hops q
 exact lwl_mix (h base Q a w Z R sr fun s' a' w' Z' R' hK sr' st' => q s' a' w' Z' R' hK sr' (st.w.trans st')) (Nat.le_refl _) (fun _ => hgr) (fun j hj => loudT_or hj) hops
theorem RunDX.app (hE : EnvOk E) : ∀ {pre : List Oper} {s : St} {k : Nat}, (pre.all fun o => !isW o.op) = true → k + pre.length ≤ T → opsD E (evC E 0) ⟨none, false⟩ ops n0 pre s = some s1 → RunDX E ops T n0 (k + pre.length) rest s1 K → RunDX E ops T n0 k (pre ++ rest) s K
 | [], s, k, _, _, e, kk => by injection e with e; subst e; exact kk
 | o :: pre, s, k, hp, hT, e, kk => by
  intro base Q w0 Z R0 h0 a w R hh0 hn0 sr hgr st hpre hops q
  simp only [List.all_cons, Bool.and_eq_true, Bool.not_eq_true'] at hp
  obtain ⟨hW, hp⟩ := hp
  have hok : ops[k]? = some o := by have := hops 0; simpa using this.symm
  have hops' : ∀ j, (pre ++ rest)[j]? = ops[k + 1 + j]? := fun j => by have := hops (j + 1); simpa [Nat.add_assoc, Nat.add_comm 1 j] using this
  have hk1 : k + 1 + pre.length = k + (o :: pre).length := by simp; omega
  have kk' : RunDX E ops T n0 (k + 1 + pre.length) rest s1 K := by rw [hk1]; exact kk
  have hT' : k + 1 + pre.length ≤ T := by rw [hk1]; exact hT
  have hkT : ¬ T ≤ k := by omega
  show wpMix E.P ops _ _ _ Q k (o :: (pre ++ rest)) a w
  refine ⟨fun _ => hgr, ?_⟩
  unfold opsD at e
  rw [if_neg (by rw [hW]; simp)] at e
  split at e
  ·cases e
  ·next hw =>
   rw [if_neg (by rw [wantedA_eq sr hw]; simp)]
   exact RunDX.app hE hp hT' e kk' base Q w0 Z R0 h0 _ w R hh0 hn0 (sr.put undef_vr) hgr st hpre hops' q
  ·next hw =>
   rw [if_pos (wantedA_eq sr hw)]
   have hρ : ∀ o x, opA E s.fr o = some x → VR w Z R x (a.eval o) := fun o x e => opA_vr sr o x e
   split at e
   ·next x hx =>
    split at e
    ·next hld =>
     have hq := isQ_of hx
     rw [if_neg (by rw [loudT_q hok hq hkT]; simp)]
     obtain ⟨u, hu, hrun⟩ := evOpQ_sound sr.hh hρ hx
     have hquiet : ∃ u, VR w Z R x u ∧ QuietAt E.P (Cf (fun w' => w0.grownBy w' none) o) o u a := by
      cases hl : isLd o.op with
      | false => exact ⟨u, hu, fun w' _ => hrun w' fun h => by rw [hl] at h; cases h⟩
      | true =>
       obtain ⟨u1, hu1, hq1⟩ := load_quiet hh0 sr hgr st hpre hl (by rw [← hn0]; exact hld) hx
       exact ⟨u1, hu1, hq1.up (free_ld hl)⟩
     obtain ⟨u, hu, hquiet⟩ := hquiet
     exact ⟨u, hquiet, RunDX.app hE hp hT' e kk' base Q w0 Z R0 h0 _ w R hh0 hn0 (sr.put hu) hgr st hpre hops' q⟩
    ·cases e
   ·split at e
    ·next x h' hx =>
     have hq := isQ_of_N hx
     rw [if_pos (loudT_n hok hq)]
     obtain ⟨u, w', R', h1, h2, h3, h4, h5⟩ := evOpN_sound hρ sr.hh hx
     exact lw_val h1 (RunDX.app hE hp hT' e kk' base Q w0 Z R0 h0 _ w' R' hh0 hn0 ((sr.step h2 h4).put h3) (pu_trans hgr h5) (st.trans h4) (fun b B hb => evOpN_pre hx (hpre b B hb)) hops' q)
    ·split at e
     ·next f args tys ho =>
      split at e
      ·next fv xs hf hxs =>
       split at e
       ·next r hr =>
        obtain ⟨x, h'⟩ := r
        have hq : isQ o.op = false := by rw [ho]; rfl
        rw [if_pos (loudT_n hok hq)]
        obtain ⟨g, uf, uc, hva, hcl, hret⟩ := callP_sound hE (code_sound hE 0).1 (hρ _ _ hf) (opds_vr hρ hxs) sr.hh sr.gl hr
        unfold Lw
        rw [run_call (uf := uf) (uc := uc) ho hva rfl hcl w]
        refine Ret.mono hret fun v w' hS => ?_
        obtain ⟨hg1, R', k1, k2, k3⟩ := hS
        exact RunDX.app hE hp hT' e kk' base Q w0 Z R0 h0 _ w' R' hh0 hn0 ((sr.step k1 k3).put k2) (pu_trans hgr hg1) (st.trans k3) (fun b B hb => callP_pre hr (hpre b B hb)) hops' q
       ·cases e
      ·cases e
     ·cases e
theorem RunDX.one (hE : EnvOk E) {s s1 : St} {o : Oper} (hr : rest = o :: rest') (hW : (!isW o.op && Nat.blt k T) = true) (h : opsD E (evC E 0) ⟨none, false⟩ ops n0 [o] s = some s1) (kk : RunDX E ops T n0 (k + 1) rest' s1 K) : RunDX E ops T n0 k rest s K := by
 subst hr
 rw [Bool.and_eq_true] at hW
 exact RunDX.app (k := k) hE (pre := [o]) (by simpa using hW.1) (by have := Nat.le_of_ble_eq_true hW.2; simpa using this) h kk
/-- An append to a block that was made in this region. -/
theorem RunDX.append (_hE : EnvOk E) {o : Oper} {x : AV} {d : Nat} {hM : Hp} (hr : rest = o :: rest') (hw : wantedA ops (Fr n l) o = some true) (hd : o.dst = some d) (hq : isQ o.op = false) (h : evOpW E.P (opA E (Fr n l)) hp o.op = some (x, hp')) (hm : evOpW E.P (opA E (Fr n l)) (killN n0 hp) o.op = some (x, hM)) (hpr : hp'.take n0 = hp.take n0) (kk : RunDX E ops T n0 (k + 1) rest' ⟨Fr n ((d, x) :: l), hp'⟩ K) : RunDX E ops T n0 k rest ⟨Fr n l, hp⟩ K := by
 subst hr
 intro base Q w0 Z R0 h0 a w R hh0 hn0 sr hgr st hpre hops q
 have hok' : ops[k]? = some o := by have := hops 0; simpa using this.symm
 have hops' : ∀ j, rest'[j]? = ops[k + 1 + j]? := fun j => by have := hops (j + 1); simpa [Nat.add_assoc, Nat.add_comm 1 j] using this
 refine ⟨fun _ => hgr, ?_⟩
 rw [if_pos (wantedA_eq sr hw), if_pos (loudT_n hok' hq)]
 have hρ : ∀ o x, opA E (Fr n l) o = some x → VR w Z R x (a.eval o) := fun o x e => opA_vr sr o x e
 obtain ⟨u, w', R', h1, h2, h3, h4⟩ := evOpW_sound (o := o) hρ sr.hh h
 obtain ⟨u2, w2, R2, g1, g2, g3, g4⟩ := evOpW_sound (o := o) hρ (killN_hr sr.hh n0) hm
 rw [h1] at g1
 injection g1 with _ e2
 subst e2
 -- the blocks of before stay
 have hown : ∀ c, own R (killN n0 hp) c → w0.heap.size ≤ c := fun c ⟨b, B, r, k1, k2, k3, k4⟩ => by
  obtain ⟨hb, k1⟩ := killN_get k1
  rcases st.own_ c ⟨b, B, r, k1, k2, k3, k4⟩ with ⟨b0, B0, r0, q1, q2, q3, q4⟩ | h
  ·have hlt : b0 < h0.length := (List.getElem?_eq_some_iff.1 q1).1
   have := sr.hh.inj b b0 B B0 r r0 k1 k2 (hpre b0 _ q1) q2 k3 (st.r b0 r0 q3) (by rw [k4, q4])
   omega
  ·exact h
 have hgr2 : w0.grownBy w' none := ⟨g4.os.trans hgr.os, g4.tape.trans hgr.tape, g4.output.trans hgr.output, Nat.le_trans hgr.size g4.size, fun c hc _ => by
  rw [g4.block c (Nat.lt_of_lt_of_le hc hgr.size) fun ho => by have := hown c ho; omega]
  exact hgr.block c hc (by simp)⟩
 refine lw_val h1 ?_
 have sr' := (sr.step h2 h4).put (d := o.dst) h3
 rw [hd, show putA (⟨Fr n l, hp⟩ : St).fr (some d) x = Fr n ((d, x) :: l) from putA_Fr n l d _] at sr'
 rw [hd]
 exact kk base Q w0 Z R0 h0 _ w' R' hh0 hn0 sr' hgr2 (st.trans h4) (fun b B hb => by
  have hlt : b < n0 := by rw [hn0]; exact (List.getElem?_eq_some_iff.1 hb).1
  have e := congrArg (fun l => l[b]?) hpr
  simp only [List.getElem?_take, hlt, if_true] at e
  show hp'[b]? = _
  rw [e]; exact hpre b B hb) hops' q
end
section
variable {P : Program} {ops : Array Oper} {C : World → Prop} {Q : Act → World → Prop} {loud : Nat → Bool} {T : Nat}
/-- What a quiet operation yields may come ahead of a loud one. -/
theorem mOp_after {n i j fuel : Nat} {oi oj : Oper} {v : Value} {listed : Array Bool} {a : Act} {w : World} (ht : TailOk ops loud T n) (hi : ops[i]? = some oi) (hoj : ops[j]? = some oj) (hsel : ∀ (j : Nat) (o : Oper) cs b, ops[j]? = some o → o.op ≠ .select cs b) (hcl : Closed ops listed) (hsz : listed.size = ops.size)
  (ap1 : ∀ d, oi.dst = some d → d ∉ oj.looksAt ops) (ap2 : ∀ d, oi.dst = some d → oj.dst ≠ some d) (ap3 : ∀ d, oj.dst = some d → d ∉ oi.looksAt ops) (hr : i ∈ Region.ready .any ops listed) (hj : j ∈ Region.ready .any ops listed) (hji : j ≠ i) (hlj : loud j = false) (hya : YieldsM P ops C oj v a)
  (H : mOp P ops C loud i (wpM P ops C loud T Q (fuel + 1) (listed.setIfInBounds i true)) a w) : mOp P ops C loud i (wpM P ops C loud T Q fuel ((listed.setIfInBounds j true).setIfInBounds i true)) (a.put oj.dst v) w := by
 have ap2' : ∀ d, oj.dst = some d → oi.dst ≠ some d := fun d hd hd' => ap2 d hd' hd
 rw [mOp_put hi ap3 ap2' (fun cs b => hsel i oi cs b hi)]
 have hG : ∀ u, YieldsM P ops C oj v (a.put oi.dst u) := fun u => hya.same (execOp_put oj (fun cs b => hsel j oj cs b hoj) a oi.dst u ap1) (wanted_put oj a oi.dst u ap1)
 have hr2 := ready_mono (md := .any) (ops := ops) hj hji
 refine mOp_mono (fun a' w'' h2 => ?_) (mOp_and hi hG H)
 obtain ⟨v', hy', h3⟩ := yields_of_mOp hoj hlj (h2.2.2.2 j hr2)
 rw [YieldsM.unique (cf_of ht (hcl.set hr) (by simpa using hsz) hoj hlj (mem_ready.1 hr2).1 h2.2.c) h2.1 hy', Array.setIfInBounds_comm _ _ hji]
 exact h3
/-- As wpM_lex, from an operation on behind which the loud ones stand in one order. -/
theorem wpM_lexG (hs : Region.noSelect ops = true) {n k0 : Nat} (hsp : ∀ k j, k0 ≤ k → k < ops.size → j < ops.size → loud k = true → loud j = true → k < j → waitsT ops n j k = true) (htl : TailOk ops loud T n) (hTl : T < ops.size → loud T = true) : ∀ (l : List Oper) (k : Nat) (listed : Array Bool) (a : Act) (w : World), k0 ≤ k → k + l.length = ops.size → (∀ j, l[j]? = ops[k + j]?) →
  Region.lexFrom .any ops l.length k listed = true → Closed ops listed → listed.size = ops.size → (∀ j, j < k → listed.getD j true = true) → wpMix P ops C loud T Q k l a w → wpM P ops C loud T Q l.length listed a w
 | [], k, listed, a, w, _, hkl, _, hB, _, _, hlt, h => by
  refine ⟨fun hn => h.1 ?_, by simpa [Region.lexFrom] using hB, h.2⟩
  rcases Nat.lt_or_ge T k with h1 | h1
  ·exfalso
   have hTs : T < ops.size := by simp at hkl; omega
   have h2 := hn T (Nat.le_refl _) hTs (hTl hTs)
   rw [hlt T h1] at h2
   cases h2
  ·exact h1
 | o :: l, k, listed, a, w, hk0, hkl, hl, hB, hcl, hsz, hlt, h => by
  have h0 : ops[k]? = some o := by simpa using (hl 0).symm
  have hk : k < ops.size := (Array.getElem?_eq_some_iff.1 h0).1
  simp only [List.length_cons, Region.lexFrom, Bool.and_eq_true] at hB
  obtain ⟨⟨hr, hf⟩, hB'⟩ := hB
  have hr' : k ∈ Region.ready .any ops listed := by simpa using hr
  have rec_ : ∀ a w, wpMix P ops C loud T Q (k + 1) l a w → wpM P ops C loud T Q l.length (listed.setIfInBounds k true) a w := fun a w hh =>
   wpM_lexG hs hsp htl hTl l (k + 1) _ a w (by omega) (by simp at hkl; omega) (fun j => by have := hl (j + 1); simpa [Nat.add_assoc, Nat.add_comm 1 j] using this) hB' (hcl.set hr') (by simpa using hsz) (fun j hj => by
    by_cases hjk : k = j
    ·subst hjk
     have hlt' : k < listed.size := by omega
     simp [hlt']
    ·rw [getD_set_ne true hjk]; exact hlt j (by omega)) hh
  obtain ⟨hC, hh⟩ := h
  have hle : Need ops loud T listed → k ≤ T := fun hn => by
   rcases Nat.lt_or_ge T k with h1 | h1
   ·exfalso
    have h2 := hn T (Nat.le_refl _) (by omega) (hTl (by omega))
    rw [hlt T h1] at h2
    cases h2
   ·exact h1
  have hst : mOp P ops C loud k (wpMix P ops C loud T Q (k + 1) l) a w := by
   unfold mOp
   rw [h0]
   exact hh
  cases hlk : loud k with
  | false =>
   obtain ⟨v, hy, hK⟩ := yields_of_mOp h0 hlk hst
   exact wpM_first h0 hlk (Region.noSelect_spec hs) l.length listed a w (fun hn => hC (hle hn)) hcl hsz (Region.free_spec h0 hf) hr' hy (rec_ _ _ hK)
  | true =>
   refine wpM_loud (n := n) htl h0 (Region.noSelect_spec hs) l.length listed a w (fun j hj hjk hlj hun => ?_) hcl hsz (fun hn => hC (hle hn)) (Region.free_spec h0 hf) hr' (mOp_mono rec_ hst)
   ·have hkj : k < j := by
     rcases Nat.lt_trichotomy k j with h1 | h1 | h1
     ·exact h1
     ·exact absurd h1.symm hjk
     ·rw [hlt j h1] at hun; cases hun
    exact hsp k j hk0 hk hj hlk hlj hkj
/-- The walk, of which p and the operation behind it are taken in both orders. -/
def wpPair (P : Program) (ops : Array Oper) (C : World → Prop) (loud : Nat → Bool) (T : Nat) (Q : Act → World → Prop) (p : Nat) (rest : List Oper) (a : Act) (w : World) : Prop :=
 C w ∧ mOp P ops C loud p (fun a w => C w ∧ mOp P ops C loud (p + 1) (wpMix P ops C loud T Q (p + 2) rest) a w) a w ∧ mOp P ops C loud (p + 1) (fun a w => C w ∧ mOp P ops C loud p (wpMix P ops C loud T Q (p + 2) rest) a w) a w
def wpMixP (P : Program) (ops : Array Oper) (C : World → Prop) (loud : Nat → Bool) (T : Nat) (Q : Act → World → Prop) (p : Nat) : Nat → List Oper → Act → World → Prop
 | _, [], _, _ => False
 | k, _ :: rest, a, w => if k = p then wpPair P ops C loud T Q p (rest.drop 1) a w else (k ≤ T → C w) ∧ mOp P ops C loud k (wpMixP P ops C loud T Q p (k + 1) rest) a w
end
/-- One operation of such a region, whatever stands behind it. -/
def Op1 (E : Env) (ops : Array Oper) (T n0 k : Nat) (o : Oper) (s : St) (Ks : St → Prop) : Prop :=
 ∀ (base : Bs) (K : Act → World → Prop) (w0 : World) (Z : Nat → Prop) (R0 : List RI) (h0 : Hp) (a : Act) (w : World) (R : List RI), HR w0 Z R0 h0 → n0 = h0.length → SR E base w Z R s a → w0.grownBy w none → Step w0 Z R0 h0 w Z R s.hp → (∀ (b : Nat) (B : Option Blk), h0[b]? = some B → s.hp[b]? = some B) → ops[k]? = some o →
  (∀ s' a' w' R', Ks s' → SR E base w' Z R' s' a' → w0.grownBy w' none → Step w0 Z R0 h0 w' Z R' s'.hp → (∀ (b : Nat) (B : Option Blk), h0[b]? = some B → s'.hp[b]? = some B) → K a' w') → mOp E.P ops (fun w' => w0.grownBy w' none) (loudT ops T) k K a w
def RunDP (E : Env) (ops : Array Oper) (T p n0 k : Nat) (rest : List Oper) (s : St) (K : St → Prop) : Prop :=
 ∀ (base : Bs) (Q : Act → World → Prop) (w0 : World) (Z : Nat → Prop) (R0 : List RI) (h0 : Hp) (a : Act) (w : World) (R : List RI), HR w0 Z R0 h0 → n0 = h0.length → SR E base w Z R s a → w0.grownBy w none → Step w0 Z R0 h0 w Z R s.hp → (∀ (b : Nat) (B : Option Blk), h0[b]? = some B → s.hp[b]? = some B) → (∀ j, rest[j]? = ops[k + j]?) →
  (∀ s' a' w' Z' R', K s' → SR E base w' Z' R' s' a' → StepW w0 Z R0 h0 w' Z' R' s'.hp → Q a' w') → wpMixP E.P ops (fun w' => w0.grownBy w' none) (loudT ops T) T Q p k rest a w
section
variable {E : Env} {cx : Cx} {ops : Array Oper} {pre rest rest' : List Oper} {s s1 : St} {K Ks : St → Prop} {n n0 k T p : Nat} {l : List (Nat × AV)} {hp hp' : Hp} {Q : Ex → St → Prop} {id : Nat} {fid : FuncId} {o : Oper}
theorem opsD_cons (hW : isW o.op = false) (e : opsD E (evC E 0) ⟨none, false⟩ ops n0 (o :: pre) s = some s1) : ∃ s2, opsD E (evC E 0) ⟨none, false⟩ ops n0 [o] s = some s2 ∧ opsD E (evC E 0) ⟨none, false⟩ ops n0 pre s2 = some s1 := by
 have hW' : ¬ isW o.op = true := by rw [hW]; simp
 unfold opsD at e
 rw [if_neg hW'] at e
 split at e
 ·cases e
 ·next hw => exact ⟨_, by unfold opsD; rw [if_neg hW']; simp only [hw]; rfl, e⟩
 ·next hw =>
  split at e
  ·next x hx =>
   split at e
   ·next hld => exact ⟨_, by unfold opsD; rw [if_neg hW']; simp only [hw, hx, hld, if_true]; rfl, e⟩
   ·cases e
  ·next hx =>
   split at e
   ·next x h' hn => exact ⟨_, by unfold opsD; rw [if_neg hW']; simp only [hw, hx, hn]; rfl, e⟩
   ·next hn =>
    split at e
    ·next f args tys ho =>
     split at e
     ·next fv xs hf hxs =>
      split at e
      ·next r hr => exact ⟨_, by unfold opsD; rw [if_neg hW']; simp only [hw, hx, hn, ho, hf, hxs, hr]; rfl, e⟩
      ·cases e
     ·cases e
    ·cases e
theorem Op1.d (hE : EnvOk E) (hW : isW o.op = false) (hk : k < T) (e : opsD E (evC E 0) ⟨none, false⟩ ops n0 [o] s = some s1) (kk : Ks s1) : Op1 E ops T n0 k o s Ks := by
 intro base K w0 Z R0 h0 a w R hh0 hn0 sr hgr st hpre hok q
 have hkT : ¬ T ≤ k := by omega
 unfold mOp
 rw [hok]
 dsimp only
 unfold opsD at e
 rw [if_neg (by rw [hW]; simp)] at e
 split at e
 ·cases e
 ·next hw =>
  rw [if_neg (by rw [wantedA_eq sr hw]; simp)]
  injection e with e
  subst e
  exact q _ _ w R kk (sr.put undef_vr) hgr st hpre
 ·next hw =>
  rw [if_pos (wantedA_eq sr hw)]
  have hρ : ∀ o x, opA E s.fr o = some x → VR w Z R x (a.eval o) := fun o x e => opA_vr sr o x e
  split at e
  ·next x hx =>
   split at e
   ·next hld =>
    injection e with e
    subst e
    have hq := isQ_of hx
    rw [if_neg (by rw [loudT_q hok hq hkT]; simp)]
    obtain ⟨u, hu, hrun⟩ := evOpQ_sound sr.hh hρ hx
    have hquiet : ∃ u, VR w Z R x u ∧ QuietAt E.P (Cf (fun w' => w0.grownBy w' none) o) o u a := by
     cases hl : isLd o.op with
     | false => exact ⟨u, hu, fun w' _ => hrun w' fun h => by rw [hl] at h; cases h⟩
     | true =>
      obtain ⟨u1, hu1, hq1⟩ := load_quiet hh0 sr hgr st hpre hl (by rw [← hn0]; exact hld) hx
      exact ⟨u1, hu1, hq1.up (free_ld hl)⟩
    obtain ⟨u, hu, hquiet⟩ := hquiet
    exact ⟨u, hquiet, q _ _ w R kk (sr.put hu) hgr st hpre⟩
   ·cases e
  ·split at e
   ·next x h' hx =>
    injection e with e
    subst e
    have hq := isQ_of_N hx
    rw [if_pos (loudT_n hok hq)]
    obtain ⟨u, w', R', h1, h2, h3, h4, h5⟩ := evOpN_sound hρ sr.hh hx
    exact lw_val h1 (q _ _ w' R' kk ((sr.step h2 h4).put h3) (pu_trans hgr h5) (st.trans h4) fun b B hb => evOpN_pre hx (hpre b B hb))
   ·split at e
    ·next f args tys ho =>
     split at e
     ·next fv xs hf hxs =>
      split at e
      ·next r hr =>
       injection e with e
       subst e
       obtain ⟨x, h'⟩ := r
       have hq : isQ o.op = false := by rw [ho]; rfl
       rw [if_pos (loudT_n hok hq)]
       obtain ⟨g, uf, uc, hva, hcl, hret⟩ := callP_sound hE (code_sound hE 0).1 (hρ _ _ hf) (opds_vr hρ hxs) sr.hh sr.gl hr
       unfold Lw
       rw [run_call (uf := uf) (uc := uc) ho hva rfl hcl w]
       refine Ret.mono hret fun v w' hS => ?_
       obtain ⟨hg1, R', k1, k2, k3⟩ := hS
       exact q _ _ w' R' kk ((sr.step k1 k3).put k2) (pu_trans hgr hg1) (st.trans k3) fun b B hb => callP_pre hr (hpre b B hb)
      ·cases e
     ·cases e
    ·cases e
theorem Op1.one (hE : EnvOk E) (hW : (!isW o.op && Nat.blt k T) = true) (h : opsD E (evC E 0) ⟨none, false⟩ ops n0 [o] s = some s1) (kk : Ks s1) : Op1 E ops T n0 k o s Ks := by
 simp only [Bool.and_eq_true, Bool.not_eq_true'] at hW
 exact Op1.d hE hW.1 (Nat.le_of_ble_eq_true hW.2) h kk
/-- The walk up to the two. -/
theorem RunDP.app (hE : EnvOk E) : ∀ {pre : List Oper} {s : St} {k : Nat}, (pre.all fun o => !isW o.op) = true → k + pre.length ≤ p → p + 2 ≤ T → opsD E (evC E 0) ⟨none, false⟩ ops n0 pre s = some s1 → RunDP E ops T p n0 (k + pre.length) rest s1 K → RunDP E ops T p n0 k (pre ++ rest) s K
 | [], s, k, _, _, _, e, kk => by injection e with e; subst e; exact kk
 | o :: pre, s, k, hp, hT, hpT, e, kk => by
  intro base Q w0 Z R0 h0 a w R hh0 hn0 sr hgr st hpre hops q
  simp only [List.all_cons, Bool.and_eq_true, Bool.not_eq_true'] at hp
  obtain ⟨hW, hp⟩ := hp
  obtain ⟨s2, e1, e2⟩ := opsD_cons hW e
  have hok : ops[k]? = some o := by have := hops 0; simpa using this.symm
  have hops' : ∀ j, (pre ++ rest)[j]? = ops[k + 1 + j]? := fun j => by have := hops (j + 1); simpa [Nat.add_assoc, Nat.add_comm 1 j] using this
  have hk1 : k + 1 + pre.length = k + (o :: pre).length := by simp; omega
  have kk' : RunDP E ops T p n0 (k + 1 + pre.length) rest s1 K := by rw [hk1]; exact kk
  simp only [List.length_cons] at hT
  show wpMixP E.P ops _ _ _ Q p k (o :: (pre ++ rest)) a w
  unfold wpMixP
  rw [if_neg (by omega)]
  refine ⟨fun _ => hgr, ?_⟩
  refine Op1.d (Ks := fun s => s = s2) hE hW (by omega) e1 rfl base _ w0 Z R0 h0 a w R hh0 hn0 sr hgr st hpre hok fun s' a' w' R' hs sr' hg' st' hp' => ?_
  subst hs
  exact RunDP.app hE hp (by omega) hpT e2 kk' base Q w0 Z R0 h0 a' w' R' hh0 hn0 sr' hg' st' hp' hops' q
theorem RunDP.one (hE : EnvOk E) (hr : rest = o :: rest') (hW : (!isW o.op && Nat.blt k p && Nat.ble (p + 2) T) = true) (h : opsD E (evC E 0) ⟨none, false⟩ ops n0 [o] s = some s1) (kk : RunDP E ops T p n0 (k + 1) rest' s1 K) : RunDP E ops T p n0 k rest s K := by
 subst hr
 simp only [Bool.and_eq_true] at hW
 exact RunDP.app (k := k) hE (pre := [o]) (by simpa using hW.1.1) (by have := Nat.le_of_ble_eq_true hW.1.2; simpa using this) (Nat.le_of_ble_eq_true hW.2) h kk
/-- The two, in both orders. -/
theorem RunDP.two {o1 o2 : Oper} (hr : rest = o1 :: o2 :: rest') (hA : Op1 E ops T n0 p o1 s fun s1 => Op1 E ops T n0 (p + 1) o2 s1 fun s2 => RunDX E ops T n0 (p + 2) rest' s2 K) (hB : Op1 E ops T n0 (p + 1) o2 s fun s1 => Op1 E ops T n0 p o1 s1 fun s2 => RunDX E ops T n0 (p + 2) rest' s2 K) : RunDP E ops T p n0 p rest s K := by
 subst hr
 intro base Q w0 Z R0 h0 a w R hh0 hn0 sr hgr st hpre hops q
 have hk1 : ops[p]? = some o1 := by have := hops 0; simpa using this.symm
 have hk2 : ops[p + 1]? = some o2 := by have := hops 1; simpa using this.symm
 have hops' : ∀ j, rest'[j]? = ops[p + 2 + j]? := fun j => by have := hops (j + 2); rw [show p + 2 + j = p + (j + 2) by omega]; simpa using this
 unfold wpMixP
 rw [if_pos rfl]
 refine ⟨hgr, ?_, ?_⟩
 ·refine hA base _ w0 Z R0 h0 a w R hh0 hn0 sr hgr st hpre hk1 fun s1 a1 w1 R1 h1 sr1 hg1 st1 hp1 => ⟨hg1, ?_⟩
  exact h1 base _ w0 Z R0 h0 a1 w1 R1 hh0 hn0 sr1 hg1 st1 hp1 hk2 fun s2 a2 w2 R2 h2 sr2 hg2 st2 hp2 => h2 base Q w0 Z R0 h0 a2 w2 R2 hh0 hn0 sr2 hg2 st2 hp2 hops' q
 ·refine hB base _ w0 Z R0 h0 a w R hh0 hn0 sr hgr st hpre hk2 fun s1 a1 w1 R1 h1 sr1 hg1 st1 hp1 => ⟨hg1, ?_⟩
  exact h1 base _ w0 Z R0 h0 a1 w1 R1 hh0 hn0 sr1 hg1 st1 hp1 hk1 fun s2 a2 w2 R2 h2 sr2 hg2 st2 hp2 => h2 base Q w0 Z R0 h0 a2 w2 R2 hh0 hn0 sr2 hg2 st2 hp2 hops' q
end
section
variable {P : Program} {ops : Array Oper} {C : World → Prop} {Q : Act → World → Prop} {loud : Nat → Bool} {T : Nat}
/-- Loud operations that may come up now: one of them is the first loud one, if every other stands behind one of them. -/
theorem wpM_loudL {n : Nat} (L : List Nat) (hL : L ≠ []) (ht : TailOk ops loud T n) (hin : ∀ i ∈ L, ∃ o, ops[i]? = some o) (hsel : ∀ (j : Nat) (o : Oper) cs b, ops[j]? = some o → o.op ≠ .select cs b) :
  ∀ (fuel : Nat) (listed : Array Bool) (a : Act) (w : World), (∀ j, j < ops.size → j ∉ L → loud j = true → listed.getD j true = false → ∃ i ∈ L, waitsT ops n j i = true) → Closed ops listed → listed.size = ops.size → (Need ops loud T listed → C w) →
   (∀ i ∈ L, ∀ oi, ops[i]? = some oi → ∀ j oj, ops[j]? = some oj → j ≠ i → listed.getD j true = false → (∀ e ∈ oj.after, Region.binds .any e = true → e.on ≠ i) → oi.apart ops oj = true) →
   (∀ i ∈ L, i ∈ Region.ready .any ops listed) →
   (∀ i ∈ L, mOp P ops C loud i (wpM P ops C loud T Q fuel (listed.setIfInBounds i true)) a w) → wpM P ops C loud T Q (fuel + 1) listed a w := by
 intro fuel
 obtain ⟨i0, hi0⟩ := List.exists_mem_of_ne_nil L hL
 obtain ⟨o0, ho0⟩ := hin i0 hi0
 induction fuel with
 | zero =>
  intro listed a w _ _ _ hC _ hr H
  refine ⟨hC, fun h => (by have := hr i0 hi0; rw [h] at this; cases this), fun j hj => ?_⟩
  by_cases hji : j ∈ L
  ·exact H j hji
  ·obtain ⟨u, w', h1⟩ := mOp_meets ho0 (H i0 hi0)
   have := ready_mono hj (fun e => hji (e ▸ hi0))
   rw [h1.2.1] at this
   cases this
 | succ fuel ih =>
  intro listed a w hT hcl hsz hC hfree hr H
  refine ⟨hC, fun h => (by have := hr i0 hi0; rw [h] at this; cases this), fun j hj => ?_⟩
  by_cases hji : j ∈ L
  ·exact H j hji
  obtain ⟨hjun, oj, hoj, hall⟩ := mem_ready.1 hj
  have hnl : ∀ i ∈ L, ¬ listed.getD i false = true := fun i hi h1 => by
   obtain ⟨ox, hx⟩ := hin i hi
   have hun := (mem_ready.1 (hr i hi)).1
   have hlt : i < ops.size := (Array.getElem?_eq_some_iff.1 hx).1
   have h' : i < listed.size := by omega
   simp [h'] at hun h1; rw [hun] at h1; cases h1
  have hne : ∀ i ∈ L, j ≠ i := fun i hi e => hji (e ▸ hi)
  have hnot : ∀ i ∈ L, ∀ e ∈ oj.after, Region.binds .any e = true → e.on ≠ i := fun i hi e he hb heq => hnl i hi (by rw [← heq]; exact hall e he hb)
  have hjlt : j < ops.size := (Array.getElem?_eq_some_iff.1 hoj).1
  have hlj : loud j = false := by
   cases hlj : loud j with
   | false => rfl
   | true =>
    obtain ⟨i, hi, hw⟩ := hT j hjlt hji hlj hjun
    exact absurd (waitsT_spec hcl n j i hw fun o ho e he hb => by rw [hoj] at ho; injection ho with ho; subst ho; exact hall e he hb) (hnl i hi)
  have ap : ∀ i ∈ L, ∀ oi, ops[i]? = some oi → oi.apart ops oj = true := fun i hi oi hoi => hfree i hi oi hoi j oj hoj (hne i hi) hjun (hnot i hi)
  have hun' : ∀ k, (listed.setIfInBounds j true).getD k true = false → listed.getD k true = false := fun k hun => by
   by_cases hjk : j = k
   ·subst hjk; exact hjun
   ·rw [getD_set_ne true hjk] at hun; exact hun
  have hCw : Need ops loud T (listed.setIfInBounds j true) → C w := fun hn => hC fun k hTk hk hlk => hun' k (hn k hTk hk hlk)
  obtain ⟨ap1, ap2, ap3⟩ := Oper.apart_spec (ap i0 hi0 o0 ho0)
  obtain ⟨u, w', h1⟩ := mOp_meets ho0 (H i0 hi0)
  obtain ⟨v, hy, _⟩ := yields_of_mOp hoj hlj (h1.2.2 j (ready_mono hj (hne i0 hi0)))
  have hya : YieldsM P ops C oj v a := hy.same (execOp_put oj (fun cs b => hsel j oj cs b hoj) _ o0.dst u ap1).symm (wanted_put oj _ o0.dst u ap1).symm
  refine hya.mOp hoj hlj ?_
  exact ih (listed.setIfInBounds j true) (a.put oj.dst v) w (fun k hk h1 h2 h3 => hT k hk h1 h2 (hun' k h3)) (hcl.set hj) (by simpa using hsz) hCw (fun i hi oi hoi k ok hk h1 h2 h3 => hfree i hi oi hoi k ok hk h1 (hun' k h2) h3) (fun i hi => ready_mono (hr i hi) (Ne.symm (hne i hi)))
   (fun i hi => by
    obtain ⟨oi, hoi⟩ := hin i hi
    obtain ⟨bp1, bp2, bp3⟩ := Oper.apart_spec (ap i hi oi hoi)
    exact mOp_after ht hoi hoj hsel hcl hsz bp1 bp2 bp3 (hr i hi) hj (hne i hi) hlj hya (H i hi))
/-- What holds of the region throughout. -/
structure MOk (ops : Array Oper) (T : Nat) : Prop where
 ns : Region.noSelect ops = true
 tl : TailOk ops (loudT ops T) T ops.size
 tT : T < ops.size → loudT ops T T = true
/-- What is checked of an operation that may come up now. -/
def readyB (ops : Array Oper) (m : List Bool) (i : Nat) : Bool := (Region.ready .any ops m.toArray).contains i && Region.free .any ops m.toArray i
def loudLB (ops : Array Oper) (T : Nat) (m : List Bool) (L : List Nat) : Bool :=
 (L.all fun i => readyB ops m i) && (List.range ops.size).all fun j => L.contains j || !loudT ops T j || m.toArray.getD j true || L.any fun i => waitsT ops ops.size j i
def tailMB (ops : Array Oper) (T p f : Nat) (m : List Bool) : Bool :=
 Nat.beq (p + f) ops.size && Region.lexFrom .any ops f p m.toArray && ((List.range p).all fun j => m.toArray.getD j true) && (List.range ops.size).all fun k => !(Nat.ble p k && loudT ops T k) || (List.range ops.size).all fun j => !(Nat.blt k j && loudT ops T j) || waitsT ops ops.size j k
end
def RunM (E : Env) (ops : Array Oper) (T n0 f : Nat) (m : List Bool) (s : St) (K : St → Prop) : Prop :=
 ∀ (base : Bs) (Q : Act → World → Prop) (w0 : World) (Z : Nat → Prop) (R0 : List RI) (h0 : Hp) (a : Act) (w : World) (R : List RI), MOk ops T → Closed ops m.toArray → m.length = ops.size → HR w0 Z R0 h0 → n0 = h0.length → SR E base w Z R s a → w0.grownBy w none → Step w0 Z R0 h0 w Z R s.hp → (∀ (b : Nat) (B : Option Blk), h0[b]? = some B → s.hp[b]? = some B) →
  (∀ s' a' w' Z' R', K s' → SR E base w' Z' R' s' a' → StepW w0 Z R0 h0 w' Z' R' s'.hp → Q a' w') → wpM E.P ops (fun w' => w0.grownBy w' none) (loudT ops T) T Q f m.toArray a w
section
variable {E : Env} {cx : Cx} {ops : Array Oper} {s s1 : St} {K : St → Prop} {n0 f T i j k : Nat} {m : List Bool} {Q : Ex → St → Prop} {id : Nat} {o o2 o3 : Oper}
theorem set_mark (m : List Bool) (i : Nat) : m.toArray.setIfInBounds i true = (m.set i true).toArray := by simp
/-- An operation that is quiet. -/
theorem RunM.q (i : Nat) (hq : (readyB ops m i && !loudT ops T i) = true) (ho : ops[i]? = some o) (h : Op1 E ops T n0 i o s fun s' => RunM E ops T n0 f (m.set i true) s' K) : RunM E ops T n0 (f + 1) m s K := by
 intro base Q w0 Z R0 h0 a w R hM hcl hsz hh0 hn0 sr hgr st hpre q
 unfold readyB at hq
 simp only [Bool.and_eq_true, Bool.not_eq_true'] at hq
 obtain ⟨⟨hr, hf⟩, hl⟩ := hq
 have hr' : i ∈ Region.ready .any ops m.toArray := by simpa using hr
 have hst := h base (fun a w => wpM E.P ops (fun w' => w0.grownBy w' none) (loudT ops T) T Q f (m.set i true).toArray a w) w0 Z R0 h0 a w R hh0 hn0 sr hgr st hpre ho fun s' a' w' R' hk sr' hg' st' hp' =>
  hk base Q w0 Z R0 h0 a' w' R' hM (by rw [← set_mark]; exact hcl.set hr') (by simpa using hsz) hh0 hn0 sr' hg' st' hp' q
 obtain ⟨v, hy, hK⟩ := yields_of_mOp ho hl hst
 refine wpM_first ho hl (Region.noSelect_spec hM.ns) f m.toArray a w (fun _ => hgr) hcl (by simpa using hsz) (Region.free_spec ho hf) hr' hy ?_
 rw [set_mark]
 exact hK
/-- The loud ones that may come up now: each of them. -/
theorem RunM.loud (L : List Nat) (hne : L ≠ []) (hl : loudLB ops T m L = true) (h : ∀ i ∈ L, ∃ o, ops[i]? = some o ∧ Op1 E ops T n0 i o s fun s' => RunM E ops T n0 f (m.set i true) s' K) : RunM E ops T n0 (f + 1) m s K := by
 intro base Q w0 Z R0 h0 a w R hM hcl hsz hh0 hn0 sr hgr st hpre q
 unfold loudLB at hl
 simp only [Bool.and_eq_true] at hl
 obtain ⟨h1, h2⟩ := hl
 have hr : ∀ i ∈ L, i ∈ Region.ready .any ops m.toArray ∧ Region.free .any ops m.toArray i = true := fun i hi => by
  have := List.all_eq_true.1 h1 i hi
  unfold readyB at this
  simp only [Bool.and_eq_true] at this
  exact ⟨by simpa using this.1, this.2⟩
 refine wpM_loudL (n := ops.size) L hne hM.tl (fun i hi => ⟨_, (h i hi).choose_spec.1⟩) (Region.noSelect_spec hM.ns) f m.toArray a w (fun j hj hjL hlj hun => ?_) hcl (by simpa using hsz) (fun _ => hgr) (fun i hi oi hoi => Region.free_spec hoi (hr i hi).2) (fun i hi => (hr i hi).1) fun i hi => ?_
 ·have := List.all_eq_true.1 h2 j (by simpa using hj)
  simp only [Bool.or_eq_true, Bool.not_eq_true', List.any_eq_true] at this
  rcases this with ((h3 | h3) | h3) | h3
  ·exact absurd (by simpa using h3) hjL
  ·rw [hlj] at h3; cases h3
  ·rw [hun] at h3; cases h3
  ·exact h3
 ·obtain ⟨o, ho, hop⟩ := h i hi
  rw [set_mark]
  exact hop base (fun a w => wpM E.P ops (fun w' => w0.grownBy w' none) (loudT ops T) T Q f (m.set i true).toArray a w) w0 Z R0 h0 a w R hh0 hn0 sr hgr st hpre ho fun s' a' w' R' hk sr' hg' st' hp' =>
   hk base Q w0 Z R0 h0 a' w' R' hM (by rw [← set_mark]; exact hcl.set (hr i hi).1) (by simpa using hsz) hh0 hn0 sr' hg' st' hp' q
/-- What is left stands in one order. -/
theorem RunM.tail (p : Nat) (hp : tailMB ops T p f m = true) (h : RunDX E ops T n0 p (ops.toList.drop p) s K) : RunM E ops T n0 f m s K := by
 intro base Q w0 Z R0 h0 a w R hM hcl hsz hh0 hn0 sr hgr st hpre q
 unfold tailMB at hp
 simp only [Bool.and_eq_true] at hp
 obtain ⟨⟨⟨h1, h2⟩, h3⟩, h4⟩ := hp
 have h1 := Nat.eq_of_beq_eq_true h1
 have hlen : (ops.toList.drop p).length = f := by simp; omega
 have hops : ∀ j, (ops.toList.drop p)[j]? = ops[p + j]? := fun j => by simp
 have := wpM_lexG hM.ns (n := ops.size) (k0 := p) (fun k j hk hks hj hlk hlj hkj => ?_) hM.tl hM.tT (ops.toList.drop p) p m.toArray a w (Nat.le_refl _) (by omega) hops (by rw [hlen]; exact h2) hcl (by simpa using hsz) (fun j hj => List.all_eq_true.1 h3 j (by simpa using hj)) (h base Q w0 Z R0 h0 a w R hh0 hn0 sr hgr st hpre hops q)
 ·rwa [hlen] at this
 ·have a1 := List.all_eq_true.1 h4 k (by simpa using hks)
  simp only [hlk, Nat.ble_eq_true_of_le hk, Bool.and_self, Bool.not_true, Bool.false_or] at a1
  have a2 := List.all_eq_true.1 a1 j (by simpa using hj)
  have hb : Nat.blt k j = true := Nat.ble_eq_true_of_le hkj
  simpa [hlj, hb] using a2
end
/-- As Op1, of an operation behind which nothing is read any more. -/
def OpZ (E : Env) (ops : Array Oper) (T k : Nat) (o : Oper) (s : St) (Ks : St → Prop) : Prop :=
 ∀ (base : Bs) (K : Act → World → Prop) (w0 : World) (Z : Nat → Prop) (a : Act) (w : World) (R : List RI), SR E base w Z R s a → w0.grownBy w none → ops[k]? = some o →
  (∀ s' a' w' Z' R', Ks s' → SR E base w' Z' R' s' a' → w0.grownBy w' none → StepW w Z R s.hp w' Z' R' s'.hp → K a' w') → mOp E.P ops (fun w' => w0.grownBy w' none) (loudT ops T) k K a w
def RunZ (E : Env) (ops : Array Oper) (T f : Nat) (m : List Bool) (s : St) (K : St → Prop) : Prop :=
 ∀ (base : Bs) (Q : Act → World → Prop) (w0 : World) (Z : Nat → Prop) (a : Act) (w : World) (R : List RI), MOk ops T → Closed ops m.toArray → m.length = ops.size → SR E base w Z R s a → w0.grownBy w none →
  (∀ s' a' w' Z' R', K s' → SR E base w' Z' R' s' a' → StepW w Z R s.hp w' Z' R' s'.hp → Q a' w') → wpM E.P ops (fun w' => w0.grownBy w' none) (loudT ops T) T Q f m.toArray a w
section
variable {E : Env} {cx : Cx} {ops : Array Oper} {s s1 : St} {K Ks : St → Prop} {n n0 f T i j k : Nat} {m : List Bool} {o o2 o3 : Oper} {l : List (Nat × AV)} {hp : Hp} {fid : FuncId}
theorem OpZ.d (hE : EnvOk E) (hW : isW o.op = false) (hLd : isLd o.op = false) (hk : k < T) (e : opsD E (evC E 0) ⟨none, false⟩ ops n0 [o] s = some s1) (kk : Ks s1) : OpZ E ops T k o s Ks := by
 intro base K w0 Z a w R sr hgr hok q
 have hkT : ¬ T ≤ k := by omega
 unfold mOp
 rw [hok]
 dsimp only
 unfold opsD at e
 rw [if_neg (by rw [hW]; simp)] at e
 split at e
 ·cases e
 ·next hw =>
  rw [if_neg (by rw [wantedA_eq sr hw]; simp)]
  injection e with e
  subst e
  exact q _ _ w Z R kk (sr.put undef_vr) hgr (StepW.refl _ _ _ _)
 ·next hw =>
  rw [if_pos (wantedA_eq sr hw)]
  have hρ : ∀ o x, opA E s.fr o = some x → VR w Z R x (a.eval o) := fun o x e => opA_vr sr o x e
  split at e
  ·next x hx =>
   split at e
   ·injection e with e
    subst e
    have hq := isQ_of hx
    rw [if_neg (by rw [loudT_q hok hq hkT]; simp)]
    obtain ⟨u, hu, hrun⟩ := evOpQ_sound sr.hh hρ hx
    exact ⟨u, (fun w' _ => hrun w' fun h => by rw [hLd] at h; cases h), q _ _ w Z R kk (sr.put hu) hgr (StepW.refl _ _ _ _)⟩
   ·cases e
  ·split at e
   ·next x h' hx =>
    injection e with e
    subst e
    have hq := isQ_of_N hx
    rw [if_pos (loudT_n hok hq)]
    obtain ⟨u, w', R', h1, h2, h3, h4, h5⟩ := evOpN_sound hρ sr.hh hx
    exact lw_val h1 (q _ _ w' Z R' kk ((sr.step h2 h4).put h3) (pu_trans hgr h5) h4.w)
   ·split at e
    ·next f args tys ho =>
     split at e
     ·next fv xs hf hxs =>
      split at e
      ·next r hr =>
       injection e with e
       subst e
       obtain ⟨x, h'⟩ := r
       have hq : isQ o.op = false := by rw [ho]; rfl
       rw [if_pos (loudT_n hok hq)]
       obtain ⟨g, uf, uc, hva, hcl, hret⟩ := callP_sound hE (code_sound hE 0).1 (hρ _ _ hf) (opds_vr hρ hxs) sr.hh sr.gl hr
       unfold Lw
       rw [run_call (uf := uf) (uc := uc) ho hva rfl hcl w]
       refine Ret.mono hret fun v w' hS => ?_
       obtain ⟨hg1, R', k1, k2, k3⟩ := hS
       exact q _ _ w' Z R' kk ((sr.step k1 k3).put k2) (pu_trans hgr hg1) k3.w
      ·cases e
     ·cases e
    ·cases e
theorem OpZ.one (hE : EnvOk E) (hW : (!isW o.op && !isLd o.op && Nat.blt k T) = true) (h : opsD E (evC E 0) ⟨none, false⟩ ops 0 [o] s = some s1) (kk : Ks s1) : OpZ E ops T k o s Ks := by
 simp only [Bool.and_eq_true, Bool.not_eq_true'] at hW
 exact OpZ.d hE hW.1.1 hW.1.2 (Nat.le_of_ble_eq_true hW.2) h kk
theorem RunM.z (h : RunZ E ops T f m s K) : RunM E ops T n0 f m s K := fun base Q w0 Z _ _ a w R hM hcl hsz _ _ sr hgr st _ q => h base Q w0 Z a w R hM hcl hsz sr hgr fun s' a' w' Z' R' hK sr' st' => q s' a' w' Z' R' hK sr' (st.w.trans st')
theorem RunZ.q (i : Nat) (hq : (readyB ops m i && !loudT ops T i) = true) (ho : ops[i]? = some o) (h : OpZ E ops T i o s fun s' => RunZ E ops T f (m.set i true) s' K) : RunZ E ops T (f + 1) m s K := by
 intro base Q w0 Z a w R hM hcl hsz sr hgr q
 unfold readyB at hq
 simp only [Bool.and_eq_true, Bool.not_eq_true'] at hq
 obtain ⟨⟨hr, hf⟩, hl⟩ := hq
 have hr' : i ∈ Region.ready .any ops m.toArray := by simpa using hr
 have hst := h base (fun a w => wpM E.P ops (fun w' => w0.grownBy w' none) (loudT ops T) T Q f (m.set i true).toArray a w) w0 Z a w R sr hgr ho fun s' a' w' Z' R' hk sr' hg' st' =>
  hk base Q w0 Z' a' w' R' hM (by rw [← set_mark]; exact hcl.set hr') (by simpa using hsz) sr' hg' fun s2 a2 w2 Z2 R2 hK sr2 st2 => q s2 a2 w2 Z2 R2 hK sr2 (st'.trans st2)
 obtain ⟨v, hy, hK⟩ := yields_of_mOp ho hl hst
 refine wpM_first ho hl (Region.noSelect_spec hM.ns) f m.toArray a w (fun _ => hgr) hcl (by simpa using hsz) (Region.free_spec ho hf) hr' hy ?_
 rw [set_mark]
 exact hK
theorem RunZ.loud (L : List Nat) (hne : L ≠ []) (hl : loudLB ops T m L = true) (h : ∀ i ∈ L, ∃ o, ops[i]? = some o ∧ OpZ E ops T i o s fun s' => RunZ E ops T f (m.set i true) s' K) : RunZ E ops T (f + 1) m s K := by
 intro base Q w0 Z a w R hM hcl hsz sr hgr q
 unfold loudLB at hl
 simp only [Bool.and_eq_true] at hl
 obtain ⟨h1, h2⟩ := hl
 have hr : ∀ i ∈ L, i ∈ Region.ready .any ops m.toArray ∧ Region.free .any ops m.toArray i = true := fun i hi => by
  have := List.all_eq_true.1 h1 i hi
  unfold readyB at this
  simp only [Bool.and_eq_true] at this
  exact ⟨by simpa using this.1, this.2⟩
 refine wpM_loudL (n := ops.size) L hne hM.tl (fun i hi => ⟨_, (h i hi).choose_spec.1⟩) (Region.noSelect_spec hM.ns) f m.toArray a w (fun j hj hjL hlj hun => ?_) hcl (by simpa using hsz) (fun _ => hgr) (fun i hi oi hoi => Region.free_spec hoi (hr i hi).2) (fun i hi => (hr i hi).1) fun i hi => ?_
 ·have := List.all_eq_true.1 h2 j (by simpa using hj)
  simp only [Bool.or_eq_true, Bool.not_eq_true', List.any_eq_true] at this
  rcases this with ((h3 | h3) | h3) | h3
  ·exact absurd (by simpa using h3) hjL
  ·rw [hlj] at h3; cases h3
  ·rw [hun] at h3; cases h3
  ·exact h3
 ·obtain ⟨o, ho, hop⟩ := h i hi
  rw [set_mark]
  exact hop base (fun a w => wpM E.P ops (fun w' => w0.grownBy w' none) (loudT ops T) T Q f (m.set i true).toArray a w) w0 Z a w R sr hgr ho fun s' a' w' Z' R' hk sr' hg' st' =>
   hk base Q w0 Z' a' w' R' hM (by rw [← set_mark]; exact hcl.set (hr i hi).1) (by simpa using hsz) sr' hg' fun s2 a2 w2 Z2 R2 hK sr2 st2 => q s2 a2 w2 Z2 R2 hK sr2 (st'.trans st2)
/-- The stores. -/
theorem RunZ.tail (hp : tailMB ops T T f m = true) (h : RunS E ops (ops.toList.drop T) s K) : RunZ E ops T f m s K := by
 intro base Q w0 Z a w R hM hcl hsz sr hgr q
 unfold tailMB at hp
 simp only [Bool.and_eq_true] at hp
 obtain ⟨⟨⟨h1, h2⟩, h3⟩, h4⟩ := hp
 have h1 := Nat.eq_of_beq_eq_true h1
 have hlen : (ops.toList.drop T).length = f := by simp; omega
 have hops : ∀ j, (ops.toList.drop T)[j]? = ops[T + j]? := fun j => by simp
 have := wpM_lexG (C := fun w' => w0.grownBy w' none) hM.ns (n := ops.size) (k0 := T) (fun k j hk hks hj hlk hlj hkj => ?_) hM.tl hM.tT (ops.toList.drop T) T m.toArray a w (Nat.le_refl _) (by omega) hops (by rw [hlen]; exact h2) hcl (by simpa using hsz) (fun j hj => List.all_eq_true.1 h3 j (by simpa using hj))
  (lwl_mix (h base Q a w Z R sr q) (Nat.le_refl _) (fun _ => hgr) (fun j hj => loudT_or (by omega)) hops)
 ·rwa [hlen] at this
 ·have a1 := List.all_eq_true.1 h4 k (by simpa using hks)
  simp only [hlk, Nat.ble_eq_true_of_le hk, Bool.and_self, Bool.not_true, Bool.false_or] at a1
  have a2 := List.all_eq_true.1 a1 j (by simpa using hj)
  have hb : Nat.blt k j = true := Nat.ble_eq_true_of_le hkj
  simpa [hlj, hb] using a2
end
/-- Every order of what is not free is gone through, in the world as it is. -/
def RunA (E : Env) (ops : Array Oper) (f : Nat) (m : List Bool) (s : St) (K : St → Prop) : Prop :=
 ∀ (base : Bs) (Q : Act → World → Prop) (a : Act) (w : World) (Z : Nat → Prop) (R : List RI), Region.noSelect ops = true → Closed ops m.toArray → m.length = ops.size → SR E base w Z R s a →
  (∀ s' a' w' Z' R', K s' → SR E base w' Z' R' s' a' → StepW w Z R s.hp w' Z' R' s'.hp → Q a' w') → wpM E.P ops (fun _ => True) (loudT ops 0) 0 Q f m.toArray a w
section
variable {E : Env} {cx : Cx} {ops : Array Oper} {s s1 : St} {K : St → Prop} {f i j : Nat} {m : List Bool} {Q : Ex → St → Prop} {id k : Nat} {o o2 o3 : Oper}
theorem loud0 {i : Nat} (h : loudT ops 0 i = false) : freeAt ops i = true := by
 unfold loudT at h
 simp only [Bool.or_eq_false_iff, Bool.and_eq_false_iff, Bool.not_eq_false'] at h
 rcases h.2 with h1 | h1
 ·cases h1
 ·exact h1
theorem tail0 (n : Nat) : TailOk ops (loudT ops 0) 0 n := fun j _ _ _ i _ hl hf => by rw [loud0 hl] at hf; cases hf
theorem Sem.runA (hE : EnvOk E) (f : Nat) (hb : (Region.noSelect ops && Nat.beq f ops.size) = true) (h : RunA E ops f (List.replicate f false) s fun s' => Wk E s' s1) (q : Q .normal s1) : Sem E cx (.region id ops true) s Q := by
 intro ro base Qm a w Z R _ sr _ kk
 simp only [Bool.and_eq_true] at hb
 have hf := Nat.eq_of_beq_eq_true hb.2
 have hgd : w.grownBy w.drew none := ch_drew w
 have st0 : Step w Z R s.hp w.drew Z R s.hp := ⟨rfl, rfl, rfl, Nat.le_refl _, fun c hc _ => rfl, fun _ h => .inl h, fun _ h => h, fun _ h => .inl h, fun _ _ h => h⟩
 have hsrd : SR E base w.drew Z R s a := ⟨sr.hh.keep (Nat.le_refl _) (fun c hc => hgd.block c hc (by simp)), sr.fr.off (fun c hc => rfl), sr.mks.step st0, sr.gl.off (fun c hc => rfl), sr.bs⟩
 have hrep : (List.replicate f false).toArray = Array.replicate ops.size false := by rw [hf]; simp
 have hcl : Closed ops (Array.replicate ops.size false) := fun k o hk hlis => by
  rw [getD_replicate_false] at hlis; cases hlis
 have hm := h base (fun a w => Qm .normal a w) a w.drew Z R hb.1 (by rw [hrep]; exact hcl) (by simp [hf]) hsrd (fun s' a' w' Z' R' hw sr' st => by
  obtain ⟨Z2, R2, sr2, st2⟩ := hw base w' Z' R' a' sr'
  exact kk .normal s1 a' w' Z2 R2 q sr2 ((st0.w.trans st).trans st2))
 rw [hrep, hf] at hm
 exact wpIn_region_any hE.mixed (wpAny_of_wpM (C := fun _ => True) (loud := loudT ops 0) (T := 0) (n := ops.size) (Q := fun a w => Qm .normal a w) ro 0 (tail0 _) (fun _ _ h => h) _ _ _ _ hcl (by simp) hm)
theorem RunA.q (i : Nat) (hq : (readyB ops m i && !loudT ops 0 i) = true) (ho : ops[i]? = some o) (h : RunS E ops [o] s fun s' => RunA E ops f (m.set i true) s' K) : RunA E ops (f + 1) m s K := by
 intro base Q a w Z R hns hcl hsz sr q
 unfold readyB at hq
 simp only [Bool.and_eq_true, Bool.not_eq_true'] at hq
 obtain ⟨⟨hr, hf⟩, hl⟩ := hq
 have hr' : i ∈ Region.ready .any ops m.toArray := by simpa using hr
 have hst := h base (fun a w => wpM E.P ops (fun _ => True) (loudT ops 0) 0 Q f (m.set i true).toArray a w) a w Z R sr fun s' a' w' Z' R' hk sr' st' =>
  hk base Q a' w' Z' R' hns (by rw [← set_mark]; exact hcl.set hr') (by simpa using hsz) sr' fun s2 a2 w2 Z2 R2 hK sr2 st2 => q s2 a2 w2 Z2 R2 hK sr2 (st'.trans st2)
 have hfr : isFree o = true := by have := loud0 hl; simpa [freeAt, ho] using this
 have hy : ∃ v, YieldsM E.P ops (fun _ => True) o v a ∧ wpM E.P ops (fun _ => True) (loudT ops 0) 0 Q f (m.set i true).toArray (a.put o.dst v) w := by
  unfold LwL at hst
  split at hst
  ·next hw =>
   obtain ⟨u, h1, h2⟩ := hst
   exact ⟨u, .inl ⟨hw, fun w' _ => h1 w'⟩, h2⟩
  ·next hw => exact ⟨undef, .inr ⟨by simpa using hw, rfl⟩, hst⟩
 obtain ⟨v, hy, hK⟩ := hy
 refine wpM_first ho hl (Region.noSelect_spec hns) f m.toArray a w (fun _ => trivial) hcl (by simpa using hsz) (Region.free_spec ho hf) hr' hy ?_
 rw [set_mark]
 exact hK
theorem RunA.loud (L : List Nat) (hne : L ≠ []) (hl : (loudLB ops 0 m L && L.all fun i => !freeAt ops i) = true) (h : ∀ i ∈ L, ∃ o, ops[i]? = some o ∧ RunS E ops [o] s fun s' => RunA E ops f (m.set i true) s' K) : RunA E ops (f + 1) m s K := by
 intro base Q a w Z R hns hcl hsz sr q
 simp only [Bool.and_eq_true] at hl
 obtain ⟨hl, hfr⟩ := hl
 unfold loudLB at hl
 simp only [Bool.and_eq_true] at hl
 obtain ⟨h1, h2⟩ := hl
 have hr : ∀ i ∈ L, i ∈ Region.ready .any ops m.toArray ∧ Region.free .any ops m.toArray i = true := fun i hi => by
  have := List.all_eq_true.1 h1 i hi
  unfold readyB at this
  simp only [Bool.and_eq_true] at this
  exact ⟨by simpa using this.1, this.2⟩
 refine wpM_loudL (n := ops.size) L hne (tail0 _) (fun i hi => ⟨_, (h i hi).choose_spec.1⟩) (Region.noSelect_spec hns) f m.toArray a w (fun j hj hjL hlj hun => ?_) hcl (by simpa using hsz) (fun _ => trivial) (fun i hi oi hoi => Region.free_spec hoi (hr i hi).2) (fun i hi => (hr i hi).1) fun i hi => ?_
 ·have := List.all_eq_true.1 h2 j (by simpa using hj)
  simp only [Bool.or_eq_true, Bool.not_eq_true', List.any_eq_true] at this
  rcases this with ((h3 | h3) | h3) | h3
  ·exact absurd (by simpa using h3) hjL
  ·rw [hlj] at h3; cases h3
  ·rw [hun] at h3; cases h3
  ·exact h3
 ·obtain ⟨o, ho, hop⟩ := h i hi
  have hfi : freeAt ops i = false := by simpa using List.all_eq_true.1 hfr i hi
  have hli : loudT ops 0 i = true := by
   cases hh : loudT ops 0 i with
   | true => rfl
   | false => rw [loud0 hh] at hfi; cases hfi
  have hfo : isFree o = false := by simpa [freeAt, ho] using hfi
  rw [set_mark]
  have hst := hop base (fun a w => wpM E.P ops (fun _ => True) (loudT ops 0) 0 Q f (m.set i true).toArray a w) a w Z R sr fun s' a' w' Z' R' hk sr' st' =>
   hk base Q a' w' Z' R' hns (by rw [← set_mark]; exact hcl.set (hr i hi).1) (by simpa using hsz) sr' fun s2 a2 w2 Z2 R2 hK sr2 st2 => q s2 a2 w2 Z2 R2 hK sr2 (st'.trans st2)
  unfold mOp
  rw [ho]
  dsimp only
  unfold LwL at hst
  split at hst
  ·next hw =>
   rw [if_pos hw, if_pos hli]
   rw [hfo] at hst
   exact hst
  ·next hw => rw [if_neg hw]; exact hst
theorem RunA.l1 (i : Nat) (hl : (loudLB ops 0 m [i] && [i].all fun i => !freeAt ops i) = true) (hi : ops[i]? = some o) (h : RunS E ops [o] s fun s' => RunA E ops f (m.set i true) s' K) : RunA E ops (f + 1) m s K :=
 RunA.loud [i] (by simp) hl fun x hx => by
  obtain rfl : x = i := by simpa using hx
  exact ⟨o, hi, h⟩
theorem RunA.l2 (i j : Nat) (hl : (loudLB ops 0 m [i, j] && [i, j].all fun i => !freeAt ops i) = true) (hi : ops[i]? = some o) (hj : ops[j]? = some o2) (h : RunS E ops [o] s fun s' => RunA E ops f (m.set i true) s' K) (h2 : RunS E ops [o2] s fun s' => RunA E ops f (m.set j true) s' K) : RunA E ops (f + 1) m s K :=
 RunA.loud [i, j] (by simp) hl fun x hx => by
  rcases (by simpa using hx : x = i ∨ x = j) with rfl | rfl
  ·exact ⟨o, hi, h⟩
  ·exact ⟨o2, hj, h2⟩
theorem RunS.only {n : Nat} (hE : EnvOk E) {s : St} (l : List (Nat × AV)) (hp : Hp) (h : segB (opsA E (evC E 0) ⟨none, false⟩ ops [o] s) l = some (n, xs2 l, hp)) (k : K ⟨Fr n l, hp⟩) : RunS E ops [o] s K :=
 RunS.segF (rest := [o]) hE 1 l hp h (RunS.done rfl k)
theorem RunA.done (h : (Region.ready .any ops m.toArray).isEmpty = true) (kk : K s) : RunA E ops 0 m s K := fun base Q a w Z R _ _ _ sr q =>
 ⟨fun _ => trivial, by simpa using h, q s a w Z R kk sr (StepW.refl _ _ _ _)⟩
end
def by8 (ns : List Int) : List UInt8 := ns.map fun n => UInt8.ofNat n.toNat
theorem vrs_u8 {w : World} {Z : Nat → Prop} {R : List RI} : ∀ {ns : List Int} {us : List Value}, VRs w Z R (ns.map fun k => .v (.int .u8 k)) us → us = ns.map (Value.int .u8)
 | [], us, h => by
  have := h.len
  simpa using this
 | k :: ns, [], h => by
  have := h.len
  simp at this
 | k :: ns, u :: us, h => by
  have h0 := h.at_ 0 (.v (.int .u8 k)) u rfl rfl
  have h1 : u = .int .u8 k := by cases h0; rfl
  have h2 : VRs w Z R (ns.map fun k => .v (.int .u8 k)) us := ⟨by have := h.len; simpa using this, fun i x u hx hu => h.at_ (i + 1) x u (by simpa using hx) (by simpa using hu)⟩
  rw [h1, vrs_u8 h2]; rfl
theorem flat_u8 : ∀ (ns : List Int), flat' (ns.map (Value.int .u8)) = ns.map (Value.int .u8)
 | [] => rfl
 | k :: ns => by
  have := flat_u8 ns
  unfold flat' at *
  simp only [List.map_cons, List.flatten_cons, this]
  rfl
theorem RunS.bytes {E : Env} {ops : Array Oper} {rest rest' : List Oper} {n : Nat} {l : List (Nat × AV)} {hp : Hp} {K : St → Prop} {d : Nat} {a b e : TypeId} {x : Operand} {ty : TypeId} {pos : String} {af : Array Edge} {g : Option (Nat × Bool)} {bb lo q c : Nat} (ns : List Int) (hr : rest = ⟨some d, .convert a b x, ty, pos, af, g⟩ :: rest') (hw : wantedA ops (Fr n l) ⟨some d, .convert a b x, ty, pos, af, g⟩ = some true)
  (h1 : E.P.underlying a = some (.slice e)) (h2 : E.P.underlying e = some (.int .u8)) (h3 : E.P.underlying b = some .string) (hx : opA E (Fr n l) x = some (.rf bb lo q c)) (hl : elems hp 1 (.rf bb lo q c) = some (ns.map fun k => .v (.int .u8 k))) (hn : Nat.ble ns.length maxLen = true) (kk : RunS E ops rest' ⟨Fr n ((d, .st (by8 ns)) :: l), hp⟩ K) : RunS E ops rest ⟨Fr n l, hp⟩ K := by
 subst hr
 intro base Q ac w Z R sr qq
 refine lwl_loud rfl (wantedA_eq sr hw) ?_
 have hv := opA_vr sr x _ hx
 unfold Lw
 generalize hva : ac.eval x = v at hv
 have hso : srcOk E.P a (.rf bb lo q c) = true := by unfold srcOk; rw [h1]
 obtain ⟨us, u1, u2, u3, u4⟩ := elems_src sr.hh hv hso hl
 cases hv with
 | rf hr h0 h4 h5 h6 =>
  rename_i m r
  have hus := vrs_u8 u1
  subst hus
  have hq : q = ns.length := by
   simp only [elems] at hl
   split at hl
   ·split at hl
    ·next hc =>
     injection hl with hl
     have := congrArg List.length hl
     simp at this
     omega
    ·cases hl
   ·cases hl
  subst hq
  have hf := u4 ns.length (by simp)
  have hfc : (loadCells ⟨r.c, lo * r.k, none⟩ ns.length).run E.P w = .ok (ns.map (Value.int .u8)).toArray w := by
   simpa [Builtin.firstCells, List.take_of_length_le, flat_u8] using hf
  have hrun : (execOp ac.eval ⟨some d, .convert a b x, ty, pos, af, g⟩).run E.P w = .ok (.value (.string (strOfNums ns))) w := by
   have := run_convert_bytes_string (P := E.P) w a b e (some ⟨r.c, lo * r.k, none⟩) ns.length m h1 h2 h3
   rw [run_bytesToString w _ ns.length m ns hfc, foldl_push_bytes] at this
   have e2 : (⟨ByteArray.empty.data ++ (ns.map fun n => UInt8.ofNat n.toNat).toArray⟩ : ByteArray) = strOfNums ns := by
    simp [strOfNums, ByteArray.empty, ByteArray.emptyWithCapacity]
    rfl
   rw [e2] at this
   simp [execOp, hva, this]
  rw [hrun]
  have sr' := sr.put (d := some d) (VR.st (w := w) (Z := Z) (ρ := R) (s := strOfNums ns) (bs := by8 ns) (strOfNums_data ns) (by unfold by8; rw [List.length_map]; exact Nat.le_of_ble_eq_true hn))
  exact kk base Q _ w Z R (by rwa [putA_Fr] at sr') qq
/- trestle/trestlekit.Digits -/
noncomputable def cb_kit_Digits_a : Code := codeOf Tryd.f49
def kit_Digits_a (x0 : Int) : Option ((List UInt8)) :=
 if (decide (x0 < 10)) = true then
 some (by8 [(wr .u8 (wr .i64 (48 + x0)))])
 else
 none
def cs_kit_Digits_a : Cs (Int × Unit) := (csC cdI csN)
def er_kit_Digits_a (r : (List UInt8)) : AV := cdS.enc r
theorem kit_Digits_a_sem (x0 : Int) (r : (List UInt8)) (h : kit_Digits_a x0 = some r) : Sem E0 ⟨none, false⟩ cb_kit_Digits_a ⟨Fr 20 (pairs0 0 (cs_kit_Digits_a.enc (x0, ()))), []⟩ fun e s' => (e = .normal ∨ e = .ret) ∧ ∃ xs, resA E0.P s'.fr s'.hp Tryd.f49.results.toList = some xs ∧ retA xs = er_kit_Digits_a r := by
 unfold kit_Digits_a at h
 let p1 : Nat × AV := (0, .v (.int .i64 x0))
 refine Sem.wkQ (Sem.wk (s1 := ⟨Fr 20 [p1], []⟩) Wk.f1 ?_)
 refine Sem.sq E0_ok [p1] [] ?_
 refine Sem.seq ?_
 refine Sem.sq E0_ok [p1, (4, .v (.bool (decide (x0 < 10))))] [] ?_
 refine Sem.cond (b := (decide (x0 < 10))) kr (fun hb1 => ?_) (fun hb1 => ?_)
 ·rw [if_pos hb1] at h
  refine Sem.seq ?_
  let p2 : Nat × AV := (2, .st (by8 [(wr .u8 (wr .i64 (48 + x0)))]))
  refine Sem.runS (s1 := ⟨Fr 20 [p2], []⟩) ?_ ?_
  ·let p3 : Option Blk := mk 1 5 ([(wr .u8 (wr .i64 (48 + x0)))].map (cdK .u8).enc)
   refine RunS.segF (n := 20) E0_ok 4 [(8, hd 0 ([(wr .u8 (wr .i64 (48 + x0)))].map (cdK .u8).enc))] [p3] kr ?_
   refine RunS.bytes (bb := 0) (lo := 0) (q := 1) (c := 1) (e := 5) [(wr .u8 (wr .i64 (48 + x0)))] rfl (wantedA_none rfl) kr kr kr kr kr kr ?_
   refine RunS.segF (n := 20) E0_ok 1 [p2] [p3] kr ?_
   exact RunS.done rfl (Wk.s3 [] trivial ⟨lv, trivial⟩)
  refine Sem.ret ?_
  have hq := Option.some.inj h; subst hq
  exact ⟨⟨Fr 20 [p2], []⟩, Wk.f1, .inr rfl, [.st (by8 [(wr .u8 (wr .i64 (48 + x0)))])], kr, kr⟩
 ·rw [if_f hb1] at h
  refine Sem.skip ?_
  refine Sem.seq ?_
  cases h
def t_kit_Digits_a : List AV → Option AV := told cs_kit_Digits_a (fun a => kit_Digits_a a.1) er_kit_Digits_a
theorem x_kit_Digits_a : XOk 49 t_kit_Digits_a := by
 refine xok_of_sem Tryd.func49 (c := cb_kit_Digits_a) ?h2 ⟨Tryd.call49⟩ cs_kit_Digits_a (fun a => kit_Digits_a a.1) er_kit_Digits_a (fun a => (by show 1 ≤ 20; decide)) ?h3 ?h4
 case h2 => kernel_rfl
 case h3 => intro b; kernel_rfl
 case h4 => exact fun a b h => kit_Digits_a_sem a.1 b h
/- trestle/trestlekit.Digits -/
noncomputable def cb_kit_Digits : Code := codeOf Tryd.f49
def kit_Digits (x0 : Int) : Option ((List UInt8)) :=
 if (decide (x0 < 10)) = true then
 some (by8 [(wr .u8 (wr .i64 (48 + x0)))])
 else
 (kit_Digits_a (wr .i64 (x0.tdiv 10))).bind fun v122 =>
 if (okB (v122 ++ (by8 [(wr .u8 (wr .i64 (48 + (x0.tmod 10))))]))) = true then
 some (v122 ++ (by8 [(wr .u8 (wr .i64 (48 + (x0.tmod 10))))]))
 else none
def cs_kit_Digits : Cs (Int × Unit) := (csC cdI csN)
def er_kit_Digits (r : (List UInt8)) : AV := cdS.enc r
theorem kit_Digits_sem (x0 : Int) (r : (List UInt8)) (h : kit_Digits x0 = some r) : Sem E0 ⟨none, false⟩ cb_kit_Digits ⟨Fr 20 (pairs0 0 (cs_kit_Digits.enc (x0, ()))), []⟩ fun e s' => (e = .normal ∨ e = .ret) ∧ ∃ xs, resA E0.P s'.fr s'.hp Tryd.f49.results.toList = some xs ∧ retA xs = er_kit_Digits r := by
 unfold kit_Digits at h
 let p1 : Nat × AV := (0, .v (.int .i64 x0))
 refine Sem.wkQ (Sem.wk (s1 := ⟨Fr 20 [p1], []⟩) Wk.f1 ?_)
 refine Sem.sq E0_ok [p1] [] ?_
 refine Sem.seq ?_
 refine Sem.sq E0_ok [p1, (4, .v (.bool (decide (x0 < 10))))] [] ?_
 refine Sem.cond (b := (decide (x0 < 10))) kr (fun hb1 => ?_) (fun hb1 => ?_)
 ·rw [if_pos hb1] at h
  refine Sem.seq ?_
  let p2 : Nat × AV := (2, .st (by8 [(wr .u8 (wr .i64 (48 + x0)))]))
  refine Sem.runS (s1 := ⟨Fr 20 [p2], []⟩) ?_ ?_
  ·let p3 : Option Blk := mk 1 5 ([(wr .u8 (wr .i64 (48 + x0)))].map (cdK .u8).enc)
   refine RunS.segF (n := 20) E0_ok 4 [(8, hd 0 ([(wr .u8 (wr .i64 (48 + x0)))].map (cdK .u8).enc))] [p3] kr ?_
   refine RunS.bytes (bb := 0) (lo := 0) (q := 1) (c := 1) (e := 5) [(wr .u8 (wr .i64 (48 + x0)))] rfl (wantedA_none rfl) kr kr kr kr kr kr ?_
   refine RunS.segF (n := 20) E0_ok 1 [p2] [p3] kr ?_
   exact RunS.done rfl (Wk.s3 [] trivial ⟨lv, trivial⟩)
  refine Sem.ret ?_
  have hq := Option.some.inj h; subst hq
  exact ⟨⟨Fr 20 [p2], []⟩, Wk.f1, .inr rfl, [.st (by8 [(wr .u8 (wr .i64 (48 + x0)))])], kr, kr⟩
 ·rw [if_f hb1] at h
  refine Sem.skip ?_
  refine Sem.seq ?_
  obtain ⟨v122, hv122, h⟩ := Option.bind_eq_some_iff.1 h
  by_cases hk402 : (okB (v122 ++ (by8 [(wr .u8 (wr .i64 (48 + (x0.tmod 10))))]))) = true
  case neg => rw [if_neg hk402] at h; cases h
  rw [if_pos hk402] at h
  let p4 : Nat × AV := (2, .st (v122 ++ (by8 [(wr .u8 (wr .i64 (48 + (x0.tmod 10))))])))
  refine Sem.runA (s1 := ⟨Fr 20 [p4], []⟩) E0_ok 11 kr ?_ ?_
  ·refine RunA.q 0 kr rfl ?_
   let p5 : Nat × AV := (10, .v (.int .i64 x0))
   refine RunS.only (n := 20) E0_ok [p1, p5] [] kr ?_
   refine RunA.q 3 kr rfl ?_
   refine RunS.only (n := 20) E0_ok [p5, (13, .v (.int .i64 x0))] [] kr ?_
   refine RunA.l2 1 4 kr rfl rfl ?_ ?_
   ·let p6 : Nat × AV := (11, .v (.int .i64 (wr .i64 (x0.tdiv 10))))
    refine RunS.only (n := 20) E0_ok [p6, (13, .v (.int .i64 x0))] [] kr ?_
    refine RunA.l2 2 4 kr rfl rfl ?_ ?_
    ·refine RunS.callV (v := v122) (caps := []) (xs := [.v (.int .i64 (wr .i64 (x0.tdiv 10)))]) (u := ((wr .i64 (x0.tdiv 10)), ())) rfl rfl x_kit_Digits_a rfl (wantedA_none rfl) kr kr (Sl.cons (Sm.enc (c := cdI) (v := (wr .i64 (x0.tdiv 10)))) Sl.nil) (.inl kr) (by dsimp only; exact hv122) ?_
     refine RunS.done rfl ?_
     refine RunA.l1 4 kr rfl ?_
     refine RunS.only (n := 20) E0_ok [(12, .st v122), (14, .v (.int .i64 (x0.tmod 10)))] [] kr ?_
     refine RunA.q 5 kr rfl ?_
     refine RunS.only (n := 20) E0_ok [(12, .st v122), (15, .v (.int .i64 (wr .i64 (48 + (x0.tmod 10)))))] [] kr ?_
     refine RunA.l1 6 kr rfl ?_
     refine RunS.only (n := 20) E0_ok [(12, .st v122), (16, .v (.int .u8 (wr .u8 (wr .i64 (48 + (x0.tmod 10))))))] [] kr ?_
     refine RunA.l1 7 kr rfl ?_
     let p7 : Option Blk := mk 1 5 ([(wr .u8 (wr .i64 (48 + (x0.tmod 10))))].map (cdK .u8).enc)
     refine RunS.only (n := 20) E0_ok [(12, .st v122), (17, hd 0 ([(wr .u8 (wr .i64 (48 + (x0.tmod 10))))].map (cdK .u8).enc))] [p7] kr ?_
     refine RunA.l1 8 kr rfl ?_
     refine RunS.bytes (bb := 0) (lo := 0) (q := 1) (c := 1) (e := 5) [(wr .u8 (wr .i64 (48 + (x0.tmod 10))))] rfl (wantedA_none rfl) kr kr kr kr kr kr ?_
     refine RunS.done rfl ?_
     refine RunA.q 9 kr rfl ?_
     refine RunS.one E0_ok 0 rfl (op_q (wantedA_none rfl) rfl (q_bin (a := .st v122) (b := .st (by8 [(wr .u8 (wr .i64 (48 + (x0.tmod 10))))])) kr kr (cat_st hk402))) ?_
     refine RunS.done rfl ?_
     refine RunA.l1 10 kr rfl ?_
     refine RunS.only (n := 20) E0_ok [p4] [p7] kr ?_
     exact RunA.done kr (Wk.s3 [] trivial ⟨lv, trivial⟩)
    ·refine RunS.only (n := 20) E0_ok [p6, (14, .v (.int .i64 (x0.tmod 10)))] [] kr ?_
     refine RunA.q 5 kr rfl ?_
     refine RunS.only (n := 20) E0_ok [p6, (15, .v (.int .i64 (wr .i64 (48 + (x0.tmod 10)))))] [] kr ?_
     refine RunA.l2 2 6 kr rfl rfl ?_ ?_
     ·refine RunS.callV (v := v122) (caps := []) (xs := [.v (.int .i64 (wr .i64 (x0.tdiv 10)))]) (u := ((wr .i64 (x0.tdiv 10)), ())) rfl rfl x_kit_Digits_a rfl (wantedA_none rfl) kr kr (Sl.cons (Sm.enc (c := cdI) (v := (wr .i64 (x0.tdiv 10)))) Sl.nil) (.inl kr) (by dsimp only; exact hv122) ?_
      refine RunS.done rfl ?_
      refine RunA.l1 6 kr rfl ?_
      refine RunS.only (n := 20) E0_ok [(12, .st v122), (16, .v (.int .u8 (wr .u8 (wr .i64 (48 + (x0.tmod 10))))))] [] kr ?_
      refine RunA.l1 7 kr rfl ?_
      let p8 : Option Blk := mk 1 5 ([(wr .u8 (wr .i64 (48 + (x0.tmod 10))))].map (cdK .u8).enc)
      refine RunS.only (n := 20) E0_ok [(12, .st v122), (17, hd 0 ([(wr .u8 (wr .i64 (48 + (x0.tmod 10))))].map (cdK .u8).enc))] [p8] kr ?_
      refine RunA.l1 8 kr rfl ?_
      refine RunS.bytes (bb := 0) (lo := 0) (q := 1) (c := 1) (e := 5) [(wr .u8 (wr .i64 (48 + (x0.tmod 10))))] rfl (wantedA_none rfl) kr kr kr kr kr kr ?_
      refine RunS.done rfl ?_
      refine RunA.q 9 kr rfl ?_
      refine RunS.one E0_ok 0 rfl (op_q (wantedA_none rfl) rfl (q_bin (a := .st v122) (b := .st (by8 [(wr .u8 (wr .i64 (48 + (x0.tmod 10))))])) kr kr (cat_st hk402))) ?_
      refine RunS.done rfl ?_
      refine RunA.l1 10 kr rfl ?_
      refine RunS.only (n := 20) E0_ok [p4] [p8] kr ?_
      exact RunA.done kr (Wk.s3 [] trivial ⟨lv, trivial⟩)
     ·refine RunS.only (n := 20) E0_ok [p6, (16, .v (.int .u8 (wr .u8 (wr .i64 (48 + (x0.tmod 10))))))] [] kr ?_
      refine RunA.l2 2 7 kr rfl rfl ?_ ?_
      ·refine RunS.callV (v := v122) (caps := []) (xs := [.v (.int .i64 (wr .i64 (x0.tdiv 10)))]) (u := ((wr .i64 (x0.tdiv 10)), ())) rfl rfl x_kit_Digits_a rfl (wantedA_none rfl) kr kr (Sl.cons (Sm.enc (c := cdI) (v := (wr .i64 (x0.tdiv 10)))) Sl.nil) (.inl kr) (by dsimp only; exact hv122) ?_
       refine RunS.done rfl ?_
       refine RunA.l1 7 kr rfl ?_
       let p9 : Option Blk := mk 1 5 ([(wr .u8 (wr .i64 (48 + (x0.tmod 10))))].map (cdK .u8).enc)
       refine RunS.only (n := 20) E0_ok [(12, .st v122), (17, hd 0 ([(wr .u8 (wr .i64 (48 + (x0.tmod 10))))].map (cdK .u8).enc))] [p9] kr ?_
       refine RunA.l1 8 kr rfl ?_
       refine RunS.bytes (bb := 0) (lo := 0) (q := 1) (c := 1) (e := 5) [(wr .u8 (wr .i64 (48 + (x0.tmod 10))))] rfl (wantedA_none rfl) kr kr kr kr kr kr ?_
       refine RunS.done rfl ?_
       refine RunA.q 9 kr rfl ?_
       refine RunS.one E0_ok 0 rfl (op_q (wantedA_none rfl) rfl (q_bin (a := .st v122) (b := .st (by8 [(wr .u8 (wr .i64 (48 + (x0.tmod 10))))])) kr kr (cat_st hk402))) ?_
       refine RunS.done rfl ?_
       refine RunA.l1 10 kr rfl ?_
       refine RunS.only (n := 20) E0_ok [p4] [p9] kr ?_
       exact RunA.done kr (Wk.s3 [] trivial ⟨lv, trivial⟩)
      ·let p10 : Option Blk := mk 1 5 ([(wr .u8 (wr .i64 (48 + (x0.tmod 10))))].map (cdK .u8).enc)
       refine RunS.only (n := 20) E0_ok [p6, (17, hd 0 ([(wr .u8 (wr .i64 (48 + (x0.tmod 10))))].map (cdK .u8).enc))] [p10] kr ?_
       refine RunA.l2 2 8 kr rfl rfl ?_ ?_
       ·refine RunS.callV (v := v122) (caps := []) (xs := [.v (.int .i64 (wr .i64 (x0.tdiv 10)))]) (u := ((wr .i64 (x0.tdiv 10)), ())) rfl rfl x_kit_Digits_a rfl (wantedA_none rfl) kr kr (Sl.cons (Sm.enc (c := cdI) (v := (wr .i64 (x0.tdiv 10)))) Sl.nil) (.inl kr) (by dsimp only; exact hv122) ?_
        refine RunS.done rfl ?_
        refine RunA.l1 8 kr rfl ?_
        refine RunS.bytes (bb := 0) (lo := 0) (q := 1) (c := 1) (e := 5) [(wr .u8 (wr .i64 (48 + (x0.tmod 10))))] rfl (wantedA_none rfl) kr kr kr kr kr kr ?_
        refine RunS.done rfl ?_
        refine RunA.q 9 kr rfl ?_
        refine RunS.one E0_ok 0 rfl (op_q (wantedA_none rfl) rfl (q_bin (a := .st v122) (b := .st (by8 [(wr .u8 (wr .i64 (48 + (x0.tmod 10))))])) kr kr (cat_st hk402))) ?_
        refine RunS.done rfl ?_
        refine RunA.l1 10 kr rfl ?_
        refine RunS.only (n := 20) E0_ok [p4] [p10] kr ?_
        exact RunA.done kr (Wk.s3 [] trivial ⟨lv, trivial⟩)
       ·refine RunS.bytes (bb := 0) (lo := 0) (q := 1) (c := 1) (e := 5) [(wr .u8 (wr .i64 (48 + (x0.tmod 10))))] rfl (wantedA_none rfl) kr kr kr kr kr kr ?_
        refine RunS.done rfl ?_
        refine RunA.l1 2 kr rfl ?_
        refine RunS.callV (v := v122) (caps := []) (xs := [.v (.int .i64 (wr .i64 (x0.tdiv 10)))]) (u := ((wr .i64 (x0.tdiv 10)), ())) rfl rfl x_kit_Digits_a rfl (wantedA_none rfl) kr kr (Sl.cons (Sm.enc (c := cdI) (v := (wr .i64 (x0.tdiv 10)))) Sl.nil) (.inl kr) (by dsimp only; exact hv122) ?_
        refine RunS.done rfl ?_
        refine RunA.q 9 kr rfl ?_
        refine RunS.one E0_ok 0 rfl (op_q (wantedA_none rfl) rfl (q_bin (a := .st v122) (b := .st (by8 [(wr .u8 (wr .i64 (48 + (x0.tmod 10))))])) kr kr (cat_st hk402))) ?_
        refine RunS.done rfl ?_
        refine RunA.l1 10 kr rfl ?_
        refine RunS.only (n := 20) E0_ok [p4] [p10] kr ?_
        exact RunA.done kr (Wk.s3 [] trivial ⟨lv, trivial⟩)
   ·refine RunS.only (n := 20) E0_ok [p5, (14, .v (.int .i64 (x0.tmod 10)))] [] kr ?_
    refine RunA.q 5 kr rfl ?_
    let p11 : Nat × AV := (15, .v (.int .i64 (wr .i64 (48 + (x0.tmod 10)))))
    refine RunS.only (n := 20) E0_ok [p5, p11] [] kr ?_
    refine RunA.l2 1 6 kr rfl rfl ?_ ?_
    ·let p12 : Nat × AV := (11, .v (.int .i64 (wr .i64 (x0.tdiv 10))))
     refine RunS.only (n := 20) E0_ok [p12, p11] [] kr ?_
     refine RunA.l2 2 6 kr rfl rfl ?_ ?_
     ·refine RunS.callV (v := v122) (caps := []) (xs := [.v (.int .i64 (wr .i64 (x0.tdiv 10)))]) (u := ((wr .i64 (x0.tdiv 10)), ())) rfl rfl x_kit_Digits_a rfl (wantedA_none rfl) kr kr (Sl.cons (Sm.enc (c := cdI) (v := (wr .i64 (x0.tdiv 10)))) Sl.nil) (.inl kr) (by dsimp only; exact hv122) ?_
      refine RunS.done rfl ?_
      refine RunA.l1 6 kr rfl ?_
      refine RunS.only (n := 20) E0_ok [(12, .st v122), (16, .v (.int .u8 (wr .u8 (wr .i64 (48 + (x0.tmod 10))))))] [] kr ?_
      refine RunA.l1 7 kr rfl ?_
      let p13 : Option Blk := mk 1 5 ([(wr .u8 (wr .i64 (48 + (x0.tmod 10))))].map (cdK .u8).enc)
      refine RunS.only (n := 20) E0_ok [(12, .st v122), (17, hd 0 ([(wr .u8 (wr .i64 (48 + (x0.tmod 10))))].map (cdK .u8).enc))] [p13] kr ?_
      refine RunA.l1 8 kr rfl ?_
      refine RunS.bytes (bb := 0) (lo := 0) (q := 1) (c := 1) (e := 5) [(wr .u8 (wr .i64 (48 + (x0.tmod 10))))] rfl (wantedA_none rfl) kr kr kr kr kr kr ?_
      refine RunS.done rfl ?_
      refine RunA.q 9 kr rfl ?_
      refine RunS.one E0_ok 0 rfl (op_q (wantedA_none rfl) rfl (q_bin (a := .st v122) (b := .st (by8 [(wr .u8 (wr .i64 (48 + (x0.tmod 10))))])) kr kr (cat_st hk402))) ?_
      refine RunS.done rfl ?_
      refine RunA.l1 10 kr rfl ?_
      refine RunS.only (n := 20) E0_ok [p4] [p13] kr ?_
      exact RunA.done kr (Wk.s3 [] trivial ⟨lv, trivial⟩)
     ·refine RunS.only (n := 20) E0_ok [p12, (16, .v (.int .u8 (wr .u8 (wr .i64 (48 + (x0.tmod 10))))))] [] kr ?_
      refine RunA.l2 2 7 kr rfl rfl ?_ ?_
      ·refine RunS.callV (v := v122) (caps := []) (xs := [.v (.int .i64 (wr .i64 (x0.tdiv 10)))]) (u := ((wr .i64 (x0.tdiv 10)), ())) rfl rfl x_kit_Digits_a rfl (wantedA_none rfl) kr kr (Sl.cons (Sm.enc (c := cdI) (v := (wr .i64 (x0.tdiv 10)))) Sl.nil) (.inl kr) (by dsimp only; exact hv122) ?_
       refine RunS.done rfl ?_
       refine RunA.l1 7 kr rfl ?_
       let p14 : Option Blk := mk 1 5 ([(wr .u8 (wr .i64 (48 + (x0.tmod 10))))].map (cdK .u8).enc)
       refine RunS.only (n := 20) E0_ok [(12, .st v122), (17, hd 0 ([(wr .u8 (wr .i64 (48 + (x0.tmod 10))))].map (cdK .u8).enc))] [p14] kr ?_
       refine RunA.l1 8 kr rfl ?_
       refine RunS.bytes (bb := 0) (lo := 0) (q := 1) (c := 1) (e := 5) [(wr .u8 (wr .i64 (48 + (x0.tmod 10))))] rfl (wantedA_none rfl) kr kr kr kr kr kr ?_
       refine RunS.done rfl ?_
       refine RunA.q 9 kr rfl ?_
       refine RunS.one E0_ok 0 rfl (op_q (wantedA_none rfl) rfl (q_bin (a := .st v122) (b := .st (by8 [(wr .u8 (wr .i64 (48 + (x0.tmod 10))))])) kr kr (cat_st hk402))) ?_
       refine RunS.done rfl ?_
       refine RunA.l1 10 kr rfl ?_
       refine RunS.only (n := 20) E0_ok [p4] [p14] kr ?_
       exact RunA.done kr (Wk.s3 [] trivial ⟨lv, trivial⟩)
      ·let p15 : Option Blk := mk 1 5 ([(wr .u8 (wr .i64 (48 + (x0.tmod 10))))].map (cdK .u8).enc)
       refine RunS.only (n := 20) E0_ok [p12, (17, hd 0 ([(wr .u8 (wr .i64 (48 + (x0.tmod 10))))].map (cdK .u8).enc))] [p15] kr ?_
       refine RunA.l2 2 8 kr rfl rfl ?_ ?_
       ·refine RunS.callV (v := v122) (caps := []) (xs := [.v (.int .i64 (wr .i64 (x0.tdiv 10)))]) (u := ((wr .i64 (x0.tdiv 10)), ())) rfl rfl x_kit_Digits_a rfl (wantedA_none rfl) kr kr (Sl.cons (Sm.enc (c := cdI) (v := (wr .i64 (x0.tdiv 10)))) Sl.nil) (.inl kr) (by dsimp only; exact hv122) ?_
        refine RunS.done rfl ?_
        refine RunA.l1 8 kr rfl ?_
        refine RunS.bytes (bb := 0) (lo := 0) (q := 1) (c := 1) (e := 5) [(wr .u8 (wr .i64 (48 + (x0.tmod 10))))] rfl (wantedA_none rfl) kr kr kr kr kr kr ?_
        refine RunS.done rfl ?_
        refine RunA.q 9 kr rfl ?_
        refine RunS.one E0_ok 0 rfl (op_q (wantedA_none rfl) rfl (q_bin (a := .st v122) (b := .st (by8 [(wr .u8 (wr .i64 (48 + (x0.tmod 10))))])) kr kr (cat_st hk402))) ?_
        refine RunS.done rfl ?_
        refine RunA.l1 10 kr rfl ?_
        refine RunS.only (n := 20) E0_ok [p4] [p15] kr ?_
        exact RunA.done kr (Wk.s3 [] trivial ⟨lv, trivial⟩)
       ·refine RunS.bytes (bb := 0) (lo := 0) (q := 1) (c := 1) (e := 5) [(wr .u8 (wr .i64 (48 + (x0.tmod 10))))] rfl (wantedA_none rfl) kr kr kr kr kr kr ?_
        refine RunS.done rfl ?_
        refine RunA.l1 2 kr rfl ?_
        refine RunS.callV (v := v122) (caps := []) (xs := [.v (.int .i64 (wr .i64 (x0.tdiv 10)))]) (u := ((wr .i64 (x0.tdiv 10)), ())) rfl rfl x_kit_Digits_a rfl (wantedA_none rfl) kr kr (Sl.cons (Sm.enc (c := cdI) (v := (wr .i64 (x0.tdiv 10)))) Sl.nil) (.inl kr) (by dsimp only; exact hv122) ?_
        refine RunS.done rfl ?_
        refine RunA.q 9 kr rfl ?_
        refine RunS.one E0_ok 0 rfl (op_q (wantedA_none rfl) rfl (q_bin (a := .st v122) (b := .st (by8 [(wr .u8 (wr .i64 (48 + (x0.tmod 10))))])) kr kr (cat_st hk402))) ?_
        refine RunS.done rfl ?_
        refine RunA.l1 10 kr rfl ?_
        refine RunS.only (n := 20) E0_ok [p4] [p15] kr ?_
        exact RunA.done kr (Wk.s3 [] trivial ⟨lv, trivial⟩)
    ·let p16 : Nat × AV := (16, .v (.int .u8 (wr .u8 (wr .i64 (48 + (x0.tmod 10))))))
     refine RunS.only (n := 20) E0_ok [p5, p16] [] kr ?_
     refine RunA.l2 1 7 kr rfl rfl ?_ ?_
     ·let p17 : Nat × AV := (11, .v (.int .i64 (wr .i64 (x0.tdiv 10))))
      refine RunS.only (n := 20) E0_ok [p17, p16] [] kr ?_
      refine RunA.l2 2 7 kr rfl rfl ?_ ?_
      ·refine RunS.callV (v := v122) (caps := []) (xs := [.v (.int .i64 (wr .i64 (x0.tdiv 10)))]) (u := ((wr .i64 (x0.tdiv 10)), ())) rfl rfl x_kit_Digits_a rfl (wantedA_none rfl) kr kr (Sl.cons (Sm.enc (c := cdI) (v := (wr .i64 (x0.tdiv 10)))) Sl.nil) (.inl kr) (by dsimp only; exact hv122) ?_
       refine RunS.done rfl ?_
       refine RunA.l1 7 kr rfl ?_
       let p18 : Option Blk := mk 1 5 ([(wr .u8 (wr .i64 (48 + (x0.tmod 10))))].map (cdK .u8).enc)
       refine RunS.only (n := 20) E0_ok [(12, .st v122), (17, hd 0 ([(wr .u8 (wr .i64 (48 + (x0.tmod 10))))].map (cdK .u8).enc))] [p18] kr ?_
       refine RunA.l1 8 kr rfl ?_
       refine RunS.bytes (bb := 0) (lo := 0) (q := 1) (c := 1) (e := 5) [(wr .u8 (wr .i64 (48 + (x0.tmod 10))))] rfl (wantedA_none rfl) kr kr kr kr kr kr ?_
       refine RunS.done rfl ?_
       refine RunA.q 9 kr rfl ?_
       refine RunS.one E0_ok 0 rfl (op_q (wantedA_none rfl) rfl (q_bin (a := .st v122) (b := .st (by8 [(wr .u8 (wr .i64 (48 + (x0.tmod 10))))])) kr kr (cat_st hk402))) ?_
       refine RunS.done rfl ?_
       refine RunA.l1 10 kr rfl ?_
       refine RunS.only (n := 20) E0_ok [p4] [p18] kr ?_
       exact RunA.done kr (Wk.s3 [] trivial ⟨lv, trivial⟩)
      ·let p19 : Option Blk := mk 1 5 ([(wr .u8 (wr .i64 (48 + (x0.tmod 10))))].map (cdK .u8).enc)
       refine RunS.only (n := 20) E0_ok [p17, (17, hd 0 ([(wr .u8 (wr .i64 (48 + (x0.tmod 10))))].map (cdK .u8).enc))] [p19] kr ?_
       refine RunA.l2 2 8 kr rfl rfl ?_ ?_
       ·refine RunS.callV (v := v122) (caps := []) (xs := [.v (.int .i64 (wr .i64 (x0.tdiv 10)))]) (u := ((wr .i64 (x0.tdiv 10)), ())) rfl rfl x_kit_Digits_a rfl (wantedA_none rfl) kr kr (Sl.cons (Sm.enc (c := cdI) (v := (wr .i64 (x0.tdiv 10)))) Sl.nil) (.inl kr) (by dsimp only; exact hv122) ?_
        refine RunS.done rfl ?_
        refine RunA.l1 8 kr rfl ?_
        refine RunS.bytes (bb := 0) (lo := 0) (q := 1) (c := 1) (e := 5) [(wr .u8 (wr .i64 (48 + (x0.tmod 10))))] rfl (wantedA_none rfl) kr kr kr kr kr kr ?_
        refine RunS.done rfl ?_
        refine RunA.q 9 kr rfl ?_
        refine RunS.one E0_ok 0 rfl (op_q (wantedA_none rfl) rfl (q_bin (a := .st v122) (b := .st (by8 [(wr .u8 (wr .i64 (48 + (x0.tmod 10))))])) kr kr (cat_st hk402))) ?_
        refine RunS.done rfl ?_
        refine RunA.l1 10 kr rfl ?_
        refine RunS.only (n := 20) E0_ok [p4] [p19] kr ?_
        exact RunA.done kr (Wk.s3 [] trivial ⟨lv, trivial⟩)
       ·refine RunS.bytes (bb := 0) (lo := 0) (q := 1) (c := 1) (e := 5) [(wr .u8 (wr .i64 (48 + (x0.tmod 10))))] rfl (wantedA_none rfl) kr kr kr kr kr kr ?_
        refine RunS.done rfl ?_
        refine RunA.l1 2 kr rfl ?_
        refine RunS.callV (v := v122) (caps := []) (xs := [.v (.int .i64 (wr .i64 (x0.tdiv 10)))]) (u := ((wr .i64 (x0.tdiv 10)), ())) rfl rfl x_kit_Digits_a rfl (wantedA_none rfl) kr kr (Sl.cons (Sm.enc (c := cdI) (v := (wr .i64 (x0.tdiv 10)))) Sl.nil) (.inl kr) (by dsimp only; exact hv122) ?_
        refine RunS.done rfl ?_
        refine RunA.q 9 kr rfl ?_
        refine RunS.one E0_ok 0 rfl (op_q (wantedA_none rfl) rfl (q_bin (a := .st v122) (b := .st (by8 [(wr .u8 (wr .i64 (48 + (x0.tmod 10))))])) kr kr (cat_st hk402))) ?_
        refine RunS.done rfl ?_
        refine RunA.l1 10 kr rfl ?_
        refine RunS.only (n := 20) E0_ok [p4] [p19] kr ?_
        exact RunA.done kr (Wk.s3 [] trivial ⟨lv, trivial⟩)
     ·let p20 : Option Blk := mk 1 5 ([(wr .u8 (wr .i64 (48 + (x0.tmod 10))))].map (cdK .u8).enc)
      let p21 : Nat × AV := (17, hd 0 ([(wr .u8 (wr .i64 (48 + (x0.tmod 10))))].map (cdK .u8).enc))
      refine RunS.only (n := 20) E0_ok [p5, p21] [p20] kr ?_
      refine RunA.l2 1 8 kr rfl rfl ?_ ?_
      ·refine RunS.only (n := 20) E0_ok [(11, .v (.int .i64 (wr .i64 (x0.tdiv 10)))), p21] [p20] kr ?_
       refine RunA.l2 2 8 kr rfl rfl ?_ ?_
       ·refine RunS.callV (v := v122) (caps := []) (xs := [.v (.int .i64 (wr .i64 (x0.tdiv 10)))]) (u := ((wr .i64 (x0.tdiv 10)), ())) rfl rfl x_kit_Digits_a rfl (wantedA_none rfl) kr kr (Sl.cons (Sm.enc (c := cdI) (v := (wr .i64 (x0.tdiv 10)))) Sl.nil) (.inl kr) (by dsimp only; exact hv122) ?_
        refine RunS.done rfl ?_
        refine RunA.l1 8 kr rfl ?_
        refine RunS.bytes (bb := 0) (lo := 0) (q := 1) (c := 1) (e := 5) [(wr .u8 (wr .i64 (48 + (x0.tmod 10))))] rfl (wantedA_none rfl) kr kr kr kr kr kr ?_
        refine RunS.done rfl ?_
        refine RunA.q 9 kr rfl ?_
        refine RunS.one E0_ok 0 rfl (op_q (wantedA_none rfl) rfl (q_bin (a := .st v122) (b := .st (by8 [(wr .u8 (wr .i64 (48 + (x0.tmod 10))))])) kr kr (cat_st hk402))) ?_
        refine RunS.done rfl ?_
        refine RunA.l1 10 kr rfl ?_
        refine RunS.only (n := 20) E0_ok [p4] [p20] kr ?_
        exact RunA.done kr (Wk.s3 [] trivial ⟨lv, trivial⟩)
       ·refine RunS.bytes (bb := 0) (lo := 0) (q := 1) (c := 1) (e := 5) [(wr .u8 (wr .i64 (48 + (x0.tmod 10))))] rfl (wantedA_none rfl) kr kr kr kr kr kr ?_
        refine RunS.done rfl ?_
        refine RunA.l1 2 kr rfl ?_
        refine RunS.callV (v := v122) (caps := []) (xs := [.v (.int .i64 (wr .i64 (x0.tdiv 10)))]) (u := ((wr .i64 (x0.tdiv 10)), ())) rfl rfl x_kit_Digits_a rfl (wantedA_none rfl) kr kr (Sl.cons (Sm.enc (c := cdI) (v := (wr .i64 (x0.tdiv 10)))) Sl.nil) (.inl kr) (by dsimp only; exact hv122) ?_
        refine RunS.done rfl ?_
        refine RunA.q 9 kr rfl ?_
        refine RunS.one E0_ok 0 rfl (op_q (wantedA_none rfl) rfl (q_bin (a := .st v122) (b := .st (by8 [(wr .u8 (wr .i64 (48 + (x0.tmod 10))))])) kr kr (cat_st hk402))) ?_
        refine RunS.done rfl ?_
        refine RunA.l1 10 kr rfl ?_
        refine RunS.only (n := 20) E0_ok [p4] [p20] kr ?_
        exact RunA.done kr (Wk.s3 [] trivial ⟨lv, trivial⟩)
      ·refine RunS.bytes (bb := 0) (lo := 0) (q := 1) (c := 1) (e := 5) [(wr .u8 (wr .i64 (48 + (x0.tmod 10))))] rfl (wantedA_none rfl) kr kr kr kr kr kr ?_
       refine RunS.done rfl ?_
       refine RunA.l1 1 kr rfl ?_
       refine RunS.only (n := 20) E0_ok [(11, .v (.int .i64 (wr .i64 (x0.tdiv 10)))), (18, .st (by8 [(wr .u8 (wr .i64 (48 + (x0.tmod 10))))]))] [p20] kr ?_
       refine RunA.l1 2 kr rfl ?_
       refine RunS.callV (v := v122) (caps := []) (xs := [.v (.int .i64 (wr .i64 (x0.tdiv 10)))]) (u := ((wr .i64 (x0.tdiv 10)), ())) rfl rfl x_kit_Digits_a rfl (wantedA_none rfl) kr kr (Sl.cons (Sm.enc (c := cdI) (v := (wr .i64 (x0.tdiv 10)))) Sl.nil) (.inl kr) (by dsimp only; exact hv122) ?_
       refine RunS.done rfl ?_
       refine RunA.q 9 kr rfl ?_
       refine RunS.one E0_ok 0 rfl (op_q (wantedA_none rfl) rfl (q_bin (a := .st v122) (b := .st (by8 [(wr .u8 (wr .i64 (48 + (x0.tmod 10))))])) kr kr (cat_st hk402))) ?_
       refine RunS.done rfl ?_
       refine RunA.l1 10 kr rfl ?_
       refine RunS.only (n := 20) E0_ok [p4] [p20] kr ?_
       exact RunA.done kr (Wk.s3 [] trivial ⟨lv, trivial⟩)
  refine Sem.ret ?_
  have hq := Option.some.inj h; subst hq
  exact ⟨⟨Fr 20 [p4], []⟩, Wk.f1, .inr rfl, [.st (v122 ++ (by8 [(wr .u8 (wr .i64 (48 + (x0.tmod 10))))]))], kr, kr⟩
def t_kit_Digits : List AV → Option AV := told cs_kit_Digits (fun a => kit_Digits a.1) er_kit_Digits
theorem x_kit_Digits : XOk 49 t_kit_Digits := by
 refine xok_of_sem Tryd.func49 (c := cb_kit_Digits) ?h2 ⟨Tryd.call49⟩ cs_kit_Digits (fun a => kit_Digits a.1) er_kit_Digits (fun a => (by show 1 ≤ 20; decide)) ?h3 ?h4
 case h2 => kernel_rfl
 case h3 => intro b; kernel_rfl
 case h4 => exact fun a b h => kit_Digits_sem a.1 b h
/- trestle/trestleref09.Format -/
noncomputable def cb_ref09_Format : Code := codeOf Tryd.f16
def ref09_Format_j3 (x0 : (List (List (List Int)))) (c2 : Int) (c4 : (List UInt8)) (c5 : Int) : Option (((List UInt8))) :=
 if (decide (c5 > 0)) = true then
 if (okB (c4 ++ [32, 47, 32])) = true then
 some (c4 ++ [32, 47, 32])
 else none
 else
 some c4
def ref09_Format_j5 (x0 : (List (List (List Int)))) (c2 : Int) (c5 : Int) (c12 : (List UInt8)) (c13 : Int) : Option (((List UInt8))) :=
 if (decide (c13 > 0)) = true then
 if (okB (c12 ++ [32])) = true then
 some (c12 ++ [32])
 else none
 else
 some c12
def ref09_Format_l4 (x0 : (List (List (List Int)))) (c2 : Int) (c5 : Int) : Nat → (List UInt8) → Int → Option (((List UInt8)))
 | 0, _, _ => none
 | f + 1, c12, c13 =>
  (idx x0 c2).bind fun v14 =>
  (idx v14 c5).bind fun v15 =>
  if (decide (c13 < (v15.length : Int))) = true then
  (ref09_Format_j5 x0 c2 c5 c12 c13).bind fun r20 =>
  (idx x0 c2).bind fun v21 =>
  (idx v21 c5).bind fun v22 =>
  (idx v22 c13).bind fun v23 =>
  (kit_Digits v23).bind fun v24 =>
  if (okB (r20 ++ v24)) = true then
  ref09_Format_l4 x0 c2 c5 f (r20 ++ v24) (wr .i64 (c13 + 1))
  else none
  else
  some c12
def ref09_Format_l2 (x0 : (List (List (List Int)))) (c2 : Int) : Nat → (List UInt8) → Int → Option (((List UInt8)))
 | 0, _, _ => none
 | f + 1, c4, c5 =>
  (idx x0 c2).bind fun v6 =>
  if (decide (c5 < (v6.length : Int))) = true then
  (ref09_Format_j3 x0 c2 c4 c5).bind fun r11 =>
  (ref09_Format_l4 x0 c2 c5 100000 r11 0).bind fun r27 =>
  ref09_Format_l2 x0 c2 f r27 (wr .i64 (c5 + 1))
  else
  some c4
def ref09_Format_l1 (x0 : (List (List (List Int)))) : Nat → (List UInt8) → Int → Option (((List UInt8)))
 | 0, _, _ => none
 | f + 1, c1, c2 =>
  if (decide (c2 < (x0.length : Int))) = true then
  (ref09_Format_l2 x0 c2 100000 c1 0).bind fun r29 =>
  if (okB (r29 ++ [10])) = true then
  ref09_Format_l1 x0 f (r29 ++ [10]) (wr .i64 (c2 + 1))
  else none
  else
  some c1
def ref09_Format (x0 : (List (List (List Int)))) : Option ((List UInt8)) :=
 (ref09_Format_l1 x0 100000 [] 0).bind fun r32 =>
 some r32
def cs_ref09_Format : Cs ((List (List (List Int))) × Unit) := (csC (cdL 1 (cdL 1 (cdL 1 cdI))) csN)
def er_ref09_Format (r : (List UInt8)) : AV := cdS.enc r
theorem ref09_Format_j3_ok (x0 : (List (List (List Int)))) (c2 : Int) (c4 : (List UInt8)) (c5 : Int) (r : ((List UInt8))) (h : ref09_Format_j3 x0 c2 c4 c5 = some r) : Sem E0 ⟨none, false⟩ (pc cb_ref09_Format [1, 1, 0, 1, 0, 0, 1, 0, 0, 0, 1, 0, 0, 1, 0, 0, 0, 1]) ⟨Fr 58 [(0, .sl 1 (x0.map (cdL 1 (cdL 1 cdI)).enc)), (3, .st c4), (4, .v (.int .i64 c2)), (5, .v (.int .i64 c5)), (23, .v (.bool (decide (c5 > 0))))], []⟩ (fun e s => e = .normal ∧ Wk E0 s ⟨Fr 58 [(0, .sl 1 (x0.map (cdL 1 (cdL 1 cdI)).enc)), (3, .st r), (4, .v (.int .i64 c2)), (5, .v (.int .i64 c5))], []⟩) := by
 unfold ref09_Format_j3 at h
 refine Sem.cond (b := (decide (c5 > 0))) kr (fun hb8 => ?_) (fun hb8 => ?_)
 ·rw [if_pos hb8] at h
  by_cases hk9 : (okB (c4 ++ [32, 47, 32])) = true
  case neg => rw [if_neg hk9] at h; cases h
  rw [if_pos hk9] at h
  let p1 : Nat × AV := (0, .sl 1 (x0.map (cdL 1 (cdL 1 cdI)).enc))
  refine Sem.runS (s1 := ⟨Fr 58 [p1, (3, .st (c4 ++ [32, 47, 32])), (4, .v (.int .i64 c2)), (5, .v (.int .i64 c5))], []⟩) ?_ ?_
  ·refine RunS.segF (n := 58) E0_ok 1 [p1, (4, .v (.int .i64 c2)), (5, .v (.int .i64 c5)), (24, .st c4)] [] kr ?_
   refine RunS.one E0_ok 0 rfl (op_q (wantedA_none rfl) rfl (q_bin (a := .st c4) (b := .st [32, 47, 32]) kr kr (cat_st hk9))) ?_
   exact RunS.last E0_ok
  have hq := Option.some.inj h; subst hq
  exact ⟨rfl, Wk.f1⟩
 ·rw [if_f hb8] at h
  refine Sem.skip ?_
  have hq := Option.some.inj h; subst hq
  exact ⟨rfl, Wk.f1⟩
theorem ref09_Format_j5_ok (x0 : (List (List (List Int)))) (c2 : Int) (c5 : Int) (c12 : (List UInt8)) (c13 : Int) (r : ((List UInt8))) (h : ref09_Format_j5 x0 c2 c5 c12 c13 = some r) : Sem E0 ⟨none, false⟩ (pc cb_ref09_Format [1, 1, 0, 1, 0, 0, 1, 0, 0, 0, 1, 0, 0, 1, 0, 0, 1, 1, 0, 0, 1, 0, 0, 0, 1]) ⟨Fr 58 [(0, .sl 1 (x0.map (cdL 1 (cdL 1 cdI)).enc)), (3, .st c12), (4, .v (.int .i64 c2)), (5, .v (.int .i64 c5)), (6, .v (.int .i64 c13)), (39, .v (.bool (decide (c13 > 0))))], []⟩ (fun e s => e = .normal ∧ Wk E0 s ⟨Fr 58 [(0, .sl 1 (x0.map (cdL 1 (cdL 1 cdI)).enc)), (3, .st r), (4, .v (.int .i64 c2)), (5, .v (.int .i64 c5)), (6, .v (.int .i64 c13))], []⟩) := by
 unfold ref09_Format_j5 at h
 refine Sem.cond (b := (decide (c13 > 0))) kr (fun hb17 => ?_) (fun hb17 => ?_)
 ·rw [if_pos hb17] at h
  by_cases hk18 : (okB (c12 ++ [32])) = true
  case neg => rw [if_neg hk18] at h; cases h
  rw [if_pos hk18] at h
  let p1 : Nat × AV := (0, .sl 1 (x0.map (cdL 1 (cdL 1 cdI)).enc))
  refine Sem.runS (s1 := ⟨Fr 58 [p1, (3, .st (c12 ++ [32])), (4, .v (.int .i64 c2)), (5, .v (.int .i64 c5)), (6, .v (.int .i64 c13))], []⟩) ?_ ?_
  ·refine RunS.segF (n := 58) E0_ok 1 [p1, (4, .v (.int .i64 c2)), (5, .v (.int .i64 c5)), (6, .v (.int .i64 c13)), (40, .st c12)] [] kr ?_
   refine RunS.one E0_ok 0 rfl (op_q (wantedA_none rfl) rfl (q_bin (a := .st c12) (b := .st [32]) kr kr (cat_st hk18))) ?_
   exact RunS.last E0_ok
  have hq := Option.some.inj h; subst hq
  exact ⟨rfl, Wk.f1⟩
 ·rw [if_f hb17] at h
  refine Sem.skip ?_
  have hq := Option.some.inj h; subst hq
  exact ⟨rfl, Wk.f1⟩
theorem ref09_Format_l4_ok (x0 : (List (List (List Int)))) (c2 : Int) (c5 : Int) : ∀ (f : Nat) (c12 : (List UInt8)) (c13 : Int) (r : ((List UInt8))), ref09_Format_l4 x0 c2 c5 f c12 c13 = some r → SemN E0 ⟨none, false⟩ (pc cb_ref09_Format [1, 1, 0, 1, 0, 0, 1, 0, 0, 0, 1, 0, 0, 1, 0, 0, 1, 1, 0, 0]) f ⟨Fr 58 [(0, .sl 1 (x0.map (cdL 1 (cdL 1 cdI)).enc)), (3, .st c12), (4, .v (.int .i64 c2)), (5, .v (.int .i64 c5)), (6, .v (.int .i64 c13))], []⟩ (fun e s => e = (.exit 4) ∧ Wk E0 s ⟨Fr 58 [(0, .sl 1 (x0.map (cdL 1 (cdL 1 cdI)).enc)), (3, .st r), (4, .v (.int .i64 c2)), (5, .v (.int .i64 c5))], []⟩) := by
 intro f
 induction f with
 | zero => intro c12 c13 r h; cases h
 | succ f ih0 =>
  intro c12 c13 r h
  have ih := fun (c12 : (List UInt8)) (c13 : Int) => ih0 c12 c13 r
  unfold ref09_Format_l4 at h
  refine SemN.succ ?_
  refine Sem.seq ?_
  refine Sem.seq ?_
  obtain ⟨v14, hv14, h⟩ := Option.bind_eq_some_iff.1 h
  obtain ⟨v15, hv15, h⟩ := Option.bind_eq_some_iff.1 h
  let p1 : Nat × AV := (6, .v (.int .i64 c13))
  let p2 : Nat × AV := (5, .v (.int .i64 c5))
  let p3 : Nat × AV := (4, .v (.int .i64 c2))
  let p4 : Nat × AV := (0, .sl 1 (x0.map (cdL 1 (cdL 1 cdI)).enc))
  refine Sem.runS (s1 := ⟨Fr 58 [p4, (3, .st c12), p3, p2, p1, (35, .v (.bool (decide (c13 < (v15.length : Int)))))], []⟩) ?_ ?_
  ·let p5 : Nat × AV := (26, .v (.int .i64 c13))
   refine RunS.segF (n := 58) E0_ok 3 [p4, (3, .st c12), p3, p2, p1, p5, (27, .sl 1 (x0.map (cdL 1 (cdL 1 cdI)).enc)), (28, .v (.int .i64 c2))] [] kr ?_
   refine RunS.one E0_ok 0 rfl (op_q (wantedA_none rfl) rfl (q_indexAddr (a := .sl 1 (x0.map (cdL 1 (cdL 1 cdI)).enc)) (b := .v (.int .i64 c2)) kr kr (ix_sl (e := (cdL 1 (cdL 1 cdI)).enc) (el := 50) (k := 1) (ki := .i64) kr kr hv14))) ?_
   refine RunS.segF (n := 58) E0_ok 2 [p4, (3, .st c12), p3, p2, p1, p5, (30, .sl 1 (v14.map (cdL 1 cdI).enc)), (31, .v (.int .i64 c5))] [] kr ?_
   refine RunS.one E0_ok 0 rfl (op_q (wantedA_none rfl) rfl (q_indexAddr (a := .sl 1 (v14.map (cdL 1 cdI).enc)) (b := .v (.int .i64 c5)) kr kr (ix_sl (e := (cdL 1 cdI).enc) (el := 31) (k := 1) (ki := .i64) kr kr hv15))) ?_
   refine RunS.segF (n := 58) E0_ok 1 [p4, (3, .st c12), p3, p2, p1, p5, (33, .sl 1 (v15.map cdI.enc))] [] kr ?_
   refine RunS.one E0_ok 0 rfl (op_q (wantedA_none rfl) rfl (q_len (a := .sl 1 (v15.map cdI.enc)) kr (len_sl (el := 3) kr))) ?_
   exact RunS.last E0_ok
  refine Sem.cond (b := (decide (c13 < (v15.length : Int)))) kr (fun hb16 => ?_) (fun hb16 => ?_)
  ·rw [if_pos hb16] at h
   refine Sem.skip ?_
   refine Sem.seq ?_
   refine Sem.block ?_
   refine Sem.seq ?_
   refine Sem.sq E0_ok [p4, (3, .st c12), p3, p2, p1, (39, .v (.bool (decide (c13 > 0))))] [] ?_
   obtain ⟨r20, hr20, h⟩ := Option.bind_eq_some_iff.1 h
   refine Sem.cut (ref09_Format_j5_ok x0 c2 c5 c12 c13 _ hr20) ?_
   obtain ⟨v21, hv21, h⟩ := Option.bind_eq_some_iff.1 h
   obtain ⟨v22, hv22, h⟩ := Option.bind_eq_some_iff.1 h
   obtain ⟨v23, hv23, h⟩ := Option.bind_eq_some_iff.1 h
   obtain ⟨v24, hv24, h⟩ := Option.bind_eq_some_iff.1 h
   by_cases hk25 : (okB (r20 ++ v24)) = true
   case neg => rw [if_neg hk25] at h; cases h
   rw [if_pos hk25] at h
   let p6 : Nat × AV := (3, .st (r20 ++ v24))
   refine Sem.runS (s1 := ⟨Fr 58 [p4, p6, p3, p2, p1], []⟩) ?_ ?_
   ·refine RunS.segF (n := 58) E0_ok 3 [p4, p3, p2, p1, (42, .st r20), (43, .sl 1 (x0.map (cdL 1 (cdL 1 cdI)).enc)), (44, .v (.int .i64 c2))] [] kr ?_
    refine RunS.one E0_ok 0 rfl (op_q (wantedA_none rfl) rfl (q_indexAddr (a := .sl 1 (x0.map (cdL 1 (cdL 1 cdI)).enc)) (b := .v (.int .i64 c2)) kr kr (ix_sl (e := (cdL 1 (cdL 1 cdI)).enc) (el := 50) (k := 1) (ki := .i64) kr kr hv21))) ?_
    refine RunS.segF (n := 58) E0_ok 2 [p4, p3, p2, p1, (42, .st r20), (46, .sl 1 (v21.map (cdL 1 cdI).enc)), (47, .v (.int .i64 c5))] [] kr ?_
    refine RunS.one E0_ok 0 rfl (op_q (wantedA_none rfl) rfl (q_indexAddr (a := .sl 1 (v21.map (cdL 1 cdI).enc)) (b := .v (.int .i64 c5)) kr kr (ix_sl (e := (cdL 1 cdI).enc) (el := 31) (k := 1) (ki := .i64) kr kr hv22))) ?_
    refine RunS.segF (n := 58) E0_ok 2 [p4, p3, p2, p1, (42, .st r20), (49, .sl 1 (v22.map cdI.enc)), (50, .v (.int .i64 c13))] [] kr ?_
    refine RunS.one E0_ok 0 rfl (op_q (wantedA_none rfl) rfl (q_indexAddr (a := .sl 1 (v22.map cdI.enc)) (b := .v (.int .i64 c13)) kr kr (ix_sl (e := cdI.enc) (el := 3) (k := 1) (ki := .i64) kr kr hv23))) ?_
    refine RunS.segF (n := 58) E0_ok 1 [p4, p3, p2, p1, (42, .st r20), (52, .v (.int .i64 v23))] [] kr ?_
    refine RunS.callV (caps := []) (xs := [.v (.int .i64 v23)]) (u := (v23, ())) rfl rfl x_kit_Digits rfl (wantedA_none rfl) kr kr (Sl.cons (Sm.enc (c := cdI) (v := v23)) Sl.nil) (.inl kr) hv24 ?_
    refine RunS.one E0_ok 0 rfl (op_q (wantedA_none rfl) rfl (q_bin (a := .st r20) (b := .st v24) kr kr (cat_st hk25))) ?_
    exact RunS.last E0_ok
   let p7 : Nat × AV := (6, .v (.int .i64 (wr .i64 (c13 + 1))))
   refine Sem.rg E0_ok [p4, p6, p3, p2, p7] [] ?_
   exact SemN.wk (s1 := ⟨Fr 58 [p4, p6, p3, p2, p7], []⟩) Wk.f1 (ih (r20 ++ v24) (wr .i64 (c13 + 1)) h)
  ·rw [if_f hb16] at h
   refine Sem.exit ?_
   have hq := Option.some.inj h; subst hq
   exact ⟨rfl, Wk.f1⟩
theorem ref09_Format_l2_ok (x0 : (List (List (List Int)))) (c2 : Int) : ∀ (f : Nat) (c4 : (List UInt8)) (c5 : Int) (r : ((List UInt8))), ref09_Format_l2 x0 c2 f c4 c5 = some r → SemN E0 ⟨none, false⟩ (pc cb_ref09_Format [1, 1, 0, 1, 0, 0, 1, 0, 0, 0, 1, 0, 0]) f ⟨Fr 58 [(0, .sl 1 (x0.map (cdL 1 (cdL 1 cdI)).enc)), (3, .st c4), (4, .v (.int .i64 c2)), (5, .v (.int .i64 c5))], []⟩ (fun e s => e = (.exit 2) ∧ Wk E0 s ⟨Fr 58 [(0, .sl 1 (x0.map (cdL 1 (cdL 1 cdI)).enc)), (3, .st r), (4, .v (.int .i64 c2))], []⟩) := by
 intro f
 induction f with
 | zero => intro c4 c5 r h; cases h
 | succ f ih0 =>
  intro c4 c5 r h
  have ih := fun (c4 : (List UInt8)) (c5 : Int) => ih0 c4 c5 r
  unfold ref09_Format_l2 at h
  refine SemN.succ ?_
  refine Sem.seq ?_
  refine Sem.seq ?_
  obtain ⟨v6, hv6, h⟩ := Option.bind_eq_some_iff.1 h
  let p1 : Nat × AV := (5, .v (.int .i64 c5))
  let p2 : Nat × AV := (4, .v (.int .i64 c2))
  let p3 : Nat × AV := (0, .sl 1 (x0.map (cdL 1 (cdL 1 cdI)).enc))
  refine Sem.runS (s1 := ⟨Fr 58 [p3, (3, .st c4), p2, p1, (19, .v (.bool (decide (c5 < (v6.length : Int)))))], []⟩) ?_ ?_
  ·refine RunS.segF (n := 58) E0_ok 3 [p3, (3, .st c4), p2, p1, (13, .v (.int .i64 c5)), (14, .sl 1 (x0.map (cdL 1 (cdL 1 cdI)).enc)), (15, .v (.int .i64 c2))] [] kr ?_
   refine RunS.one E0_ok 0 rfl (op_q (wantedA_none rfl) rfl (q_indexAddr (a := .sl 1 (x0.map (cdL 1 (cdL 1 cdI)).enc)) (b := .v (.int .i64 c2)) kr kr (ix_sl (e := (cdL 1 (cdL 1 cdI)).enc) (el := 50) (k := 1) (ki := .i64) kr kr hv6))) ?_
   refine RunS.segF (n := 58) E0_ok 1 [p3, (3, .st c4), p2, p1, (13, .v (.int .i64 c5)), (17, .sl 1 (v6.map (cdL 1 cdI).enc))] [] kr ?_
   refine RunS.one E0_ok 0 rfl (op_q (wantedA_none rfl) rfl (q_len (a := .sl 1 (v6.map (cdL 1 cdI).enc)) kr (len_sl (el := 31) kr))) ?_
   exact RunS.last E0_ok
  refine Sem.cond (b := (decide (c5 < (v6.length : Int)))) kr (fun hb7 => ?_) (fun hb7 => ?_)
  ·rw [if_pos hb7] at h
   refine Sem.skip ?_
   refine Sem.seq ?_
   refine Sem.block ?_
   refine Sem.seq ?_
   refine Sem.sq E0_ok [p3, (3, .st c4), p2, p1, (23, .v (.bool (decide (c5 > 0))))] [] ?_
   obtain ⟨r11, hr11, h⟩ := Option.bind_eq_some_iff.1 h
   refine Sem.cut (ref09_Format_j3_ok x0 c2 c4 c5 _ hr11) ?_
   refine Sem.sq E0_ok [p3, (3, .st r11), p2, p1, (6, .v (.int .i64 0))] [] ?_
   refine Sem.block ?_
   obtain ⟨r27, hr27, h⟩ := Option.bind_eq_some_iff.1 h
   refine Sem.loop (n := 100000) ?_
   refine Sem.cutN (SemN.wk (s1 := ⟨Fr 58 [p3, (3, .st r11), p2, p1, (6, .v (.int .i64 0))], []⟩) Wk.f1 (ref09_Format_l4_ok x0 c2 c5 _ r11 0 _ hr27)) ?_
   let p4 : Nat × AV := (5, .v (.int .i64 (wr .i64 (c5 + 1))))
   refine Sem.rg E0_ok [p3, (3, .st r27), p2, p4] [] ?_
   exact SemN.wk (s1 := ⟨Fr 58 [p3, (3, .st r27), p2, p4], []⟩) Wk.f1 (ih r27 (wr .i64 (c5 + 1)) h)
  ·rw [if_f hb7] at h
   refine Sem.exit ?_
   have hq := Option.some.inj h; subst hq
   exact ⟨rfl, Wk.f1⟩
theorem ref09_Format_l1_ok (x0 : (List (List (List Int)))) : ∀ (f : Nat) (c1 : (List UInt8)) (c2 : Int) (r : ((List UInt8))), ref09_Format_l1 x0 f c1 c2 = some r → SemN E0 ⟨none, false⟩ (pc cb_ref09_Format [1, 1, 0, 1, 0, 0]) f ⟨Fr 58 [(0, .sl 1 (x0.map (cdL 1 (cdL 1 cdI)).enc)), (3, .st c1), (4, .v (.int .i64 c2))], []⟩ (fun e s => e = (.exit 0) ∧ Wk E0 s ⟨Fr 58 [(3, .st r)], []⟩) := by
 intro f
 induction f with
 | zero => intro c1 c2 r h; cases h
 | succ f ih0 =>
  intro c1 c2 r h
  have ih := fun (c1 : (List UInt8)) (c2 : Int) => ih0 c1 c2 r
  unfold ref09_Format_l1 at h
  refine SemN.succ ?_
  refine Sem.seq ?_
  refine Sem.seq ?_
  let p1 : Nat × AV := (4, .v (.int .i64 c2))
  let p2 : Nat × AV := (0, .sl 1 (x0.map (cdL 1 (cdL 1 cdI)).enc))
  refine Sem.runS (s1 := ⟨Fr 58 [p2, (3, .st c1), p1, (10, .v (.bool (decide (c2 < (x0.length : Int)))))], []⟩) ?_ ?_
  ·refine RunS.segF (n := 58) E0_ok 2 [p2, (3, .st c1), p1, (7, .v (.int .i64 c2)), (8, .sl 1 (x0.map (cdL 1 (cdL 1 cdI)).enc))] [] kr ?_
   refine RunS.one E0_ok 0 rfl (op_q (wantedA_none rfl) rfl (q_len (a := .sl 1 (x0.map (cdL 1 (cdL 1 cdI)).enc)) kr (len_sl (el := 50) kr))) ?_
   exact RunS.last E0_ok
  refine Sem.cond (b := (decide (c2 < (x0.length : Int)))) kr (fun hb3 => ?_) (fun hb3 => ?_)
  ·rw [if_pos hb3] at h
   refine Sem.skip ?_
   refine Sem.seq ?_
   refine Sem.block ?_
   refine Sem.seq ?_
   refine Sem.sq E0_ok [p2, (3, .st c1), p1, (5, .v (.int .i64 0))] [] ?_
   refine Sem.block ?_
   obtain ⟨r29, hr29, h⟩ := Option.bind_eq_some_iff.1 h
   refine Sem.loop (n := 100000) ?_
   refine Sem.cutN (SemN.wk (s1 := ⟨Fr 58 [p2, (3, .st c1), p1, (5, .v (.int .i64 0))], []⟩) Wk.f1 (ref09_Format_l2_ok x0 c2 _ c1 0 _ hr29)) ?_
   by_cases hk30 : (okB (r29 ++ [10])) = true
   case neg => rw [if_neg hk30] at h; cases h
   rw [if_pos hk30] at h
   let p3 : Nat × AV := (3, .st (r29 ++ [10]))
   refine Sem.runS (s1 := ⟨Fr 58 [p2, p3, p1], []⟩) ?_ ?_
   ·refine RunS.segF (n := 58) E0_ok 1 [p2, p1, (55, .st r29)] [] kr ?_
    refine RunS.one E0_ok 0 rfl (op_q (wantedA_none rfl) rfl (q_bin (a := .st r29) (b := .st [10]) kr kr (cat_st hk30))) ?_
    exact RunS.last E0_ok
   let p4 : Nat × AV := (4, .v (.int .i64 (wr .i64 (c2 + 1))))
   refine Sem.rg E0_ok [p2, p3, p4] [] ?_
   exact SemN.wk (s1 := ⟨Fr 58 [p2, p3, p4], []⟩) Wk.f1 (ih (r29 ++ [10]) (wr .i64 (c2 + 1)) h)
  ·rw [if_f hb3] at h
   refine Sem.exit ?_
   have hq := Option.some.inj h; subst hq
   exact ⟨rfl, Wk.f1⟩
theorem ref09_Format_sem (x0 : (List (List (List Int)))) (r : (List UInt8)) (h : ref09_Format x0 = some r) : Sem E0 ⟨none, false⟩ cb_ref09_Format ⟨Fr 58 (pairs0 0 (cs_ref09_Format.enc (x0, ()))), []⟩ fun e s' => (e = .normal ∨ e = .ret) ∧ ∃ xs, resA E0.P s'.fr s'.hp Tryd.f16.results.toList = some xs ∧ retA xs = er_ref09_Format r := by
 unfold ref09_Format at h
 let p1 : Nat × AV := (0, .sl 1 (x0.map (cdL 1 (cdL 1 cdI)).enc))
 refine Sem.wkQ (Sem.wk (s1 := ⟨Fr 58 [p1], []⟩) Wk.f1 ?_)
 refine Sem.sq E0_ok [p1] [] ?_
 refine Sem.sq E0_ok [p1, (3, .st [])] [] ?_
 refine Sem.seq ?_
 refine Sem.sq E0_ok [p1, (3, .st []), (4, .v (.int .i64 0))] [] ?_
 refine Sem.block ?_
 obtain ⟨r32, hr32, h⟩ := Option.bind_eq_some_iff.1 h
 refine Sem.loop (n := 100000) ?_
 refine Sem.cutN (SemN.wk (s1 := ⟨Fr 58 [p1, (3, .st []), (4, .v (.int .i64 0))], []⟩) Wk.f1 (ref09_Format_l1_ok x0 _ [] 0 _ hr32)) ?_
 refine Sem.sq E0_ok [(2, .st r32)] [] ?_
 refine Sem.ret ?_
 have hq := Option.some.inj h; subst hq
 exact ⟨⟨Fr 58 [(2, .st r32)], []⟩, Wk.f1, .inr rfl, [.st r32], kr, kr⟩
def t_ref09_Format : List AV → Option AV := told cs_ref09_Format (fun a => ref09_Format a.1) er_ref09_Format
theorem x_ref09_Format : XOk 16 t_ref09_Format := by
 refine xok_of_sem Tryd.func16 (c := cb_ref09_Format) ?h2 ⟨Tryd.call16⟩ cs_ref09_Format (fun a => ref09_Format a.1) er_ref09_Format (fun a => (by show 1 ≤ 58; decide)) ?h3 ?h4
 case h2 => kernel_rfl
 case h3 => intro b; kernel_rfl
 case h4 => exact fun a b h => ref09_Format_sem a.1 b h
/- trestle/evening.guests -/
noncomputable def e_evening_guests : Env := E0
theorem e_evening_guests_ok : EnvOk e_evening_guests := E0_ok
noncomputable def cb_evening_guests : Code := codeOf Tryd.f82
def evening_guests (x0 : Int) : Option (Bool) :=
 (if (decide (x0 ≥ 1)) = true then some (decide (x0 ≤ 64)) else some false).bind fun j2 =>
 some j2
def cs_evening_guests : Cs (Int × Unit) := (csC cdI csN)
def er_evening_guests (r : Bool) : AV := cdB.enc r
theorem evening_guests_sem (x0 : Int) (r : Bool) (h : evening_guests x0 = some r) : Sem e_evening_guests ⟨none, false⟩ cb_evening_guests ⟨Fr 9 (pairs0 0 (cs_evening_guests.enc (x0, ()))), []⟩ fun e s' => (e = .normal ∨ e = .ret) ∧ ∃ xs, resA e_evening_guests.P s'.fr s'.hp Tryd.f82.results.toList = some xs ∧ retA xs = er_evening_guests r := by
 have he := e_evening_guests_ok
 unfold evening_guests at h
 refine Sem.wkQ (Sem.wk (s1 := ⟨Fr 9 [(0, .v (.int .i64 x0))], []⟩) Wk.f1 ?_)
 refine Sem.sq he [(0, .v (.int .i64 x0))] [] ?_
 refine Sem.seq ?_
 obtain ⟨j2, hj2, h⟩ := Option.bind_eq_some_iff.1 h
 refine Sem.runS (s1 := ⟨Fr 9 [(2, .v (.bool j2))], []⟩) ?_ ?_
 ·refine RunS.segF (n := 9) he 3 [(0, .v (.int .i64 x0)), (5, .v (.bool (decide (x0 ≥ 1))))] [] kr ?_
  rcases Bool.eq_false_or_eq_true (decide (x0 ≥ 1)) with hc3 | hc3
  ·rw [if_pos hc3] at hj2
   rw [hc3]
   refine RunS.segF (n := 9) he 4 [(2, .v (.bool (decide (x0 ≤ 64))))] [] kr ?_
   have hq := Option.some.inj hj2; subst hq
   exact RunS.done rfl Wk.f1
  ·rw [if_f hc3] at hj2
   rw [hc3]
   refine RunS.segF (n := 9) he 4 [(2, .v (.bool false))] [] kr ?_
   have hq := Option.some.inj hj2; subst hq
   exact RunS.done rfl Wk.f1
 refine Sem.ret ?_
 have hq := Option.some.inj h; subst hq
 exact ⟨⟨Fr 9 [(2, .v (.bool j2))], []⟩, Wk.f1, .inr rfl, [.v (.bool j2)], kr, kr⟩
def t_evening_guests : List AV → Option AV := told cs_evening_guests (fun a => evening_guests a.1) er_evening_guests
theorem x_evening_guests : XOk 82 t_evening_guests := by
 refine EnvOk.x (E := e_evening_guests) (contract_ok e_evening_guests_ok (fn := Tryd.f82) (c := cb_evening_guests) ?h1 ?h2 ⟨Tryd.call82⟩ cs_evening_guests (fun a => evening_guests a.1) er_evening_guests (fun a => (by show 1 ≤ 9; decide)) ?h3 ?h4) rfl rfl
 case h1 => kernel_rfl
 case h2 => kernel_rfl
 case h3 => intro b; kernel_rfl
 case h4 => exact fun a b h => evening_guests_sem a.1 b h
/- trestle/evening.fit -/
noncomputable def e_evening_fit : Env := (E0.withX 82 t_evening_guests)
theorem e_evening_fit_ok : EnvOk e_evening_fit := (EnvOk.withX E0_ok x_evening_guests.1 x_evening_guests.2)
noncomputable def cb_evening_fit : Code := codeOf Tryd.f67
def evening_fit_1 (x0 : Int) (x1 : (List Int)) : Nat → Int → Int → Option ((Int) ⊕ (Bool))
 | 0, _, _ => none
 | f + 1, c1, c2 =>
  if (decide (c2 < (x1.length : Int))) = true then
  (idx x1 c2).bind fun v4 =>
  (if (decide (v4 < 1)) = true then some true else some (decide (v4 > c1))).bind fun j6 =>
  if j6 = true then
  some (.inr false)
  else
  evening_fit_1 x0 x1 f (wr .i64 (c1 - v4)) (wr .i64 (c2 + 1))
  else
  some (.inl c1)
def evening_fit (x0 : Int) (x1 : (List Int)) : Option (Bool) :=
 (evening_fit_1 x0 x1 100000 x0 0).bind fun r11 =>
 match r11 with
 | (.inl w12) =>
  (evening_guests x0).bind fun v13 =>
  (if v13 = true then some (w12 == 0) else some false).bind fun j15 =>
  some j15
 | (.inr w17) =>
  some w17
def cs_evening_fit : Cs (Int × (List Int) × Unit) := (csC cdI (csC (cdL 1 cdI) csN))
def er_evening_fit (r : Bool) : AV := cdB.enc r
theorem evening_fit_1_ok (x0 : Int) (x1 : (List Int)) : ∀ (f : Nat) (c1 : Int) (c2 : Int) (r : (Int) ⊕ (Bool)), evening_fit_1 x0 x1 f c1 c2 = some r → SemN e_evening_fit ⟨none, false⟩ (pc cb_evening_fit [1, 1, 0, 1, 0, 0]) f ⟨Fr 32 [(0, .v (.int .i64 x0)), (5, .v (.int .i64 c1)), (9, .sl 1 (x1.map cdI.enc)), (10, .v (.int .i64 (x1.length : Int))), (11, .v (.int .i64 c2))], []⟩ (fun e s => match r with
 | (.inl w) => e = (.exit 0) ∧ Wk e_evening_fit s ⟨Fr 32 [(0, .v (.int .i64 x0)), (5, .v (.int .i64 w))], []⟩
 | (.inr w) => e = .ret ∧ Wk e_evening_fit s ⟨Fr 32 [(4, .v (.bool w))], []⟩) := by
 have he := e_evening_fit_ok
 intro f
 induction f with
 | zero => intro c1 c2 r h; cases h
 | succ f ih0 =>
  intro c1 c2 r h
  have ih := fun (c1 : Int) (c2 : Int) => ih0 c1 c2 r
  unfold evening_fit_1 at h
  refine SemN.succ ?_
  refine Sem.sq he [(0, .v (.int .i64 x0)), (5, .v (.int .i64 c1)), (9, .sl 1 (x1.map cdI.enc)), (10, .v (.int .i64 (x1.length : Int))), (11, .v (.int .i64 c2)), (12, .v (.bool (decide (c2 < (x1.length : Int)))))] [] ?_
  refine Sem.seq ?_
  refine Sem.cond (b := (decide (c2 < (x1.length : Int)))) kr (fun hb3 => ?_) (fun hb3 => ?_)
  ·rw [if_pos hb3] at h
   refine Sem.skip ?_
   refine Sem.seq ?_
   refine Sem.block ?_
   refine Sem.seq ?_
   obtain ⟨v4, hv4, h⟩ := Option.bind_eq_some_iff.1 h
   refine Sem.runS (s1 := ⟨Fr 32 [(0, .v (.int .i64 x0)), (5, .v (.int .i64 c1)), (7, .v (.int .i64 v4)), (9, .sl 1 (x1.map cdI.enc)), (10, .v (.int .i64 (x1.length : Int))), (11, .v (.int .i64 c2))], []⟩) ?_ ?_
   ·refine RunS.one he 0 rfl (op_q (wantedA_none rfl) rfl (q_indexAddr (a := .sl 1 (x1.map cdI.enc)) (b := .v (.int .i64 c2)) kr kr (ix_sl (e := cdI.enc) (el := 3) (k := 1) (ki := .i64) kr kr hv4))) ?_
    exact RunS.last he
   refine Sem.seq ?_
   refine Sem.seq ?_
   obtain ⟨j6, hj6, h⟩ := Option.bind_eq_some_iff.1 h
   refine Sem.runS (s1 := ⟨Fr 32 [(0, .v (.int .i64 x0)), (5, .v (.int .i64 c1)), (7, .v (.int .i64 v4)), (9, .sl 1 (x1.map cdI.enc)), (10, .v (.int .i64 (x1.length : Int))), (11, .v (.int .i64 c2)), (21, .v (.bool j6))], []⟩) ?_ ?_
   ·refine RunS.segF (n := 32) he 3 [(0, .v (.int .i64 x0)), (5, .v (.int .i64 c1)), (7, .v (.int .i64 v4)), (9, .sl 1 (x1.map cdI.enc)), (10, .v (.int .i64 (x1.length : Int))), (11, .v (.int .i64 c2)), (17, .v (.bool (decide (v4 < 1))))] [] kr ?_
    rcases Bool.eq_false_or_eq_true (decide (v4 < 1)) with hc9 | hc9
    ·rw [if_pos hc9] at hj6
     rw [hc9]
     refine RunS.segF (n := 32) he 4 [(0, .v (.int .i64 x0)), (5, .v (.int .i64 c1)), (7, .v (.int .i64 v4)), (9, .sl 1 (x1.map cdI.enc)), (10, .v (.int .i64 (x1.length : Int))), (11, .v (.int .i64 c2)), (18, .tp []), (19, .tp []), (20, .tp []), (21, .v (.bool true))] [] kr ?_
     have hq := Option.some.inj hj6; subst hq
     exact RunS.done rfl Wk.f1
    ·rw [if_f hc9] at hj6
     rw [hc9]
     refine RunS.segF (n := 32) he 4 [(0, .v (.int .i64 x0)), (5, .v (.int .i64 c1)), (7, .v (.int .i64 v4)), (9, .sl 1 (x1.map cdI.enc)), (10, .v (.int .i64 (x1.length : Int))), (11, .v (.int .i64 c2)), (18, .v (.int .i64 v4)), (19, .v (.int .i64 c1)), (20, .v (.bool (decide (v4 > c1)))), (21, .v (.bool (decide (v4 > c1))))] [] kr ?_
     have hq := Option.some.inj hj6; subst hq
     exact RunS.done rfl Wk.f1
   refine Sem.cond (b := j6) kr (fun hb7 => ?_) (fun hb7 => ?_)
   ·rw [if_pos hb7] at h
    refine Sem.sq he [(4, .v (.bool false))] [] ?_
    refine Sem.ret ?_
    have hq := Option.some.inj h; subst hq
    exact ⟨rfl, Wk.f1⟩
   ·rw [if_f hb7] at h
    refine Sem.skip ?_
    refine Sem.rg he [(0, .v (.int .i64 x0)), (5, .v (.int .i64 (wr .i64 (c1 - v4)))), (9, .sl 1 (x1.map cdI.enc)), (10, .v (.int .i64 (x1.length : Int))), (11, .v (.int .i64 c2))] [] ?_
    refine Sem.rg he [(0, .v (.int .i64 x0)), (5, .v (.int .i64 (wr .i64 (c1 - v4)))), (9, .sl 1 (x1.map cdI.enc)), (10, .v (.int .i64 (x1.length : Int))), (11, .v (.int .i64 (wr .i64 (c2 + 1))))] [] ?_
    exact SemN.wk (s1 := ⟨Fr 32 [(0, .v (.int .i64 x0)), (5, .v (.int .i64 (wr .i64 (c1 - v4)))), (9, .sl 1 (x1.map cdI.enc)), (10, .v (.int .i64 (x1.length : Int))), (11, .v (.int .i64 (wr .i64 (c2 + 1))))], []⟩) Wk.f1 (ih (wr .i64 (c1 - v4)) (wr .i64 (c2 + 1)) h)
  ·rw [if_f hb3] at h
   refine Sem.exit ?_
   have hq := Option.some.inj h; subst hq
   exact ⟨rfl, Wk.f1⟩
theorem evening_fit_sem (x0 : Int) (x1 : (List Int)) (r : Bool) (h : evening_fit x0 x1 = some r) : Sem e_evening_fit ⟨none, false⟩ cb_evening_fit ⟨Fr 32 (pairs0 0 (cs_evening_fit.enc (x0, x1, ()))), []⟩ fun e s' => (e = .normal ∨ e = .ret) ∧ ∃ xs, resA e_evening_fit.P s'.fr s'.hp Tryd.f67.results.toList = some xs ∧ retA xs = er_evening_fit r := by
 have he := e_evening_fit_ok
 unfold evening_fit at h
 refine Sem.wkQ (Sem.wk (s1 := ⟨Fr 32 [(0, .v (.int .i64 x0)), (1, .sl 1 (x1.map cdI.enc))], []⟩) Wk.f1 ?_)
 refine Sem.sq he [(0, .v (.int .i64 x0)), (1, .sl 1 (x1.map cdI.enc))] [] ?_
 refine Sem.sq he [(0, .v (.int .i64 x0)), (1, .sl 1 (x1.map cdI.enc)), (5, .v (.int .i64 x0))] [] ?_
 refine Sem.seq ?_
 refine Sem.seq ?_
 refine Sem.runS (s1 := ⟨Fr 32 [(0, .v (.int .i64 x0)), (5, .v (.int .i64 x0)), (9, .sl 1 (x1.map cdI.enc)), (10, .v (.int .i64 (x1.length : Int))), (11, .v (.int .i64 0))], []⟩) ?_ ?_
 ·refine RunS.segF (n := 32) he 1 [(0, .v (.int .i64 x0)), (5, .v (.int .i64 x0)), (9, .sl 1 (x1.map cdI.enc))] [] kr ?_
  refine RunS.one he 0 rfl (op_q (wantedA_none rfl) rfl (q_len (a := .sl 1 (x1.map cdI.enc)) kr (len_sl (el := 3) kr))) ?_
  exact RunS.last he
 refine Sem.block ?_
 obtain ⟨r11, hr11, h⟩ := Option.bind_eq_some_iff.1 h
 refine Sem.loop (n := 100000) ?_
 rcases r11 with w12 | w17
 ·try dsimp only at h
  refine Sem.cutN (SemN.wk (s1 := ⟨Fr 32 [(0, .v (.int .i64 x0)), (5, .v (.int .i64 x0)), (9, .sl 1 (x1.map cdI.enc)), (10, .v (.int .i64 (x1.length : Int))), (11, .v (.int .i64 0))], []⟩) Wk.f1 (evening_fit_1_ok x0 x1 _ x0 0 _ hr11)) ?_
  refine Sem.seq ?_
  obtain ⟨v13, hv13, h⟩ := Option.bind_eq_some_iff.1 h
  obtain ⟨j15, hj15, h⟩ := Option.bind_eq_some_iff.1 h
  refine Sem.runS (s1 := ⟨Fr 32 [(4, .v (.bool j15))], []⟩) ?_ ?_
  ·refine RunS.segF (n := 32) he 1 [(5, .v (.int .i64 w12)), (26, .v (.int .i64 x0))] [] kr ?_
   refine RunS.call he (fid := 82) (s := cs_evening_guests) (F := fun a => evening_guests a.1) (er := er_evening_guests) (xs := [.v (.int .i64 x0)]) (a := (x0, ())) rfl (wantedA_none rfl) kr kr kr kr (Sns.cons (Sn.enc (c := cdI) (v := x0)) Sns.nil) (.inl kr) hv13 ?_
   refine RunS.segF (n := 32) he 1 [(5, .v (.int .i64 w12)), (28, .v (.bool v13))] [] kr ?_
   rcases Bool.eq_false_or_eq_true v13 with hc16 | hc16
   ·rw [if_pos hc16] at hj15
    rw [hc16]
    refine RunS.segF (n := 32) he 4 [(4, .v (.bool (w12 == 0)))] [] kr ?_
    have hq := Option.some.inj hj15; subst hq
    exact RunS.done rfl Wk.f1
   ·rw [if_f hc16] at hj15
    rw [hc16]
    refine RunS.segF (n := 32) he 4 [(4, .v (.bool false))] [] kr ?_
    have hq := Option.some.inj hj15; subst hq
    exact RunS.done rfl Wk.f1
  refine Sem.ret ?_
  have hq := Option.some.inj h; subst hq
  exact ⟨⟨Fr 32 [(4, .v (.bool j15))], []⟩, Wk.f1, .inr rfl, [.v (.bool j15)], kr, kr⟩
 ·try dsimp only at h
  refine Sem.cutN (SemN.wk (s1 := ⟨Fr 32 [(0, .v (.int .i64 x0)), (5, .v (.int .i64 x0)), (9, .sl 1 (x1.map cdI.enc)), (10, .v (.int .i64 (x1.length : Int))), (11, .v (.int .i64 0))], []⟩) Wk.f1 (evening_fit_1_ok x0 x1 _ x0 0 _ hr11)) ?_
  have hq := Option.some.inj h; subst hq
  exact ⟨⟨Fr 32 [(4, .v (.bool w17))], []⟩, Wk.f1, .inr rfl, [.v (.bool w17)], kr, kr⟩
def t_evening_fit : List AV → Option AV := told cs_evening_fit (fun a => evening_fit a.1 a.2.1) er_evening_fit
theorem x_evening_fit : XOk 67 t_evening_fit := by
 refine EnvOk.x (E := e_evening_fit) (contract_ok e_evening_fit_ok (fn := Tryd.f67) (c := cb_evening_fit) ?h1 ?h2 ⟨Tryd.call67⟩ cs_evening_fit (fun a => evening_fit a.1 a.2.1) er_evening_fit (fun a => (by show 2 ≤ 32; decide)) ?h3 ?h4) rfl rfl
 case h1 => kernel_rfl
 case h2 => kernel_rfl
 case h3 => intro b; kernel_rfl
 case h4 => exact fun a b h => evening_fit_sem a.1 a.2.1 b h
/- trestle/evening.check -/
noncomputable def e_evening_check : Env := E0
theorem e_evening_check_ok : EnvOk e_evening_check := E0_ok
noncomputable def cb_evening_check : Code := codeOf Tryd.f83
def evening_check_j3 (x0 : Int) (x1 : (List Int)) (x2 : (List (List Int))) (c9 : Int) (v11 : (List Int)) (c18 : Int) (c20 : Bool) (c22 : Int) (v24 : Int) (j32 : Bool × (List Bool)) (v33 : Bool) : Option ((Int)) :=
 if (!v33) = true then
 some (wr .i64 (c18 + 1))
 else
 some c18
def evening_check_2 (x0 : Int) (x1 : (List Int)) (x2 : (List (List Int))) (c9 : Int) (v11 : (List Int)) : Nat → Int → Bool → Bool → (List Bool) → Int → Option ((Int × Bool × Bool × (List Bool)))
 | 0, _, _, _, _, _ => none
 | f + 1, c18, c19, c20, c21, c22 =>
  if (decide (c22 < (v11.length : Int))) = true then
  (idx v11 c22).bind fun v24 =>
  (if (decide (v24 < 0)) = true then some (c21, true) else some (c21, (decide (v24 ≥ x0)))).bind fun j27 =>
  if j27.2 = true then
  evening_check_2 x0 x1 x2 c9 v11 f c18 c19 true j27.1 (wr .i64 (c22 + 1))
  else
  (if c19 = true then some (true, j27.1) else (idx j27.1 v24).bind fun v29 =>
  some (v29, j27.1)).bind fun j32 =>
  (idx j32.2 v24).bind fun v33 =>
  (evening_check_j3 x0 x1 x2 c9 v11 c18 c20 c22 v24 j32 v33).bind fun r36 =>
  (idx j32.2 v24).bind fun v37 =>
  evening_check_2 x0 x1 x2 c9 v11 f r36 j32.1 c20 (j32.2.set v24.toNat true) (wr .i64 (c22 + 1))
  else
  some (c18, c19, c20, c21)
def evening_check_1 (x0 : Int) (x1 : (List Int)) (x2 : (List (List Int))) : Nat → Int → Bool → Bool → (List Bool) → Int → Option ((Int × Bool × Bool) ⊕ (Int))
 | 0, _, _, _, _, _ => none
 | f + 1, c5, c6, c7, c8, c9 =>
  if (decide (c9 < (x2.length : Int))) = true then
  (idx x2 c9).bind fun v11 =>
  (if ((v11.length : Int) == 0) = true then some (c8, true) else if (decide ((x1.length : Int) > 0)) = true then (idx x1 c9).bind fun v12 =>
  some (c8, ((v11.length : Int) != v12)) else some (c8, false)).bind fun j15 =>
  if j15.2 = true then
  some (.inr 2)
  else
  (evening_check_2 x0 x1 x2 c9 v11 100000 c5 c6 c7 j15.1 0).bind fun r44 =>
  evening_check_1 x0 x1 x2 f r44.1 r44.2.1 r44.2.2.1 r44.2.2.2 (wr .i64 (c9 + 1))
  else
  some (.inl (c5, c6, c7))
def evening_check (x0 : Int) (x1 : (List Int)) (x2 : (List (List Int))) : Option (Int) :=
 (if (decide ((x1.length : Int) > 0)) = true then some ((x1.length : Int) != (x2.length : Int)) else some false).bind fun j2 =>
 if j2 = true then
 some 2
 else
 if (mkOk 1 x0) = true then
 (evening_check_1 x0 x1 x2 100000 0 false false (List.replicate x0.toNat false) 0).bind fun r50 =>
 match r50 with
 | (.inl w51) =>
  if w51.2.2 = true then
  some 6
  else
  if w51.2.1 = true then
  some 5
  else
  if (decide (w51.1 < x0)) = true then
  some 2
  else
  some 0
 | (.inr w55) =>
  some w55
 else none
def cs_evening_check : Cs (Int × (List Int) × (List (List Int)) × Unit) := (csC cdI (csC (cdL 1 cdI) (csC (cdL 1 (cdL 1 cdI)) csN)))
def er_evening_check (r : Int) : AV := cdI.enc r
theorem evening_check_j3_ok (x0 : Int) (x1 : (List Int)) (x2 : (List (List Int))) (c9 : Int) (v11 : (List Int)) (c18 : Int) (c20 : Bool) (c22 : Int) (v24 : Int) (j32 : Bool × (List Bool)) (v33 : Bool) (r : (Int)) (h : evening_check_j3 x0 x1 x2 c9 v11 c18 c20 c22 v24 j32 v33 = some r) : Sem e_evening_check ⟨none, false⟩ (pc cb_evening_check [1, 1, 1, 1, 0, 1, 0, 0, 1, 1, 0, 0, 1, 1, 1, 0, 0, 1, 1, 0, 0, 1, 1, 1, 0, 1]) ⟨Fr 91 [(0, .v (.int .i64 x0)), (1, .sl 1 (x1.map cdI.enc)), (7, .v (.int .i64 c18)), (8, .v (.bool j32.1)), (9, .v (.bool c20)), (10, .rf 0 0 j32.2.length j32.2.length), (14, .v (.int .i64 v24)), (27, .sl 1 (x2.map (cdL 1 cdI).enc)), (28, .v (.int .i64 (x2.length : Int))), (29, .v (.int .i64 c9)), (51, .sl 1 (v11.map cdI.enc)), (52, .v (.int .i64 (v11.length : Int))), (53, .v (.int .i64 c22)), (75, .v (.bool (!v33)))], [some ⟨1, 4, (j32.2.map cdB.enc), false⟩]⟩ (fun e s => e = .normal ∧ Wk e_evening_check s ⟨Fr 91 [(0, .v (.int .i64 x0)), (1, .sl 1 (x1.map cdI.enc)), (7, .v (.int .i64 r)), (8, .v (.bool j32.1)), (9, .v (.bool c20)), (10, .rf 0 0 j32.2.length j32.2.length), (14, .v (.int .i64 v24)), (27, .sl 1 (x2.map (cdL 1 cdI).enc)), (28, .v (.int .i64 (x2.length : Int))), (29, .v (.int .i64 c9)), (51, .sl 1 (v11.map cdI.enc)), (52, .v (.int .i64 (v11.length : Int))), (53, .v (.int .i64 c22))], [some ⟨1, 4, (j32.2.map cdB.enc), false⟩]⟩) := by
 unfold evening_check_j3 at h
 refine Sem.cond (b := (!v33)) kr (fun hb34 => ?_) (fun hb34 => ?_)
 ·rw [if_pos hb34] at h
  refine Sem.rg e_evening_check_ok [(0, .v (.int .i64 x0)), (1, .sl 1 (x1.map cdI.enc)), (7, .v (.int .i64 (wr .i64 (c18 + 1)))), (8, .v (.bool j32.1)), (9, .v (.bool c20)), (10, .rf 0 0 j32.2.length j32.2.length), (14, .v (.int .i64 v24)), (27, .sl 1 (x2.map (cdL 1 cdI).enc)), (28, .v (.int .i64 (x2.length : Int))), (29, .v (.int .i64 c9)), (51, .sl 1 (v11.map cdI.enc)), (52, .v (.int .i64 (v11.length : Int))), (53, .v (.int .i64 c22))] [some ⟨1, 4, (j32.2.map cdB.enc), false⟩] ?_
  have hq := Option.some.inj h; subst hq
  exact ⟨rfl, (Wk.s3 [0] ⟨⟨_, rfl, bu_own⟩, trivial⟩ ⟨lv, lv, lv, lv, lv, lv, lv, lv, lv, lv, lv, lv, lv, trivial⟩)⟩
 ·rw [if_f hb34] at h
  refine Sem.skip ?_
  have hq := Option.some.inj h; subst hq
  exact ⟨rfl, (Wk.s3 [0] ⟨⟨_, rfl, bu_own⟩, trivial⟩ ⟨lv, lv, lv, lv, lv, lv, lv, lv, lv, lv, lv, lv, lv, trivial⟩)⟩
theorem evening_check_2_ok (x0 : Int) (x1 : (List Int)) (x2 : (List (List Int))) (c9 : Int) (v11 : (List Int)) : ∀ (f : Nat) (c18 : Int) (c19 : Bool) (c20 : Bool) (c21 : (List Bool)) (c22 : Int) (r : (Int × Bool × Bool × (List Bool))), evening_check_2 x0 x1 x2 c9 v11 f c18 c19 c20 c21 c22 = some r → SemN e_evening_check ⟨none, false⟩ (pc cb_evening_check [1, 1, 1, 1, 0, 1, 0, 0, 1, 1, 0, 0, 1, 1, 1, 0, 0]) f ⟨Fr 91 [(0, .v (.int .i64 x0)), (1, .sl 1 (x1.map cdI.enc)), (7, .v (.int .i64 c18)), (8, .v (.bool c19)), (9, .v (.bool c20)), (10, .rf 0 0 c21.length c21.length), (27, .sl 1 (x2.map (cdL 1 cdI).enc)), (28, .v (.int .i64 (x2.length : Int))), (29, .v (.int .i64 c9)), (51, .sl 1 (v11.map cdI.enc)), (52, .v (.int .i64 (v11.length : Int))), (53, .v (.int .i64 c22))], [some ⟨1, 4, (c21.map cdB.enc), false⟩]⟩ (fun e s => e = (.exit 2) ∧ Wk e_evening_check s ⟨Fr 91 [(0, .v (.int .i64 x0)), (1, .sl 1 (x1.map cdI.enc)), (7, .v (.int .i64 r.1)), (8, .v (.bool r.2.1)), (9, .v (.bool r.2.2.1)), (10, .rf 0 0 r.2.2.2.length r.2.2.2.length), (27, .sl 1 (x2.map (cdL 1 cdI).enc)), (28, .v (.int .i64 (x2.length : Int))), (29, .v (.int .i64 c9))], [some ⟨1, 4, (r.2.2.2.map cdB.enc), false⟩]⟩) := by
 have he := e_evening_check_ok
 intro f
 induction f with
 | zero => intro c18 c19 c20 c21 c22 r h; cases h
 | succ f ih0 =>
  intro c18 c19 c20 c21 c22 r h
  have ih := fun (c18 : Int) (c19 : Bool) (c20 : Bool) (c21 : (List Bool)) (c22 : Int) => ih0 c18 c19 c20 c21 c22 r
  unfold evening_check_2 at h
  refine SemN.succ ?_
  refine Sem.sq he [(0, .v (.int .i64 x0)), (1, .sl 1 (x1.map cdI.enc)), (7, .v (.int .i64 c18)), (8, .v (.bool c19)), (9, .v (.bool c20)), (10, .rf 0 0 c21.length c21.length), (27, .sl 1 (x2.map (cdL 1 cdI).enc)), (28, .v (.int .i64 (x2.length : Int))), (29, .v (.int .i64 c9)), (51, .sl 1 (v11.map cdI.enc)), (52, .v (.int .i64 (v11.length : Int))), (53, .v (.int .i64 c22)), (54, .v (.bool (decide (c22 < (v11.length : Int)))))] [some ⟨1, 4, (c21.map cdB.enc), false⟩] ?_
  refine Sem.seq ?_
  refine Sem.cond (b := (decide (c22 < (v11.length : Int)))) kr (fun hb23 => ?_) (fun hb23 => ?_)
  ·rw [if_pos hb23] at h
   refine Sem.skip ?_
   refine Sem.seq ?_
   refine Sem.block ?_
   refine Sem.seq ?_
   obtain ⟨v24, hv24, h⟩ := Option.bind_eq_some_iff.1 h
   refine Sem.runS (s1 := ⟨Fr 91 [(0, .v (.int .i64 x0)), (1, .sl 1 (x1.map cdI.enc)), (7, .v (.int .i64 c18)), (8, .v (.bool c19)), (9, .v (.bool c20)), (10, .rf 0 0 c21.length c21.length), (14, .v (.int .i64 v24)), (27, .sl 1 (x2.map (cdL 1 cdI).enc)), (28, .v (.int .i64 (x2.length : Int))), (29, .v (.int .i64 c9)), (51, .sl 1 (v11.map cdI.enc)), (52, .v (.int .i64 (v11.length : Int))), (53, .v (.int .i64 c22))], [some ⟨1, 4, (c21.map cdB.enc), false⟩]⟩) ?_ ?_
   ·refine RunS.one he 0 rfl (op_q (wantedA_none rfl) rfl (q_indexAddr (a := .sl 1 (v11.map cdI.enc)) (b := .v (.int .i64 c22)) kr kr (ix_sl (e := cdI.enc) (el := 3) (k := 1) (ki := .i64) kr kr hv24))) ?_
    exact RunS.last he
   refine Sem.seq ?_
   refine Sem.seq ?_
   obtain ⟨j27, hj27, h⟩ := Option.bind_eq_some_iff.1 h
   refine Sem.runS (s1 := ⟨Fr 91 [(0, .v (.int .i64 x0)), (1, .sl 1 (x1.map cdI.enc)), (7, .v (.int .i64 c18)), (8, .v (.bool c19)), (9, .v (.bool c20)), (10, .rf 0 0 j27.1.length j27.1.length), (14, .v (.int .i64 v24)), (27, .sl 1 (x2.map (cdL 1 cdI).enc)), (28, .v (.int .i64 (x2.length : Int))), (29, .v (.int .i64 c9)), (51, .sl 1 (v11.map cdI.enc)), (52, .v (.int .i64 (v11.length : Int))), (53, .v (.int .i64 c22)), (63, .v (.bool j27.2))], [some ⟨1, 4, (j27.1.map cdB.enc), false⟩]⟩) ?_ ?_
   ·refine RunS.segF (n := 91) he 3 [(0, .v (.int .i64 x0)), (1, .sl 1 (x1.map cdI.enc)), (7, .v (.int .i64 c18)), (8, .v (.bool c19)), (9, .v (.bool c20)), (10, .rf 0 0 c21.length c21.length), (14, .v (.int .i64 v24)), (27, .sl 1 (x2.map (cdL 1 cdI).enc)), (28, .v (.int .i64 (x2.length : Int))), (29, .v (.int .i64 c9)), (51, .sl 1 (v11.map cdI.enc)), (52, .v (.int .i64 (v11.length : Int))), (53, .v (.int .i64 c22)), (59, .v (.bool (decide (v24 < 0))))] [some ⟨1, 4, (c21.map cdB.enc), false⟩] kr ?_
    rcases Bool.eq_false_or_eq_true (decide (v24 < 0)) with hc39 | hc39
    ·rw [if_pos hc39] at hj27
     rw [hc39]
     refine RunS.segF (n := 91) he 4 [(0, .v (.int .i64 x0)), (1, .sl 1 (x1.map cdI.enc)), (7, .v (.int .i64 c18)), (8, .v (.bool c19)), (9, .v (.bool c20)), (10, .rf 0 0 c21.length c21.length), (14, .v (.int .i64 v24)), (27, .sl 1 (x2.map (cdL 1 cdI).enc)), (28, .v (.int .i64 (x2.length : Int))), (29, .v (.int .i64 c9)), (51, .sl 1 (v11.map cdI.enc)), (52, .v (.int .i64 (v11.length : Int))), (53, .v (.int .i64 c22)), (60, .tp []), (61, .tp []), (62, .tp []), (63, .v (.bool true))] [some ⟨1, 4, (c21.map cdB.enc), false⟩] kr ?_
     have hq := Option.some.inj hj27; subst hq
     exact RunS.done rfl (Wk.s3 [0] ⟨⟨_, rfl, bu_own⟩, trivial⟩ ⟨lv, lv, lv, lv, lv, lv, lv, lv, lv, lv, lv, lv, lv, lv, trivial⟩)
    ·rw [if_f hc39] at hj27
     rw [hc39]
     refine RunS.segF (n := 91) he 4 [(0, .v (.int .i64 x0)), (1, .sl 1 (x1.map cdI.enc)), (7, .v (.int .i64 c18)), (8, .v (.bool c19)), (9, .v (.bool c20)), (10, .rf 0 0 c21.length c21.length), (14, .v (.int .i64 v24)), (27, .sl 1 (x2.map (cdL 1 cdI).enc)), (28, .v (.int .i64 (x2.length : Int))), (29, .v (.int .i64 c9)), (51, .sl 1 (v11.map cdI.enc)), (52, .v (.int .i64 (v11.length : Int))), (53, .v (.int .i64 c22)), (60, .v (.int .i64 v24)), (61, .v (.int .i64 x0)), (62, .v (.bool (decide (v24 ≥ x0)))), (63, .v (.bool (decide (v24 ≥ x0))))] [some ⟨1, 4, (c21.map cdB.enc), false⟩] kr ?_
     have hq := Option.some.inj hj27; subst hq
     exact RunS.done rfl (Wk.s3 [0] ⟨⟨_, rfl, bu_own⟩, trivial⟩ ⟨lv, lv, lv, lv, lv, lv, lv, lv, lv, lv, lv, lv, lv, lv, trivial⟩)
   refine Sem.cond (b := j27.2) kr (fun hb28 => ?_) (fun hb28 => ?_)
   ·rw [if_pos hb28] at h
    refine Sem.sq he [(0, .v (.int .i64 x0)), (1, .sl 1 (x1.map cdI.enc)), (7, .v (.int .i64 c18)), (8, .v (.bool c19)), (9, .v (.bool true)), (10, .rf 0 0 j27.1.length j27.1.length), (27, .sl 1 (x2.map (cdL 1 cdI).enc)), (28, .v (.int .i64 (x2.length : Int))), (29, .v (.int .i64 c9)), (51, .sl 1 (v11.map cdI.enc)), (52, .v (.int .i64 (v11.length : Int))), (53, .v (.int .i64 c22))] [some ⟨1, 4, (j27.1.map cdB.enc), false⟩] ?_
    refine Sem.exit ?_
    refine Sem.rg he [(0, .v (.int .i64 x0)), (1, .sl 1 (x1.map cdI.enc)), (7, .v (.int .i64 c18)), (8, .v (.bool c19)), (9, .v (.bool true)), (10, .rf 0 0 j27.1.length j27.1.length), (27, .sl 1 (x2.map (cdL 1 cdI).enc)), (28, .v (.int .i64 (x2.length : Int))), (29, .v (.int .i64 c9)), (51, .sl 1 (v11.map cdI.enc)), (52, .v (.int .i64 (v11.length : Int))), (53, .v (.int .i64 (wr .i64 (c22 + 1))))] [some ⟨1, 4, (j27.1.map cdB.enc), false⟩] ?_
    exact SemN.wk (s1 := ⟨Fr 91 [(0, .v (.int .i64 x0)), (1, .sl 1 (x1.map cdI.enc)), (7, .v (.int .i64 c18)), (8, .v (.bool c19)), (9, .v (.bool true)), (10, .rf 0 0 j27.1.length j27.1.length), (27, .sl 1 (x2.map (cdL 1 cdI).enc)), (28, .v (.int .i64 (x2.length : Int))), (29, .v (.int .i64 c9)), (51, .sl 1 (v11.map cdI.enc)), (52, .v (.int .i64 (v11.length : Int))), (53, .v (.int .i64 (wr .i64 (c22 + 1))))], [some ⟨1, 4, (j27.1.map cdB.enc), false⟩]⟩) (Wk.s3 [0] ⟨⟨_, rfl, bu_own⟩, trivial⟩ ⟨lv, lv, lv, lv, lv, lv, lv, lv, lv, lv, lv, lv, trivial⟩) (ih c18 c19 true j27.1 (wr .i64 (c22 + 1)) h)
   ·rw [if_f hb28] at h
    refine Sem.skip ?_
    refine Sem.seq ?_
    obtain ⟨j32, hj32, h⟩ := Option.bind_eq_some_iff.1 h
    refine Sem.runS (s1 := ⟨Fr 91 [(0, .v (.int .i64 x0)), (1, .sl 1 (x1.map cdI.enc)), (7, .v (.int .i64 c18)), (8, .v (.bool j32.1)), (9, .v (.bool c20)), (10, .rf 0 0 j32.2.length j32.2.length), (14, .v (.int .i64 v24)), (27, .sl 1 (x2.map (cdL 1 cdI).enc)), (28, .v (.int .i64 (x2.length : Int))), (29, .v (.int .i64 c9)), (51, .sl 1 (v11.map cdI.enc)), (52, .v (.int .i64 (v11.length : Int))), (53, .v (.int .i64 c22))], [some ⟨1, 4, (j32.2.map cdB.enc), false⟩]⟩) ?_ ?_
    ·refine RunS.segF (n := 91) he 2 [(0, .v (.int .i64 x0)), (1, .sl 1 (x1.map cdI.enc)), (7, .v (.int .i64 c18)), (9, .v (.bool c20)), (10, .rf 0 0 j27.1.length j27.1.length), (14, .v (.int .i64 v24)), (27, .sl 1 (x2.map (cdL 1 cdI).enc)), (28, .v (.int .i64 (x2.length : Int))), (29, .v (.int .i64 c9)), (51, .sl 1 (v11.map cdI.enc)), (52, .v (.int .i64 (v11.length : Int))), (53, .v (.int .i64 c22)), (65, .v (.bool c19))] [some ⟨1, 4, (j27.1.map cdB.enc), false⟩] kr ?_
     rcases Bool.eq_false_or_eq_true c19 with hc38 | hc38
     ·rw [if_pos hc38] at hj32
      rw [hc38]
      refine RunS.segF (n := 91) he 6 [(0, .v (.int .i64 x0)), (1, .sl 1 (x1.map cdI.enc)), (7, .v (.int .i64 c18)), (8, .v (.bool true)), (9, .v (.bool c20)), (10, .rf 0 0 j27.1.length j27.1.length), (14, .v (.int .i64 v24)), (27, .sl 1 (x2.map (cdL 1 cdI).enc)), (28, .v (.int .i64 (x2.length : Int))), (29, .v (.int .i64 c9)), (51, .sl 1 (v11.map cdI.enc)), (52, .v (.int .i64 (v11.length : Int))), (53, .v (.int .i64 c22)), (66, .tp []), (67, .tp []), (68, .tp []), (69, .tp [])] [some ⟨1, 4, (j27.1.map cdB.enc), false⟩] kr ?_
      have hq := Option.some.inj hj32; subst hq
      exact RunS.done rfl (Wk.s3 [0] ⟨⟨_, rfl, bu_own⟩, trivial⟩ ⟨lv, lv, lv, lv, lv, lv, lv, lv, lv, lv, lv, lv, lv, trivial⟩)
     ·rw [if_f hc38] at hj32
      rw [hc38]
      refine RunS.segF (n := 91) he 2 [(0, .v (.int .i64 x0)), (1, .sl 1 (x1.map cdI.enc)), (7, .v (.int .i64 c18)), (9, .v (.bool c20)), (10, .rf 0 0 j27.1.length j27.1.length), (14, .v (.int .i64 v24)), (27, .sl 1 (x2.map (cdL 1 cdI).enc)), (28, .v (.int .i64 (x2.length : Int))), (29, .v (.int .i64 c9)), (51, .sl 1 (v11.map cdI.enc)), (52, .v (.int .i64 (v11.length : Int))), (53, .v (.int .i64 c22)), (65, .v (.bool false)), (66, .rf 0 0 j27.1.length j27.1.length), (67, .v (.int .i64 v24))] [some ⟨1, 4, (j27.1.map cdB.enc), false⟩] kr ?_
      obtain ⟨v29, hv29, hj32⟩ := Option.bind_eq_some_iff.1 hj32
      refine RunS.one he 0 rfl (op_q kr rfl (q_indexAddr (a := .rf 0 0 j27.1.length j27.1.length) (b := .v (.int .i64 v24)) kr kr (ix_rl (e := cdB.enc) (xs := j27.1) (t' := 4) (el := 4) (k := 1) (ki := .i64) kr kr kr hv29))) ?_
      refine RunS.one he 0 rfl (op_q kr rfl (q_load (p := .pt 0 v24.toNat 0) kr (ld_blk (B := ⟨1, 4, (j27.1.map cdB.enc), false⟩) (m := 1) (g := false) (e := cdB.enc) (xs := j27.1) kr kr kr rfl (idx_at hv29).2 kr))) ?_
      refine RunS.segF (n := 91) he 2 [(0, .v (.int .i64 x0)), (1, .sl 1 (x1.map cdI.enc)), (7, .v (.int .i64 c18)), (8, .v (.bool v29)), (9, .v (.bool c20)), (10, .rf 0 0 j27.1.length j27.1.length), (14, .v (.int .i64 v24)), (27, .sl 1 (x2.map (cdL 1 cdI).enc)), (28, .v (.int .i64 (x2.length : Int))), (29, .v (.int .i64 c9)), (51, .sl 1 (v11.map cdI.enc)), (52, .v (.int .i64 (v11.length : Int))), (53, .v (.int .i64 c22)), (66, .rf 0 0 j27.1.length j27.1.length), (67, .v (.int .i64 v24)), (68, .pt 0 v24.toNat 0), (69, .v (.bool v29))] [some ⟨1, 4, (j27.1.map cdB.enc), false⟩] kr ?_
      have hq := Option.some.inj hj32; subst hq
      exact RunS.done rfl (Wk.s3 [0] ⟨⟨_, rfl, bu_own⟩, trivial⟩ ⟨lv, lv, lv, lv, lv, lv, lv, lv, lv, lv, lv, lv, lv, trivial⟩)
    refine Sem.seq ?_
    refine Sem.seq ?_
    obtain ⟨v33, hv33, h⟩ := Option.bind_eq_some_iff.1 h
    refine Sem.runS (s1 := ⟨Fr 91 [(0, .v (.int .i64 x0)), (1, .sl 1 (x1.map cdI.enc)), (7, .v (.int .i64 c18)), (8, .v (.bool j32.1)), (9, .v (.bool c20)), (10, .rf 0 0 j32.2.length j32.2.length), (14, .v (.int .i64 v24)), (27, .sl 1 (x2.map (cdL 1 cdI).enc)), (28, .v (.int .i64 (x2.length : Int))), (29, .v (.int .i64 c9)), (51, .sl 1 (v11.map cdI.enc)), (52, .v (.int .i64 (v11.length : Int))), (53, .v (.int .i64 c22)), (75, .v (.bool (!v33)))], [some ⟨1, 4, (j32.2.map cdB.enc), false⟩]⟩) ?_ ?_
    ·refine RunS.segF (n := 91) he 2 [(0, .v (.int .i64 x0)), (1, .sl 1 (x1.map cdI.enc)), (7, .v (.int .i64 c18)), (8, .v (.bool j32.1)), (9, .v (.bool c20)), (10, .rf 0 0 j32.2.length j32.2.length), (14, .v (.int .i64 v24)), (27, .sl 1 (x2.map (cdL 1 cdI).enc)), (28, .v (.int .i64 (x2.length : Int))), (29, .v (.int .i64 c9)), (51, .sl 1 (v11.map cdI.enc)), (52, .v (.int .i64 (v11.length : Int))), (53, .v (.int .i64 c22)), (71, .rf 0 0 j32.2.length j32.2.length), (72, .v (.int .i64 v24))] [some ⟨1, 4, (j32.2.map cdB.enc), false⟩] kr ?_
     refine RunS.one he 0 rfl (op_q (wantedA_none rfl) rfl (q_indexAddr (a := .rf 0 0 j32.2.length j32.2.length) (b := .v (.int .i64 v24)) kr kr (ix_rl (e := cdB.enc) (xs := j32.2) (t' := 4) (el := 4) (k := 1) (ki := .i64) kr kr kr hv33))) ?_
     refine RunS.one he 0 rfl (op_q (wantedA_none rfl) rfl (q_load (p := .pt 0 v24.toNat 0) kr (ld_blk (B := ⟨1, 4, (j32.2.map cdB.enc), false⟩) (m := 1) (g := false) (e := cdB.enc) (xs := j32.2) kr kr kr rfl (idx_at hv33).2 kr))) ?_
     exact RunS.last he
    obtain ⟨r36, hr36, h⟩ := Option.bind_eq_some_iff.1 h
    refine Sem.cut (evening_check_j3_ok x0 x1 x2 c9 v11 c18 c20 c22 v24 j32 v33 _ hr36) ?_
    obtain ⟨v37, hv37, h⟩ := Option.bind_eq_some_iff.1 h
    refine Sem.runS (s1 := ⟨Fr 91 [(0, .v (.int .i64 x0)), (1, .sl 1 (x1.map cdI.enc)), (7, .v (.int .i64 r36)), (8, .v (.bool j32.1)), (9, .v (.bool c20)), (10, .rf 0 0 (j32.2.set v24.toNat true).length (j32.2.set v24.toNat true).length), (27, .sl 1 (x2.map (cdL 1 cdI).enc)), (28, .v (.int .i64 (x2.length : Int))), (29, .v (.int .i64 c9)), (51, .sl 1 (v11.map cdI.enc)), (52, .v (.int .i64 (v11.length : Int))), (53, .v (.int .i64 c22))], [some ⟨1, 4, ((j32.2.set v24.toNat true).map cdB.enc), false⟩]⟩) ?_ ?_
    ·refine RunS.segF (n := 91) he 2 [(0, .v (.int .i64 x0)), (1, .sl 1 (x1.map cdI.enc)), (7, .v (.int .i64 r36)), (8, .v (.bool j32.1)), (9, .v (.bool c20)), (10, .rf 0 0 j32.2.length j32.2.length), (27, .sl 1 (x2.map (cdL 1 cdI).enc)), (28, .v (.int .i64 (x2.length : Int))), (29, .v (.int .i64 c9)), (51, .sl 1 (v11.map cdI.enc)), (52, .v (.int .i64 (v11.length : Int))), (53, .v (.int .i64 c22)), (78, .rf 0 0 j32.2.length j32.2.length), (79, .v (.int .i64 v24))] [some ⟨1, 4, (j32.2.map cdB.enc), false⟩] kr ?_
     refine RunS.one he 0 rfl (op_q (wantedA_none rfl) rfl (q_indexAddr (a := .rf 0 0 j32.2.length j32.2.length) (b := .v (.int .i64 v24)) kr kr (ix_rl (e := cdB.enc) (xs := j32.2) (t' := 4) (el := 4) (k := 1) (ki := .i64) kr kr kr hv37))) ?_
     refine RunS.store he (y := .pt 0 v24.toNat 0) (z := .v (.bool true)) rfl (wantedA_none rfl) kr kr (st_blk (t' := 4) (k := 1) (e := cdB.enc) (xs := j32.2) (v := v37) (v' := true) kr (idx_at hv37).2 kr kr kr) ?_
     exact RunS.done rfl (Wk.s3 [0] ⟨⟨_, rfl, bu_own⟩, trivial⟩ ⟨lv, lv, lv, lv, lv, lu_rl (b' := 0) (n := j32.2.length) kr (by simp) kr, lv, lv, lv, lv, lv, lv, trivial⟩)
    refine Sem.rg he [(0, .v (.int .i64 x0)), (1, .sl 1 (x1.map cdI.enc)), (7, .v (.int .i64 r36)), (8, .v (.bool j32.1)), (9, .v (.bool c20)), (10, .rf 0 0 (j32.2.set v24.toNat true).length (j32.2.set v24.toNat true).length), (27, .sl 1 (x2.map (cdL 1 cdI).enc)), (28, .v (.int .i64 (x2.length : Int))), (29, .v (.int .i64 c9)), (51, .sl 1 (v11.map cdI.enc)), (52, .v (.int .i64 (v11.length : Int))), (53, .v (.int .i64 (wr .i64 (c22 + 1))))] [some ⟨1, 4, ((j32.2.set v24.toNat true).map cdB.enc), false⟩] ?_
    exact SemN.wk (s1 := ⟨Fr 91 [(0, .v (.int .i64 x0)), (1, .sl 1 (x1.map cdI.enc)), (7, .v (.int .i64 r36)), (8, .v (.bool j32.1)), (9, .v (.bool c20)), (10, .rf 0 0 (j32.2.set v24.toNat true).length (j32.2.set v24.toNat true).length), (27, .sl 1 (x2.map (cdL 1 cdI).enc)), (28, .v (.int .i64 (x2.length : Int))), (29, .v (.int .i64 c9)), (51, .sl 1 (v11.map cdI.enc)), (52, .v (.int .i64 (v11.length : Int))), (53, .v (.int .i64 (wr .i64 (c22 + 1))))], [some ⟨1, 4, ((j32.2.set v24.toNat true).map cdB.enc), false⟩]⟩) (Wk.s3 [0] ⟨⟨_, rfl, bu_own⟩, trivial⟩ ⟨lv, lv, lv, lv, lv, lv, lv, lv, lv, lv, lv, lv, trivial⟩) (ih r36 j32.1 c20 (j32.2.set v24.toNat true) (wr .i64 (c22 + 1)) h)
  ·rw [if_f hb23] at h
   refine Sem.exit ?_
   have hq := Option.some.inj h; subst hq
   exact ⟨rfl, (Wk.s3 [0] ⟨⟨_, rfl, bu_own⟩, trivial⟩ ⟨lv, lv, lv, lv, lv, lv, lv, lv, lv, trivial⟩)⟩
theorem evening_check_1_ok (x0 : Int) (x1 : (List Int)) (x2 : (List (List Int))) : ∀ (f : Nat) (c5 : Int) (c6 : Bool) (c7 : Bool) (c8 : (List Bool)) (c9 : Int) (r : (Int × Bool × Bool) ⊕ (Int)), evening_check_1 x0 x1 x2 f c5 c6 c7 c8 c9 = some r → SemN e_evening_check ⟨none, false⟩ (pc cb_evening_check [1, 1, 1, 1, 0, 1, 0, 0]) f ⟨Fr 91 [(0, .v (.int .i64 x0)), (1, .sl 1 (x1.map cdI.enc)), (7, .v (.int .i64 c5)), (8, .v (.bool c6)), (9, .v (.bool c7)), (10, .rf 0 0 c8.length c8.length), (27, .sl 1 (x2.map (cdL 1 cdI).enc)), (28, .v (.int .i64 (x2.length : Int))), (29, .v (.int .i64 c9))], [some ⟨1, 4, (c8.map cdB.enc), false⟩]⟩ (fun e s => match r with
 | (.inl w) => e = (.exit 0) ∧ Wk e_evening_check s ⟨Fr 91 [(0, .v (.int .i64 x0)), (7, .v (.int .i64 w.1)), (8, .v (.bool w.2.1)), (9, .v (.bool w.2.2))], []⟩
 | (.inr w) => e = .ret ∧ Wk e_evening_check s ⟨Fr 91 [(6, .v (.int .i64 w))], []⟩) := by
 have he := e_evening_check_ok
 intro f
 induction f with
 | zero => intro c5 c6 c7 c8 c9 r h; cases h
 | succ f ih0 =>
  intro c5 c6 c7 c8 c9 r h
  have ih := fun (c5 : Int) (c6 : Bool) (c7 : Bool) (c8 : (List Bool)) (c9 : Int) => ih0 c5 c6 c7 c8 c9 r
  unfold evening_check_1 at h
  refine SemN.succ ?_
  refine Sem.sq he [(0, .v (.int .i64 x0)), (1, .sl 1 (x1.map cdI.enc)), (7, .v (.int .i64 c5)), (8, .v (.bool c6)), (9, .v (.bool c7)), (10, .rf 0 0 c8.length c8.length), (27, .sl 1 (x2.map (cdL 1 cdI).enc)), (28, .v (.int .i64 (x2.length : Int))), (29, .v (.int .i64 c9)), (30, .v (.bool (decide (c9 < (x2.length : Int)))))] [some ⟨1, 4, (c8.map cdB.enc), false⟩] ?_
  refine Sem.seq ?_
  refine Sem.cond (b := (decide (c9 < (x2.length : Int)))) kr (fun hb10 => ?_) (fun hb10 => ?_)
  ·rw [if_pos hb10] at h
   refine Sem.skip ?_
   refine Sem.seq ?_
   refine Sem.block ?_
   refine Sem.seq ?_
   obtain ⟨v11, hv11, h⟩ := Option.bind_eq_some_iff.1 h
   refine Sem.runS (s1 := ⟨Fr 91 [(0, .v (.int .i64 x0)), (1, .sl 1 (x1.map cdI.enc)), (7, .v (.int .i64 c5)), (8, .v (.bool c6)), (9, .v (.bool c7)), (10, .rf 0 0 c8.length c8.length), (11, .v (.int .i64 c9)), (12, .sl 1 (v11.map cdI.enc)), (27, .sl 1 (x2.map (cdL 1 cdI).enc)), (28, .v (.int .i64 (x2.length : Int))), (29, .v (.int .i64 c9))], [some ⟨1, 4, (c8.map cdB.enc), false⟩]⟩) ?_ ?_
   ·refine RunS.segF (n := 91) he 1 [(0, .v (.int .i64 x0)), (1, .sl 1 (x1.map cdI.enc)), (7, .v (.int .i64 c5)), (8, .v (.bool c6)), (9, .v (.bool c7)), (10, .rf 0 0 c8.length c8.length), (27, .sl 1 (x2.map (cdL 1 cdI).enc)), (28, .v (.int .i64 (x2.length : Int))), (29, .v (.int .i64 c9)), (31, .v (.int .i64 c9))] [some ⟨1, 4, (c8.map cdB.enc), false⟩] kr ?_
    refine RunS.one he 0 rfl (op_q (wantedA_none rfl) rfl (q_indexAddr (a := .sl 1 (x2.map (cdL 1 cdI).enc)) (b := .v (.int .i64 c9)) kr kr (ix_sl (e := (cdL 1 cdI).enc) (el := 31) (k := 1) (ki := .i64) kr kr hv11))) ?_
    exact RunS.last he
   refine Sem.seq ?_
   refine Sem.seq ?_
   obtain ⟨j15, hj15, h⟩ := Option.bind_eq_some_iff.1 h
   refine Sem.runS (s1 := ⟨Fr 91 [(0, .v (.int .i64 x0)), (1, .sl 1 (x1.map cdI.enc)), (7, .v (.int .i64 c5)), (8, .v (.bool c6)), (9, .v (.bool c7)), (10, .rf 0 0 j15.1.length j15.1.length), (12, .sl 1 (v11.map cdI.enc)), (27, .sl 1 (x2.map (cdL 1 cdI).enc)), (28, .v (.int .i64 (x2.length : Int))), (29, .v (.int .i64 c9)), (50, .v (.bool j15.2))], [some ⟨1, 4, (j15.1.map cdB.enc), false⟩]⟩) ?_ ?_
   ·refine RunS.segF (n := 91) he 1 [(0, .v (.int .i64 x0)), (1, .sl 1 (x1.map cdI.enc)), (7, .v (.int .i64 c5)), (8, .v (.bool c6)), (9, .v (.bool c7)), (10, .rf 0 0 c8.length c8.length), (11, .v (.int .i64 c9)), (12, .sl 1 (v11.map cdI.enc)), (27, .sl 1 (x2.map (cdL 1 cdI).enc)), (28, .v (.int .i64 (x2.length : Int))), (29, .v (.int .i64 c9)), (34, .sl 1 (v11.map cdI.enc))] [some ⟨1, 4, (c8.map cdB.enc), false⟩] kr ?_
    refine RunS.one he 0 rfl (op_q (wantedA_none rfl) rfl (q_len (a := .sl 1 (v11.map cdI.enc)) kr (len_sl (el := 3) kr))) ?_
    refine RunS.segF (n := 91) he 2 [(0, .v (.int .i64 x0)), (1, .sl 1 (x1.map cdI.enc)), (7, .v (.int .i64 c5)), (8, .v (.bool c6)), (9, .v (.bool c7)), (10, .rf 0 0 c8.length c8.length), (11, .v (.int .i64 c9)), (12, .sl 1 (v11.map cdI.enc)), (27, .sl 1 (x2.map (cdL 1 cdI).enc)), (28, .v (.int .i64 (x2.length : Int))), (29, .v (.int .i64 c9)), (37, .v (.bool ((v11.length : Int) == 0)))] [some ⟨1, 4, (c8.map cdB.enc), false⟩] kr ?_
    rcases Bool.eq_false_or_eq_true ((v11.length : Int) == 0) with hc45 | hc45
    ·rw [if_pos hc45] at hj15
     rw [hc45]
     refine RunS.segF (n := 91) he 13 [(0, .v (.int .i64 x0)), (1, .sl 1 (x1.map cdI.enc)), (7, .v (.int .i64 c5)), (8, .v (.bool c6)), (9, .v (.bool c7)), (10, .rf 0 0 c8.length c8.length), (12, .sl 1 (v11.map cdI.enc)), (27, .sl 1 (x2.map (cdL 1 cdI).enc)), (28, .v (.int .i64 (x2.length : Int))), (29, .v (.int .i64 c9)), (38, .tp []), (39, .tp []), (40, .tp []), (41, .tp []), (42, .tp []), (43, .tp []), (44, .tp []), (45, .tp []), (46, .tp []), (47, .tp []), (48, .tp []), (49, .tp []), (50, .v (.bool true))] [some ⟨1, 4, (c8.map cdB.enc), false⟩] kr ?_
     have hq := Option.some.inj hj15; subst hq
     exact RunS.done rfl (Wk.s3 [0] ⟨⟨_, rfl, bu_own⟩, trivial⟩ ⟨lv, lv, lv, lv, lv, lv, lv, lv, lv, lv, lv, trivial⟩)
    ·rw [if_f hc45] at hj15
     rw [hc45]
     refine RunS.segF (n := 91) he 1 [(0, .v (.int .i64 x0)), (1, .sl 1 (x1.map cdI.enc)), (7, .v (.int .i64 c5)), (8, .v (.bool c6)), (9, .v (.bool c7)), (10, .rf 0 0 c8.length c8.length), (11, .v (.int .i64 c9)), (12, .sl 1 (v11.map cdI.enc)), (27, .sl 1 (x2.map (cdL 1 cdI).enc)), (28, .v (.int .i64 (x2.length : Int))), (29, .v (.int .i64 c9)), (37, .v (.bool false)), (38, .sl 1 (x1.map cdI.enc))] [some ⟨1, 4, (c8.map cdB.enc), false⟩] kr ?_
     refine RunS.one he 0 rfl (op_q kr rfl (q_len (a := .sl 1 (x1.map cdI.enc)) kr (len_sl (el := 3) kr))) ?_
     refine RunS.segF (n := 91) he 2 [(0, .v (.int .i64 x0)), (1, .sl 1 (x1.map cdI.enc)), (7, .v (.int .i64 c5)), (8, .v (.bool c6)), (9, .v (.bool c7)), (10, .rf 0 0 c8.length c8.length), (11, .v (.int .i64 c9)), (12, .sl 1 (v11.map cdI.enc)), (27, .sl 1 (x2.map (cdL 1 cdI).enc)), (28, .v (.int .i64 (x2.length : Int))), (29, .v (.int .i64 c9)), (37, .v (.bool false)), (38, .sl 1 (x1.map cdI.enc)), (39, .v (.int .i64 (x1.length : Int))), (40, .v (.bool (decide ((x1.length : Int) > 0)))), (41, .v (.bool (decide ((x1.length : Int) > 0))))] [some ⟨1, 4, (c8.map cdB.enc), false⟩] kr ?_
     rcases Bool.eq_false_or_eq_true (decide ((x1.length : Int) > 0)) with hc46 | hc46
     ·rw [if_pos hc46] at hj15
      rw [hc46]
      refine RunS.segF (n := 91) he 1 [(0, .v (.int .i64 x0)), (1, .sl 1 (x1.map cdI.enc)), (7, .v (.int .i64 c5)), (8, .v (.bool c6)), (9, .v (.bool c7)), (10, .rf 0 0 c8.length c8.length), (11, .v (.int .i64 c9)), (12, .sl 1 (v11.map cdI.enc)), (27, .sl 1 (x2.map (cdL 1 cdI).enc)), (28, .v (.int .i64 (x2.length : Int))), (29, .v (.int .i64 c9)), (37, .v (.bool false)), (38, .sl 1 (x1.map cdI.enc)), (39, .v (.int .i64 (x1.length : Int))), (40, .v (.bool true)), (41, .v (.bool true)), (42, .sl 1 (v11.map cdI.enc))] [some ⟨1, 4, (c8.map cdB.enc), false⟩] kr ?_
      refine RunS.one he 0 rfl (op_q kr rfl (q_len (a := .sl 1 (v11.map cdI.enc)) kr (len_sl (el := 3) kr))) ?_
      refine RunS.segF (n := 91) he 2 [(0, .v (.int .i64 x0)), (1, .sl 1 (x1.map cdI.enc)), (7, .v (.int .i64 c5)), (8, .v (.bool c6)), (9, .v (.bool c7)), (10, .rf 0 0 c8.length c8.length), (12, .sl 1 (v11.map cdI.enc)), (27, .sl 1 (x2.map (cdL 1 cdI).enc)), (28, .v (.int .i64 (x2.length : Int))), (29, .v (.int .i64 c9)), (37, .v (.bool false)), (38, .sl 1 (x1.map cdI.enc)), (39, .v (.int .i64 (x1.length : Int))), (40, .v (.bool true)), (41, .v (.bool true)), (42, .sl 1 (v11.map cdI.enc)), (43, .v (.int .i64 (v11.length : Int))), (44, .sl 1 (x1.map cdI.enc)), (45, .v (.int .i64 c9))] [some ⟨1, 4, (c8.map cdB.enc), false⟩] kr ?_
      obtain ⟨v12, hv12, hj15⟩ := Option.bind_eq_some_iff.1 hj15
      refine RunS.one he 0 rfl (op_q kr rfl (q_indexAddr (a := .sl 1 (x1.map cdI.enc)) (b := .v (.int .i64 c9)) kr kr (ix_sl (e := cdI.enc) (el := 3) (k := 1) (ki := .i64) kr kr hv12))) ?_
      refine RunS.segF (n := 91) he 4 [(0, .v (.int .i64 x0)), (1, .sl 1 (x1.map cdI.enc)), (7, .v (.int .i64 c5)), (8, .v (.bool c6)), (9, .v (.bool c7)), (10, .rf 0 0 c8.length c8.length), (12, .sl 1 (v11.map cdI.enc)), (27, .sl 1 (x2.map (cdL 1 cdI).enc)), (28, .v (.int .i64 (x2.length : Int))), (29, .v (.int .i64 c9)), (38, .sl 1 (x1.map cdI.enc)), (39, .v (.int .i64 (x1.length : Int))), (40, .v (.bool true)), (41, .v (.bool true)), (42, .sl 1 (v11.map cdI.enc)), (43, .v (.int .i64 (v11.length : Int))), (44, .sl 1 (x1.map cdI.enc)), (45, .v (.int .i64 c9)), (46, .pe (.v (.int .i64 v12)) 0), (47, .v (.int .i64 v12)), (48, .v (.bool ((v11.length : Int) != v12))), (49, .v (.bool ((v11.length : Int) != v12))), (50, .v (.bool ((v11.length : Int) != v12)))] [some ⟨1, 4, (c8.map cdB.enc), false⟩] kr ?_
      have hq := Option.some.inj hj15; subst hq
      exact RunS.done rfl (Wk.s3 [0] ⟨⟨_, rfl, bu_own⟩, trivial⟩ ⟨lv, lv, lv, lv, lv, lv, lv, lv, lv, lv, lv, trivial⟩)
     ·rw [if_f hc46] at hj15
      rw [hc46]
      refine RunS.segF (n := 91) he 9 [(0, .v (.int .i64 x0)), (1, .sl 1 (x1.map cdI.enc)), (7, .v (.int .i64 c5)), (8, .v (.bool c6)), (9, .v (.bool c7)), (10, .rf 0 0 c8.length c8.length), (12, .sl 1 (v11.map cdI.enc)), (27, .sl 1 (x2.map (cdL 1 cdI).enc)), (28, .v (.int .i64 (x2.length : Int))), (29, .v (.int .i64 c9)), (38, .sl 1 (x1.map cdI.enc)), (39, .v (.int .i64 (x1.length : Int))), (40, .v (.bool false)), (41, .v (.bool false)), (42, .tp []), (43, .tp []), (44, .tp []), (45, .tp []), (46, .tp []), (47, .tp []), (48, .tp []), (49, .v (.bool false)), (50, .v (.bool false))] [some ⟨1, 4, (c8.map cdB.enc), false⟩] kr ?_
      have hq := Option.some.inj hj15; subst hq
      exact RunS.done rfl (Wk.s3 [0] ⟨⟨_, rfl, bu_own⟩, trivial⟩ ⟨lv, lv, lv, lv, lv, lv, lv, lv, lv, lv, lv, trivial⟩)
   refine Sem.cond (b := j15.2) kr (fun hb16 => ?_) (fun hb16 => ?_)
   ·rw [if_pos hb16] at h
    refine Sem.seq ?_
    refine Sem.runS (s1 := ⟨Fr 91 [(6, .v (.int .i64 2))], []⟩) ?_ ?_
    ·refine RunS.segF (n := 91) he 1 [(6, .v (.int .i64 2))] [some ⟨1, 4, (j15.1.map cdB.enc), false⟩] kr ?_
     exact RunS.done rfl (Wk.s3 [] trivial ⟨lv, trivial⟩)
    refine Sem.ret ?_
    have hq := Option.some.inj h; subst hq
    exact ⟨rfl, Wk.f1⟩
   ·rw [if_f hb16] at h
    refine Sem.skip ?_
    refine Sem.seq ?_
    refine Sem.runS (s1 := ⟨Fr 91 [(0, .v (.int .i64 x0)), (1, .sl 1 (x1.map cdI.enc)), (7, .v (.int .i64 c5)), (8, .v (.bool c6)), (9, .v (.bool c7)), (10, .rf 0 0 j15.1.length j15.1.length), (27, .sl 1 (x2.map (cdL 1 cdI).enc)), (28, .v (.int .i64 (x2.length : Int))), (29, .v (.int .i64 c9)), (51, .sl 1 (v11.map cdI.enc)), (52, .v (.int .i64 (v11.length : Int))), (53, .v (.int .i64 0))], [some ⟨1, 4, (j15.1.map cdB.enc), false⟩]⟩) ?_ ?_
    ·refine RunS.segF (n := 91) he 1 [(0, .v (.int .i64 x0)), (1, .sl 1 (x1.map cdI.enc)), (7, .v (.int .i64 c5)), (8, .v (.bool c6)), (9, .v (.bool c7)), (10, .rf 0 0 j15.1.length j15.1.length), (27, .sl 1 (x2.map (cdL 1 cdI).enc)), (28, .v (.int .i64 (x2.length : Int))), (29, .v (.int .i64 c9)), (51, .sl 1 (v11.map cdI.enc))] [some ⟨1, 4, (j15.1.map cdB.enc), false⟩] kr ?_
     refine RunS.one he 0 rfl (op_q (wantedA_none rfl) rfl (q_len (a := .sl 1 (v11.map cdI.enc)) kr (len_sl (el := 3) kr))) ?_
     exact RunS.last he
    refine Sem.block ?_
    obtain ⟨r44, hr44, h⟩ := Option.bind_eq_some_iff.1 h
    refine Sem.loop (n := 100000) ?_
    refine Sem.cutN (SemN.wk (s1 := ⟨Fr 91 [(0, .v (.int .i64 x0)), (1, .sl 1 (x1.map cdI.enc)), (7, .v (.int .i64 c5)), (8, .v (.bool c6)), (9, .v (.bool c7)), (10, .rf 0 0 j15.1.length j15.1.length), (27, .sl 1 (x2.map (cdL 1 cdI).enc)), (28, .v (.int .i64 (x2.length : Int))), (29, .v (.int .i64 c9)), (51, .sl 1 (v11.map cdI.enc)), (52, .v (.int .i64 (v11.length : Int))), (53, .v (.int .i64 0))], [some ⟨1, 4, (j15.1.map cdB.enc), false⟩]⟩) (Wk.s3 [0] ⟨⟨_, rfl, bu_own⟩, trivial⟩ ⟨lv, lv, lv, lv, lv, lv, lv, lv, lv, lv, lv, lv, trivial⟩) (evening_check_2_ok x0 x1 x2 c9 v11 _ c5 c6 c7 j15.1 0 _ hr44)) ?_
    refine Sem.rg he [(0, .v (.int .i64 x0)), (1, .sl 1 (x1.map cdI.enc)), (7, .v (.int .i64 r44.1)), (8, .v (.bool r44.2.1)), (9, .v (.bool r44.2.2.1)), (10, .rf 0 0 r44.2.2.2.length r44.2.2.2.length), (27, .sl 1 (x2.map (cdL 1 cdI).enc)), (28, .v (.int .i64 (x2.length : Int))), (29, .v (.int .i64 (wr .i64 (c9 + 1))))] [some ⟨1, 4, (r44.2.2.2.map cdB.enc), false⟩] ?_
    exact SemN.wk (s1 := ⟨Fr 91 [(0, .v (.int .i64 x0)), (1, .sl 1 (x1.map cdI.enc)), (7, .v (.int .i64 r44.1)), (8, .v (.bool r44.2.1)), (9, .v (.bool r44.2.2.1)), (10, .rf 0 0 r44.2.2.2.length r44.2.2.2.length), (27, .sl 1 (x2.map (cdL 1 cdI).enc)), (28, .v (.int .i64 (x2.length : Int))), (29, .v (.int .i64 (wr .i64 (c9 + 1))))], [some ⟨1, 4, (r44.2.2.2.map cdB.enc), false⟩]⟩) (Wk.s3 [0] ⟨⟨_, rfl, bu_own⟩, trivial⟩ ⟨lv, lv, lv, lv, lv, lv, lv, lv, lv, trivial⟩) (ih r44.1 r44.2.1 r44.2.2.1 r44.2.2.2 (wr .i64 (c9 + 1)) h)
  ·rw [if_f hb10] at h
   refine Sem.exit ?_
   have hq := Option.some.inj h; subst hq
   exact ⟨rfl, (Wk.s3 [] trivial ⟨lv, lv, lv, lv, trivial⟩)⟩
theorem evening_check_sem (x0 : Int) (x1 : (List Int)) (x2 : (List (List Int))) (r : Int) (h : evening_check x0 x1 x2 = some r) : Sem e_evening_check ⟨none, false⟩ cb_evening_check ⟨Fr 91 (pairs0 0 (cs_evening_check.enc (x0, x1, x2, ()))), []⟩ fun e s' => (e = .normal ∨ e = .ret) ∧ ∃ xs, resA e_evening_check.P s'.fr s'.hp Tryd.f83.results.toList = some xs ∧ retA xs = er_evening_check r := by
 have he := e_evening_check_ok
 unfold evening_check at h
 refine Sem.wkQ (Sem.wk (s1 := ⟨Fr 91 [(0, .v (.int .i64 x0)), (1, .sl 1 (x1.map cdI.enc)), (2, .sl 1 (x2.map (cdL 1 cdI).enc))], []⟩) Wk.f1 ?_)
 refine Sem.sq he [(0, .v (.int .i64 x0)), (1, .sl 1 (x1.map cdI.enc)), (2, .sl 1 (x2.map (cdL 1 cdI).enc))] [] ?_
 refine Sem.seq ?_
 refine Sem.seq ?_
 obtain ⟨j2, hj2, h⟩ := Option.bind_eq_some_iff.1 h
 refine Sem.runS (s1 := ⟨Fr 91 [(0, .v (.int .i64 x0)), (1, .sl 1 (x1.map cdI.enc)), (2, .sl 1 (x2.map (cdL 1 cdI).enc)), (24, .v (.bool j2))], []⟩) ?_ ?_
 ·refine RunS.segF (n := 91) he 1 [(0, .v (.int .i64 x0)), (1, .sl 1 (x1.map cdI.enc)), (2, .sl 1 (x2.map (cdL 1 cdI).enc)), (15, .sl 1 (x1.map cdI.enc))] [] kr ?_
  refine RunS.one he 0 rfl (op_q (wantedA_none rfl) rfl (q_len (a := .sl 1 (x1.map cdI.enc)) kr (len_sl (el := 3) kr))) ?_
  refine RunS.segF (n := 91) he 2 [(0, .v (.int .i64 x0)), (1, .sl 1 (x1.map cdI.enc)), (2, .sl 1 (x2.map (cdL 1 cdI).enc)), (18, .v (.bool (decide ((x1.length : Int) > 0))))] [] kr ?_
  rcases Bool.eq_false_or_eq_true (decide ((x1.length : Int) > 0)) with hc56 | hc56
  ·rw [if_pos hc56] at hj2
   rw [hc56]
   refine RunS.segF (n := 91) he 1 [(0, .v (.int .i64 x0)), (1, .sl 1 (x1.map cdI.enc)), (2, .sl 1 (x2.map (cdL 1 cdI).enc)), (18, .v (.bool true)), (19, .sl 1 (x1.map cdI.enc))] [] kr ?_
   refine RunS.one he 0 rfl (op_q kr rfl (q_len (a := .sl 1 (x1.map cdI.enc)) kr (len_sl (el := 3) kr))) ?_
   refine RunS.segF (n := 91) he 1 [(0, .v (.int .i64 x0)), (1, .sl 1 (x1.map cdI.enc)), (2, .sl 1 (x2.map (cdL 1 cdI).enc)), (18, .v (.bool true)), (20, .v (.int .i64 (x1.length : Int))), (21, .sl 1 (x2.map (cdL 1 cdI).enc))] [] kr ?_
   refine RunS.one he 0 rfl (op_q kr rfl (q_len (a := .sl 1 (x2.map (cdL 1 cdI).enc)) kr (len_sl (el := 31) kr))) ?_
   refine RunS.segF (n := 91) he 2 [(0, .v (.int .i64 x0)), (1, .sl 1 (x1.map cdI.enc)), (2, .sl 1 (x2.map (cdL 1 cdI).enc)), (24, .v (.bool ((x1.length : Int) != (x2.length : Int))))] [] kr ?_
   have hq := Option.some.inj hj2; subst hq
   exact RunS.done rfl Wk.f1
  ·rw [if_f hc56] at hj2
   rw [hc56]
   refine RunS.segF (n := 91) he 6 [(0, .v (.int .i64 x0)), (1, .sl 1 (x1.map cdI.enc)), (2, .sl 1 (x2.map (cdL 1 cdI).enc)), (24, .v (.bool false))] [] kr ?_
   have hq := Option.some.inj hj2; subst hq
   exact RunS.done rfl Wk.f1
 refine Sem.cond (b := j2) kr (fun hb3 => ?_) (fun hb3 => ?_)
 ·rw [if_pos hb3] at h
  refine Sem.sq he [(6, .v (.int .i64 2))] [] ?_
  refine Sem.ret ?_
  have hq := Option.some.inj h; subst hq
  exact ⟨⟨Fr 91 [(6, .v (.int .i64 2))], []⟩, Wk.f1, .inr rfl, [.v (.int .i64 2)], kr, kr⟩
 ·rw [if_f hb3] at h
  refine Sem.skip ?_
  refine Sem.sq he [(0, .v (.int .i64 x0)), (1, .sl 1 (x1.map cdI.enc)), (2, .sl 1 (x2.map (cdL 1 cdI).enc)), (7, .v (.int .i64 0)), (8, .v (.bool false)), (9, .v (.bool false))] [] ?_
  refine Sem.seq ?_
  by_cases hk4 : (mkOk 1 x0) = true
  case neg => rw [if_neg hk4] at h; cases h
  rw [if_pos hk4] at h
  refine Sem.runS (s1 := ⟨Fr 91 [(0, .v (.int .i64 x0)), (1, .sl 1 (x1.map cdI.enc)), (2, .sl 1 (x2.map (cdL 1 cdI).enc)), (7, .v (.int .i64 0)), (8, .v (.bool false)), (9, .v (.bool false)), (10, .rf 0 0 (List.replicate x0.toNat false).length (List.replicate x0.toNat false).length)], [some ⟨1, 4, ((List.replicate x0.toNat false).map cdB.enc), false⟩]⟩) ?_ ?_
  ·refine RunS.segF (n := 91) he 1 [(0, .v (.int .i64 x0)), (1, .sl 1 (x1.map cdI.enc)), (2, .sl 1 (x2.map (cdL 1 cdI).enc)), (7, .v (.int .i64 0)), (8, .v (.bool false)), (9, .v (.bool false)), (25, .v (.int .i64 x0))] [] kr ?_
   refine RunS.one he 0 rfl (op_n (wantedA_none rfl) rfl kr (n_make (x := .v (.int .i64 x0)) (y := .v (.int .i64 x0)) kr kr (make_B (c := cdB) (z := false) (k := 1) (bytes := 1) (el := 4) kr kr hk4))) ?_
   exact RunS.last he
  refine Sem.seq ?_
  refine Sem.seq ?_
  refine Sem.runS (s1 := ⟨Fr 91 [(0, .v (.int .i64 x0)), (1, .sl 1 (x1.map cdI.enc)), (7, .v (.int .i64 0)), (8, .v (.bool false)), (9, .v (.bool false)), (10, .rf 0 0 (List.replicate x0.toNat false).length (List.replicate x0.toNat false).length), (27, .sl 1 (x2.map (cdL 1 cdI).enc)), (28, .v (.int .i64 (x2.length : Int))), (29, .v (.int .i64 0))], [some ⟨1, 4, ((List.replicate x0.toNat false).map cdB.enc), false⟩]⟩) ?_ ?_
  ·refine RunS.segF (n := 91) he 1 [(0, .v (.int .i64 x0)), (1, .sl 1 (x1.map cdI.enc)), (7, .v (.int .i64 0)), (8, .v (.bool false)), (9, .v (.bool false)), (10, .rf 0 0 (List.replicate x0.toNat false).length (List.replicate x0.toNat false).length), (27, .sl 1 (x2.map (cdL 1 cdI).enc))] [some ⟨1, 4, ((List.replicate x0.toNat false).map cdB.enc), false⟩] kr ?_
   refine RunS.one he 0 rfl (op_q (wantedA_none rfl) rfl (q_len (a := .sl 1 (x2.map (cdL 1 cdI).enc)) kr (len_sl (el := 31) kr))) ?_
   exact RunS.last he
  refine Sem.block ?_
  obtain ⟨r50, hr50, h⟩ := Option.bind_eq_some_iff.1 h
  refine Sem.loop (n := 100000) ?_
  rcases r50 with w51 | w55
  ·try dsimp only at h
   refine Sem.cutN (SemN.wk (s1 := ⟨Fr 91 [(0, .v (.int .i64 x0)), (1, .sl 1 (x1.map cdI.enc)), (7, .v (.int .i64 0)), (8, .v (.bool false)), (9, .v (.bool false)), (10, .rf 0 0 (List.replicate x0.toNat false).length (List.replicate x0.toNat false).length), (27, .sl 1 (x2.map (cdL 1 cdI).enc)), (28, .v (.int .i64 (x2.length : Int))), (29, .v (.int .i64 0))], [some ⟨1, 4, ((List.replicate x0.toNat false).map cdB.enc), false⟩]⟩) (Wk.s3 [0] ⟨⟨_, rfl, bu_own⟩, trivial⟩ ⟨lv, lv, lv, lv, lv, lv, lv, lv, lv, trivial⟩) (evening_check_1_ok x0 x1 x2 _ 0 false false (List.replicate x0.toNat false) 0 _ hr50)) ?_
   refine Sem.seq ?_
   refine Sem.block ?_
   refine Sem.sq he [(0, .v (.int .i64 x0)), (7, .v (.int .i64 w51.1)), (8, .v (.bool w51.2.1)), (83, .v (.bool w51.2.2))] [] ?_
   refine Sem.cond (b := w51.2.2) kr (fun hb52 => ?_) (fun hb52 => ?_)
   ·rw [if_pos hb52] at h
    refine Sem.sq he [(6, .v (.int .i64 6))] [] ?_
    refine Sem.ret ?_
    have hq := Option.some.inj h; subst hq
    exact ⟨⟨Fr 91 [(6, .v (.int .i64 6))], []⟩, Wk.f1, .inr rfl, [.v (.int .i64 6)], kr, kr⟩
   ·rw [if_f hb52] at h
    refine Sem.sq he [(0, .v (.int .i64 x0)), (7, .v (.int .i64 w51.1)), (85, .v (.bool w51.2.1))] [] ?_
    refine Sem.cond (b := w51.2.1) kr (fun hb53 => ?_) (fun hb53 => ?_)
    ·rw [if_pos hb53] at h
     refine Sem.sq he [(6, .v (.int .i64 5))] [] ?_
     refine Sem.ret ?_
     have hq := Option.some.inj h; subst hq
     exact ⟨⟨Fr 91 [(6, .v (.int .i64 5))], []⟩, Wk.f1, .inr rfl, [.v (.int .i64 5)], kr, kr⟩
    ·rw [if_f hb53] at h
     refine Sem.sq he [(87, .v (.bool (decide (w51.1 < x0))))] [] ?_
     refine Sem.cond (b := (decide (w51.1 < x0))) kr (fun hb54 => ?_) (fun hb54 => ?_)
     ·rw [if_pos hb54] at h
      refine Sem.sq he [(6, .v (.int .i64 2))] [] ?_
      refine Sem.ret ?_
      have hq := Option.some.inj h; subst hq
      exact ⟨⟨Fr 91 [(6, .v (.int .i64 2))], []⟩, Wk.f1, .inr rfl, [.v (.int .i64 2)], kr, kr⟩
     ·rw [if_f hb54] at h
      refine Sem.skip ?_
      refine Sem.sq he [(6, .v (.int .i64 0))] [] ?_
      refine Sem.ret ?_
      have hq := Option.some.inj h; subst hq
      exact ⟨⟨Fr 91 [(6, .v (.int .i64 0))], []⟩, Wk.f1, .inr rfl, [.v (.int .i64 0)], kr, kr⟩
  ·try dsimp only at h
   refine Sem.cutN (SemN.wk (s1 := ⟨Fr 91 [(0, .v (.int .i64 x0)), (1, .sl 1 (x1.map cdI.enc)), (7, .v (.int .i64 0)), (8, .v (.bool false)), (9, .v (.bool false)), (10, .rf 0 0 (List.replicate x0.toNat false).length (List.replicate x0.toNat false).length), (27, .sl 1 (x2.map (cdL 1 cdI).enc)), (28, .v (.int .i64 (x2.length : Int))), (29, .v (.int .i64 0))], [some ⟨1, 4, ((List.replicate x0.toNat false).map cdB.enc), false⟩]⟩) (Wk.s3 [0] ⟨⟨_, rfl, bu_own⟩, trivial⟩ ⟨lv, lv, lv, lv, lv, lv, lv, lv, lv, trivial⟩) (evening_check_1_ok x0 x1 x2 _ 0 false false (List.replicate x0.toNat false) 0 _ hr50)) ?_
   have hq := Option.some.inj h; subst hq
   exact ⟨⟨Fr 91 [(6, .v (.int .i64 w55))], []⟩, Wk.f1, .inr rfl, [.v (.int .i64 w55)], kr, kr⟩
def t_evening_check : List AV → Option AV := told cs_evening_check (fun a => evening_check a.1 a.2.1 a.2.2.1) er_evening_check
theorem x_evening_check : XOk 83 t_evening_check := by
 refine EnvOk.x (E := e_evening_check) (contract_ok e_evening_check_ok (fn := Tryd.f83) (c := cb_evening_check) ?h1 ?h2 ⟨Tryd.call83⟩ cs_evening_check (fun a => evening_check a.1 a.2.1 a.2.2.1) er_evening_check (fun a => (by show 3 ≤ 91; decide)) ?h3 ?h4) rfl rfl
 case h1 => kernel_rfl
 case h2 => kernel_rfl
 case h3 => intro b; kernel_rfl
 case h4 => exact fun a b h => evening_check_sem a.1 a.2.1 a.2.2.1 b h
/- trestle/evening.Check -/
noncomputable def e_evening_Check : Env := (((E0.withX 82 t_evening_guests).withX 67 t_evening_fit).withX 83 t_evening_check)
theorem e_evening_Check_ok : EnvOk e_evening_Check := (EnvOk.withX (EnvOk.withX (EnvOk.withX E0_ok x_evening_guests.1 x_evening_guests.2) x_evening_fit.1 x_evening_fit.2) x_evening_check.1 x_evening_check.2)
noncomputable def cb_evening_Check : Code := codeOf Tryd.f27
def evening_Check_1 (x0 : Int) (x1 : (List Int)) (x2 : (List (List (List Int)))) : Nat → Int → Option ((Unit) ⊕ (Int × Int))
 | 0, _ => none
 | f + 1, c7 =>
  if (decide (c7 < (x2.length : Int))) = true then
  (idx x2 c7).bind fun v9 =>
  (evening_check x0 x1 v9).bind fun v10 =>
  if (v10 != 0) = true then
  some (.inr (c7, v10))
  else
  evening_Check_1 x0 x1 x2 f (wr .i64 (c7 + 1))
  else
  some (.inl ())
def evening_Check (x0 : Int) (x1 : (List Int)) (x2 : (List (List (List Int)))) : Option (Int × Int) :=
 (evening_guests x0).bind fun v1 =>
 (if (!v1) = true then some true else if (decide ((x1.length : Int) > 0)) = true then (evening_fit x0 x1).bind fun v2 =>
 some (!v2) else some false).bind fun j4 =>
 if j4 = true then
 some (0, 90)
 else
 if (decide ((x2.length : Int) > 64)) = true then
 some (0, 7)
 else
 (evening_Check_1 x0 x1 x2 100000 0).bind fun r14 =>
 match r14 with
 | (.inl w15) =>
  some (0, 0)
 | (.inr w16) =>
  some (w16.1, w16.2)
def cs_evening_Check : Cs (Int × (List Int) × (List (List (List Int))) × Unit) := (csC cdI (csC (cdL 1 cdI) (csC (cdL 1 (cdL 1 (cdL 1 cdI))) csN)))
def er_evening_Check (r : Int × Int) : AV := .tp [cdI.enc r.1, cdI.enc r.2]
theorem evening_Check_1_ok (x0 : Int) (x1 : (List Int)) (x2 : (List (List (List Int)))) : ∀ (f : Nat) (c7 : Int) (r : (Unit) ⊕ (Int × Int)), evening_Check_1 x0 x1 x2 f c7 = some r → SemN e_evening_Check ⟨none, false⟩ (pc cb_evening_Check [1, 1, 0, 1, 0, 0]) f ⟨Fr 46 [(0, .v (.int .i64 x0)), (1, .sl 1 (x1.map cdI.enc)), (30, .sl 1 (x2.map (cdL 1 (cdL 1 cdI)).enc)), (31, .v (.int .i64 (x2.length : Int))), (32, .v (.int .i64 c7))], []⟩ (fun e s => match r with
 | (.inl w) => e = (.exit 1) ∧ Wk e_evening_Check s ⟨Fr 46 [], []⟩
 | (.inr w) => e = .ret ∧ Wk e_evening_Check s ⟨Fr 46 [(6, .v (.int .i64 w.1)), (7, .v (.int .i64 w.2))], []⟩) := by
 have he := e_evening_Check_ok
 intro f
 induction f with
 | zero => intro c7 r h; cases h
 | succ f ih0 =>
  intro c7 r h
  have ih := fun (c7 : Int) => ih0 c7 r
  unfold evening_Check_1 at h
  refine SemN.succ ?_
  let p1 : Nat × AV := (32, .v (.int .i64 c7))
  let p2 : Nat × AV := (31, .v (.int .i64 (x2.length : Int)))
  let p3 : Nat × AV := (30, .sl 1 (x2.map (cdL 1 (cdL 1 cdI)).enc))
  let p4 : Nat × AV := (1, .sl 1 (x1.map cdI.enc))
  let p5 : Nat × AV := (0, .v (.int .i64 x0))
  refine Sem.sq he [p5, p4, p3, p2, p1, (33, .v (.bool (decide (c7 < (x2.length : Int)))))] [] ?_
  refine Sem.seq ?_
  refine Sem.cond (b := (decide (c7 < (x2.length : Int)))) kr (fun hb8 => ?_) (fun hb8 => ?_)
  ·rw [if_pos hb8] at h
   refine Sem.skip ?_
   refine Sem.seq ?_
   refine Sem.block ?_
   refine Sem.seq ?_
   obtain ⟨v9, hv9, h⟩ := Option.bind_eq_some_iff.1 h
   let p6 : Nat × AV := (8, .v (.int .i64 c7))
   refine Sem.runS (s1 := ⟨Fr 46 [p5, p4, p6, (9, .sl 1 (v9.map (cdL 1 cdI).enc)), p3, p2, p1], []⟩) ?_ ?_
   ·refine RunS.segF (n := 46) he 1 [p5, p4, p3, p2, p1, (34, .v (.int .i64 c7))] [] kr ?_
    refine RunS.one he 0 rfl (op_q (wantedA_none rfl) rfl (q_indexAddr (a := .sl 1 (x2.map (cdL 1 (cdL 1 cdI)).enc)) (b := .v (.int .i64 c7)) kr kr (ix_sl (e := (cdL 1 (cdL 1 cdI)).enc) (el := 50) (k := 1) (ki := .i64) kr kr hv9))) ?_
    exact RunS.last he
   refine Sem.seq ?_
   obtain ⟨v10, hv10, h⟩ := Option.bind_eq_some_iff.1 h
   refine Sem.runS (s1 := ⟨Fr 46 [p5, p4, p6, (10, .v (.int .i64 v10)), p3, p2, p1], []⟩) ?_ ?_
   ·refine RunS.segF (n := 46) he 3 [p5, p4, p6, p3, p2, p1, (37, .v (.int .i64 x0)), (38, .sl 1 (x1.map cdI.enc)), (39, .sl 1 (v9.map (cdL 1 cdI).enc))] [] kr ?_
    refine RunS.call he (fid := 83) (s := cs_evening_check) (F := fun a => evening_check a.1 a.2.1 a.2.2.1) (er := er_evening_check) (xs := [.v (.int .i64 x0), .sl 1 (x1.map cdI.enc), .sl 1 (v9.map (cdL 1 cdI).enc)]) (a := (x0, x1, v9, ())) rfl (wantedA_none rfl) kr kr kr kr (Sns.cons (Sn.enc (c := cdI) (v := x0)) (Sns.cons (Sn.enc (c := (cdL 1 cdI)) (v := x1)) (Sns.cons (Sn.enc (c := (cdL 1 (cdL 1 cdI))) (v := v9)) Sns.nil))) (.inl kr) hv10 ?_
    exact RunS.last he
   refine Sem.sq he [p5, p4, p6, (10, .v (.int .i64 v10)), p3, p2, p1, (42, .v (.bool (v10 != 0)))] [] ?_
   refine Sem.cond (b := (v10 != 0)) kr (fun hb11 => ?_) (fun hb11 => ?_)
   ·rw [if_pos hb11] at h
    refine Sem.sq he [(6, .v (.int .i64 c7)), (7, .v (.int .i64 v10))] [] ?_
    refine Sem.ret ?_
    have hq := Option.some.inj h; subst hq
    exact ⟨rfl, Wk.f1⟩
   ·rw [if_f hb11] at h
    refine Sem.skip ?_
    let p7 : Nat × AV := (32, .v (.int .i64 (wr .i64 (c7 + 1))))
    refine Sem.rg he [p5, p4, p3, p2, p7] [] ?_
    exact SemN.wk (s1 := ⟨Fr 46 [p5, p4, p3, p2, p7], []⟩) Wk.f1 (ih (wr .i64 (c7 + 1)) h)
  ·rw [if_f hb8] at h
   refine Sem.exit ?_
   have hq := Option.some.inj h; subst hq
   exact ⟨rfl, Wk.f1⟩
theorem evening_Check_sem (x0 : Int) (x1 : (List Int)) (x2 : (List (List (List Int)))) (r : Int × Int) (h : evening_Check x0 x1 x2 = some r) : Sem e_evening_Check ⟨none, false⟩ cb_evening_Check ⟨Fr 46 (pairs0 0 (cs_evening_Check.enc (x0, x1, x2, ()))), []⟩ fun e s' => (e = .normal ∨ e = .ret) ∧ ∃ xs, resA e_evening_Check.P s'.fr s'.hp Tryd.f27.results.toList = some xs ∧ retA xs = er_evening_Check r := by
 have he := e_evening_Check_ok
 unfold evening_Check at h
 refine Sem.wkQ (Sem.wk (s1 := ⟨Fr 46 [(0, .v (.int .i64 x0)), (1, .sl 1 (x1.map cdI.enc)), (2, .sl 1 (x2.map (cdL 1 (cdL 1 cdI)).enc))], []⟩) Wk.f1 ?_)
 refine Sem.sq he [(0, .v (.int .i64 x0)), (1, .sl 1 (x1.map cdI.enc)), (2, .sl 1 (x2.map (cdL 1 (cdL 1 cdI)).enc))] [] ?_
 refine Sem.seq ?_
 refine Sem.block ?_
 refine Sem.seq ?_
 obtain ⟨v1, hv1, h⟩ := Option.bind_eq_some_iff.1 h
 obtain ⟨j4, hj4, h⟩ := Option.bind_eq_some_iff.1 h
 refine Sem.runS (s1 := ⟨Fr 46 [(0, .v (.int .i64 x0)), (1, .sl 1 (x1.map cdI.enc)), (2, .sl 1 (x2.map (cdL 1 (cdL 1 cdI)).enc)), (11, .v (.bool j4))], []⟩) ?_ ?_
 ·refine RunS.segF (n := 46) he 1 [(0, .v (.int .i64 x0)), (1, .sl 1 (x1.map cdI.enc)), (2, .sl 1 (x2.map (cdL 1 (cdL 1 cdI)).enc)), (12, .v (.int .i64 x0))] [] kr ?_
  refine RunS.call he (fid := 82) (s := cs_evening_guests) (F := fun a => evening_guests a.1) (er := er_evening_guests) (xs := [.v (.int .i64 x0)]) (a := (x0, ())) rfl (wantedA_none rfl) kr kr kr kr (Sns.cons (Sn.enc (c := cdI) (v := x0)) Sns.nil) (.inl kr) hv1 ?_
  refine RunS.segF (n := 46) he 2 [(0, .v (.int .i64 x0)), (1, .sl 1 (x1.map cdI.enc)), (2, .sl 1 (x2.map (cdL 1 (cdL 1 cdI)).enc)), (15, .v (.bool (!v1)))] [] kr ?_
  rcases Bool.eq_false_or_eq_true (!v1) with hc17 | hc17
  ·rw [if_pos hc17] at hj4
   rw [hc17]
   refine RunS.segF (n := 46) he 11 [(0, .v (.int .i64 x0)), (1, .sl 1 (x1.map cdI.enc)), (2, .sl 1 (x2.map (cdL 1 (cdL 1 cdI)).enc)), (11, .v (.bool true))] [] kr ?_
   have hq := Option.some.inj hj4; subst hq
   exact RunS.done rfl Wk.f1
  ·rw [if_f hc17] at hj4
   rw [hc17]
   refine RunS.segF (n := 46) he 1 [(0, .v (.int .i64 x0)), (1, .sl 1 (x1.map cdI.enc)), (2, .sl 1 (x2.map (cdL 1 (cdL 1 cdI)).enc)), (15, .v (.bool false)), (16, .sl 1 (x1.map cdI.enc))] [] kr ?_
   refine RunS.one he 0 rfl (op_q kr rfl (q_len (a := .sl 1 (x1.map cdI.enc)) kr (len_sl (el := 3) kr))) ?_
   refine RunS.segF (n := 46) he 2 [(0, .v (.int .i64 x0)), (1, .sl 1 (x1.map cdI.enc)), (2, .sl 1 (x2.map (cdL 1 (cdL 1 cdI)).enc)), (15, .v (.bool false)), (19, .v (.bool (decide ((x1.length : Int) > 0))))] [] kr ?_
   rcases Bool.eq_false_or_eq_true (decide ((x1.length : Int) > 0)) with hc18 | hc18
   ·rw [if_pos hc18] at hj4
    rw [hc18]
    refine RunS.segF (n := 46) he 2 [(0, .v (.int .i64 x0)), (1, .sl 1 (x1.map cdI.enc)), (2, .sl 1 (x2.map (cdL 1 (cdL 1 cdI)).enc)), (15, .v (.bool false)), (19, .v (.bool true)), (20, .v (.int .i64 x0)), (21, .sl 1 (x1.map cdI.enc))] [] kr ?_
    obtain ⟨v2, hv2, hj4⟩ := Option.bind_eq_some_iff.1 hj4
    refine RunS.call he (fid := 67) (s := cs_evening_fit) (F := fun a => evening_fit a.1 a.2.1) (er := er_evening_fit) (xs := [.v (.int .i64 x0), .sl 1 (x1.map cdI.enc)]) (a := (x0, x1, ())) rfl kr kr kr kr kr (Sns.cons (Sn.enc (c := cdI) (v := x0)) (Sns.cons (Sn.enc (c := (cdL 1 cdI)) (v := x1)) Sns.nil)) (.inl kr) hv2 ?_
    refine RunS.segF (n := 46) he 4 [(0, .v (.int .i64 x0)), (1, .sl 1 (x1.map cdI.enc)), (2, .sl 1 (x2.map (cdL 1 (cdL 1 cdI)).enc)), (11, .v (.bool (!v2)))] [] kr ?_
    have hq := Option.some.inj hj4; subst hq
    exact RunS.done rfl Wk.f1
   ·rw [if_f hc18] at hj4
    rw [hc18]
    refine RunS.segF (n := 46) he 7 [(0, .v (.int .i64 x0)), (1, .sl 1 (x1.map cdI.enc)), (2, .sl 1 (x2.map (cdL 1 (cdL 1 cdI)).enc)), (11, .v (.bool false))] [] kr ?_
    have hq := Option.some.inj hj4; subst hq
    exact RunS.done rfl Wk.f1
 refine Sem.cond (b := j4) kr (fun hb5 => ?_) (fun hb5 => ?_)
 ·rw [if_pos hb5] at h
  refine Sem.sq he [(6, .v (.int .i64 0)), (7, .v (.int .i64 90))] [] ?_
  refine Sem.ret ?_
  have hq := Option.some.inj h; subst hq
  exact ⟨⟨Fr 46 [(6, .v (.int .i64 0)), (7, .v (.int .i64 90))], []⟩, Wk.f1, .inr rfl, [.v (.int .i64 0), .v (.int .i64 90)], kr, kr⟩
 ·rw [if_f hb5] at h
  refine Sem.seq ?_
  refine Sem.runS (s1 := ⟨Fr 46 [(0, .v (.int .i64 x0)), (1, .sl 1 (x1.map cdI.enc)), (2, .sl 1 (x2.map (cdL 1 (cdL 1 cdI)).enc)), (26, .v (.bool (decide ((x2.length : Int) > 64))))], []⟩) ?_ ?_
  ·refine RunS.segF (n := 46) he 1 [(0, .v (.int .i64 x0)), (1, .sl 1 (x1.map cdI.enc)), (2, .sl 1 (x2.map (cdL 1 (cdL 1 cdI)).enc)), (27, .sl 1 (x2.map (cdL 1 (cdL 1 cdI)).enc))] [] kr ?_
   refine RunS.one he 0 rfl (op_q (wantedA_none rfl) rfl (q_len (a := .sl 1 (x2.map (cdL 1 (cdL 1 cdI)).enc)) kr (len_sl (el := 50) kr))) ?_
   exact RunS.last he
  refine Sem.cond (b := (decide ((x2.length : Int) > 64))) kr (fun hb6 => ?_) (fun hb6 => ?_)
  ·rw [if_pos hb6] at h
   refine Sem.sq he [(6, .v (.int .i64 0)), (7, .v (.int .i64 7))] [] ?_
   refine Sem.ret ?_
   have hq := Option.some.inj h; subst hq
   exact ⟨⟨Fr 46 [(6, .v (.int .i64 0)), (7, .v (.int .i64 7))], []⟩, Wk.f1, .inr rfl, [.v (.int .i64 0), .v (.int .i64 7)], kr, kr⟩
  ·rw [if_f hb6] at h
   refine Sem.skip ?_
   refine Sem.seq ?_
   refine Sem.seq ?_
   refine Sem.runS (s1 := ⟨Fr 46 [(0, .v (.int .i64 x0)), (1, .sl 1 (x1.map cdI.enc)), (30, .sl 1 (x2.map (cdL 1 (cdL 1 cdI)).enc)), (31, .v (.int .i64 (x2.length : Int))), (32, .v (.int .i64 0))], []⟩) ?_ ?_
   ·refine RunS.segF (n := 46) he 1 [(0, .v (.int .i64 x0)), (1, .sl 1 (x1.map cdI.enc)), (30, .sl 1 (x2.map (cdL 1 (cdL 1 cdI)).enc))] [] kr ?_
    refine RunS.one he 0 rfl (op_q (wantedA_none rfl) rfl (q_len (a := .sl 1 (x2.map (cdL 1 (cdL 1 cdI)).enc)) kr (len_sl (el := 50) kr))) ?_
    exact RunS.last he
   refine Sem.block ?_
   obtain ⟨r14, hr14, h⟩ := Option.bind_eq_some_iff.1 h
   refine Sem.loop (n := 100000) ?_
   rcases r14 with w15 | w16
   ·try dsimp only at h
    refine Sem.cutN (SemN.wk (s1 := ⟨Fr 46 [(0, .v (.int .i64 x0)), (1, .sl 1 (x1.map cdI.enc)), (30, .sl 1 (x2.map (cdL 1 (cdL 1 cdI)).enc)), (31, .v (.int .i64 (x2.length : Int))), (32, .v (.int .i64 0))], []⟩) Wk.f1 (evening_Check_1_ok x0 x1 x2 _ 0 _ hr14)) ?_
    refine Sem.sq he [(6, .v (.int .i64 0)), (7, .v (.int .i64 0))] [] ?_
    refine Sem.ret ?_
    have hq := Option.some.inj h; subst hq
    exact ⟨⟨Fr 46 [(6, .v (.int .i64 0)), (7, .v (.int .i64 0))], []⟩, Wk.f1, .inr rfl, [.v (.int .i64 0), .v (.int .i64 0)], kr, kr⟩
   ·try dsimp only at h
    refine Sem.cutN (SemN.wk (s1 := ⟨Fr 46 [(0, .v (.int .i64 x0)), (1, .sl 1 (x1.map cdI.enc)), (30, .sl 1 (x2.map (cdL 1 (cdL 1 cdI)).enc)), (31, .v (.int .i64 (x2.length : Int))), (32, .v (.int .i64 0))], []⟩) Wk.f1 (evening_Check_1_ok x0 x1 x2 _ 0 _ hr14)) ?_
    have hq := Option.some.inj h; subst hq
    exact ⟨⟨Fr 46 [(6, .v (.int .i64 w16.1)), (7, .v (.int .i64 w16.2))], []⟩, Wk.f1, .inr rfl, [.v (.int .i64 w16.1), .v (.int .i64 w16.2)], kr, kr⟩
def t_evening_Check : List AV → Option AV := told cs_evening_Check (fun a => evening_Check a.1 a.2.1 a.2.2.1) er_evening_Check
theorem x_evening_Check : XOk 27 t_evening_Check := by
 refine EnvOk.x (E := e_evening_Check) (contract_ok e_evening_Check_ok (fn := Tryd.f27) (c := cb_evening_Check) ?h1 ?h2 ⟨Tryd.call27⟩ cs_evening_Check (fun a => evening_Check a.1 a.2.1 a.2.2.1) er_evening_Check (fun a => (by show 3 ≤ 46; decide)) ?h3 ?h4) rfl rfl
 case h1 => kernel_rfl
 case h2 => kernel_rfl
 case h3 => intro b; kernel_rfl
 case h4 => exact fun a b h => evening_Check_sem a.1 a.2.1 a.2.2.1 b h
/- trestle/evening.valid -/
noncomputable def e_evening_valid : Env := (E0.withX 27 t_evening_Check)
theorem e_evening_valid_ok : EnvOk e_evening_valid := (EnvOk.withX E0_ok x_evening_Check.1 x_evening_Check.2)
noncomputable def cb_evening_valid : Code := codeOf Tryd.f50
def evening_valid (x0 : Int) (x1 : (List (List (List Int)))) : Option (Bool) :=
 (evening_Check x0 [] x1).bind fun v1 =>
 some (v1.2 == 0)
def cs_evening_valid : Cs (Int × (List (List (List Int))) × Unit) := (csC cdI (csC (cdL 1 (cdL 1 (cdL 1 cdI))) csN))
def er_evening_valid (r : Bool) : AV := cdB.enc r
theorem evening_valid_sem (x0 : Int) (x1 : (List (List (List Int)))) (r : Bool) (h : evening_valid x0 x1 = some r) : Sem e_evening_valid ⟨none, false⟩ cb_evening_valid ⟨Fr 15 (pairs0 0 (cs_evening_valid.enc (x0, x1, ()))), []⟩ fun e s' => (e = .normal ∨ e = .ret) ∧ ∃ xs, resA e_evening_valid.P s'.fr s'.hp Tryd.f50.results.toList = some xs ∧ retA xs = er_evening_valid r := by
 have he := e_evening_valid_ok
 unfold evening_valid at h
 let p1 : Nat × AV := (1, .sl 1 (x1.map (cdL 1 (cdL 1 cdI)).enc))
 refine Sem.wkQ (Sem.wk (s1 := ⟨Fr 15 [(0, .v (.int .i64 x0)), p1], []⟩) Wk.f1 ?_)
 refine Sem.sq he [(0, .v (.int .i64 x0)), p1] [] ?_
 refine Sem.seq ?_
 obtain ⟨v1, hv1, h⟩ := Option.bind_eq_some_iff.1 h
 refine Sem.runS (s1 := ⟨Fr 15 [(6, .v (.int .i64 v1.2))], []⟩) ?_ ?_
 ·refine RunS.segF (n := 15) he 2 [(8, .v (.int .i64 x0)), (9, .sl 1 (x1.map (cdL 1 (cdL 1 cdI)).enc))] [] kr ?_
  refine RunS.call he (fid := 27) (s := cs_evening_Check) (F := fun a => evening_Check a.1 a.2.1 a.2.2.1) (er := er_evening_Check) (xs := [.v (.int .i64 x0), .e0, .sl 1 (x1.map (cdL 1 (cdL 1 cdI)).enc)]) (a := (x0, [], x1, ())) rfl (wantedA_none rfl) kr kr kr kr (Sns.cons (Sn.enc (c := cdI) (v := x0)) (Sns.cons Sn.e0 (Sns.cons (Sn.enc (c := (cdL 1 (cdL 1 (cdL 1 cdI)))) (v := x1)) Sns.nil))) (.inl kr) hv1 ?_
  exact RunS.last he
 refine Sem.sq he [(4, .v (.bool (v1.2 == 0)))] [] ?_
 refine Sem.ret ?_
 have hq := Option.some.inj h; subst hq
 exact ⟨⟨Fr 15 [(4, .v (.bool (v1.2 == 0)))], []⟩, Wk.f1, .inr rfl, [.v (.bool (v1.2 == 0))], kr, kr⟩
def t_evening_valid : List AV → Option AV := told cs_evening_valid (fun a => evening_valid a.1 a.2.1) er_evening_valid
theorem x_evening_valid : XOk 50 t_evening_valid := by
 refine EnvOk.x (E := e_evening_valid) (contract_ok e_evening_valid_ok (fn := Tryd.f50) (c := cb_evening_valid) ?h1 ?h2 ⟨Tryd.call50⟩ cs_evening_valid (fun a => evening_valid a.1 a.2.1) er_evening_valid (fun a => (by show 2 ≤ 15; decide)) ?h3 ?h4) rfl rfl
 case h1 => kernel_rfl
 case h2 => kernel_rfl
 case h3 => intro b; kernel_rfl
 case h4 => exact fun a b h => evening_valid_sem a.1 a.2.1 b h
/- internal/strconv.small -/
noncomputable def cb_strconv_small : Code := codeOf Tryd.f134
def strconv_small (x0 : Int) : Option ((List UInt8)) :=
 if (decide (x0 < 10)) = true then
 if (cutOk x0 (wr .i64 (x0 + 1)) ([48, 49, 50, 51, 52, 53, 54, 55, 56, 57, 97, 98, 99, 100, 101, 102, 103, 104, 105, 106, 107, 108, 109, 110, 111, 112, 113, 114, 115, 116, 117, 118, 119, 120, 121, 122] : List UInt8).length) = true then
 some ((([48, 49, 50, 51, 52, 53, 54, 55, 56, 57, 97, 98, 99, 100, 101, 102, 103, 104, 105, 106, 107, 108, 109, 110, 111, 112, 113, 114, 115, 116, 117, 118, 119, 120, 121, 122] : List UInt8).take (wr .i64 (x0 + 1)).toNat).drop x0.toNat)
 else none
 else
 if (cutOk (wr .i64 (x0 * 2)) (wr .i64 ((wr .i64 (x0 * 2)) + 2)) ([48, 48, 48, 49, 48, 50, 48, 51, 48, 52, 48, 53, 48, 54, 48, 55, 48, 56, 48, 57, 49, 48, 49, 49, 49, 50, 49, 51, 49, 52, 49, 53, 49, 54, 49, 55, 49, 56, 49, 57, 50, 48, 50, 49, 50, 50, 50, 51, 50, 52, 50, 53, 50, 54, 50, 55, 50, 56, 50, 57, 51, 48, 51, 49, 51, 50, 51, 51, 51, 52, 51, 53, 51, 54, 51, 55, 51, 56, 51, 57, 52, 48, 52, 49, 52, 50, 52, 51, 52, 52, 52, 53, 52, 54, 52, 55, 52, 56, 52, 57, 53, 48, 53, 49, 53, 50, 53, 51, 53, 52, 53, 53, 53, 54, 53, 55, 53, 56, 53, 57, 54, 48, 54, 49, 54, 50, 54, 51, 54, 52, 54, 53, 54, 54, 54, 55, 54, 56, 54, 57, 55, 48, 55, 49, 55, 50, 55, 51, 55, 52, 55, 53, 55, 54, 55, 55, 55, 56, 55, 57, 56, 48, 56, 49, 56, 50, 56, 51, 56, 52, 56, 53, 56, 54, 56, 55, 56, 56, 56, 57, 57, 48, 57, 49, 57, 50, 57, 51, 57, 52, 57, 53, 57, 54, 57, 55, 57, 56, 57, 57] : List UInt8).length) = true then
 some ((([48, 48, 48, 49, 48, 50, 48, 51, 48, 52, 48, 53, 48, 54, 48, 55, 48, 56, 48, 57, 49, 48, 49, 49, 49, 50, 49, 51, 49, 52, 49, 53, 49, 54, 49, 55, 49, 56, 49, 57, 50, 48, 50, 49, 50, 50, 50, 51, 50, 52, 50, 53, 50, 54, 50, 55, 50, 56, 50, 57, 51, 48, 51, 49, 51, 50, 51, 51, 51, 52, 51, 53, 51, 54, 51, 55, 51, 56, 51, 57, 52, 48, 52, 49, 52, 50, 52, 51, 52, 52, 52, 53, 52, 54, 52, 55, 52, 56, 52, 57, 53, 48, 53, 49, 53, 50, 53, 51, 53, 52, 53, 53, 53, 54, 53, 55, 53, 56, 53, 57, 54, 48, 54, 49, 54, 50, 54, 51, 54, 52, 54, 53, 54, 54, 54, 55, 54, 56, 54, 57, 55, 48, 55, 49, 55, 50, 55, 51, 55, 52, 55, 53, 55, 54, 55, 55, 55, 56, 55, 57, 56, 48, 56, 49, 56, 50, 56, 51, 56, 52, 56, 53, 56, 54, 56, 55, 56, 56, 56, 57, 57, 48, 57, 49, 57, 50, 57, 51, 57, 52, 57, 53, 57, 54, 57, 55, 57, 56, 57, 57] : List UInt8).take (wr .i64 ((wr .i64 (x0 * 2)) + 2)).toNat).drop (wr .i64 (x0 * 2)).toNat)
 else none
def cs_strconv_small : Cs (Int × Unit) := (csC cdI csN)
def er_strconv_small (r : (List UInt8)) : AV := cdS.enc r
theorem strconv_small_sem (x0 : Int) (r : (List UInt8)) (h : strconv_small x0 = some r) : Sem E0 ⟨none, false⟩ cb_strconv_small ⟨Fr 15 (pairs0 0 (cs_strconv_small.enc (x0, ()))), []⟩ fun e s' => (e = .normal ∨ e = .ret) ∧ ∃ xs, resA E0.P s'.fr s'.hp Tryd.f134.results.toList = some xs ∧ retA xs = er_strconv_small r := by
 unfold strconv_small at h
 let p1 : Nat × AV := (0, .v (.int .i64 x0))
 refine Sem.wkQ (Sem.wk (s1 := ⟨Fr 15 [p1], []⟩) Wk.f1 ?_)
 refine Sem.sq E0_ok [p1] [] ?_
 refine Sem.seq ?_
 refine Sem.sq E0_ok [p1, (4, .v (.bool (decide (x0 < 10))))] [] ?_
 refine Sem.cond (b := (decide (x0 < 10))) kr (fun hb1 => ?_) (fun hb1 => ?_)
 ·rw [if_pos hb1] at h
  refine Sem.seq ?_
  by_cases hk2 : (cutOk x0 (wr .i64 (x0 + 1)) ([48, 49, 50, 51, 52, 53, 54, 55, 56, 57, 97, 98, 99, 100, 101, 102, 103, 104, 105, 106, 107, 108, 109, 110, 111, 112, 113, 114, 115, 116, 117, 118, 119, 120, 121, 122] : List UInt8).length) = true
  case neg => rw [if_neg hk2] at h; cases h
  rw [if_pos hk2] at h
  let p2 : Nat × AV := (2, .st ((([48, 49, 50, 51, 52, 53, 54, 55, 56, 57, 97, 98, 99, 100, 101, 102, 103, 104, 105, 106, 107, 108, 109, 110, 111, 112, 113, 114, 115, 116, 117, 118, 119, 120, 121, 122] : List UInt8).take (wr .i64 (x0 + 1)).toNat).drop x0.toNat))
  refine Sem.runS (s1 := ⟨Fr 15 [p2], []⟩) ?_ ?_
  ·refine RunS.segF (n := 15) E0_ok 3 [(5, .v (.int .i64 x0)), (7, .v (.int .i64 (wr .i64 (x0 + 1))))] [] kr ?_
   refine RunS.one E0_ok 0 rfl (op_q (wantedA_none rfl) rfl (q_slice (a := .st [48, 49, 50, 51, 52, 53, 54, 55, 56, 57, 97, 98, 99, 100, 101, 102, 103, 104, 105, 106, 107, 108, 109, 110, 111, 112, 113, 114, 115, 116, 117, 118, 119, 120, 121, 122]) (l := (some (.v (.int .i64 x0)))) (u := (some (.v (.int .i64 (wr .i64 (x0 + 1)))))) (m := none) kr kr kr rfl (slice_st (bs := [48, 49, 50, 51, 52, 53, 54, 55, 56, 57, 97, 98, 99, 100, 101, 102, 103, 104, 105, 106, 107, 108, 109, 110, 111, 112, 113, 114, 115, 116, 117, 118, 119, 120, 121, 122]) (lo := x0) (hi := (wr .i64 (x0 + 1))) kr (natB_i (cut_lo hk2)) (natB_i (cut_hi hk2)) hk2))) ?_
   exact RunS.last E0_ok
  refine Sem.ret ?_
  have hq := Option.some.inj h; subst hq
  exact ⟨⟨Fr 15 [p2], []⟩, Wk.f1, .inr rfl, [.st ((([48, 49, 50, 51, 52, 53, 54, 55, 56, 57, 97, 98, 99, 100, 101, 102, 103, 104, 105, 106, 107, 108, 109, 110, 111, 112, 113, 114, 115, 116, 117, 118, 119, 120, 121, 122] : List UInt8).take (wr .i64 (x0 + 1)).toNat).drop x0.toNat)], kr, kr⟩
 ·rw [if_f hb1] at h
  refine Sem.skip ?_
  refine Sem.seq ?_
  by_cases hk3 : (cutOk (wr .i64 (x0 * 2)) (wr .i64 ((wr .i64 (x0 * 2)) + 2)) ([48, 48, 48, 49, 48, 50, 48, 51, 48, 52, 48, 53, 48, 54, 48, 55, 48, 56, 48, 57, 49, 48, 49, 49, 49, 50, 49, 51, 49, 52, 49, 53, 49, 54, 49, 55, 49, 56, 49, 57, 50, 48, 50, 49, 50, 50, 50, 51, 50, 52, 50, 53, 50, 54, 50, 55, 50, 56, 50, 57, 51, 48, 51, 49, 51, 50, 51, 51, 51, 52, 51, 53, 51, 54, 51, 55, 51, 56, 51, 57, 52, 48, 52, 49, 52, 50, 52, 51, 52, 52, 52, 53, 52, 54, 52, 55, 52, 56, 52, 57, 53, 48, 53, 49, 53, 50, 53, 51, 53, 52, 53, 53, 53, 54, 53, 55, 53, 56, 53, 57, 54, 48, 54, 49, 54, 50, 54, 51, 54, 52, 54, 53, 54, 54, 54, 55, 54, 56, 54, 57, 55, 48, 55, 49, 55, 50, 55, 51, 55, 52, 55, 53, 55, 54, 55, 55, 55, 56, 55, 57, 56, 48, 56, 49, 56, 50, 56, 51, 56, 52, 56, 53, 56, 54, 56, 55, 56, 56, 56, 57, 57, 48, 57, 49, 57, 50, 57, 51, 57, 52, 57, 53, 57, 54, 57, 55, 57, 56, 57, 57] : List UInt8).length) = true
  case neg => rw [if_neg hk3] at h; cases h
  rw [if_pos hk3] at h
  let p3 : Nat × AV := (2, .st ((([48, 48, 48, 49, 48, 50, 48, 51, 48, 52, 48, 53, 48, 54, 48, 55, 48, 56, 48, 57, 49, 48, 49, 49, 49, 50, 49, 51, 49, 52, 49, 53, 49, 54, 49, 55, 49, 56, 49, 57, 50, 48, 50, 49, 50, 50, 50, 51, 50, 52, 50, 53, 50, 54, 50, 55, 50, 56, 50, 57, 51, 48, 51, 49, 51, 50, 51, 51, 51, 52, 51, 53, 51, 54, 51, 55, 51, 56, 51, 57, 52, 48, 52, 49, 52, 50, 52, 51, 52, 52, 52, 53, 52, 54, 52, 55, 52, 56, 52, 57, 53, 48, 53, 49, 53, 50, 53, 51, 53, 52, 53, 53, 53, 54, 53, 55, 53, 56, 53, 57, 54, 48, 54, 49, 54, 50, 54, 51, 54, 52, 54, 53, 54, 54, 54, 55, 54, 56, 54, 57, 55, 48, 55, 49, 55, 50, 55, 51, 55, 52, 55, 53, 55, 54, 55, 55, 55, 56, 55, 57, 56, 48, 56, 49, 56, 50, 56, 51, 56, 52, 56, 53, 56, 54, 56, 55, 56, 56, 56, 57, 57, 48, 57, 49, 57, 50, 57, 51, 57, 52, 57, 53, 57, 54, 57, 55, 57, 56, 57, 57] : List UInt8).take (wr .i64 ((wr .i64 (x0 * 2)) + 2)).toNat).drop (wr .i64 (x0 * 2)).toNat))
  refine Sem.runS (s1 := ⟨Fr 15 [p3], []⟩) ?_ ?_
  ·refine RunS.segF (n := 15) E0_ok 5 [(10, .v (.int .i64 (wr .i64 (x0 * 2)))), (13, .v (.int .i64 (wr .i64 ((wr .i64 (x0 * 2)) + 2))))] [] kr ?_
   refine RunS.one E0_ok 0 rfl (op_q (wantedA_none rfl) rfl (q_slice (a := .st [48, 48, 48, 49, 48, 50, 48, 51, 48, 52, 48, 53, 48, 54, 48, 55, 48, 56, 48, 57, 49, 48, 49, 49, 49, 50, 49, 51, 49, 52, 49, 53, 49, 54, 49, 55, 49, 56, 49, 57, 50, 48, 50, 49, 50, 50, 50, 51, 50, 52, 50, 53, 50, 54, 50, 55, 50, 56, 50, 57, 51, 48, 51, 49, 51, 50, 51, 51, 51, 52, 51, 53, 51, 54, 51, 55, 51, 56, 51, 57, 52, 48, 52, 49, 52, 50, 52, 51, 52, 52, 52, 53, 52, 54, 52, 55, 52, 56, 52, 57, 53, 48, 53, 49, 53, 50, 53, 51, 53, 52, 53, 53, 53, 54, 53, 55, 53, 56, 53, 57, 54, 48, 54, 49, 54, 50, 54, 51, 54, 52, 54, 53, 54, 54, 54, 55, 54, 56, 54, 57, 55, 48, 55, 49, 55, 50, 55, 51, 55, 52, 55, 53, 55, 54, 55, 55, 55, 56, 55, 57, 56, 48, 56, 49, 56, 50, 56, 51, 56, 52, 56, 53, 56, 54, 56, 55, 56, 56, 56, 57, 57, 48, 57, 49, 57, 50, 57, 51, 57, 52, 57, 53, 57, 54, 57, 55, 57, 56, 57, 57]) (l := (some (.v (.int .i64 (wr .i64 (x0 * 2)))))) (u := (some (.v (.int .i64 (wr .i64 ((wr .i64 (x0 * 2)) + 2)))))) (m := none) kr kr kr rfl (slice_st (bs := [48, 48, 48, 49, 48, 50, 48, 51, 48, 52, 48, 53, 48, 54, 48, 55, 48, 56, 48, 57, 49, 48, 49, 49, 49, 50, 49, 51, 49, 52, 49, 53, 49, 54, 49, 55, 49, 56, 49, 57, 50, 48, 50, 49, 50, 50, 50, 51, 50, 52, 50, 53, 50, 54, 50, 55, 50, 56, 50, 57, 51, 48, 51, 49, 51, 50, 51, 51, 51, 52, 51, 53, 51, 54, 51, 55, 51, 56, 51, 57, 52, 48, 52, 49, 52, 50, 52, 51, 52, 52, 52, 53, 52, 54, 52, 55, 52, 56, 52, 57, 53, 48, 53, 49, 53, 50, 53, 51, 53, 52, 53, 53, 53, 54, 53, 55, 53, 56, 53, 57, 54, 48, 54, 49, 54, 50, 54, 51, 54, 52, 54, 53, 54, 54, 54, 55, 54, 56, 54, 57, 55, 48, 55, 49, 55, 50, 55, 51, 55, 52, 55, 53, 55, 54, 55, 55, 55, 56, 55, 57, 56, 48, 56, 49, 56, 50, 56, 51, 56, 52, 56, 53, 56, 54, 56, 55, 56, 56, 56, 57, 57, 48, 57, 49, 57, 50, 57, 51, 57, 52, 57, 53, 57, 54, 57, 55, 57, 56, 57, 57]) (lo := (wr .i64 (x0 * 2))) (hi := (wr .i64 ((wr .i64 (x0 * 2)) + 2))) kr (natB_i (cut_lo hk3)) (natB_i (cut_hi hk3)) hk3))) ?_
   exact RunS.last E0_ok
  refine Sem.ret ?_
  have hq := Option.some.inj h; subst hq
  exact ⟨⟨Fr 15 [p3], []⟩, Wk.f1, .inr rfl, [.st ((([48, 48, 48, 49, 48, 50, 48, 51, 48, 52, 48, 53, 48, 54, 48, 55, 48, 56, 48, 57, 49, 48, 49, 49, 49, 50, 49, 51, 49, 52, 49, 53, 49, 54, 49, 55, 49, 56, 49, 57, 50, 48, 50, 49, 50, 50, 50, 51, 50, 52, 50, 53, 50, 54, 50, 55, 50, 56, 50, 57, 51, 48, 51, 49, 51, 50, 51, 51, 51, 52, 51, 53, 51, 54, 51, 55, 51, 56, 51, 57, 52, 48, 52, 49, 52, 50, 52, 51, 52, 52, 52, 53, 52, 54, 52, 55, 52, 56, 52, 57, 53, 48, 53, 49, 53, 50, 53, 51, 53, 52, 53, 53, 53, 54, 53, 55, 53, 56, 53, 57, 54, 48, 54, 49, 54, 50, 54, 51, 54, 52, 54, 53, 54, 54, 54, 55, 54, 56, 54, 57, 55, 48, 55, 49, 55, 50, 55, 51, 55, 52, 55, 53, 55, 54, 55, 55, 55, 56, 55, 57, 56, 48, 56, 49, 56, 50, 56, 51, 56, 52, 56, 53, 56, 54, 56, 55, 56, 56, 56, 57, 57, 48, 57, 49, 57, 50, 57, 51, 57, 52, 57, 53, 57, 54, 57, 55, 57, 56, 57, 57] : List UInt8).take (wr .i64 ((wr .i64 (x0 * 2)) + 2)).toNat).drop (wr .i64 (x0 * 2)).toNat)], kr, kr⟩
def t_strconv_small : List AV → Option AV := told cs_strconv_small (fun a => strconv_small a.1) er_strconv_small
theorem x_strconv_small : XOk 134 t_strconv_small := by
 refine xok_of_sem Tryd.func134 (c := cb_strconv_small) ?h2 ⟨Tryd.call134⟩ cs_strconv_small (fun a => strconv_small a.1) er_strconv_small (fun a => (by show 1 ≤ 15; decide)) ?h3 ?h4
 case h2 => kernel_rfl
 case h3 => intro b; kernel_rfl
 case h4 => exact fun a b h => strconv_small_sem a.1 b h
/- internal/strconv.FormatInt -/
noncomputable def cb_strconv_FormatInt : Code := codeOf Tryd.f122
def strconv_FormatInt (x0 : Int) (x1 : Int) : Option ((List UInt8)) :=
 if (x1 == 10) = true then
 (if (decide ((0 : Int) ≤ x0)) = true then some (decide (x0 < 100)) else some false).bind fun j3 =>
 if j3 = true then
 (strconv_small x0).bind fun v5 =>
 some v5
 else
 none
 else
 none
def cs_strconv_FormatInt : Cs (Int × Int × Unit) := (csC cdI (csC cdI csN))
def er_strconv_FormatInt (r : (List UInt8)) : AV := cdS.enc r
theorem strconv_FormatInt_sem (x0 : Int) (x1 : Int) (r : (List UInt8)) (h : strconv_FormatInt x0 x1 = some r) : Sem E0 ⟨none, false⟩ cb_strconv_FormatInt ⟨Fr 54 (pairs0 0 (cs_strconv_FormatInt.enc (x0, x1, ()))), []⟩ fun e s' => (e = .normal ∨ e = .ret) ∧ ∃ xs, resA E0.P s'.fr s'.hp Tryd.f122.results.toList = some xs ∧ retA xs = er_strconv_FormatInt r := by
 unfold strconv_FormatInt at h
 refine Sem.wkQ (Sem.wk (s1 := ⟨Fr 54 [(0, .v (.int .i64 x0)), (1, .v (.int .i64 x1))], []⟩) Wk.f1 ?_)
 refine Sem.sq E0_ok [(0, .v (.int .i64 x0)), (1, .v (.int .i64 x1))] [] ?_
 refine Sem.seq ?_
 refine Sem.sq E0_ok [(0, .v (.int .i64 x0)), (11, .v (.bool (x1 == 10)))] [] ?_
 refine Sem.cond (b := (x1 == 10)) kr (fun hb1 => ?_) (fun hb1 => ?_)
 ·rw [if_pos hb1] at h
  refine Sem.seq ?_
  refine Sem.seq ?_
  obtain ⟨j3, hj3, h⟩ := Option.bind_eq_some_iff.1 h
  refine Sem.runS (s1 := ⟨Fr 54 [(0, .v (.int .i64 x0)), (17, .v (.bool j3))], []⟩) ?_ ?_
  ·refine RunS.segF (n := 54) E0_ok 3 [(0, .v (.int .i64 x0)), (14, .v (.bool (decide ((0 : Int) ≤ x0))))] [] kr ?_
   rcases Bool.eq_false_or_eq_true (decide ((0 : Int) ≤ x0)) with hc6 | hc6
   ·rw [if_pos hc6] at hj3
    rw [hc6]
    refine RunS.segF (n := 54) E0_ok 3 [(0, .v (.int .i64 x0)), (17, .v (.bool (decide (x0 < 100))))] [] kr ?_
    have hq := Option.some.inj hj3; subst hq
    exact RunS.done rfl Wk.f1
   ·rw [if_f hc6] at hj3
    rw [hc6]
    refine RunS.segF (n := 54) E0_ok 3 [(0, .v (.int .i64 x0)), (17, .v (.bool false))] [] kr ?_
    have hq := Option.some.inj hj3; subst hq
    exact RunS.done rfl Wk.f1
  refine Sem.cond (b := j3) kr (fun hb4 => ?_) (fun hb4 => ?_)
  ·rw [if_pos hb4] at h
   refine Sem.seq ?_
   obtain ⟨v5, hv5, h⟩ := Option.bind_eq_some_iff.1 h
   refine Sem.runS (s1 := ⟨Fr 54 [(4, .st v5)], []⟩) ?_ ?_
   ·refine RunS.segF (n := 54) E0_ok 1 [(18, .v (.int .i64 x0))] [] kr ?_
    refine RunS.callV (caps := []) (xs := [.v (.int .i64 x0)]) (u := (x0, ())) rfl rfl x_strconv_small rfl (wantedA_none rfl) kr kr (Sl.cons (Sm.enc (c := cdI) (v := x0)) Sl.nil) (.inl kr) hv5 ?_
    exact RunS.last E0_ok
   refine Sem.ret ?_
   have hq := Option.some.inj h; subst hq
   exact ⟨⟨Fr 54 [(4, .st v5)], []⟩, Wk.f1, .inr rfl, [.st v5], kr, kr⟩
  ·rw [if_f hb4] at h
   refine Sem.skip ?_
   refine Sem.seq ?_
   cases h
 ·rw [if_f hb1] at h
  refine Sem.skip ?_
  refine Sem.seq ?_
  cases h
def t_strconv_FormatInt : List AV → Option AV := told cs_strconv_FormatInt (fun a => strconv_FormatInt a.1 a.2.1) er_strconv_FormatInt
theorem x_strconv_FormatInt : XOk 122 t_strconv_FormatInt := by
 refine xok_of_sem Tryd.func122 (c := cb_strconv_FormatInt) ?h2 ⟨Tryd.call122⟩ cs_strconv_FormatInt (fun a => strconv_FormatInt a.1 a.2.1) er_strconv_FormatInt (fun a => (by show 2 ≤ 54; decide)) ?h3 ?h4
 case h2 => kernel_rfl
 case h3 => intro b; kernel_rfl
 case h4 => exact fun a b h => strconv_FormatInt_sem a.1 a.2.1 b h
/- internal/strconv.Itoa -/
noncomputable def cb_strconv_itoa : Code := codeOf Tryd.f100
def strconv_itoa (x0 : Int) : Option ((List UInt8)) :=
 (strconv_FormatInt x0 10).bind fun v1 =>
 some v1
def cs_strconv_itoa : Cs (Int × Unit) := (csC cdI csN)
def er_strconv_itoa (r : (List UInt8)) : AV := cdS.enc r
theorem strconv_itoa_sem (x0 : Int) (r : (List UInt8)) (h : strconv_itoa x0 = some r) : Sem E0 ⟨none, false⟩ cb_strconv_itoa ⟨Fr 5 (pairs0 0 (cs_strconv_itoa.enc (x0, ()))), []⟩ fun e s' => (e = .normal ∨ e = .ret) ∧ ∃ xs, resA E0.P s'.fr s'.hp Tryd.f100.results.toList = some xs ∧ retA xs = er_strconv_itoa r := by
 unfold strconv_itoa at h
 refine Sem.wkQ (Sem.wk (s1 := ⟨Fr 5 [(0, .v (.int .i64 x0))], []⟩) Wk.f1 ?_)
 refine Sem.sq E0_ok [(0, .v (.int .i64 x0))] [] ?_
 refine Sem.seq ?_
 obtain ⟨v1, hv1, h⟩ := Option.bind_eq_some_iff.1 h
 refine Sem.runS (s1 := ⟨Fr 5 [(2, .st v1)], []⟩) ?_ ?_
 ·refine RunS.segF (n := 5) E0_ok 1 [(3, .v (.int .i64 x0))] [] kr ?_
  refine RunS.callV (caps := []) (xs := [.v (.int .i64 x0), .v (.int .i64 10)]) (u := (x0, 10, ())) rfl rfl x_strconv_FormatInt rfl (wantedA_none rfl) kr kr (Sl.cons (Sm.enc (c := cdI) (v := x0)) (Sl.cons (Sm.enc (c := cdI) (v := 10)) Sl.nil)) (.inl kr) hv1 ?_
  exact RunS.last E0_ok
 refine Sem.ret ?_
 have hq := Option.some.inj h; subst hq
 exact ⟨⟨Fr 5 [(2, .st v1)], []⟩, Wk.f1, .inr rfl, [.st v1], kr, kr⟩
def t_strconv_itoa : List AV → Option AV := told cs_strconv_itoa (fun a => strconv_itoa a.1) er_strconv_itoa
theorem x_strconv_itoa : XOk 100 t_strconv_itoa := by
 refine xok_of_sem Tryd.func100 (c := cb_strconv_itoa) ?h2 ⟨Tryd.call100⟩ cs_strconv_itoa (fun a => strconv_itoa a.1) er_strconv_itoa (fun a => (by show 1 ≤ 5; decide)) ?h3 ?h4
 case h2 => kernel_rfl
 case h3 => intro b; kernel_rfl
 case h4 => exact fun a b h => strconv_itoa_sem a.1 b h
/- strconv.Itoa -/
noncomputable def cb_strconv_Itoa : Code := codeOf Tryd.f52
def strconv_Itoa (x0 : Int) : Option ((List UInt8)) :=
 (strconv_itoa x0).bind fun v1 =>
 some v1
def cs_strconv_Itoa : Cs (Int × Unit) := (csC cdI csN)
def er_strconv_Itoa (r : (List UInt8)) : AV := cdS.enc r
theorem strconv_Itoa_sem (x0 : Int) (r : (List UInt8)) (h : strconv_Itoa x0 = some r) : Sem E0 ⟨none, false⟩ cb_strconv_Itoa ⟨Fr 5 (pairs0 0 (cs_strconv_Itoa.enc (x0, ()))), []⟩ fun e s' => (e = .normal ∨ e = .ret) ∧ ∃ xs, resA E0.P s'.fr s'.hp Tryd.f52.results.toList = some xs ∧ retA xs = er_strconv_Itoa r := by
 unfold strconv_Itoa at h
 refine Sem.wkQ (Sem.wk (s1 := ⟨Fr 5 [(0, .v (.int .i64 x0))], []⟩) Wk.f1 ?_)
 refine Sem.sq E0_ok [(0, .v (.int .i64 x0))] [] ?_
 refine Sem.seq ?_
 obtain ⟨v1, hv1, h⟩ := Option.bind_eq_some_iff.1 h
 refine Sem.runS (s1 := ⟨Fr 5 [(2, .st v1)], []⟩) ?_ ?_
 ·refine RunS.segF (n := 5) E0_ok 1 [(3, .v (.int .i64 x0))] [] kr ?_
  refine RunS.callV (caps := []) (xs := [.v (.int .i64 x0)]) (u := (x0, ())) rfl rfl x_strconv_itoa rfl (wantedA_none rfl) kr kr (Sl.cons (Sm.enc (c := cdI) (v := x0)) Sl.nil) (.inl kr) hv1 ?_
  exact RunS.last E0_ok
 refine Sem.ret ?_
 have hq := Option.some.inj h; subst hq
 exact ⟨⟨Fr 5 [(2, .st v1)], []⟩, Wk.f1, .inr rfl, [.st v1], kr, kr⟩
def t_strconv_Itoa : List AV → Option AV := told cs_strconv_Itoa (fun a => strconv_Itoa a.1) er_strconv_Itoa
theorem x_strconv_Itoa : XOk 52 t_strconv_Itoa := by
 refine xok_of_sem Tryd.func52 (c := cb_strconv_Itoa) ?h2 ⟨Tryd.call52⟩ cs_strconv_Itoa (fun a => strconv_Itoa a.1) er_strconv_Itoa (fun a => (by show 1 ≤ 5; decide)) ?h3 ?h4
 case h2 => kernel_rfl
 case h3 => intro b; kernel_rfl
 case h4 => exact fun a b h => strconv_Itoa_sem a.1 b h
/- (*strings.Builder).copyCheck -/
noncomputable def e_strings_Builder_copyCheck_o : Env := E0
theorem e_strings_Builder_copyCheck_o_ok : EnvOk e_strings_Builder_copyCheck_o := E0_ok
noncomputable def cb_strings_Builder_copyCheck_o : Code := codeOf Tryd.f99
def strings_Builder_copyCheck_o  : Option (Unit) :=
 some ()
theorem strings_Builder_copyCheck_o_sem {L : List Asn} {hp : Hp} (u0 : AV) (r : Unit) (h : strings_Builder_copyCheck_o  = some r) (hT : T hp ((cel u0 2 76 (.ag [.v (.pointer none), .e0])) :: L)) : SemY e_strings_Builder_copyCheck_o ⟨none, false⟩ cb_strings_Builder_copyCheck_o ⟨Fr 20 (pairs0 0 [u0]), hp⟩ fun x s' => (x = .normal ∨ x = .ret) ∧ ∃ ys, resA e_strings_Builder_copyCheck_o.P s'.fr s'.hp Tryd.f99.results.toList = some ys ∧ (fun v h' => v = .tp [] ∧ T h' ((cel u0 2 76 (.ag [u0, .e0])) :: L)) (retA ys) s'.hp := by
 have he := e_strings_Builder_copyCheck_o_ok
 unfold strings_Builder_copyCheck_o at h
 refine SemY.wkQ (SemY.wk (s1 := ⟨Fr 20 [(0, u0)], hp⟩) WkY.f1 ?_)
 refine SemY.seq ?_
 refine SemY.regionL ?_
 refine RunL.sg he 1 ?_
 refine RunL.one he 0 rfl (op_q (wantedA_none rfl) rfl (q_nil (nil_cel hT) kr)) ?_
 refine RunL.one he 0 rfl (op_q (wantedA_none rfl) rfl (q_fld (a := u0) kr (fldc_B (off := 0) hT kr))) ?_
 refine RunL.one he 0 rfl (op_q (wantedA_none rfl) rfl (q_load (p := pOff u0 0) kr (ld_cel (off := 0) (y := .v (.pointer none)) (m := 1) (g := false) hT kr kr kr))) ?_
 refine RunL.fin he [(0, u0), (6, .v (.bool true))] ?_
 refine SemY.cond_true kr ?_
 refine SemY.regionL ?_
 refine RunL.sg he 2 ?_
 refine RunL.cv he rfl hT (wantedA_none rfl) kr kr ?_
 refine RunL.idf (p := u0) (fid := 121) he rfl (wantedA_none rfl) kr kr kr ?_
 refine RunL.cv he rfl hT (wantedA_none rfl) kr kr ?_
 refine RunL.one he 0 rfl (op_q (wantedA_none rfl) rfl (q_nil (nil_cel hT) kr)) ?_
 refine RunL.one he 0 rfl (op_q (wantedA_none rfl) rfl (q_fld (a := u0) kr (fldc_B (off := 0) hT kr))) ?_
 obtain ⟨hp1, hs2, hT3⟩ := st_cel (off := 0) (P := Tryd.prog) (ty := 74) (y := u0) (a' := .ag [u0, .e0]) hT (by have hq := shape_cel (hT.front 0 rfl); revert hq; generalize u0 = zz; intro hq; cases zz <;> first | (exact (Bool.false_ne_true hq.1).elim) | (exact (Bool.false_ne_true hq.2).elim) | skip; all_goals (first | rfl | kernel_rfl | exact rfl)) (by have hq := shape_cel (hT.front 0 rfl); revert hq; generalize u0 = zz; intro hq; cases zz <;> first | (exact (Bool.false_ne_true hq.1).elim) | (exact (Bool.false_ne_true hq.2).elim) | skip; all_goals (first | rfl | kernel_rfl | exact rfl)) (by have hq := shape_cel (hT.front 0 rfl); revert hq; generalize u0 = zz; intro hq; cases zz <;> first | (exact (Bool.false_ne_true hq.1).elim) | (exact (Bool.false_ne_true hq.2).elim) | skip; all_goals (first | rfl | kernel_rfl | exact rfl))
 refine RunL.store he (y := pOff u0 0) (z := u0) rfl (wantedA_none rfl) kr kr hs2 ?_
 refine RunL.done rfl ?_
 have hq := Option.some.inj h; subst hq
 exact ⟨⟨Fr 20 [], hp1⟩, WkY.f1, .inl rfl, [], kr, ⟨rfl, hT3⟩⟩
/- (*strings.Builder).WriteString -/
noncomputable def e_strings_Builder_WriteString_o : Env := E0
theorem e_strings_Builder_WriteString_o_ok : EnvOk e_strings_Builder_WriteString_o := E0_ok
noncomputable def cb_strings_Builder_WriteString_o : Code := codeOf Tryd.f51
def strings_Builder_WriteString_o (x0 : (List UInt8)) : Option (Int × (List Int)) :=
 strings_Builder_copyCheck_o.bind fun _v1 =>
 if (capOk 1 (([] : (List Int)).length + (bytesI x0).length)) = true then
 some ((x0.length : Int), (([] : (List Int)) ++ (bytesI x0)))
 else none
theorem strings_Builder_WriteString_o_sem {L : List Asn} {hp : Hp} (u0 : AV) (x0 : (List UInt8)) (r : Int × (List Int)) (h : strings_Builder_WriteString_o x0 = some r) (hT : T hp ((cel u0 2 76 (.ag [.v (.pointer none), .e0])) :: L)) : SemY e_strings_Builder_WriteString_o ⟨none, false⟩ cb_strings_Builder_WriteString_o ⟨Fr 19 (pairs0 0 [u0, .st x0]), hp⟩ fun x s' => (x = .normal ∨ x = .ret) ∧ ∃ ys, resA e_strings_Builder_WriteString_o.P s'.fr s'.hp Tryd.f51.results.toList = some ys ∧ (fun v h' => ∃ (z0 : AV), v = .tp [.v (.int .i64 r.1), .v .nilIface] ∧ T h' ((cel u0 2 76 (.ag [u0, z0])) :: (own_ (ocL 1 5 (ocV (cdK .u8))) z0 r.2) :: L)) (retA ys) s'.hp := by
 have he := e_strings_Builder_WriteString_o_ok
 unfold strings_Builder_WriteString_o at h
 refine SemY.wkQ (SemY.wk (s1 := ⟨Fr 19 [(0, u0), (1, .st x0)], hp⟩) WkY.f1 ?_)
 refine SemY.sq he [(0, u0), (1, .st x0)] ?_
 refine SemY.seq ?_
 refine SemY.regionL ?_
 refine RunL.sg he 1 ?_
 obtain ⟨v1, hv1, h⟩ := Option.bind_eq_some_iff.1 h
 refine RunL.inlT (E := e_strings_Builder_WriteString_o) (e := e_strings_Builder_copyCheck_o) rfl rfl e_strings_Builder_copyCheck_o_ok rfl rfl (fid := 99) (caps := []) (xs := [u0]) (fn := Tryd.f99) (c := cb_strings_Builder_copyCheck_o) (Out := fun v h' => v = .tp [] ∧ T h' ((cel u0 2 76 (.ag [u0, .e0])) :: L)) rfl (wantedA_none rfl) kr kr kr kr (by show 1 ≤ 20; decide) (strings_Builder_copyCheck_o_sem u0 _ hv1 hT) ?_
 rintro xx hp2 ⟨hqhp2, hT3⟩; subst xx
 refine RunL.done rfl (SemY.fr (l' := [(0, u0), (1, .st x0)]) kr ?_)
 refine SemY.seq ?_
 refine SemY.regionL ?_
 refine RunL.sg he 2 ?_
 refine RunL.one he 0 rfl (op_q (wantedA_none rfl) rfl (q_nil (nil_cel hT3) kr)) ?_
 refine RunL.one he 0 rfl (op_q (wantedA_none rfl) rfl (q_fld (a := u0) kr (fldc_B (off := 1) hT3 kr))) ?_
 refine RunL.one he 0 rfl (op_q (wantedA_none rfl) rfl (q_load (p := pOff u0 1) kr (ld_cel (off := 1) (y := .e0) (m := 1) (g := false) hT3 kr kr kr))) ?_
 refine RunL.sg he 1 ?_
 by_cases hk9 : (capOk 1 (([] : (List Int)).length + (bytesI x0).length)) = true
 case neg => rw [if_neg hk9] at h; cases h
 rw [if_pos hk9] at h
 have hT4 := (T.e0 (k := 1) (ty := 5) (o := (ocV (cdK .u8))) hT3)
 obtain ⟨e8, hp5, hb6, hT7⟩ := app_leafB (P := Tryd.prog) (ty := 41) (ty2 := 9) (bytes := 1) (y := .st x0) (ys := (bytesI x0)) hT4 kr elems_st kr hk9
 refine RunL.one he 0 rfl (op_w (wantedA_none rfl) rfl kr kr (w_append (a := .e0) (b := .st x0) kr kr hb6)) ?_
 have hT10 := (hT7.front 1 rfl)
 refine RunL.one he 0 rfl (op_q (wantedA_none rfl) rfl (q_nil (nil_cel hT10) kr)) ?_
 refine RunL.one he 0 rfl (op_q (wantedA_none rfl) rfl (q_fld (a := u0) kr (fldc_B (off := 1) hT10 kr))) ?_
 obtain ⟨hp11, hs12, hT13⟩ := st_cel (off := 1) (P := Tryd.prog) (ty := 41) (y := e8) (a' := .ag [u0, e8]) hT10 (by have hq := shape_own (hT10.front 1 rfl); revert hq; generalize e8 = zz; intro hq; cases zz <;> first | (exact (Bool.false_ne_true hq.1).elim) | (exact (Bool.false_ne_true hq.2).elim) | skip; all_goals (first | rfl | kernel_rfl | exact rfl)) (by have hq := shape_own (hT10.front 1 rfl); revert hq; generalize e8 = zz; intro hq; cases zz <;> first | (exact (Bool.false_ne_true hq.1).elim) | (exact (Bool.false_ne_true hq.2).elim) | skip; all_goals (first | rfl | kernel_rfl | exact rfl)) (by have hq := shape_own (hT10.front 1 rfl); revert hq; generalize e8 = zz; intro hq; cases zz <;> first | (exact (Bool.false_ne_true hq.1).elim) | (exact (Bool.false_ne_true hq.2).elim) | skip; all_goals (first | rfl | kernel_rfl | exact rfl))
 refine RunL.store he (y := pOff u0 1) (z := e8) rfl (wantedA_none rfl) kr kr hs12 ?_
 refine RunL.done rfl (SemY.fr (l' := [(1, .st x0)]) kr ?_)
 let p1 : Nat × AV := (4, .v (.int .i64 (x0.length : Int)))
 refine SemY.sq he [p1, (5, .v .nilIface)] ?_
 refine SemY.ret ?_
 have hq := Option.some.inj h; subst hq
 exact ⟨⟨Fr 19 [p1, (5, .v .nilIface)], hp11⟩, WkY.f1, .inr rfl, [.v (.int .i64 (x0.length : Int)), .v .nilIface], kr, ⟨e8, rfl, hT13⟩⟩
end Go.Proofs.YtcmgmkepodbpkaaDoor
