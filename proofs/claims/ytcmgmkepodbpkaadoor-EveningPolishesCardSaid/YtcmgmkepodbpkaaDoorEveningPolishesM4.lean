/- Lemmas for the proof. -/
import Derived.Test.YtcmgmkepodbpkaaDoorEveningPolishesM1
import Derived.Test.YtcmgmkepodbpkaaDoorEveningPolishesM2
import Derived.Test.YtcmgmkepodbpkaaDoorEveningPolishesM3
namespace Go.Proofs.YtcmgmkepodbpkaaDoor
open Go.RowKit
/- trestle/trestleref09.times -/
noncomputable def e_ref09_times : Env := E0
theorem e_ref09_times_ok : EnvOk e_ref09_times := E0_ok
noncomputable def cb_ref09_times : Code := codeOf Tryd.f75
def ref09_times_j3 (x0 : (List (List Int))) (x1 : Int) (c2 : Int) (c4 : Int) (c5 : Int) (v9 : Int) : Option ((Int)) :=
 if (v9 == x1) = true then
 some (wr .i64 (c4 + 1))
 else
 some c4
def ref09_times_2 (x0 : (List (List Int))) (x1 : Int) (c2 : Int) : Nat → Int → Int → Option ((Int))
 | 0, _, _ => none
 | f + 1, c4, c5 =>
  (idx x0 c2).bind fun v6 =>
  if (decide (c5 < (v6.length : Int))) = true then
  (idx x0 c2).bind fun v8 =>
  (idx v8 c5).bind fun v9 =>
  (ref09_times_j3 x0 x1 c2 c4 c5 v9).bind fun r12 =>
  ref09_times_2 x0 x1 c2 f r12 (wr .i64 (c5 + 1))
  else
  some c4
def ref09_times_1 (x0 : (List (List Int))) (x1 : Int) : Nat → Int → Int → Option ((Int))
 | 0, _, _ => none
 | f + 1, c1, c2 =>
  if (decide (c2 < (x0.length : Int))) = true then
  (ref09_times_2 x0 x1 c2 100000 c1 0).bind fun r14 =>
  ref09_times_1 x0 x1 f r14 (wr .i64 (c2 + 1))
  else
  some c1
def ref09_times (x0 : (List (List Int))) (x1 : Int) : Option (Int) :=
 (ref09_times_1 x0 x1 100000 0 0).bind fun r16 =>
 some r16
def cs_ref09_times : Cs ((List (List Int)) × Int × Unit) := (csC (cdL 1 (cdL 1 cdI)) (csC cdI csN))
def er_ref09_times (r : Int) : AV := cdI.enc r
set_option maxHeartbeats 4000000 in
set_option maxRecDepth 100000 in
theorem ref09_times_j3_ok (x0 : (List (List Int))) (x1 : Int) (c2 : Int) (c4 : Int) (c5 : Int) (v9 : Int) (r : (Int)) (h : ref09_times_j3 x0 x1 c2 c4 c5 v9 = some r) : Sem e_ref09_times ⟨none, false⟩ (pc cb_ref09_times [1, 1, 0, 1, 0, 0, 1, 0, 0, 1, 0, 0, 1, 0, 0, 1]) ⟨Fr 35 [(0, .sl 1 (x0.map (cdL 1 cdI).enc)), (1, .v (.int .i64 x1)), (5, .v (.int .i64 c4)), (6, .v (.int .i64 c2)), (7, .v (.int .i64 c5)), (31, .v (.bool (v9 == x1)))], []⟩ (fun e s => e = .normal ∧ Wk e_ref09_times s ⟨Fr 35 [(0, .sl 1 (x0.map (cdL 1 cdI).enc)), (1, .v (.int .i64 x1)), (5, .v (.int .i64 r)), (6, .v (.int .i64 c2)), (7, .v (.int .i64 c5))], []⟩) := by
 unfold ref09_times_j3 at h
 refine Sem.cond (b := (v9 == x1)) kr (fun hb10 => ?_) (fun hb10 => ?_)
 ·rw [if_pos hb10] at h
  refine Sem.rg e_ref09_times_ok [(0, .sl 1 (x0.map (cdL 1 cdI).enc)), (1, .v (.int .i64 x1)), (5, .v (.int .i64 (wr .i64 (c4 + 1)))), (6, .v (.int .i64 c2)), (7, .v (.int .i64 c5))] [] ?_
  have hq := Option.some.inj h; subst hq
  exact ⟨rfl, (Wk.fr kr)⟩
 ·rw [if_f hb10] at h
  refine Sem.skip ?_
  have hq := Option.some.inj h; subst hq
  exact ⟨rfl, (Wk.fr kr)⟩
set_option maxHeartbeats 4000000 in
set_option maxRecDepth 100000 in
theorem ref09_times_2_ok (x0 : (List (List Int))) (x1 : Int) (c2 : Int) : ∀ (f : Nat) (c4 : Int) (c5 : Int) (r : (Int)), ref09_times_2 x0 x1 c2 f c4 c5 = some r → SemN e_ref09_times ⟨none, false⟩ (pc cb_ref09_times [1, 1, 0, 1, 0, 0, 1, 0, 0, 1, 0, 0]) f ⟨Fr 35 [(0, .sl 1 (x0.map (cdL 1 cdI).enc)), (1, .v (.int .i64 x1)), (5, .v (.int .i64 c4)), (6, .v (.int .i64 c2)), (7, .v (.int .i64 c5))], []⟩ (fun e s => e = (.exit 2) ∧ Wk e_ref09_times s ⟨Fr 35 [(0, .sl 1 (x0.map (cdL 1 cdI).enc)), (1, .v (.int .i64 x1)), (5, .v (.int .i64 r)), (6, .v (.int .i64 c2))], []⟩) := by
 have he := e_ref09_times_ok
 intro f
 induction f with
 | zero => intro c4 c5 r h; cases h
 | succ f ih0 =>
  intro c4 c5 r h
  have ih := fun (c4 : Int) (c5 : Int) => ih0 c4 c5 r
  unfold ref09_times_2 at h
  refine SemN.succ ?_
  refine Sem.seq ?_
  refine Sem.seq ?_
  obtain ⟨v6, hv6, h⟩ := Option.bind_eq_some_iff.1 h
  let p1 : Nat × AV := (7, .v (.int .i64 c5))
  let p2 : Nat × AV := (6, .v (.int .i64 c2))
  let p3 : Nat × AV := (5, .v (.int .i64 c4))
  let p4 : Nat × AV := (1, .v (.int .i64 x1))
  let p5 : Nat × AV := (0, .sl 1 (x0.map (cdL 1 cdI).enc))
  refine Sem.runS (s1 := ⟨Fr 35 [p5, p4, p3, p2, p1, (20, .v (.bool (decide (c5 < (v6.length : Int)))))], []⟩) ?_ ?_
  ·refine RunS.segF (n := 35) he 3 [p5, p4, p3, p2, p1, (14, .v (.int .i64 c5)), (15, .sl 1 (x0.map (cdL 1 cdI).enc)), (16, .v (.int .i64 c2))] [] kr ?_
   refine RunS.one he 0 rfl (op_q (wantedA_none rfl) rfl (q_indexAddr (a := .sl 1 (x0.map (cdL 1 cdI).enc)) (b := .v (.int .i64 c2)) kr kr (ix_sl (e := (cdL 1 cdI).enc) (el := 31) (k := 1) (ki := .i64) kr kr hv6))) ?_
   refine RunS.segF (n := 35) he 1 [p5, p4, p3, p2, p1, (14, .v (.int .i64 c5)), (18, .sl 1 (v6.map cdI.enc))] [] kr ?_
   refine RunS.one he 0 rfl (op_q (wantedA_none rfl) rfl (q_len (a := .sl 1 (v6.map cdI.enc)) kr (len_sl (el := 3) kr))) ?_
   exact RunS.last he
  refine Sem.cond (b := (decide (c5 < (v6.length : Int)))) kr (fun hb7 => ?_) (fun hb7 => ?_)
  ·rw [if_pos hb7] at h
   refine Sem.skip ?_
   refine Sem.seq ?_
   refine Sem.block ?_
   refine Sem.seq ?_
   obtain ⟨v8, hv8, h⟩ := Option.bind_eq_some_iff.1 h
   obtain ⟨v9, hv9, h⟩ := Option.bind_eq_some_iff.1 h
   refine Sem.runS (s1 := ⟨Fr 35 [p5, p4, p3, p2, p1, (31, .v (.bool (v9 == x1)))], []⟩) ?_ ?_
   ·refine RunS.segF (n := 35) he 2 [p5, p4, p3, p2, p1, (23, .sl 1 (x0.map (cdL 1 cdI).enc)), (24, .v (.int .i64 c2))] [] kr ?_
    refine RunS.one he 0 rfl (op_q (wantedA_none rfl) rfl (q_indexAddr (a := .sl 1 (x0.map (cdL 1 cdI).enc)) (b := .v (.int .i64 c2)) kr kr (ix_sl (e := (cdL 1 cdI).enc) (el := 31) (k := 1) (ki := .i64) kr kr hv8))) ?_
    refine RunS.segF (n := 35) he 2 [p5, p4, p3, p2, p1, (26, .sl 1 (v8.map cdI.enc)), (27, .v (.int .i64 c5))] [] kr ?_
    refine RunS.one he 0 rfl (op_q (wantedA_none rfl) rfl (q_indexAddr (a := .sl 1 (v8.map cdI.enc)) (b := .v (.int .i64 c5)) kr kr (ix_sl (e := cdI.enc) (el := 3) (k := 1) (ki := .i64) kr kr hv9))) ?_
    exact RunS.last he
   obtain ⟨r12, hr12, h⟩ := Option.bind_eq_some_iff.1 h
   refine Sem.cut (ref09_times_j3_ok x0 x1 c2 c4 c5 v9 _ hr12) ?_
   let p6 : Nat × AV := (7, .v (.int .i64 (wr .i64 (c5 + 1))))
   refine Sem.rg he [p5, p4, (5, .v (.int .i64 r12)), p2, p6] [] ?_
   exact SemN.wk (s1 := ⟨Fr 35 [p5, p4, (5, .v (.int .i64 r12)), p2, p6], []⟩) (Wk.fr kr) (ih r12 (wr .i64 (c5 + 1)) h)
  ·rw [if_f hb7] at h
   refine Sem.exit ?_
   have hq := Option.some.inj h; subst hq
   exact ⟨rfl, (Wk.fr kr)⟩
set_option maxHeartbeats 4000000 in
set_option maxRecDepth 100000 in
theorem ref09_times_1_ok (x0 : (List (List Int))) (x1 : Int) : ∀ (f : Nat) (c1 : Int) (c2 : Int) (r : (Int)), ref09_times_1 x0 x1 f c1 c2 = some r → SemN e_ref09_times ⟨none, false⟩ (pc cb_ref09_times [1, 1, 0, 1, 0, 0]) f ⟨Fr 35 [(0, .sl 1 (x0.map (cdL 1 cdI).enc)), (1, .v (.int .i64 x1)), (5, .v (.int .i64 c1)), (6, .v (.int .i64 c2))], []⟩ (fun e s => e = (.exit 0) ∧ Wk e_ref09_times s ⟨Fr 35 [(5, .v (.int .i64 r))], []⟩) := by
 have he := e_ref09_times_ok
 intro f
 induction f with
 | zero => intro c1 c2 r h; cases h
 | succ f ih0 =>
  intro c1 c2 r h
  have ih := fun (c1 : Int) (c2 : Int) => ih0 c1 c2 r
  unfold ref09_times_1 at h
  refine SemN.succ ?_
  refine Sem.seq ?_
  refine Sem.seq ?_
  let p1 : Nat × AV := (6, .v (.int .i64 c2))
  let p2 : Nat × AV := (5, .v (.int .i64 c1))
  let p3 : Nat × AV := (1, .v (.int .i64 x1))
  let p4 : Nat × AV := (0, .sl 1 (x0.map (cdL 1 cdI).enc))
  refine Sem.runS (s1 := ⟨Fr 35 [p4, p3, p2, p1, (11, .v (.bool (decide (c2 < (x0.length : Int)))))], []⟩) ?_ ?_
  ·refine RunS.segF (n := 35) he 2 [p4, p3, p2, p1, (8, .v (.int .i64 c2)), (9, .sl 1 (x0.map (cdL 1 cdI).enc))] [] kr ?_
   refine RunS.one he 0 rfl (op_q (wantedA_none rfl) rfl (q_len (a := .sl 1 (x0.map (cdL 1 cdI).enc)) kr (len_sl (el := 31) kr))) ?_
   exact RunS.last he
  refine Sem.cond (b := (decide (c2 < (x0.length : Int)))) kr (fun hb3 => ?_) (fun hb3 => ?_)
  ·rw [if_pos hb3] at h
   refine Sem.skip ?_
   refine Sem.seq ?_
   refine Sem.block ?_
   refine Sem.sq he [p4, p3, p2, p1, (7, .v (.int .i64 0))] [] ?_
   refine Sem.block ?_
   obtain ⟨r14, hr14, h⟩ := Option.bind_eq_some_iff.1 h
   refine Sem.loop (n := 100000) ?_
   refine Sem.cutN (SemN.wk (s1 := ⟨Fr 35 [p4, p3, p2, p1, (7, .v (.int .i64 0))], []⟩) (Wk.fr kr) (ref09_times_2_ok x0 x1 c2 _ c1 0 _ hr14)) ?_
   let p5 : Nat × AV := (6, .v (.int .i64 (wr .i64 (c2 + 1))))
   refine Sem.rg he [p4, p3, (5, .v (.int .i64 r14)), p5] [] ?_
   exact SemN.wk (s1 := ⟨Fr 35 [p4, p3, (5, .v (.int .i64 r14)), p5], []⟩) (Wk.fr kr) (ih r14 (wr .i64 (c2 + 1)) h)
  ·rw [if_f hb3] at h
   refine Sem.exit ?_
   have hq := Option.some.inj h; subst hq
   exact ⟨rfl, (Wk.fr kr)⟩
set_option maxHeartbeats 4000000 in
set_option maxRecDepth 100000 in
theorem ref09_times_sem (x0 : (List (List Int))) (x1 : Int) (r : Int) (h : ref09_times x0 x1 = some r) : Sem e_ref09_times ⟨none, false⟩ cb_ref09_times ⟨Fr 35 (pairs0 0 (cs_ref09_times.enc (x0, x1, ()))), []⟩ fun e s' => (e = .normal ∨ e = .ret) ∧ ∃ xs, resA e_ref09_times.P s'.fr s'.hp Tryd.f75.results.toList = some xs ∧ retA xs = er_ref09_times r := by
 have he := e_ref09_times_ok
 unfold ref09_times at h
 let p1 : Nat × AV := (1, .v (.int .i64 x1))
 let p2 : Nat × AV := (0, .sl 1 (x0.map (cdL 1 cdI).enc))
 refine Sem.wkQ (Sem.wk (s1 := ⟨Fr 35 [p2, p1], []⟩) (Wk.fr kr) ?_)
 refine Sem.sq he [p2, p1] [] ?_
 let p3 : Nat × AV := (5, .v (.int .i64 0))
 refine Sem.sq he [p2, p1, p3] [] ?_
 refine Sem.seq ?_
 refine Sem.sq he [p2, p1, p3, (6, .v (.int .i64 0))] [] ?_
 refine Sem.block ?_
 obtain ⟨r16, hr16, h⟩ := Option.bind_eq_some_iff.1 h
 refine Sem.loop (n := 100000) ?_
 refine Sem.cutN (SemN.wk (s1 := ⟨Fr 35 [p2, p1, p3, (6, .v (.int .i64 0))], []⟩) (Wk.fr kr) (ref09_times_1_ok x0 x1 _ 0 0 _ hr16)) ?_
 refine Sem.sq he [(4, .v (.int .i64 r16))] [] ?_
 refine Sem.ret ?_
 have hq := Option.some.inj h; subst hq
 exact ⟨⟨Fr 35 [(4, .v (.int .i64 r16))], []⟩, (Wk.fr kr), .inr rfl, [.v (.int .i64 r16)], kr, kr⟩
def t_ref09_times : List AV → Option AV := told cs_ref09_times (fun a => ref09_times a.1 a.2.1) er_ref09_times
theorem x_ref09_times : XOk 75 t_ref09_times := by
 refine EnvOk.x (E := e_ref09_times) (contract_ok e_ref09_times_ok (fn := Tryd.f75) (c := cb_ref09_times) ?h1 ?h2 ⟨Tryd.call75⟩ cs_ref09_times (fun a => ref09_times a.1 a.2.1) er_ref09_times (fun a => (by show 2 ≤ 35; decide)) ?h3 ?h4) rfl rfl
 case h1 => kernel_rfl
 case h2 => kernel_rfl
 case h3 => intro b; kernel_rfl
 case h4 => exact fun a b h => ref09_times_sem a.1 a.2.1 b h
/- trestle/trestleref09.CheckEvening -/
noncomputable def e_ref09_CheckEvening : Env := (E0.withX 75 t_ref09_times)
theorem e_ref09_CheckEvening_ok : EnvOk e_ref09_CheckEvening := (EnvOk.withX E0_ok x_ref09_times.1 x_ref09_times.2)
noncomputable def cb_ref09_CheckEvening : Code := codeOf Tryd.f98
def ref09_CheckEvening_1 (x0 : Int) (x1 : (List Int)) (x2 : (List (List Int))) : Nat → Int → Option ((Unit) ⊕ (Int))
 | 0, _ => none
 | f + 1, c4 =>
  if (decide (c4 < (x2.length : Int))) = true then
  (idx x2 c4).bind fun v6 =>
  (if ((v6.length : Int) == 0) = true then some true else if (decide ((x1.length : Int) > 0)) = true then (idx x1 c4).bind fun v7 =>
  (idx x2 c4).bind fun v8 =>
  some (v7 != (v8.length : Int)) else some false).bind fun j10 =>
  if j10 = true then
  some (.inr 2)
  else
  ref09_CheckEvening_1 x0 x1 x2 f (wr .i64 (c4 + 1))
  else
  some (.inl ())
def ref09_CheckEvening_3 (x0 : Int) (x2 : (List (List Int))) (c17 : Int) : Nat → Int → Option ((Unit) ⊕ (Int))
 | 0, _ => none
 | f + 1, c19 =>
  (idx x2 c17).bind fun v20 =>
  if (decide (c19 < (v20.length : Int))) = true then
  (idx x2 c17).bind fun v22 =>
  (idx v22 c19).bind fun v23 =>
  (if (decide (v23 < 0)) = true then some true else (idx x2 c17).bind fun v24 =>
  (idx v24 c19).bind fun v25 =>
  some (decide (v25 ≥ x0))).bind fun j27 =>
  if j27 = true then
  some (.inr 6)
  else
  ref09_CheckEvening_3 x0 x2 c17 f (wr .i64 (c19 + 1))
  else
  some (.inl ())
def ref09_CheckEvening_2 (x0 : Int) (x2 : (List (List Int))) : Nat → Int → Option ((Unit) ⊕ (Int))
 | 0, _ => none
 | f + 1, c17 =>
  if (decide (c17 < (x2.length : Int))) = true then
  (ref09_CheckEvening_3 x0 x2 c17 100000 0).bind fun r31 =>
  match r31 with
  | (.inl w32) =>
   ref09_CheckEvening_2 x0 x2 f (wr .i64 (c17 + 1))
  | (.inr w33) =>
   some (.inr w33)
  else
  some (.inl ())
def ref09_CheckEvening_4 (x0 : Int) (x2 : (List (List Int))) : Nat → Int → Option ((Unit) ⊕ (Int))
 | 0, _ => none
 | f + 1, c37 =>
  if (decide (c37 < x0)) = true then
  (ref09_times x2 c37).bind fun v39 =>
  if (decide (v39 > 1)) = true then
  some (.inr 5)
  else
  ref09_CheckEvening_4 x0 x2 f (wr .i64 (c37 + 1))
  else
  some (.inl ())
def ref09_CheckEvening_5 (x0 : Int) (x2 : (List (List Int))) : Nat → Int → Option ((Unit) ⊕ (Int))
 | 0, _ => none
 | f + 1, c44 =>
  if (decide (c44 < x0)) = true then
  (ref09_times x2 c44).bind fun v46 =>
  if (v46 == 0) = true then
  some (.inr 2)
  else
  ref09_CheckEvening_5 x0 x2 f (wr .i64 (c44 + 1))
  else
  some (.inl ())
def ref09_CheckEvening (x0 : Int) (x1 : (List Int)) (x2 : (List (List Int))) : Option (Int) :=
 (if (decide ((x1.length : Int) > 0)) = true then some ((x1.length : Int) != (x2.length : Int)) else some false).bind fun j2 =>
 if j2 = true then
 some 2
 else
 (ref09_CheckEvening_1 x0 x1 x2 100000 0).bind fun r15 =>
 match r15 with
 | (.inl w16) =>
  (ref09_CheckEvening_2 x0 x2 100000 0).bind fun r35 =>
  match r35 with
  | (.inl w36) =>
   (ref09_CheckEvening_4 x0 x2 100000 0).bind fun r42 =>
   match r42 with
   | (.inl w43) =>
    (ref09_CheckEvening_5 x0 x2 100000 0).bind fun r49 =>
    match r49 with
    | (.inl w50) =>
     some 0
    | (.inr w51) =>
     some w51
   | (.inr w52) =>
    some w52
  | (.inr w53) =>
   some w53
 | (.inr w54) =>
  some w54
def cs_ref09_CheckEvening : Cs (Int × (List Int) × (List (List Int)) × Unit) := (csC cdI (csC (cdL 1 cdI) (csC (cdL 1 (cdL 1 cdI)) csN)))
def er_ref09_CheckEvening (r : Int) : AV := cdI.enc r
set_option maxHeartbeats 4000000 in
set_option maxRecDepth 100000 in
theorem ref09_CheckEvening_1_ok (x0 : Int) (x1 : (List Int)) (x2 : (List (List Int))) : ∀ (f : Nat) (c4 : Int) (r : (Unit) ⊕ (Int)), ref09_CheckEvening_1 x0 x1 x2 f c4 = some r → SemN e_ref09_CheckEvening ⟨none, false⟩ (pc cb_ref09_CheckEvening [1, 1, 0, 1, 0, 0]) f ⟨Fr 103 [(0, .v (.int .i64 x0)), (1, .sl 1 (x1.map cdI.enc)), (2, .sl 1 (x2.map (cdL 1 cdI).enc)), (7, .v (.int .i64 c4))], []⟩ (fun e s => match r with
 | (.inl w) => e = (.exit 0) ∧ Wk e_ref09_CheckEvening s ⟨Fr 103 [(0, .v (.int .i64 x0)), (2, .sl 1 (x2.map (cdL 1 cdI).enc))], []⟩
 | (.inr w) => e = .ret ∧ Wk e_ref09_CheckEvening s ⟨Fr 103 [(6, .v (.int .i64 w))], []⟩) := by
 have he := e_ref09_CheckEvening_ok
 intro f
 induction f with
 | zero => intro c4 r h; cases h
 | succ f ih0 =>
  intro c4 r h
  have ih := fun (c4 : Int) => ih0 c4 r
  unfold ref09_CheckEvening_1 at h
  refine SemN.succ ?_
  refine Sem.seq ?_
  refine Sem.seq ?_
  let p1 : Nat × AV := (7, .v (.int .i64 c4))
  let p2 : Nat × AV := (2, .sl 1 (x2.map (cdL 1 cdI).enc))
  let p3 : Nat × AV := (1, .sl 1 (x1.map cdI.enc))
  let p4 : Nat × AV := (0, .v (.int .i64 x0))
  refine Sem.runS (s1 := ⟨Fr 103 [p4, p3, p2, p1, (25, .v (.bool (decide (c4 < (x2.length : Int)))))], []⟩) ?_ ?_
  ·refine RunS.segF (n := 103) he 2 [p4, p3, p2, p1, (22, .v (.int .i64 c4)), (23, .sl 1 (x2.map (cdL 1 cdI).enc))] [] kr ?_
   refine RunS.one he 0 rfl (op_q (wantedA_none rfl) rfl (q_len (a := .sl 1 (x2.map (cdL 1 cdI).enc)) kr (len_sl (el := 31) kr))) ?_
   exact RunS.last he
  refine Sem.cond (b := (decide (c4 < (x2.length : Int)))) kr (fun hb5 => ?_) (fun hb5 => ?_)
  ·rw [if_pos hb5] at h
   refine Sem.skip ?_
   refine Sem.seq ?_
   refine Sem.block ?_
   refine Sem.seq ?_
   obtain ⟨v6, hv6, h⟩ := Option.bind_eq_some_iff.1 h
   obtain ⟨j10, hj10, h⟩ := Option.bind_eq_some_iff.1 h
   refine Sem.runDS he (s1 := ⟨Fr 103 [p4, p3, p2, p1, (50, .v (.bool j10))], []⟩) kr ?_ ?_
   ·refine RunDS.segF (n := 103) he 2 [p4, p3, p2, p1, (28, .sl 1 (x2.map (cdL 1 cdI).enc)), (29, .v (.int .i64 c4))] [] kr kr ?_
    refine RunDS.one he rfl kr (opd_q kr (wantedA_none rfl) rfl (q_indexAddr (a := .sl 1 (x2.map (cdL 1 cdI).enc)) (b := .v (.int .i64 c4)) kr kr (ix_sl (e := (cdL 1 cdI).enc) (el := 31) (k := 1) (ki := .i64) kr kr hv6)) kr) ?_
    refine RunDS.segF (n := 103) he 1 [p4, p3, p2, p1, (31, .sl 1 (v6.map cdI.enc))] [] kr kr ?_
    refine RunDS.one he rfl kr (opd_q kr (wantedA_none rfl) rfl (q_len (a := .sl 1 (v6.map cdI.enc)) kr (len_sl (el := 3) kr)) kr) ?_
    refine RunDS.segF (n := 103) he 2 [p4, p3, p2, p1, (34, .v (.bool ((v6.length : Int) == 0)))] [] kr kr ?_
    rcases Bool.eq_false_or_eq_true ((v6.length : Int) == 0) with hc13 | hc13
    ·rw [if_pos hc13] at hj10
     rw [hc13]
     refine RunDS.segF (n := 103) he 16 [p4, p3, p2, p1, (35, .tp []), (36, .tp []), (37, .tp []), (38, .tp []), (39, .tp []), (40, .tp []), (41, .tp []), (42, .tp []), (43, .tp []), (44, .tp []), (45, .tp []), (46, .tp []), (47, .tp []), (48, .tp []), (49, .tp []), (50, .v (.bool true))] [] kr kr ?_
     have hq := Option.some.inj hj10; subst hq
     exact RunDS.done rfl (Wk.fr kr)
    ·rw [if_f hc13] at hj10
     rw [hc13]
     let p5 : Nat × AV := (35, .sl 1 (x1.map cdI.enc))
     let p6 : Nat × AV := (34, .v (.bool false))
     refine RunDS.segF (n := 103) he 1 [p4, p3, p2, p1, p6, p5] [] kr kr ?_
     refine RunDS.one he rfl kr (opd_q kr kr rfl (q_len (a := .sl 1 (x1.map cdI.enc)) kr (len_sl (el := 3) kr)) kr) ?_
     let p7 : Nat × AV := (36, .v (.int .i64 (x1.length : Int)))
     refine RunDS.segF (n := 103) he 2 [p4, p3, p2, p1, p6, p5, p7, (37, .v (.bool (decide ((x1.length : Int) > 0)))), (38, .v (.bool (decide ((x1.length : Int) > 0))))] [] kr kr ?_
     rcases Bool.eq_false_or_eq_true (decide ((x1.length : Int) > 0)) with hc14 | hc14
     ·rw [if_pos hc14] at hj10
      rw [hc14]
      let p8 : Nat × AV := (40, .v (.int .i64 c4))
      let p9 : Nat × AV := (39, .sl 1 (x1.map cdI.enc))
      let p10 : Nat × AV := (38, .v (.bool true))
      let p11 : Nat × AV := (37, .v (.bool true))
      refine RunDS.segF (n := 103) he 2 [p4, p3, p2, p1, p6, p5, p7, p11, p10, p9, p8] [] kr kr ?_
      obtain ⟨v7, hv7, hj10⟩ := Option.bind_eq_some_iff.1 hj10
      refine RunDS.one he rfl kr (opd_q kr kr rfl (q_indexAddr (a := .sl 1 (x1.map cdI.enc)) (b := .v (.int .i64 c4)) kr kr (ix_sl (e := cdI.enc) (el := 3) (k := 1) (ki := .i64) kr kr hv7)) kr) ?_
      let p12 : Nat × AV := (44, .v (.int .i64 c4))
      let p13 : Nat × AV := (43, .sl 1 (x2.map (cdL 1 cdI).enc))
      let p14 : Nat × AV := (42, .v (.int .i64 v7))
      let p15 : Nat × AV := (41, .pe (.v (.int .i64 v7)) 0)
      refine RunDS.segF (n := 103) he 3 [p4, p3, p2, p1, p6, p5, p7, p11, p10, p9, p8, p15, p14, p13, p12] [] kr kr ?_
      obtain ⟨v8, hv8, hj10⟩ := Option.bind_eq_some_iff.1 hj10
      refine RunDS.one he rfl kr (opd_q kr kr rfl (q_indexAddr (a := .sl 1 (x2.map (cdL 1 cdI).enc)) (b := .v (.int .i64 c4)) kr kr (ix_sl (e := (cdL 1 cdI).enc) (el := 31) (k := 1) (ki := .i64) kr kr hv8)) kr) ?_
      refine RunDS.segF (n := 103) he 1 [p4, p3, p2, p1, p6, p5, p7, p11, p10, p9, p8, p15, p14, p13, p12, (45, .pe (.sl 1 (v8.map cdI.enc)) 0), (46, .sl 1 (v8.map cdI.enc))] [] kr kr ?_
      refine RunDS.one he rfl kr (opd_q kr kr rfl (q_len (a := .sl 1 (v8.map cdI.enc)) kr (len_sl (el := 3) kr)) kr) ?_
      refine RunDS.segF (n := 103) he 3 [p4, p3, p2, p1, p5, p7, p11, p10, p9, p8, p15, p14, p13, p12, (45, .pe (.sl 1 (v8.map cdI.enc)) 0), (46, .sl 1 (v8.map cdI.enc)), (47, .v (.int .i64 (v8.length : Int))), (48, .v (.bool (v7 != (v8.length : Int)))), (49, .v (.bool (v7 != (v8.length : Int)))), (50, .v (.bool (v7 != (v8.length : Int))))] [] kr kr ?_
      have hq := Option.some.inj hj10; subst hq
      exact RunDS.done rfl (Wk.fr kr)
     ·rw [if_f hc14] at hj10
      rw [hc14]
      refine RunDS.segF (n := 103) he 12 [p4, p3, p2, p1, p5, p7, (37, .v (.bool false)), (38, .v (.bool false)), (39, .tp []), (40, .tp []), (41, .tp []), (42, .tp []), (43, .tp []), (44, .tp []), (45, .tp []), (46, .tp []), (47, .tp []), (48, .tp []), (49, .v (.bool false)), (50, .v (.bool false))] [] kr kr ?_
      have hq := Option.some.inj hj10; subst hq
      exact RunDS.done rfl (Wk.fr kr)
   refine Sem.cond (b := j10) kr (fun hb11 => ?_) (fun hb11 => ?_)
   ·rw [if_pos hb11] at h
    refine Sem.sq he [(6, .v (.int .i64 2))] [] ?_
    refine Sem.ret ?_
    have hq := Option.some.inj h; subst hq
    exact ⟨rfl, (Wk.fr kr)⟩
   ·rw [if_f hb11] at h
    refine Sem.skip ?_
    let p16 : Nat × AV := (7, .v (.int .i64 (wr .i64 (c4 + 1))))
    refine Sem.rg he [p4, p3, p2, p16] [] ?_
    exact SemN.wk (s1 := ⟨Fr 103 [p4, p3, p2, p16], []⟩) (Wk.fr kr) (ih (wr .i64 (c4 + 1)) h)
  ·rw [if_f hb5] at h
   refine Sem.exit ?_
   have hq := Option.some.inj h; subst hq
   exact ⟨rfl, (Wk.fr kr)⟩
set_option maxHeartbeats 4000000 in
set_option maxRecDepth 100000 in
theorem ref09_CheckEvening_3_ok (x0 : Int) (x2 : (List (List Int))) (c17 : Int) : ∀ (f : Nat) (c19 : Int) (r : (Unit) ⊕ (Int)), ref09_CheckEvening_3 x0 x2 c17 f c19 = some r → SemN e_ref09_CheckEvening ⟨none, false⟩ (pc cb_ref09_CheckEvening [1, 1, 1, 0, 1, 0, 0, 1, 0, 0, 1, 0, 0]) f ⟨Fr 103 [(0, .v (.int .i64 x0)), (2, .sl 1 (x2.map (cdL 1 cdI).enc)), (8, .v (.int .i64 c17)), (9, .v (.int .i64 c19))], []⟩ (fun e s => match r with
 | (.inl w) => e = (.exit 4) ∧ Wk e_ref09_CheckEvening s ⟨Fr 103 [(0, .v (.int .i64 x0)), (2, .sl 1 (x2.map (cdL 1 cdI).enc)), (8, .v (.int .i64 c17))], []⟩
 | (.inr w) => e = .ret ∧ Wk e_ref09_CheckEvening s ⟨Fr 103 [(6, .v (.int .i64 w))], []⟩) := by
 have he := e_ref09_CheckEvening_ok
 intro f
 induction f with
 | zero => intro c19 r h; cases h
 | succ f ih0 =>
  intro c19 r h
  have ih := fun (c19 : Int) => ih0 c19 r
  unfold ref09_CheckEvening_3 at h
  refine SemN.succ ?_
  refine Sem.seq ?_
  refine Sem.seq ?_
  obtain ⟨v20, hv20, h⟩ := Option.bind_eq_some_iff.1 h
  let p1 : Nat × AV := (9, .v (.int .i64 c19))
  let p2 : Nat × AV := (8, .v (.int .i64 c17))
  let p3 : Nat × AV := (2, .sl 1 (x2.map (cdL 1 cdI).enc))
  let p4 : Nat × AV := (0, .v (.int .i64 x0))
  refine Sem.runS (s1 := ⟨Fr 103 [p4, p3, p2, p1, (63, .v (.bool (decide (c19 < (v20.length : Int)))))], []⟩) ?_ ?_
  ·refine RunS.segF (n := 103) he 3 [p4, p3, p2, p1, (57, .v (.int .i64 c19)), (58, .sl 1 (x2.map (cdL 1 cdI).enc)), (59, .v (.int .i64 c17))] [] kr ?_
   refine RunS.one he 0 rfl (op_q (wantedA_none rfl) rfl (q_indexAddr (a := .sl 1 (x2.map (cdL 1 cdI).enc)) (b := .v (.int .i64 c17)) kr kr (ix_sl (e := (cdL 1 cdI).enc) (el := 31) (k := 1) (ki := .i64) kr kr hv20))) ?_
   refine RunS.segF (n := 103) he 1 [p4, p3, p2, p1, (57, .v (.int .i64 c19)), (61, .sl 1 (v20.map cdI.enc))] [] kr ?_
   refine RunS.one he 0 rfl (op_q (wantedA_none rfl) rfl (q_len (a := .sl 1 (v20.map cdI.enc)) kr (len_sl (el := 3) kr))) ?_
   exact RunS.last he
  refine Sem.cond (b := (decide (c19 < (v20.length : Int)))) kr (fun hb21 => ?_) (fun hb21 => ?_)
  ·rw [if_pos hb21] at h
   refine Sem.skip ?_
   refine Sem.seq ?_
   refine Sem.block ?_
   refine Sem.seq ?_
   obtain ⟨v22, hv22, h⟩ := Option.bind_eq_some_iff.1 h
   obtain ⟨v23, hv23, h⟩ := Option.bind_eq_some_iff.1 h
   obtain ⟨j27, hj27, h⟩ := Option.bind_eq_some_iff.1 h
   refine Sem.runS (s1 := ⟨Fr 103 [p4, p3, p2, p1, (84, .v (.bool j27))], []⟩) ?_ ?_
   ·refine RunS.segF (n := 103) he 2 [p4, p3, p2, p1, (66, .sl 1 (x2.map (cdL 1 cdI).enc)), (67, .v (.int .i64 c17))] [] kr ?_
    refine RunS.one he 0 rfl (op_q (wantedA_none rfl) rfl (q_indexAddr (a := .sl 1 (x2.map (cdL 1 cdI).enc)) (b := .v (.int .i64 c17)) kr kr (ix_sl (e := (cdL 1 cdI).enc) (el := 31) (k := 1) (ki := .i64) kr kr hv22))) ?_
    refine RunS.segF (n := 103) he 2 [p4, p3, p2, p1, (69, .sl 1 (v22.map cdI.enc)), (70, .v (.int .i64 c19))] [] kr ?_
    refine RunS.one he 0 rfl (op_q (wantedA_none rfl) rfl (q_indexAddr (a := .sl 1 (v22.map cdI.enc)) (b := .v (.int .i64 c19)) kr kr (ix_sl (e := cdI.enc) (el := 3) (k := 1) (ki := .i64) kr kr hv23))) ?_
    refine RunS.segF (n := 103) he 3 [p4, p3, p2, p1, (74, .v (.bool (decide (v23 < 0))))] [] kr ?_
    rcases Bool.eq_false_or_eq_true (decide (v23 < 0)) with hc30 | hc30
    ·rw [if_pos hc30] at hj27
     rw [hc30]
     refine RunS.segF (n := 103) he 10 [p4, p3, p2, p1, (75, .tp []), (76, .tp []), (77, .tp []), (78, .tp []), (79, .tp []), (80, .tp []), (81, .tp []), (82, .tp []), (83, .tp []), (84, .v (.bool true))] [] kr ?_
     have hq := Option.some.inj hj27; subst hq
     exact RunS.done rfl (Wk.fr kr)
    ·rw [if_f hc30] at hj27
     rw [hc30]
     let p5 : Nat × AV := (76, .v (.int .i64 c17))
     let p6 : Nat × AV := (75, .sl 1 (x2.map (cdL 1 cdI).enc))
     refine RunS.segF (n := 103) he 2 [p4, p3, p2, p1, (74, .v (.bool false)), p6, p5] [] kr ?_
     obtain ⟨v24, hv24, hj27⟩ := Option.bind_eq_some_iff.1 hj27
     refine RunS.one he 0 rfl (op_q kr rfl (q_indexAddr (a := .sl 1 (x2.map (cdL 1 cdI).enc)) (b := .v (.int .i64 c17)) kr kr (ix_sl (e := (cdL 1 cdI).enc) (el := 31) (k := 1) (ki := .i64) kr kr hv24))) ?_
     refine RunS.segF (n := 103) he 2 [p4, p3, p2, p1, (74, .v (.bool false)), p6, p5, (77, .pe (.sl 1 (v24.map cdI.enc)) 0), (78, .sl 1 (v24.map cdI.enc)), (79, .v (.int .i64 c19))] [] kr ?_
     obtain ⟨v25, hv25, hj27⟩ := Option.bind_eq_some_iff.1 hj27
     refine RunS.one he 0 rfl (op_q kr rfl (q_indexAddr (a := .sl 1 (v24.map cdI.enc)) (b := .v (.int .i64 c19)) kr kr (ix_sl (e := cdI.enc) (el := 3) (k := 1) (ki := .i64) kr kr hv25))) ?_
     refine RunS.segF (n := 103) he 4 [p4, p3, p2, p1, p6, p5, (77, .pe (.sl 1 (v24.map cdI.enc)) 0), (78, .sl 1 (v24.map cdI.enc)), (79, .v (.int .i64 c19)), (80, .pe (.v (.int .i64 v25)) 0), (81, .v (.int .i64 v25)), (82, .v (.int .i64 x0)), (83, .v (.bool (decide (v25 ≥ x0)))), (84, .v (.bool (decide (v25 ≥ x0))))] [] kr ?_
     have hq := Option.some.inj hj27; subst hq
     exact RunS.done rfl (Wk.fr kr)
   refine Sem.cond (b := j27) kr (fun hb28 => ?_) (fun hb28 => ?_)
   ·rw [if_pos hb28] at h
    refine Sem.sq he [(6, .v (.int .i64 6))] [] ?_
    refine Sem.ret ?_
    have hq := Option.some.inj h; subst hq
    exact ⟨rfl, (Wk.fr kr)⟩
   ·rw [if_f hb28] at h
    refine Sem.skip ?_
    let p7 : Nat × AV := (9, .v (.int .i64 (wr .i64 (c19 + 1))))
    refine Sem.rg he [p4, p3, p2, p7] [] ?_
    exact SemN.wk (s1 := ⟨Fr 103 [p4, p3, p2, p7], []⟩) (Wk.fr kr) (ih (wr .i64 (c19 + 1)) h)
  ·rw [if_f hb21] at h
   refine Sem.exit ?_
   have hq := Option.some.inj h; subst hq
   exact ⟨rfl, (Wk.fr kr)⟩
set_option maxHeartbeats 4000000 in
set_option maxRecDepth 100000 in
theorem ref09_CheckEvening_2_ok (x0 : Int) (x2 : (List (List Int))) : ∀ (f : Nat) (c17 : Int) (r : (Unit) ⊕ (Int)), ref09_CheckEvening_2 x0 x2 f c17 = some r → SemN e_ref09_CheckEvening ⟨none, false⟩ (pc cb_ref09_CheckEvening [1, 1, 1, 0, 1, 0, 0]) f ⟨Fr 103 [(0, .v (.int .i64 x0)), (2, .sl 1 (x2.map (cdL 1 cdI).enc)), (8, .v (.int .i64 c17))], []⟩ (fun e s => match r with
 | (.inl w) => e = (.exit 2) ∧ Wk e_ref09_CheckEvening s ⟨Fr 103 [(0, .v (.int .i64 x0)), (2, .sl 1 (x2.map (cdL 1 cdI).enc))], []⟩
 | (.inr w) => e = .ret ∧ Wk e_ref09_CheckEvening s ⟨Fr 103 [(6, .v (.int .i64 w))], []⟩) := by
 have he := e_ref09_CheckEvening_ok
 intro f
 induction f with
 | zero => intro c17 r h; cases h
 | succ f ih0 =>
  intro c17 r h
  have ih := fun (c17 : Int) => ih0 c17 r
  unfold ref09_CheckEvening_2 at h
  refine SemN.succ ?_
  refine Sem.seq ?_
  refine Sem.seq ?_
  let p1 : Nat × AV := (8, .v (.int .i64 c17))
  let p2 : Nat × AV := (2, .sl 1 (x2.map (cdL 1 cdI).enc))
  let p3 : Nat × AV := (0, .v (.int .i64 x0))
  refine Sem.runS (s1 := ⟨Fr 103 [p3, p2, p1, (54, .v (.bool (decide (c17 < (x2.length : Int)))))], []⟩) ?_ ?_
  ·refine RunS.segF (n := 103) he 2 [p3, p2, p1, (51, .v (.int .i64 c17)), (52, .sl 1 (x2.map (cdL 1 cdI).enc))] [] kr ?_
   refine RunS.one he 0 rfl (op_q (wantedA_none rfl) rfl (q_len (a := .sl 1 (x2.map (cdL 1 cdI).enc)) kr (len_sl (el := 31) kr))) ?_
   exact RunS.last he
  refine Sem.cond (b := (decide (c17 < (x2.length : Int)))) kr (fun hb18 => ?_) (fun hb18 => ?_)
  ·rw [if_pos hb18] at h
   refine Sem.skip ?_
   refine Sem.seq ?_
   refine Sem.block ?_
   let p4 : Nat × AV := (9, .v (.int .i64 0))
   refine Sem.sq he [p3, p2, p1, p4] [] ?_
   refine Sem.block ?_
   obtain ⟨r31, hr31, h⟩ := Option.bind_eq_some_iff.1 h
   refine Sem.loop (n := 100000) ?_
   rcases r31 with w32 | w33
   ·try dsimp only at h
    refine Sem.cutN (SemN.wk (s1 := ⟨Fr 103 [p3, p2, p1, p4], []⟩) (Wk.fr kr) (ref09_CheckEvening_3_ok x0 x2 c17 _ 0 _ hr31)) ?_
    let p5 : Nat × AV := (8, .v (.int .i64 (wr .i64 (c17 + 1))))
    refine Sem.rg he [p3, p2, p5] [] ?_
    exact SemN.wk (s1 := ⟨Fr 103 [p3, p2, p5], []⟩) (Wk.fr kr) (ih (wr .i64 (c17 + 1)) h)
   ·try dsimp only at h
    refine Sem.cutN (SemN.wk (s1 := ⟨Fr 103 [p3, p2, p1, p4], []⟩) (Wk.fr kr) (ref09_CheckEvening_3_ok x0 x2 c17 _ 0 _ hr31)) ?_
    have hq := Option.some.inj h; subst hq
    exact ⟨rfl, (Wk.fr kr)⟩
  ·rw [if_f hb18] at h
   refine Sem.exit ?_
   have hq := Option.some.inj h; subst hq
   exact ⟨rfl, (Wk.fr kr)⟩
set_option maxHeartbeats 4000000 in
set_option maxRecDepth 100000 in
theorem ref09_CheckEvening_4_ok (x0 : Int) (x2 : (List (List Int))) : ∀ (f : Nat) (c37 : Int) (r : (Unit) ⊕ (Int)), ref09_CheckEvening_4 x0 x2 f c37 = some r → SemN e_ref09_CheckEvening ⟨none, false⟩ (pc cb_ref09_CheckEvening [1, 1, 1, 1, 0, 1, 0, 0]) f ⟨Fr 103 [(0, .v (.int .i64 x0)), (2, .sl 1 (x2.map (cdL 1 cdI).enc)), (10, .v (.int .i64 c37))], []⟩ (fun e s => match r with
 | (.inl w) => e = (.exit 6) ∧ Wk e_ref09_CheckEvening s ⟨Fr 103 [(0, .v (.int .i64 x0)), (2, .sl 1 (x2.map (cdL 1 cdI).enc))], []⟩
 | (.inr w) => e = .ret ∧ Wk e_ref09_CheckEvening s ⟨Fr 103 [(6, .v (.int .i64 w))], []⟩) := by
 have he := e_ref09_CheckEvening_ok
 intro f
 induction f with
 | zero => intro c37 r h; cases h
 | succ f ih0 =>
  intro c37 r h
  have ih := fun (c37 : Int) => ih0 c37 r
  unfold ref09_CheckEvening_4 at h
  refine SemN.succ ?_
  refine Sem.seq ?_
  let p1 : Nat × AV := (10, .v (.int .i64 c37))
  let p2 : Nat × AV := (2, .sl 1 (x2.map (cdL 1 cdI).enc))
  let p3 : Nat × AV := (0, .v (.int .i64 x0))
  refine Sem.sq he [p3, p2, p1, (87, .v (.bool (decide (c37 < x0))))] [] ?_
  refine Sem.cond (b := (decide (c37 < x0))) kr (fun hb38 => ?_) (fun hb38 => ?_)
  ·rw [if_pos hb38] at h
   refine Sem.skip ?_
   refine Sem.seq ?_
   refine Sem.block ?_
   refine Sem.seq ?_
   obtain ⟨v39, hv39, h⟩ := Option.bind_eq_some_iff.1 h
   refine Sem.runS (s1 := ⟨Fr 103 [p3, p2, p1, (93, .v (.bool (decide (v39 > 1))))], []⟩) ?_ ?_
   ·refine RunS.segF (n := 103) he 2 [p3, p2, p1, (90, .sl 1 (x2.map (cdL 1 cdI).enc)), (91, .v (.int .i64 c37))] [] kr ?_
    refine RunS.call he (fid := 75) (s := cs_ref09_times) (F := fun a => ref09_times a.1 a.2.1) (er := er_ref09_times) (xs := [.sl 1 (x2.map (cdL 1 cdI).enc), .v (.int .i64 c37)]) (a := (x2, c37, ())) rfl (wantedA_none rfl) kr kr kr kr (Sns.cons (Sn.enc (c := (cdL 1 (cdL 1 cdI))) (v := x2)) (Sns.cons (Sn.enc (c := cdI) (v := c37)) Sns.nil)) (.inl kr) hv39 ?_
    exact RunS.last he
   refine Sem.cond (b := (decide (v39 > 1))) kr (fun hb40 => ?_) (fun hb40 => ?_)
   ·rw [if_pos hb40] at h
    refine Sem.sq he [(6, .v (.int .i64 5))] [] ?_
    refine Sem.ret ?_
    have hq := Option.some.inj h; subst hq
    exact ⟨rfl, (Wk.fr kr)⟩
   ·rw [if_f hb40] at h
    refine Sem.skip ?_
    let p4 : Nat × AV := (10, .v (.int .i64 (wr .i64 (c37 + 1))))
    refine Sem.rg he [p3, p2, p4] [] ?_
    exact SemN.wk (s1 := ⟨Fr 103 [p3, p2, p4], []⟩) (Wk.fr kr) (ih (wr .i64 (c37 + 1)) h)
  ·rw [if_f hb38] at h
   refine Sem.exit ?_
   have hq := Option.some.inj h; subst hq
   exact ⟨rfl, (Wk.fr kr)⟩
set_option maxHeartbeats 4000000 in
set_option maxRecDepth 100000 in
theorem ref09_CheckEvening_5_ok (x0 : Int) (x2 : (List (List Int))) : ∀ (f : Nat) (c44 : Int) (r : (Unit) ⊕ (Int)), ref09_CheckEvening_5 x0 x2 f c44 = some r → SemN e_ref09_CheckEvening ⟨none, false⟩ (pc cb_ref09_CheckEvening [1, 1, 1, 1, 1, 0, 1, 0, 0]) f ⟨Fr 103 [(0, .v (.int .i64 x0)), (2, .sl 1 (x2.map (cdL 1 cdI).enc)), (11, .v (.int .i64 c44))], []⟩ (fun e s => match r with
 | (.inl w) => e = (.exit 8) ∧ Wk e_ref09_CheckEvening s ⟨Fr 103 [], []⟩
 | (.inr w) => e = .ret ∧ Wk e_ref09_CheckEvening s ⟨Fr 103 [(6, .v (.int .i64 w))], []⟩) := by
 have he := e_ref09_CheckEvening_ok
 intro f
 induction f with
 | zero => intro c44 r h; cases h
 | succ f ih0 =>
  intro c44 r h
  have ih := fun (c44 : Int) => ih0 c44 r
  unfold ref09_CheckEvening_5 at h
  refine SemN.succ ?_
  refine Sem.seq ?_
  let p1 : Nat × AV := (11, .v (.int .i64 c44))
  let p2 : Nat × AV := (2, .sl 1 (x2.map (cdL 1 cdI).enc))
  let p3 : Nat × AV := (0, .v (.int .i64 x0))
  refine Sem.sq he [p3, p2, p1, (96, .v (.bool (decide (c44 < x0))))] [] ?_
  refine Sem.cond (b := (decide (c44 < x0))) kr (fun hb45 => ?_) (fun hb45 => ?_)
  ·rw [if_pos hb45] at h
   refine Sem.skip ?_
   refine Sem.seq ?_
   refine Sem.block ?_
   refine Sem.seq ?_
   obtain ⟨v46, hv46, h⟩ := Option.bind_eq_some_iff.1 h
   refine Sem.runS (s1 := ⟨Fr 103 [p3, p2, p1, (102, .v (.bool (v46 == 0)))], []⟩) ?_ ?_
   ·refine RunS.segF (n := 103) he 2 [p3, p2, p1, (99, .sl 1 (x2.map (cdL 1 cdI).enc)), (100, .v (.int .i64 c44))] [] kr ?_
    refine RunS.call he (fid := 75) (s := cs_ref09_times) (F := fun a => ref09_times a.1 a.2.1) (er := er_ref09_times) (xs := [.sl 1 (x2.map (cdL 1 cdI).enc), .v (.int .i64 c44)]) (a := (x2, c44, ())) rfl (wantedA_none rfl) kr kr kr kr (Sns.cons (Sn.enc (c := (cdL 1 (cdL 1 cdI))) (v := x2)) (Sns.cons (Sn.enc (c := cdI) (v := c44)) Sns.nil)) (.inl kr) hv46 ?_
    exact RunS.last he
   refine Sem.cond (b := (v46 == 0)) kr (fun hb47 => ?_) (fun hb47 => ?_)
   ·rw [if_pos hb47] at h
    refine Sem.sq he [(6, .v (.int .i64 2))] [] ?_
    refine Sem.ret ?_
    have hq := Option.some.inj h; subst hq
    exact ⟨rfl, (Wk.fr kr)⟩
   ·rw [if_f hb47] at h
    refine Sem.skip ?_
    let p4 : Nat × AV := (11, .v (.int .i64 (wr .i64 (c44 + 1))))
    refine Sem.rg he [p3, p2, p4] [] ?_
    exact SemN.wk (s1 := ⟨Fr 103 [p3, p2, p4], []⟩) (Wk.fr kr) (ih (wr .i64 (c44 + 1)) h)
  ·rw [if_f hb45] at h
   refine Sem.exit ?_
   have hq := Option.some.inj h; subst hq
   exact ⟨rfl, (Wk.fr kr)⟩
set_option maxHeartbeats 4000000 in
set_option maxRecDepth 100000 in
theorem ref09_CheckEvening_sem (x0 : Int) (x1 : (List Int)) (x2 : (List (List Int))) (r : Int) (h : ref09_CheckEvening x0 x1 x2 = some r) : Sem e_ref09_CheckEvening ⟨none, false⟩ cb_ref09_CheckEvening ⟨Fr 103 (pairs0 0 (cs_ref09_CheckEvening.enc (x0, x1, x2, ()))), []⟩ fun e s' => (e = .normal ∨ e = .ret) ∧ ∃ xs, resA e_ref09_CheckEvening.P s'.fr s'.hp Tryd.f98.results.toList = some xs ∧ retA xs = er_ref09_CheckEvening r := by
 have he := e_ref09_CheckEvening_ok
 unfold ref09_CheckEvening at h
 let p1 : Nat × AV := (2, .sl 1 (x2.map (cdL 1 cdI).enc))
 let p2 : Nat × AV := (1, .sl 1 (x1.map cdI.enc))
 let p3 : Nat × AV := (0, .v (.int .i64 x0))
 refine Sem.wkQ (Sem.wk (s1 := ⟨Fr 103 [p3, p2, p1], []⟩) (Wk.fr kr) ?_)
 refine Sem.sq he [p3, p2, p1] [] ?_
 refine Sem.seq ?_
 refine Sem.seq ?_
 obtain ⟨j2, hj2, h⟩ := Option.bind_eq_some_iff.1 h
 refine Sem.runS (s1 := ⟨Fr 103 [p3, p2, p1, (21, .v (.bool j2))], []⟩) ?_ ?_
 ·refine RunS.segF (n := 103) he 1 [p3, p2, p1, (12, .sl 1 (x1.map cdI.enc))] [] kr ?_
  refine RunS.one he 0 rfl (op_q (wantedA_none rfl) rfl (q_len (a := .sl 1 (x1.map cdI.enc)) kr (len_sl (el := 3) kr))) ?_
  refine RunS.segF (n := 103) he 2 [p3, p2, p1, (15, .v (.bool (decide ((x1.length : Int) > 0))))] [] kr ?_
  rcases Bool.eq_false_or_eq_true (decide ((x1.length : Int) > 0)) with hc55 | hc55
  ·rw [if_pos hc55] at hj2
   rw [hc55]
   refine RunS.segF (n := 103) he 1 [p3, p2, p1, (15, .v (.bool true)), (16, .sl 1 (x1.map cdI.enc))] [] kr ?_
   refine RunS.one he 0 rfl (op_q kr rfl (q_len (a := .sl 1 (x1.map cdI.enc)) kr (len_sl (el := 3) kr))) ?_
   refine RunS.segF (n := 103) he 1 [p3, p2, p1, (15, .v (.bool true)), (17, .v (.int .i64 (x1.length : Int))), (18, .sl 1 (x2.map (cdL 1 cdI).enc))] [] kr ?_
   refine RunS.one he 0 rfl (op_q kr rfl (q_len (a := .sl 1 (x2.map (cdL 1 cdI).enc)) kr (len_sl (el := 31) kr))) ?_
   refine RunS.segF (n := 103) he 2 [p3, p2, p1, (21, .v (.bool ((x1.length : Int) != (x2.length : Int))))] [] kr ?_
   have hq := Option.some.inj hj2; subst hq
   exact RunS.done rfl (Wk.fr kr)
  ·rw [if_f hc55] at hj2
   rw [hc55]
   refine RunS.segF (n := 103) he 6 [p3, p2, p1, (21, .v (.bool false))] [] kr ?_
   have hq := Option.some.inj hj2; subst hq
   exact RunS.done rfl (Wk.fr kr)
 refine Sem.cond (b := j2) kr (fun hb3 => ?_) (fun hb3 => ?_)
 ·rw [if_pos hb3] at h
  refine Sem.sq he [(6, .v (.int .i64 2))] [] ?_
  refine Sem.ret ?_
  have hq := Option.some.inj h; subst hq
  exact ⟨⟨Fr 103 [(6, .v (.int .i64 2))], []⟩, (Wk.fr kr), .inr rfl, [.v (.int .i64 2)], kr, kr⟩
 ·rw [if_f hb3] at h
  refine Sem.skip ?_
  refine Sem.seq ?_
  let p4 : Nat × AV := (7, .v (.int .i64 0))
  refine Sem.sq he [p3, p2, p1, p4] [] ?_
  refine Sem.block ?_
  obtain ⟨r15, hr15, h⟩ := Option.bind_eq_some_iff.1 h
  refine Sem.loop (n := 100000) ?_
  rcases r15 with w16 | w54
  ·try dsimp only at h
   refine Sem.cutN (SemN.wk (s1 := ⟨Fr 103 [p3, p2, p1, p4], []⟩) (Wk.fr kr) (ref09_CheckEvening_1_ok x0 x1 x2 _ 0 _ hr15)) ?_
   refine Sem.seq ?_
   let p5 : Nat × AV := (8, .v (.int .i64 0))
   refine Sem.sq he [p3, p1, p5] [] ?_
   refine Sem.block ?_
   obtain ⟨r35, hr35, h⟩ := Option.bind_eq_some_iff.1 h
   refine Sem.loop (n := 100000) ?_
   rcases r35 with w36 | w53
   ·try dsimp only at h
    refine Sem.cutN (SemN.wk (s1 := ⟨Fr 103 [p3, p1, p5], []⟩) (Wk.fr kr) (ref09_CheckEvening_2_ok x0 x2 _ 0 _ hr35)) ?_
    refine Sem.seq ?_
    let p6 : Nat × AV := (10, .v (.int .i64 0))
    refine Sem.sq he [p3, p1, p6] [] ?_
    refine Sem.block ?_
    obtain ⟨r42, hr42, h⟩ := Option.bind_eq_some_iff.1 h
    refine Sem.loop (n := 100000) ?_
    rcases r42 with w43 | w52
    ·try dsimp only at h
     refine Sem.cutN (SemN.wk (s1 := ⟨Fr 103 [p3, p1, p6], []⟩) (Wk.fr kr) (ref09_CheckEvening_4_ok x0 x2 _ 0 _ hr42)) ?_
     refine Sem.seq ?_
     let p7 : Nat × AV := (11, .v (.int .i64 0))
     refine Sem.sq he [p3, p1, p7] [] ?_
     refine Sem.block ?_
     obtain ⟨r49, hr49, h⟩ := Option.bind_eq_some_iff.1 h
     refine Sem.loop (n := 100000) ?_
     rcases r49 with w50 | w51
     ·try dsimp only at h
      refine Sem.cutN (SemN.wk (s1 := ⟨Fr 103 [p3, p1, p7], []⟩) (Wk.fr kr) (ref09_CheckEvening_5_ok x0 x2 _ 0 _ hr49)) ?_
      refine Sem.sq he [(6, .v (.int .i64 0))] [] ?_
      refine Sem.ret ?_
      have hq := Option.some.inj h; subst hq
      exact ⟨⟨Fr 103 [(6, .v (.int .i64 0))], []⟩, (Wk.fr kr), .inr rfl, [.v (.int .i64 0)], kr, kr⟩
     ·try dsimp only at h
      refine Sem.cutN (SemN.wk (s1 := ⟨Fr 103 [p3, p1, p7], []⟩) (Wk.fr kr) (ref09_CheckEvening_5_ok x0 x2 _ 0 _ hr49)) ?_
      have hq := Option.some.inj h; subst hq
      exact ⟨⟨Fr 103 [(6, .v (.int .i64 w51))], []⟩, (Wk.fr kr), .inr rfl, [.v (.int .i64 w51)], kr, kr⟩
    ·try dsimp only at h
     refine Sem.cutN (SemN.wk (s1 := ⟨Fr 103 [p3, p1, p6], []⟩) (Wk.fr kr) (ref09_CheckEvening_4_ok x0 x2 _ 0 _ hr42)) ?_
     have hq := Option.some.inj h; subst hq
     exact ⟨⟨Fr 103 [(6, .v (.int .i64 w52))], []⟩, (Wk.fr kr), .inr rfl, [.v (.int .i64 w52)], kr, kr⟩
   ·try dsimp only at h
    refine Sem.cutN (SemN.wk (s1 := ⟨Fr 103 [p3, p1, p5], []⟩) (Wk.fr kr) (ref09_CheckEvening_2_ok x0 x2 _ 0 _ hr35)) ?_
    have hq := Option.some.inj h; subst hq
    exact ⟨⟨Fr 103 [(6, .v (.int .i64 w53))], []⟩, (Wk.fr kr), .inr rfl, [.v (.int .i64 w53)], kr, kr⟩
  ·try dsimp only at h
   refine Sem.cutN (SemN.wk (s1 := ⟨Fr 103 [p3, p2, p1, p4], []⟩) (Wk.fr kr) (ref09_CheckEvening_1_ok x0 x1 x2 _ 0 _ hr15)) ?_
   have hq := Option.some.inj h; subst hq
   exact ⟨⟨Fr 103 [(6, .v (.int .i64 w54))], []⟩, (Wk.fr kr), .inr rfl, [.v (.int .i64 w54)], kr, kr⟩
def t_ref09_CheckEvening : List AV → Option AV := told cs_ref09_CheckEvening (fun a => ref09_CheckEvening a.1 a.2.1 a.2.2.1) er_ref09_CheckEvening
theorem x_ref09_CheckEvening : XOk 98 t_ref09_CheckEvening := by
 refine EnvOk.x (E := e_ref09_CheckEvening) (contract_ok e_ref09_CheckEvening_ok (fn := Tryd.f98) (c := cb_ref09_CheckEvening) ?h1 ?h2 ⟨Tryd.call98⟩ cs_ref09_CheckEvening (fun a => ref09_CheckEvening a.1 a.2.1 a.2.2.1) er_ref09_CheckEvening (fun a => (by show 3 ≤ 103; decide)) ?h3 ?h4) rfl rfl
 case h1 => kernel_rfl
 case h2 => kernel_rfl
 case h3 => intro b; kernel_rfl
 case h4 => exact fun a b h => ref09_CheckEvening_sem a.1 a.2.1 a.2.2.1 b h
/- trestle/trestleref09.Check -/
noncomputable def e_ref09_Check : Env := ((E0.withX 74 t_ref09_Fit).withX 98 t_ref09_CheckEvening)
theorem e_ref09_Check_ok : EnvOk e_ref09_Check := (EnvOk.withX (EnvOk.withX E0_ok x_ref09_Fit.1 x_ref09_Fit.2) x_ref09_CheckEvening.1 x_ref09_CheckEvening.2)
noncomputable def cb_ref09_Check : Code := codeOf Tryd.f48
def ref09_Check_1 (x0 : Int) (x1 : (List Int)) (x2 : (List (List (List Int)))) : Nat → Int → Option ((Unit) ⊕ (Int × Int))
 | 0, _ => none
 | f + 1, c6 =>
  if (decide (c6 < (x2.length : Int))) = true then
  (idx x2 c6).bind fun v8 =>
  (ref09_CheckEvening x0 x1 v8).bind fun v9 =>
  if (v9 != 0) = true then
  some (.inr (c6, v9))
  else
  ref09_Check_1 x0 x1 x2 f (wr .i64 (c6 + 1))
  else
  some (.inl ())
def ref09_Check (x0 : Int) (x1 : (List Int)) (x2 : (List (List (List Int)))) : Option (Int × Int) :=
 (if (decide (x0 < 1)) = true then some true else if (decide (x0 > 64)) = true then some true else if (decide ((x1.length : Int) > 0)) = true then (ref09_Fit x0 x1).bind fun v1 =>
 some (!v1) else some false).bind fun j3 =>
 if j3 = true then
 some (0, 90)
 else
 if (decide ((x2.length : Int) > 64)) = true then
 some (0, 7)
 else
 (ref09_Check_1 x0 x1 x2 100000 0).bind fun r13 =>
 match r13 with
 | (.inl w14) =>
  some (0, 0)
 | (.inr w15) =>
  some (w15.1, w15.2)
def cs_ref09_Check : Cs (Int × (List Int) × (List (List (List Int))) × Unit) := (csC cdI (csC (cdL 1 cdI) (csC (cdL 1 (cdL 1 (cdL 1 cdI))) csN)))
def er_ref09_Check (r : Int × Int) : AV := .tp [cdI.enc r.1, cdI.enc r.2]
set_option maxHeartbeats 4000000 in
set_option maxRecDepth 100000 in
theorem ref09_Check_1_ok (x0 : Int) (x1 : (List Int)) (x2 : (List (List (List Int)))) : ∀ (f : Nat) (c6 : Int) (r : (Unit) ⊕ (Int × Int)), ref09_Check_1 x0 x1 x2 f c6 = some r → SemN e_ref09_Check ⟨none, false⟩ (pc cb_ref09_Check [1, 1, 1, 0, 1, 0, 0]) f ⟨Fr 47 [(0, .v (.int .i64 x0)), (1, .sl 1 (x1.map cdI.enc)), (2, .sl 1 (x2.map (cdL 1 (cdL 1 cdI)).enc)), (8, .v (.int .i64 c6))], []⟩ (fun e s => match r with
 | (.inl w) => e = (.exit 0) ∧ Wk e_ref09_Check s ⟨Fr 47 [], []⟩
 | (.inr w) => e = .ret ∧ Wk e_ref09_Check s ⟨Fr 47 [(6, .v (.int .i64 w.1)), (7, .v (.int .i64 w.2))], []⟩) := by
 have he := e_ref09_Check_ok
 intro f
 induction f with
 | zero => intro c6 r h; cases h
 | succ f ih0 =>
  intro c6 r h
  have ih := fun (c6 : Int) => ih0 c6 r
  unfold ref09_Check_1 at h
  refine SemN.succ ?_
  refine Sem.seq ?_
  refine Sem.seq ?_
  let p1 : Nat × AV := (8, .v (.int .i64 c6))
  let p2 : Nat × AV := (2, .sl 1 (x2.map (cdL 1 (cdL 1 cdI)).enc))
  let p3 : Nat × AV := (1, .sl 1 (x1.map cdI.enc))
  let p4 : Nat × AV := (0, .v (.int .i64 x0))
  refine Sem.runS (s1 := ⟨Fr 47 [p4, p3, p2, p1, (33, .v (.bool (decide (c6 < (x2.length : Int)))))], []⟩) ?_ ?_
  ·refine RunS.segF (n := 47) he 2 [p4, p3, p2, p1, (30, .v (.int .i64 c6)), (31, .sl 1 (x2.map (cdL 1 (cdL 1 cdI)).enc))] [] kr ?_
   refine RunS.one he 0 rfl (op_q (wantedA_none rfl) rfl (q_len (a := .sl 1 (x2.map (cdL 1 (cdL 1 cdI)).enc)) kr (len_sl (el := 50) kr))) ?_
   exact RunS.last he
  refine Sem.cond (b := (decide (c6 < (x2.length : Int)))) kr (fun hb7 => ?_) (fun hb7 => ?_)
  ·rw [if_pos hb7] at h
   refine Sem.skip ?_
   refine Sem.seq ?_
   refine Sem.block ?_
   refine Sem.seq ?_
   obtain ⟨v8, hv8, h⟩ := Option.bind_eq_some_iff.1 h
   obtain ⟨v9, hv9, h⟩ := Option.bind_eq_some_iff.1 h
   refine Sem.runS (s1 := ⟨Fr 47 [p4, p3, p2, p1, (9, .v (.int .i64 v9))], []⟩) ?_ ?_
   ·refine RunS.segF (n := 47) he 4 [p4, p3, p2, p1, (36, .v (.int .i64 x0)), (37, .sl 1 (x1.map cdI.enc)), (38, .sl 1 (x2.map (cdL 1 (cdL 1 cdI)).enc)), (39, .v (.int .i64 c6))] [] kr ?_
    refine RunS.one he 0 rfl (op_q (wantedA_none rfl) rfl (q_indexAddr (a := .sl 1 (x2.map (cdL 1 (cdL 1 cdI)).enc)) (b := .v (.int .i64 c6)) kr kr (ix_sl (e := (cdL 1 (cdL 1 cdI)).enc) (el := 50) (k := 1) (ki := .i64) kr kr hv8))) ?_
    refine RunS.segF (n := 47) he 1 [p4, p3, p2, p1, (36, .v (.int .i64 x0)), (37, .sl 1 (x1.map cdI.enc)), (41, .sl 1 (v8.map (cdL 1 cdI).enc))] [] kr ?_
    refine RunS.call he (fid := 98) (s := cs_ref09_CheckEvening) (F := fun a => ref09_CheckEvening a.1 a.2.1 a.2.2.1) (er := er_ref09_CheckEvening) (xs := [.v (.int .i64 x0), .sl 1 (x1.map cdI.enc), .sl 1 (v8.map (cdL 1 cdI).enc)]) (a := (x0, x1, v8, ())) rfl (wantedA_none rfl) kr kr kr kr (Sns.cons (Sn.enc (c := cdI) (v := x0)) (Sns.cons (Sn.enc (c := (cdL 1 cdI)) (v := x1)) (Sns.cons (Sn.enc (c := (cdL 1 (cdL 1 cdI))) (v := v8)) Sns.nil))) (.inl kr) hv9 ?_
    exact RunS.last he
   refine Sem.sq he [p4, p3, p2, p1, (9, .v (.int .i64 v9)), (44, .v (.bool (v9 != 0)))] [] ?_
   refine Sem.cond (b := (v9 != 0)) kr (fun hb10 => ?_) (fun hb10 => ?_)
   ·rw [if_pos hb10] at h
    refine Sem.sq he [(6, .v (.int .i64 c6)), (7, .v (.int .i64 v9))] [] ?_
    refine Sem.ret ?_
    have hq := Option.some.inj h; subst hq
    exact ⟨rfl, (Wk.fr kr)⟩
   ·rw [if_f hb10] at h
    refine Sem.skip ?_
    let p5 : Nat × AV := (8, .v (.int .i64 (wr .i64 (c6 + 1))))
    refine Sem.rg he [p4, p3, p2, p5] [] ?_
    exact SemN.wk (s1 := ⟨Fr 47 [p4, p3, p2, p5], []⟩) (Wk.fr kr) (ih (wr .i64 (c6 + 1)) h)
  ·rw [if_f hb7] at h
   refine Sem.exit ?_
   have hq := Option.some.inj h; subst hq
   exact ⟨rfl, (Wk.fr kr)⟩
set_option maxHeartbeats 4000000 in
set_option maxRecDepth 100000 in
theorem ref09_Check_sem (x0 : Int) (x1 : (List Int)) (x2 : (List (List (List Int)))) (r : Int × Int) (h : ref09_Check x0 x1 x2 = some r) : Sem e_ref09_Check ⟨none, false⟩ cb_ref09_Check ⟨Fr 47 (pairs0 0 (cs_ref09_Check.enc (x0, x1, x2, ()))), []⟩ fun e s' => (e = .normal ∨ e = .ret) ∧ ∃ xs, resA e_ref09_Check.P s'.fr s'.hp Tryd.f48.results.toList = some xs ∧ retA xs = er_ref09_Check r := by
 have he := e_ref09_Check_ok
 unfold ref09_Check at h
 let p1 : Nat × AV := (2, .sl 1 (x2.map (cdL 1 (cdL 1 cdI)).enc))
 let p2 : Nat × AV := (1, .sl 1 (x1.map cdI.enc))
 let p3 : Nat × AV := (0, .v (.int .i64 x0))
 refine Sem.wkQ (Sem.wk (s1 := ⟨Fr 47 [p3, p2, p1], []⟩) (Wk.fr kr) ?_)
 refine Sem.sq he [p3, p2, p1] [] ?_
 refine Sem.seq ?_
 refine Sem.seq ?_
 obtain ⟨j3, hj3, h⟩ := Option.bind_eq_some_iff.1 h
 refine Sem.runS (s1 := ⟨Fr 47 [p3, p2, p1, (26, .v (.bool j3))], []⟩) ?_ ?_
 ·refine RunS.segF (n := 47) he 3 [p3, p2, p1, (12, .v (.bool (decide (x0 < 1))))] [] kr ?_
  rcases Bool.eq_false_or_eq_true (decide (x0 < 1)) with hc16 | hc16
  ·rw [if_pos hc16] at hj3
   rw [hc16]
   refine RunS.segF (n := 47) he 14 [p3, p2, p1, (26, .v (.bool true))] [] kr ?_
   have hq := Option.some.inj hj3; subst hq
   exact RunS.done rfl (Wk.fr kr)
  ·rw [if_f hc16] at hj3
   rw [hc16]
   refine RunS.segF (n := 47) he 4 [p3, p2, p1, (16, .v (.bool (decide (x0 > 64))))] [] kr ?_
   rcases Bool.eq_false_or_eq_true (decide (x0 > 64)) with hc17 | hc17
   ·rw [if_pos hc17] at hj3
    rw [hc17]
    refine RunS.segF (n := 47) he 10 [p3, p2, p1, (26, .v (.bool true))] [] kr ?_
    have hq := Option.some.inj hj3; subst hq
    exact RunS.done rfl (Wk.fr kr)
   ·rw [if_f hc17] at hj3
    rw [hc17]
    let p4 : Nat × AV := (16, .v (.bool false))
    refine RunS.segF (n := 47) he 1 [p3, p2, p1, p4, (17, .sl 1 (x1.map cdI.enc))] [] kr ?_
    refine RunS.one he 0 rfl (op_q kr rfl (q_len (a := .sl 1 (x1.map cdI.enc)) kr (len_sl (el := 3) kr))) ?_
    refine RunS.segF (n := 47) he 2 [p3, p2, p1, p4, (20, .v (.bool (decide ((x1.length : Int) > 0))))] [] kr ?_
    rcases Bool.eq_false_or_eq_true (decide ((x1.length : Int) > 0)) with hc18 | hc18
    ·rw [if_pos hc18] at hj3
     rw [hc18]
     refine RunS.segF (n := 47) he 2 [p3, p2, p1, p4, (20, .v (.bool true)), (21, .v (.int .i64 x0)), (22, .sl 1 (x1.map cdI.enc))] [] kr ?_
     obtain ⟨v1, hv1, hj3⟩ := Option.bind_eq_some_iff.1 hj3
     refine RunS.call he (fid := 74) (s := cs_ref09_Fit) (F := fun a => ref09_Fit a.1 a.2.1) (er := er_ref09_Fit) (xs := [.v (.int .i64 x0), .sl 1 (x1.map cdI.enc)]) (a := (x0, x1, ())) rfl kr kr kr kr kr (Sns.cons (Sn.enc (c := cdI) (v := x0)) (Sns.cons (Sn.enc (c := (cdL 1 cdI)) (v := x1)) Sns.nil)) (.inl kr) hv1 ?_
     refine RunS.segF (n := 47) he 3 [p3, p2, p1, (26, .v (.bool (!v1)))] [] kr ?_
     have hq := Option.some.inj hj3; subst hq
     exact RunS.done rfl (Wk.fr kr)
    ·rw [if_f hc18] at hj3
     rw [hc18]
     refine RunS.segF (n := 47) he 6 [p3, p2, p1, (26, .v (.bool false))] [] kr ?_
     have hq := Option.some.inj hj3; subst hq
     exact RunS.done rfl (Wk.fr kr)
 refine Sem.cond (b := j3) kr (fun hb4 => ?_) (fun hb4 => ?_)
 ·rw [if_pos hb4] at h
  refine Sem.sq he [(6, .v (.int .i64 0)), (7, .v (.int .i64 90))] [] ?_
  refine Sem.ret ?_
  have hq := Option.some.inj h; subst hq
  exact ⟨⟨Fr 47 [(6, .v (.int .i64 0)), (7, .v (.int .i64 90))], []⟩, (Wk.fr kr), .inr rfl, [.v (.int .i64 0), .v (.int .i64 90)], kr, kr⟩
 ·rw [if_f hb4] at h
  refine Sem.skip ?_
  refine Sem.seq ?_
  refine Sem.seq ?_
  refine Sem.runS (s1 := ⟨Fr 47 [p3, p2, p1, (29, .v (.bool (decide ((x2.length : Int) > 64))))], []⟩) ?_ ?_
  ·refine RunS.segF (n := 47) he 1 [p3, p2, p1, (27, .sl 1 (x2.map (cdL 1 (cdL 1 cdI)).enc))] [] kr ?_
   refine RunS.one he 0 rfl (op_q (wantedA_none rfl) rfl (q_len (a := .sl 1 (x2.map (cdL 1 (cdL 1 cdI)).enc)) kr (len_sl (el := 50) kr))) ?_
   exact RunS.last he
  refine Sem.cond (b := (decide ((x2.length : Int) > 64))) kr (fun hb5 => ?_) (fun hb5 => ?_)
  ·rw [if_pos hb5] at h
   refine Sem.sq he [(6, .v (.int .i64 0)), (7, .v (.int .i64 7))] [] ?_
   refine Sem.ret ?_
   have hq := Option.some.inj h; subst hq
   exact ⟨⟨Fr 47 [(6, .v (.int .i64 0)), (7, .v (.int .i64 7))], []⟩, (Wk.fr kr), .inr rfl, [.v (.int .i64 0), .v (.int .i64 7)], kr, kr⟩
  ·rw [if_f hb5] at h
   refine Sem.skip ?_
   refine Sem.seq ?_
   let p5 : Nat × AV := (8, .v (.int .i64 0))
   refine Sem.sq he [p3, p2, p1, p5] [] ?_
   refine Sem.block ?_
   obtain ⟨r13, hr13, h⟩ := Option.bind_eq_some_iff.1 h
   refine Sem.loop (n := 100000) ?_
   rcases r13 with w14 | w15
   ·try dsimp only at h
    refine Sem.cutN (SemN.wk (s1 := ⟨Fr 47 [p3, p2, p1, p5], []⟩) (Wk.fr kr) (ref09_Check_1_ok x0 x1 x2 _ 0 _ hr13)) ?_
    refine Sem.sq he [(6, .v (.int .i64 0)), (7, .v (.int .i64 0))] [] ?_
    refine Sem.ret ?_
    have hq := Option.some.inj h; subst hq
    exact ⟨⟨Fr 47 [(6, .v (.int .i64 0)), (7, .v (.int .i64 0))], []⟩, (Wk.fr kr), .inr rfl, [.v (.int .i64 0), .v (.int .i64 0)], kr, kr⟩
   ·try dsimp only at h
    refine Sem.cutN (SemN.wk (s1 := ⟨Fr 47 [p3, p2, p1, p5], []⟩) (Wk.fr kr) (ref09_Check_1_ok x0 x1 x2 _ 0 _ hr13)) ?_
    have hq := Option.some.inj h; subst hq
    exact ⟨⟨Fr 47 [(6, .v (.int .i64 w15.1)), (7, .v (.int .i64 w15.2))], []⟩, (Wk.fr kr), .inr rfl, [.v (.int .i64 w15.1), .v (.int .i64 w15.2)], kr, kr⟩
def t_ref09_Check : List AV → Option AV := told cs_ref09_Check (fun a => ref09_Check a.1 a.2.1 a.2.2.1) er_ref09_Check
theorem x_ref09_Check : XOk 48 t_ref09_Check := by
 refine EnvOk.x (E := e_ref09_Check) (contract_ok e_ref09_Check_ok (fn := Tryd.f48) (c := cb_ref09_Check) ?h1 ?h2 ⟨Tryd.call48⟩ cs_ref09_Check (fun a => ref09_Check a.1 a.2.1 a.2.2.1) er_ref09_Check (fun a => (by show 3 ≤ 47; decide)) ?h3 ?h4) rfl rfl
 case h1 => kernel_rfl
 case h2 => kernel_rfl
 case h3 => intro b; kernel_rfl
 case h4 => exact fun a b h => ref09_Check_sem a.1 a.2.1 a.2.2.1 b h
/- trestle/trestleref09.has -/
noncomputable def e_ref09_has : Env := E0
theorem e_ref09_has_ok : EnvOk e_ref09_has := E0_ok
noncomputable def cb_ref09_has : Code := codeOf Tryd.f76
def ref09_has_1 (x0 : (List Int)) (x1 : Int) : Nat → Int → Option ((Unit) ⊕ (Bool))
 | 0, _ => none
 | f + 1, c1 =>
  if (decide (c1 < (x0.length : Int))) = true then
  (idx x0 c1).bind fun v3 =>
  if (v3 == x1) = true then
  some (.inr true)
  else
  ref09_has_1 x0 x1 f (wr .i64 (c1 + 1))
  else
  some (.inl ())
def ref09_has (x0 : (List Int)) (x1 : Int) : Option (Bool) :=
 (ref09_has_1 x0 x1 100000 0).bind fun r6 =>
 match r6 with
 | (.inl w7) =>
  some false
 | (.inr w8) =>
  some w8
def cs_ref09_has : Cs ((List Int) × Int × Unit) := (csC (cdL 1 cdI) (csC cdI csN))
def er_ref09_has (r : Bool) : AV := cdB.enc r
set_option maxHeartbeats 4000000 in
set_option maxRecDepth 100000 in
theorem ref09_has_1_ok (x0 : (List Int)) (x1 : Int) : ∀ (f : Nat) (c1 : Int) (r : (Unit) ⊕ (Bool)), ref09_has_1 x0 x1 f c1 = some r → SemN e_ref09_has ⟨none, false⟩ (pc cb_ref09_has [1, 0, 1, 0, 0]) f ⟨Fr 18 [(0, .sl 1 (x0.map cdI.enc)), (1, .v (.int .i64 x1)), (5, .v (.int .i64 c1))], []⟩ (fun e s => match r with
 | (.inl w) => e = (.exit 0) ∧ Wk e_ref09_has s ⟨Fr 18 [], []⟩
 | (.inr w) => e = .ret ∧ Wk e_ref09_has s ⟨Fr 18 [(4, .v (.bool w))], []⟩) := by
 have he := e_ref09_has_ok
 intro f
 induction f with
 | zero => intro c1 r h; cases h
 | succ f ih0 =>
  intro c1 r h
  have ih := fun (c1 : Int) => ih0 c1 r
  unfold ref09_has_1 at h
  refine SemN.succ ?_
  refine Sem.seq ?_
  refine Sem.seq ?_
  let p1 : Nat × AV := (5, .v (.int .i64 c1))
  let p2 : Nat × AV := (1, .v (.int .i64 x1))
  let p3 : Nat × AV := (0, .sl 1 (x0.map cdI.enc))
  refine Sem.runS (s1 := ⟨Fr 18 [p3, p2, p1, (9, .v (.bool (decide (c1 < (x0.length : Int)))))], []⟩) ?_ ?_
  ·refine RunS.segF (n := 18) he 2 [p3, p2, p1, (6, .v (.int .i64 c1)), (7, .sl 1 (x0.map cdI.enc))] [] kr ?_
   refine RunS.one he 0 rfl (op_q (wantedA_none rfl) rfl (q_len (a := .sl 1 (x0.map cdI.enc)) kr (len_sl (el := 3) kr))) ?_
   exact RunS.last he
  refine Sem.cond (b := (decide (c1 < (x0.length : Int)))) kr (fun hb2 => ?_) (fun hb2 => ?_)
  ·rw [if_pos hb2] at h
   refine Sem.skip ?_
   refine Sem.seq ?_
   refine Sem.block ?_
   refine Sem.seq ?_
   obtain ⟨v3, hv3, h⟩ := Option.bind_eq_some_iff.1 h
   refine Sem.runS (s1 := ⟨Fr 18 [p3, p2, p1, (17, .v (.bool (v3 == x1)))], []⟩) ?_ ?_
   ·refine RunS.segF (n := 18) he 2 [p3, p2, p1, (12, .sl 1 (x0.map cdI.enc)), (13, .v (.int .i64 c1))] [] kr ?_
    refine RunS.one he 0 rfl (op_q (wantedA_none rfl) rfl (q_indexAddr (a := .sl 1 (x0.map cdI.enc)) (b := .v (.int .i64 c1)) kr kr (ix_sl (e := cdI.enc) (el := 3) (k := 1) (ki := .i64) kr kr hv3))) ?_
    exact RunS.last he
   refine Sem.cond (b := (v3 == x1)) kr (fun hb4 => ?_) (fun hb4 => ?_)
   ·rw [if_pos hb4] at h
    refine Sem.sq he [(4, .v (.bool true))] [] ?_
    refine Sem.ret ?_
    have hq := Option.some.inj h; subst hq
    exact ⟨rfl, (Wk.fr kr)⟩
   ·rw [if_f hb4] at h
    refine Sem.skip ?_
    let p4 : Nat × AV := (5, .v (.int .i64 (wr .i64 (c1 + 1))))
    refine Sem.rg he [p3, p2, p4] [] ?_
    exact SemN.wk (s1 := ⟨Fr 18 [p3, p2, p4], []⟩) (Wk.fr kr) (ih (wr .i64 (c1 + 1)) h)
  ·rw [if_f hb2] at h
   refine Sem.exit ?_
   have hq := Option.some.inj h; subst hq
   exact ⟨rfl, (Wk.fr kr)⟩
set_option maxHeartbeats 4000000 in
set_option maxRecDepth 100000 in
theorem ref09_has_sem (x0 : (List Int)) (x1 : Int) (r : Bool) (h : ref09_has x0 x1 = some r) : Sem e_ref09_has ⟨none, false⟩ cb_ref09_has ⟨Fr 18 (pairs0 0 (cs_ref09_has.enc (x0, x1, ()))), []⟩ fun e s' => (e = .normal ∨ e = .ret) ∧ ∃ xs, resA e_ref09_has.P s'.fr s'.hp Tryd.f76.results.toList = some xs ∧ retA xs = er_ref09_has r := by
 have he := e_ref09_has_ok
 unfold ref09_has at h
 let p1 : Nat × AV := (1, .v (.int .i64 x1))
 let p2 : Nat × AV := (0, .sl 1 (x0.map cdI.enc))
 refine Sem.wkQ (Sem.wk (s1 := ⟨Fr 18 [p2, p1], []⟩) (Wk.fr kr) ?_)
 refine Sem.sq he [p2, p1] [] ?_
 refine Sem.seq ?_
 let p3 : Nat × AV := (5, .v (.int .i64 0))
 refine Sem.sq he [p2, p1, p3] [] ?_
 refine Sem.block ?_
 obtain ⟨r6, hr6, h⟩ := Option.bind_eq_some_iff.1 h
 refine Sem.loop (n := 100000) ?_
 rcases r6 with w7 | w8
 ·try dsimp only at h
  refine Sem.cutN (SemN.wk (s1 := ⟨Fr 18 [p2, p1, p3], []⟩) (Wk.fr kr) (ref09_has_1_ok x0 x1 _ 0 _ hr6)) ?_
  refine Sem.sq he [(4, .v (.bool false))] [] ?_
  refine Sem.ret ?_
  have hq := Option.some.inj h; subst hq
  exact ⟨⟨Fr 18 [(4, .v (.bool false))], []⟩, (Wk.fr kr), .inr rfl, [.v (.bool false)], kr, kr⟩
 ·try dsimp only at h
  refine Sem.cutN (SemN.wk (s1 := ⟨Fr 18 [p2, p1, p3], []⟩) (Wk.fr kr) (ref09_has_1_ok x0 x1 _ 0 _ hr6)) ?_
  have hq := Option.some.inj h; subst hq
  exact ⟨⟨Fr 18 [(4, .v (.bool w8))], []⟩, (Wk.fr kr), .inr rfl, [.v (.bool w8)], kr, kr⟩
def t_ref09_has : List AV → Option AV := told cs_ref09_has (fun a => ref09_has a.1 a.2.1) er_ref09_has
theorem x_ref09_has : XOk 76 t_ref09_has := by
 refine EnvOk.x (E := e_ref09_has) (contract_ok e_ref09_has_ok (fn := Tryd.f76) (c := cb_ref09_has) ?h1 ?h2 ⟨Tryd.call76⟩ cs_ref09_has (fun a => ref09_has a.1 a.2.1) er_ref09_has (fun a => (by show 2 ≤ 18; decide)) ?h3 ?h4) rfl rfl
 case h1 => kernel_rfl
 case h2 => kernel_rfl
 case h3 => intro b; kernel_rfl
 case h4 => exact fun a b h => ref09_has_sem a.1 a.2.1 b h
/- trestle/trestleref09.Together -/
noncomputable def e_ref09_Together : Env := (E0.withX 76 t_ref09_has)
theorem e_ref09_Together_ok : EnvOk e_ref09_Together := (EnvOk.withX E0_ok x_ref09_has.1 x_ref09_has.2)
noncomputable def cb_ref09_Together : Code := codeOf Tryd.f109
def ref09_Together_j3 (x0 : (List (List (List Int)))) (x1 : Int) (x2 : Int) (c2 : Int) (c5 : Int) (j16 : (List Int) × Bool) : Option (((List Int))) :=
 if j16.2 = true then
 if (capOk 8 (j16.1.length + 1)) = true then
 some (j16.1 ++ [c2])
 else none
 else
 some j16.1
def ref09_Together_2 (x0 : (List (List (List Int)))) (x1 : Int) (x2 : Int) (c2 : Int) : Nat → (List Int) → Int → Option (((List Int)))
 | 0, _, _ => none
 | f + 1, c4, c5 =>
  (idx x0 c2).bind fun v6 =>
  if (decide (c5 < (v6.length : Int))) = true then
  (idx x0 c2).bind fun v8 =>
  (idx v8 c5).bind fun v9 =>
  (ref09_has v9 x1).bind fun v10 =>
  (if v10 = true then (idx x0 c2).bind fun v11 =>
  (idx v11 c5).bind fun v12 =>
  (ref09_has v12 x2).bind fun v13 =>
  some (c4, v13) else some (c4, false)).bind fun j16 =>
  (ref09_Together_j3 x0 x1 x2 c2 c5 j16).bind fun r20 =>
  ref09_Together_2 x0 x1 x2 c2 f r20 (wr .i64 (c5 + 1))
  else
  some c4
def ref09_Together_1 (x0 : (List (List (List Int)))) (x1 : Int) (x2 : Int) : Nat → (List Int) → Int → Option (((List Int)))
 | 0, _, _ => none
 | f + 1, c1, c2 =>
  if (decide (c2 < (x0.length : Int))) = true then
  (ref09_Together_2 x0 x1 x2 c2 100000 c1 0).bind fun r23 =>
  ref09_Together_1 x0 x1 x2 f r23 (wr .i64 (c2 + 1))
  else
  some c1
def ref09_Together (x0 : (List (List (List Int)))) (x1 : Int) (x2 : Int) : Option ((List Int)) :=
 (ref09_Together_1 x0 x1 x2 100000 [] 0).bind fun r25 =>
 some r25
def cs_ref09_Together : Cs ((List (List (List Int))) × Int × Int × Unit) := (csC (cdL 1 (cdL 1 (cdL 1 cdI))) (csC cdI (csC cdI csN)))
def er_ref09_Together (r : (List Int)) : AV := (cdL 1 cdI).enc r
set_option maxHeartbeats 4000000 in
set_option maxRecDepth 100000 in
theorem ref09_Together_j3_ok (x0 : (List (List (List Int)))) (x1 : Int) (x2 : Int) (c2 : Int) (c5 : Int) (j16 : (List Int) × Bool) (r : ((List Int))) (h : ref09_Together_j3 x0 x1 x2 c2 c5 j16 = some r) : Sem e_ref09_Together ⟨none, false⟩ (pc cb_ref09_Together [1, 1, 0, 1, 0, 0, 1, 0, 0, 1, 0, 0, 1, 0, 0, 1]) ⟨Fr 50 [(0, .sl 1 (x0.map (cdL 1 (cdL 1 cdI)).enc)), (1, .v (.int .i64 x1)), (2, .v (.int .i64 x2)), (7, hd 0 (j16.1.map cdI.enc)), (8, .v (.int .i64 c2)), (9, .v (.int .i64 c5)), (44, .v (.bool j16.2))], [mk 1 3 (j16.1.map cdI.enc)]⟩ (fun e s => e = .normal ∧ Wk e_ref09_Together s ⟨Fr 50 [(0, .sl 1 (x0.map (cdL 1 (cdL 1 cdI)).enc)), (1, .v (.int .i64 x1)), (2, .v (.int .i64 x2)), (7, hd 0 (r.map cdI.enc)), (8, .v (.int .i64 c2)), (9, .v (.int .i64 c5))], [mk 1 3 (r.map cdI.enc)]⟩) := by
 have he := e_ref09_Together_ok
 unfold ref09_Together_j3 at h
 refine Sem.cond (b := j16.2) kr (fun hb17 => ?_) (fun hb17 => ?_)
 ·rw [if_pos hb17] at h
  by_cases hk18 : (capOk 8 (j16.1.length + 1)) = true
  case neg => rw [if_neg hk18] at h; cases h
  rw [if_pos hk18] at h
  let p1 : Option Blk := mk 1 3 ((j16.1 ++ [c2]).map cdI.enc)
  let p2 : Nat × AV := (9, .v (.int .i64 c5))
  let p3 : Nat × AV := (8, .v (.int .i64 c2))
  let p4 : Nat × AV := (2, .v (.int .i64 x2))
  let p5 : Nat × AV := (1, .v (.int .i64 x1))
  let p6 : Nat × AV := (0, .sl 1 (x0.map (cdL 1 (cdL 1 cdI)).enc))
  refine Sem.runS (s1 := ⟨Fr 50 [p6, p5, p4, (7, hd 0 ((j16.1 ++ [c2]).map cdI.enc)), p3, p2], [p1]⟩) ?_ ?_
  ·refine RunS.segF (n := 50) he 3 [p6, p5, p4, p3, p2, (45, hd 0 (j16.1.map cdI.enc)), (47, hd 1 ([c2].map cdI.enc))] [mk 1 3 (j16.1.map cdI.enc), mk 1 3 ([c2].map cdI.enc)] kr ?_
   refine RunS.one he 0 rfl (op_w (wantedA_none rfl) rfl kr kr (w_append (a := hd 0 (j16.1.map cdI.enc)) (b := hd 1 ([c2].map cdI.enc)) kr kr (append_B (c := cdI) (xs := j16.1) (vs := [c2]) (k := 1) (bytes := 8) (el := 3) kr kr (elems_hd (t := 3) kr) (List.cons_ne_nil _ _) kr hk18))) ?_
   refine RunS.segF (n := 50) he 1 [p6, p5, p4, (7, hd 2 ((j16.1 ++ [c2]).map cdI.enc)), p3, p2] [none, mk 1 3 ([c2].map cdI.enc), p1] kr ?_
   exact RunS.done rfl (Wk.sel2 [2] kr kr kr ⟨⟨_, rfl, bu_mk⟩, trivial⟩ ⟨lu kr kr, lu kr kr, lu kr kr, lu_hd (b' := 2) kr kr, lu kr kr, lu kr kr, trivial⟩)
  have hq := Option.some.inj h; subst hq
  exact ⟨rfl, (Wk.sel2 [0] kr kr kr ⟨⟨_, rfl, bu_mk⟩, trivial⟩ ⟨lu kr kr, lu kr kr, lu kr kr, lu_hd (b' := 0) kr kr, lu kr kr, lu kr kr, trivial⟩)⟩
 ·rw [if_f hb17] at h
  refine Sem.skip ?_
  have hq := Option.some.inj h; subst hq
  exact ⟨rfl, (Wk.sel2 [0] kr kr kr ⟨⟨_, rfl, bu_mk⟩, trivial⟩ ⟨lu kr kr, lu kr kr, lu kr kr, lu_hd (b' := 0) kr kr, lu kr kr, lu kr kr, trivial⟩)⟩
set_option maxHeartbeats 4000000 in
set_option maxRecDepth 100000 in
theorem ref09_Together_2_ok (x0 : (List (List (List Int)))) (x1 : Int) (x2 : Int) (c2 : Int) : ∀ (f : Nat) (c4 : (List Int)) (c5 : Int) (r : ((List Int))), ref09_Together_2 x0 x1 x2 c2 f c4 c5 = some r → SemN e_ref09_Together ⟨none, false⟩ (pc cb_ref09_Together [1, 1, 0, 1, 0, 0, 1, 0, 0, 1, 0, 0]) f ⟨Fr 50 [(0, .sl 1 (x0.map (cdL 1 (cdL 1 cdI)).enc)), (1, .v (.int .i64 x1)), (2, .v (.int .i64 x2)), (7, hd 0 (c4.map cdI.enc)), (8, .v (.int .i64 c2)), (9, .v (.int .i64 c5))], [mk 1 3 (c4.map cdI.enc)]⟩ (fun e s => e = (.exit 2) ∧ Wk e_ref09_Together s ⟨Fr 50 [(0, .sl 1 (x0.map (cdL 1 (cdL 1 cdI)).enc)), (1, .v (.int .i64 x1)), (2, .v (.int .i64 x2)), (7, hd 0 (r.map cdI.enc)), (8, .v (.int .i64 c2))], [mk 1 3 (r.map cdI.enc)]⟩) := by
 have he := e_ref09_Together_ok
 intro f
 induction f with
 | zero => intro c4 c5 r h; cases h
 | succ f ih0 =>
  intro c4 c5 r h
  have ih := fun (c4 : (List Int)) (c5 : Int) => ih0 c4 c5 r
  unfold ref09_Together_2 at h
  refine SemN.succ ?_
  refine Sem.seq ?_
  refine Sem.seq ?_
  obtain ⟨v6, hv6, h⟩ := Option.bind_eq_some_iff.1 h
  let p1 : Option Blk := mk 1 3 (c4.map cdI.enc)
  let p2 : Nat × AV := (9, .v (.int .i64 c5))
  let p3 : Nat × AV := (8, .v (.int .i64 c2))
  let p4 : Nat × AV := (7, hd 0 (c4.map cdI.enc))
  let p5 : Nat × AV := (2, .v (.int .i64 x2))
  let p6 : Nat × AV := (1, .v (.int .i64 x1))
  let p7 : Nat × AV := (0, .sl 1 (x0.map (cdL 1 (cdL 1 cdI)).enc))
  refine Sem.runS (s1 := ⟨Fr 50 [p7, p6, p5, p4, p3, p2, (22, .v (.bool (decide (c5 < (v6.length : Int)))))], [p1]⟩) ?_ ?_
  ·refine RunS.segF (n := 50) he 3 [p7, p6, p5, p4, p3, p2, (16, .v (.int .i64 c5)), (17, .sl 1 (x0.map (cdL 1 (cdL 1 cdI)).enc)), (18, .v (.int .i64 c2))] [p1] kr ?_
   refine RunS.one he 0 rfl (op_q (wantedA_none rfl) rfl (q_indexAddr (a := .sl 1 (x0.map (cdL 1 (cdL 1 cdI)).enc)) (b := .v (.int .i64 c2)) kr kr (ix_sl (e := (cdL 1 (cdL 1 cdI)).enc) (el := 50) (k := 1) (ki := .i64) kr kr hv6))) ?_
   refine RunS.segF (n := 50) he 1 [p7, p6, p5, p4, p3, p2, (16, .v (.int .i64 c5)), (20, .sl 1 (v6.map (cdL 1 cdI).enc))] [p1] kr ?_
   refine RunS.one he 0 rfl (op_q (wantedA_none rfl) rfl (q_len (a := .sl 1 (v6.map (cdL 1 cdI).enc)) kr (len_sl (el := 31) kr))) ?_
   exact RunS.last he
  refine Sem.cond (b := (decide (c5 < (v6.length : Int)))) kr (fun hb7 => ?_) (fun hb7 => ?_)
  ·rw [if_pos hb7] at h
   refine Sem.skip ?_
   refine Sem.seq ?_
   refine Sem.block ?_
   refine Sem.seq ?_
   obtain ⟨v8, hv8, h⟩ := Option.bind_eq_some_iff.1 h
   obtain ⟨v9, hv9, h⟩ := Option.bind_eq_some_iff.1 h
   obtain ⟨v10, hv10, h⟩ := Option.bind_eq_some_iff.1 h
   obtain ⟨j16, hj16, h⟩ := Option.bind_eq_some_iff.1 h
   refine Sem.runS (s1 := ⟨Fr 50 [p7, p6, p5, (7, hd 0 (j16.1.map cdI.enc)), p3, p2, (44, .v (.bool j16.2))], [mk 1 3 (j16.1.map cdI.enc)]⟩) ?_ ?_
   ·refine RunS.segF (n := 50) he 2 [p7, p6, p5, p4, p3, p2, (25, .sl 1 (x0.map (cdL 1 (cdL 1 cdI)).enc)), (26, .v (.int .i64 c2))] [p1] kr ?_
    refine RunS.one he 0 rfl (op_q (wantedA_none rfl) rfl (q_indexAddr (a := .sl 1 (x0.map (cdL 1 (cdL 1 cdI)).enc)) (b := .v (.int .i64 c2)) kr kr (ix_sl (e := (cdL 1 (cdL 1 cdI)).enc) (el := 50) (k := 1) (ki := .i64) kr kr hv8))) ?_
    refine RunS.segF (n := 50) he 2 [p7, p6, p5, p4, p3, p2, (28, .sl 1 (v8.map (cdL 1 cdI).enc)), (29, .v (.int .i64 c5))] [p1] kr ?_
    refine RunS.one he 0 rfl (op_q (wantedA_none rfl) rfl (q_indexAddr (a := .sl 1 (v8.map (cdL 1 cdI).enc)) (b := .v (.int .i64 c5)) kr kr (ix_sl (e := (cdL 1 cdI).enc) (el := 31) (k := 1) (ki := .i64) kr kr hv9))) ?_
    refine RunS.segF (n := 50) he 2 [p7, p6, p5, p4, p3, p2, (31, .sl 1 (v9.map cdI.enc)), (32, .v (.int .i64 x1))] [p1] kr ?_
    refine RunS.call he (fid := 76) (s := cs_ref09_has) (F := fun a => ref09_has a.1 a.2.1) (er := er_ref09_has) (xs := [.sl 1 (v9.map cdI.enc), .v (.int .i64 x1)]) (a := (v9, x1, ())) rfl (wantedA_none rfl) kr kr kr kr (Sns.cons (Sn.enc (c := (cdL 1 cdI)) (v := v9)) (Sns.cons (Sn.enc (c := cdI) (v := x1)) Sns.nil)) (.inl kr) hv10 ?_
    refine RunS.segF (n := 50) he 1 [p7, p6, p5, p4, p3, p2, (34, .v (.bool v10))] [p1] kr ?_
    rcases Bool.eq_false_or_eq_true v10 with hc21 | hc21
    ·rw [if_pos hc21] at hj16
     rw [hc21]
     let p8 : Nat × AV := (36, .v (.int .i64 c2))
     let p9 : Nat × AV := (35, .sl 1 (x0.map (cdL 1 (cdL 1 cdI)).enc))
     refine RunS.segF (n := 50) he 2 [p7, p6, p5, p4, p3, p2, (34, .v (.bool true)), p9, p8] [p1] kr ?_
     obtain ⟨v11, hv11, hj16⟩ := Option.bind_eq_some_iff.1 hj16
     refine RunS.one he 0 rfl (op_q kr rfl (q_indexAddr (a := .sl 1 (x0.map (cdL 1 (cdL 1 cdI)).enc)) (b := .v (.int .i64 c2)) kr kr (ix_sl (e := (cdL 1 (cdL 1 cdI)).enc) (el := 50) (k := 1) (ki := .i64) kr kr hv11))) ?_
     let p10 : Nat × AV := (39, .v (.int .i64 c5))
     let p11 : Nat × AV := (38, .sl 1 (v11.map (cdL 1 cdI).enc))
     let p12 : Nat × AV := (37, .pe (.sl 1 (v11.map (cdL 1 cdI).enc)) 0)
     refine RunS.segF (n := 50) he 2 [p7, p6, p5, p4, p3, p2, (34, .v (.bool true)), p9, p8, p12, p11, p10] [p1] kr ?_
     obtain ⟨v12, hv12, hj16⟩ := Option.bind_eq_some_iff.1 hj16
     refine RunS.one he 0 rfl (op_q kr rfl (q_indexAddr (a := .sl 1 (v11.map (cdL 1 cdI).enc)) (b := .v (.int .i64 c5)) kr kr (ix_sl (e := (cdL 1 cdI).enc) (el := 31) (k := 1) (ki := .i64) kr kr hv12))) ?_
     refine RunS.segF (n := 50) he 2 [p7, p6, p5, p4, p3, p2, (34, .v (.bool true)), p9, p8, p12, p11, p10, (40, .pe (.sl 1 (v12.map cdI.enc)) 0), (41, .sl 1 (v12.map cdI.enc)), (42, .v (.int .i64 x2))] [p1] kr ?_
     obtain ⟨v13, hv13, hj16⟩ := Option.bind_eq_some_iff.1 hj16
     refine RunS.call he (fid := 76) (s := cs_ref09_has) (F := fun a => ref09_has a.1 a.2.1) (er := er_ref09_has) (xs := [.sl 1 (v12.map cdI.enc), .v (.int .i64 x2)]) (a := (v12, x2, ())) rfl kr kr kr kr kr (Sns.cons (Sn.enc (c := (cdL 1 cdI)) (v := v12)) (Sns.cons (Sn.enc (c := cdI) (v := x2)) Sns.nil)) (.inl kr) hv13 ?_
     refine RunS.segF (n := 50) he 1 [p7, p6, p5, p4, p3, p2, p9, p8, p12, p11, p10, (40, .pe (.sl 1 (v12.map cdI.enc)) 0), (41, .sl 1 (v12.map cdI.enc)), (42, .v (.int .i64 x2)), (43, .v (.bool v13)), (44, .v (.bool v13))] [p1] kr ?_
     have hq := Option.some.inj hj16; subst hq
     exact RunS.done rfl (Wk.sel2 [0] kr kr kr ⟨⟨_, rfl, bu_mk⟩, trivial⟩ ⟨lu kr kr, lu kr kr, lu kr kr, lu_hd (b' := 0) kr kr, lu kr kr, lu kr kr, lu kr kr, trivial⟩)
    ·rw [if_f hc21] at hj16
     rw [hc21]
     refine RunS.segF (n := 50) he 10 [p7, p6, p5, p4, p3, p2, (35, .tp []), (36, .tp []), (37, .tp []), (38, .tp []), (39, .tp []), (40, .tp []), (41, .tp []), (42, .tp []), (43, .tp []), (44, .v (.bool false))] [p1] kr ?_
     have hq := Option.some.inj hj16; subst hq
     exact RunS.done rfl (Wk.sel2 [0] kr kr kr ⟨⟨_, rfl, bu_mk⟩, trivial⟩ ⟨lu kr kr, lu kr kr, lu kr kr, lu_hd (b' := 0) kr kr, lu kr kr, lu kr kr, lu kr kr, trivial⟩)
   obtain ⟨r20, hr20, h⟩ := Option.bind_eq_some_iff.1 h
   refine Sem.cut (ref09_Together_j3_ok x0 x1 x2 c2 c5 j16 _ hr20) ?_
   let p13 : Nat × AV := (9, .v (.int .i64 (wr .i64 (c5 + 1))))
   refine Sem.rg he [p7, p6, p5, (7, hd 0 (r20.map cdI.enc)), p3, p13] [mk 1 3 (r20.map cdI.enc)] ?_
   exact SemN.wk (s1 := ⟨Fr 50 [p7, p6, p5, (7, hd 0 (r20.map cdI.enc)), p3, p13], [mk 1 3 (r20.map cdI.enc)]⟩) (Wk.sel2 [0] kr kr kr ⟨⟨_, rfl, bu_mk⟩, trivial⟩ ⟨lu kr kr, lu kr kr, lu kr kr, lu_hd (b' := 0) kr kr, lu kr kr, lu kr kr, trivial⟩) (ih r20 (wr .i64 (c5 + 1)) h)
  ·rw [if_f hb7] at h
   refine Sem.exit ?_
   have hq := Option.some.inj h; subst hq
   exact ⟨rfl, (Wk.sel2 [0] kr kr kr ⟨⟨_, rfl, bu_mk⟩, trivial⟩ ⟨lu kr kr, lu kr kr, lu kr kr, lu_hd (b' := 0) kr kr, lu kr kr, trivial⟩)⟩
set_option maxHeartbeats 4000000 in
set_option maxRecDepth 100000 in
theorem ref09_Together_1_ok (x0 : (List (List (List Int)))) (x1 : Int) (x2 : Int) : ∀ (f : Nat) (c1 : (List Int)) (c2 : Int) (r : ((List Int))), ref09_Together_1 x0 x1 x2 f c1 c2 = some r → SemN e_ref09_Together ⟨none, false⟩ (pc cb_ref09_Together [1, 1, 0, 1, 0, 0]) f ⟨Fr 50 [(0, .sl 1 (x0.map (cdL 1 (cdL 1 cdI)).enc)), (1, .v (.int .i64 x1)), (2, .v (.int .i64 x2)), (7, hd 0 (c1.map cdI.enc)), (8, .v (.int .i64 c2))], [mk 1 3 (c1.map cdI.enc)]⟩ (fun e s => e = (.exit 0) ∧ Wk e_ref09_Together s ⟨Fr 50 [(7, hd 0 (r.map cdI.enc))], [mk 1 3 (r.map cdI.enc)]⟩) := by
 have he := e_ref09_Together_ok
 intro f
 induction f with
 | zero => intro c1 c2 r h; cases h
 | succ f ih0 =>
  intro c1 c2 r h
  have ih := fun (c1 : (List Int)) (c2 : Int) => ih0 c1 c2 r
  unfold ref09_Together_1 at h
  refine SemN.succ ?_
  refine Sem.seq ?_
  refine Sem.seq ?_
  let p1 : Option Blk := mk 1 3 (c1.map cdI.enc)
  let p2 : Nat × AV := (8, .v (.int .i64 c2))
  let p3 : Nat × AV := (7, hd 0 (c1.map cdI.enc))
  let p4 : Nat × AV := (2, .v (.int .i64 x2))
  let p5 : Nat × AV := (1, .v (.int .i64 x1))
  let p6 : Nat × AV := (0, .sl 1 (x0.map (cdL 1 (cdL 1 cdI)).enc))
  refine Sem.runS (s1 := ⟨Fr 50 [p6, p5, p4, p3, p2, (13, .v (.bool (decide (c2 < (x0.length : Int)))))], [p1]⟩) ?_ ?_
  ·refine RunS.segF (n := 50) he 2 [p6, p5, p4, p3, p2, (10, .v (.int .i64 c2)), (11, .sl 1 (x0.map (cdL 1 (cdL 1 cdI)).enc))] [p1] kr ?_
   refine RunS.one he 0 rfl (op_q (wantedA_none rfl) rfl (q_len (a := .sl 1 (x0.map (cdL 1 (cdL 1 cdI)).enc)) kr (len_sl (el := 50) kr))) ?_
   exact RunS.last he
  refine Sem.cond (b := (decide (c2 < (x0.length : Int)))) kr (fun hb3 => ?_) (fun hb3 => ?_)
  ·rw [if_pos hb3] at h
   refine Sem.skip ?_
   refine Sem.seq ?_
   refine Sem.block ?_
   refine Sem.sq he [p6, p5, p4, p3, p2, (9, .v (.int .i64 0))] [p1] ?_
   refine Sem.block ?_
   obtain ⟨r23, hr23, h⟩ := Option.bind_eq_some_iff.1 h
   refine Sem.loop (n := 100000) ?_
   refine Sem.cutN (SemN.wk (s1 := ⟨Fr 50 [p6, p5, p4, p3, p2, (9, .v (.int .i64 0))], [p1]⟩) (Wk.sel2 [0] kr kr kr ⟨⟨_, rfl, bu_mk⟩, trivial⟩ ⟨lu kr kr, lu kr kr, lu kr kr, lu_hd (b' := 0) kr kr, lu kr kr, lu kr kr, trivial⟩) (ref09_Together_2_ok x0 x1 x2 c2 _ c1 0 _ hr23)) ?_
   let p7 : Nat × AV := (8, .v (.int .i64 (wr .i64 (c2 + 1))))
   refine Sem.rg he [p6, p5, p4, (7, hd 0 (r23.map cdI.enc)), p7] [mk 1 3 (r23.map cdI.enc)] ?_
   exact SemN.wk (s1 := ⟨Fr 50 [p6, p5, p4, (7, hd 0 (r23.map cdI.enc)), p7], [mk 1 3 (r23.map cdI.enc)]⟩) (Wk.sel2 [0] kr kr kr ⟨⟨_, rfl, bu_mk⟩, trivial⟩ ⟨lu kr kr, lu kr kr, lu kr kr, lu_hd (b' := 0) kr kr, lu kr kr, trivial⟩) (ih r23 (wr .i64 (c2 + 1)) h)
  ·rw [if_f hb3] at h
   refine Sem.exit ?_
   have hq := Option.some.inj h; subst hq
   exact ⟨rfl, (Wk.sel2 [0] kr kr kr ⟨⟨_, rfl, bu_mk⟩, trivial⟩ ⟨lu_hd (b' := 0) kr kr, trivial⟩)⟩
set_option maxHeartbeats 4000000 in
set_option maxRecDepth 100000 in
theorem ref09_Together_sem (x0 : (List (List (List Int)))) (x1 : Int) (x2 : Int) (r : (List Int)) (h : ref09_Together x0 x1 x2 = some r) : Sem e_ref09_Together ⟨none, false⟩ cb_ref09_Together ⟨Fr 50 (pairs0 0 (cs_ref09_Together.enc (x0, x1, x2, ()))), []⟩ fun e s' => (e = .normal ∨ e = .ret) ∧ ∃ xs, resA e_ref09_Together.P s'.fr s'.hp Tryd.f109.results.toList = some xs ∧ retA xs = er_ref09_Together r := by
 have he := e_ref09_Together_ok
 unfold ref09_Together at h
 let p1 : Nat × AV := (2, .v (.int .i64 x2))
 let p2 : Nat × AV := (1, .v (.int .i64 x1))
 let p3 : Nat × AV := (0, .sl 1 (x0.map (cdL 1 (cdL 1 cdI)).enc))
 refine Sem.wkQ (Sem.wk (s1 := ⟨Fr 50 [p3, p2, p1], []⟩) (Wk.fr kr) ?_)
 refine Sem.sq he [p3, p2, p1] [] ?_
 refine Sem.sq he [p3, p2, p1, (7, .e0)] [] ?_
 refine Sem.seq ?_
 let p4 : Nat × AV := (8, .v (.int .i64 0))
 refine Sem.sq he [p3, p2, p1, (7, .e0), p4] [] ?_
 refine Sem.block ?_
 obtain ⟨r25, hr25, h⟩ := Option.bind_eq_some_iff.1 h
 refine Sem.loop (n := 100000) ?_
 refine Sem.cutN (SemN.wk (s1 := ⟨Fr 50 [p3, p2, p1, (7, hd 0 ([].map cdI.enc)), p4], [mk 1 3 ([].map cdI.enc)]⟩) (Wk.trans (s1 := ⟨Fr 50 [p3, p2, p1, (7, hd 0 ([].map cdI.enc)), p4], [mk 1 3 ([].map cdI.enc)]⟩) Wk.none (Wk.sel2 [0] kr kr kr ⟨⟨_, rfl, bu_none⟩, trivial⟩ ⟨lu kr kr, lu kr kr, lu kr kr, lu kr kr, lu kr kr, trivial⟩)) (ref09_Together_1_ok x0 x1 x2 _ [] 0 _ hr25)) ?_
 refine Sem.sq he [(6, hd 0 (r25.map cdI.enc))] [mk 1 3 (r25.map cdI.enc)] ?_
 refine Sem.ret ?_
 have hq := Option.some.inj h; subst hq
 exact ⟨⟨Fr 50 [(6, .sl 1 (r25.map cdI.enc))], []⟩, (Wk.trans (s1 := ⟨Fr 50 [(6, .sl 1 (r25.map cdI.enc))], [none]⟩) (Wk.frzG 0 (.inl kr) ⟨.inl rfl, trivial⟩ ⟨⟨hd 0 (r25.map cdI.enc), kr, fz_hd (t := 3) kr enc_ok⟩, trivial⟩) (Wk.sel2 [] kr kr kr trivial ⟨lu kr kr, trivial⟩)), .inr rfl, [.sl 1 (r25.map cdI.enc)], kr, kr⟩
def t_ref09_Together : List AV → Option AV := told cs_ref09_Together (fun a => ref09_Together a.1 a.2.1 a.2.2.1) er_ref09_Together
theorem x_ref09_Together : XOk 109 t_ref09_Together := by
 refine EnvOk.x (E := e_ref09_Together) (contract_ok e_ref09_Together_ok (fn := Tryd.f109) (c := cb_ref09_Together) ?h1 ?h2 ⟨Tryd.call109⟩ cs_ref09_Together (fun a => ref09_Together a.1 a.2.1 a.2.2.1) er_ref09_Together (fun a => (by show 3 ≤ 50; decide)) ?h3 ?h4) rfl rfl
 case h1 => kernel_rfl
 case h2 => kernel_rfl
 case h3 => intro b; kernel_rfl
 case h4 => exact fun a b h => ref09_Together_sem a.1 a.2.1 a.2.2.1 b h
/- trestle/trestleref09.Meet -/
noncomputable def e_ref09_Meet : Env := (E0.withX 109 t_ref09_Together)
theorem e_ref09_Meet_ok : EnvOk e_ref09_Meet := (EnvOk.withX E0_ok x_ref09_Together.1 x_ref09_Together.2)
noncomputable def cb_ref09_Meet : Code := codeOf Tryd.f130
def ref09_Meet_j3 (x0 : Int) (x1 : (List (List (List Int)))) (c1 : (List (List Int))) (c2 : Int) (c4 : (List Int)) (c5 : Int) : Option ((Int)) :=
 if (c2 != c5) = true then
 (ref09_Together x1 c2 c5).bind fun v8 =>
 some (v8.length : Int)
 else
 some 0
def ref09_Meet_2 (x0 : Int) (x1 : (List (List (List Int)))) (c1 : (List (List Int))) (c2 : Int) : Nat → (List Int) → Int → Option (((List Int)))
 | 0, _, _ => none
 | f + 1, c4, c5 =>
  if (decide (c5 < x0)) = true then
  (ref09_Meet_j3 x0 x1 c1 c2 c4 c5).bind fun r10 =>
  if (capOk 8 (c4.length + 1)) = true then
  ref09_Meet_2 x0 x1 c1 c2 f (c4 ++ [r10]) (wr .i64 (c5 + 1))
  else none
  else
  some c4
def ref09_Meet_1 (x0 : Int) (x1 : (List (List (List Int)))) : Nat → (List (List Int)) → Int → Option (((List (List Int))))
 | 0, _, _ => none
 | f + 1, c1, c2 =>
  if (decide (c2 < x0)) = true then
  (ref09_Meet_2 x0 x1 c1 c2 100000 [] 0).bind fun r13 =>
  if (capOk 24 (c1.length + 1)) = true then
  ref09_Meet_1 x0 x1 f (c1 ++ [r13]) (wr .i64 (c2 + 1))
  else none
  else
  some c1
def ref09_Meet (x0 : Int) (x1 : (List (List (List Int)))) : Option ((List (List Int))) :=
 (ref09_Meet_1 x0 x1 100000 [] 0).bind fun r16 =>
 some r16
def cs_ref09_Meet : Cs (Int × (List (List (List Int))) × Unit) := (csC cdI (csC (cdL 1 (cdL 1 (cdL 1 cdI))) csN))
def er_ref09_Meet (r : (List (List Int))) : AV := (cdL 1 (cdL 1 cdI)).enc r
set_option maxHeartbeats 4000000 in
set_option maxRecDepth 100000 in
theorem ref09_Meet_j3_ok (x0 : Int) (x1 : (List (List (List Int)))) (c1 : (List (List Int))) (c2 : Int) (c4 : (List Int)) (c5 : Int) (r : (Int)) (h : ref09_Meet_j3 x0 x1 c1 c2 c4 c5 = some r) : Sem e_ref09_Meet ⟨none, false⟩ (pc cb_ref09_Meet [1, 1, 0, 1, 0, 0, 1, 0, 0, 1, 0, 1, 0, 0, 1, 0, 0, 1, 0, 1]) ⟨Fr 37 [(0, .v (.int .i64 x0)), (1, .sl 1 (x1.map (cdL 1 (cdL 1 cdI)).enc)), (5, hd 0 (c1.map (cdL 1 cdI).enc)), (6, .v (.int .i64 c2)), (7, hd 1 (c4.map cdI.enc)), (8, .v (.int .i64 c5)), (9, .v (.int .i64 0)), (22, .v (.bool (c2 != c5)))], [mk 1 31 (c1.map (cdL 1 cdI).enc), mk 1 3 (c4.map cdI.enc)]⟩ (fun e s => e = .normal ∧ Wk e_ref09_Meet s ⟨Fr 37 [(0, .v (.int .i64 x0)), (1, .sl 1 (x1.map (cdL 1 (cdL 1 cdI)).enc)), (5, hd 0 (c1.map (cdL 1 cdI).enc)), (6, .v (.int .i64 c2)), (7, hd 1 (c4.map cdI.enc)), (8, .v (.int .i64 c5)), (9, .v (.int .i64 r))], [mk 1 31 (c1.map (cdL 1 cdI).enc), mk 1 3 (c4.map cdI.enc)]⟩) := by
 have he := e_ref09_Meet_ok
 unfold ref09_Meet_j3 at h
 refine Sem.cond (b := (c2 != c5)) kr (fun hb7 => ?_) (fun hb7 => ?_)
 ·rw [if_pos hb7] at h
  obtain ⟨v8, hv8, h⟩ := Option.bind_eq_some_iff.1 h
  let p1 : Nat × AV := (5, hd 0 (c1.map (cdL 1 cdI).enc))
  let p2 : Nat × AV := (1, .sl 1 (x1.map (cdL 1 (cdL 1 cdI)).enc))
  refine Sem.runS (s1 := ⟨Fr 37 [(0, .v (.int .i64 x0)), p2, p1, (6, .v (.int .i64 c2)), (7, hd 1 (c4.map cdI.enc)), (8, .v (.int .i64 c5)), (9, .v (.int .i64 (v8.length : Int)))], [mk 1 31 (c1.map (cdL 1 cdI).enc), mk 1 3 (c4.map cdI.enc)]⟩) ?_ ?_
  ·refine RunS.segF (n := 37) he 3 [(0, .v (.int .i64 x0)), p2, p1, (6, .v (.int .i64 c2)), (7, hd 1 (c4.map cdI.enc)), (8, .v (.int .i64 c5)), (23, .sl 1 (x1.map (cdL 1 (cdL 1 cdI)).enc)), (24, .v (.int .i64 c2)), (25, .v (.int .i64 c5))] [mk 1 31 (c1.map (cdL 1 cdI).enc), mk 1 3 (c4.map cdI.enc)] kr ?_
   refine RunS.call he (fid := 109) (s := cs_ref09_Together) (F := fun a => ref09_Together a.1 a.2.1 a.2.2.1) (er := er_ref09_Together) (xs := [.sl 1 (x1.map (cdL 1 (cdL 1 cdI)).enc), .v (.int .i64 c2), .v (.int .i64 c5)]) (a := (x1, c2, c5, ())) rfl (wantedA_none rfl) kr kr kr kr (Sns.cons (Sn.enc (c := (cdL 1 (cdL 1 (cdL 1 cdI)))) (v := x1)) (Sns.cons (Sn.enc (c := cdI) (v := c2)) (Sns.cons (Sn.enc (c := cdI) (v := c5)) Sns.nil))) (.inl kr) hv8 ?_
   refine RunS.one he 0 rfl (op_q (wantedA_none rfl) rfl (q_len (a := .sl 1 (v8.map cdI.enc)) kr (len_sl (el := 3) kr))) ?_
   exact RunS.last he
  have hq := Option.some.inj h; subst hq
  exact ⟨rfl, (Wk.sel2 [0, 1] kr kr kr ⟨⟨_, rfl, bu_mk⟩, ⟨_, rfl, bu_mk⟩, trivial⟩ ⟨lu kr kr, lu kr kr, lu_hd (b' := 0) kr kr, lu kr kr, lu_hd (b' := 1) kr kr, lu kr kr, lu kr kr, trivial⟩)⟩
 ·rw [if_f hb7] at h
  refine Sem.skip ?_
  have hq := Option.some.inj h; subst hq
  exact ⟨rfl, (Wk.sel2 [0, 1] kr kr kr ⟨⟨_, rfl, bu_mk⟩, ⟨_, rfl, bu_mk⟩, trivial⟩ ⟨lu kr kr, lu kr kr, lu_hd (b' := 0) kr kr, lu kr kr, lu_hd (b' := 1) kr kr, lu kr kr, lu kr kr, trivial⟩)⟩
set_option maxHeartbeats 4000000 in
set_option maxRecDepth 100000 in
theorem ref09_Meet_2_ok (x0 : Int) (x1 : (List (List (List Int)))) (c1 : (List (List Int))) (c2 : Int) : ∀ (f : Nat) (c4 : (List Int)) (c5 : Int) (r : ((List Int))), ref09_Meet_2 x0 x1 c1 c2 f c4 c5 = some r → SemN e_ref09_Meet ⟨none, false⟩ (pc cb_ref09_Meet [1, 1, 0, 1, 0, 0, 1, 0, 0, 1, 0, 1, 0, 0]) f ⟨Fr 37 [(0, .v (.int .i64 x0)), (1, .sl 1 (x1.map (cdL 1 (cdL 1 cdI)).enc)), (5, hd 0 (c1.map (cdL 1 cdI).enc)), (6, .v (.int .i64 c2)), (7, hd 1 (c4.map cdI.enc)), (8, .v (.int .i64 c5))], [mk 1 31 (c1.map (cdL 1 cdI).enc), mk 1 3 (c4.map cdI.enc)]⟩ (fun e s => e = (.exit 2) ∧ Wk e_ref09_Meet s ⟨Fr 37 [(0, .v (.int .i64 x0)), (1, .sl 1 (x1.map (cdL 1 (cdL 1 cdI)).enc)), (5, hd 0 (c1.map (cdL 1 cdI).enc)), (6, .v (.int .i64 c2)), (7, hd 1 (r.map cdI.enc))], [mk 1 31 (c1.map (cdL 1 cdI).enc), mk 1 3 (r.map cdI.enc)]⟩) := by
 have he := e_ref09_Meet_ok
 intro f
 induction f with
 | zero => intro c4 c5 r h; cases h
 | succ f ih0 =>
  intro c4 c5 r h
  have ih := fun (c4 : (List Int)) (c5 : Int) => ih0 c4 c5 r
  unfold ref09_Meet_2 at h
  refine SemN.succ ?_
  refine Sem.seq ?_
  let p1 : Option Blk := mk 1 3 (c4.map cdI.enc)
  let p2 : Option Blk := mk 1 31 (c1.map (cdL 1 cdI).enc)
  let p3 : Nat × AV := (8, .v (.int .i64 c5))
  let p4 : Nat × AV := (7, hd 1 (c4.map cdI.enc))
  let p5 : Nat × AV := (6, .v (.int .i64 c2))
  let p6 : Nat × AV := (5, hd 0 (c1.map (cdL 1 cdI).enc))
  let p7 : Nat × AV := (1, .sl 1 (x1.map (cdL 1 (cdL 1 cdI)).enc))
  let p8 : Nat × AV := (0, .v (.int .i64 x0))
  refine Sem.sq he [p8, p7, p6, p5, p4, p3, (17, .v (.bool (decide (c5 < x0))))] [p2, p1] ?_
  refine Sem.cond (b := (decide (c5 < x0))) kr (fun hb6 => ?_) (fun hb6 => ?_)
  ·rw [if_pos hb6] at h
   refine Sem.skip ?_
   refine Sem.seq ?_
   refine Sem.block ?_
   refine Sem.sq he [p8, p7, p6, p5, p4, p3, (9, .v (.int .i64 0))] [p2, p1] ?_
   refine Sem.seq ?_
   refine Sem.sq he [p8, p7, p6, p5, p4, p3, (9, .v (.int .i64 0)), (22, .v (.bool (c2 != c5)))] [p2, p1] ?_
   obtain ⟨r10, hr10, h⟩ := Option.bind_eq_some_iff.1 h
   refine Sem.cut (ref09_Meet_j3_ok x0 x1 c1 c2 c4 c5 _ hr10) ?_
   by_cases hk11 : (capOk 8 (c4.length + 1)) = true
   case neg => rw [if_neg hk11] at h; cases h
   rw [if_pos hk11] at h
   let p9 : Option Blk := mk 1 3 ((c4 ++ [r10]).map cdI.enc)
   let p10 : Nat × AV := (7, hd 1 ((c4 ++ [r10]).map cdI.enc))
   refine Sem.runS (s1 := ⟨Fr 37 [p8, p7, p6, p5, p10, p3], [p2, p9]⟩) ?_ ?_
   ·refine RunS.segF (n := 37) he 3 [p8, p7, p6, p5, p3, (28, hd 1 (c4.map cdI.enc)), (30, hd 2 ([r10].map cdI.enc))] [p2, p1, mk 1 3 ([r10].map cdI.enc)] kr ?_
    refine RunS.one he 0 rfl (op_w (wantedA_none rfl) rfl kr kr (w_append (a := hd 1 (c4.map cdI.enc)) (b := hd 2 ([r10].map cdI.enc)) kr kr (append_B (c := cdI) (xs := c4) (vs := [r10]) (k := 1) (bytes := 8) (el := 3) kr kr (elems_hd (t := 3) kr) (List.cons_ne_nil _ _) kr hk11))) ?_
    refine RunS.segF (n := 37) he 1 [p8, p7, p6, p5, (7, hd 3 ((c4 ++ [r10]).map cdI.enc)), p3] [p2, none, mk 1 3 ([r10].map cdI.enc), p9] kr ?_
    exact RunS.done rfl (Wk.sel2 [0, 3] kr kr kr ⟨⟨_, rfl, bu_mk⟩, ⟨_, rfl, bu_mk⟩, trivial⟩ ⟨lu kr kr, lu kr kr, lu_hd (b' := 0) kr kr, lu kr kr, lu_hd (b' := 3) kr kr, lu kr kr, trivial⟩)
   let p11 : Nat × AV := (8, .v (.int .i64 (wr .i64 (c5 + 1))))
   refine Sem.rg he [p8, p7, p6, p5, p10, p11] [p2, p9] ?_
   exact SemN.wk (s1 := ⟨Fr 37 [p8, p7, p6, p5, p10, p11], [p2, p9]⟩) (Wk.sel2 [0, 1] kr kr kr ⟨⟨_, rfl, bu_mk⟩, ⟨_, rfl, bu_mk⟩, trivial⟩ ⟨lu kr kr, lu kr kr, lu_hd (b' := 0) kr kr, lu kr kr, lu_hd (b' := 1) kr kr, lu kr kr, trivial⟩) (ih (c4 ++ [r10]) (wr .i64 (c5 + 1)) h)
  ·rw [if_f hb6] at h
   refine Sem.exit ?_
   have hq := Option.some.inj h; subst hq
   exact ⟨rfl, (Wk.sel2 [0, 1] kr kr kr ⟨⟨_, rfl, bu_mk⟩, ⟨_, rfl, bu_mk⟩, trivial⟩ ⟨lu kr kr, lu kr kr, lu_hd (b' := 0) kr kr, lu kr kr, lu_hd (b' := 1) kr kr, trivial⟩)⟩
set_option maxHeartbeats 4000000 in
set_option maxRecDepth 100000 in
theorem ref09_Meet_1_ok (x0 : Int) (x1 : (List (List (List Int)))) : ∀ (f : Nat) (c1 : (List (List Int))) (c2 : Int) (r : ((List (List Int)))), ref09_Meet_1 x0 x1 f c1 c2 = some r → SemN e_ref09_Meet ⟨none, false⟩ (pc cb_ref09_Meet [1, 1, 0, 1, 0, 0]) f ⟨Fr 37 [(0, .v (.int .i64 x0)), (1, .sl 1 (x1.map (cdL 1 (cdL 1 cdI)).enc)), (5, hd 0 (c1.map (cdL 1 cdI).enc)), (6, .v (.int .i64 c2))], [mk 1 31 (c1.map (cdL 1 cdI).enc)]⟩ (fun e s => e = (.exit 0) ∧ Wk e_ref09_Meet s ⟨Fr 37 [(5, hd 0 (r.map (cdL 1 cdI).enc))], [mk 1 31 (r.map (cdL 1 cdI).enc)]⟩) := by
 have he := e_ref09_Meet_ok
 intro f
 induction f with
 | zero => intro c1 c2 r h; cases h
 | succ f ih0 =>
  intro c1 c2 r h
  have ih := fun (c1 : (List (List Int))) (c2 : Int) => ih0 c1 c2 r
  unfold ref09_Meet_1 at h
  refine SemN.succ ?_
  refine Sem.seq ?_
  let p1 : Option Blk := mk 1 31 (c1.map (cdL 1 cdI).enc)
  let p2 : Nat × AV := (6, .v (.int .i64 c2))
  let p3 : Nat × AV := (5, hd 0 (c1.map (cdL 1 cdI).enc))
  let p4 : Nat × AV := (1, .sl 1 (x1.map (cdL 1 (cdL 1 cdI)).enc))
  let p5 : Nat × AV := (0, .v (.int .i64 x0))
  refine Sem.sq he [p5, p4, p3, p2, (12, .v (.bool (decide (c2 < x0))))] [p1] ?_
  refine Sem.cond (b := (decide (c2 < x0))) kr (fun hb3 => ?_) (fun hb3 => ?_)
  ·rw [if_pos hb3] at h
   refine Sem.skip ?_
   refine Sem.seq ?_
   refine Sem.block ?_
   refine Sem.sq he [p5, p4, p3, p2, (7, .e0)] [p1] ?_
   refine Sem.seq ?_
   let p6 : Nat × AV := (8, .v (.int .i64 0))
   refine Sem.sq he [p5, p4, p3, p2, (7, .e0), p6] [p1] ?_
   refine Sem.block ?_
   obtain ⟨r13, hr13, h⟩ := Option.bind_eq_some_iff.1 h
   refine Sem.loop (n := 100000) ?_
   refine Sem.cutN (SemN.wk (s1 := ⟨Fr 37 [p5, p4, p3, p2, (7, hd 1 ([].map cdI.enc)), p6], [p1, mk 1 3 ([].map cdI.enc)]⟩) (Wk.trans (s1 := ⟨Fr 37 [p5, p4, p3, p2, (7, hd 1 ([].map cdI.enc)), p6], [p1, mk 1 3 ([].map cdI.enc)]⟩) Wk.none (Wk.sel2 [0, 1] kr kr kr ⟨⟨_, rfl, bu_mk⟩, ⟨_, rfl, bu_none⟩, trivial⟩ ⟨lu kr kr, lu kr kr, lu_hd (b' := 0) kr kr, lu kr kr, lu kr kr, lu kr kr, trivial⟩)) (ref09_Meet_2_ok x0 x1 c1 c2 _ [] 0 _ hr13)) ?_
   by_cases hk14 : (capOk 24 (c1.length + 1)) = true
   case neg => rw [if_neg hk14] at h; cases h
   rw [if_pos hk14] at h
   let p7 : Option Blk := mk 1 31 ((c1 ++ [r13]).map (cdL 1 cdI).enc)
   let p8 : Nat × AV := (5, hd 0 ((c1 ++ [r13]).map (cdL 1 cdI).enc))
   refine Sem.runS (s1 := ⟨Fr 37 [p5, p4, p8, p2], [p7]⟩) ?_ ?_
   ·let p9 : Nat × AV := (32, hd 0 (c1.map (cdL 1 cdI).enc))
    refine RunS.segF (n := 37) he 2 [p5, p4, p2, p9, (33, hd 1 (r13.map cdI.enc))] [p1, mk 1 3 (r13.map cdI.enc)] kr ?_
    refine RunS.wk (s1 := ⟨Fr 37 [p5, p4, p2, p9, (33, .sl 1 (r13.map cdI.enc))], [p1, none]⟩) (Wk.frzG 1 (.inl kr) ⟨.inr (.inl rfl), .inl rfl, trivial⟩ ⟨⟨.v (.int .i64 x0), kr, .inl rfl⟩, ⟨.sl 1 (x1.map (cdL 1 (cdL 1 cdI)).enc), kr, .inl rfl⟩, ⟨.v (.int .i64 c2), kr, .inl rfl⟩, ⟨hd 0 (c1.map (cdL 1 cdI).enc), kr, .inl rfl⟩, ⟨hd 1 (r13.map cdI.enc), kr, fz_hd (t := 3) kr enc_ok⟩, trivial⟩) ?_
    refine RunS.segF (n := 37) he 1 [p5, p4, p2, p9, (34, hd 2 ([r13].map (cdL 1 cdI).enc))] [p1, none, mk 1 31 ([r13].map (cdL 1 cdI).enc)] kr ?_
    refine RunS.one he 0 rfl (op_w (wantedA_none rfl) rfl kr kr (w_append (a := hd 0 (c1.map (cdL 1 cdI).enc)) (b := hd 2 ([r13].map (cdL 1 cdI).enc)) kr kr (append_B (c := (cdL 1 cdI)) (xs := c1) (vs := [r13]) (k := 1) (bytes := 24) (el := 31) kr kr (elems_hd (t := 31) kr) (List.cons_ne_nil _ _) kr hk14))) ?_
    refine RunS.segF (n := 37) he 1 [p5, p4, (5, hd 3 ((c1 ++ [r13]).map (cdL 1 cdI).enc)), p2] [none, none, mk 1 31 ([r13].map (cdL 1 cdI).enc), p7] kr ?_
    exact RunS.done rfl (Wk.sel2 [3] kr kr kr ⟨⟨_, rfl, bu_mk⟩, trivial⟩ ⟨lu kr kr, lu kr kr, lu_hd (b' := 3) kr kr, lu kr kr, trivial⟩)
   let p10 : Nat × AV := (6, .v (.int .i64 (wr .i64 (c2 + 1))))
   refine Sem.rg he [p5, p4, p8, p10] [p7] ?_
   exact SemN.wk (s1 := ⟨Fr 37 [p5, p4, p8, p10], [p7]⟩) (Wk.sel2 [0] kr kr kr ⟨⟨_, rfl, bu_mk⟩, trivial⟩ ⟨lu kr kr, lu kr kr, lu_hd (b' := 0) kr kr, lu kr kr, trivial⟩) (ih (c1 ++ [r13]) (wr .i64 (c2 + 1)) h)
  ·rw [if_f hb3] at h
   refine Sem.exit ?_
   have hq := Option.some.inj h; subst hq
   exact ⟨rfl, (Wk.sel2 [0] kr kr kr ⟨⟨_, rfl, bu_mk⟩, trivial⟩ ⟨lu_hd (b' := 0) kr kr, trivial⟩)⟩
set_option maxHeartbeats 4000000 in
set_option maxRecDepth 100000 in
theorem ref09_Meet_sem (x0 : Int) (x1 : (List (List (List Int)))) (r : (List (List Int))) (h : ref09_Meet x0 x1 = some r) : Sem e_ref09_Meet ⟨none, false⟩ cb_ref09_Meet ⟨Fr 37 (pairs0 0 (cs_ref09_Meet.enc (x0, x1, ()))), []⟩ fun e s' => (e = .normal ∨ e = .ret) ∧ ∃ xs, resA e_ref09_Meet.P s'.fr s'.hp Tryd.f130.results.toList = some xs ∧ retA xs = er_ref09_Meet r := by
 have he := e_ref09_Meet_ok
 unfold ref09_Meet at h
 let p1 : Nat × AV := (1, .sl 1 (x1.map (cdL 1 (cdL 1 cdI)).enc))
 let p2 : Nat × AV := (0, .v (.int .i64 x0))
 refine Sem.wkQ (Sem.wk (s1 := ⟨Fr 37 [p2, p1], []⟩) (Wk.fr kr) ?_)
 refine Sem.sq he [p2, p1] [] ?_
 refine Sem.sq he [p2, p1, (5, .e0)] [] ?_
 refine Sem.seq ?_
 let p3 : Nat × AV := (6, .v (.int .i64 0))
 refine Sem.sq he [p2, p1, (5, .e0), p3] [] ?_
 refine Sem.block ?_
 obtain ⟨r16, hr16, h⟩ := Option.bind_eq_some_iff.1 h
 refine Sem.loop (n := 100000) ?_
 let p4 : Option Blk := mk 1 31 ([].map (cdL 1 cdI).enc)
 let p5 : Nat × AV := (5, hd 0 ([].map (cdL 1 cdI).enc))
 refine Sem.cutN (SemN.wk (s1 := ⟨Fr 37 [p2, p1, p5, p3], [p4]⟩) (Wk.trans (s1 := ⟨Fr 37 [p2, p1, p5, p3], [p4]⟩) Wk.none (Wk.sel2 [0] kr kr kr ⟨⟨_, rfl, bu_none⟩, trivial⟩ ⟨lu kr kr, lu kr kr, lu kr kr, lu kr kr, trivial⟩)) (ref09_Meet_1_ok x0 x1 _ [] 0 _ hr16)) ?_
 refine Sem.sq he [(4, hd 0 (r16.map (cdL 1 cdI).enc))] [mk 1 31 (r16.map (cdL 1 cdI).enc)] ?_
 refine Sem.ret ?_
 have hq := Option.some.inj h; subst hq
 let p6 : Nat × AV := (4, .sl 1 (r16.map (cdL 1 cdI).enc))
 exact ⟨⟨Fr 37 [p6], []⟩, (Wk.trans (s1 := ⟨Fr 37 [p6], [none]⟩) (Wk.frzG 0 (.inl kr) ⟨.inl rfl, trivial⟩ ⟨⟨hd 0 (r16.map (cdL 1 cdI).enc), kr, fz_hd (t := 31) kr enc_ok⟩, trivial⟩) (Wk.sel2 [] kr kr kr trivial ⟨lu kr kr, trivial⟩)), .inr rfl, [.sl 1 (r16.map (cdL 1 cdI).enc)], kr, kr⟩
def t_ref09_Meet : List AV → Option AV := told cs_ref09_Meet (fun a => ref09_Meet a.1 a.2.1) er_ref09_Meet
theorem x_ref09_Meet : XOk 130 t_ref09_Meet := by
 refine EnvOk.x (E := e_ref09_Meet) (contract_ok e_ref09_Meet_ok (fn := Tryd.f130) (c := cb_ref09_Meet) ?h1 ?h2 ⟨Tryd.call130⟩ cs_ref09_Meet (fun a => ref09_Meet a.1 a.2.1) er_ref09_Meet (fun a => (by show 2 ≤ 37; decide)) ?h3 ?h4) rfl rfl
 case h1 => kernel_rfl
 case h2 => kernel_rfl
 case h3 => intro b; kernel_rfl
 case h4 => exact fun a b h => ref09_Meet_sem a.1 a.2.1 b h
/- trestle/trestleref09.Strain -/
noncomputable def e_ref09_Strain : Env := E0
theorem e_ref09_Strain_ok : EnvOk e_ref09_Strain := E0_ok
noncomputable def cb_ref09_Strain : Code := codeOf Tryd.f129
def ref09_Strain_2 (x0 : (List (List Int))) (c2 : Int) : Nat → Int → Int → Option ((Int))
 | 0, _, _ => none
 | f + 1, c4, c5 =>
  if (decide (c5 < c2)) = true then
  (idx x0 c2).bind fun v7 =>
  (idx v7 c5).bind fun v8 =>
  (idx x0 c2).bind fun v9 =>
  (idx v9 c5).bind fun v10 =>
  ref09_Strain_2 x0 c2 f (wr .i64 (c4 + (wr .i64 (v8 * v10)))) (wr .i64 (c5 + 1))
  else
  some c4
def ref09_Strain_1 (x0 : (List (List Int))) : Nat → Int → Int → Option ((Int))
 | 0, _, _ => none
 | f + 1, c1, c2 =>
  if (decide (c2 < (x0.length : Int))) = true then
  (ref09_Strain_2 x0 c2 100000 c1 0).bind fun r12 =>
  ref09_Strain_1 x0 f r12 (wr .i64 (c2 + 1))
  else
  some c1
def ref09_Strain (x0 : (List (List Int))) : Option (Int) :=
 (ref09_Strain_1 x0 100000 0 0).bind fun r14 =>
 some r14
def cs_ref09_Strain : Cs ((List (List Int)) × Unit) := (csC (cdL 1 (cdL 1 cdI)) csN)
def er_ref09_Strain (r : Int) : AV := cdI.enc r
set_option maxHeartbeats 4000000 in
set_option maxRecDepth 100000 in
theorem ref09_Strain_2_ok (x0 : (List (List Int))) (c2 : Int) : ∀ (f : Nat) (c4 : Int) (c5 : Int) (r : (Int)), ref09_Strain_2 x0 c2 f c4 c5 = some r → SemN e_ref09_Strain ⟨none, false⟩ (pc cb_ref09_Strain [1, 1, 0, 1, 0, 0, 1, 0, 0, 1, 0, 0]) f ⟨Fr 35 [(0, .sl 1 (x0.map (cdL 1 cdI).enc)), (3, .v (.int .i64 c4)), (4, .v (.int .i64 c2)), (5, .v (.int .i64 c5))], []⟩ (fun e s => e = (.exit 2) ∧ Wk e_ref09_Strain s ⟨Fr 35 [(0, .sl 1 (x0.map (cdL 1 cdI).enc)), (3, .v (.int .i64 r)), (4, .v (.int .i64 c2))], []⟩) := by
 have he := e_ref09_Strain_ok
 intro f
 induction f with
 | zero => intro c4 c5 r h; cases h
 | succ f ih0 =>
  intro c4 c5 r h
  have ih := fun (c4 : Int) (c5 : Int) => ih0 c4 c5 r
  unfold ref09_Strain_2 at h
  refine SemN.succ ?_
  refine Sem.seq ?_
  let p1 : Nat × AV := (5, .v (.int .i64 c5))
  let p2 : Nat × AV := (4, .v (.int .i64 c2))
  let p3 : Nat × AV := (0, .sl 1 (x0.map (cdL 1 cdI).enc))
  refine Sem.sq he [p3, (3, .v (.int .i64 c4)), p2, p1, (14, .v (.bool (decide (c5 < c2))))] [] ?_
  refine Sem.cond (b := (decide (c5 < c2))) kr (fun hb6 => ?_) (fun hb6 => ?_)
  ·rw [if_pos hb6] at h
   refine Sem.skip ?_
   refine Sem.seq ?_
   refine Sem.block ?_
   obtain ⟨v7, hv7, h⟩ := Option.bind_eq_some_iff.1 h
   obtain ⟨v8, hv8, h⟩ := Option.bind_eq_some_iff.1 h
   obtain ⟨v9, hv9, h⟩ := Option.bind_eq_some_iff.1 h
   obtain ⟨v10, hv10, h⟩ := Option.bind_eq_some_iff.1 h
   let p4 : Nat × AV := (3, .v (.int .i64 (wr .i64 (c4 + (wr .i64 (v8 * v10))))))
   refine Sem.runDS he (s1 := ⟨Fr 35 [p3, p4, p2, p1], []⟩) kr ?_ ?_
   ·let p5 : Nat × AV := (17, .v (.int .i64 c4))
    refine RunDS.segF (n := 35) he 3 [p3, p2, p1, p5, (18, .sl 1 (x0.map (cdL 1 cdI).enc)), (19, .v (.int .i64 c2))] [] kr kr ?_
    refine RunDS.one he rfl kr (opd_q kr (wantedA_none rfl) rfl (q_indexAddr (a := .sl 1 (x0.map (cdL 1 cdI).enc)) (b := .v (.int .i64 c2)) kr kr (ix_sl (e := (cdL 1 cdI).enc) (el := 31) (k := 1) (ki := .i64) kr kr hv7)) kr) ?_
    refine RunDS.segF (n := 35) he 2 [p3, p2, p1, p5, (21, .sl 1 (v7.map cdI.enc)), (22, .v (.int .i64 c5))] [] kr kr ?_
    refine RunDS.one he rfl kr (opd_q kr (wantedA_none rfl) rfl (q_indexAddr (a := .sl 1 (v7.map cdI.enc)) (b := .v (.int .i64 c5)) kr kr (ix_sl (e := cdI.enc) (el := 3) (k := 1) (ki := .i64) kr kr hv8)) kr) ?_
    refine RunDS.segF (n := 35) he 3 [p3, p2, p1, p5, (24, .v (.int .i64 v8)), (25, .sl 1 (x0.map (cdL 1 cdI).enc)), (26, .v (.int .i64 c2))] [] kr kr ?_
    refine RunDS.one he rfl kr (opd_q kr (wantedA_none rfl) rfl (q_indexAddr (a := .sl 1 (x0.map (cdL 1 cdI).enc)) (b := .v (.int .i64 c2)) kr kr (ix_sl (e := (cdL 1 cdI).enc) (el := 31) (k := 1) (ki := .i64) kr kr hv9)) kr) ?_
    refine RunDS.segF (n := 35) he 2 [p3, p2, p1, p5, (24, .v (.int .i64 v8)), (28, .sl 1 (v9.map cdI.enc)), (29, .v (.int .i64 c5))] [] kr kr ?_
    refine RunDS.one he rfl kr (opd_q kr (wantedA_none rfl) rfl (q_indexAddr (a := .sl 1 (v9.map cdI.enc)) (b := .v (.int .i64 c5)) kr kr (ix_sl (e := cdI.enc) (el := 3) (k := 1) (ki := .i64) kr kr hv10)) kr) ?_
    refine RunDS.segF (n := 35) he 4 [p3, p4, p2, p1] [] kr kr ?_
    exact RunDS.done rfl (Wk.fr kr)
   let p6 : Nat × AV := (5, .v (.int .i64 (wr .i64 (c5 + 1))))
   refine Sem.rg he [p3, p4, p2, p6] [] ?_
   exact SemN.wk (s1 := ⟨Fr 35 [p3, p4, p2, p6], []⟩) (Wk.fr kr) (ih (wr .i64 (c4 + (wr .i64 (v8 * v10)))) (wr .i64 (c5 + 1)) h)
  ·rw [if_f hb6] at h
   refine Sem.exit ?_
   have hq := Option.some.inj h; subst hq
   exact ⟨rfl, (Wk.fr kr)⟩
set_option maxHeartbeats 4000000 in
set_option maxRecDepth 100000 in
theorem ref09_Strain_1_ok (x0 : (List (List Int))) : ∀ (f : Nat) (c1 : Int) (c2 : Int) (r : (Int)), ref09_Strain_1 x0 f c1 c2 = some r → SemN e_ref09_Strain ⟨none, false⟩ (pc cb_ref09_Strain [1, 1, 0, 1, 0, 0]) f ⟨Fr 35 [(0, .sl 1 (x0.map (cdL 1 cdI).enc)), (3, .v (.int .i64 c1)), (4, .v (.int .i64 c2))], []⟩ (fun e s => e = (.exit 0) ∧ Wk e_ref09_Strain s ⟨Fr 35 [(3, .v (.int .i64 r))], []⟩) := by
 have he := e_ref09_Strain_ok
 intro f
 induction f with
 | zero => intro c1 c2 r h; cases h
 | succ f ih0 =>
  intro c1 c2 r h
  have ih := fun (c1 : Int) (c2 : Int) => ih0 c1 c2 r
  unfold ref09_Strain_1 at h
  refine SemN.succ ?_
  refine Sem.seq ?_
  refine Sem.seq ?_
  let p1 : Nat × AV := (4, .v (.int .i64 c2))
  let p2 : Nat × AV := (3, .v (.int .i64 c1))
  let p3 : Nat × AV := (0, .sl 1 (x0.map (cdL 1 cdI).enc))
  refine Sem.runS (s1 := ⟨Fr 35 [p3, p2, p1, (9, .v (.bool (decide (c2 < (x0.length : Int)))))], []⟩) ?_ ?_
  ·refine RunS.segF (n := 35) he 2 [p3, p2, p1, (6, .v (.int .i64 c2)), (7, .sl 1 (x0.map (cdL 1 cdI).enc))] [] kr ?_
   refine RunS.one he 0 rfl (op_q (wantedA_none rfl) rfl (q_len (a := .sl 1 (x0.map (cdL 1 cdI).enc)) kr (len_sl (el := 31) kr))) ?_
   exact RunS.last he
  refine Sem.cond (b := (decide (c2 < (x0.length : Int)))) kr (fun hb3 => ?_) (fun hb3 => ?_)
  ·rw [if_pos hb3] at h
   refine Sem.skip ?_
   refine Sem.seq ?_
   refine Sem.block ?_
   refine Sem.sq he [p3, p2, p1, (5, .v (.int .i64 0))] [] ?_
   refine Sem.block ?_
   obtain ⟨r12, hr12, h⟩ := Option.bind_eq_some_iff.1 h
   refine Sem.loop (n := 100000) ?_
   refine Sem.cutN (SemN.wk (s1 := ⟨Fr 35 [p3, p2, p1, (5, .v (.int .i64 0))], []⟩) (Wk.fr kr) (ref09_Strain_2_ok x0 c2 _ c1 0 _ hr12)) ?_
   let p4 : Nat × AV := (4, .v (.int .i64 (wr .i64 (c2 + 1))))
   refine Sem.rg he [p3, (3, .v (.int .i64 r12)), p4] [] ?_
   exact SemN.wk (s1 := ⟨Fr 35 [p3, (3, .v (.int .i64 r12)), p4], []⟩) (Wk.fr kr) (ih r12 (wr .i64 (c2 + 1)) h)
  ·rw [if_f hb3] at h
   refine Sem.exit ?_
   have hq := Option.some.inj h; subst hq
   exact ⟨rfl, (Wk.fr kr)⟩
set_option maxHeartbeats 4000000 in
set_option maxRecDepth 100000 in
theorem ref09_Strain_sem (x0 : (List (List Int))) (r : Int) (h : ref09_Strain x0 = some r) : Sem e_ref09_Strain ⟨none, false⟩ cb_ref09_Strain ⟨Fr 35 (pairs0 0 (cs_ref09_Strain.enc (x0, ()))), []⟩ fun e s' => (e = .normal ∨ e = .ret) ∧ ∃ xs, resA e_ref09_Strain.P s'.fr s'.hp Tryd.f129.results.toList = some xs ∧ retA xs = er_ref09_Strain r := by
 have he := e_ref09_Strain_ok
 unfold ref09_Strain at h
 let p1 : Nat × AV := (0, .sl 1 (x0.map (cdL 1 cdI).enc))
 refine Sem.wkQ (Sem.wk (s1 := ⟨Fr 35 [p1], []⟩) (Wk.fr kr) ?_)
 refine Sem.sq he [p1] [] ?_
 let p2 : Nat × AV := (3, .v (.int .i64 0))
 refine Sem.sq he [p1, p2] [] ?_
 refine Sem.seq ?_
 refine Sem.sq he [p1, p2, (4, .v (.int .i64 0))] [] ?_
 refine Sem.block ?_
 obtain ⟨r14, hr14, h⟩ := Option.bind_eq_some_iff.1 h
 refine Sem.loop (n := 100000) ?_
 refine Sem.cutN (SemN.wk (s1 := ⟨Fr 35 [p1, p2, (4, .v (.int .i64 0))], []⟩) (Wk.fr kr) (ref09_Strain_1_ok x0 _ 0 0 _ hr14)) ?_
 refine Sem.sq he [(2, .v (.int .i64 r14))] [] ?_
 refine Sem.ret ?_
 have hq := Option.some.inj h; subst hq
 exact ⟨⟨Fr 35 [(2, .v (.int .i64 r14))], []⟩, (Wk.fr kr), .inr rfl, [.v (.int .i64 r14)], kr, kr⟩
def t_ref09_Strain : List AV → Option AV := told cs_ref09_Strain (fun a => ref09_Strain a.1) er_ref09_Strain
theorem x_ref09_Strain : XOk 129 t_ref09_Strain := by
 refine EnvOk.x (E := e_ref09_Strain) (contract_ok e_ref09_Strain_ok (fn := Tryd.f129) (c := cb_ref09_Strain) ?h1 ?h2 ⟨Tryd.call129⟩ cs_ref09_Strain (fun a => ref09_Strain a.1) er_ref09_Strain (fun a => (by show 1 ≤ 35; decide)) ?h3 ?h4) rfl rfl
 case h1 => kernel_rfl
 case h2 => kernel_rfl
 case h3 => intro b; kernel_rfl
 case h4 => exact fun a b h => ref09_Strain_sem a.1 b h
/- trestle/trestlekit.CopyInts -/
noncomputable def e_kit_CopyInts_d : Env := E0
theorem e_kit_CopyInts_d_ok : EnvOk e_kit_CopyInts_d := E0_ok
noncomputable def cb_kit_CopyInts_d : Code := codeOf Tryd.f132
def kit_CopyInts_d_1 (x0 : (List Int)) : Nat → Int → (List Int) → Option (((List Int)))
 | 0, _, _ => none
 | f + 1, c2, c4 =>
  if (decide (c2 < (x0.length : Int))) = true then
  (idx x0 c2).bind fun v6 =>
  if (capOk 8 (c4.length + ([v6] : List Int).length)) = true then
  kit_CopyInts_d_1 x0 f (wr .i64 (c2 + 1)) (c4 ++ ([v6] : List Int))
  else none
  else
  some c4
def kit_CopyInts_d (x0 : (List Int)) : Option ((List Int)) :=
 (kit_CopyInts_d_1 x0 100000 0 ([] : (List Int))).bind fun r19 =>
 some r19
set_option maxHeartbeats 4000000 in
set_option maxRecDepth 100000 in
theorem kit_CopyInts_d_1_ok {L : List Asn} (x0 : (List Int)) : ∀ (f : Nat) (c2 : Int) (c4 : (List Int)) (r : ((List Int))), kit_CopyInts_d_1 x0 f c2 c4 = some r → ∀ (e3 : AV) (hp : Hp), T hp ((own_ (ocL 1 3 (ocV cdI)) e3 c4) :: L) → SemYN e_kit_CopyInts_d ⟨none, false⟩ (pc cb_kit_CopyInts_d [1, 1, 0, 1, 0, 0]) f ⟨Fr 19 [(0, .sl 1 (x0.map cdI.enc)), (3, e3), (4, .v (.int .i64 c2))], hp⟩ (fun e s => e = (.exit 0) ∧ ∃ s2, (∃ (e17 : AV) (h' : Hp), T h' ((own_ (ocL 1 3 (ocV cdI)) e17 r) :: L) ∧ s2 = ⟨Fr 19 [(3, e17)], h'⟩) ∧ WkY e_kit_CopyInts_d s s2) := by
 have he := e_kit_CopyInts_d_ok
 intro f
 induction f with
 | zero => intro c2 c4 r h; cases h
 | succ f ih0 =>
  intro c2 c4 r h e3 hp hT
  unfold kit_CopyInts_d_1 at h
  refine SemYN.succ ?_
  refine SemY.seq ?_
  refine SemY.seq ?_
  refine SemY.regionL ?_
  refine RunL.sg he 2 ?_
  refine RunL.one he 0 rfl (op_q (wantedA_none rfl) rfl (q_len (a := .sl 1 (x0.map cdI.enc)) kr (len_sl (el := 3) kr))) ?_
  refine RunL.fin he [(0, .sl 1 (x0.map cdI.enc)), (3, e3), (4, .v (.int .i64 c2)), (8, .v (.bool (decide (c2 < (x0.length : Int)))))] ?_
  refine SemY.cond (b := (decide (c2 < (x0.length : Int)))) kr (fun hb5 => ?_) (fun hb5 => ?_)
  ·rw [if_pos hb5] at h
   refine SemY.skip ?_
   refine SemY.seq ?_
   refine SemY.block ?_
   refine SemY.regionL ?_
   refine RunL.sg he 3 ?_
   obtain ⟨v6, hv6, h⟩ := Option.bind_eq_some_iff.1 h
   refine RunL.one he 0 rfl (op_q (wantedA_none rfl) rfl (q_indexAddr (a := .sl 1 (x0.map cdI.enc)) (b := .v (.int .i64 c2)) kr kr (ix_sl (e := cdI.enc) (el := 3) (k := 1) (ki := .i64) kr kr hv6))) ?_
   refine RunL.sg he 1 ?_
   obtain ⟨e10, hp7, hb8, hT9⟩ := lit_ownB (P := Tryd.prog) (bytes := 8) (k := 1) (t := 3) (ty := 31) (xs := ([v6] : List Int)) (n := 1) (fit_V (k := 1) (fun _ => ⟨rfl, rfl, rfl⟩)) (els_leaf (c := cdI) (xs := ([v6] : List Int)) hT) rfl kr kr kr
   refine RunL.one he 0 rfl (op_n (wantedA_none rfl) rfl kr (n_lit (xs := enumA 0 [.v (.int .i64 v6)]) kr hb8)) ?_
   by_cases hk15 : (capOk 8 (c4.length + ([v6] : List Int).length)) = true
   case neg => rw [if_neg hk15] at h; cases h
   rw [if_pos hk15] at h
   have hT16 := ((hT9.front 0 rfl).front 1 rfl)
   obtain ⟨e14, hp11, hb12, hT13⟩ := app_ownB (P := Tryd.prog) (ty := 31) (ty2 := 31) (bytes := 8) hT16 kr kr hk15
   refine RunL.one he 0 rfl (op_w (wantedA_none rfl) rfl kr kr (w_append (a := e3) (b := e10) kr kr hb12)) ?_
   refine RunL.fin he [(0, .sl 1 (x0.map cdI.enc)), (3, e14), (4, .v (.int .i64 c2))] ?_
   refine SemY.regionL ?_
   refine RunL.sg he 3 ?_
   refine RunL.done rfl ?_
   exact SemYN.wk (WkY.fr kr) (ih0 (wr .i64 (c2 + 1)) (c4 ++ ([v6] : List Int)) _ h e14 hp11 hT13)
  ·rw [if_f hb5] at h
   refine SemY.exit ?_
   have hq := Option.some.inj h; subst hq
   exact ⟨rfl, _, ⟨e3, hp, hT, rfl⟩, (WkY.fr kr)⟩
set_option maxHeartbeats 4000000 in
set_option maxRecDepth 100000 in
theorem kit_CopyInts_d_sem {L : List Asn} {hp : Hp} (x0 : (List Int)) (r : (List Int)) (h : kit_CopyInts_d x0 = some r) (hT : T hp (L)) : SemY e_kit_CopyInts_d ⟨none, false⟩ cb_kit_CopyInts_d ⟨Fr 19 (pairs0 0 [.sl 1 (x0.map cdI.enc)]), hp⟩ fun x s' => (x = .normal ∨ x = .ret) ∧ ∃ ys, resA e_kit_CopyInts_d.P s'.fr s'.hp Tryd.f132.results.toList = some ys ∧ (fun v h' => ∃ (z0 : AV), v = z0 ∧ T h' ((own_ (ocL 1 3 (ocV cdI)) z0 r) :: L)) (retA ys) s'.hp := by
 have he := e_kit_CopyInts_d_ok
 unfold kit_CopyInts_d at h
 let p1 : Nat × AV := (0, .sl 1 (x0.map cdI.enc))
 refine SemY.wkQ (SemY.wk (s1 := ⟨Fr 19 [p1], hp⟩) (WkY.fr kr) ?_)
 refine SemY.sq he [p1] ?_
 refine SemY.sq he [p1, (3, .e0)] ?_
 refine SemY.seq ?_
 refine SemY.sq he [p1, (3, .e0), (4, .v (.int .i64 0))] ?_
 refine SemY.block ?_
 have hT1 := (T.e0 (k := 1) (ty := 3) (o := (ocV cdI)) hT)
 refine SemY.loop (n := 100000) ?_
 obtain ⟨r19, hr19, h⟩ := Option.bind_eq_some_iff.1 h
 refine SemYN.cutT (SemYN.wk (WkY.fr kr) (kit_CopyInts_d_1_ok x0 _ 0 ([] : (List Int)) _ hr19 .e0 hp hT1)) ?_
 rintro _ ⟨e20, hp21, hT22, rfl⟩
 refine SemY.sq he [(2, e20)] ?_
 refine SemY.ret ?_
 have hq := Option.some.inj h; subst hq
 exact ⟨⟨Fr 19 [(2, e20)], hp21⟩, (WkY.fr kr), .inr rfl, [e20], kr, ⟨e20, rfl, hT22⟩⟩
/- trestle/trestlekit.CopyLists -/
noncomputable def e_kit_CopyLists_d : Env := E0
theorem e_kit_CopyLists_d_ok : EnvOk e_kit_CopyLists_d := E0_ok
noncomputable def cb_kit_CopyLists_d : Code := codeOf Tryd.f113
def kit_CopyLists_d_1 (x0 : (List (List Int))) : Nat → Int → (List (List Int)) → Option (((List (List Int))))
 | 0, _, _ => none
 | f + 1, c2, c4 =>
  if (decide (c2 < (x0.length : Int))) = true then
  (idx x0 c2).bind fun v6 =>
  (kit_CopyInts_d v6).bind fun v7 =>
  if (capOk 24 (c4.length + ([v7] : List (List Int)).length)) = true then
  kit_CopyLists_d_1 x0 f (wr .i64 (c2 + 1)) (c4 ++ ([v7] : List (List Int)))
  else none
  else
  some c4
def kit_CopyLists_d (x0 : (List (List Int))) : Option ((List (List Int))) :=
 (kit_CopyLists_d_1 x0 100000 0 ([] : (List (List Int)))).bind fun r24 =>
 some r24
set_option maxHeartbeats 4000000 in
set_option maxRecDepth 100000 in
theorem kit_CopyLists_d_1_ok {L : List Asn} (x0 : (List (List Int))) : ∀ (f : Nat) (c2 : Int) (c4 : (List (List Int))) (r : ((List (List Int)))), kit_CopyLists_d_1 x0 f c2 c4 = some r → ∀ (e3 : AV) (hp : Hp), T hp ((own_ (ocL 1 31 (ocL 1 3 (ocV cdI))) e3 c4) :: L) → SemYN e_kit_CopyLists_d ⟨none, false⟩ (pc cb_kit_CopyLists_d [1, 1, 0, 1, 0, 0]) f ⟨Fr 20 [(0, .sl 1 (x0.map (cdL 1 cdI).enc)), (3, e3), (4, .v (.int .i64 c2))], hp⟩ (fun e s => e = (.exit 0) ∧ ∃ s2, (∃ (e22 : AV) (h' : Hp), T h' ((own_ (ocL 1 31 (ocL 1 3 (ocV cdI))) e22 r) :: L) ∧ s2 = ⟨Fr 20 [(3, e22)], h'⟩) ∧ WkY e_kit_CopyLists_d s s2) := by
 have he := e_kit_CopyLists_d_ok
 intro f
 induction f with
 | zero => intro c2 c4 r h; cases h
 | succ f ih0 =>
  intro c2 c4 r h e3 hp hT
  unfold kit_CopyLists_d_1 at h
  refine SemYN.succ ?_
  refine SemY.seq ?_
  refine SemY.seq ?_
  refine SemY.regionL ?_
  refine RunL.sg he 2 ?_
  refine RunL.one he 0 rfl (op_q (wantedA_none rfl) rfl (q_len (a := .sl 1 (x0.map (cdL 1 cdI).enc)) kr (len_sl (el := 31) kr))) ?_
  let p1 : Nat × AV := (0, .sl 1 (x0.map (cdL 1 cdI).enc))
  refine RunL.fin he [p1, (3, e3), (4, .v (.int .i64 c2)), (8, .v (.bool (decide (c2 < (x0.length : Int)))))] ?_
  refine SemY.cond (b := (decide (c2 < (x0.length : Int)))) kr (fun hb5 => ?_) (fun hb5 => ?_)
  ·rw [if_pos hb5] at h
   refine SemY.skip ?_
   refine SemY.seq ?_
   refine SemY.block ?_
   refine SemY.regionL ?_
   refine RunL.sg he 3 ?_
   obtain ⟨v6, hv6, h⟩ := Option.bind_eq_some_iff.1 h
   refine RunL.one he 0 rfl (op_q (wantedA_none rfl) rfl (q_indexAddr (a := .sl 1 (x0.map (cdL 1 cdI).enc)) (b := .v (.int .i64 c2)) kr kr (ix_sl (e := (cdL 1 cdI).enc) (el := 31) (k := 1) (ki := .i64) kr kr hv6))) ?_
   refine RunL.sg he 1 ?_
   obtain ⟨v7, hv7, h⟩ := Option.bind_eq_some_iff.1 h
   refine RunL.inlT (E := e_kit_CopyLists_d) (e := e_kit_CopyInts_d) rfl rfl e_kit_CopyInts_d_ok rfl rfl (fid := 132) (caps := []) (xs := [.sl 1 (v6.map cdI.enc)]) (fn := Tryd.f132) (c := cb_kit_CopyInts_d) (Out := fun v h' => ∃ (z0 : AV), v = z0 ∧ T h' ((own_ (ocL 1 3 (ocV cdI)) z0 v7) :: (own_ (ocL 1 31 (ocL 1 3 (ocV cdI))) e3 c4) :: L)) rfl (wantedA_none rfl) kr kr kr kr (by show 1 ≤ 19; decide) (kit_CopyInts_d_sem v6 _ hv7 hT) ?_
   rintro xx hp9 ⟨e8, hqhp9, hT10⟩; subst xx
   have hl15 : evLen Tryd.prog 31 e8 = some (eI v7.length) := len_B hT10 kr
   obtain ⟨e14, hp11, hb12, hT13⟩ := lit_ownB (P := Tryd.prog) (bytes := 24) (k := 1) (t := 31) (ty := 50) (xs := ([v7] : List (List Int))) (n := 1) fit_L (els_cons ((els_nil (o := (ocL 1 3 (ocV cdI))) hT10).front 1 rfl)) rfl kr kr kr
   refine RunL.one he 0 rfl (op_n (wantedA_none rfl) rfl kr (n_lit (xs := enumA 0 [e8]) kr hb12)) ?_
   by_cases hk20 : (capOk 24 (c4.length + ([v7] : List (List Int)).length)) = true
   case neg => rw [if_neg hk20] at h; cases h
   rw [if_pos hk20] at h
   have hT21 := ((hT13.front 0 rfl).front 1 rfl)
   obtain ⟨e19, hp16, hb17, hT18⟩ := app_ownB (P := Tryd.prog) (ty := 50) (ty2 := 50) (bytes := 24) hT21 kr kr hk20
   refine RunL.one he 0 rfl (op_w (wantedA_none rfl) rfl kr kr (w_append (a := e3) (b := e14) kr kr hb17)) ?_
   refine RunL.fin he [p1, (3, e19), (4, .v (.int .i64 c2))] ?_
   refine SemY.regionL ?_
   refine RunL.sg he 3 ?_
   refine RunL.done rfl ?_
   exact SemYN.wk (WkY.fr kr) (ih0 (wr .i64 (c2 + 1)) (c4 ++ ([v7] : List (List Int))) _ h e19 hp16 hT18)
  ·rw [if_f hb5] at h
   refine SemY.exit ?_
   have hq := Option.some.inj h; subst hq
   exact ⟨rfl, _, ⟨e3, hp, hT, rfl⟩, (WkY.fr kr)⟩
set_option maxHeartbeats 4000000 in
set_option maxRecDepth 100000 in
theorem kit_CopyLists_d_sem {L : List Asn} {hp : Hp} (x0 : (List (List Int))) (r : (List (List Int))) (h : kit_CopyLists_d x0 = some r) (hT : T hp (L)) : SemY e_kit_CopyLists_d ⟨none, false⟩ cb_kit_CopyLists_d ⟨Fr 20 (pairs0 0 [.sl 1 (x0.map (cdL 1 cdI).enc)]), hp⟩ fun x s' => (x = .normal ∨ x = .ret) ∧ ∃ ys, resA e_kit_CopyLists_d.P s'.fr s'.hp Tryd.f113.results.toList = some ys ∧ (fun v h' => ∃ (z0 : AV), v = z0 ∧ T h' ((own_ (ocL 1 31 (ocL 1 3 (ocV cdI))) z0 r) :: L)) (retA ys) s'.hp := by
 have he := e_kit_CopyLists_d_ok
 unfold kit_CopyLists_d at h
 let p1 : Nat × AV := (0, .sl 1 (x0.map (cdL 1 cdI).enc))
 refine SemY.wkQ (SemY.wk (s1 := ⟨Fr 20 [p1], hp⟩) (WkY.fr kr) ?_)
 refine SemY.sq he [p1] ?_
 refine SemY.sq he [p1, (3, .e0)] ?_
 refine SemY.seq ?_
 refine SemY.sq he [p1, (3, .e0), (4, .v (.int .i64 0))] ?_
 refine SemY.block ?_
 have hT1 := (T.e0 (k := 1) (ty := 31) (o := (ocL 1 3 (ocV cdI))) hT)
 refine SemY.loop (n := 100000) ?_
 obtain ⟨r24, hr24, h⟩ := Option.bind_eq_some_iff.1 h
 refine SemYN.cutT (SemYN.wk (WkY.fr kr) (kit_CopyLists_d_1_ok x0 _ 0 ([] : (List (List Int))) _ hr24 .e0 hp hT1)) ?_
 rintro _ ⟨e25, hp26, hT27, rfl⟩
 refine SemY.sq he [(2, e25)] ?_
 refine SemY.ret ?_
 have hq := Option.some.inj h; subst hq
 exact ⟨⟨Fr 20 [(2, e25)], hp26⟩, (WkY.fr kr), .inr rfl, [e25], kr, ⟨e25, rfl, hT27⟩⟩
/- trestle/trestleref09.Copy -/
noncomputable def e_ref09_Copy_d : Env := E0
theorem e_ref09_Copy_d_ok : EnvOk e_ref09_Copy_d := E0_ok
noncomputable def cb_ref09_Copy_d : Code := codeOf Tryd.f88
def ref09_Copy_d_1 (x0 : (List (List (List Int)))) : Nat → Int → (List (List (List Int))) → Option (((List (List (List Int)))))
 | 0, _, _ => none
 | f + 1, c2, c4 =>
  if (decide (c2 < (x0.length : Int))) = true then
  (idx x0 c2).bind fun v6 =>
  (kit_CopyLists_d v6).bind fun v7 =>
  if (capOk 24 (c4.length + ([v7] : List (List (List Int))).length)) = true then
  ref09_Copy_d_1 x0 f (wr .i64 (c2 + 1)) (c4 ++ ([v7] : List (List (List Int))))
  else none
  else
  some c4
def ref09_Copy_d (x0 : (List (List (List Int)))) : Option ((List (List (List Int)))) :=
 (ref09_Copy_d_1 x0 100000 0 ([] : (List (List (List Int))))).bind fun r24 =>
 some r24
set_option maxHeartbeats 4000000 in
set_option maxRecDepth 100000 in
theorem ref09_Copy_d_1_ok {L : List Asn} (x0 : (List (List (List Int)))) : ∀ (f : Nat) (c2 : Int) (c4 : (List (List (List Int)))) (r : ((List (List (List Int))))), ref09_Copy_d_1 x0 f c2 c4 = some r → ∀ (e3 : AV) (hp : Hp), T hp ((own_ (ocL 1 50 (ocL 1 31 (ocL 1 3 (ocV cdI)))) e3 c4) :: L) → SemYN e_ref09_Copy_d ⟨none, false⟩ (pc cb_ref09_Copy_d [1, 1, 0, 1, 0, 0]) f ⟨Fr 20 [(0, .sl 1 (x0.map (cdL 1 (cdL 1 cdI)).enc)), (3, e3), (4, .v (.int .i64 c2))], hp⟩ (fun e s => e = (.exit 0) ∧ ∃ s2, (∃ (e22 : AV) (h' : Hp), T h' ((own_ (ocL 1 50 (ocL 1 31 (ocL 1 3 (ocV cdI)))) e22 r) :: L) ∧ s2 = ⟨Fr 20 [(3, e22)], h'⟩) ∧ WkY e_ref09_Copy_d s s2) := by
 have he := e_ref09_Copy_d_ok
 intro f
 induction f with
 | zero => intro c2 c4 r h; cases h
 | succ f ih0 =>
  intro c2 c4 r h e3 hp hT
  unfold ref09_Copy_d_1 at h
  refine SemYN.succ ?_
  refine SemY.seq ?_
  refine SemY.seq ?_
  refine SemY.regionL ?_
  refine RunL.sg he 2 ?_
  refine RunL.one he 0 rfl (op_q (wantedA_none rfl) rfl (q_len (a := .sl 1 (x0.map (cdL 1 (cdL 1 cdI)).enc)) kr (len_sl (el := 50) kr))) ?_
  let p1 : Nat × AV := (0, .sl 1 (x0.map (cdL 1 (cdL 1 cdI)).enc))
  refine RunL.fin he [p1, (3, e3), (4, .v (.int .i64 c2)), (8, .v (.bool (decide (c2 < (x0.length : Int)))))] ?_
  refine SemY.cond (b := (decide (c2 < (x0.length : Int)))) kr (fun hb5 => ?_) (fun hb5 => ?_)
  ·rw [if_pos hb5] at h
   refine SemY.skip ?_
   refine SemY.seq ?_
   refine SemY.block ?_
   refine SemY.regionL ?_
   refine RunL.sg he 3 ?_
   obtain ⟨v6, hv6, h⟩ := Option.bind_eq_some_iff.1 h
   refine RunL.one he 0 rfl (op_q (wantedA_none rfl) rfl (q_indexAddr (a := .sl 1 (x0.map (cdL 1 (cdL 1 cdI)).enc)) (b := .v (.int .i64 c2)) kr kr (ix_sl (e := (cdL 1 (cdL 1 cdI)).enc) (el := 50) (k := 1) (ki := .i64) kr kr hv6))) ?_
   refine RunL.sg he 1 ?_
   obtain ⟨v7, hv7, h⟩ := Option.bind_eq_some_iff.1 h
   refine RunL.inlT (E := e_ref09_Copy_d) (e := e_kit_CopyLists_d) rfl rfl e_kit_CopyLists_d_ok rfl rfl (fid := 113) (caps := []) (xs := [.sl 1 (v6.map (cdL 1 cdI).enc)]) (fn := Tryd.f113) (c := cb_kit_CopyLists_d) (Out := fun v h' => ∃ (z0 : AV), v = z0 ∧ T h' ((own_ (ocL 1 31 (ocL 1 3 (ocV cdI))) z0 v7) :: (own_ (ocL 1 50 (ocL 1 31 (ocL 1 3 (ocV cdI)))) e3 c4) :: L)) rfl (wantedA_none rfl) kr kr kr kr (by show 1 ≤ 20; decide) (kit_CopyLists_d_sem v6 _ hv7 hT) ?_
   rintro xx hp9 ⟨e8, hqhp9, hT10⟩; subst xx
   have hl15 : evLen Tryd.prog 50 e8 = some (eI v7.length) := len_B hT10 kr
   obtain ⟨e14, hp11, hb12, hT13⟩ := lit_ownB (P := Tryd.prog) (bytes := 24) (k := 1) (t := 50) (ty := 22) (xs := ([v7] : List (List (List Int)))) (n := 1) fit_L (els_cons ((els_nil (o := (ocL 1 31 (ocL 1 3 (ocV cdI)))) hT10).front 1 rfl)) rfl kr kr kr
   refine RunL.one he 0 rfl (op_n (wantedA_none rfl) rfl kr (n_lit (xs := enumA 0 [e8]) kr hb12)) ?_
   by_cases hk20 : (capOk 24 (c4.length + ([v7] : List (List (List Int))).length)) = true
   case neg => rw [if_neg hk20] at h; cases h
   rw [if_pos hk20] at h
   have hT21 := ((hT13.front 0 rfl).front 1 rfl)
   obtain ⟨e19, hp16, hb17, hT18⟩ := app_ownB (P := Tryd.prog) (ty := 22) (ty2 := 22) (bytes := 24) hT21 kr kr hk20
   refine RunL.one he 0 rfl (op_w (wantedA_none rfl) rfl kr kr (w_append (a := e3) (b := e14) kr kr hb17)) ?_
   refine RunL.fin he [p1, (3, e19), (4, .v (.int .i64 c2))] ?_
   refine SemY.regionL ?_
   refine RunL.sg he 3 ?_
   refine RunL.done rfl ?_
   exact SemYN.wk (WkY.fr kr) (ih0 (wr .i64 (c2 + 1)) (c4 ++ ([v7] : List (List (List Int)))) _ h e19 hp16 hT18)
  ·rw [if_f hb5] at h
   refine SemY.exit ?_
   have hq := Option.some.inj h; subst hq
   exact ⟨rfl, _, ⟨e3, hp, hT, rfl⟩, (WkY.fr kr)⟩
set_option maxHeartbeats 4000000 in
set_option maxRecDepth 100000 in
theorem ref09_Copy_d_sem {L : List Asn} {hp : Hp} (x0 : (List (List (List Int)))) (r : (List (List (List Int)))) (h : ref09_Copy_d x0 = some r) (hT : T hp (L)) : SemY e_ref09_Copy_d ⟨none, false⟩ cb_ref09_Copy_d ⟨Fr 20 (pairs0 0 [.sl 1 (x0.map (cdL 1 (cdL 1 cdI)).enc)]), hp⟩ fun x s' => (x = .normal ∨ x = .ret) ∧ ∃ ys, resA e_ref09_Copy_d.P s'.fr s'.hp Tryd.f88.results.toList = some ys ∧ (fun v h' => ∃ (z0 : AV), v = z0 ∧ T h' ((own_ (ocL 1 50 (ocL 1 31 (ocL 1 3 (ocV cdI)))) z0 r) :: L)) (retA ys) s'.hp := by
 have he := e_ref09_Copy_d_ok
 unfold ref09_Copy_d at h
 let p1 : Nat × AV := (0, .sl 1 (x0.map (cdL 1 (cdL 1 cdI)).enc))
 refine SemY.wkQ (SemY.wk (s1 := ⟨Fr 20 [p1], hp⟩) (WkY.fr kr) ?_)
 refine SemY.sq he [p1] ?_
 refine SemY.sq he [p1, (3, .e0)] ?_
 refine SemY.seq ?_
 refine SemY.sq he [p1, (3, .e0), (4, .v (.int .i64 0))] ?_
 refine SemY.block ?_
 have hT1 := (T.e0 (k := 1) (ty := 50) (o := (ocL 1 31 (ocL 1 3 (ocV cdI)))) hT)
 refine SemY.loop (n := 100000) ?_
 obtain ⟨r24, hr24, h⟩ := Option.bind_eq_some_iff.1 h
 refine SemYN.cutT (SemYN.wk (WkY.fr kr) (ref09_Copy_d_1_ok x0 _ 0 ([] : (List (List (List Int)))) _ hr24 .e0 hp hT1)) ?_
 rintro _ ⟨e25, hp26, hT27, rfl⟩
 refine SemY.sq he [(2, e25)] ?_
 refine SemY.ret ?_
 have hq := Option.some.inj h; subst hq
 exact ⟨⟨Fr 20 [(2, e25)], hp26⟩, (WkY.fr kr), .inr rfl, [e25], kr, ⟨e25, rfl, hT27⟩⟩
/- trestle/trestleref09.swapped -/
noncomputable def e_ref09_swapped : Env := (E0.withX 76 t_ref09_has)
theorem e_ref09_swapped_ok : EnvOk e_ref09_swapped := (EnvOk.withX E0_ok x_ref09_has.1 x_ref09_has.2)
noncomputable def cb_ref09_swapped : Code := codeOf Tryd.f131
def ref09_swapped_j4 (x1 : Int) (x2 : Int) (x3 : Int) (c5 : Int) (c54 : Int) (c55 : (List (List (List Int)))) (v75 : Int) : Option (((List (List (List Int))))) :=
 if (v75 == x3) = true then
 (idx c55 x1).bind fun v99 =>
 (idx v99 c5).bind fun v103 =>
 (idx v103 c54).bind fun _v107 =>
 some (c55.set x1.toNat (v99.set c5.toNat (v103.set c54.toNat x2)))
 else
 some c55
def ref09_swapped_j3 (x1 : Int) (x2 : Int) (x3 : Int) (c5 : Int) (c54 : Int) (c55 : (List (List (List Int)))) (v75 : Int) : Option (((List (List (List Int))))) :=
 if (v75 == x2) = true then
 (idx c55 x1).bind fun v79 =>
 (idx v79 c5).bind fun v83 =>
 (idx v83 c54).bind fun _v87 =>
 some (c55.set x1.toNat (v79.set c5.toNat (v83.set c54.toNat x3)))
 else
 (ref09_swapped_j4 x1 x2 x3 c5 c54 c55 v75).bind fun r118 =>
 some r118
def ref09_swapped_2 (x1 : Int) (x2 : Int) (x3 : Int) (c5 : Int) : Nat → Int → (List (List (List Int))) → Option (((List (List (List Int)))))
 | 0, _, _ => none
 | f + 1, c54, c55 =>
  (idx c55 x1).bind fun v56 =>
  (idx v56 c5).bind fun v60 =>
  if (decide (c54 < (v60.length : Int))) = true then
  (idx c55 x1).bind fun v67 =>
  (idx v67 c5).bind fun v71 =>
  (idx v71 c54).bind fun v75 =>
  (ref09_swapped_j3 x1 x2 x3 c5 c54 c55 v75).bind fun r121 =>
  ref09_swapped_2 x1 x2 x3 c5 f (wr .i64 (c54 + 1)) r121
  else
  some c55
def ref09_swapped_1 (x1 : Int) (x2 : Int) (x3 : Int) : Nat → Int → (List (List (List Int))) → Option (((List (List (List Int)))) ⊕ (Unit))
 | 0, _, _ => none
 | f + 1, c5, c6 =>
  (idx c6 x1).bind fun v7 =>
  if (decide (c5 < (v7.length : Int))) = true then
  (idx c6 x1).bind fun v13 =>
  (idx v13 c5).bind fun v17 =>
  (ref09_has v17 x2).bind fun v21 =>
  (if v21 = true then (idx c6 x1).bind fun v24 =>
  (idx v24 c5).bind fun v28 =>
  (ref09_has v28 x3).bind fun v32 =>
  some v32 else some false).bind fun j33 =>
  if j33 = true then
  some (.inr ())
  else
  (ref09_swapped_2 x1 x2 x3 c5 100000 0 c6).bind fun r129 =>
  ref09_swapped_1 x1 x2 x3 f (wr .i64 (c5 + 1)) r129
  else
  some (.inl c6)
def ref09_swapped (x0 : (List (List (List Int)))) (x1 : Int) (x2 : Int) (x3 : Int) : Option ((List (List (List Int))) × Bool) :=
 (ref09_Copy_d x0).bind fun v1 =>
 (ref09_swapped_1 x1 x2 x3 100000 0 v1).bind fun r136 =>
 match r136 with
 | (.inl w137) =>
  some (w137, true)
 | (.inr _w143) =>
  some (([] : (List (List (List Int)))), false)
set_option maxHeartbeats 4000000 in
set_option maxRecDepth 100000 in
theorem ref09_swapped_j4_ok {L : List Asn} {hp : Hp} (x1 : Int) (x2 : Int) (x3 : Int) (c5 : Int) (c54 : Int) (c55 : (List (List (List Int)))) (v75 : Int) (e2 : AV) (v67 : (List (List Int))) (e68 : AV) (v71 : (List Int)) (e72 : AV) (r : ((List (List (List Int))))) (h : ref09_swapped_j4 x1 x2 x3 c5 c54 c55 v75 = some r) (hT : T hp ((own_ (ocL 1 3 (ocV cdI)) e72 v71) :: (hole 1 31 (ocL 1 3 (ocV cdI)) e68 v67 c5.toNat e72 v71) :: (hole 1 50 (ocL 1 31 (ocL 1 3 (ocV cdI))) e2 c55 x1.toNat e68 v67) :: L)) : SemY e_ref09_swapped ⟨none, false⟩ (pc cb_ref09_swapped [1, 1, 0, 1, 0, 0, 1, 0, 0, 1, 1, 0, 0, 1, 0, 0, 1, 0, 1, 1, 1]) ⟨Fr 93 [(1, .v (.int .i64 x1)), (2, .v (.int .i64 x2)), (3, .v (.int .i64 x3)), (10, e2), (11, .v (.int .i64 c5)), (12, .v (.int .i64 c54)), (79, .v (.bool (v75 == x3)))], hp⟩ (fun e s => e = .normal ∧ ∃ s2, (∃ (h' : Hp), T h' ((own_ (ocL 1 50 (ocL 1 31 (ocL 1 3 (ocV cdI)))) e2 r) :: L) ∧ s2 = ⟨Fr 93 [(1, .v (.int .i64 x1)), (2, .v (.int .i64 x2)), (3, .v (.int .i64 x3)), (10, e2), (11, .v (.int .i64 c5)), (12, .v (.int .i64 c54))], h'⟩) ∧ WkY e_ref09_swapped s s2) := by
 have he := e_ref09_swapped_ok
 unfold ref09_swapped_j4 at h
 refine SemY.cond (b := (v75 == x3)) kr (fun hb96 => ?_) (fun hb96 => ?_)
 ·rw [if_pos hb96] at h
  refine SemY.regionL ?_
  refine RunL.sg he 2 ?_
  obtain ⟨v99, hv99, h⟩ := Option.bind_eq_some_iff.1 h
  have hT97 := (T.merge0 hT)
  have hT98 := (T.merge0 hT97)
  refine RunL.one he 0 rfl (op_q (wantedA_none rfl) rfl (q_indexAddr (a := e2) (b := .v (.int .i64 x1)) kr kr (ix_B (bytes := 24) hT98 kr hv99))) ?_
  obtain ⟨e100, hl101, hT102⟩ := ld_child (P := Tryd.prog) (ty := 50) hT98 (idx_at hv99).2 kr kr
  refine RunL.one he 0 rfl (op_q (wantedA_none rfl) rfl (q_load (p := eAt e2 x1.toNat) kr hl101)) ?_
  refine RunL.sg he 1 ?_
  obtain ⟨v103, hv103, h⟩ := Option.bind_eq_some_iff.1 h
  refine RunL.one he 0 rfl (op_q (wantedA_none rfl) rfl (q_indexAddr (a := e100) (b := .v (.int .i64 c5)) kr kr (ix_B (bytes := 24) hT102 kr hv103))) ?_
  obtain ⟨e104, hl105, hT106⟩ := ld_child (P := Tryd.prog) (ty := 31) hT102 (idx_at hv103).2 kr kr
  refine RunL.one he 0 rfl (op_q (wantedA_none rfl) rfl (q_load (p := eAt e100 c5.toNat) kr hl105)) ?_
  refine RunL.sg he 2 ?_
  obtain ⟨v107, hv107, h⟩ := Option.bind_eq_some_iff.1 h
  refine RunL.one he 0 rfl (op_q (wantedA_none rfl) rfl (q_indexAddr (a := e104) (b := .v (.int .i64 c54)) kr kr (ix_B (bytes := 8) hT106 kr hv107))) ?_
  obtain ⟨hp108, hs109, hT110⟩ := st_own0 (P := Tryd.prog) (ty := 3) (y := .v (.int .i64 x2)) (v' := x2) hT106 (idx_at hv107).2 kr kr kr
  refine RunL.store he (y := eAt e104 c54.toNat) (z := .v (.int .i64 x2)) rfl (wantedA_none rfl) kr kr hs109 ?_
  refine RunL.done rfl ?_
  have hq := Option.some.inj h; subst hq
  have hT114 := (T.merge hT110)
  have hT115 := (T.merge hT114)
  exact ⟨rfl, _, ⟨hp108, hT115, rfl⟩, (WkY.fr kr)⟩
 ·rw [if_f hb96] at h
  refine SemY.skip ?_
  have hq := Option.some.inj h; subst hq
  have hT116 := (T.merge0 hT)
  have hT117 := (T.merge0 hT116)
  exact ⟨rfl, _, ⟨hp, hT117, rfl⟩, (WkY.fr kr)⟩
set_option maxHeartbeats 4000000 in
set_option maxRecDepth 100000 in
theorem ref09_swapped_j3_ok {L : List Asn} {hp : Hp} (x1 : Int) (x2 : Int) (x3 : Int) (c5 : Int) (c54 : Int) (c55 : (List (List (List Int)))) (v75 : Int) (e2 : AV) (v67 : (List (List Int))) (e68 : AV) (v71 : (List Int)) (e72 : AV) (r : ((List (List (List Int))))) (h : ref09_swapped_j3 x1 x2 x3 c5 c54 c55 v75 = some r) (hT : T hp ((own_ (ocL 1 3 (ocV cdI)) e72 v71) :: (hole 1 31 (ocL 1 3 (ocV cdI)) e68 v67 c5.toNat e72 v71) :: (hole 1 50 (ocL 1 31 (ocL 1 3 (ocV cdI))) e2 c55 x1.toNat e68 v67) :: L)) : SemY e_ref09_swapped ⟨none, false⟩ (pc cb_ref09_swapped [1, 1, 0, 1, 0, 0, 1, 0, 0, 1, 1, 0, 0, 1, 0, 0, 1, 0, 1]) ⟨Fr 93 [(1, .v (.int .i64 x1)), (2, .v (.int .i64 x2)), (3, .v (.int .i64 x3)), (10, e2), (11, .v (.int .i64 c5)), (12, .v (.int .i64 c54)), (65, .v (.int .i64 v75)), (66, .v (.bool (v75 == x2)))], hp⟩ (fun e s => e = .normal ∧ ∃ s2, (∃ (h' : Hp), T h' ((own_ (ocL 1 50 (ocL 1 31 (ocL 1 3 (ocV cdI)))) e2 r) :: L) ∧ s2 = ⟨Fr 93 [(1, .v (.int .i64 x1)), (2, .v (.int .i64 x2)), (3, .v (.int .i64 x3)), (10, e2), (11, .v (.int .i64 c5)), (12, .v (.int .i64 c54))], h'⟩) ∧ WkY e_ref09_swapped s s2) := by
 have he := e_ref09_swapped_ok
 unfold ref09_swapped_j3 at h
 refine SemY.cond (b := (v75 == x2)) kr (fun hb76 => ?_) (fun hb76 => ?_)
 ·rw [if_pos hb76] at h
  refine SemY.regionL ?_
  refine RunL.sg he 2 ?_
  obtain ⟨v79, hv79, h⟩ := Option.bind_eq_some_iff.1 h
  have hT77 := (T.merge0 hT)
  have hT78 := (T.merge0 hT77)
  refine RunL.one he 0 rfl (op_q (wantedA_none rfl) rfl (q_indexAddr (a := e2) (b := .v (.int .i64 x1)) kr kr (ix_B (bytes := 24) hT78 kr hv79))) ?_
  obtain ⟨e80, hl81, hT82⟩ := ld_child (P := Tryd.prog) (ty := 50) hT78 (idx_at hv79).2 kr kr
  refine RunL.one he 0 rfl (op_q (wantedA_none rfl) rfl (q_load (p := eAt e2 x1.toNat) kr hl81)) ?_
  refine RunL.sg he 1 ?_
  obtain ⟨v83, hv83, h⟩ := Option.bind_eq_some_iff.1 h
  refine RunL.one he 0 rfl (op_q (wantedA_none rfl) rfl (q_indexAddr (a := e80) (b := .v (.int .i64 c5)) kr kr (ix_B (bytes := 24) hT82 kr hv83))) ?_
  obtain ⟨e84, hl85, hT86⟩ := ld_child (P := Tryd.prog) (ty := 31) hT82 (idx_at hv83).2 kr kr
  refine RunL.one he 0 rfl (op_q (wantedA_none rfl) rfl (q_load (p := eAt e80 c5.toNat) kr hl85)) ?_
  refine RunL.sg he 2 ?_
  obtain ⟨v87, hv87, h⟩ := Option.bind_eq_some_iff.1 h
  refine RunL.one he 0 rfl (op_q (wantedA_none rfl) rfl (q_indexAddr (a := e84) (b := .v (.int .i64 c54)) kr kr (ix_B (bytes := 8) hT86 kr hv87))) ?_
  obtain ⟨hp88, hs89, hT90⟩ := st_own0 (P := Tryd.prog) (ty := 3) (y := .v (.int .i64 x3)) (v' := x3) hT86 (idx_at hv87).2 kr kr kr
  refine RunL.store he (y := eAt e84 c54.toNat) (z := .v (.int .i64 x3)) rfl (wantedA_none rfl) kr kr hs89 ?_
  refine RunL.done rfl ?_
  have hq := Option.some.inj h; subst hq
  have hT94 := (T.merge hT90)
  have hT95 := (T.merge hT94)
  exact ⟨rfl, _, ⟨hp88, hT95, rfl⟩, (WkY.fr kr)⟩
 ·rw [if_f hb76] at h
  refine SemY.sq he [(1, .v (.int .i64 x1)), (2, .v (.int .i64 x2)), (3, .v (.int .i64 x3)), (10, e2), (11, .v (.int .i64 c5)), (12, .v (.int .i64 c54)), (79, .v (.bool (v75 == x3)))] ?_
  obtain ⟨r118, hr118, h⟩ := Option.bind_eq_some_iff.1 h
  refine SemY.cutT (ref09_swapped_j4_ok x1 x2 x3 c5 c54 c55 v75 e2 v67 e68 v71 e72 _ hr118 hT) ?_
  rintro _ ⟨hp119, hT120, rfl⟩
  have hq := Option.some.inj h; subst hq
  exact ⟨rfl, _, ⟨hp119, hT120, rfl⟩, (WkY.fr kr)⟩
set_option maxHeartbeats 4000000 in
set_option maxRecDepth 100000 in
theorem ref09_swapped_2_ok {L : List Asn} (x1 : Int) (x2 : Int) (x3 : Int) (c5 : Int) (e2 : AV) : ∀ (f : Nat) (c54 : Int) (c55 : (List (List (List Int)))) (r : ((List (List (List Int))))), ref09_swapped_2 x1 x2 x3 c5 f c54 c55 = some r → ∀ (hp : Hp), T hp ((own_ (ocL 1 50 (ocL 1 31 (ocL 1 3 (ocV cdI)))) e2 c55) :: L) → SemYN e_ref09_swapped ⟨none, false⟩ (pc cb_ref09_swapped [1, 1, 0, 1, 0, 0, 1, 0, 0, 1, 1, 0, 0]) f ⟨Fr 93 [(1, .v (.int .i64 x1)), (2, .v (.int .i64 x2)), (3, .v (.int .i64 x3)), (10, e2), (11, .v (.int .i64 c5)), (12, .v (.int .i64 c54))], hp⟩ (fun e s => e = (.exit 2) ∧ ∃ s2, (∃ (h' : Hp), T h' ((own_ (ocL 1 50 (ocL 1 31 (ocL 1 3 (ocV cdI)))) e2 r) :: L) ∧ s2 = ⟨Fr 93 [(1, .v (.int .i64 x1)), (2, .v (.int .i64 x2)), (3, .v (.int .i64 x3)), (10, e2), (11, .v (.int .i64 c5))], h'⟩) ∧ WkY e_ref09_swapped s s2) := by
 have he := e_ref09_swapped_ok
 intro f
 induction f with
 | zero => intro c54 c55 r h; cases h
 | succ f ih0 =>
  intro c54 c55 r h  hp hT
  unfold ref09_swapped_2 at h
  refine SemYN.succ ?_
  refine SemY.seq ?_
  refine SemY.seq ?_
  refine SemY.regionL ?_
  refine RunL.sg he 3 ?_
  obtain ⟨v56, hv56, h⟩ := Option.bind_eq_some_iff.1 h
  refine RunL.one he 0 rfl (op_q (wantedA_none rfl) rfl (q_indexAddr (a := e2) (b := .v (.int .i64 x1)) kr kr (ix_B (bytes := 24) hT kr hv56))) ?_
  obtain ⟨e57, hl58, hT59⟩ := ld_child (P := Tryd.prog) (ty := 50) hT (idx_at hv56).2 kr kr
  refine RunL.one he 0 rfl (op_q (wantedA_none rfl) rfl (q_load (p := eAt e2 x1.toNat) kr hl58)) ?_
  refine RunL.sg he 1 ?_
  obtain ⟨v60, hv60, h⟩ := Option.bind_eq_some_iff.1 h
  refine RunL.one he 0 rfl (op_q (wantedA_none rfl) rfl (q_indexAddr (a := e57) (b := .v (.int .i64 c5)) kr kr (ix_B (bytes := 24) hT59 kr hv60))) ?_
  obtain ⟨e61, hl62, hT63⟩ := ld_child (P := Tryd.prog) (ty := 31) hT59 (idx_at hv60).2 kr kr
  refine RunL.one he 0 rfl (op_q (wantedA_none rfl) rfl (q_load (p := eAt e57 c5.toNat) kr hl62)) ?_
  refine RunL.one he 0 rfl (op_q (wantedA_none rfl) rfl (q_len (a := e61) kr (len_B hT63 kr))) ?_
  let p1 : Nat × AV := (12, .v (.int .i64 c54))
  let p2 : Nat × AV := (11, .v (.int .i64 c5))
  let p3 : Nat × AV := (3, .v (.int .i64 x3))
  let p4 : Nat × AV := (2, .v (.int .i64 x2))
  let p5 : Nat × AV := (1, .v (.int .i64 x1))
  refine RunL.fin he [p5, p4, p3, (10, e2), p2, p1, (53, .v (.bool (decide (c54 < (v60.length : Int)))))] ?_
  refine SemY.cond (b := (decide (c54 < (v60.length : Int)))) kr (fun hb64 => ?_) (fun hb64 => ?_)
  ·rw [if_pos hb64] at h
   refine SemY.skip ?_
   refine SemY.seq ?_
   refine SemY.block ?_
   refine SemY.seq ?_
   refine SemY.regionL ?_
   refine RunL.sg he 2 ?_
   obtain ⟨v67, hv67, h⟩ := Option.bind_eq_some_iff.1 h
   have hT65 := (T.merge0 hT63)
   have hT66 := (T.merge0 hT65)
   refine RunL.one he 0 rfl (op_q (wantedA_none rfl) rfl (q_indexAddr (a := e2) (b := .v (.int .i64 x1)) kr kr (ix_B (bytes := 24) hT66 kr hv67))) ?_
   obtain ⟨e68, hl69, hT70⟩ := ld_child (P := Tryd.prog) (ty := 50) hT66 (idx_at hv67).2 kr kr
   refine RunL.one he 0 rfl (op_q (wantedA_none rfl) rfl (q_load (p := eAt e2 x1.toNat) kr hl69)) ?_
   refine RunL.sg he 1 ?_
   obtain ⟨v71, hv71, h⟩ := Option.bind_eq_some_iff.1 h
   refine RunL.one he 0 rfl (op_q (wantedA_none rfl) rfl (q_indexAddr (a := e68) (b := .v (.int .i64 c5)) kr kr (ix_B (bytes := 24) hT70 kr hv71))) ?_
   obtain ⟨e72, hl73, hT74⟩ := ld_child (P := Tryd.prog) (ty := 31) hT70 (idx_at hv71).2 kr kr
   refine RunL.one he 0 rfl (op_q (wantedA_none rfl) rfl (q_load (p := eAt e68 c5.toNat) kr hl73)) ?_
   refine RunL.sg he 1 ?_
   obtain ⟨v75, hv75, h⟩ := Option.bind_eq_some_iff.1 h
   refine RunL.one he 0 rfl (op_q (wantedA_none rfl) rfl (q_indexAddr (a := e72) (b := .v (.int .i64 c54)) kr kr (ix_B (bytes := 8) hT74 kr hv75))) ?_
   refine RunL.one he 0 rfl (op_q (wantedA_none rfl) rfl (q_load (p := eAt e72 c54.toNat) kr (ld_own0 (y := .v (.int .i64 v75)) (m := 1) (g := false) hT74 (idx_at hv75).2 kr kr kr))) ?_
   refine RunL.done rfl (SemY.fr (l' := [p5, p4, p3, (10, e2), p2, p1, (65, .v (.int .i64 v75))]) kr ?_)
   refine SemY.block ?_
   refine SemY.sq he [p5, p4, p3, (10, e2), p2, p1, (65, .v (.int .i64 v75)), (66, .v (.bool (v75 == x2)))] ?_
   obtain ⟨r121, hr121, h⟩ := Option.bind_eq_some_iff.1 h
   refine SemY.cutT (ref09_swapped_j3_ok x1 x2 x3 c5 c54 c55 v75 e2 v67 e68 v71 e72 _ hr121 hT74) ?_
   rintro _ ⟨hp122, hT123, rfl⟩
   refine SemY.regionL ?_
   refine RunL.sg he 3 ?_
   refine RunL.done rfl ?_
   exact SemYN.wk (WkY.fr kr) (ih0 (wr .i64 (c54 + 1)) r121 _ h  hp122 hT123)
  ·rw [if_f hb64] at h
   refine SemY.exit ?_
   have hq := Option.some.inj h; subst hq
   have hT127 := (T.merge0 hT63)
   have hT128 := (T.merge0 hT127)
   exact ⟨rfl, _, ⟨hp, hT128, rfl⟩, (WkY.fr kr)⟩
set_option maxHeartbeats 4000000 in
set_option maxRecDepth 100000 in
theorem ref09_swapped_1_ok {L : List Asn} (x1 : Int) (x2 : Int) (x3 : Int) (e2 : AV) : ∀ (f : Nat) (c5 : Int) (c6 : (List (List (List Int)))) (r : ((List (List (List Int)))) ⊕ (Unit)), ref09_swapped_1 x1 x2 x3 f c5 c6 = some r → ∀ (hp : Hp), T hp ((own_ (ocL 1 50 (ocL 1 31 (ocL 1 3 (ocV cdI)))) e2 c6) :: L) → SemYN e_ref09_swapped ⟨none, false⟩ (pc cb_ref09_swapped [1, 1, 0, 1, 0, 0]) f ⟨Fr 93 [(1, .v (.int .i64 x1)), (2, .v (.int .i64 x2)), (3, .v (.int .i64 x3)), (10, e2), (11, .v (.int .i64 c5))], hp⟩ (fun e s => match r with
 | (.inl w) => e = (.exit 0) ∧ ∃ s2, (∃ (h' : Hp), T h' ((own_ (ocL 1 50 (ocL 1 31 (ocL 1 3 (ocV cdI)))) e2 w) :: L) ∧ s2 = ⟨Fr 93 [(10, e2)], h'⟩) ∧ WkY e_ref09_swapped s s2
 | (.inr _) => e = .ret ∧ ∃ s2, (∃ (h' : Hp), T h' (L) ∧ s2 = ⟨Fr 93 [(8, .e0), (9, .v (.bool false))], h'⟩) ∧ WkY e_ref09_swapped s s2) := by
 have he := e_ref09_swapped_ok
 intro f
 induction f with
 | zero => intro c5 c6 r h; cases h
 | succ f ih0 =>
  intro c5 c6 r h  hp hT
  unfold ref09_swapped_1 at h
  refine SemYN.succ ?_
  refine SemY.seq ?_
  refine SemY.seq ?_
  refine SemY.regionL ?_
  refine RunL.sg he 3 ?_
  obtain ⟨v7, hv7, h⟩ := Option.bind_eq_some_iff.1 h
  refine RunL.one he 0 rfl (op_q (wantedA_none rfl) rfl (q_indexAddr (a := e2) (b := .v (.int .i64 x1)) kr kr (ix_B (bytes := 24) hT kr hv7))) ?_
  obtain ⟨e8, hl9, hT10⟩ := ld_child (P := Tryd.prog) (ty := 50) hT (idx_at hv7).2 kr kr
  refine RunL.one he 0 rfl (op_q (wantedA_none rfl) rfl (q_load (p := eAt e2 x1.toNat) kr hl9)) ?_
  refine RunL.one he 0 rfl (op_q (wantedA_none rfl) rfl (q_len (a := e8) kr (len_B hT10 kr))) ?_
  let p1 : Nat × AV := (11, .v (.int .i64 c5))
  let p2 : Nat × AV := (3, .v (.int .i64 x3))
  let p3 : Nat × AV := (2, .v (.int .i64 x2))
  let p4 : Nat × AV := (1, .v (.int .i64 x1))
  refine RunL.fin he [p4, p3, p2, (10, e2), p1, (21, .v (.bool (decide (c5 < (v7.length : Int)))))] ?_
  refine SemY.cond (b := (decide (c5 < (v7.length : Int)))) kr (fun hb11 => ?_) (fun hb11 => ?_)
  ·rw [if_pos hb11] at h
   refine SemY.skip ?_
   refine SemY.seq ?_
   refine SemY.block ?_
   refine SemY.seq ?_
   refine SemY.seq ?_
   obtain ⟨v13, hv13, h⟩ := Option.bind_eq_some_iff.1 h
   obtain ⟨v17, hv17, h⟩ := Option.bind_eq_some_iff.1 h
   obtain ⟨v21, hv21, h⟩ := Option.bind_eq_some_iff.1 h
   obtain ⟨j33, hj33, h⟩ := Option.bind_eq_some_iff.1 h
   refine SemY.regT (A := fun s1 => ∃ (h' : Hp), T h' ((own_ (ocL 1 50 (ocL 1 31 (ocL 1 3 (ocV cdI)))) e2 c6) :: L) ∧ s1 = ⟨Fr 93 [p4, p3, p2, (10, e2), p1, (43, .v (.bool j33))], h'⟩) ?_ ?_
   ·refine RunL.sg he 2 ?_
    have hT12 := (T.merge0 hT10)
    refine RunL.one he 0 rfl (op_q (wantedA_none rfl) rfl (q_indexAddr (a := e2) (b := .v (.int .i64 x1)) kr kr (ix_B (bytes := 24) hT12 kr hv13))) ?_
    obtain ⟨e14, hl15, hT16⟩ := ld_child (P := Tryd.prog) (ty := 50) hT12 (idx_at hv13).2 kr kr
    refine RunL.one he 0 rfl (op_q (wantedA_none rfl) rfl (q_load (p := eAt e2 x1.toNat) kr hl15)) ?_
    refine RunL.sg he 1 ?_
    refine RunL.one he 0 rfl (op_q (wantedA_none rfl) rfl (q_indexAddr (a := e14) (b := .v (.int .i64 c5)) kr kr (ix_B (bytes := 24) hT16 kr hv17))) ?_
    obtain ⟨e18, hl19, hT20⟩ := ld_child (P := Tryd.prog) (ty := 31) hT16 (idx_at hv17).2 kr kr
    refine RunL.one he 0 rfl (op_q (wantedA_none rfl) rfl (q_load (p := eAt e14 c5.toNat) kr hl19)) ?_
    refine RunL.sg he 1 ?_
    refine RunL.callD he (fid := 76) (b := v21) (s := cs_ref09_has) (F := fun a => ref09_has a.1 a.2.1) (er := er_ref09_has) (xs := [e18, .v (.int .i64 x2)]) (a := (v17, x2, ())) rfl (wantedA_none rfl) kr kr kr (SeesD.cons (SeeD.own hT20 (i := 0) rfl) (SeesD.cons (SeeD.enc (c := cdI) (v := x2)) SeesD.nil)) kr hv21 ?_
    refine RunL.segF (n := 93) he 1 [p4, p3, p2, (10, e2), p1, (33, .v (.bool v21))] hp kr ?_
    rcases Bool.eq_false_or_eq_true v21 with hc132 | hc132
    ·rw [if_pos hc132] at hj33
     rw [hc132]
     refine RunL.sg he 2 ?_
     obtain ⟨v24, hv24, hj33⟩ := Option.bind_eq_some_iff.1 hj33
     have hT22 := (T.merge0 hT20)
     have hT23 := (T.merge0 hT22)
     refine RunL.one he 0 rfl (op_q kr rfl (q_indexAddr (a := e2) (b := .v (.int .i64 x1)) kr kr (ix_B (bytes := 24) hT23 kr hv24))) ?_
     obtain ⟨e25, hl26, hT27⟩ := ld_child (P := Tryd.prog) (ty := 50) hT23 (idx_at hv24).2 kr kr
     refine RunL.one he 0 rfl (op_q kr rfl (q_load (p := eAt e2 x1.toNat) kr hl26)) ?_
     refine RunL.sg he 1 ?_
     obtain ⟨v28, hv28, hj33⟩ := Option.bind_eq_some_iff.1 hj33
     refine RunL.one he 0 rfl (op_q kr rfl (q_indexAddr (a := e25) (b := .v (.int .i64 c5)) kr kr (ix_B (bytes := 24) hT27 kr hv28))) ?_
     obtain ⟨e29, hl30, hT31⟩ := ld_child (P := Tryd.prog) (ty := 31) hT27 (idx_at hv28).2 kr kr
     refine RunL.one he 0 rfl (op_q kr rfl (q_load (p := eAt e25 c5.toNat) kr hl30)) ?_
     refine RunL.sg he 1 ?_
     obtain ⟨v32, hv32, hj33⟩ := Option.bind_eq_some_iff.1 hj33
     refine RunL.callD he (fid := 76) (b := v32) (s := cs_ref09_has) (F := fun a => ref09_has a.1 a.2.1) (er := er_ref09_has) (xs := [e29, .v (.int .i64 x3)]) (a := (v28, x3, ())) rfl kr kr kr kr (SeesD.cons (SeeD.own hT31 (i := 0) rfl) (SeesD.cons (SeeD.enc (c := cdI) (v := x3)) SeesD.nil)) kr hv32 ?_
     refine RunL.sg he 1 ?_
     have hq := Option.some.inj hj33; subst hq
     have hT46 := (T.merge0 hT31)
     have hT47 := (T.merge0 hT46)
     exact RunL.done rfl ⟨_, ⟨hp, hT47, rfl⟩, (WkY.fr kr)⟩
    ·rw [if_f hc132] at hj33
     rw [hc132]
     refine RunL.sg he 10 ?_
     have hq := Option.some.inj hj33; subst hq
     have hT48 := (T.merge0 hT20)
     have hT49 := (T.merge0 hT48)
     exact RunL.done rfl ⟨_, ⟨hp, hT49, rfl⟩, (WkY.fr kr)⟩
   rintro _ ⟨hp50, hT51, rfl⟩
   refine SemY.cond (b := j33) kr (fun hb52 => ?_) (fun hb52 => ?_)
   ·rw [if_pos hb52] at h
    refine SemY.sq he [(8, .e0), (9, .v (.bool false))] ?_
    refine SemY.ret ?_
    have hq := Option.some.inj h; subst hq
    have hT53 := hT51.drop
    exact ⟨rfl, _, ⟨hp50, hT53, rfl⟩, (WkY.fr kr)⟩
   ·rw [if_f hb52] at h
    refine SemY.skip ?_
    refine SemY.sq he [p4, p3, p2, (10, e2), p1, (12, .v (.int .i64 0))] ?_
    refine SemY.block ?_
    refine SemY.loop (n := 100000) ?_
    obtain ⟨r129, hr129, h⟩ := Option.bind_eq_some_iff.1 h
    refine SemYN.cutT (SemYN.wk (WkY.fr kr) (ref09_swapped_2_ok x1 x2 x3 c5 e2 _ 0 c6 _ hr129  hp50 hT51)) ?_
    rintro _ ⟨hp130, hT131, rfl⟩
    refine SemY.regionL ?_
    refine RunL.sg he 3 ?_
    refine RunL.done rfl ?_
    exact SemYN.wk (WkY.fr kr) (ih0 (wr .i64 (c5 + 1)) r129 _ h  hp130 hT131)
  ·rw [if_f hb11] at h
   refine SemY.exit ?_
   have hq := Option.some.inj h; subst hq
   have hT135 := (T.merge0 hT10)
   exact ⟨rfl, _, ⟨hp, hT135, rfl⟩, (WkY.fr kr)⟩
set_option maxHeartbeats 4000000 in
set_option maxRecDepth 100000 in
theorem ref09_swapped_sem {L : List Asn} {hp : Hp} (x0 : (List (List (List Int)))) (x1 : Int) (x2 : Int) (x3 : Int) (r : (List (List (List Int))) × Bool) (h : ref09_swapped x0 x1 x2 x3 = some r) (hT : T hp (L)) : SemY e_ref09_swapped ⟨none, false⟩ cb_ref09_swapped ⟨Fr 93 (pairs0 0 [.sl 1 (x0.map (cdL 1 (cdL 1 cdI)).enc), .v (.int .i64 x1), .v (.int .i64 x2), .v (.int .i64 x3)]), hp⟩ fun x s' => (x = .normal ∨ x = .ret) ∧ ∃ ys, resA e_ref09_swapped.P s'.fr s'.hp Tryd.f131.results.toList = some ys ∧ (fun v h' => v = .tp [.sl 1 (r.1.map (cdL 1 (cdL 1 cdI)).enc), .v (.bool r.2)] ∧ T h' (L)) (retA ys) s'.hp := by
 have he := e_ref09_swapped_ok
 unfold ref09_swapped at h
 let p1 : Nat × AV := (3, .v (.int .i64 x3))
 let p2 : Nat × AV := (2, .v (.int .i64 x2))
 let p3 : Nat × AV := (1, .v (.int .i64 x1))
 let p4 : Nat × AV := (0, .sl 1 (x0.map (cdL 1 (cdL 1 cdI)).enc))
 refine SemY.wkQ (SemY.wk (s1 := ⟨Fr 93 [p4, p3, p2, p1], hp⟩) (WkY.fr kr) ?_)
 refine SemY.sq he [p4, p3, p2, p1] ?_
 refine SemY.seq ?_
 refine SemY.regionL ?_
 refine RunL.sg he 1 ?_
 obtain ⟨v1, hv1, h⟩ := Option.bind_eq_some_iff.1 h
 refine RunL.inlT (E := e_ref09_swapped) (e := e_ref09_Copy_d) rfl rfl e_ref09_Copy_d_ok rfl rfl (fid := 88) (caps := []) (xs := [.sl 1 (x0.map (cdL 1 (cdL 1 cdI)).enc)]) (fn := Tryd.f88) (c := cb_ref09_Copy_d) (Out := fun v h' => ∃ (z0 : AV), v = z0 ∧ T h' ((own_ (ocL 1 50 (ocL 1 31 (ocL 1 3 (ocV cdI)))) z0 v1) :: L)) rfl (wantedA_none rfl) kr kr kr kr (by show 1 ≤ 20; decide) (ref09_Copy_d_sem x0 _ hv1 hT) ?_
 rintro xx hp3 ⟨e2, hqhp3, hT4⟩; subst xx
 refine RunL.fin he [p3, p2, p1, (10, e2)] ?_
 refine SemY.seq ?_
 refine SemY.sq he [p3, p2, p1, (10, e2), (11, .v (.int .i64 0))] ?_
 refine SemY.block ?_
 refine SemY.loop (n := 100000) ?_
 obtain ⟨r136, hr136, h⟩ := Option.bind_eq_some_iff.1 h
 rcases r136 with w137 | w143
 ·try dsimp only at h
  refine SemYN.cutT (SemYN.wk (WkY.fr kr) (ref09_swapped_1_ok x1 x2 x3 e2 _ 0 v1 _ hr136  hp3 hT4)) ?_
  rintro _ ⟨hp138, hT139, rfl⟩
  let p5 : Nat × AV := (9, .v (.bool true))
  refine SemY.sq he [(8, e2), p5] ?_
  refine SemY.ret ?_
  have hq := Option.some.inj h; subst hq
  let p6 : Nat × AV := (8, .sl 1 (w137.map (cdL 1 (cdL 1 cdI)).enc))
  obtain ⟨hp140, hw141, hT142⟩ := WkY.frzT (E := e_ref09_swapped) (n := 93) (l := [(8, e2), p5]) (l' := [p6, p5]) hT139 (LkT.at_ ⟨.inr ⟨kr, rfl⟩, .inl kr, trivial⟩)
  exact ⟨⟨Fr 93 [p6, p5], hp140⟩, (WkY.trans (WkY.trans (WkY.fr kr) hw141) (WkY.fr kr)), .inr rfl, [.sl 1 (w137.map (cdL 1 (cdL 1 cdI)).enc), .v (.bool true)], kr, ⟨rfl, hT142⟩⟩
 ·try dsimp only at h
  refine SemYN.cutT (SemYN.wk (WkY.fr kr) (ref09_swapped_1_ok x1 x2 x3 e2 _ 0 v1 _ hr136  hp3 hT4)) ?_
  rintro _ ⟨hp144, hT145, rfl⟩
  have hq := Option.some.inj h; subst hq
  have hT146 := (T.e0 (k := 1) (ty := 50) (o := (ocL 1 31 (ocL 1 3 (ocV cdI)))) hT145)
  let p7 : Nat × AV := (9, .v (.bool false))
  let p8 : Nat × AV := (8, .sl 1 (([] : (List (List (List Int)))).map (cdL 1 (cdL 1 cdI)).enc))
  obtain ⟨hp147, hw148, hT149⟩ := WkY.frzT (E := e_ref09_swapped) (n := 93) (l := [(8, .e0), p7]) (l' := [p8, p7]) hT146 (LkT.at_ ⟨.inr ⟨kr, rfl⟩, .inl kr, trivial⟩)
  exact ⟨⟨Fr 93 [p8, p7], hp147⟩, (WkY.trans (WkY.trans (WkY.fr kr) hw148) (WkY.fr kr)), .inr rfl, [.sl 1 (([] : (List (List (List Int)))).map (cdL 1 (cdL 1 cdI)).enc), .v (.bool false)], kr, ⟨rfl, hT149⟩⟩
def cs_ref09_swapped : Cs ((List (List (List Int))) × Int × Int × Int × Unit) := (csC (cdL 1 (cdL 1 (cdL 1 cdI))) (csC cdI (csC cdI (csC cdI csN))))
def er_ref09_swapped (r : (List (List (List Int))) × Bool) : AV := .tp [(cdL 1 (cdL 1 (cdL 1 cdI))).enc r.1, cdB.enc r.2]
def t_ref09_swapped : List AV → Option AV := told cs_ref09_swapped (fun a => ref09_swapped a.1 a.2.1 a.2.2.1 a.2.2.2.1) er_ref09_swapped
theorem x_ref09_swapped : XOk 131 t_ref09_swapped := by
 refine EnvOk.x (E := e_ref09_swapped) (contract_ok e_ref09_swapped_ok (fn := Tryd.f131) (c := cb_ref09_swapped) ?h1 ?h2 ⟨Tryd.call131⟩ cs_ref09_swapped (fun a => ref09_swapped a.1 a.2.1 a.2.2.1 a.2.2.2.1) er_ref09_swapped (fun a => (by show 4 ≤ 93; decide)) ?h3 ?h4) rfl rfl
 case h1 => kernel_rfl
 case h2 => kernel_rfl
 case h3 => intro b; kernel_rfl
 case h4 =>
  intro a b h
  refine Sem.mono (Sem.ofY (ref09_swapped_sem (L := []) (hp := []) a.1 a.2.1 a.2.2.1 a.2.2.2.1 b h T.nil)) fun e s' hs => ?_
  obtain ⟨h1, ys, h2, h3, -⟩ := hs
  exact ⟨h1, ys, h2, h3⟩
/- trestle/trestleref09.better -/
noncomputable def e_ref09_better : Env := (((E0.withX 130 t_ref09_Meet).withX 129 t_ref09_Strain).withX 131 t_ref09_swapped)
theorem e_ref09_better_ok : EnvOk e_ref09_better := (EnvOk.withX (EnvOk.withX (EnvOk.withX E0_ok x_ref09_Meet.1 x_ref09_Meet.2) x_ref09_Strain.1 x_ref09_Strain.2) x_ref09_swapped.1 x_ref09_swapped.2)
noncomputable def cb_ref09_better : Code := codeOf Tryd.f110
def ref09_better_3 (x0 : Int) (x1 : (List (List (List Int)))) (v2 : Int) (c3 : Int) (c5 : Int) : Nat → Int → Option ((Unit) ⊕ ((List (List (List Int))) × Bool))
 | 0, _ => none
 | f + 1, c7 =>
  if (decide (c7 < x0)) = true then
  (ref09_swapped x1 c3 c5 c7).bind fun v9 =>
  (if v9.2 = true then (ref09_Meet x0 v9.1).bind fun v10 =>
  (ref09_Strain v10).bind fun v11 =>
  some (decide (v11 < v2)) else some false).bind fun j13 =>
  if j13 = true then
  some (.inr (v9.1, true))
  else
  ref09_better_3 x0 x1 v2 c3 c5 f (wr .i64 (c7 + 1))
  else
  some (.inl ())
def ref09_better_2 (x0 : Int) (x1 : (List (List (List Int)))) (v2 : Int) (c3 : Int) : Nat → Int → Option ((Unit) ⊕ ((List (List (List Int))) × Bool))
 | 0, _ => none
 | f + 1, c5 =>
  if (decide (c5 < x0)) = true then
  (ref09_better_3 x0 x1 v2 c3 c5 100000 (wr .i64 (c5 + 1))).bind fun r18 =>
  match r18 with
  | (.inl w19) =>
   ref09_better_2 x0 x1 v2 c3 f (wr .i64 (c5 + 1))
  | (.inr w20) =>
   some (.inr (w20.1, w20.2))
  else
  some (.inl ())
def ref09_better_1 (x0 : Int) (x1 : (List (List (List Int)))) (v2 : Int) : Nat → Int → Option ((Unit) ⊕ ((List (List (List Int))) × Bool))
 | 0, _ => none
 | f + 1, c3 =>
  if (decide (c3 < (x1.length : Int))) = true then
  (ref09_better_2 x0 x1 v2 c3 100000 0).bind fun r23 =>
  match r23 with
  | (.inl w24) =>
   ref09_better_1 x0 x1 v2 f (wr .i64 (c3 + 1))
  | (.inr w25) =>
   some (.inr (w25.1, w25.2))
  else
  some (.inl ())
def ref09_better (x0 : Int) (x1 : (List (List (List Int)))) : Option ((List (List (List Int))) × Bool) :=
 (ref09_Meet x0 x1).bind fun v1 =>
 (ref09_Strain v1).bind fun v2 =>
 (ref09_better_1 x0 x1 v2 100000 0).bind fun r28 =>
 match r28 with
 | (.inl w29) =>
  some (x1, false)
 | (.inr w30) =>
  some (w30.1, w30.2)
def cs_ref09_better : Cs (Int × (List (List (List Int))) × Unit) := (csC cdI (csC (cdL 1 (cdL 1 (cdL 1 cdI))) csN))
def er_ref09_better (r : (List (List (List Int))) × Bool) : AV := .tp [(cdL 1 (cdL 1 (cdL 1 cdI))).enc r.1, cdB.enc r.2]
set_option maxHeartbeats 4000000 in
set_option maxRecDepth 100000 in
theorem ref09_better_3_ok (x0 : Int) (x1 : (List (List (List Int)))) (v2 : Int) (c3 : Int) (c5 : Int) : ∀ (f : Nat) (c7 : Int) (r : (Unit) ⊕ ((List (List (List Int))) × Bool)), ref09_better_3 x0 x1 v2 c3 c5 f c7 = some r → SemN e_ref09_better ⟨none, false⟩ (pc cb_ref09_better [1, 1, 0, 1, 0, 0, 1, 0, 0, 1, 0, 0, 1, 0, 0, 1, 0, 0]) f ⟨Fr 53 [(0, .v (.int .i64 x0)), (1, .sl 1 (x1.map (cdL 1 (cdL 1 cdI)).enc)), (6, .v (.int .i64 v2)), (7, .v (.int .i64 c3)), (8, .v (.int .i64 c5)), (9, .v (.int .i64 c7))], []⟩ (fun e s => match r with
 | (.inl w) => e = (.exit 4) ∧ Wk e_ref09_better s ⟨Fr 53 [(0, .v (.int .i64 x0)), (1, .sl 1 (x1.map (cdL 1 (cdL 1 cdI)).enc)), (6, .v (.int .i64 v2)), (7, .v (.int .i64 c3)), (8, .v (.int .i64 c5))], []⟩
 | (.inr w) => e = .ret ∧ Wk e_ref09_better s ⟨Fr 53 [(4, .sl 1 (w.1.map (cdL 1 (cdL 1 cdI)).enc)), (5, .v (.bool w.2))], []⟩) := by
 have he := e_ref09_better_ok
 intro f
 induction f with
 | zero => intro c7 r h; cases h
 | succ f ih0 =>
  intro c7 r h
  have ih := fun (c7 : Int) => ih0 c7 r
  unfold ref09_better_3 at h
  refine SemN.succ ?_
  refine Sem.seq ?_
  let p1 : Nat × AV := (9, .v (.int .i64 c7))
  let p2 : Nat × AV := (8, .v (.int .i64 c5))
  let p3 : Nat × AV := (7, .v (.int .i64 c3))
  let p4 : Nat × AV := (6, .v (.int .i64 v2))
  let p5 : Nat × AV := (1, .sl 1 (x1.map (cdL 1 (cdL 1 cdI)).enc))
  let p6 : Nat × AV := (0, .v (.int .i64 x0))
  refine Sem.sq he [p6, p5, p4, p3, p2, p1, (31, .v (.bool (decide (c7 < x0))))] [] ?_
  refine Sem.cond (b := (decide (c7 < x0))) kr (fun hb8 => ?_) (fun hb8 => ?_)
  ·rw [if_pos hb8] at h
   refine Sem.skip ?_
   refine Sem.seq ?_
   refine Sem.block ?_
   refine Sem.seq ?_
   obtain ⟨v9, hv9, h⟩ := Option.bind_eq_some_iff.1 h
   let p7 : Nat × AV := (10, .sl 1 (v9.1.map (cdL 1 (cdL 1 cdI)).enc))
   refine Sem.runS (s1 := ⟨Fr 53 [p6, p5, p4, p3, p2, p1, p7, (11, .v (.bool v9.2))], []⟩) ?_ ?_
   ·refine RunS.segF (n := 53) he 4 [p6, p5, p4, p3, p2, p1, (35, .sl 1 (x1.map (cdL 1 (cdL 1 cdI)).enc)), (36, .v (.int .i64 c3)), (37, .v (.int .i64 c5)), (38, .v (.int .i64 c7))] [] kr ?_
    refine RunS.call he (fid := 131) (s := cs_ref09_swapped) (F := fun a => ref09_swapped a.1 a.2.1 a.2.2.1 a.2.2.2.1) (er := er_ref09_swapped) (xs := [.sl 1 (x1.map (cdL 1 (cdL 1 cdI)).enc), .v (.int .i64 c3), .v (.int .i64 c5), .v (.int .i64 c7)]) (a := (x1, c3, c5, c7, ())) rfl (wantedA_none rfl) kr kr kr kr (Sns.cons (Sn.enc (c := (cdL 1 (cdL 1 (cdL 1 cdI)))) (v := x1)) (Sns.cons (Sn.enc (c := cdI) (v := c3)) (Sns.cons (Sn.enc (c := cdI) (v := c5)) (Sns.cons (Sn.enc (c := cdI) (v := c7)) Sns.nil)))) (.inl kr) hv9 ?_
    exact RunS.last he
   refine Sem.seq ?_
   obtain ⟨j13, hj13, h⟩ := Option.bind_eq_some_iff.1 h
   refine Sem.runS (s1 := ⟨Fr 53 [p6, p5, p4, p3, p2, p1, p7, (50, .v (.bool j13))], []⟩) ?_ ?_
   ·refine RunS.segF (n := 53) he 2 [p6, p5, p4, p3, p2, p1, p7, (43, .v (.bool v9.2))] [] kr ?_
    rcases Bool.eq_false_or_eq_true v9.2 with hc17 | hc17
    ·rw [if_pos hc17] at hj13
     rw [hc17]
     let p8 : Nat × AV := (45, .sl 1 (v9.1.map (cdL 1 (cdL 1 cdI)).enc))
     refine RunS.segF (n := 53) he 2 [p6, p5, p4, p3, p2, p1, p7, (43, .v (.bool true)), (44, .v (.int .i64 x0)), p8] [] kr ?_
     obtain ⟨v10, hv10, hj13⟩ := Option.bind_eq_some_iff.1 hj13
     refine RunS.call he (fid := 130) (s := cs_ref09_Meet) (F := fun a => ref09_Meet a.1 a.2.1) (er := er_ref09_Meet) (xs := [.v (.int .i64 x0), .sl 1 (v9.1.map (cdL 1 (cdL 1 cdI)).enc)]) (a := (x0, v9.1, ())) rfl kr kr kr kr kr (Sns.cons (Sn.enc (c := cdI) (v := x0)) (Sns.cons (Sn.enc (c := (cdL 1 (cdL 1 (cdL 1 cdI)))) (v := v9.1)) Sns.nil)) (.inl kr) hv10 ?_
     obtain ⟨v11, hv11, hj13⟩ := Option.bind_eq_some_iff.1 hj13
     refine RunS.call he (fid := 129) (s := cs_ref09_Strain) (F := fun a => ref09_Strain a.1) (er := er_ref09_Strain) (xs := [.sl 1 (v10.map (cdL 1 cdI).enc)]) (a := (v10, ())) rfl kr kr kr kr kr (Sns.cons (Sn.enc (c := (cdL 1 (cdL 1 cdI))) (v := v10)) Sns.nil) (.inl kr) hv11 ?_
     refine RunS.segF (n := 53) he 3 [p6, p5, p4, p3, p2, p1, p7, (44, .v (.int .i64 x0)), p8, (46, .sl 1 (v10.map (cdL 1 cdI).enc)), (47, .v (.int .i64 v11)), (48, .v (.int .i64 v2)), (49, .v (.bool (decide (v11 < v2)))), (50, .v (.bool (decide (v11 < v2))))] [] kr ?_
     have hq := Option.some.inj hj13; subst hq
     exact RunS.done rfl (Wk.fr kr)
    ·rw [if_f hc17] at hj13
     rw [hc17]
     refine RunS.segF (n := 53) he 7 [p6, p5, p4, p3, p2, p1, p7, (44, .tp []), (45, .tp []), (46, .tp []), (47, .tp []), (48, .tp []), (49, .tp []), (50, .v (.bool false))] [] kr ?_
     have hq := Option.some.inj hj13; subst hq
     exact RunS.done rfl (Wk.fr kr)
   refine Sem.cond (b := j13) kr (fun hb14 => ?_) (fun hb14 => ?_)
   ·rw [if_pos hb14] at h
    refine Sem.sq he [(4, .sl 1 (v9.1.map (cdL 1 (cdL 1 cdI)).enc)), (5, .v (.bool true))] [] ?_
    refine Sem.ret ?_
    have hq := Option.some.inj h; subst hq
    exact ⟨rfl, (Wk.fr kr)⟩
   ·rw [if_f hb14] at h
    refine Sem.skip ?_
    let p9 : Nat × AV := (9, .v (.int .i64 (wr .i64 (c7 + 1))))
    refine Sem.rg he [p6, p5, p4, p3, p2, p9] [] ?_
    exact SemN.wk (s1 := ⟨Fr 53 [p6, p5, p4, p3, p2, p9], []⟩) (Wk.fr kr) (ih (wr .i64 (c7 + 1)) h)
  ·rw [if_f hb8] at h
   refine Sem.exit ?_
   have hq := Option.some.inj h; subst hq
   exact ⟨rfl, (Wk.fr kr)⟩
set_option maxHeartbeats 4000000 in
set_option maxRecDepth 100000 in
theorem ref09_better_2_ok (x0 : Int) (x1 : (List (List (List Int)))) (v2 : Int) (c3 : Int) : ∀ (f : Nat) (c5 : Int) (r : (Unit) ⊕ ((List (List (List Int))) × Bool)), ref09_better_2 x0 x1 v2 c3 f c5 = some r → SemN e_ref09_better ⟨none, false⟩ (pc cb_ref09_better [1, 1, 0, 1, 0, 0, 1, 0, 0, 1, 0, 0]) f ⟨Fr 53 [(0, .v (.int .i64 x0)), (1, .sl 1 (x1.map (cdL 1 (cdL 1 cdI)).enc)), (6, .v (.int .i64 v2)), (7, .v (.int .i64 c3)), (8, .v (.int .i64 c5))], []⟩ (fun e s => match r with
 | (.inl w) => e = (.exit 2) ∧ Wk e_ref09_better s ⟨Fr 53 [(0, .v (.int .i64 x0)), (1, .sl 1 (x1.map (cdL 1 (cdL 1 cdI)).enc)), (6, .v (.int .i64 v2)), (7, .v (.int .i64 c3))], []⟩
 | (.inr w) => e = .ret ∧ Wk e_ref09_better s ⟨Fr 53 [(4, .sl 1 (w.1.map (cdL 1 (cdL 1 cdI)).enc)), (5, .v (.bool w.2))], []⟩) := by
 have he := e_ref09_better_ok
 intro f
 induction f with
 | zero => intro c5 r h; cases h
 | succ f ih0 =>
  intro c5 r h
  have ih := fun (c5 : Int) => ih0 c5 r
  unfold ref09_better_2 at h
  refine SemN.succ ?_
  refine Sem.seq ?_
  let p1 : Nat × AV := (8, .v (.int .i64 c5))
  let p2 : Nat × AV := (7, .v (.int .i64 c3))
  let p3 : Nat × AV := (6, .v (.int .i64 v2))
  let p4 : Nat × AV := (1, .sl 1 (x1.map (cdL 1 (cdL 1 cdI)).enc))
  let p5 : Nat × AV := (0, .v (.int .i64 x0))
  refine Sem.sq he [p5, p4, p3, p2, p1, (24, .v (.bool (decide (c5 < x0))))] [] ?_
  refine Sem.cond (b := (decide (c5 < x0))) kr (fun hb6 => ?_) (fun hb6 => ?_)
  ·rw [if_pos hb6] at h
   refine Sem.skip ?_
   refine Sem.seq ?_
   refine Sem.block ?_
   let p6 : Nat × AV := (9, .v (.int .i64 (wr .i64 (c5 + 1))))
   refine Sem.sq he [p5, p4, p3, p2, p1, p6] [] ?_
   refine Sem.block ?_
   obtain ⟨r18, hr18, h⟩ := Option.bind_eq_some_iff.1 h
   refine Sem.loop (n := 100000) ?_
   rcases r18 with w19 | w20
   ·try dsimp only at h
    refine Sem.cutN (SemN.wk (s1 := ⟨Fr 53 [p5, p4, p3, p2, p1, p6], []⟩) (Wk.fr kr) (ref09_better_3_ok x0 x1 v2 c3 c5 _ (wr .i64 (c5 + 1)) _ hr18)) ?_
    let p7 : Nat × AV := (8, .v (.int .i64 (wr .i64 (c5 + 1))))
    refine Sem.rg he [p5, p4, p3, p2, p7] [] ?_
    exact SemN.wk (s1 := ⟨Fr 53 [p5, p4, p3, p2, p7], []⟩) (Wk.fr kr) (ih (wr .i64 (c5 + 1)) h)
   ·try dsimp only at h
    refine Sem.cutN (SemN.wk (s1 := ⟨Fr 53 [p5, p4, p3, p2, p1, p6], []⟩) (Wk.fr kr) (ref09_better_3_ok x0 x1 v2 c3 c5 _ (wr .i64 (c5 + 1)) _ hr18)) ?_
    have hq := Option.some.inj h; subst hq
    exact ⟨rfl, (Wk.fr kr)⟩
  ·rw [if_f hb6] at h
   refine Sem.exit ?_
   have hq := Option.some.inj h; subst hq
   exact ⟨rfl, (Wk.fr kr)⟩
set_option maxHeartbeats 4000000 in
set_option maxRecDepth 100000 in
theorem ref09_better_1_ok (x0 : Int) (x1 : (List (List (List Int)))) (v2 : Int) : ∀ (f : Nat) (c3 : Int) (r : (Unit) ⊕ ((List (List (List Int))) × Bool)), ref09_better_1 x0 x1 v2 f c3 = some r → SemN e_ref09_better ⟨none, false⟩ (pc cb_ref09_better [1, 1, 0, 1, 0, 0]) f ⟨Fr 53 [(0, .v (.int .i64 x0)), (1, .sl 1 (x1.map (cdL 1 (cdL 1 cdI)).enc)), (6, .v (.int .i64 v2)), (7, .v (.int .i64 c3))], []⟩ (fun e s => match r with
 | (.inl w) => e = (.exit 0) ∧ Wk e_ref09_better s ⟨Fr 53 [(1, .sl 1 (x1.map (cdL 1 (cdL 1 cdI)).enc))], []⟩
 | (.inr w) => e = .ret ∧ Wk e_ref09_better s ⟨Fr 53 [(4, .sl 1 (w.1.map (cdL 1 (cdL 1 cdI)).enc)), (5, .v (.bool w.2))], []⟩) := by
 have he := e_ref09_better_ok
 intro f
 induction f with
 | zero => intro c3 r h; cases h
 | succ f ih0 =>
  intro c3 r h
  have ih := fun (c3 : Int) => ih0 c3 r
  unfold ref09_better_1 at h
  refine SemN.succ ?_
  refine Sem.seq ?_
  refine Sem.seq ?_
  let p1 : Nat × AV := (7, .v (.int .i64 c3))
  let p2 : Nat × AV := (6, .v (.int .i64 v2))
  let p3 : Nat × AV := (1, .sl 1 (x1.map (cdL 1 (cdL 1 cdI)).enc))
  let p4 : Nat × AV := (0, .v (.int .i64 x0))
  refine Sem.runS (s1 := ⟨Fr 53 [p4, p3, p2, p1, (19, .v (.bool (decide (c3 < (x1.length : Int)))))], []⟩) ?_ ?_
  ·refine RunS.segF (n := 53) he 2 [p4, p3, p2, p1, (16, .v (.int .i64 c3)), (17, .sl 1 (x1.map (cdL 1 (cdL 1 cdI)).enc))] [] kr ?_
   refine RunS.one he 0 rfl (op_q (wantedA_none rfl) rfl (q_len (a := .sl 1 (x1.map (cdL 1 (cdL 1 cdI)).enc)) kr (len_sl (el := 50) kr))) ?_
   exact RunS.last he
  refine Sem.cond (b := (decide (c3 < (x1.length : Int)))) kr (fun hb4 => ?_) (fun hb4 => ?_)
  ·rw [if_pos hb4] at h
   refine Sem.skip ?_
   refine Sem.seq ?_
   refine Sem.block ?_
   let p5 : Nat × AV := (8, .v (.int .i64 0))
   refine Sem.sq he [p4, p3, p2, p1, p5] [] ?_
   refine Sem.block ?_
   obtain ⟨r23, hr23, h⟩ := Option.bind_eq_some_iff.1 h
   refine Sem.loop (n := 100000) ?_
   rcases r23 with w24 | w25
   ·try dsimp only at h
    refine Sem.cutN (SemN.wk (s1 := ⟨Fr 53 [p4, p3, p2, p1, p5], []⟩) (Wk.fr kr) (ref09_better_2_ok x0 x1 v2 c3 _ 0 _ hr23)) ?_
    let p6 : Nat × AV := (7, .v (.int .i64 (wr .i64 (c3 + 1))))
    refine Sem.rg he [p4, p3, p2, p6] [] ?_
    exact SemN.wk (s1 := ⟨Fr 53 [p4, p3, p2, p6], []⟩) (Wk.fr kr) (ih (wr .i64 (c3 + 1)) h)
   ·try dsimp only at h
    refine Sem.cutN (SemN.wk (s1 := ⟨Fr 53 [p4, p3, p2, p1, p5], []⟩) (Wk.fr kr) (ref09_better_2_ok x0 x1 v2 c3 _ 0 _ hr23)) ?_
    have hq := Option.some.inj h; subst hq
    exact ⟨rfl, (Wk.fr kr)⟩
  ·rw [if_f hb4] at h
   refine Sem.exit ?_
   have hq := Option.some.inj h; subst hq
   exact ⟨rfl, (Wk.fr kr)⟩
set_option maxHeartbeats 4000000 in
set_option maxRecDepth 100000 in
theorem ref09_better_sem (x0 : Int) (x1 : (List (List (List Int)))) (r : (List (List (List Int))) × Bool) (h : ref09_better x0 x1 = some r) : Sem e_ref09_better ⟨none, false⟩ cb_ref09_better ⟨Fr 53 (pairs0 0 (cs_ref09_better.enc (x0, x1, ()))), []⟩ fun e s' => (e = .normal ∨ e = .ret) ∧ ∃ xs, resA e_ref09_better.P s'.fr s'.hp Tryd.f110.results.toList = some xs ∧ retA xs = er_ref09_better r := by
 have he := e_ref09_better_ok
 unfold ref09_better at h
 let p1 : Nat × AV := (1, .sl 1 (x1.map (cdL 1 (cdL 1 cdI)).enc))
 let p2 : Nat × AV := (0, .v (.int .i64 x0))
 refine Sem.wkQ (Sem.wk (s1 := ⟨Fr 53 [p2, p1], []⟩) (Wk.fr kr) ?_)
 refine Sem.sq he [p2, p1] [] ?_
 refine Sem.seq ?_
 obtain ⟨v1, hv1, h⟩ := Option.bind_eq_some_iff.1 h
 obtain ⟨v2, hv2, h⟩ := Option.bind_eq_some_iff.1 h
 let p3 : Nat × AV := (6, .v (.int .i64 v2))
 refine Sem.runS (s1 := ⟨Fr 53 [p2, p1, p3], []⟩) ?_ ?_
 ·refine RunS.segF (n := 53) he 2 [p2, p1, (12, .v (.int .i64 x0)), (13, .sl 1 (x1.map (cdL 1 (cdL 1 cdI)).enc))] [] kr ?_
  refine RunS.call he (fid := 130) (s := cs_ref09_Meet) (F := fun a => ref09_Meet a.1 a.2.1) (er := er_ref09_Meet) (xs := [.v (.int .i64 x0), .sl 1 (x1.map (cdL 1 (cdL 1 cdI)).enc)]) (a := (x0, x1, ())) rfl (wantedA_none rfl) kr kr kr kr (Sns.cons (Sn.enc (c := cdI) (v := x0)) (Sns.cons (Sn.enc (c := (cdL 1 (cdL 1 (cdL 1 cdI)))) (v := x1)) Sns.nil)) (.inl kr) hv1 ?_
  refine RunS.call he (fid := 129) (s := cs_ref09_Strain) (F := fun a => ref09_Strain a.1) (er := er_ref09_Strain) (xs := [.sl 1 (v1.map (cdL 1 cdI).enc)]) (a := (v1, ())) rfl (wantedA_none rfl) kr kr kr kr (Sns.cons (Sn.enc (c := (cdL 1 (cdL 1 cdI))) (v := v1)) Sns.nil) (.inl kr) hv2 ?_
  exact RunS.last he
 refine Sem.seq ?_
 let p4 : Nat × AV := (7, .v (.int .i64 0))
 refine Sem.sq he [p2, p1, p3, p4] [] ?_
 refine Sem.block ?_
 obtain ⟨r28, hr28, h⟩ := Option.bind_eq_some_iff.1 h
 refine Sem.loop (n := 100000) ?_
 rcases r28 with w29 | w30
 ·try dsimp only at h
  refine Sem.cutN (SemN.wk (s1 := ⟨Fr 53 [p2, p1, p3, p4], []⟩) (Wk.fr kr) (ref09_better_1_ok x0 x1 v2 _ 0 _ hr28)) ?_
  let p5 : Nat × AV := (4, .sl 1 (x1.map (cdL 1 (cdL 1 cdI)).enc))
  refine Sem.sq he [p5, (5, .v (.bool false))] [] ?_
  refine Sem.ret ?_
  have hq := Option.some.inj h; subst hq
  exact ⟨⟨Fr 53 [p5, (5, .v (.bool false))], []⟩, (Wk.fr kr), .inr rfl, [.sl 1 (x1.map (cdL 1 (cdL 1 cdI)).enc), .v (.bool false)], kr, kr⟩
 ·try dsimp only at h
  refine Sem.cutN (SemN.wk (s1 := ⟨Fr 53 [p2, p1, p3, p4], []⟩) (Wk.fr kr) (ref09_better_1_ok x0 x1 v2 _ 0 _ hr28)) ?_
  have hq := Option.some.inj h; subst hq
  exact ⟨⟨Fr 53 [(4, .sl 1 (w30.1.map (cdL 1 (cdL 1 cdI)).enc)), (5, .v (.bool w30.2))], []⟩, (Wk.fr kr), .inr rfl, [.sl 1 (w30.1.map (cdL 1 (cdL 1 cdI)).enc), .v (.bool w30.2)], kr, kr⟩
def t_ref09_better : List AV → Option AV := told cs_ref09_better (fun a => ref09_better a.1 a.2.1) er_ref09_better
theorem x_ref09_better : XOk 110 t_ref09_better := by
 refine EnvOk.x (E := e_ref09_better) (contract_ok e_ref09_better_ok (fn := Tryd.f110) (c := cb_ref09_better) ?h1 ?h2 ⟨Tryd.call110⟩ cs_ref09_better (fun a => ref09_better a.1 a.2.1) er_ref09_better (fun a => (by show 2 ≤ 53; decide)) ?h3 ?h4) rfl rfl
 case h1 => kernel_rfl
 case h2 => kernel_rfl
 case h3 => intro b; kernel_rfl
 case h4 => exact fun a b h => ref09_better_sem a.1 a.2.1 b h
/- trestle/trestleref09.Polish -/
noncomputable def e_ref09_Polish : Env := (E0.withX 110 t_ref09_better)
theorem e_ref09_Polish_ok : EnvOk e_ref09_Polish := (EnvOk.withX E0_ok x_ref09_better.1 x_ref09_better.2)
noncomputable def cb_ref09_Polish : Code := codeOf Tryd.f78
def ref09_Polish_1 (x0 : Int) (x2 : Int) : Nat → (List (List (List Int))) → Int → Option (((List (List (List Int))) × Int) ⊕ ((List (List (List Int))) × Int))
 | 0, _, _ => none
 | f + 1, c1, c2 =>
  if (decide (c2 < x2)) = true then
  (ref09_better x0 c1).bind fun v4 =>
  if (!v4.2) = true then
  some (.inr (c1, c2))
  else
  ref09_Polish_1 x0 x2 f v4.1 (wr .i64 (c2 + 1))
  else
  some (.inl (c1, c2))
def ref09_Polish (x0 : Int) (x1 : (List (List (List Int)))) (x2 : Int) : Option ((List (List (List Int))) × Int) :=
 (ref09_Polish_1 x0 x2 100000 x1 0).bind fun r10 =>
 match r10 with
 | (.inl w11) =>
  some (w11.1, w11.2)
 | (.inr w12) =>
  some (w12.1, w12.2)
def cs_ref09_Polish : Cs (Int × (List (List (List Int))) × Int × Unit) := (csC cdI (csC (cdL 1 (cdL 1 (cdL 1 cdI))) (csC cdI csN)))
def er_ref09_Polish (r : (List (List (List Int))) × Int) : AV := .tp [(cdL 1 (cdL 1 (cdL 1 cdI))).enc r.1, cdI.enc r.2]
set_option maxHeartbeats 4000000 in
set_option maxRecDepth 100000 in
theorem ref09_Polish_1_ok (x0 : Int) (x2 : Int) : ∀ (f : Nat) (c1 : (List (List (List Int)))) (c2 : Int) (r : ((List (List (List Int))) × Int) ⊕ ((List (List (List Int))) × Int)), ref09_Polish_1 x0 x2 f c1 c2 = some r → SemN e_ref09_Polish ⟨none, false⟩ (pc cb_ref09_Polish [1, 1, 0, 0, 0]) f ⟨Fr 29 [(0, .v (.int .i64 x0)), (1, .sl 1 (c1.map (cdL 1 (cdL 1 cdI)).enc)), (2, .v (.int .i64 x2)), (8, .v (.int .i64 c2))], []⟩ (fun e s => match r with
 | (.inl w) => e = (.exit 0) ∧ Wk e_ref09_Polish s ⟨Fr 29 [(1, .sl 1 (w.1.map (cdL 1 (cdL 1 cdI)).enc)), (8, .v (.int .i64 w.2))], []⟩
 | (.inr w) => e = .ret ∧ Wk e_ref09_Polish s ⟨Fr 29 [(6, .sl 1 (w.1.map (cdL 1 (cdL 1 cdI)).enc)), (7, .v (.int .i64 w.2))], []⟩) := by
 have he := e_ref09_Polish_ok
 intro f
 induction f with
 | zero => intro c1 c2 r h; cases h
 | succ f ih0 =>
  intro c1 c2 r h
  have ih := fun (c1 : (List (List (List Int)))) (c2 : Int) => ih0 c1 c2 r
  unfold ref09_Polish_1 at h
  refine SemN.succ ?_
  refine Sem.seq ?_
  let p1 : Nat × AV := (8, .v (.int .i64 c2))
  let p2 : Nat × AV := (2, .v (.int .i64 x2))
  let p3 : Nat × AV := (1, .sl 1 (c1.map (cdL 1 (cdL 1 cdI)).enc))
  let p4 : Nat × AV := (0, .v (.int .i64 x0))
  refine Sem.sq he [p4, p3, p2, p1, (13, .v (.bool (decide (c2 < x2))))] [] ?_
  refine Sem.cond (b := (decide (c2 < x2))) kr (fun hb3 => ?_) (fun hb3 => ?_)
  ·rw [if_pos hb3] at h
   refine Sem.skip ?_
   refine Sem.block ?_
   refine Sem.seq ?_
   obtain ⟨v4, hv4, h⟩ := Option.bind_eq_some_iff.1 h
   let p5 : Nat × AV := (9, .sl 1 (v4.1.map (cdL 1 (cdL 1 cdI)).enc))
   refine Sem.runS (s1 := ⟨Fr 29 [p4, p3, p2, p1, p5, (10, .v (.bool v4.2))], []⟩) ?_ ?_
   ·refine RunS.segF (n := 29) he 2 [p4, p3, p2, p1, (15, .v (.int .i64 x0)), (16, .sl 1 (c1.map (cdL 1 (cdL 1 cdI)).enc))] [] kr ?_
    refine RunS.call he (fid := 110) (s := cs_ref09_better) (F := fun a => ref09_better a.1 a.2.1) (er := er_ref09_better) (xs := [.v (.int .i64 x0), .sl 1 (c1.map (cdL 1 (cdL 1 cdI)).enc)]) (a := (x0, c1, ())) rfl (wantedA_none rfl) kr kr kr kr (Sns.cons (Sn.enc (c := cdI) (v := x0)) (Sns.cons (Sn.enc (c := (cdL 1 (cdL 1 (cdL 1 cdI)))) (v := c1)) Sns.nil)) (.inl kr) hv4 ?_
    exact RunS.last he
   refine Sem.seq ?_
   refine Sem.sq he [p4, p3, p2, p1, p5, (21, .v (.bool (!v4.2)))] [] ?_
   refine Sem.cond (b := (!v4.2)) kr (fun hb5 => ?_) (fun hb5 => ?_)
   ·rw [if_pos hb5] at h
    refine Sem.sq he [(6, .sl 1 (c1.map (cdL 1 (cdL 1 cdI)).enc)), (7, .v (.int .i64 c2))] [] ?_
    refine Sem.ret ?_
    have hq := Option.some.inj h; subst hq
    exact ⟨rfl, (Wk.fr kr)⟩
   ·rw [if_f hb5] at h
    refine Sem.skip ?_
    let p6 : Nat × AV := (1, .sl 1 (v4.1.map (cdL 1 (cdL 1 cdI)).enc))
    refine Sem.sq he [p4, p6, p2, p1] [] ?_
    let p7 : Nat × AV := (8, .v (.int .i64 (wr .i64 (c2 + 1))))
    refine Sem.rg he [p4, p6, p2, p7] [] ?_
    exact SemN.wk (s1 := ⟨Fr 29 [p4, p6, p2, p7], []⟩) (Wk.fr kr) (ih v4.1 (wr .i64 (c2 + 1)) h)
  ·rw [if_f hb3] at h
   refine Sem.exit ?_
   have hq := Option.some.inj h; subst hq
   exact ⟨rfl, (Wk.fr kr)⟩
set_option maxHeartbeats 4000000 in
set_option maxRecDepth 100000 in
theorem ref09_Polish_sem (x0 : Int) (x1 : (List (List (List Int)))) (x2 : Int) (r : (List (List (List Int))) × Int) (h : ref09_Polish x0 x1 x2 = some r) : Sem e_ref09_Polish ⟨none, false⟩ cb_ref09_Polish ⟨Fr 29 (pairs0 0 (cs_ref09_Polish.enc (x0, x1, x2, ()))), []⟩ fun e s' => (e = .normal ∨ e = .ret) ∧ ∃ xs, resA e_ref09_Polish.P s'.fr s'.hp Tryd.f78.results.toList = some xs ∧ retA xs = er_ref09_Polish r := by
 have he := e_ref09_Polish_ok
 unfold ref09_Polish at h
 let p1 : Nat × AV := (2, .v (.int .i64 x2))
 let p2 : Nat × AV := (1, .sl 1 (x1.map (cdL 1 (cdL 1 cdI)).enc))
 let p3 : Nat × AV := (0, .v (.int .i64 x0))
 refine Sem.wkQ (Sem.wk (s1 := ⟨Fr 29 [p3, p2, p1], []⟩) (Wk.fr kr) ?_)
 refine Sem.sq he [p3, p2, p1] [] ?_
 let p4 : Nat × AV := (8, .v (.int .i64 0))
 refine Sem.sq he [p3, p2, p1, p4] [] ?_
 refine Sem.seq ?_
 refine Sem.block ?_
 obtain ⟨r10, hr10, h⟩ := Option.bind_eq_some_iff.1 h
 refine Sem.loop (n := 100000) ?_
 rcases r10 with w11 | w12
 ·try dsimp only at h
  refine Sem.cutN (SemN.wk (s1 := ⟨Fr 29 [p3, p2, p1, p4], []⟩) (Wk.fr kr) (ref09_Polish_1_ok x0 x2 _ x1 0 _ hr10)) ?_
  let p5 : Nat × AV := (6, .sl 1 (w11.1.map (cdL 1 (cdL 1 cdI)).enc))
  refine Sem.sq he [p5, (7, .v (.int .i64 w11.2))] [] ?_
  refine Sem.ret ?_
  have hq := Option.some.inj h; subst hq
  exact ⟨⟨Fr 29 [p5, (7, .v (.int .i64 w11.2))], []⟩, (Wk.fr kr), .inr rfl, [.sl 1 (w11.1.map (cdL 1 (cdL 1 cdI)).enc), .v (.int .i64 w11.2)], kr, kr⟩
 ·try dsimp only at h
  refine Sem.cutN (SemN.wk (s1 := ⟨Fr 29 [p3, p2, p1, p4], []⟩) (Wk.fr kr) (ref09_Polish_1_ok x0 x2 _ x1 0 _ hr10)) ?_
  have hq := Option.some.inj h; subst hq
  exact ⟨⟨Fr 29 [(6, .sl 1 (w12.1.map (cdL 1 (cdL 1 cdI)).enc)), (7, .v (.int .i64 w12.2))], []⟩, (Wk.fr kr), .inr rfl, [.sl 1 (w12.1.map (cdL 1 (cdL 1 cdI)).enc), .v (.int .i64 w12.2)], kr, kr⟩
def t_ref09_Polish : List AV → Option AV := told cs_ref09_Polish (fun a => ref09_Polish a.1 a.2.1 a.2.2.1) er_ref09_Polish
theorem x_ref09_Polish : XOk 78 t_ref09_Polish := by
 refine EnvOk.x (E := e_ref09_Polish) (contract_ok e_ref09_Polish_ok (fn := Tryd.f78) (c := cb_ref09_Polish) ?h1 ?h2 ⟨Tryd.call78⟩ cs_ref09_Polish (fun a => ref09_Polish a.1 a.2.1 a.2.2.1) er_ref09_Polish (fun a => (by show 3 ≤ 29; decide)) ?h3 ?h4) rfl rfl
 case h1 => kernel_rfl
 case h2 => kernel_rfl
 case h3 => intro b; kernel_rfl
 case h4 => exact fun a b h => ref09_Polish_sem a.1 a.2.1 a.2.2.1 b h
/- trestle/trestlekit.SameInts -/
noncomputable def e_kit_SameInts : Env := E0
theorem e_kit_SameInts_ok : EnvOk e_kit_SameInts := E0_ok
noncomputable def cb_kit_SameInts : Code := codeOf Tryd.f43
def kit_SameInts_1 (x0 : (List Int)) (x1 : (List Int)) : Nat → Int → Option ((Unit) ⊕ (Bool))
 | 0, _ => none
 | f + 1, c2 =>
  if (decide (c2 < (x0.length : Int))) = true then
  (idx x0 c2).bind fun v4 =>
  (idx x1 c2).bind fun v5 =>
  if (v4 != v5) = true then
  some (.inr false)
  else
  kit_SameInts_1 x0 x1 f (wr .i64 (c2 + 1))
  else
  some (.inl ())
def kit_SameInts (x0 : (List Int)) (x1 : (List Int)) : Option (Bool) :=
 if ((x0.length : Int) != (x1.length : Int)) = true then
 some false
 else
 (kit_SameInts_1 x0 x1 100000 0).bind fun r8 =>
 match r8 with
 | (.inl w9) =>
  some true
 | (.inr w10) =>
  some w10
def cs_kit_SameInts : Cs ((List Int) × (List Int) × Unit) := (csC (cdL 1 cdI) (csC (cdL 1 cdI) csN))
def er_kit_SameInts (r : Bool) : AV := cdB.enc r
set_option maxHeartbeats 4000000 in
set_option maxRecDepth 100000 in
theorem kit_SameInts_1_ok (x0 : (List Int)) (x1 : (List Int)) : ∀ (f : Nat) (c2 : Int) (r : (Unit) ⊕ (Bool)), kit_SameInts_1 x0 x1 f c2 = some r → SemN e_kit_SameInts ⟨none, false⟩ (pc cb_kit_SameInts [1, 1, 0, 1, 0, 0]) f ⟨Fr 26 [(0, .sl 1 (x0.map cdI.enc)), (1, .sl 1 (x1.map cdI.enc)), (5, .v (.int .i64 c2))], []⟩ (fun e s => match r with
 | (.inl w) => e = (.exit 0) ∧ Wk e_kit_SameInts s ⟨Fr 26 [], []⟩
 | (.inr w) => e = .ret ∧ Wk e_kit_SameInts s ⟨Fr 26 [(4, .v (.bool w))], []⟩) := by
 have he := e_kit_SameInts_ok
 intro f
 induction f with
 | zero => intro c2 r h; cases h
 | succ f ih0 =>
  intro c2 r h
  have ih := fun (c2 : Int) => ih0 c2 r
  unfold kit_SameInts_1 at h
  refine SemN.succ ?_
  refine Sem.seq ?_
  refine Sem.seq ?_
  let p1 : Nat × AV := (5, .v (.int .i64 c2))
  let p2 : Nat × AV := (1, .sl 1 (x1.map cdI.enc))
  let p3 : Nat × AV := (0, .sl 1 (x0.map cdI.enc))
  refine Sem.runS (s1 := ⟨Fr 26 [p3, p2, p1, (14, .v (.bool (decide (c2 < (x0.length : Int)))))], []⟩) ?_ ?_
  ·refine RunS.segF (n := 26) he 2 [p3, p2, p1, (11, .v (.int .i64 c2)), (12, .sl 1 (x0.map cdI.enc))] [] kr ?_
   refine RunS.one he 0 rfl (op_q (wantedA_none rfl) rfl (q_len (a := .sl 1 (x0.map cdI.enc)) kr (len_sl (el := 3) kr))) ?_
   exact RunS.last he
  refine Sem.cond (b := (decide (c2 < (x0.length : Int)))) kr (fun hb3 => ?_) (fun hb3 => ?_)
  ·rw [if_pos hb3] at h
   refine Sem.skip ?_
   refine Sem.seq ?_
   refine Sem.block ?_
   refine Sem.seq ?_
   obtain ⟨v4, hv4, h⟩ := Option.bind_eq_some_iff.1 h
   obtain ⟨v5, hv5, h⟩ := Option.bind_eq_some_iff.1 h
   refine Sem.runDS he (s1 := ⟨Fr 26 [p3, p2, p1, (25, .v (.bool (v4 != v5)))], []⟩) kr ?_ ?_
   ·refine RunDS.segF (n := 26) he 2 [p3, p2, p1, (17, .sl 1 (x0.map cdI.enc)), (18, .v (.int .i64 c2))] [] kr kr ?_
    refine RunDS.one he rfl kr (opd_q kr (wantedA_none rfl) rfl (q_indexAddr (a := .sl 1 (x0.map cdI.enc)) (b := .v (.int .i64 c2)) kr kr (ix_sl (e := cdI.enc) (el := 3) (k := 1) (ki := .i64) kr kr hv4)) kr) ?_
    refine RunDS.segF (n := 26) he 3 [p3, p2, p1, (20, .v (.int .i64 v4)), (21, .sl 1 (x1.map cdI.enc)), (22, .v (.int .i64 c2))] [] kr kr ?_
    refine RunDS.one he rfl kr (opd_q kr (wantedA_none rfl) rfl (q_indexAddr (a := .sl 1 (x1.map cdI.enc)) (b := .v (.int .i64 c2)) kr kr (ix_sl (e := cdI.enc) (el := 3) (k := 1) (ki := .i64) kr kr hv5)) kr) ?_
    refine RunDS.segF (n := 26) he 2 [p3, p2, p1, (25, .v (.bool (v4 != v5)))] [] kr kr ?_
    exact RunDS.done rfl (Wk.fr kr)
   refine Sem.cond (b := (v4 != v5)) kr (fun hb6 => ?_) (fun hb6 => ?_)
   ·rw [if_pos hb6] at h
    refine Sem.sq he [(4, .v (.bool false))] [] ?_
    refine Sem.ret ?_
    have hq := Option.some.inj h; subst hq
    exact ⟨rfl, (Wk.fr kr)⟩
   ·rw [if_f hb6] at h
    refine Sem.skip ?_
    let p4 : Nat × AV := (5, .v (.int .i64 (wr .i64 (c2 + 1))))
    refine Sem.rg he [p3, p2, p4] [] ?_
    exact SemN.wk (s1 := ⟨Fr 26 [p3, p2, p4], []⟩) (Wk.fr kr) (ih (wr .i64 (c2 + 1)) h)
  ·rw [if_f hb3] at h
   refine Sem.exit ?_
   have hq := Option.some.inj h; subst hq
   exact ⟨rfl, (Wk.fr kr)⟩
set_option maxHeartbeats 4000000 in
set_option maxRecDepth 100000 in
theorem kit_SameInts_sem (x0 : (List Int)) (x1 : (List Int)) (r : Bool) (h : kit_SameInts x0 x1 = some r) : Sem e_kit_SameInts ⟨none, false⟩ cb_kit_SameInts ⟨Fr 26 (pairs0 0 (cs_kit_SameInts.enc (x0, x1, ()))), []⟩ fun e s' => (e = .normal ∨ e = .ret) ∧ ∃ xs, resA e_kit_SameInts.P s'.fr s'.hp Tryd.f43.results.toList = some xs ∧ retA xs = er_kit_SameInts r := by
 have he := e_kit_SameInts_ok
 unfold kit_SameInts at h
 let p1 : Nat × AV := (1, .sl 1 (x1.map cdI.enc))
 let p2 : Nat × AV := (0, .sl 1 (x0.map cdI.enc))
 refine Sem.wkQ (Sem.wk (s1 := ⟨Fr 26 [p2, p1], []⟩) (Wk.fr kr) ?_)
 refine Sem.sq he [p2, p1] [] ?_
 refine Sem.seq ?_
 refine Sem.seq ?_
 refine Sem.runS (s1 := ⟨Fr 26 [p2, p1, (10, .v (.bool ((x0.length : Int) != (x1.length : Int))))], []⟩) ?_ ?_
 ·refine RunS.segF (n := 26) he 1 [p2, p1, (6, .sl 1 (x0.map cdI.enc))] [] kr ?_
  refine RunS.one he 0 rfl (op_q (wantedA_none rfl) rfl (q_len (a := .sl 1 (x0.map cdI.enc)) kr (len_sl (el := 3) kr))) ?_
  refine RunS.segF (n := 26) he 1 [p2, p1, (7, .v (.int .i64 (x0.length : Int))), (8, .sl 1 (x1.map cdI.enc))] [] kr ?_
  refine RunS.one he 0 rfl (op_q (wantedA_none rfl) rfl (q_len (a := .sl 1 (x1.map cdI.enc)) kr (len_sl (el := 3) kr))) ?_
  exact RunS.last he
 refine Sem.cond (b := ((x0.length : Int) != (x1.length : Int))) kr (fun hb1 => ?_) (fun hb1 => ?_)
 ·rw [if_pos hb1] at h
  refine Sem.sq he [(4, .v (.bool false))] [] ?_
  refine Sem.ret ?_
  have hq := Option.some.inj h; subst hq
  exact ⟨⟨Fr 26 [(4, .v (.bool false))], []⟩, (Wk.fr kr), .inr rfl, [.v (.bool false)], kr, kr⟩
 ·rw [if_f hb1] at h
  refine Sem.skip ?_
  refine Sem.seq ?_
  let p3 : Nat × AV := (5, .v (.int .i64 0))
  refine Sem.sq he [p2, p1, p3] [] ?_
  refine Sem.block ?_
  obtain ⟨r8, hr8, h⟩ := Option.bind_eq_some_iff.1 h
  refine Sem.loop (n := 100000) ?_
  rcases r8 with w9 | w10
  ·try dsimp only at h
   refine Sem.cutN (SemN.wk (s1 := ⟨Fr 26 [p2, p1, p3], []⟩) (Wk.fr kr) (kit_SameInts_1_ok x0 x1 _ 0 _ hr8)) ?_
   refine Sem.sq he [(4, .v (.bool true))] [] ?_
   refine Sem.ret ?_
   have hq := Option.some.inj h; subst hq
   exact ⟨⟨Fr 26 [(4, .v (.bool true))], []⟩, (Wk.fr kr), .inr rfl, [.v (.bool true)], kr, kr⟩
  ·try dsimp only at h
   refine Sem.cutN (SemN.wk (s1 := ⟨Fr 26 [p2, p1, p3], []⟩) (Wk.fr kr) (kit_SameInts_1_ok x0 x1 _ 0 _ hr8)) ?_
   have hq := Option.some.inj h; subst hq
   exact ⟨⟨Fr 26 [(4, .v (.bool w10))], []⟩, (Wk.fr kr), .inr rfl, [.v (.bool w10)], kr, kr⟩
def t_kit_SameInts : List AV → Option AV := told cs_kit_SameInts (fun a => kit_SameInts a.1 a.2.1) er_kit_SameInts
theorem x_kit_SameInts : XOk 43 t_kit_SameInts := by
 refine EnvOk.x (E := e_kit_SameInts) (contract_ok e_kit_SameInts_ok (fn := Tryd.f43) (c := cb_kit_SameInts) ?h1 ?h2 ⟨Tryd.call43⟩ cs_kit_SameInts (fun a => kit_SameInts a.1 a.2.1) er_kit_SameInts (fun a => (by show 2 ≤ 26; decide)) ?h3 ?h4) rfl rfl
 case h1 => kernel_rfl
 case h2 => kernel_rfl
 case h3 => intro b; kernel_rfl
 case h4 => exact fun a b h => kit_SameInts_sem a.1 a.2.1 b h
/- trestle/trestlekit.SameLists -/
noncomputable def e_kit_SameLists : Env := (E0.withX 43 t_kit_SameInts)
theorem e_kit_SameLists_ok : EnvOk e_kit_SameLists := (EnvOk.withX E0_ok x_kit_SameInts.1 x_kit_SameInts.2)
noncomputable def cb_kit_SameLists : Code := codeOf Tryd.f56
def kit_SameLists_1 (x0 : (List (List Int))) (x1 : (List (List Int))) : Nat → Int → Option ((Unit) ⊕ (Bool))
 | 0, _ => none
 | f + 1, c2 =>
  if (decide (c2 < (x0.length : Int))) = true then
  (idx x0 c2).bind fun v4 =>
  (idx x1 c2).bind fun v5 =>
  (kit_SameInts v4 v5).bind fun v6 =>
  if (!v6) = true then
  some (.inr false)
  else
  kit_SameLists_1 x0 x1 f (wr .i64 (c2 + 1))
  else
  some (.inl ())
def kit_SameLists (x0 : (List (List Int))) (x1 : (List (List Int))) : Option (Bool) :=
 if ((x0.length : Int) != (x1.length : Int)) = true then
 some false
 else
 (kit_SameLists_1 x0 x1 100000 0).bind fun r9 =>
 match r9 with
 | (.inl w10) =>
  some true
 | (.inr w11) =>
  some w11
def cs_kit_SameLists : Cs ((List (List Int)) × (List (List Int)) × Unit) := (csC (cdL 1 (cdL 1 cdI)) (csC (cdL 1 (cdL 1 cdI)) csN))
def er_kit_SameLists (r : Bool) : AV := cdB.enc r
set_option maxHeartbeats 4000000 in
set_option maxRecDepth 100000 in
theorem kit_SameLists_1_ok (x0 : (List (List Int))) (x1 : (List (List Int))) : ∀ (f : Nat) (c2 : Int) (r : (Unit) ⊕ (Bool)), kit_SameLists_1 x0 x1 f c2 = some r → SemN e_kit_SameLists ⟨none, false⟩ (pc cb_kit_SameLists [1, 1, 0, 1, 0, 0]) f ⟨Fr 27 [(0, .sl 1 (x0.map (cdL 1 cdI).enc)), (1, .sl 1 (x1.map (cdL 1 cdI).enc)), (5, .v (.int .i64 c2))], []⟩ (fun e s => match r with
 | (.inl w) => e = (.exit 0) ∧ Wk e_kit_SameLists s ⟨Fr 27 [], []⟩
 | (.inr w) => e = .ret ∧ Wk e_kit_SameLists s ⟨Fr 27 [(4, .v (.bool w))], []⟩) := by
 have he := e_kit_SameLists_ok
 intro f
 induction f with
 | zero => intro c2 r h; cases h
 | succ f ih0 =>
  intro c2 r h
  have ih := fun (c2 : Int) => ih0 c2 r
  unfold kit_SameLists_1 at h
  refine SemN.succ ?_
  refine Sem.seq ?_
  refine Sem.seq ?_
  let p1 : Nat × AV := (5, .v (.int .i64 c2))
  let p2 : Nat × AV := (1, .sl 1 (x1.map (cdL 1 cdI).enc))
  let p3 : Nat × AV := (0, .sl 1 (x0.map (cdL 1 cdI).enc))
  refine Sem.runS (s1 := ⟨Fr 27 [p3, p2, p1, (14, .v (.bool (decide (c2 < (x0.length : Int)))))], []⟩) ?_ ?_
  ·refine RunS.segF (n := 27) he 2 [p3, p2, p1, (11, .v (.int .i64 c2)), (12, .sl 1 (x0.map (cdL 1 cdI).enc))] [] kr ?_
   refine RunS.one he 0 rfl (op_q (wantedA_none rfl) rfl (q_len (a := .sl 1 (x0.map (cdL 1 cdI).enc)) kr (len_sl (el := 31) kr))) ?_
   exact RunS.last he
  refine Sem.cond (b := (decide (c2 < (x0.length : Int)))) kr (fun hb3 => ?_) (fun hb3 => ?_)
  ·rw [if_pos hb3] at h
   refine Sem.skip ?_
   refine Sem.seq ?_
   refine Sem.block ?_
   refine Sem.seq ?_
   obtain ⟨v4, hv4, h⟩ := Option.bind_eq_some_iff.1 h
   obtain ⟨v5, hv5, h⟩ := Option.bind_eq_some_iff.1 h
   obtain ⟨v6, hv6, h⟩ := Option.bind_eq_some_iff.1 h
   refine Sem.runDS he (s1 := ⟨Fr 27 [p3, p2, p1, (26, .v (.bool (!v6)))], []⟩) kr ?_ ?_
   ·refine RunDS.segF (n := 27) he 2 [p3, p2, p1, (17, .sl 1 (x0.map (cdL 1 cdI).enc)), (18, .v (.int .i64 c2))] [] kr kr ?_
    refine RunDS.one he rfl kr (opd_q kr (wantedA_none rfl) rfl (q_indexAddr (a := .sl 1 (x0.map (cdL 1 cdI).enc)) (b := .v (.int .i64 c2)) kr kr (ix_sl (e := (cdL 1 cdI).enc) (el := 31) (k := 1) (ki := .i64) kr kr hv4)) kr) ?_
    refine RunDS.segF (n := 27) he 3 [p3, p2, p1, (20, .sl 1 (v4.map cdI.enc)), (21, .sl 1 (x1.map (cdL 1 cdI).enc)), (22, .v (.int .i64 c2))] [] kr kr ?_
    refine RunDS.one he rfl kr (opd_q kr (wantedA_none rfl) rfl (q_indexAddr (a := .sl 1 (x1.map (cdL 1 cdI).enc)) (b := .v (.int .i64 c2)) kr kr (ix_sl (e := (cdL 1 cdI).enc) (el := 31) (k := 1) (ki := .i64) kr kr hv5)) kr) ?_
    refine RunDS.segF (n := 27) he 1 [p3, p2, p1, (20, .sl 1 (v4.map cdI.enc)), (24, .sl 1 (v5.map cdI.enc))] [] kr kr ?_
    refine RunDS.call he (fid := 43) (s := cs_kit_SameInts) (F := fun a => kit_SameInts a.1 a.2.1) (er := er_kit_SameInts) (xs := [.sl 1 (v4.map cdI.enc), .sl 1 (v5.map cdI.enc)]) (a := (v4, v5, ())) rfl (wantedA_none rfl) kr kr kr (Sns.cons (Sn.enc (c := (cdL 1 cdI)) (v := v4)) (Sns.cons (Sn.enc (c := (cdL 1 cdI)) (v := v5)) Sns.nil)) kr hv6 ?_
    refine RunDS.segF (n := 27) he 1 [p3, p2, p1, (26, .v (.bool (!v6)))] [] kr kr ?_
    exact RunDS.done rfl (Wk.fr kr)
   refine Sem.cond (b := (!v6)) kr (fun hb7 => ?_) (fun hb7 => ?_)
   ·rw [if_pos hb7] at h
    refine Sem.sq he [(4, .v (.bool false))] [] ?_
    refine Sem.ret ?_
    have hq := Option.some.inj h; subst hq
    exact ⟨rfl, (Wk.fr kr)⟩
   ·rw [if_f hb7] at h
    refine Sem.skip ?_
    let p4 : Nat × AV := (5, .v (.int .i64 (wr .i64 (c2 + 1))))
    refine Sem.rg he [p3, p2, p4] [] ?_
    exact SemN.wk (s1 := ⟨Fr 27 [p3, p2, p4], []⟩) (Wk.fr kr) (ih (wr .i64 (c2 + 1)) h)
  ·rw [if_f hb3] at h
   refine Sem.exit ?_
   have hq := Option.some.inj h; subst hq
   exact ⟨rfl, (Wk.fr kr)⟩
set_option maxHeartbeats 4000000 in
set_option maxRecDepth 100000 in
theorem kit_SameLists_sem (x0 : (List (List Int))) (x1 : (List (List Int))) (r : Bool) (h : kit_SameLists x0 x1 = some r) : Sem e_kit_SameLists ⟨none, false⟩ cb_kit_SameLists ⟨Fr 27 (pairs0 0 (cs_kit_SameLists.enc (x0, x1, ()))), []⟩ fun e s' => (e = .normal ∨ e = .ret) ∧ ∃ xs, resA e_kit_SameLists.P s'.fr s'.hp Tryd.f56.results.toList = some xs ∧ retA xs = er_kit_SameLists r := by
 have he := e_kit_SameLists_ok
 unfold kit_SameLists at h
 let p1 : Nat × AV := (1, .sl 1 (x1.map (cdL 1 cdI).enc))
 let p2 : Nat × AV := (0, .sl 1 (x0.map (cdL 1 cdI).enc))
 refine Sem.wkQ (Sem.wk (s1 := ⟨Fr 27 [p2, p1], []⟩) (Wk.fr kr) ?_)
 refine Sem.sq he [p2, p1] [] ?_
 refine Sem.seq ?_
 refine Sem.seq ?_
 refine Sem.runS (s1 := ⟨Fr 27 [p2, p1, (10, .v (.bool ((x0.length : Int) != (x1.length : Int))))], []⟩) ?_ ?_
 ·refine RunS.segF (n := 27) he 1 [p2, p1, (6, .sl 1 (x0.map (cdL 1 cdI).enc))] [] kr ?_
  refine RunS.one he 0 rfl (op_q (wantedA_none rfl) rfl (q_len (a := .sl 1 (x0.map (cdL 1 cdI).enc)) kr (len_sl (el := 31) kr))) ?_
  refine RunS.segF (n := 27) he 1 [p2, p1, (7, .v (.int .i64 (x0.length : Int))), (8, .sl 1 (x1.map (cdL 1 cdI).enc))] [] kr ?_
  refine RunS.one he 0 rfl (op_q (wantedA_none rfl) rfl (q_len (a := .sl 1 (x1.map (cdL 1 cdI).enc)) kr (len_sl (el := 31) kr))) ?_
  exact RunS.last he
 refine Sem.cond (b := ((x0.length : Int) != (x1.length : Int))) kr (fun hb1 => ?_) (fun hb1 => ?_)
 ·rw [if_pos hb1] at h
  refine Sem.sq he [(4, .v (.bool false))] [] ?_
  refine Sem.ret ?_
  have hq := Option.some.inj h; subst hq
  exact ⟨⟨Fr 27 [(4, .v (.bool false))], []⟩, (Wk.fr kr), .inr rfl, [.v (.bool false)], kr, kr⟩
 ·rw [if_f hb1] at h
  refine Sem.skip ?_
  refine Sem.seq ?_
  let p3 : Nat × AV := (5, .v (.int .i64 0))
  refine Sem.sq he [p2, p1, p3] [] ?_
  refine Sem.block ?_
  obtain ⟨r9, hr9, h⟩ := Option.bind_eq_some_iff.1 h
  refine Sem.loop (n := 100000) ?_
  rcases r9 with w10 | w11
  ·try dsimp only at h
   refine Sem.cutN (SemN.wk (s1 := ⟨Fr 27 [p2, p1, p3], []⟩) (Wk.fr kr) (kit_SameLists_1_ok x0 x1 _ 0 _ hr9)) ?_
   refine Sem.sq he [(4, .v (.bool true))] [] ?_
   refine Sem.ret ?_
   have hq := Option.some.inj h; subst hq
   exact ⟨⟨Fr 27 [(4, .v (.bool true))], []⟩, (Wk.fr kr), .inr rfl, [.v (.bool true)], kr, kr⟩
  ·try dsimp only at h
   refine Sem.cutN (SemN.wk (s1 := ⟨Fr 27 [p2, p1, p3], []⟩) (Wk.fr kr) (kit_SameLists_1_ok x0 x1 _ 0 _ hr9)) ?_
   have hq := Option.some.inj h; subst hq
   exact ⟨⟨Fr 27 [(4, .v (.bool w11))], []⟩, (Wk.fr kr), .inr rfl, [.v (.bool w11)], kr, kr⟩
def t_kit_SameLists : List AV → Option AV := told cs_kit_SameLists (fun a => kit_SameLists a.1 a.2.1) er_kit_SameLists
theorem x_kit_SameLists : XOk 56 t_kit_SameLists := by
 refine EnvOk.x (E := e_kit_SameLists) (contract_ok e_kit_SameLists_ok (fn := Tryd.f56) (c := cb_kit_SameLists) ?h1 ?h2 ⟨Tryd.call56⟩ cs_kit_SameLists (fun a => kit_SameLists a.1 a.2.1) er_kit_SameLists (fun a => (by show 2 ≤ 27; decide)) ?h3 ?h4) rfl rfl
 case h1 => kernel_rfl
 case h2 => kernel_rfl
 case h3 => intro b; kernel_rfl
 case h4 => exact fun a b h => kit_SameLists_sem a.1 a.2.1 b h
/- trestle/trestlelaw09.Same$1 -/
noncomputable def e_law09_Same_1 : Env := (E0.withX 56 t_kit_SameLists)
theorem e_law09_Same_1_ok : EnvOk e_law09_Same_1 := (EnvOk.withX E0_ok x_kit_SameLists.1 x_kit_SameLists.2)
noncomputable def cb_law09_Same_1 : Code := codeOf Tryd.f55
def law09_Same_1 (x0 : (List (List Int))) (x1 : (List (List Int))) : Option (Bool) :=
 (kit_SameLists x0 x1).bind fun v1 =>
 some v1
def cs_law09_Same_1 : Cs ((List (List Int)) × (List (List Int)) × Unit) := (csC (cdL 1 (cdL 1 cdI)) (csC (cdL 1 (cdL 1 cdI)) csN))
def er_law09_Same_1 (r : Bool) : AV := cdB.enc r
set_option maxHeartbeats 4000000 in
set_option maxRecDepth 100000 in
theorem law09_Same_1_sem (x0 : (List (List Int))) (x1 : (List (List Int))) (r : Bool) (h : law09_Same_1 x0 x1 = some r) : Sem e_law09_Same_1 ⟨none, false⟩ cb_law09_Same_1 ⟨Fr 8 (pairs0 0 (cs_law09_Same_1.enc (x0, x1, ()))), []⟩ fun e s' => (e = .normal ∨ e = .ret) ∧ ∃ xs, resA e_law09_Same_1.P s'.fr s'.hp Tryd.f55.results.toList = some xs ∧ retA xs = er_law09_Same_1 r := by
 have he := e_law09_Same_1_ok
 unfold law09_Same_1 at h
 let p1 : Nat × AV := (1, .sl 1 (x1.map (cdL 1 cdI).enc))
 let p2 : Nat × AV := (0, .sl 1 (x0.map (cdL 1 cdI).enc))
 refine Sem.wkQ (Sem.wk (s1 := ⟨Fr 8 [p2, p1], []⟩) (Wk.fr kr) ?_)
 refine Sem.sq he [p2, p1] [] ?_
 refine Sem.seq ?_
 obtain ⟨v1, hv1, h⟩ := Option.bind_eq_some_iff.1 h
 refine Sem.runS (s1 := ⟨Fr 8 [(4, .v (.bool v1))], []⟩) ?_ ?_
 ·refine RunS.segF (n := 8) he 2 [(5, .sl 1 (x0.map (cdL 1 cdI).enc)), (6, .sl 1 (x1.map (cdL 1 cdI).enc))] [] kr ?_
  refine RunS.call he (fid := 56) (s := cs_kit_SameLists) (F := fun a => kit_SameLists a.1 a.2.1) (er := er_kit_SameLists) (xs := [.sl 1 (x0.map (cdL 1 cdI).enc), .sl 1 (x1.map (cdL 1 cdI).enc)]) (a := (x0, x1, ())) rfl (wantedA_none rfl) kr kr kr kr (Sns.cons (Sn.enc (c := (cdL 1 (cdL 1 cdI))) (v := x0)) (Sns.cons (Sn.enc (c := (cdL 1 (cdL 1 cdI))) (v := x1)) Sns.nil)) (.inl kr) hv1 ?_
  exact RunS.last he
 refine Sem.ret ?_
 have hq := Option.some.inj h; subst hq
 exact ⟨⟨Fr 8 [(4, .v (.bool v1))], []⟩, (Wk.fr kr), .inr rfl, [.v (.bool v1)], kr, kr⟩
def t_law09_Same_1 : List AV → Option AV := told cs_law09_Same_1 (fun a => law09_Same_1 a.1 a.2.1) er_law09_Same_1
theorem x_law09_Same_1 : XOk 55 t_law09_Same_1 := by
 refine EnvOk.x (E := e_law09_Same_1) (contract_ok e_law09_Same_1_ok (fn := Tryd.f55) (c := cb_law09_Same_1) ?h1 ?h2 ⟨Tryd.call55⟩ cs_law09_Same_1 (fun a => law09_Same_1 a.1 a.2.1) er_law09_Same_1 (fun a => (by show 2 ≤ 8; decide)) ?h3 ?h4) rfl rfl
 case h1 => kernel_rfl
 case h2 => kernel_rfl
 case h3 => intro b; kernel_rfl
 case h4 => exact fun a b h => law09_Same_1_sem a.1 a.2.1 b h
/- slices.EqualFunc[[][][]int,[][][]int,[][]int,[][]int] -/
noncomputable def e_slices_EqualFunc_LLL_LLL_LL_LL__law09_Same_1 : Env := (E0.withX 55 t_law09_Same_1)
theorem e_slices_EqualFunc_LLL_LLL_LL_LL__law09_Same_1_ok : EnvOk e_slices_EqualFunc_LLL_LLL_LL_LL__law09_Same_1 := (EnvOk.withX E0_ok x_law09_Same_1.1 x_law09_Same_1.2)
noncomputable def cb_slices_EqualFunc_LLL_LLL_LL_LL__law09_Same_1 : Code := codeOf Tryd.f54
def slices_EqualFunc_LLL_LLL_LL_LL__law09_Same_1_1 (x0 : (List (List (List Int)))) (x1 : (List (List (List Int)))) : Nat → Int → Option ((Unit) ⊕ (Bool))
 | 0, _ => none
 | f + 1, c2 =>
  if (decide (c2 < (x0.length : Int))) = true then
  (idx x0 c2).bind fun v4 =>
  (idx x1 c2).bind fun v5 =>
  (law09_Same_1 v4 v5).bind fun v6 =>
  if (!v6) = true then
  some (.inr false)
  else
  slices_EqualFunc_LLL_LLL_LL_LL__law09_Same_1_1 x0 x1 f (wr .i64 (c2 + 1))
  else
  some (.inl ())
def slices_EqualFunc_LLL_LLL_LL_LL__law09_Same_1 (x0 : (List (List (List Int)))) (x1 : (List (List (List Int)))) : Option (Bool) :=
 if ((x0.length : Int) != (x1.length : Int)) = true then
 some false
 else
 (slices_EqualFunc_LLL_LLL_LL_LL__law09_Same_1_1 x0 x1 100000 0).bind fun r9 =>
 match r9 with
 | (.inl w10) =>
  some true
 | (.inr w11) =>
  some w11
def er_slices_EqualFunc_LLL_LLL_LL_LL__law09_Same_1 (r : Bool) : AV := cdB.enc r
set_option maxHeartbeats 4000000 in
set_option maxRecDepth 100000 in
theorem slices_EqualFunc_LLL_LLL_LL_LL__law09_Same_1_1_ok (x0 : (List (List (List Int)))) (x1 : (List (List (List Int)))) : ∀ (f : Nat) (c2 : Int) (r : (Unit) ⊕ (Bool)), slices_EqualFunc_LLL_LLL_LL_LL__law09_Same_1_1 x0 x1 f c2 = some r → SemN e_slices_EqualFunc_LLL_LLL_LL_LL__law09_Same_1 ⟨none, false⟩ (pc cb_slices_EqualFunc_LLL_LLL_LL_LL__law09_Same_1 [1, 1, 0, 1, 0, 0]) f ⟨Fr 32 [(1, .sl 1 (x1.map (cdL 1 (cdL 1 cdI)).enc)), (2, .fn 55 [] []), (15, .sl 1 (x0.map (cdL 1 (cdL 1 cdI)).enc)), (16, .v (.int .i64 (x0.length : Int))), (17, .v (.int .i64 c2))], []⟩ (fun e s => match r with
 | (.inl w) => e = (.exit 0) ∧ Wk e_slices_EqualFunc_LLL_LLL_LL_LL__law09_Same_1 s ⟨Fr 32 [], []⟩
 | (.inr w) => e = .ret ∧ Wk e_slices_EqualFunc_LLL_LLL_LL_LL__law09_Same_1 s ⟨Fr 32 [(6, .v (.bool w))], []⟩) := by
 have he := e_slices_EqualFunc_LLL_LLL_LL_LL__law09_Same_1_ok
 intro f
 induction f with
 | zero => intro c2 r h; cases h
 | succ f ih0 =>
  intro c2 r h
  have ih := fun (c2 : Int) => ih0 c2 r
  unfold slices_EqualFunc_LLL_LLL_LL_LL__law09_Same_1_1 at h
  refine SemN.succ ?_
  let p1 : Nat × AV := (17, .v (.int .i64 c2))
  let p2 : Nat × AV := (16, .v (.int .i64 (x0.length : Int)))
  let p3 : Nat × AV := (15, .sl 1 (x0.map (cdL 1 (cdL 1 cdI)).enc))
  let p4 : Nat × AV := (2, .fn 55 [] [])
  let p5 : Nat × AV := (1, .sl 1 (x1.map (cdL 1 (cdL 1 cdI)).enc))
  refine Sem.sq he [p5, p4, p3, p2, p1, (18, .v (.bool (decide (c2 < (x0.length : Int)))))] [] ?_
  refine Sem.seq ?_
  refine Sem.cond (b := (decide (c2 < (x0.length : Int)))) kr (fun hb3 => ?_) (fun hb3 => ?_)
  ·rw [if_pos hb3] at h
   refine Sem.skip ?_
   refine Sem.seq ?_
   refine Sem.block ?_
   refine Sem.seq ?_
   obtain ⟨v4, hv4, h⟩ := Option.bind_eq_some_iff.1 h
   let p6 : Nat × AV := (8, .sl 1 (v4.map (cdL 1 cdI).enc))
   refine Sem.runS (s1 := ⟨Fr 32 [p5, p4, (7, .v (.int .i64 c2)), p6, p3, p2, p1], []⟩) ?_ ?_
   ·refine RunS.segF (n := 32) he 1 [p5, p4, p3, p2, p1, (19, .v (.int .i64 c2))] [] kr ?_
    refine RunS.one he 0 rfl (op_q (wantedA_none rfl) rfl (q_indexAddr (a := .sl 1 (x0.map (cdL 1 (cdL 1 cdI)).enc)) (b := .v (.int .i64 c2)) kr kr (ix_sl (e := (cdL 1 (cdL 1 cdI)).enc) (el := 50) (k := 1) (ki := .i64) kr kr hv4))) ?_
    exact RunS.last he
   refine Sem.seq ?_
   obtain ⟨v5, hv5, h⟩ := Option.bind_eq_some_iff.1 h
   refine Sem.runS (s1 := ⟨Fr 32 [p5, p4, p6, (9, .sl 1 (v5.map (cdL 1 cdI).enc)), p3, p2, p1], []⟩) ?_ ?_
   ·refine RunS.segF (n := 32) he 2 [p5, p4, p6, p3, p2, p1, (22, .sl 1 (x1.map (cdL 1 (cdL 1 cdI)).enc)), (23, .v (.int .i64 c2))] [] kr ?_
    refine RunS.one he 0 rfl (op_q (wantedA_none rfl) rfl (q_indexAddr (a := .sl 1 (x1.map (cdL 1 (cdL 1 cdI)).enc)) (b := .v (.int .i64 c2)) kr kr (ix_sl (e := (cdL 1 (cdL 1 cdI)).enc) (el := 50) (k := 1) (ki := .i64) kr kr hv5))) ?_
    exact RunS.last he
   refine Sem.seq ?_
   obtain ⟨v6, hv6, h⟩ := Option.bind_eq_some_iff.1 h
   refine Sem.runS (s1 := ⟨Fr 32 [p5, p4, p3, p2, p1, (30, .v (.bool (!v6)))], []⟩) ?_ ?_
   ·refine RunS.segF (n := 32) he 3 [p5, p4, p3, p2, p1, (26, .fn 55 [] []), (27, .sl 1 (v4.map (cdL 1 cdI).enc)), (28, .sl 1 (v5.map (cdL 1 cdI).enc))] [] kr ?_
    refine RunS.call he (fid := 55) (s := cs_law09_Same_1) (F := fun a => law09_Same_1 a.1 a.2.1) (er := er_law09_Same_1) (xs := [.sl 1 (v4.map (cdL 1 cdI).enc), .sl 1 (v5.map (cdL 1 cdI).enc)]) (a := (v4, v5, ())) rfl (wantedA_none rfl) kr kr kr kr (Sns.cons (Sn.enc (c := (cdL 1 (cdL 1 cdI))) (v := v4)) (Sns.cons (Sn.enc (c := (cdL 1 (cdL 1 cdI))) (v := v5)) Sns.nil)) (.inl kr) hv6 ?_
    exact RunS.last he
   refine Sem.cond (b := (!v6)) kr (fun hb7 => ?_) (fun hb7 => ?_)
   ·rw [if_pos hb7] at h
    refine Sem.sq he [(6, .v (.bool false))] [] ?_
    refine Sem.ret ?_
    have hq := Option.some.inj h; subst hq
    exact ⟨rfl, (Wk.fr kr)⟩
   ·rw [if_f hb7] at h
    refine Sem.skip ?_
    let p7 : Nat × AV := (17, .v (.int .i64 (wr .i64 (c2 + 1))))
    refine Sem.rg he [p5, p4, p3, p2, p7] [] ?_
    exact SemN.wk (s1 := ⟨Fr 32 [p5, p4, p3, p2, p7], []⟩) (Wk.fr kr) (ih (wr .i64 (c2 + 1)) h)
  ·rw [if_f hb3] at h
   refine Sem.exit ?_
   have hq := Option.some.inj h; subst hq
   exact ⟨rfl, (Wk.fr kr)⟩
set_option maxHeartbeats 4000000 in
set_option maxRecDepth 100000 in
theorem slices_EqualFunc_LLL_LLL_LL_LL__law09_Same_1_sem (x0 : (List (List (List Int)))) (x1 : (List (List (List Int)))) (r : Bool) (h : slices_EqualFunc_LLL_LLL_LL_LL__law09_Same_1 x0 x1 = some r) : Sem e_slices_EqualFunc_LLL_LLL_LL_LL__law09_Same_1 ⟨none, false⟩ cb_slices_EqualFunc_LLL_LLL_LL_LL__law09_Same_1 ⟨Fr 32 (pairs0 0 [.sl 1 (x0.map (cdL 1 (cdL 1 cdI)).enc), .sl 1 (x1.map (cdL 1 (cdL 1 cdI)).enc), .fn 55 [] []]), []⟩ fun e s' => (e = .normal ∨ e = .ret) ∧ ∃ xs, resA e_slices_EqualFunc_LLL_LLL_LL_LL__law09_Same_1.P s'.fr s'.hp Tryd.f54.results.toList = some xs ∧ (retA xs = er_slices_EqualFunc_LLL_LLL_LL_LL__law09_Same_1 r ∧ s'.hp = []) := by
 have he := e_slices_EqualFunc_LLL_LLL_LL_LL__law09_Same_1_ok
 unfold slices_EqualFunc_LLL_LLL_LL_LL__law09_Same_1 at h
 let p1 : Nat × AV := (2, .fn 55 [] [])
 let p2 : Nat × AV := (1, .sl 1 (x1.map (cdL 1 (cdL 1 cdI)).enc))
 let p3 : Nat × AV := (0, .sl 1 (x0.map (cdL 1 (cdL 1 cdI)).enc))
 refine Sem.wkQ (Sem.wk (s1 := ⟨Fr 32 [p3, p2, p1], []⟩) (Wk.fr kr) ?_)
 refine Sem.sq he [p3, p2, p1] [] ?_
 refine Sem.seq ?_
 refine Sem.seq ?_
 refine Sem.runS (s1 := ⟨Fr 32 [p3, p2, p1, (14, .v (.bool ((x0.length : Int) != (x1.length : Int))))], []⟩) ?_ ?_
 ·refine RunS.segF (n := 32) he 1 [p3, p2, p1, (10, .sl 1 (x0.map (cdL 1 (cdL 1 cdI)).enc))] [] kr ?_
  refine RunS.one he 0 rfl (op_q (wantedA_none rfl) rfl (q_len (a := .sl 1 (x0.map (cdL 1 (cdL 1 cdI)).enc)) kr (len_sl (el := 50) kr))) ?_
  refine RunS.segF (n := 32) he 1 [p3, p2, p1, (11, .v (.int .i64 (x0.length : Int))), (12, .sl 1 (x1.map (cdL 1 (cdL 1 cdI)).enc))] [] kr ?_
  refine RunS.one he 0 rfl (op_q (wantedA_none rfl) rfl (q_len (a := .sl 1 (x1.map (cdL 1 (cdL 1 cdI)).enc)) kr (len_sl (el := 50) kr))) ?_
  exact RunS.last he
 refine Sem.cond (b := ((x0.length : Int) != (x1.length : Int))) kr (fun hb1 => ?_) (fun hb1 => ?_)
 ·rw [if_pos hb1] at h
  refine Sem.sq he [(6, .v (.bool false))] [] ?_
  refine Sem.ret ?_
  have hq := Option.some.inj h; subst hq
  exact ⟨⟨Fr 32 [(6, .v (.bool false))], []⟩, (Wk.fr kr), .inr rfl, [.v (.bool false)], kr, ⟨kr, rfl⟩⟩
 ·rw [if_f hb1] at h
  refine Sem.skip ?_
  refine Sem.seq ?_
  refine Sem.seq ?_
  let p4 : Nat × AV := (17, .v (.int .i64 0))
  let p5 : Nat × AV := (16, .v (.int .i64 (x0.length : Int)))
  let p6 : Nat × AV := (15, .sl 1 (x0.map (cdL 1 (cdL 1 cdI)).enc))
  refine Sem.runS (s1 := ⟨Fr 32 [p2, p1, p6, p5, p4], []⟩) ?_ ?_
  ·refine RunS.segF (n := 32) he 1 [p2, p1, p6] [] kr ?_
   refine RunS.one he 0 rfl (op_q (wantedA_none rfl) rfl (q_len (a := .sl 1 (x0.map (cdL 1 (cdL 1 cdI)).enc)) kr (len_sl (el := 50) kr))) ?_
   exact RunS.last he
  refine Sem.block ?_
  obtain ⟨r9, hr9, h⟩ := Option.bind_eq_some_iff.1 h
  refine Sem.loop (n := 100000) ?_
  rcases r9 with w10 | w11
  ·try dsimp only at h
   refine Sem.cutN (SemN.wk (s1 := ⟨Fr 32 [p2, p1, p6, p5, p4], []⟩) (Wk.fr kr) (slices_EqualFunc_LLL_LLL_LL_LL__law09_Same_1_1_ok x0 x1 _ 0 _ hr9)) ?_
   refine Sem.sq he [(6, .v (.bool true))] [] ?_
   refine Sem.ret ?_
   have hq := Option.some.inj h; subst hq
   exact ⟨⟨Fr 32 [(6, .v (.bool true))], []⟩, (Wk.fr kr), .inr rfl, [.v (.bool true)], kr, ⟨kr, rfl⟩⟩
  ·try dsimp only at h
   refine Sem.cutN (SemN.wk (s1 := ⟨Fr 32 [p2, p1, p6, p5, p4], []⟩) (Wk.fr kr) (slices_EqualFunc_LLL_LLL_LL_LL__law09_Same_1_1_ok x0 x1 _ 0 _ hr9)) ?_
   have hq := Option.some.inj h; subst hq
   exact ⟨⟨Fr 32 [(6, .v (.bool w11))], []⟩, (Wk.fr kr), .inr rfl, [.v (.bool w11)], kr, ⟨kr, rfl⟩⟩
theorem s_slices_EqualFunc_LLL_LLL_LL_LL__law09_Same_1 (x0 : (List (List (List Int)))) (x1 : (List (List (List Int)))) (r : Bool) (h : slices_EqualFunc_LLL_LLL_LL_LL__law09_Same_1 x0 x1 = some r) : SOk 54 [.sl 1 (x0.map (cdL 1 (cdL 1 cdI)).enc), .sl 1 (x1.map (cdL 1 (cdL 1 cdI)).enc), .fn 55 [] []] (fun x h' => x = er_slices_EqualFunc_LLL_LLL_LL_LL__law09_Same_1 r ∧ h' = []) :=
 sok_of_sem e_slices_EqualFunc_LLL_LLL_LL_LL__law09_Same_1_ok rfl rfl (fn := Tryd.f54) (c := cb_slices_EqualFunc_LLL_LLL_LL_LL__law09_Same_1) kr kr ⟨Tryd.call54⟩ (by show 3 ≤ 32; decide) (slices_EqualFunc_LLL_LLL_LL_LL__law09_Same_1_sem x0 x1 r h)
/- trestle/trestlelaw09.Same -/
noncomputable def e_law09_Same : Env := E0
theorem e_law09_Same_ok : EnvOk e_law09_Same := E0_ok
noncomputable def cb_law09_Same : Code := codeOf Tryd.f18
def law09_Same (x0 : (List (List (List Int)))) (x1 : (List (List (List Int)))) : Option (Bool) :=
 (slices_EqualFunc_LLL_LLL_LL_LL__law09_Same_1 x0 x1).bind fun v1 =>
 some v1
def cs_law09_Same : Cs ((List (List (List Int))) × (List (List (List Int))) × Unit) := (csC (cdL 1 (cdL 1 (cdL 1 cdI))) (csC (cdL 1 (cdL 1 (cdL 1 cdI))) csN))
def er_law09_Same (r : Bool) : AV := cdB.enc r
set_option maxHeartbeats 4000000 in
set_option maxRecDepth 100000 in
theorem law09_Same_sem (x0 : (List (List (List Int)))) (x1 : (List (List (List Int)))) (r : Bool) (h : law09_Same x0 x1 = some r) : Sem e_law09_Same ⟨none, false⟩ cb_law09_Same ⟨Fr 8 (pairs0 0 (cs_law09_Same.enc (x0, x1, ()))), []⟩ fun e s' => (e = .normal ∨ e = .ret) ∧ ∃ xs, resA e_law09_Same.P s'.fr s'.hp Tryd.f18.results.toList = some xs ∧ retA xs = er_law09_Same r := by
 have he := e_law09_Same_ok
 unfold law09_Same at h
 let p1 : Nat × AV := (1, .sl 1 (x1.map (cdL 1 (cdL 1 cdI)).enc))
 let p2 : Nat × AV := (0, .sl 1 (x0.map (cdL 1 (cdL 1 cdI)).enc))
 refine Sem.wkQ (Sem.wk (s1 := ⟨Fr 8 [p2, p1], []⟩) (Wk.fr kr) ?_)
 refine Sem.sq he [p2, p1] [] ?_
 refine Sem.seq ?_
 obtain ⟨v1, hv1, h⟩ := Option.bind_eq_some_iff.1 h
 refine Sem.runS (s1 := ⟨Fr 8 [(4, .v (.bool v1))], []⟩) ?_ ?_
 ·refine RunS.segF (n := 8) he 2 [(5, .sl 1 (x0.map (cdL 1 (cdL 1 cdI)).enc)), (6, .sl 1 (x1.map (cdL 1 (cdL 1 cdI)).enc))] [] kr ?_
  refine RunS.callS rfl rfl (s_slices_EqualFunc_LLL_LLL_LL_LL__law09_Same_1 x0 x1 _ hv1) rfl (wantedA_none rfl) kr (xs := [.sl 1 (x0.map (cdL 1 (cdL 1 cdI)).enc), .sl 1 (x1.map (cdL 1 (cdL 1 cdI)).enc), .fn 55 [] []]) kr kr (by rintro x h' ⟨rfl, rfl⟩; exact ⟨rfl, rfl⟩) ?_
  rintro x h' ⟨rfl, rfl⟩
  exact RunS.last he
 refine Sem.ret ?_
 have hq := Option.some.inj h; subst hq
 exact ⟨⟨Fr 8 [(4, .v (.bool v1))], []⟩, (Wk.fr kr), .inr rfl, [.v (.bool v1)], kr, kr⟩
def t_law09_Same : List AV → Option AV := told cs_law09_Same (fun a => law09_Same a.1 a.2.1) er_law09_Same
theorem x_law09_Same : XOk 18 t_law09_Same := by
 refine EnvOk.x (E := e_law09_Same) (contract_ok e_law09_Same_ok (fn := Tryd.f18) (c := cb_law09_Same) ?h1 ?h2 ⟨Tryd.call18⟩ cs_law09_Same (fun a => law09_Same a.1 a.2.1) er_law09_Same (fun a => (by show 2 ≤ 8; decide)) ?h3 ?h4) rfl rfl
 case h1 => kernel_rfl
 case h2 => kernel_rfl
 case h3 => intro b; kernel_rfl
 case h4 => exact fun a b h => law09_Same_sem a.1 a.2.1 b h
/- trestle/evening.guests -/
noncomputable def e_evening_guests : Env := E0
theorem e_evening_guests_ok : EnvOk e_evening_guests := E0_ok
noncomputable def cb_evening_guests : Code := codeOf Tryd.f82
def evening_guests (x0 : Int) : Option (Bool) :=
 (if (decide (x0 ≥ 1)) = true then some (decide (x0 ≤ 64)) else some false).bind fun j2 =>
 some j2
def cs_evening_guests : Cs (Int × Unit) := (csC cdI csN)
def er_evening_guests (r : Bool) : AV := cdB.enc r
set_option maxHeartbeats 4000000 in
set_option maxRecDepth 100000 in
theorem evening_guests_sem (x0 : Int) (r : Bool) (h : evening_guests x0 = some r) : Sem e_evening_guests ⟨none, false⟩ cb_evening_guests ⟨Fr 9 (pairs0 0 (cs_evening_guests.enc (x0, ()))), []⟩ fun e s' => (e = .normal ∨ e = .ret) ∧ ∃ xs, resA e_evening_guests.P s'.fr s'.hp Tryd.f82.results.toList = some xs ∧ retA xs = er_evening_guests r := by
 have he := e_evening_guests_ok
 unfold evening_guests at h
 let p1 : Nat × AV := (0, .v (.int .i64 x0))
 refine Sem.wkQ (Sem.wk (s1 := ⟨Fr 9 [p1], []⟩) (Wk.fr kr) ?_)
 refine Sem.sq he [p1] [] ?_
 refine Sem.seq ?_
 obtain ⟨j2, hj2, h⟩ := Option.bind_eq_some_iff.1 h
 refine Sem.runS (s1 := ⟨Fr 9 [(2, .v (.bool j2))], []⟩) ?_ ?_
 ·refine RunS.segF (n := 9) he 3 [p1, (5, .v (.bool (decide (x0 ≥ 1))))] [] kr ?_
  rcases Bool.eq_false_or_eq_true (decide (x0 ≥ 1)) with hc3 | hc3
  ·rw [if_pos hc3] at hj2
   rw [hc3]
   refine RunS.segF (n := 9) he 4 [(2, .v (.bool (decide (x0 ≤ 64))))] [] kr ?_
   have hq := Option.some.inj hj2; subst hq
   exact RunS.done rfl (Wk.fr kr)
  ·rw [if_f hc3] at hj2
   rw [hc3]
   refine RunS.segF (n := 9) he 4 [(2, .v (.bool false))] [] kr ?_
   have hq := Option.some.inj hj2; subst hq
   exact RunS.done rfl (Wk.fr kr)
 refine Sem.ret ?_
 have hq := Option.some.inj h; subst hq
 exact ⟨⟨Fr 9 [(2, .v (.bool j2))], []⟩, (Wk.fr kr), .inr rfl, [.v (.bool j2)], kr, kr⟩
def t_evening_guests : List AV → Option AV := told cs_evening_guests (fun a => evening_guests a.1) er_evening_guests
theorem x_evening_guests : XOk 82 t_evening_guests := by
 refine EnvOk.x (E := e_evening_guests) (contract_ok e_evening_guests_ok (fn := Tryd.f82) (c := cb_evening_guests) ?h1 ?h2 ⟨Tryd.call82⟩ cs_evening_guests (fun a => evening_guests a.1) er_evening_guests (fun a => (by show 1 ≤ 9; decide)) ?h3 ?h4) rfl rfl
 case h1 => kernel_rfl
 case h2 => kernel_rfl
 case h3 => intro b; kernel_rfl
 case h4 => exact fun a b h => evening_guests_sem a.1 b h
/- trestle/evening.fit -/
noncomputable def e_evening_fit : Env := (E0.withX 82 t_evening_guests)
theorem e_evening_fit_ok : EnvOk e_evening_fit := (EnvOk.withX E0_ok x_evening_guests.1 x_evening_guests.2)
noncomputable def cb_evening_fit : Code := codeOf Tryd.f67
def evening_fit_1 (x0 : Int) (x1 : (List Int)) : Nat → Int → Int → Option ((Int) ⊕ (Bool))
 | 0, _, _ => none
 | f + 1, c1, c2 =>
  if (decide (c2 < (x1.length : Int))) = true then
  (idx x1 c2).bind fun v4 =>
  (if (decide (v4 < 1)) = true then some true else some (decide (v4 > c1))).bind fun j6 =>
  if j6 = true then
  some (.inr false)
  else
  evening_fit_1 x0 x1 f (wr .i64 (c1 - v4)) (wr .i64 (c2 + 1))
  else
  some (.inl c1)
def evening_fit (x0 : Int) (x1 : (List Int)) : Option (Bool) :=
 (evening_fit_1 x0 x1 100000 x0 0).bind fun r11 =>
 match r11 with
 | (.inl w12) =>
  (evening_guests x0).bind fun v13 =>
  (if v13 = true then some (w12 == 0) else some false).bind fun j15 =>
  some j15
 | (.inr w17) =>
  some w17
def cs_evening_fit : Cs (Int × (List Int) × Unit) := (csC cdI (csC (cdL 1 cdI) csN))
def er_evening_fit (r : Bool) : AV := cdB.enc r
set_option maxHeartbeats 4000000 in
set_option maxRecDepth 100000 in
theorem evening_fit_1_ok (x0 : Int) (x1 : (List Int)) : ∀ (f : Nat) (c1 : Int) (c2 : Int) (r : (Int) ⊕ (Bool)), evening_fit_1 x0 x1 f c1 c2 = some r → SemN e_evening_fit ⟨none, false⟩ (pc cb_evening_fit [1, 1, 0, 1, 0, 0]) f ⟨Fr 32 [(0, .v (.int .i64 x0)), (5, .v (.int .i64 c1)), (9, .sl 1 (x1.map cdI.enc)), (10, .v (.int .i64 (x1.length : Int))), (11, .v (.int .i64 c2))], []⟩ (fun e s => match r with
 | (.inl w) => e = (.exit 0) ∧ Wk e_evening_fit s ⟨Fr 32 [(0, .v (.int .i64 x0)), (5, .v (.int .i64 w))], []⟩
 | (.inr w) => e = .ret ∧ Wk e_evening_fit s ⟨Fr 32 [(4, .v (.bool w))], []⟩) := by
 have he := e_evening_fit_ok
 intro f
 induction f with
 | zero => intro c1 c2 r h; cases h
 | succ f ih0 =>
  intro c1 c2 r h
  have ih := fun (c1 : Int) (c2 : Int) => ih0 c1 c2 r
  unfold evening_fit_1 at h
  refine SemN.succ ?_
  let p1 : Nat × AV := (11, .v (.int .i64 c2))
  let p2 : Nat × AV := (10, .v (.int .i64 (x1.length : Int)))
  let p3 : Nat × AV := (9, .sl 1 (x1.map cdI.enc))
  let p4 : Nat × AV := (5, .v (.int .i64 c1))
  let p5 : Nat × AV := (0, .v (.int .i64 x0))
  refine Sem.sq he [p5, p4, p3, p2, p1, (12, .v (.bool (decide (c2 < (x1.length : Int)))))] [] ?_
  refine Sem.seq ?_
  refine Sem.cond (b := (decide (c2 < (x1.length : Int)))) kr (fun hb3 => ?_) (fun hb3 => ?_)
  ·rw [if_pos hb3] at h
   refine Sem.skip ?_
   refine Sem.seq ?_
   refine Sem.block ?_
   refine Sem.seq ?_
   obtain ⟨v4, hv4, h⟩ := Option.bind_eq_some_iff.1 h
   let p6 : Nat × AV := (7, .v (.int .i64 v4))
   refine Sem.runS (s1 := ⟨Fr 32 [p5, p4, p6, p3, p2, p1], []⟩) ?_ ?_
   ·refine RunS.one he 0 rfl (op_q (wantedA_none rfl) rfl (q_indexAddr (a := .sl 1 (x1.map cdI.enc)) (b := .v (.int .i64 c2)) kr kr (ix_sl (e := cdI.enc) (el := 3) (k := 1) (ki := .i64) kr kr hv4))) ?_
    exact RunS.last he
   refine Sem.seq ?_
   refine Sem.seq ?_
   obtain ⟨j6, hj6, h⟩ := Option.bind_eq_some_iff.1 h
   refine Sem.runS (s1 := ⟨Fr 32 [p5, p4, p6, p3, p2, p1, (21, .v (.bool j6))], []⟩) ?_ ?_
   ·refine RunS.segF (n := 32) he 3 [p5, p4, p6, p3, p2, p1, (17, .v (.bool (decide (v4 < 1))))] [] kr ?_
    rcases Bool.eq_false_or_eq_true (decide (v4 < 1)) with hc9 | hc9
    ·rw [if_pos hc9] at hj6
     rw [hc9]
     refine RunS.segF (n := 32) he 4 [p5, p4, p6, p3, p2, p1, (18, .tp []), (19, .tp []), (20, .tp []), (21, .v (.bool true))] [] kr ?_
     have hq := Option.some.inj hj6; subst hq
     exact RunS.done rfl (Wk.fr kr)
    ·rw [if_f hc9] at hj6
     rw [hc9]
     refine RunS.segF (n := 32) he 4 [p5, p4, p6, p3, p2, p1, (18, .v (.int .i64 v4)), (19, .v (.int .i64 c1)), (20, .v (.bool (decide (v4 > c1)))), (21, .v (.bool (decide (v4 > c1))))] [] kr ?_
     have hq := Option.some.inj hj6; subst hq
     exact RunS.done rfl (Wk.fr kr)
   refine Sem.cond (b := j6) kr (fun hb7 => ?_) (fun hb7 => ?_)
   ·rw [if_pos hb7] at h
    refine Sem.sq he [(4, .v (.bool false))] [] ?_
    refine Sem.ret ?_
    have hq := Option.some.inj h; subst hq
    exact ⟨rfl, (Wk.fr kr)⟩
   ·rw [if_f hb7] at h
    refine Sem.skip ?_
    let p7 : Nat × AV := (5, .v (.int .i64 (wr .i64 (c1 - v4))))
    refine Sem.rg he [p5, p7, p3, p2, p1] [] ?_
    let p8 : Nat × AV := (11, .v (.int .i64 (wr .i64 (c2 + 1))))
    refine Sem.rg he [p5, p7, p3, p2, p8] [] ?_
    exact SemN.wk (s1 := ⟨Fr 32 [p5, p7, p3, p2, p8], []⟩) (Wk.fr kr) (ih (wr .i64 (c1 - v4)) (wr .i64 (c2 + 1)) h)
  ·rw [if_f hb3] at h
   refine Sem.exit ?_
   have hq := Option.some.inj h; subst hq
   exact ⟨rfl, (Wk.fr kr)⟩
set_option maxHeartbeats 4000000 in
set_option maxRecDepth 100000 in
theorem evening_fit_sem (x0 : Int) (x1 : (List Int)) (r : Bool) (h : evening_fit x0 x1 = some r) : Sem e_evening_fit ⟨none, false⟩ cb_evening_fit ⟨Fr 32 (pairs0 0 (cs_evening_fit.enc (x0, x1, ()))), []⟩ fun e s' => (e = .normal ∨ e = .ret) ∧ ∃ xs, resA e_evening_fit.P s'.fr s'.hp Tryd.f67.results.toList = some xs ∧ retA xs = er_evening_fit r := by
 have he := e_evening_fit_ok
 unfold evening_fit at h
 let p1 : Nat × AV := (1, .sl 1 (x1.map cdI.enc))
 let p2 : Nat × AV := (0, .v (.int .i64 x0))
 refine Sem.wkQ (Sem.wk (s1 := ⟨Fr 32 [p2, p1], []⟩) (Wk.fr kr) ?_)
 refine Sem.sq he [p2, p1] [] ?_
 let p3 : Nat × AV := (5, .v (.int .i64 x0))
 refine Sem.sq he [p2, p1, p3] [] ?_
 refine Sem.seq ?_
 refine Sem.seq ?_
 let p4 : Nat × AV := (11, .v (.int .i64 0))
 let p5 : Nat × AV := (10, .v (.int .i64 (x1.length : Int)))
 let p6 : Nat × AV := (9, .sl 1 (x1.map cdI.enc))
 refine Sem.runS (s1 := ⟨Fr 32 [p2, p3, p6, p5, p4], []⟩) ?_ ?_
 ·refine RunS.segF (n := 32) he 1 [p2, p3, p6] [] kr ?_
  refine RunS.one he 0 rfl (op_q (wantedA_none rfl) rfl (q_len (a := .sl 1 (x1.map cdI.enc)) kr (len_sl (el := 3) kr))) ?_
  exact RunS.last he
 refine Sem.block ?_
 obtain ⟨r11, hr11, h⟩ := Option.bind_eq_some_iff.1 h
 refine Sem.loop (n := 100000) ?_
 rcases r11 with w12 | w17
 ·try dsimp only at h
  refine Sem.cutN (SemN.wk (s1 := ⟨Fr 32 [p2, p3, p6, p5, p4], []⟩) (Wk.fr kr) (evening_fit_1_ok x0 x1 _ x0 0 _ hr11)) ?_
  refine Sem.seq ?_
  obtain ⟨v13, hv13, h⟩ := Option.bind_eq_some_iff.1 h
  obtain ⟨j15, hj15, h⟩ := Option.bind_eq_some_iff.1 h
  refine Sem.runS (s1 := ⟨Fr 32 [(4, .v (.bool j15))], []⟩) ?_ ?_
  ·refine RunS.segF (n := 32) he 1 [(5, .v (.int .i64 w12)), (26, .v (.int .i64 x0))] [] kr ?_
   refine RunS.call he (fid := 82) (s := cs_evening_guests) (F := fun a => evening_guests a.1) (er := er_evening_guests) (xs := [.v (.int .i64 x0)]) (a := (x0, ())) rfl (wantedA_none rfl) kr kr kr kr (Sns.cons (Sn.enc (c := cdI) (v := x0)) Sns.nil) (.inl kr) hv13 ?_
   refine RunS.segF (n := 32) he 1 [(5, .v (.int .i64 w12)), (28, .v (.bool v13))] [] kr ?_
   rcases Bool.eq_false_or_eq_true v13 with hc16 | hc16
   ·rw [if_pos hc16] at hj15
    rw [hc16]
    refine RunS.segF (n := 32) he 4 [(4, .v (.bool (w12 == 0)))] [] kr ?_
    have hq := Option.some.inj hj15; subst hq
    exact RunS.done rfl (Wk.fr kr)
   ·rw [if_f hc16] at hj15
    rw [hc16]
    refine RunS.segF (n := 32) he 4 [(4, .v (.bool false))] [] kr ?_
    have hq := Option.some.inj hj15; subst hq
    exact RunS.done rfl (Wk.fr kr)
  refine Sem.ret ?_
  have hq := Option.some.inj h; subst hq
  exact ⟨⟨Fr 32 [(4, .v (.bool j15))], []⟩, (Wk.fr kr), .inr rfl, [.v (.bool j15)], kr, kr⟩
 ·try dsimp only at h
  refine Sem.cutN (SemN.wk (s1 := ⟨Fr 32 [p2, p3, p6, p5, p4], []⟩) (Wk.fr kr) (evening_fit_1_ok x0 x1 _ x0 0 _ hr11)) ?_
  have hq := Option.some.inj h; subst hq
  exact ⟨⟨Fr 32 [(4, .v (.bool w17))], []⟩, (Wk.fr kr), .inr rfl, [.v (.bool w17)], kr, kr⟩
def t_evening_fit : List AV → Option AV := told cs_evening_fit (fun a => evening_fit a.1 a.2.1) er_evening_fit
theorem x_evening_fit : XOk 67 t_evening_fit := by
 refine EnvOk.x (E := e_evening_fit) (contract_ok e_evening_fit_ok (fn := Tryd.f67) (c := cb_evening_fit) ?h1 ?h2 ⟨Tryd.call67⟩ cs_evening_fit (fun a => evening_fit a.1 a.2.1) er_evening_fit (fun a => (by show 2 ≤ 32; decide)) ?h3 ?h4) rfl rfl
 case h1 => kernel_rfl
 case h2 => kernel_rfl
 case h3 => intro b; kernel_rfl
 case h4 => exact fun a b h => evening_fit_sem a.1 a.2.1 b h
end Go.Proofs.YtcmgmkepodbpkaaDoor
