/- Lemmas for the proof. -/
import Derived.Test.YtcmgmkepodbpkaaDoorEveningBetterM1
import Derived.Test.YtcmgmkepodbpkaaDoorEveningBetterM2
import Derived.Test.YtcmgmkepodbpkaaDoorEveningBetterM3
import Derived.Test.YtcmgmkepodbpkaaDoorEveningBetterM4
namespace Go.Proofs.YtcmgmkepodbpkaaDoor
open Go.RowKit
/- trestle/evening.exchange -/
noncomputable def e_evening_exchange_d : Env := (E0.withX 111 t_evening_gain)
theorem e_evening_exchange_d_ok : EnvOk e_evening_exchange_d := (EnvOk.withX E0_ok x_evening_gain.1 x_evening_gain.2)
noncomputable def cb_evening_exchange_d : Code := codeOf Tryd.f81
def evening_exchange_d_3 (c19 : Int) (v22 : (List Int)) : Nat → Int → (List (Int × Int)) → Option (((List (Int × Int))))
 | 0, _, _ => none
 | f + 1, c27, c28 =>
  if (decide (c27 < (v22.length : Int))) = true then
  (idx v22 c27).bind fun v30 =>
  (idx c28 v30).bind fun _v32 =>
  evening_exchange_d_3 c19 v22 f (wr .i64 (c27 + 1)) (c28.set v30.toNat (c19, c27))
  else
  some c28
def evening_exchange_d_2 (v8 : (List (List Int))) : Nat → Int → (List (Int × Int)) → Option (((List (Int × Int))))
 | 0, _, _ => none
 | f + 1, c19, c20 =>
  if (decide (c19 < (v8.length : Int))) = true then
  (idx v8 c19).bind fun v22 =>
  (evening_exchange_d_3 c19 v22 100000 0 c20).bind fun r45 =>
  evening_exchange_d_2 v8 f (wr .i64 (c19 + 1)) r45
  else
  some c20
def evening_exchange_d_5 (x0 : Int) (x1 : (List (List (List Int)))) (x2 : Int) (x3 : (List Int)) (c6 : Int) (v8 : (List (List Int))) (r50 : (List (Int × Int))) (c53 : Int) : Nat → Int → Option ((Unit) ⊕ ((List (List (List Int))) × (List Int)))
 | 0, _ => none
 | f + 1, c55 =>
  if (decide (c55 < x0)) = true then
  (idx r50 c53).bind fun v57 =>
  (idx r50 c55).bind fun v59 =>
  (if (v57.1 == v59.1) = true then some true else (idx r50 c53).bind fun v61 =>
  (idx r50 c55).bind fun v63 =>
  (evening_gain v8 (x2, x3) c53 c55 v61.1 v63.1).bind fun v64 =>
  some (decide (v64 ≤ 0))).bind fun j65 =>
  if j65 = true then
  evening_exchange_d_5 x0 x1 x2 x3 c6 v8 r50 c53 f (wr .i64 (c55 + 1))
  else
  (idx r50 c53).bind fun v85 =>
  (idx v8 v85.1).bind fun v87 =>
  (evening_shift_d v87 x2 x3 c53 c55).bind fun v94 =>
  (idx r50 c55).bind fun v99 =>
  (idx v8 v99.1).bind fun v101 =>
  (evening_shift_d v101 x2 v94 c55 c53).bind fun v108 =>
  (idx r50 c53).bind fun v113 =>
  (idx v8 v113.1).bind fun v115 =>
  (idx r50 c53).bind fun v120 =>
  (idx v115 v120.2).bind fun _v122 =>
  (idx r50 c55).bind fun v129 =>
  (idx (v8.set v113.1.toNat (v115.set v120.2.toNat c55)) v129.1).bind fun v131 =>
  (idx r50 c55).bind fun v136 =>
  (idx v131 v136.2).bind fun _v138 =>
  some (.inr ((x1.set c6.toNat ((v8.set v113.1.toNat (v115.set v120.2.toNat c55)).set v129.1.toNat (v131.set v136.2.toNat c53))), v108))
  else
  some (.inl ())
def evening_exchange_d_4 (x0 : Int) (x1 : (List (List (List Int)))) (x2 : Int) (x3 : (List Int)) (c6 : Int) (v8 : (List (List Int))) (r50 : (List (Int × Int))) : Nat → Int → Option ((Unit) ⊕ ((List (List (List Int))) × (List Int)))
 | 0, _ => none
 | f + 1, c53 =>
  if (decide (c53 < x0)) = true then
  (evening_exchange_d_5 x0 x1 x2 x3 c6 v8 r50 c53 100000 (wr .i64 (c53 + 1))).bind fun r155 =>
  match r155 with
  | (.inl _w156) =>
   evening_exchange_d_4 x0 x1 x2 x3 c6 v8 r50 f (wr .i64 (c53 + 1))
  | (.inr w159) =>
   some (.inr (w159.1, w159.2))
  else
  some (.inl ())
def evening_exchange_d_1 (x0 : Int) (x1 : (List (List (List Int)))) (x2 : Int) (x3 : (List Int)) : Nat → Int → Option ((Unit) ⊕ ((List (List (List Int))) × (List Int)))
 | 0, _ => none
 | f + 1, c6 =>
  if (decide (c6 < (x1.length : Int))) = true then
  (idx x1 c6).bind fun v8 =>
  if (mkOk 16 x0) = true then
  (evening_exchange_d_2 v8 100000 0 (List.replicate x0.toNat ((0, 0) : (Int × Int)))).bind fun r50 =>
  (evening_exchange_d_4 x0 x1 x2 x3 c6 v8 r50 100000 0).bind fun r169 =>
  match r169 with
  | (.inl _w170) =>
   evening_exchange_d_1 x0 x1 x2 x3 f (wr .i64 (c6 + 1))
  | (.inr w173) =>
   some (.inr (w173.1, w173.2))
  else none
  else
  some (.inl ())
def evening_exchange_d (x0 : Int) (x1 : (List (List (List Int)))) (x2 : Int) (x3 : (List Int)) : Option (Bool × (List (List (List Int))) × (List Int)) :=
 (evening_exchange_d_1 x0 x1 x2 x3 100000 0).bind fun r180 =>
 match r180 with
 | (.inl _w181) =>
  some (false, x1, x3)
 | (.inr w184) =>
  some (true, w184.1, w184.2)
set_option maxHeartbeats 4000000 in
set_option maxRecDepth 100000 in
theorem evening_exchange_d_3_ok {L : List Asn} (c19 : Int) (v22 : (List Int)) (x0 : Int) (u0 : AV) (x1 : (List (List (List Int)))) (x2 : Int) (u1 : AV) (x3 : (List Int)) (e1 : AV) (c6 : Int) (v8 : (List (List Int))) (e10 : AV) (e17 : AV) (e24 : AV) : ∀ (f : Nat) (c27 : Int) (c28 : (List (Int × Int))) (r : ((List (Int × Int)))), evening_exchange_d_3 c19 v22 f c27 c28 = some r → ∀ (hp : Hp), T hp ((cel e1 2 94 (.ag [.v (.int .i64 x2), u1])) :: (own_ (ocL 1 3 (ocV cdI)) u1 x3) :: (hole 1 31 (ocL 1 3 (ocV cdI)) e10 v8 c19.toNat e24 v22) :: (own_ (ocL 1 3 (ocV cdI)) e24 v22) :: (hole 1 50 (ocL 1 31 (ocL 1 3 (ocV cdI))) u0 x1 c6.toNat e10 v8) :: (own_ (ocL 2 137 (ocV (cdG2 cdI cdI (fun _ => rfl) (fun _ => rfl)))) e17 c28) :: L) → SemYN e_evening_exchange_d ⟨none, false⟩ (pc cb_evening_exchange_d [1, 0, 1, 0, 0, 1, 1, 0, 0, 1, 1, 0, 1, 0, 0, 1, 1, 0, 0, 1, 1, 0, 0]) f ⟨Fr 142 [(0, .v (.int .i64 x0)), (5, e1), (8, e10), (9, e17), (10, .v (.int .i64 c19)), (16, u0), (17, .v (.int .i64 (x1.length : Int))), (18, .v (.int .i64 c6)), (24, e10), (25, .v (.int .i64 (v8.length : Int))), (26, .v (.int .i64 c19)), (31, e24), (32, .v (.int .i64 (v22.length : Int))), (33, .v (.int .i64 c27))], hp⟩ (fun e s => e = (.exit 4) ∧ ∃ s2, (∃ (h' : Hp), T h' ((cel e1 2 94 (.ag [.v (.int .i64 x2), u1])) :: (own_ (ocL 1 3 (ocV cdI)) u1 x3) :: (own_ (ocL 1 31 (ocL 1 3 (ocV cdI))) e10 v8) :: (hole 1 50 (ocL 1 31 (ocL 1 3 (ocV cdI))) u0 x1 c6.toNat e10 v8) :: (own_ (ocL 2 137 (ocV (cdG2 cdI cdI (fun _ => rfl) (fun _ => rfl)))) e17 r) :: L) ∧ s2 = ⟨Fr 142 [(0, .v (.int .i64 x0)), (5, e1), (8, e10), (9, e17), (16, u0), (17, .v (.int .i64 (x1.length : Int))), (18, .v (.int .i64 c6)), (24, e10), (25, .v (.int .i64 (v8.length : Int))), (26, .v (.int .i64 c19))], h'⟩) ∧ WkY e_evening_exchange_d s s2) := by
 have he := e_evening_exchange_d_ok
 intro f
 induction f with
 | zero => intro c27 c28 r h; cases h
 | succ f ih0 =>
  intro c27 c28 r h  hp hT
  unfold evening_exchange_d_3 at h
  refine SemYN.succ ?_
  let p1 : Nat × AV := (33, .v (.int .i64 c27))
  let p2 : Nat × AV := (32, .v (.int .i64 (v22.length : Int)))
  let p3 : Nat × AV := (26, .v (.int .i64 c19))
  let p4 : Nat × AV := (25, .v (.int .i64 (v8.length : Int)))
  let p5 : Nat × AV := (18, .v (.int .i64 c6))
  let p6 : Nat × AV := (17, .v (.int .i64 (x1.length : Int)))
  let p7 : Nat × AV := (10, .v (.int .i64 c19))
  let p8 : Nat × AV := (0, .v (.int .i64 x0))
  refine SemY.sq he [p8, (5, e1), (8, e10), (9, e17), p7, (16, u0), p6, p5, (24, e10), p4, p3, (31, e24), p2, p1, (34, .v (.bool (decide (c27 < (v22.length : Int)))))] ?_
  refine SemY.seq ?_
  refine SemY.cond (b := (decide (c27 < (v22.length : Int)))) kr (fun hb29 => ?_) (fun hb29 => ?_)
  ·rw [if_pos hb29] at h
   refine SemY.skip ?_
   refine SemY.seq ?_
   refine SemY.block ?_
   refine SemY.seq ?_
   refine SemY.regionL ?_
   refine RunL.sg he 1 ?_
   obtain ⟨v30, hv30, h⟩ := Option.bind_eq_some_iff.1 h
   have hT31 := (hT.front 3 rfl)
   refine RunL.one he 0 rfl (op_q (wantedA_none rfl) rfl (q_indexAddr (a := e24) (b := .v (.int .i64 c27)) kr kr (ix_B (bytes := 8) hT31 kr hv30))) ?_
   refine RunL.one he 0 rfl (op_q (wantedA_none rfl) rfl (q_load (p := eAt e24 c27.toNat) kr (ld_own0 (y := .v (.int .i64 v30)) (m := 1) (g := false) hT31 (idx_at hv30).2 kr kr kr))) ?_
   refine RunL.fin he [p8, (5, e1), (8, e10), (9, e17), p7, (12, .v (.int .i64 c27)), (13, .v (.int .i64 v30)), (16, u0), p6, p5, (24, e10), p4, p3, (31, e24), p2, p1] ?_
   refine SemY.regionL ?_
   refine RunL.sg he 5 ?_
   obtain ⟨v32, hv32, h⟩ := Option.bind_eq_some_iff.1 h
   have hT33 := (hT31.front 5 rfl)
   refine RunL.one he 0 rfl (op_q (wantedA_none rfl) rfl (q_indexAddr (a := e17) (b := .v (.int .i64 v30)) kr kr (ix_B (bytes := 16) hT33 kr hv32))) ?_
   obtain ⟨hp34, hs35, hT36⟩ := st_own0 (P := Tryd.prog) (ty := 137) (y := .ag [.v (.int .i64 c19), .v (.int .i64 c27)]) (v' := (c19, c27)) hT33 (idx_at hv32).2 kr kr kr
   refine RunL.store he (y := eAt e17 v30.toNat) (z := .ag [.v (.int .i64 c19), .v (.int .i64 c27)]) rfl (wantedA_none rfl) kr kr hs35 ?_
   refine RunL.done rfl (SemY.fr (l' := [p8, (5, e1), (8, e10), (9, e17), p7, (16, u0), p6, p5, (24, e10), p4, p3, (31, e24), p2, p1]) kr ?_)
   refine SemY.regionL ?_
   refine RunL.sg he 2 ?_
   refine RunL.done rfl ?_
   have hT37 := (((((hT36.front 5 rfl).front 2 rfl).front 5 rfl).front 5 rfl).front 5 rfl)
   exact SemYN.wk (WkY.fr kr) (ih0 (wr .i64 (c27 + 1)) (c28.set v30.toNat (c19, c27)) _ h  hp34 hT37)
  ·rw [if_f hb29] at h
   refine SemY.exit ?_
   have hq := Option.some.inj h; subst hq
   have hT41 := ((hT.front 2 rfl).front 3 rfl)
   have hT42 := (T.merge0 hT41)
   have hT43 := (((((hT42.front 4 rfl).front 4 rfl).front 2 rfl).front 4 rfl).front 4 rfl)
   exact ⟨rfl, _, ⟨hp, hT43, rfl⟩, (WkY.fr kr)⟩
set_option maxHeartbeats 4000000 in
set_option maxRecDepth 100000 in
theorem evening_exchange_d_2_ok {L : List Asn} (v8 : (List (List Int))) (x0 : Int) (u0 : AV) (x1 : (List (List (List Int)))) (x2 : Int) (u1 : AV) (x3 : (List Int)) (e1 : AV) (c6 : Int) (e10 : AV) (e17 : AV) : ∀ (f : Nat) (c19 : Int) (c20 : (List (Int × Int))) (r : ((List (Int × Int)))), evening_exchange_d_2 v8 f c19 c20 = some r → ∀ (hp : Hp), T hp ((cel e1 2 94 (.ag [.v (.int .i64 x2), u1])) :: (own_ (ocL 1 3 (ocV cdI)) u1 x3) :: (own_ (ocL 1 31 (ocL 1 3 (ocV cdI))) e10 v8) :: (hole 1 50 (ocL 1 31 (ocL 1 3 (ocV cdI))) u0 x1 c6.toNat e10 v8) :: (own_ (ocL 2 137 (ocV (cdG2 cdI cdI (fun _ => rfl) (fun _ => rfl)))) e17 c20) :: L) → SemYN e_evening_exchange_d ⟨none, false⟩ (pc cb_evening_exchange_d [1, 0, 1, 0, 0, 1, 1, 0, 0, 1, 1, 0, 1, 0, 0]) f ⟨Fr 142 [(0, .v (.int .i64 x0)), (5, e1), (8, e10), (9, e17), (16, u0), (17, .v (.int .i64 (x1.length : Int))), (18, .v (.int .i64 c6)), (24, e10), (25, .v (.int .i64 (v8.length : Int))), (26, .v (.int .i64 c19))], hp⟩ (fun e s => e = (.exit 2) ∧ ∃ s2, (∃ (h' : Hp), T h' ((cel e1 2 94 (.ag [.v (.int .i64 x2), u1])) :: (own_ (ocL 1 3 (ocV cdI)) u1 x3) :: (own_ (ocL 1 31 (ocL 1 3 (ocV cdI))) e10 v8) :: (hole 1 50 (ocL 1 31 (ocL 1 3 (ocV cdI))) u0 x1 c6.toNat e10 v8) :: (own_ (ocL 2 137 (ocV (cdG2 cdI cdI (fun _ => rfl) (fun _ => rfl)))) e17 r) :: L) ∧ s2 = ⟨Fr 142 [(0, .v (.int .i64 x0)), (5, e1), (8, e10), (9, e17), (16, u0), (17, .v (.int .i64 (x1.length : Int))), (18, .v (.int .i64 c6))], h'⟩) ∧ WkY e_evening_exchange_d s s2) := by
 have he := e_evening_exchange_d_ok
 intro f
 induction f with
 | zero => intro c19 c20 r h; cases h
 | succ f ih0 =>
  intro c19 c20 r h  hp hT
  unfold evening_exchange_d_2 at h
  refine SemYN.succ ?_
  let p1 : Nat × AV := (26, .v (.int .i64 c19))
  let p2 : Nat × AV := (25, .v (.int .i64 (v8.length : Int)))
  let p3 : Nat × AV := (18, .v (.int .i64 c6))
  let p4 : Nat × AV := (17, .v (.int .i64 (x1.length : Int)))
  let p5 : Nat × AV := (0, .v (.int .i64 x0))
  refine SemY.sq he [p5, (5, e1), (8, e10), (9, e17), (16, u0), p4, p3, (24, e10), p2, p1, (27, .v (.bool (decide (c19 < (v8.length : Int)))))] ?_
  refine SemY.seq ?_
  refine SemY.cond (b := (decide (c19 < (v8.length : Int)))) kr (fun hb21 => ?_) (fun hb21 => ?_)
  ·rw [if_pos hb21] at h
   refine SemY.skip ?_
   refine SemY.seq ?_
   refine SemY.block ?_
   refine SemY.seq ?_
   refine SemY.regionL ?_
   refine RunL.sg he 1 ?_
   obtain ⟨v22, hv22, h⟩ := Option.bind_eq_some_iff.1 h
   have hT23 := (hT.front 2 rfl)
   refine RunL.one he 0 rfl (op_q (wantedA_none rfl) rfl (q_indexAddr (a := e10) (b := .v (.int .i64 c19)) kr kr (ix_B (bytes := 24) hT23 kr hv22))) ?_
   obtain ⟨e24, hl25, hT26⟩ := ld_child (P := Tryd.prog) (ty := 31) hT23 (idx_at hv22).2 kr kr
   refine RunL.one he 0 rfl (op_q (wantedA_none rfl) rfl (q_load (p := eAt e10 c19.toNat) kr hl25)) ?_
   refine RunL.fin he [p5, (5, e1), (8, e10), (9, e17), (10, .v (.int .i64 c19)), (11, e24), (16, u0), p4, p3, (24, e10), p2, p1] ?_
   refine SemY.seq ?_
   refine SemY.regionL ?_
   refine RunL.sg he 1 ?_
   refine RunL.one he 0 rfl (op_q (wantedA_none rfl) rfl (q_len (a := e24) kr (len_B hT26 kr))) ?_
   refine RunL.fin he [p5, (5, e1), (8, e10), (9, e17), (10, .v (.int .i64 c19)), (16, u0), p4, p3, (24, e10), p2, p1, (31, e24), (32, .v (.int .i64 (v22.length : Int))), (33, .v (.int .i64 0))] ?_
   refine SemY.block ?_
   have hT44 := ((((((hT26.front 5 rfl).front 5 rfl).front 2 rfl).front 3 rfl).front 5 rfl).front 5 rfl)
   refine SemY.loop (n := 100000) ?_
   obtain ⟨r45, hr45, h⟩ := Option.bind_eq_some_iff.1 h
   refine SemYN.cutT (SemYN.wk (WkY.fr kr) (evening_exchange_d_3_ok c19 v22 x0 u0 x1 x2 u1 x3 e1 c6 v8 e10 e17 e24 _ 0 c20 _ hr45  hp hT44)) ?_
   rintro _ ⟨hp46, hT47, rfl⟩
   refine SemY.regionL ?_
   refine RunL.sg he 2 ?_
   refine RunL.done rfl ?_
   exact SemYN.wk (WkY.fr kr) (ih0 (wr .i64 (c19 + 1)) r45 _ h  hp46 hT47)
  ·rw [if_f hb21] at h
   refine SemY.exit ?_
   have hq := Option.some.inj h; subst hq
   exact ⟨rfl, _, ⟨hp, hT, rfl⟩, (WkY.fr kr)⟩
set_option maxHeartbeats 4000000 in
set_option maxRecDepth 100000 in
theorem evening_exchange_d_5_ok {L : List Asn} (x0 : Int) (x1 : (List (List (List Int)))) (x2 : Int) (x3 : (List Int)) (c6 : Int) (v8 : (List (List Int))) (r50 : (List (Int × Int))) (c53 : Int) (u0 : AV) (u1 : AV) (e1 : AV) (e10 : AV) (e17 : AV) : ∀ (f : Nat) (c55 : Int) (r : (Unit) ⊕ ((List (List (List Int))) × (List Int))), evening_exchange_d_5 x0 x1 x2 x3 c6 v8 r50 c53 f c55 = some r → ∀ (hp : Hp), T hp ((cel e1 2 94 (.ag [.v (.int .i64 x2), u1])) :: (own_ (ocL 1 3 (ocV cdI)) u1 x3) :: (own_ (ocL 1 31 (ocL 1 3 (ocV cdI))) e10 v8) :: (hole 1 50 (ocL 1 31 (ocL 1 3 (ocV cdI))) u0 x1 c6.toNat e10 v8) :: (own_ (ocL 2 137 (ocV (cdG2 cdI cdI (fun _ => rfl) (fun _ => rfl)))) e17 r50) :: L) → SemYN e_evening_exchange_d ⟨none, false⟩ (pc cb_evening_exchange_d [1, 0, 1, 0, 0, 1, 1, 0, 0, 1, 1, 1, 1, 0, 0, 1, 1, 0, 0, 1, 1, 0, 0]) f ⟨Fr 142 [(0, .v (.int .i64 x0)), (5, e1), (8, e10), (9, e17), (14, .v (.int .i64 c53)), (15, .v (.int .i64 c55)), (16, u0), (17, .v (.int .i64 (x1.length : Int))), (18, .v (.int .i64 c6)), (46, .v (.int .i64 x0)), (47, .v (.int .i64 c53))], hp⟩ (fun e s => match r with
 | (.inl _) => e = (.exit 8) ∧ ∃ s2, (∃ (h' : Hp), T h' ((cel e1 2 94 (.ag [.v (.int .i64 x2), u1])) :: (own_ (ocL 1 3 (ocV cdI)) u1 x3) :: (own_ (ocL 1 31 (ocL 1 3 (ocV cdI))) e10 v8) :: (hole 1 50 (ocL 1 31 (ocL 1 3 (ocV cdI))) u0 x1 c6.toNat e10 v8) :: (own_ (ocL 2 137 (ocV (cdG2 cdI cdI (fun _ => rfl) (fun _ => rfl)))) e17 r50) :: L) ∧ s2 = ⟨Fr 142 [(0, .v (.int .i64 x0)), (5, e1), (8, e10), (9, e17), (16, u0), (17, .v (.int .i64 (x1.length : Int))), (18, .v (.int .i64 c6)), (46, .v (.int .i64 x0)), (47, .v (.int .i64 c53))], h'⟩) ∧ WkY e_evening_exchange_d s s2
 | (.inr w) => e = .ret ∧ ∃ s2, (∃ (h' : Hp), T h' ((own_ (ocL 1 50 (ocL 1 31 (ocL 1 3 (ocV cdI)))) u0 w.1) :: (own_ (ocL 1 3 (ocV cdI)) u1 w.2) :: L) ∧ s2 = ⟨Fr 142 [(6, .v (.bool true))], h'⟩) ∧ WkY e_evening_exchange_d s s2) := by
 have he := e_evening_exchange_d_ok
 intro f
 induction f with
 | zero => intro c55 r h; cases h
 | succ f ih0 =>
  intro c55 r h  hp hT
  unfold evening_exchange_d_5 at h
  refine SemYN.succ ?_
  refine SemY.seq ?_
  let p1 : Nat × AV := (17, .v (.int .i64 (x1.length : Int)))
  let p2 : Nat × AV := (15, .v (.int .i64 c55))
  let p3 : Nat × AV := (14, .v (.int .i64 c53))
  refine SemY.sq he [(0, .v (.int .i64 x0)), (5, e1), (8, e10), (9, e17), p3, p2, (16, u0), p1, (18, .v (.int .i64 c6)), (46, .v (.int .i64 x0)), (47, .v (.int .i64 c53)), (54, .v (.bool (decide (c55 < x0))))] ?_
  refine SemY.cond (b := (decide (c55 < x0))) kr (fun hb56 => ?_) (fun hb56 => ?_)
  ·rw [if_pos hb56] at h
   refine SemY.skip ?_
   refine SemY.seq ?_
   refine SemY.block ?_
   refine SemY.seq ?_
   refine SemY.seq ?_
   obtain ⟨v57, hv57, h⟩ := Option.bind_eq_some_iff.1 h
   obtain ⟨v59, hv59, h⟩ := Option.bind_eq_some_iff.1 h
   obtain ⟨j65, hj65, h⟩ := Option.bind_eq_some_iff.1 h
   refine SemY.regDT 29 (A := fun s1 => ∃ (h' : Hp), T h' ((cel e1 2 94 (.ag [.v (.int .i64 x2), u1])) :: (own_ (ocL 1 3 (ocV cdI)) u1 x3) :: (own_ (ocL 1 31 (ocL 1 3 (ocV cdI))) e10 v8) :: (hole 1 50 (ocL 1 31 (ocL 1 3 (ocV cdI))) u0 x1 c6.toNat e10 v8) :: (own_ (ocL 2 137 (ocV (cdG2 cdI cdI (fun _ => rfl) (fun _ => rfl)))) e17 r50) :: L) ∧ s1 = ⟨Fr 142 [(0, .v (.int .i64 x0)), (5, e1), (8, e10), (9, e17), p3, p2, (16, u0), p1, (18, .v (.int .i64 c6)), (46, .v (.int .i64 x0)), (47, .v (.int .i64 c53)), (85, .v (.bool j65))], h'⟩) he.mixed kr kr ?_ ?_
   ·refine RunDT.q (x := e17) rfl kr rfl (wantedA_none rfl) rfl kr kr ?_
    refine RunDT.q (x := .v (.int .i64 c53)) rfl kr rfl (wantedA_none rfl) rfl kr kr ?_
    have hT58 := (hT.front 4 rfl)
    refine RunDT.q (x := eAt e17 c53.toNat) rfl kr rfl (wantedA_none rfl) rfl (q_indexAddr (a := e17) (b := .v (.int .i64 c53)) kr kr (ix_B (bytes := 16) hT58 kr hv57)) kr ?_
    refine RunDT.q (x := pOff (eAt e17 c53.toNat) 0) rfl kr rfl (wantedA_none rfl) rfl (q_fld (a := eAt e17 c53.toNat) kr (fldo_B (off := 0) hT58 (idx_at hv57).2 kr)) kr ?_
    refine RunDT.q (x := .v (.int .i64 v57.1)) rfl kr rfl (wantedA_none rfl) rfl (q_load (p := pOff (eAt e17 c53.toNat) 0) kr (ld_own (off := 0) (y := .v (.int .i64 v57.1)) (m := 1) (g := false) hT58 (idx_at hv57).2 kr kr kr)) (ldOk_own (off := 0) (hT.front 4 rfl) (idx_at hv57).2 kr) ?_
    refine RunDT.q (x := e17) rfl kr rfl (wantedA_none rfl) rfl kr kr ?_
    refine RunDT.q (x := .v (.int .i64 c55)) rfl kr rfl (wantedA_none rfl) rfl kr kr ?_
    refine RunDT.q (x := eAt e17 c55.toNat) rfl kr rfl (wantedA_none rfl) rfl (q_indexAddr (a := e17) (b := .v (.int .i64 c55)) kr kr (ix_B (bytes := 16) hT58 kr hv59)) kr ?_
    refine RunDT.q (x := pOff (eAt e17 c55.toNat) 0) rfl kr rfl (wantedA_none rfl) rfl (q_fld (a := eAt e17 c55.toNat) kr (fldo_B (off := 0) hT58 (idx_at hv59).2 kr)) kr ?_
    refine RunDT.q (x := .v (.int .i64 v59.1)) rfl kr rfl (wantedA_none rfl) rfl (q_load (p := pOff (eAt e17 c55.toNat) 0) kr (ld_own (off := 0) (y := .v (.int .i64 v59.1)) (m := 1) (g := false) hT58 (idx_at hv59).2 kr kr kr)) (ldOk_own (off := 0) (hT.front 4 rfl) (idx_at hv59).2 kr) ?_
    refine RunDT.q (x := .v (.bool (v57.1 == v59.1))) rfl kr rfl (wantedA_none rfl) rfl kr kr ?_
    refine RunDT.q (x := .v (.bool (v57.1 == v59.1))) rfl kr rfl (wantedA_none rfl) rfl kr kr ?_
    rcases Bool.eq_false_or_eq_true (v57.1 == v59.1) with hc154 | hc154
    ·rw [if_pos hc154] at hj65
     rw [hc154]
     refine RunDT.skip rfl kr rfl ?_
     refine RunDT.skip rfl kr rfl ?_
     refine RunDT.skip rfl kr rfl ?_
     refine RunDT.skip rfl kr rfl ?_
     refine RunDT.skip rfl kr rfl ?_
     refine RunDT.skip rfl kr rfl ?_
     refine RunDT.skip rfl kr rfl ?_
     refine RunDT.skip rfl kr rfl ?_
     refine RunDT.skip rfl kr rfl ?_
     refine RunDT.skip rfl kr rfl ?_
     refine RunDT.skip rfl kr rfl ?_
     refine RunDT.skip rfl kr rfl ?_
     refine RunDT.skip rfl kr rfl ?_
     refine RunDT.skip rfl kr rfl ?_
     refine RunDT.skip rfl kr rfl ?_
     refine RunDT.skip rfl kr rfl ?_
     refine RunDT.q (x := .v (.bool true)) rfl kr rfl (wantedA_none rfl) rfl kr kr ?_
     have hq := Option.some.inj hj65; subst hq
     have hT80 := ((((hT58.front 4 rfl).front 4 rfl).front 4 rfl).front 4 rfl)
     exact RunDT.done rfl ⟨_, ⟨hp, hT80, rfl⟩, (WkY.fr kr)⟩
    ·rw [if_f hc154] at hj65
     rw [hc154]
     refine RunDT.q (x := e10) rfl kr rfl kr rfl kr kr ?_
     have hT60 := (hT58.front 1 rfl)
     refine RunDT.q (x := .ag [.v (.int .i64 x2), u1]) rfl kr rfl kr rfl (q_load (p := e1) kr (ld_cel0 (y := .ag [.v (.int .i64 x2), u1]) (m := 2) (g := true) hT60 kr kr kr)) (ldOk_cel0 hT kr) ?_
     refine RunDT.q (x := .v (.int .i64 c53)) rfl kr rfl kr rfl kr kr ?_
     refine RunDT.q (x := .v (.int .i64 c55)) rfl kr rfl kr rfl kr kr ?_
     refine RunDT.q (x := e17) rfl kr rfl kr rfl kr kr ?_
     refine RunDT.q (x := .v (.int .i64 c53)) rfl kr rfl kr rfl kr kr ?_
     obtain ⟨v61, hv61, hj65⟩ := Option.bind_eq_some_iff.1 hj65
     have hT62 := (hT60.front 1 rfl)
     refine RunDT.q (x := eAt e17 c53.toNat) rfl kr rfl kr rfl (q_indexAddr (a := e17) (b := .v (.int .i64 c53)) kr kr (ix_B (bytes := 16) hT62 kr hv61)) kr ?_
     refine RunDT.q (x := pOff (eAt e17 c53.toNat) 0) rfl kr rfl kr rfl (q_fld (a := eAt e17 c53.toNat) kr (fldo_B (off := 0) hT62 (idx_at hv61).2 kr)) kr ?_
     refine RunDT.q (x := .v (.int .i64 v61.1)) rfl kr rfl kr rfl (q_load (p := pOff (eAt e17 c53.toNat) 0) kr (ld_own (off := 0) (y := .v (.int .i64 v61.1)) (m := 1) (g := false) hT62 (idx_at hv61).2 kr kr kr)) (ldOk_own (off := 0) (hT.front 4 rfl) (idx_at hv61).2 kr) ?_
     refine RunDT.q (x := e17) rfl kr rfl kr rfl kr kr ?_
     refine RunDT.q (x := .v (.int .i64 c55)) rfl kr rfl kr rfl kr kr ?_
     obtain ⟨v63, hv63, hj65⟩ := Option.bind_eq_some_iff.1 hj65
     refine RunDT.q (x := eAt e17 c55.toNat) rfl kr rfl kr rfl (q_indexAddr (a := e17) (b := .v (.int .i64 c55)) kr kr (ix_B (bytes := 16) hT62 kr hv63)) kr ?_
     refine RunDT.q (x := pOff (eAt e17 c55.toNat) 0) rfl kr rfl kr rfl (q_fld (a := eAt e17 c55.toNat) kr (fldo_B (off := 0) hT62 (idx_at hv63).2 kr)) kr ?_
     refine RunDT.q (x := .v (.int .i64 v63.1)) rfl kr rfl kr rfl (q_load (p := pOff (eAt e17 c55.toNat) 0) kr (ld_own (off := 0) (y := .v (.int .i64 v63.1)) (m := 1) (g := false) hT62 (idx_at hv63).2 kr kr kr)) (ldOk_own (off := 0) (hT.front 4 rfl) (idx_at hv63).2 kr) ?_
     obtain ⟨v64, hv64, hj65⟩ := Option.bind_eq_some_iff.1 hj65
     refine RunDT.callD he (fid := 111) (b := v64) (s := cs_evening_gain) (F := fun a => evening_gain a.1 a.2.1 a.2.2.1 a.2.2.2.1 a.2.2.2.2.1 a.2.2.2.2.2.1) (er := er_evening_gain) (xs := [e10, .ag [.v (.int .i64 x2), u1], .v (.int .i64 c53), .v (.int .i64 c55), .v (.int .i64 v61.1), .v (.int .i64 v63.1)]) (a := (v8, (x2, x3), c53, c55, v61.1, v63.1, ())) rfl kr kr kr kr (SeesD.cons (SeeD.own hT62 (i := 3) rfl) (SeesD.cons (SeeD.ag2 (SeeD.enc (c := cdI) (v := x2)) (SeeD.own hT62 (i := 2) rfl)) (SeesD.cons (SeeD.enc (c := cdI) (v := c53)) (SeesD.cons (SeeD.enc (c := cdI) (v := c55)) (SeesD.cons (SeeD.enc (c := cdI) (v := v61.1)) (SeesD.cons (SeeD.enc (c := cdI) (v := v63.1)) SeesD.nil)))))) kr hv64 ?_
     refine RunDT.q (x := .v (.bool (decide (v64 ≤ 0)))) rfl kr rfl kr rfl kr kr ?_
     refine RunDT.q (x := .v (.bool (decide (v64 ≤ 0)))) rfl kr rfl (wantedA_none rfl) rfl kr kr ?_
     have hq := Option.some.inj hj65; subst hq
     have hT81 := ((((hT62.front 4 rfl).front 4 rfl).front 4 rfl).front 4 rfl)
     exact RunDT.done rfl ⟨_, ⟨hp, hT81, rfl⟩, (WkY.fr kr)⟩
   rintro _ ⟨hp82, hT83, rfl⟩
   refine SemY.cond (b := j65) kr (fun hb84 => ?_) (fun hb84 => ?_)
   ·rw [if_pos hb84] at h
    refine SemY.exit ?_
    refine SemY.regionL ?_
    refine RunL.sg he 3 ?_
    refine RunL.done rfl ?_
    exact SemYN.wk (WkY.fr kr) (ih0 (wr .i64 (c55 + 1)) _ h  hp82 hT83)
   ·rw [if_f hb84] at h
    refine SemY.skip ?_
    refine SemY.seq ?_
    refine SemY.runDT 11 he.mixed kr kr ?_
    refine RunDT.q (x := e10) rfl kr rfl (wantedA_none rfl) rfl kr kr ?_
    refine RunDT.q (x := e17) rfl kr rfl (wantedA_none rfl) rfl kr kr ?_
    refine RunDT.q (x := .v (.int .i64 c53)) rfl kr rfl (wantedA_none rfl) rfl kr kr ?_
    obtain ⟨v85, hv85, h⟩ := Option.bind_eq_some_iff.1 h
    have hT86 := (hT83.front 4 rfl)
    refine RunDT.q (x := eAt e17 c53.toNat) rfl kr rfl (wantedA_none rfl) rfl (q_indexAddr (a := e17) (b := .v (.int .i64 c53)) kr kr (ix_B (bytes := 16) hT86 kr hv85)) kr ?_
    refine RunDT.q (x := pOff (eAt e17 c53.toNat) 0) rfl kr rfl (wantedA_none rfl) rfl (q_fld (a := eAt e17 c53.toNat) kr (fldo_B (off := 0) hT86 (idx_at hv85).2 kr)) kr ?_
    refine RunDT.q (x := .v (.int .i64 v85.1)) rfl kr rfl (wantedA_none rfl) rfl (q_load (p := pOff (eAt e17 c53.toNat) 0) kr (ld_own (off := 0) (y := .v (.int .i64 v85.1)) (m := 1) (g := false) hT86 (idx_at hv85).2 kr kr kr)) (ldOk_own (off := 0) (hT83.front 4 rfl) (idx_at hv85).2 kr) ?_
    obtain ⟨v87, hv87, h⟩ := Option.bind_eq_some_iff.1 h
    have hT88 := (hT86.front 3 rfl)
    refine RunDT.q (x := eAt e10 v85.1.toNat) rfl kr rfl (wantedA_none rfl) rfl (q_indexAddr (a := e10) (b := .v (.int .i64 v85.1)) kr kr (ix_B (bytes := 24) hT88 kr hv87)) kr ?_
    obtain ⟨e89, hl90, hT91⟩ := ld_child (P := Tryd.prog) (ty := 31) hT88 (idx_at hv87).2 kr kr
    refine RunDT.q (x := e89) rfl kr rfl (wantedA_none rfl) rfl (q_load (p := eAt e10 v85.1.toNat) kr hl90) (ldOk_own0 (hT83.front 2 rfl) (idx_at hv87).2 kr) ?_
    have hT92 := (hT91.front 3 rfl)
    refine RunDT.q (x := .ag [.v (.int .i64 x2), u1]) rfl kr rfl (wantedA_none rfl) rfl (q_load (p := e1) kr (ld_cel0 (y := .ag [.v (.int .i64 x2), u1]) (m := 2) (g := true) hT92 kr kr kr)) (ldOk_cel0 hT83 kr) ?_
    refine RunDT.q (x := .v (.int .i64 c53)) rfl kr rfl (wantedA_none rfl) rfl kr kr ?_
    refine RunDT.q (x := .v (.int .i64 c55)) rfl kr rfl (wantedA_none rfl) rfl kr kr ?_
    refine RunDT.tail rfl ?_
    obtain ⟨v94, hv94, h⟩ := Option.bind_eq_some_iff.1 h
    have hT93 := ((hT92.front 4 rfl).front 2 rfl)
    refine RunL.inlT (E := e_evening_exchange_d) (e := e_evening_shift_d) rfl rfl e_evening_shift_d_ok rfl rfl (fid := 112) (caps := []) (xs := [e89, .ag [.v (.int .i64 x2), u1], .v (.int .i64 c53), .v (.int .i64 c55)]) (fn := Tryd.f112) (c := cb_evening_shift_d) (Out := fun v h' => v = .tp [] ∧ T h' ((own_ (ocL 1 3 (ocV cdI)) e89 v87) :: (own_ (ocL 1 3 (ocV cdI)) u1 v94) :: (cel e1 2 94 (.ag [.v (.int .i64 x2), u1])) :: (hole 1 31 (ocL 1 3 (ocV cdI)) e10 v8 v85.1.toNat e89 v87) :: (own_ (ocL 2 137 (ocV (cdG2 cdI cdI (fun _ => rfl) (fun _ => rfl)))) e17 r50) :: (hole 1 50 (ocL 1 31 (ocL 1 3 (ocV cdI))) u0 x1 c6.toNat e10 v8) :: L)) rfl (wantedA_none rfl) kr kr kr kr (by show 4 ≤ 52; decide) (evening_shift_d_sem e89 v87 x2 u1 x3 c53 c55 _ hv94 hT93) ?_
    rintro xx hp95 ⟨hqhp95, hT96⟩; subst xx
    refine RunL.done rfl (SemY.fr (l' := [(5, e1), (8, e10), (9, e17), p3, p2]) kr ?_)
    refine SemY.seq ?_
    have hT97 := ((hT96.front 3 rfl).front 1 rfl)
    have hT98 := (T.merge0 hT97)
    refine SemY.runDT 11 he.mixed kr kr ?_
    refine RunDT.q (x := e10) rfl kr rfl (wantedA_none rfl) rfl kr kr ?_
    refine RunDT.q (x := e17) rfl kr rfl (wantedA_none rfl) rfl kr kr ?_
    refine RunDT.q (x := .v (.int .i64 c55)) rfl kr rfl (wantedA_none rfl) rfl kr kr ?_
    obtain ⟨v99, hv99, h⟩ := Option.bind_eq_some_iff.1 h
    have hT100 := (hT98.front 3 rfl)
    refine RunDT.q (x := eAt e17 c55.toNat) rfl kr rfl (wantedA_none rfl) rfl (q_indexAddr (a := e17) (b := .v (.int .i64 c55)) kr kr (ix_B (bytes := 16) hT100 kr hv99)) kr ?_
    refine RunDT.q (x := pOff (eAt e17 c55.toNat) 0) rfl kr rfl (wantedA_none rfl) rfl (q_fld (a := eAt e17 c55.toNat) kr (fldo_B (off := 0) hT100 (idx_at hv99).2 kr)) kr ?_
    refine RunDT.q (x := .v (.int .i64 v99.1)) rfl kr rfl (wantedA_none rfl) rfl (q_load (p := pOff (eAt e17 c55.toNat) 0) kr (ld_own (off := 0) (y := .v (.int .i64 v99.1)) (m := 1) (g := false) hT100 (idx_at hv99).2 kr kr kr)) (ldOk_own (off := 0) (hT98.front 3 rfl) (idx_at hv99).2 kr) ?_
    obtain ⟨v101, hv101, h⟩ := Option.bind_eq_some_iff.1 h
    have hT102 := (hT100.front 1 rfl)
    refine RunDT.q (x := eAt e10 v99.1.toNat) rfl kr rfl (wantedA_none rfl) rfl (q_indexAddr (a := e10) (b := .v (.int .i64 v99.1)) kr kr (ix_B (bytes := 24) hT102 kr hv101)) kr ?_
    obtain ⟨e103, hl104, hT105⟩ := ld_child (P := Tryd.prog) (ty := 31) hT102 (idx_at hv101).2 kr kr
    refine RunDT.q (x := e103) rfl kr rfl (wantedA_none rfl) rfl (q_load (p := eAt e10 v99.1.toNat) kr hl104) (ldOk_own0 hT98 (idx_at hv101).2 kr) ?_
    have hT106 := (hT105.front 4 rfl)
    refine RunDT.q (x := .ag [.v (.int .i64 x2), u1]) rfl kr rfl (wantedA_none rfl) rfl (q_load (p := e1) kr (ld_cel0 (y := .ag [.v (.int .i64 x2), u1]) (m := 2) (g := true) hT106 kr kr kr)) (ldOk_cel0 (hT98.front 2 rfl) kr) ?_
    refine RunDT.q (x := .v (.int .i64 c55)) rfl kr rfl (wantedA_none rfl) rfl kr kr ?_
    refine RunDT.q (x := .v (.int .i64 c53)) rfl kr rfl (wantedA_none rfl) rfl kr kr ?_
    refine RunDT.tail rfl ?_
    obtain ⟨v108, hv108, h⟩ := Option.bind_eq_some_iff.1 h
    have hT107 := ((hT106.front 4 rfl).front 2 rfl)
    refine RunL.inlT (E := e_evening_exchange_d) (e := e_evening_shift_d) rfl rfl e_evening_shift_d_ok rfl rfl (fid := 112) (caps := []) (xs := [e103, .ag [.v (.int .i64 x2), u1], .v (.int .i64 c55), .v (.int .i64 c53)]) (fn := Tryd.f112) (c := cb_evening_shift_d) (Out := fun v h' => v = .tp [] ∧ T h' ((own_ (ocL 1 3 (ocV cdI)) e103 v101) :: (own_ (ocL 1 3 (ocV cdI)) u1 v108) :: (cel e1 2 94 (.ag [.v (.int .i64 x2), u1])) :: (hole 1 31 (ocL 1 3 (ocV cdI)) e10 v8 v99.1.toNat e103 v101) :: (own_ (ocL 2 137 (ocV (cdG2 cdI cdI (fun _ => rfl) (fun _ => rfl)))) e17 r50) :: (hole 1 50 (ocL 1 31 (ocL 1 3 (ocV cdI))) u0 x1 c6.toNat e10 v8) :: L)) rfl (wantedA_none rfl) kr kr kr kr (by show 4 ≤ 52; decide) (evening_shift_d_sem e103 v101 x2 u1 v94 c55 c53 _ hv108 hT107) ?_
    rintro xx hp109 ⟨hqhp109, hT110⟩; subst xx
    refine RunL.done rfl (SemY.fr (l' := [(8, e10), (9, e17), p3, p2]) kr ?_)
    refine SemY.seq ?_
    have hT111 := ((hT110.front 3 rfl).front 1 rfl)
    have hT112 := (T.merge0 hT111)
    refine SemY.runDT 15 he.mixed kr kr ?_
    refine RunDT.q (x := e10) rfl kr rfl (wantedA_none rfl) rfl kr kr ?_
    refine RunDT.q (x := e17) rfl kr rfl (wantedA_none rfl) rfl kr kr ?_
    refine RunDT.q (x := .v (.int .i64 c53)) rfl kr rfl (wantedA_none rfl) rfl kr kr ?_
    obtain ⟨v113, hv113, h⟩ := Option.bind_eq_some_iff.1 h
    have hT114 := (hT112.front 3 rfl)
    refine RunDT.q (x := eAt e17 c53.toNat) rfl kr rfl (wantedA_none rfl) rfl (q_indexAddr (a := e17) (b := .v (.int .i64 c53)) kr kr (ix_B (bytes := 16) hT114 kr hv113)) kr ?_
    refine RunDT.q (x := pOff (eAt e17 c53.toNat) 0) rfl kr rfl (wantedA_none rfl) rfl (q_fld (a := eAt e17 c53.toNat) kr (fldo_B (off := 0) hT114 (idx_at hv113).2 kr)) kr ?_
    refine RunDT.q (x := .v (.int .i64 v113.1)) rfl kr rfl (wantedA_none rfl) rfl (q_load (p := pOff (eAt e17 c53.toNat) 0) kr (ld_own (off := 0) (y := .v (.int .i64 v113.1)) (m := 1) (g := false) hT114 (idx_at hv113).2 kr kr kr)) (ldOk_own (off := 0) (hT112.front 3 rfl) (idx_at hv113).2 kr) ?_
    obtain ⟨v115, hv115, h⟩ := Option.bind_eq_some_iff.1 h
    have hT116 := (hT114.front 1 rfl)
    refine RunDT.q (x := eAt e10 v113.1.toNat) rfl kr rfl (wantedA_none rfl) rfl (q_indexAddr (a := e10) (b := .v (.int .i64 v113.1)) kr kr (ix_B (bytes := 24) hT116 kr hv115)) kr ?_
    obtain ⟨e117, hl118, hT119⟩ := ld_child (P := Tryd.prog) (ty := 31) hT116 (idx_at hv115).2 kr kr
    refine RunDT.q (x := e117) rfl kr rfl (wantedA_none rfl) rfl (q_load (p := eAt e10 v113.1.toNat) kr hl118) (ldOk_own0 hT112 (idx_at hv115).2 kr) ?_
    refine RunDT.q (x := e17) rfl kr rfl (wantedA_none rfl) rfl kr kr ?_
    refine RunDT.q (x := .v (.int .i64 c53)) rfl kr rfl (wantedA_none rfl) rfl kr kr ?_
    obtain ⟨v120, hv120, h⟩ := Option.bind_eq_some_iff.1 h
    have hT121 := (hT119.front 2 rfl)
    refine RunDT.q (x := eAt e17 c53.toNat) rfl kr rfl (wantedA_none rfl) rfl (q_indexAddr (a := e17) (b := .v (.int .i64 c53)) kr kr (ix_B (bytes := 16) hT121 kr hv120)) kr ?_
    refine RunDT.q (x := pOff (eAt e17 c53.toNat) 1) rfl kr rfl (wantedA_none rfl) rfl (q_fld (a := eAt e17 c53.toNat) kr (fldo_B (off := 1) hT121 (idx_at hv120).2 kr)) kr ?_
    refine RunDT.q (x := .v (.int .i64 v120.2)) rfl kr rfl (wantedA_none rfl) rfl (q_load (p := pOff (eAt e17 c53.toNat) 1) kr (ld_own (off := 1) (y := .v (.int .i64 v120.2)) (m := 1) (g := false) hT121 (idx_at hv120).2 kr kr kr)) (ldOk_own (off := 1) (hT112.front 3 rfl) (idx_at hv120).2 kr) ?_
    refine RunDT.q (x := .v (.int .i64 c55)) rfl kr rfl (wantedA_none rfl) rfl kr kr ?_
    obtain ⟨v122, hv122, h⟩ := Option.bind_eq_some_iff.1 h
    have hT123 := (hT121.front 1 rfl)
    refine RunDT.q (x := eAt e117 v120.2.toNat) rfl kr rfl (wantedA_none rfl) rfl (q_indexAddr (a := e117) (b := .v (.int .i64 v120.2)) kr kr (ix_B (bytes := 8) hT123 kr hv122)) kr ?_
    refine RunDT.tail rfl ?_
    obtain ⟨hp124, hs125, hT126⟩ := st_own0 (P := Tryd.prog) (ty := 3) (y := .v (.int .i64 c55)) (v' := c55) hT123 (idx_at hv122).2 kr kr kr
    refine RunL.store he (y := eAt e117 v120.2.toNat) (z := .v (.int .i64 c55)) rfl (wantedA_none rfl) kr kr hs125 ?_
    refine RunL.done rfl (SemY.fr (l' := [(8, e10), (9, e17), p3, p2]) kr ?_)
    refine SemY.seq ?_
    have hT127 := ((hT126.front 2 rfl).front 1 rfl)
    have hT128 := (T.merge hT127)
    refine SemY.runDT 15 he.mixed kr kr ?_
    refine RunDT.q (x := e10) rfl kr rfl (wantedA_none rfl) rfl kr kr ?_
    refine RunDT.q (x := e17) rfl kr rfl (wantedA_none rfl) rfl kr kr ?_
    refine RunDT.q (x := .v (.int .i64 c55)) rfl kr rfl (wantedA_none rfl) rfl kr kr ?_
    obtain ⟨v129, hv129, h⟩ := Option.bind_eq_some_iff.1 h
    have hT130 := (hT128.front 1 rfl)
    refine RunDT.q (x := eAt e17 c55.toNat) rfl kr rfl (wantedA_none rfl) rfl (q_indexAddr (a := e17) (b := .v (.int .i64 c55)) kr kr (ix_B (bytes := 16) hT130 kr hv129)) kr ?_
    refine RunDT.q (x := pOff (eAt e17 c55.toNat) 0) rfl kr rfl (wantedA_none rfl) rfl (q_fld (a := eAt e17 c55.toNat) kr (fldo_B (off := 0) hT130 (idx_at hv129).2 kr)) kr ?_
    refine RunDT.q (x := .v (.int .i64 v129.1)) rfl kr rfl (wantedA_none rfl) rfl (q_load (p := pOff (eAt e17 c55.toNat) 0) kr (ld_own (off := 0) (y := .v (.int .i64 v129.1)) (m := 1) (g := false) hT130 (idx_at hv129).2 kr kr kr)) (ldOk_own (off := 0) (hT128.front 1 rfl) (idx_at hv129).2 kr) ?_
    obtain ⟨v131, hv131, h⟩ := Option.bind_eq_some_iff.1 h
    have hT132 := (hT130.front 1 rfl)
    refine RunDT.q (x := eAt e10 v129.1.toNat) rfl kr rfl (wantedA_none rfl) rfl (q_indexAddr (a := e10) (b := .v (.int .i64 v129.1)) kr kr (ix_B (bytes := 24) hT132 kr hv131)) kr ?_
    obtain ⟨e133, hl134, hT135⟩ := ld_child (P := Tryd.prog) (ty := 31) hT132 (idx_at hv131).2 kr kr
    refine RunDT.q (x := e133) rfl kr rfl (wantedA_none rfl) rfl (q_load (p := eAt e10 v129.1.toNat) kr hl134) (ldOk_own0 hT128 (idx_at hv131).2 kr) ?_
    refine RunDT.q (x := e17) rfl kr rfl (wantedA_none rfl) rfl kr kr ?_
    refine RunDT.q (x := .v (.int .i64 c55)) rfl kr rfl (wantedA_none rfl) rfl kr kr ?_
    obtain ⟨v136, hv136, h⟩ := Option.bind_eq_some_iff.1 h
    have hT137 := (hT135.front 2 rfl)
    refine RunDT.q (x := eAt e17 c55.toNat) rfl kr rfl (wantedA_none rfl) rfl (q_indexAddr (a := e17) (b := .v (.int .i64 c55)) kr kr (ix_B (bytes := 16) hT137 kr hv136)) kr ?_
    refine RunDT.q (x := pOff (eAt e17 c55.toNat) 1) rfl kr rfl (wantedA_none rfl) rfl (q_fld (a := eAt e17 c55.toNat) kr (fldo_B (off := 1) hT137 (idx_at hv136).2 kr)) kr ?_
    refine RunDT.q (x := .v (.int .i64 v136.2)) rfl kr rfl (wantedA_none rfl) rfl (q_load (p := pOff (eAt e17 c55.toNat) 1) kr (ld_own (off := 1) (y := .v (.int .i64 v136.2)) (m := 1) (g := false) hT137 (idx_at hv136).2 kr kr kr)) (ldOk_own (off := 1) (hT128.front 1 rfl) (idx_at hv136).2 kr) ?_
    refine RunDT.q (x := .v (.int .i64 c53)) rfl kr rfl (wantedA_none rfl) rfl kr kr ?_
    obtain ⟨v138, hv138, h⟩ := Option.bind_eq_some_iff.1 h
    have hT139 := (hT137.front 1 rfl)
    refine RunDT.q (x := eAt e133 v136.2.toNat) rfl kr rfl (wantedA_none rfl) rfl (q_indexAddr (a := e133) (b := .v (.int .i64 v136.2)) kr kr (ix_B (bytes := 8) hT139 kr hv138)) kr ?_
    refine RunDT.tail rfl ?_
    obtain ⟨hp140, hs141, hT142⟩ := st_own0 (P := Tryd.prog) (ty := 3) (y := .v (.int .i64 c53)) (v' := c53) hT139 (idx_at hv138).2 kr kr kr
    refine RunL.store he (y := eAt e133 v136.2.toNat) (z := .v (.int .i64 c53)) rfl (wantedA_none rfl) kr kr hs141 ?_
    refine RunL.done rfl (SemY.fr (l' := []) kr ?_)
    refine SemY.sq he [(6, .v (.bool true))] ?_
    refine SemY.ret ?_
    have hq := Option.some.inj h; subst hq
    have hT149 := ((hT142.front 2 rfl).front 1 rfl)
    have hT150 := (T.merge hT149)
    have hT151 := ((hT150.front 4 rfl).front 1 rfl)
    have hT152 := (T.merge hT151)
    have hT153 := ((hT152.front 1 rfl).drop.front 2 rfl).drop
    exact ⟨rfl, _, ⟨hp140, hT153, rfl⟩, (WkY.fr kr)⟩
  ·rw [if_f hb56] at h
   refine SemY.exit ?_
   have hq := Option.some.inj h; subst hq
   exact ⟨rfl, _, ⟨hp, hT, rfl⟩, (WkY.fr kr)⟩
set_option maxHeartbeats 4000000 in
set_option maxRecDepth 100000 in
theorem evening_exchange_d_4_ok {L : List Asn} (x0 : Int) (x1 : (List (List (List Int)))) (x2 : Int) (x3 : (List Int)) (c6 : Int) (v8 : (List (List Int))) (r50 : (List (Int × Int))) (u0 : AV) (u1 : AV) (e1 : AV) (e10 : AV) (e17 : AV) : ∀ (f : Nat) (c53 : Int) (r : (Unit) ⊕ ((List (List (List Int))) × (List Int))), evening_exchange_d_4 x0 x1 x2 x3 c6 v8 r50 f c53 = some r → ∀ (hp : Hp), T hp ((cel e1 2 94 (.ag [.v (.int .i64 x2), u1])) :: (own_ (ocL 1 3 (ocV cdI)) u1 x3) :: (own_ (ocL 1 31 (ocL 1 3 (ocV cdI))) e10 v8) :: (hole 1 50 (ocL 1 31 (ocL 1 3 (ocV cdI))) u0 x1 c6.toNat e10 v8) :: (own_ (ocL 2 137 (ocV (cdG2 cdI cdI (fun _ => rfl) (fun _ => rfl)))) e17 r50) :: L) → SemYN e_evening_exchange_d ⟨none, false⟩ (pc cb_evening_exchange_d [1, 0, 1, 0, 0, 1, 1, 0, 0, 1, 1, 1, 1, 0, 0]) f ⟨Fr 142 [(0, .v (.int .i64 x0)), (5, e1), (8, e10), (9, e17), (16, u0), (17, .v (.int .i64 (x1.length : Int))), (18, .v (.int .i64 c6)), (46, .v (.int .i64 x0)), (47, .v (.int .i64 c53))], hp⟩ (fun e s => match r with
 | (.inl _) => e = (.exit 6) ∧ ∃ s2, (∃ (h' : Hp), T h' ((cel e1 2 94 (.ag [.v (.int .i64 x2), u1])) :: (own_ (ocL 1 3 (ocV cdI)) u1 x3) :: (own_ (ocL 1 50 (ocL 1 31 (ocL 1 3 (ocV cdI)))) u0 x1) :: L) ∧ s2 = ⟨Fr 142 [(0, .v (.int .i64 x0)), (5, e1), (16, u0), (17, .v (.int .i64 (x1.length : Int))), (18, .v (.int .i64 c6))], h'⟩) ∧ WkY e_evening_exchange_d s s2
 | (.inr w) => e = .ret ∧ ∃ s2, (∃ (h' : Hp), T h' ((own_ (ocL 1 50 (ocL 1 31 (ocL 1 3 (ocV cdI)))) u0 w.1) :: (own_ (ocL 1 3 (ocV cdI)) u1 w.2) :: L) ∧ s2 = ⟨Fr 142 [(6, .v (.bool true))], h'⟩) ∧ WkY e_evening_exchange_d s s2) := by
 have he := e_evening_exchange_d_ok
 intro f
 induction f with
 | zero => intro c53 r h; cases h
 | succ f ih0 =>
  intro c53 r h  hp hT
  unfold evening_exchange_d_4 at h
  refine SemYN.succ ?_
  let p1 : Nat × AV := (47, .v (.int .i64 c53))
  let p2 : Nat × AV := (46, .v (.int .i64 x0))
  let p3 : Nat × AV := (18, .v (.int .i64 c6))
  let p4 : Nat × AV := (17, .v (.int .i64 (x1.length : Int)))
  let p5 : Nat × AV := (0, .v (.int .i64 x0))
  refine SemY.sq he [p5, (5, e1), (8, e10), (9, e17), (16, u0), p4, p3, p2, p1, (48, .v (.bool (decide (c53 < x0))))] ?_
  refine SemY.seq ?_
  refine SemY.cond (b := (decide (c53 < x0))) kr (fun hb54 => ?_) (fun hb54 => ?_)
  ·rw [if_pos hb54] at h
   refine SemY.skip ?_
   refine SemY.seq ?_
   refine SemY.block ?_
   refine SemY.sq he [p5, (5, e1), (8, e10), (9, e17), (14, .v (.int .i64 c53)), (16, u0), p4, p3, p2, p1] ?_
   refine SemY.sq he [p5, (5, e1), (8, e10), (9, e17), (14, .v (.int .i64 c53)), (15, .v (.int .i64 (wr .i64 (c53 + 1)))), (16, u0), p4, p3, p2, p1] ?_
   refine SemY.block ?_
   refine SemY.loop (n := 100000) ?_
   obtain ⟨r155, hr155, h⟩ := Option.bind_eq_some_iff.1 h
   rcases r155 with w156 | w159
   ·try dsimp only at h
    refine SemYN.cutT (SemYN.wk (WkY.fr kr) (evening_exchange_d_5_ok x0 x1 x2 x3 c6 v8 r50 c53 u0 u1 e1 e10 e17 _ (wr .i64 (c53 + 1)) _ hr155  hp hT)) ?_
    rintro _ ⟨hp157, hT158, rfl⟩
    refine SemY.regionL ?_
    refine RunL.sg he 2 ?_
    refine RunL.done rfl ?_
    exact SemYN.wk (WkY.fr kr) (ih0 (wr .i64 (c53 + 1)) _ h  hp157 hT158)
   ·try dsimp only at h
    refine SemYN.cutT (SemYN.wk (WkY.fr kr) (evening_exchange_d_5_ok x0 x1 x2 x3 c6 v8 r50 c53 u0 u1 e1 e10 e17 _ (wr .i64 (c53 + 1)) _ hr155  hp hT)) ?_
    rintro _ ⟨hp160, hT161, rfl⟩
    have hq := Option.some.inj h; subst hq
    exact ⟨rfl, _, ⟨hp160, hT161, rfl⟩, (WkY.fr kr)⟩
  ·rw [if_f hb54] at h
   refine SemY.exit ?_
   have hq := Option.some.inj h; subst hq
   have hT166 := ((hT.front 3 rfl).front 3 rfl)
   have hT167 := (T.merge0 hT166)
   have hT168 := (((hT167.front 3 rfl).drop.front 2 rfl).front 2 rfl)
   exact ⟨rfl, _, ⟨hp, hT168, rfl⟩, (WkY.fr kr)⟩
set_option maxHeartbeats 4000000 in
set_option maxRecDepth 100000 in
theorem evening_exchange_d_1_ok {L : List Asn} (x0 : Int) (x1 : (List (List (List Int)))) (x2 : Int) (x3 : (List Int)) (u0 : AV) (u1 : AV) (e1 : AV) : ∀ (f : Nat) (c6 : Int) (r : (Unit) ⊕ ((List (List (List Int))) × (List Int))), evening_exchange_d_1 x0 x1 x2 x3 f c6 = some r → ∀ (hp : Hp), T hp ((cel e1 2 94 (.ag [.v (.int .i64 x2), u1])) :: (own_ (ocL 1 3 (ocV cdI)) u1 x3) :: (own_ (ocL 1 50 (ocL 1 31 (ocL 1 3 (ocV cdI)))) u0 x1) :: L) → SemYN e_evening_exchange_d ⟨none, false⟩ (pc cb_evening_exchange_d [1, 0, 1, 0, 0]) f ⟨Fr 142 [(0, .v (.int .i64 x0)), (5, e1), (16, u0), (17, .v (.int .i64 (x1.length : Int))), (18, .v (.int .i64 c6))], hp⟩ (fun e s => match r with
 | (.inl _) => e = (.exit 0) ∧ ∃ s2, (∃ (h' : Hp), T h' ((own_ (ocL 1 50 (ocL 1 31 (ocL 1 3 (ocV cdI)))) u0 x1) :: (own_ (ocL 1 3 (ocV cdI)) u1 x3) :: L) ∧ s2 = ⟨Fr 142 [], h'⟩) ∧ WkY e_evening_exchange_d s s2
 | (.inr w) => e = .ret ∧ ∃ s2, (∃ (h' : Hp), T h' ((own_ (ocL 1 50 (ocL 1 31 (ocL 1 3 (ocV cdI)))) u0 w.1) :: (own_ (ocL 1 3 (ocV cdI)) u1 w.2) :: L) ∧ s2 = ⟨Fr 142 [(6, .v (.bool true))], h'⟩) ∧ WkY e_evening_exchange_d s s2) := by
 have he := e_evening_exchange_d_ok
 intro f
 induction f with
 | zero => intro c6 r h; cases h
 | succ f ih0 =>
  intro c6 r h  hp hT
  unfold evening_exchange_d_1 at h
  refine SemYN.succ ?_
  let p1 : Nat × AV := (18, .v (.int .i64 c6))
  let p2 : Nat × AV := (17, .v (.int .i64 (x1.length : Int)))
  let p3 : Nat × AV := (0, .v (.int .i64 x0))
  refine SemY.sq he [p3, (5, e1), (16, u0), p2, p1, (19, .v (.bool (decide (c6 < (x1.length : Int)))))] ?_
  refine SemY.seq ?_
  refine SemY.cond (b := (decide (c6 < (x1.length : Int)))) kr (fun hb7 => ?_) (fun hb7 => ?_)
  ·rw [if_pos hb7] at h
   refine SemY.skip ?_
   refine SemY.seq ?_
   refine SemY.block ?_
   refine SemY.seq ?_
   refine SemY.regionL ?_
   obtain ⟨v8, hv8, h⟩ := Option.bind_eq_some_iff.1 h
   have hT9 := (hT.front 2 rfl)
   refine RunL.one he 0 rfl (op_q (wantedA_none rfl) rfl (q_indexAddr (a := u0) (b := .v (.int .i64 c6)) kr kr (ix_B (bytes := 24) hT9 kr hv8))) ?_
   obtain ⟨e10, hl11, hT12⟩ := ld_child (P := Tryd.prog) (ty := 50) hT9 (idx_at hv8).2 kr kr
   refine RunL.one he 0 rfl (op_q (wantedA_none rfl) rfl (q_load (p := eAt u0 c6.toNat) kr hl11)) ?_
   refine RunL.fin he [p3, (5, e1), (8, e10), (16, u0), p2, p1] ?_
   refine SemY.seq ?_
   refine SemY.regionL ?_
   refine RunL.sg he 1 ?_
   by_cases hk13 : (mkOk 16 x0) = true
   case neg => rw [if_neg hk13] at h; cases h
   rw [if_pos hk13] at h
   obtain ⟨e17, hp14, hb15, hT16⟩ := make_ownB (P := Tryd.prog) (o := (ocV (cdG2 cdI cdI (fun _ => rfl) (fun _ => rfl)))) (k := 2) (t := 137) (ty := 135) (bytes := 16) (kn := .i64) (kc := .i64) (m := x0) (x0 := (0, 0)) hT12 (fun _ => ⟨rfl, rfl⟩) kr kr hk13
   refine RunL.one he 0 rfl (op_n (wantedA_none rfl) rfl kr (n_make (x := .v (.int .i64 x0)) (y := .v (.int .i64 x0)) kr kr hb15)) ?_
   refine RunL.fin he [p3, (5, e1), (8, e10), (9, e17), (16, u0), p2, p1] ?_
   refine SemY.seq ?_
   refine SemY.seq ?_
   refine SemY.regionL ?_
   refine RunL.sg he 1 ?_
   have hT18 := (hT16.front 1 rfl)
   refine RunL.one he 0 rfl (op_q (wantedA_none rfl) rfl (q_len (a := e10) kr (len_B hT18 kr))) ?_
   refine RunL.fin he [p3, (5, e1), (8, e10), (9, e17), (16, u0), p2, p1, (24, e10), (25, .v (.int .i64 (v8.length : Int))), (26, .v (.int .i64 0))] ?_
   refine SemY.block ?_
   have hT49 := (((((hT18.front 1 rfl).front 2 rfl).front 2 rfl).front 4 rfl).front 4 rfl)
   refine SemY.loop (n := 100000) ?_
   obtain ⟨r50, hr50, h⟩ := Option.bind_eq_some_iff.1 h
   refine SemYN.cutT (SemYN.wk (WkY.fr kr) (evening_exchange_d_2_ok v8 x0 u0 x1 x2 u1 x3 e1 c6 e10 e17 _ 0 (List.replicate x0.toNat ((0, 0) : (Int × Int))) _ hr50  hp14 hT49)) ?_
   rintro _ ⟨hp51, hT52, rfl⟩
   refine SemY.sq he [p3, (5, e1), (8, e10), (9, e17), (16, u0), p2, p1, (46, .v (.int .i64 x0)), (47, .v (.int .i64 0))] ?_
   refine SemY.block ?_
   refine SemY.loop (n := 100000) ?_
   obtain ⟨r169, hr169, h⟩ := Option.bind_eq_some_iff.1 h
   rcases r169 with w170 | w173
   ·try dsimp only at h
    refine SemYN.cutT (SemYN.wk (WkY.fr kr) (evening_exchange_d_4_ok x0 x1 x2 x3 c6 v8 r50 u0 u1 e1 e10 e17 _ 0 _ hr169  hp51 hT52)) ?_
    rintro _ ⟨hp171, hT172, rfl⟩
    refine SemY.regionL ?_
    refine RunL.sg he 2 ?_
    refine RunL.done rfl ?_
    exact SemYN.wk (WkY.fr kr) (ih0 (wr .i64 (c6 + 1)) _ h  hp171 hT172)
   ·try dsimp only at h
    refine SemYN.cutT (SemYN.wk (WkY.fr kr) (evening_exchange_d_4_ok x0 x1 x2 x3 c6 v8 r50 u0 u1 e1 e10 e17 _ 0 _ hr169  hp51 hT52)) ?_
    rintro _ ⟨hp174, hT175, rfl⟩
    have hq := Option.some.inj h; subst hq
    exact ⟨rfl, _, ⟨hp174, hT175, rfl⟩, (WkY.fr kr)⟩
  ·rw [if_f hb7] at h
   refine SemY.exit ?_
   have hq := Option.some.inj h; subst hq
   have hT178 := (hT.drop.front 1 rfl)
   exact ⟨rfl, _, ⟨hp, hT178, rfl⟩, (WkY.fr kr)⟩
set_option maxHeartbeats 4000000 in
set_option maxRecDepth 100000 in
theorem evening_exchange_d_sem {L : List Asn} {hp : Hp} (x0 : Int) (u0 : AV) (x1 : (List (List (List Int)))) (x2 : Int) (u1 : AV) (x3 : (List Int)) (r : Bool × (List (List (List Int))) × (List Int)) (h : evening_exchange_d x0 x1 x2 x3 = some r) (hT : T hp ((own_ (ocL 1 50 (ocL 1 31 (ocL 1 3 (ocV cdI)))) u0 x1) :: (own_ (ocL 1 3 (ocV cdI)) u1 x3) :: L)) : SemY e_evening_exchange_d ⟨none, false⟩ cb_evening_exchange_d ⟨Fr 142 (pairs0 0 [.v (.int .i64 x0), u0, .ag [.v (.int .i64 x2), u1]]), hp⟩ fun x s' => (x = .normal ∨ x = .ret) ∧ ∃ ys, resA e_evening_exchange_d.P s'.fr s'.hp Tryd.f81.results.toList = some ys ∧ (fun v h' => v = .v (.bool r.1) ∧ T h' ((own_ (ocL 1 50 (ocL 1 31 (ocL 1 3 (ocV cdI)))) u0 r.2.1) :: (own_ (ocL 1 3 (ocV cdI)) u1 r.2.2) :: L)) (retA ys) s'.hp := by
 have he := e_evening_exchange_d_ok
 unfold evening_exchange_d at h
 let p1 : Nat × AV := (0, .v (.int .i64 x0))
 refine SemY.wkQ (SemY.wk (s1 := ⟨Fr 142 [p1, (1, u0), (2, .ag [.v (.int .i64 x2), u1])], hp⟩) (WkY.fr kr) ?_)
 refine SemY.seq ?_
 refine SemY.regionL ?_
 obtain ⟨e1, hp2, hb3, hT4⟩ := box_cel (t := 94) (a := .ag [.v (.int .i64 x2), u1]) hT (by have hq := shape_own (hT.front 1 rfl); revert hq; generalize u1 = zz; intro hq; cases zz <;> first | (exact (Bool.false_ne_true hq.1).elim) | (exact (Bool.false_ne_true hq.2).elim) | skip; all_goals (first | rfl | kernel_rfl | exact rfl))
 refine RunL.one he 0 rfl (op_n (wantedA_none rfl) rfl kr (n_box (z := .ag [.v (.int .i64 x2), u1]) kr hb3)) ?_
 refine RunL.fin he [p1, (1, u0), (5, e1)] ?_
 refine SemY.seq ?_
 refine SemY.seq ?_
 refine SemY.regionL ?_
 refine RunL.sg he 1 ?_
 have hT5 := (hT4.front 1 rfl)
 refine RunL.one he 0 rfl (op_q (wantedA_none rfl) rfl (q_len (a := u0) kr (len_B hT5 kr))) ?_
 refine RunL.fin he [p1, (5, e1), (16, u0), (17, .v (.int .i64 (x1.length : Int))), (18, .v (.int .i64 0))] ?_
 refine SemY.block ?_
 have hT179 := ((hT5.front 2 rfl).front 2 rfl)
 refine SemY.loop (n := 100000) ?_
 obtain ⟨r180, hr180, h⟩ := Option.bind_eq_some_iff.1 h
 rcases r180 with w181 | w184
 ·try dsimp only at h
  refine SemYN.cutT (SemYN.wk (WkY.fr kr) (evening_exchange_d_1_ok x0 x1 x2 x3 u0 u1 e1 _ 0 _ hr180  hp2 hT179)) ?_
  rintro _ ⟨hp182, hT183, rfl⟩
  refine SemY.sq he [(6, .v (.bool false))] ?_
  refine SemY.ret ?_
  have hq := Option.some.inj h; subst hq
  exact ⟨⟨Fr 142 [(6, .v (.bool false))], hp182⟩, (WkY.fr kr), .inr rfl, [.v (.bool false)], kr, ⟨rfl, hT183⟩⟩
 ·try dsimp only at h
  refine SemYN.cutT (SemYN.wk (WkY.fr kr) (evening_exchange_d_1_ok x0 x1 x2 x3 u0 u1 e1 _ 0 _ hr180  hp2 hT179)) ?_
  rintro _ ⟨hp185, hT186, rfl⟩
  have hq := Option.some.inj h; subst hq
  exact ⟨⟨Fr 142 [(6, .v (.bool true))], hp185⟩, (WkY.fr kr), .inr rfl, [.v (.bool true)], kr, ⟨rfl, hT186⟩⟩
/- trestle/evening.Polish -/
noncomputable def e_evening_Polish : Env := (E0.withX 27 t_evening_Check)
theorem e_evening_Polish_ok : EnvOk e_evening_Polish := (EnvOk.withX E0_ok x_evening_Check.1 x_evening_Check.2)
noncomputable def cb_evening_Polish : Code := codeOf Tryd.f26
def evening_Polish_1 (x0 : Int) (x2 : Int) (v19 : Int × (List Int)) : Nat → Int → (List (List (List Int))) → (List Int) → Option ((Int × (List (List (List Int)))))
 | 0, _, _, _ => none
 | f + 1, c27, c28, c29 =>
  (if (decide (c27 < x2)) = true then (evening_exchange_d x0 c28 v19.1 c29).bind fun v32 =>
  some (v32.1, v32.2.1, v32.2.2) else some (false, c28, c29)).bind fun j35 =>
  if j35.1 = true then
  evening_Polish_1 x0 x2 v19 f (wr .i64 (c27 + 1)) j35.2.1 j35.2.2
  else
  some (c27, j35.2.1)
def evening_Polish (x0 : Int) (x1 : (List (List (List Int)))) (x2 : Int) : Option ((List (List (List Int))) × Int × Int) :=
 (evening_Check x0 [] x1).bind fun v1 =>
 if (v1.2 != 0) = true then
 some (([] : (List (List (List Int)))), 0, v1.2)
 else
 if (decide (x2 < 0)) = true then
 some (([] : (List (List (List Int)))), 0, 2)
 else
 (evening_clone_d x1).bind fun v12 =>
 (evening_meetings x0 x1).bind fun v19 =>
 (evening_Polish_1 x0 x2 v19 100000 0 v12 v19.2).bind fun r56 =>
 some (r56.2, r56.1, 0)
set_option maxHeartbeats 4000000 in
set_option maxRecDepth 100000 in
theorem evening_Polish_1_ok {L : List Asn} (x0 : Int) (x2 : Int) (v19 : Int × (List Int)) (e13 : AV) (e16 : AV) (e20 : AV) : ∀ (f : Nat) (c27 : Int) (c28 : (List (List (List Int)))) (c29 : (List Int)) (r : (Int × (List (List (List Int))))), evening_Polish_1 x0 x2 v19 f c27 c28 c29 = some r → ∀ (hp : Hp), T hp ((own_ (ocL 1 50 (ocL 1 31 (ocL 1 3 (ocV cdI)))) e13 c28) :: (cel e20 2 94 (.ag [.v (.int .i64 v19.1), e16])) :: (own_ (ocL 1 3 (ocV cdI)) e16 c29) :: L) → SemYN e_evening_Polish ⟨none, false⟩ (pc cb_evening_Polish [1, 1, 1, 1, 1, 1, 0, 0, 0]) f ⟨Fr 43 [(0, .v (.int .i64 x0)), (2, .v (.int .i64 x2)), (11, e13), (12, e20), (13, .v (.int .i64 c27))], hp⟩ (fun e s => e = (.exit 0) ∧ ∃ s2, (∃ (h' : Hp), T h' ((own_ (ocL 1 50 (ocL 1 31 (ocL 1 3 (ocV cdI)))) e13 r.2) :: L) ∧ s2 = ⟨Fr 43 [(11, e13), (13, .v (.int .i64 r.1))], h'⟩) ∧ WkY e_evening_Polish s s2) := by
 have he := e_evening_Polish_ok
 intro f
 induction f with
 | zero => intro c27 c28 c29 r h; cases h
 | succ f ih0 =>
  intro c27 c28 c29 r h  hp hT
  unfold evening_Polish_1 at h
  refine SemYN.succ ?_
  refine SemY.seq ?_
  refine SemY.seq ?_
  obtain ⟨j35, hj35, h⟩ := Option.bind_eq_some_iff.1 h
  refine SemY.regT (A := fun s1 => ∃ (h' : Hp), T h' ((own_ (ocL 1 50 (ocL 1 31 (ocL 1 3 (ocV cdI)))) e13 j35.2.1) :: (cel e20 2 94 (.ag [.v (.int .i64 v19.1), e16])) :: (own_ (ocL 1 3 (ocV cdI)) e16 j35.2.2) :: L) ∧ s1 = ⟨Fr 43 [(0, .v (.int .i64 x0)), (2, .v (.int .i64 x2)), (11, e13), (12, e20), (13, .v (.int .i64 c27)), (38, .v (.bool j35.1))], h'⟩) ?_ ?_
  ·refine RunL.segF (n := 43) he 4 [(0, .v (.int .i64 x0)), (2, .v (.int .i64 x2)), (11, e13), (12, e20), (13, .v (.int .i64 c27)), (33, .v (.bool (decide (c27 < x2))))] hp kr ?_
   rcases Bool.eq_false_or_eq_true (decide (c27 < x2)) with hc54 | hc54
   ·rw [if_pos hc54] at hj35
    rw [hc54]
    refine RunL.sg he 2 ?_
    have hT30 := (hT.front 1 rfl)
    refine RunL.one he 0 rfl (op_q kr rfl (q_load (p := e20) kr (ld_cel0 (y := .ag [.v (.int .i64 v19.1), e16]) (m := 2) (g := true) hT30 kr kr kr))) ?_
    obtain ⟨v32, hv32, hj35⟩ := Option.bind_eq_some_iff.1 hj35
    have hT31 := ((hT30.front 2 rfl).front 2 rfl)
    refine RunL.inlT (E := e_evening_Polish) (e := e_evening_exchange_d) rfl rfl e_evening_exchange_d_ok rfl rfl (fid := 81) (caps := []) (xs := [.v (.int .i64 x0), e13, .ag [.v (.int .i64 v19.1), e16]]) (fn := Tryd.f81) (c := cb_evening_exchange_d) (Out := fun v h' => v = .v (.bool v32.1) ∧ T h' ((own_ (ocL 1 50 (ocL 1 31 (ocL 1 3 (ocV cdI)))) e13 v32.2.1) :: (own_ (ocL 1 3 (ocV cdI)) e16 v32.2.2) :: (cel e20 2 94 (.ag [.v (.int .i64 v19.1), e16])) :: L)) rfl kr kr kr kr kr (by show 3 ≤ 142; decide) (evening_exchange_d_sem x0 e13 c28 v19.1 e16 c29 _ hv32 hT31) ?_
    rintro xx hp33 ⟨hqhp33, hT34⟩; subst xx
    refine RunL.sg he 1 ?_
    have hq := Option.some.inj hj35; subst hq
    have hT47 := (((hT34.front 1 rfl).front 2 rfl).front 2 rfl)
    exact RunL.done rfl ⟨_, ⟨hp33, hT47, rfl⟩, (WkY.fr kr)⟩
   ·rw [if_f hc54] at hj35
    rw [hc54]
    refine RunL.sg he 5 ?_
    have hq := Option.some.inj hj35; subst hq
    exact RunL.done rfl ⟨_, ⟨hp, hT, rfl⟩, (WkY.fr kr)⟩
  rintro _ ⟨hp48, hT49, rfl⟩
  refine SemY.cond (b := j35.1) kr (fun hb50 => ?_) (fun hb50 => ?_)
  ·rw [if_pos hb50] at h
   refine SemY.skip ?_
   refine SemY.block ?_
   refine SemY.regionL ?_
   refine RunL.sg he 3 ?_
   refine RunL.done rfl ?_
   exact SemYN.wk (WkY.fr kr) (ih0 (wr .i64 (c27 + 1)) j35.2.1 j35.2.2 _ h  hp48 hT49)
  ·rw [if_f hb50] at h
   refine SemY.exit ?_
   have hq := Option.some.inj h; subst hq
   have hT53 := ((hT49.front 1 rfl).drop.front 1 rfl).drop
   exact ⟨rfl, _, ⟨hp48, hT53, rfl⟩, (WkY.fr kr)⟩
set_option maxHeartbeats 4000000 in
set_option maxRecDepth 100000 in
theorem evening_Polish_sem {L : List Asn} {hp : Hp} (x0 : Int) (x1 : (List (List (List Int)))) (x2 : Int) (r : (List (List (List Int))) × Int × Int) (h : evening_Polish x0 x1 x2 = some r) (hT : T hp (L)) : SemY e_evening_Polish ⟨none, false⟩ cb_evening_Polish ⟨Fr 43 (pairs0 0 [.v (.int .i64 x0), .sl 1 (x1.map (cdL 1 (cdL 1 cdI)).enc), .v (.int .i64 x2)]), hp⟩ fun x s' => (x = .normal ∨ x = .ret) ∧ ∃ ys, resA e_evening_Polish.P s'.fr s'.hp Tryd.f26.results.toList = some ys ∧ (fun v h' => v = .tp [.sl 1 (r.1.map (cdL 1 (cdL 1 cdI)).enc), .v (.int .i64 r.2.1), .v (.int .i64 r.2.2)] ∧ T h' (L)) (retA ys) s'.hp := by
 have he := e_evening_Polish_ok
 unfold evening_Polish at h
 let p1 : Nat × AV := (2, .v (.int .i64 x2))
 let p2 : Nat × AV := (1, .sl 1 (x1.map (cdL 1 (cdL 1 cdI)).enc))
 let p3 : Nat × AV := (0, .v (.int .i64 x0))
 refine SemY.wkQ (SemY.wk (s1 := ⟨Fr 43 [p3, p2, p1], hp⟩) (WkY.fr kr) ?_)
 refine SemY.sq he [p3, p2, p1] ?_
 refine SemY.seq ?_
 refine SemY.seq ?_
 refine SemY.regionL ?_
 refine RunL.sg he 2 ?_
 obtain ⟨v1, hv1, h⟩ := Option.bind_eq_some_iff.1 h
 refine RunL.call he (fid := 27) (b := v1) (s := cs_evening_Check) (F := fun a => evening_Check a.1 a.2.1 a.2.2.1) (er := er_evening_Check) (xs := [.v (.int .i64 x0), .e0, .sl 1 (x1.map (cdL 1 (cdL 1 cdI)).enc)]) (a := (x0, [], x1, ())) rfl (wantedA_none rfl) kr kr kr kr (Sns.cons (Sn.enc (c := cdI) (v := x0)) (Sns.cons Sn.e0 (Sns.cons (Sn.enc (c := (cdL 1 (cdL 1 (cdL 1 cdI)))) (v := x1)) Sns.nil))) (.inl kr) hv1 ?_
 refine RunL.fin he [p3, p2, p1, (10, .v (.int .i64 v1.2))] ?_
 refine SemY.sq he [p3, p2, p1, (10, .v (.int .i64 v1.2)), (21, .v (.bool (v1.2 != 0)))] ?_
 refine SemY.cond (b := (v1.2 != 0)) kr (fun hb2 => ?_) (fun hb2 => ?_)
 ·rw [if_pos hb2] at h
  let p4 : Nat × AV := (8, .v (.int .i64 v1.2))
  let p5 : Nat × AV := (7, .v (.int .i64 0))
  refine SemY.sq he [(6, .e0), p5, p4] ?_
  refine SemY.ret ?_
  have hq := Option.some.inj h; subst hq
  have hT3 := (T.e0 (k := 1) (ty := 50) (o := (ocL 1 31 (ocL 1 3 (ocV cdI)))) hT)
  let p6 : Nat × AV := (6, .sl 1 (([] : (List (List (List Int)))).map (cdL 1 (cdL 1 cdI)).enc))
  obtain ⟨hp4, hw5, hT6⟩ := WkY.frzT (E := e_evening_Polish) (n := 43) (l := [(6, .e0), p5, p4]) (l' := [p6, p5, p4]) hT3 (LkT.at_ ⟨.inr ⟨kr, rfl⟩, .inl kr, .inl kr, trivial⟩)
  exact ⟨⟨Fr 43 [p6, p5, p4], hp4⟩, (WkY.trans (WkY.trans (WkY.fr kr) hw5) (WkY.fr kr)), .inr rfl, [.sl 1 (([] : (List (List (List Int)))).map (cdL 1 (cdL 1 cdI)).enc), .v (.int .i64 0), .v (.int .i64 v1.2)], kr, ⟨rfl, hT6⟩⟩
 ·rw [if_f hb2] at h
  refine SemY.skip ?_
  refine SemY.seq ?_
  refine SemY.sq he [p3, p2, p1, (24, .v (.bool (decide (x2 < 0))))] ?_
  refine SemY.cond (b := (decide (x2 < 0))) kr (fun hb7 => ?_) (fun hb7 => ?_)
  ·rw [if_pos hb7] at h
   let p7 : Nat × AV := (8, .v (.int .i64 2))
   let p8 : Nat × AV := (7, .v (.int .i64 0))
   refine SemY.sq he [(6, .e0), p8, p7] ?_
   refine SemY.ret ?_
   have hq := Option.some.inj h; subst hq
   have hT8 := (T.e0 (k := 1) (ty := 50) (o := (ocL 1 31 (ocL 1 3 (ocV cdI)))) hT)
   let p9 : Nat × AV := (6, .sl 1 (([] : (List (List (List Int)))).map (cdL 1 (cdL 1 cdI)).enc))
   obtain ⟨hp9, hw10, hT11⟩ := WkY.frzT (E := e_evening_Polish) (n := 43) (l := [(6, .e0), p8, p7]) (l' := [p9, p8, p7]) hT8 (LkT.at_ ⟨.inr ⟨kr, rfl⟩, .inl kr, .inl kr, trivial⟩)
   exact ⟨⟨Fr 43 [p9, p8, p7], hp9⟩, (WkY.trans (WkY.trans (WkY.fr kr) hw10) (WkY.fr kr)), .inr rfl, [.sl 1 (([] : (List (List (List Int)))).map (cdL 1 (cdL 1 cdI)).enc), .v (.int .i64 0), .v (.int .i64 2)], kr, ⟨rfl, hT11⟩⟩
  ·rw [if_f hb7] at h
   refine SemY.skip ?_
   refine SemY.seq ?_
   refine SemY.regionL ?_
   refine RunL.sg he 1 ?_
   obtain ⟨v12, hv12, h⟩ := Option.bind_eq_some_iff.1 h
   refine RunL.inlT (E := e_evening_Polish) (e := e_evening_clone_d) rfl rfl e_evening_clone_d_ok rfl rfl (fid := 79) (caps := []) (xs := [.sl 1 (x1.map (cdL 1 (cdL 1 cdI)).enc)]) (fn := Tryd.f79) (c := cb_evening_clone_d) (Out := fun v h' => ∃ (z0 : AV), v = z0 ∧ T h' ((own_ (ocL 1 50 (ocL 1 31 (ocL 1 3 (ocV cdI)))) z0 v12) :: L)) rfl (wantedA_none rfl) kr kr kr kr (by show 1 ≤ 33; decide) (evening_clone_d_sem x1 _ hv12 hT) ?_
   rintro xx hp14 ⟨e13, hqhp14, hT15⟩; subst xx
   refine RunL.fin he [p3, p2, p1, (11, e13)] ?_
   refine SemY.seq ?_
   refine SemY.regionL ?_
   refine RunL.sg he 2 ?_
   obtain ⟨v19, hv19, h⟩ := Option.bind_eq_some_iff.1 h
   refine RunL.callS rfl rfl (s_evening_meetings x0 x1 _ hv19) rfl (wantedA_none rfl) kr (xs := [.v (.int .i64 x0), .sl 1 (x1.map (cdL 1 (cdL 1 cdI)).enc)]) kr (Sees.cons (SeeV.enc (c := cdI)) (Sees.cons (SeeV.enc (c := (cdL 1 (cdL 1 (cdL 1 cdI))))) Sees.nil)) sq_flat ?_
   intro x h' hO; obtain ⟨e16, hp17, e16q, hp17q, hT18⟩ := sq_own hT15 hO; rw [← e16q, ← hp17q]
   obtain ⟨e20, hp21, hb22, hT23⟩ := box_cel (t := 94) (a := .ag [.v (.int .i64 0), .e0]) hT18 kr
   refine RunL.one he 0 rfl (op_n (wantedA_none rfl) rfl kr (n_alloc (z := .ag [.v (.int .i64 0), .e0]) kr hb22)) ?_
   obtain ⟨hp24, hs25, hT26⟩ := st_cel0 (P := Tryd.prog) (ty := 94) (y := .ag [.v (.int .i64 v19.1), e16]) (a' := .ag [.v (.int .i64 v19.1), e16]) hT23 (by have hq := shape_own (hT23.front 1 rfl); revert hq; generalize e16 = zz; intro hq; cases zz <;> first | (exact (Bool.false_ne_true hq.1).elim) | (exact (Bool.false_ne_true hq.2).elim) | skip; all_goals (first | rfl | kernel_rfl | exact rfl)) (by have hq := shape_own (hT23.front 1 rfl); revert hq; generalize e16 = zz; intro hq; cases zz <;> first | (exact (Bool.false_ne_true hq.1).elim) | (exact (Bool.false_ne_true hq.2).elim) | skip; all_goals (first | rfl | kernel_rfl | exact rfl)) (by have hq := shape_own (hT23.front 1 rfl); revert hq; generalize e16 = zz; intro hq; cases zz <;> first | (exact (Bool.false_ne_true hq.1).elim) | (exact (Bool.false_ne_true hq.2).elim) | skip; all_goals (first | rfl | kernel_rfl | exact rfl))
   refine RunL.store he (y := e20) (z := .ag [.v (.int .i64 v19.1), e16]) rfl (wantedA_none rfl) kr kr hs25 ?_
   refine RunL.done rfl (SemY.fr (l' := [p3, p1, (11, e13), (12, e20)]) kr ?_)
   refine SemY.sq he [p3, p1, (11, e13), (12, e20), (13, .v (.int .i64 0))] ?_
   refine SemY.seq ?_
   refine SemY.block ?_
   have hT55 := (((hT26.front 1 rfl).front 1 rfl).front 2 rfl)
   refine SemY.loop (n := 100000) ?_
   obtain ⟨r56, hr56, h⟩ := Option.bind_eq_some_iff.1 h
   refine SemYN.cutT (SemYN.wk (WkY.fr kr) (evening_Polish_1_ok x0 x2 v19 e13 e16 e20 _ 0 v12 v19.2 _ hr56  hp24 hT55)) ?_
   rintro _ ⟨hp57, hT58, rfl⟩
   let p10 : Nat × AV := (8, .v (.int .i64 0))
   let p11 : Nat × AV := (7, .v (.int .i64 r56.1))
   refine SemY.sq he [(6, e13), p11, p10] ?_
   refine SemY.ret ?_
   have hq := Option.some.inj h; subst hq
   let p12 : Nat × AV := (6, .sl 1 (r56.2.map (cdL 1 (cdL 1 cdI)).enc))
   obtain ⟨hp59, hw60, hT61⟩ := WkY.frzT (E := e_evening_Polish) (n := 43) (l := [(6, e13), p11, p10]) (l' := [p12, p11, p10]) hT58 (LkT.at_ ⟨.inr ⟨kr, rfl⟩, .inl kr, .inl kr, trivial⟩)
   exact ⟨⟨Fr 43 [p12, p11, p10], hp59⟩, (WkY.trans (WkY.trans (WkY.fr kr) hw60) (WkY.fr kr)), .inr rfl, [.sl 1 (r56.2.map (cdL 1 (cdL 1 cdI)).enc), .v (.int .i64 r56.1), .v (.int .i64 0)], kr, ⟨rfl, hT61⟩⟩
def cs_evening_Polish : Cs (Int × (List (List (List Int))) × Int × Unit) := (csC cdI (csC (cdL 1 (cdL 1 (cdL 1 cdI))) (csC cdI csN)))
def er_evening_Polish (r : (List (List (List Int))) × Int × Int) : AV := .tp [(cdL 1 (cdL 1 (cdL 1 cdI))).enc r.1, cdI.enc r.2.1, cdI.enc r.2.2]
def t_evening_Polish : List AV → Option AV := told cs_evening_Polish (fun a => evening_Polish a.1 a.2.1 a.2.2.1) er_evening_Polish
theorem x_evening_Polish : XOk 26 t_evening_Polish := by
 refine EnvOk.x (E := e_evening_Polish) (contract_ok e_evening_Polish_ok (fn := Tryd.f26) (c := cb_evening_Polish) ?h1 ?h2 ⟨Tryd.call26⟩ cs_evening_Polish (fun a => evening_Polish a.1 a.2.1 a.2.2.1) er_evening_Polish (fun a => (by show 3 ≤ 43; decide)) ?h3 ?h4) rfl rfl
 case h1 => kernel_rfl
 case h2 => kernel_rfl
 case h3 => intro b; kernel_rfl
 case h4 =>
  intro a b h
  refine Sem.mono (Sem.ofY (evening_Polish_sem (L := []) (hp := []) a.1 a.2.1 a.2.2.1 b h T.nil)) fun e s' hs => ?_
  obtain ⟨h1, ys, h2, h3, -⟩ := hs
  exact ⟨h1, ys, h2, h3⟩
/- trestle/evening.valid -/
noncomputable def e_evening_valid : Env := (E0.withX 27 t_evening_Check)
theorem e_evening_valid_ok : EnvOk e_evening_valid := (EnvOk.withX E0_ok x_evening_Check.1 x_evening_Check.2)
noncomputable def cb_evening_valid : Code := codeOf Tryd.f50
def evening_valid (x0 : Int) (x1 : (List (List (List Int)))) : Option (Bool) :=
 (evening_Check x0 [] x1).bind fun v1 =>
 some (v1.2 == 0)
def cs_evening_valid : Cs (Int × (List (List (List Int))) × Unit) := (csC cdI (csC (cdL 1 (cdL 1 (cdL 1 cdI))) csN))
def er_evening_valid (r : Bool) : AV := cdB.enc r
set_option maxHeartbeats 4000000 in
set_option maxRecDepth 100000 in
theorem evening_valid_sem (x0 : Int) (x1 : (List (List (List Int)))) (r : Bool) (h : evening_valid x0 x1 = some r) : Sem e_evening_valid ⟨none, false⟩ cb_evening_valid ⟨Fr 15 (pairs0 0 (cs_evening_valid.enc (x0, x1, ()))), []⟩ fun e s' => (e = .normal ∨ e = .ret) ∧ ∃ xs, resA e_evening_valid.P s'.fr s'.hp Tryd.f50.results.toList = some xs ∧ retA xs = er_evening_valid r := by
 have he := e_evening_valid_ok
 unfold evening_valid at h
 let p1 : Nat × AV := (1, .sl 1 (x1.map (cdL 1 (cdL 1 cdI)).enc))
 refine Sem.wkQ (Sem.wk (s1 := ⟨Fr 15 [(0, .v (.int .i64 x0)), p1], []⟩) (Wk.fr kr) ?_)
 refine Sem.sq he [(0, .v (.int .i64 x0)), p1] [] ?_
 refine Sem.seq ?_
 obtain ⟨v1, hv1, h⟩ := Option.bind_eq_some_iff.1 h
 refine Sem.runS (s1 := ⟨Fr 15 [(6, .v (.int .i64 v1.2))], []⟩) ?_ ?_
 ·refine RunS.segF (n := 15) he 2 [(8, .v (.int .i64 x0)), (9, .sl 1 (x1.map (cdL 1 (cdL 1 cdI)).enc))] [] kr ?_
  refine RunS.call he (fid := 27) (s := cs_evening_Check) (F := fun a => evening_Check a.1 a.2.1 a.2.2.1) (er := er_evening_Check) (xs := [.v (.int .i64 x0), .e0, .sl 1 (x1.map (cdL 1 (cdL 1 cdI)).enc)]) (a := (x0, [], x1, ())) rfl (wantedA_none rfl) kr kr kr kr (Sns.cons (Sn.enc (c := cdI) (v := x0)) (Sns.cons Sn.e0 (Sns.cons (Sn.enc (c := (cdL 1 (cdL 1 (cdL 1 cdI)))) (v := x1)) Sns.nil))) (.inl kr) hv1 ?_
  exact RunS.last he
 refine Sem.sq he [(4, .v (.bool (v1.2 == 0)))] [] ?_
 refine Sem.ret ?_
 have hq := Option.some.inj h; subst hq
 exact ⟨⟨Fr 15 [(4, .v (.bool (v1.2 == 0)))], []⟩, (Wk.fr kr), .inr rfl, [.v (.bool (v1.2 == 0))], kr, kr⟩
def t_evening_valid : List AV → Option AV := told cs_evening_valid (fun a => evening_valid a.1 a.2.1) er_evening_valid
theorem x_evening_valid : XOk 50 t_evening_valid := by
 refine EnvOk.x (E := e_evening_valid) (contract_ok e_evening_valid_ok (fn := Tryd.f50) (c := cb_evening_valid) ?h1 ?h2 ⟨Tryd.call50⟩ cs_evening_valid (fun a => evening_valid a.1 a.2.1) er_evening_valid (fun a => (by show 2 ≤ 15; decide)) ?h3 ?h4) rfl rfl
 case h1 => kernel_rfl
 case h2 => kernel_rfl
 case h3 => intro b; kernel_rfl
 case h4 => exact fun a b h => evening_valid_sem a.1 a.2.1 b h
/- trestle/evening.Strain -/
noncomputable def e_evening_Strain : Env := ((E0.withX 50 t_evening_valid).withX 80 t_evening_meetings)
theorem e_evening_Strain_ok : EnvOk e_evening_Strain := (EnvOk.withX (EnvOk.withX E0_ok x_evening_valid.1 x_evening_valid.2) x_evening_meetings.1 x_evening_meetings.2)
noncomputable def cb_evening_Strain : Code := codeOf Tryd.f28
def evening_Strain_1 (v3 : (Int × (List Int))) : Nat → Int → Int → Option ((Int))
 | 0, _, _ => none
 | f + 1, c4, c5 =>
  if (decide (c5 < (v3.2.length : Int))) = true then
  (idx v3.2 c5).bind fun v7 =>
  evening_Strain_1 v3 f (wr .i64 (c4 + (wr .i64 (v7 * v7)))) (wr .i64 (c5 + 1))
  else
  some c4
def evening_Strain (x0 : Int) (x1 : (List (List (List Int)))) : Option (Int) :=
 (evening_valid x0 x1).bind fun v1 =>
 if (!v1) = true then
 some 0
 else
 (evening_meetings x0 x1).bind fun v3 =>
 (evening_Strain_1 v3 100000 0 0).bind fun r9 =>
 some (wr .i64 (r9.tdiv 2))
def cs_evening_Strain : Cs (Int × (List (List (List Int))) × Unit) := (csC cdI (csC (cdL 1 (cdL 1 (cdL 1 cdI))) csN))
def er_evening_Strain (r : Int) : AV := cdI.enc r
set_option maxHeartbeats 4000000 in
set_option maxRecDepth 100000 in
theorem evening_Strain_1_ok (v3 : (Int × (List Int))) : ∀ (f : Nat) (c4 : Int) (c5 : Int) (r : (Int)), evening_Strain_1 v3 f c4 c5 = some r → SemN e_evening_Strain ⟨none, false⟩ (pc cb_evening_Strain [1, 1, 1, 0, 1, 0, 0]) f ⟨Fr 29 [(5, .v (.int .i64 c4)), (15, .sl 1 (v3.2.map cdI.enc)), (16, .v (.int .i64 (v3.2.length : Int))), (17, .v (.int .i64 c5))], []⟩ (fun e s => e = (.exit 0) ∧ Wk e_evening_Strain s ⟨Fr 29 [(5, .v (.int .i64 r))], []⟩) := by
 have he := e_evening_Strain_ok
 intro f
 induction f with
 | zero => intro c4 c5 r h; cases h
 | succ f ih0 =>
  intro c4 c5 r h
  have ih := fun (c4 : Int) (c5 : Int) => ih0 c4 c5 r
  unfold evening_Strain_1 at h
  refine SemN.succ ?_
  let p1 : Nat × AV := (17, .v (.int .i64 c5))
  let p2 : Nat × AV := (16, .v (.int .i64 (v3.2.length : Int)))
  let p3 : Nat × AV := (15, .sl 1 (v3.2.map cdI.enc))
  refine Sem.sq he [(5, .v (.int .i64 c4)), p3, p2, p1, (18, .v (.bool (decide (c5 < (v3.2.length : Int)))))] [] ?_
  refine Sem.seq ?_
  refine Sem.cond (b := (decide (c5 < (v3.2.length : Int)))) kr (fun hb6 => ?_) (fun hb6 => ?_)
  ·rw [if_pos hb6] at h
   refine Sem.skip ?_
   refine Sem.seq ?_
   refine Sem.block ?_
   refine Sem.seq ?_
   obtain ⟨v7, hv7, h⟩ := Option.bind_eq_some_iff.1 h
   refine Sem.runS (s1 := ⟨Fr 29 [(5, .v (.int .i64 c4)), (7, .v (.int .i64 v7)), p3, p2, p1], []⟩) ?_ ?_
   ·refine RunS.one he 0 rfl (op_q (wantedA_none rfl) rfl (q_indexAddr (a := .sl 1 (v3.2.map cdI.enc)) (b := .v (.int .i64 c5)) kr kr (ix_sl (e := cdI.enc) (el := 3) (k := 1) (ki := .i64) kr kr hv7))) ?_
    exact RunS.last he
   let p4 : Nat × AV := (5, .v (.int .i64 (wr .i64 (c4 + (wr .i64 (v7 * v7))))))
   refine Sem.rg he [p4, p3, p2, p1] [] ?_
   let p5 : Nat × AV := (17, .v (.int .i64 (wr .i64 (c5 + 1))))
   refine Sem.rg he [p4, p3, p2, p5] [] ?_
   exact SemN.wk (s1 := ⟨Fr 29 [p4, p3, p2, p5], []⟩) (Wk.fr kr) (ih (wr .i64 (c4 + (wr .i64 (v7 * v7)))) (wr .i64 (c5 + 1)) h)
  ·rw [if_f hb6] at h
   refine Sem.exit ?_
   have hq := Option.some.inj h; subst hq
   exact ⟨rfl, (Wk.fr kr)⟩
set_option maxHeartbeats 4000000 in
set_option maxRecDepth 100000 in
theorem evening_Strain_sem (x0 : Int) (x1 : (List (List (List Int)))) (r : Int) (h : evening_Strain x0 x1 = some r) : Sem e_evening_Strain ⟨none, false⟩ cb_evening_Strain ⟨Fr 29 (pairs0 0 (cs_evening_Strain.enc (x0, x1, ()))), []⟩ fun e s' => (e = .normal ∨ e = .ret) ∧ ∃ xs, resA e_evening_Strain.P s'.fr s'.hp Tryd.f28.results.toList = some xs ∧ retA xs = er_evening_Strain r := by
 have he := e_evening_Strain_ok
 unfold evening_Strain at h
 let p1 : Nat × AV := (1, .sl 1 (x1.map (cdL 1 (cdL 1 cdI)).enc))
 let p2 : Nat × AV := (0, .v (.int .i64 x0))
 refine Sem.wkQ (Sem.wk (s1 := ⟨Fr 29 [p2, p1], []⟩) (Wk.fr kr) ?_)
 refine Sem.sq he [p2, p1] [] ?_
 refine Sem.seq ?_
 refine Sem.seq ?_
 obtain ⟨v1, hv1, h⟩ := Option.bind_eq_some_iff.1 h
 refine Sem.runS (s1 := ⟨Fr 29 [p2, p1, (11, .v (.bool (!v1)))], []⟩) ?_ ?_
 ·refine RunS.segF (n := 29) he 2 [p2, p1, (8, .v (.int .i64 x0)), (9, .sl 1 (x1.map (cdL 1 (cdL 1 cdI)).enc))] [] kr ?_
  refine RunS.call he (fid := 50) (s := cs_evening_valid) (F := fun a => evening_valid a.1 a.2.1) (er := er_evening_valid) (xs := [.v (.int .i64 x0), .sl 1 (x1.map (cdL 1 (cdL 1 cdI)).enc)]) (a := (x0, x1, ())) rfl (wantedA_none rfl) kr kr kr kr (Sns.cons (Sn.enc (c := cdI) (v := x0)) (Sns.cons (Sn.enc (c := (cdL 1 (cdL 1 (cdL 1 cdI)))) (v := x1)) Sns.nil)) (.inl kr) hv1 ?_
  exact RunS.last he
 refine Sem.cond (b := (!v1)) kr (fun hb2 => ?_) (fun hb2 => ?_)
 ·rw [if_pos hb2] at h
  refine Sem.sq he [(4, .v (.int .i64 0))] [] ?_
  refine Sem.ret ?_
  have hq := Option.some.inj h; subst hq
  exact ⟨⟨Fr 29 [(4, .v (.int .i64 0))], []⟩, (Wk.fr kr), .inr rfl, [.v (.int .i64 0)], kr, kr⟩
 ·rw [if_f hb2] at h
  refine Sem.skip ?_
  let p3 : Nat × AV := (5, .v (.int .i64 0))
  refine Sem.sq he [p2, p1, p3] [] ?_
  refine Sem.seq ?_
  refine Sem.seq ?_
  obtain ⟨v3, hv3, h⟩ := Option.bind_eq_some_iff.1 h
  let p4 : Nat × AV := (16, .v (.int .i64 (v3.2.length : Int)))
  let p5 : Nat × AV := (15, .sl 1 (v3.2.map cdI.enc))
  refine Sem.runS (s1 := ⟨Fr 29 [p3, p5, p4, (17, .v (.int .i64 0))], []⟩) ?_ ?_
  ·refine RunS.segF (n := 29) he 2 [p3, (12, .v (.int .i64 x0)), (13, .sl 1 (x1.map (cdL 1 (cdL 1 cdI)).enc))] [] kr ?_
   refine RunS.call he (fid := 80) (s := cs_evening_meetings) (F := fun a => evening_meetings a.1 a.2.1) (er := er_evening_meetings) (xs := [.v (.int .i64 x0), .sl 1 (x1.map (cdL 1 (cdL 1 cdI)).enc)]) (a := (x0, x1, ())) rfl (wantedA_none rfl) kr kr kr kr (Sns.cons (Sn.enc (c := cdI) (v := x0)) (Sns.cons (Sn.enc (c := (cdL 1 (cdL 1 (cdL 1 cdI)))) (v := x1)) Sns.nil)) (.inl kr) hv3 ?_
   refine RunS.segF (n := 29) he 1 [p3, p5] [] kr ?_
   refine RunS.one he 0 rfl (op_q (wantedA_none rfl) rfl (q_len (a := .sl 1 (v3.2.map cdI.enc)) kr (len_sl (el := 3) kr))) ?_
   exact RunS.last he
  refine Sem.block ?_
  obtain ⟨r9, hr9, h⟩ := Option.bind_eq_some_iff.1 h
  refine Sem.loop (n := 100000) ?_
  refine Sem.cutN (SemN.wk (s1 := ⟨Fr 29 [p3, p5, p4, (17, .v (.int .i64 0))], []⟩) (Wk.fr kr) (evening_Strain_1_ok v3 _ 0 0 _ hr9)) ?_
  let p6 : Nat × AV := (4, .v (.int .i64 (wr .i64 (r9.tdiv 2))))
  refine Sem.sq he [p6] [] ?_
  refine Sem.ret ?_
  have hq := Option.some.inj h; subst hq
  exact ⟨⟨Fr 29 [p6], []⟩, (Wk.fr kr), .inr rfl, [.v (.int .i64 (wr .i64 (r9.tdiv 2)))], kr, kr⟩
def t_evening_Strain : List AV → Option AV := told cs_evening_Strain (fun a => evening_Strain a.1 a.2.1) er_evening_Strain
theorem x_evening_Strain : XOk 28 t_evening_Strain := by
 refine EnvOk.x (E := e_evening_Strain) (contract_ok e_evening_Strain_ok (fn := Tryd.f28) (c := cb_evening_Strain) ?h1 ?h2 ⟨Tryd.call28⟩ cs_evening_Strain (fun a => evening_Strain a.1 a.2.1) er_evening_Strain (fun a => (by show 2 ≤ 29; decide)) ?h3 ?h4) rfl rfl
 case h1 => kernel_rfl
 case h2 => kernel_rfl
 case h3 => intro b; kernel_rfl
 case h4 => exact fun a b h => evening_Strain_sem a.1 a.2.1 b h
/- trestle/trestlekit.SameInts -/
noncomputable def e_kit_SameInts : Env := E0
theorem e_kit_SameInts_ok : EnvOk e_kit_SameInts := E0_ok
noncomputable def cb_kit_SameInts : Code := codeOf Tryd.f43
def kit_SameInts_1 (x0 : (List Int)) (x1 : (List Int)) : Nat → Int → Option ((Unit) ⊕ (Bool))
 | 0, _ => none
 | f + 1, c2 =>
  if (decide (c2 < (x0.length : Int))) = true then
  (idx x0 c2).bind fun v4 =>
  (idx x1 c2).bind fun v5 =>
  if (v4 != v5) = true then
  some (.inr false)
  else
  kit_SameInts_1 x0 x1 f (wr .i64 (c2 + 1))
  else
  some (.inl ())
def kit_SameInts (x0 : (List Int)) (x1 : (List Int)) : Option (Bool) :=
 if ((x0.length : Int) != (x1.length : Int)) = true then
 some false
 else
 (kit_SameInts_1 x0 x1 100000 0).bind fun r8 =>
 match r8 with
 | (.inl w9) =>
  some true
 | (.inr w10) =>
  some w10
def cs_kit_SameInts : Cs ((List Int) × (List Int) × Unit) := (csC (cdL 1 cdI) (csC (cdL 1 cdI) csN))
def er_kit_SameInts (r : Bool) : AV := cdB.enc r
set_option maxHeartbeats 4000000 in
set_option maxRecDepth 100000 in
theorem kit_SameInts_1_ok (x0 : (List Int)) (x1 : (List Int)) : ∀ (f : Nat) (c2 : Int) (r : (Unit) ⊕ (Bool)), kit_SameInts_1 x0 x1 f c2 = some r → SemN e_kit_SameInts ⟨none, false⟩ (pc cb_kit_SameInts [1, 1, 0, 1, 0, 0]) f ⟨Fr 26 [(0, .sl 1 (x0.map cdI.enc)), (1, .sl 1 (x1.map cdI.enc)), (5, .v (.int .i64 c2))], []⟩ (fun e s => match r with
 | (.inl w) => e = (.exit 0) ∧ Wk e_kit_SameInts s ⟨Fr 26 [], []⟩
 | (.inr w) => e = .ret ∧ Wk e_kit_SameInts s ⟨Fr 26 [(4, .v (.bool w))], []⟩) := by
 have he := e_kit_SameInts_ok
 intro f
 induction f with
 | zero => intro c2 r h; cases h
 | succ f ih0 =>
  intro c2 r h
  have ih := fun (c2 : Int) => ih0 c2 r
  unfold kit_SameInts_1 at h
  refine SemN.succ ?_
  refine Sem.seq ?_
  refine Sem.seq ?_
  let p1 : Nat × AV := (5, .v (.int .i64 c2))
  let p2 : Nat × AV := (1, .sl 1 (x1.map cdI.enc))
  let p3 : Nat × AV := (0, .sl 1 (x0.map cdI.enc))
  refine Sem.runS (s1 := ⟨Fr 26 [p3, p2, p1, (14, .v (.bool (decide (c2 < (x0.length : Int)))))], []⟩) ?_ ?_
  ·refine RunS.segF (n := 26) he 2 [p3, p2, p1, (11, .v (.int .i64 c2)), (12, .sl 1 (x0.map cdI.enc))] [] kr ?_
   refine RunS.one he 0 rfl (op_q (wantedA_none rfl) rfl (q_len (a := .sl 1 (x0.map cdI.enc)) kr (len_sl (el := 3) kr))) ?_
   exact RunS.last he
  refine Sem.cond (b := (decide (c2 < (x0.length : Int)))) kr (fun hb3 => ?_) (fun hb3 => ?_)
  ·rw [if_pos hb3] at h
   refine Sem.skip ?_
   refine Sem.seq ?_
   refine Sem.block ?_
   refine Sem.seq ?_
   obtain ⟨v4, hv4, h⟩ := Option.bind_eq_some_iff.1 h
   obtain ⟨v5, hv5, h⟩ := Option.bind_eq_some_iff.1 h
   refine Sem.runDS he (s1 := ⟨Fr 26 [p3, p2, p1, (25, .v (.bool (v4 != v5)))], []⟩) kr ?_ ?_
   ·refine RunDS.segF (n := 26) he 2 [p3, p2, p1, (17, .sl 1 (x0.map cdI.enc)), (18, .v (.int .i64 c2))] [] kr kr ?_
    refine RunDS.one he rfl kr (opd_q kr (wantedA_none rfl) rfl (q_indexAddr (a := .sl 1 (x0.map cdI.enc)) (b := .v (.int .i64 c2)) kr kr (ix_sl (e := cdI.enc) (el := 3) (k := 1) (ki := .i64) kr kr hv4)) kr) ?_
    refine RunDS.segF (n := 26) he 3 [p3, p2, p1, (20, .v (.int .i64 v4)), (21, .sl 1 (x1.map cdI.enc)), (22, .v (.int .i64 c2))] [] kr kr ?_
    refine RunDS.one he rfl kr (opd_q kr (wantedA_none rfl) rfl (q_indexAddr (a := .sl 1 (x1.map cdI.enc)) (b := .v (.int .i64 c2)) kr kr (ix_sl (e := cdI.enc) (el := 3) (k := 1) (ki := .i64) kr kr hv5)) kr) ?_
    refine RunDS.segF (n := 26) he 2 [p3, p2, p1, (25, .v (.bool (v4 != v5)))] [] kr kr ?_
    exact RunDS.done rfl (Wk.fr kr)
   refine Sem.cond (b := (v4 != v5)) kr (fun hb6 => ?_) (fun hb6 => ?_)
   ·rw [if_pos hb6] at h
    refine Sem.sq he [(4, .v (.bool false))] [] ?_
    refine Sem.ret ?_
    have hq := Option.some.inj h; subst hq
    exact ⟨rfl, (Wk.fr kr)⟩
   ·rw [if_f hb6] at h
    refine Sem.skip ?_
    let p4 : Nat × AV := (5, .v (.int .i64 (wr .i64 (c2 + 1))))
    refine Sem.rg he [p3, p2, p4] [] ?_
    exact SemN.wk (s1 := ⟨Fr 26 [p3, p2, p4], []⟩) (Wk.fr kr) (ih (wr .i64 (c2 + 1)) h)
  ·rw [if_f hb3] at h
   refine Sem.exit ?_
   have hq := Option.some.inj h; subst hq
   exact ⟨rfl, (Wk.fr kr)⟩
set_option maxHeartbeats 4000000 in
set_option maxRecDepth 100000 in
theorem kit_SameInts_sem (x0 : (List Int)) (x1 : (List Int)) (r : Bool) (h : kit_SameInts x0 x1 = some r) : Sem e_kit_SameInts ⟨none, false⟩ cb_kit_SameInts ⟨Fr 26 (pairs0 0 (cs_kit_SameInts.enc (x0, x1, ()))), []⟩ fun e s' => (e = .normal ∨ e = .ret) ∧ ∃ xs, resA e_kit_SameInts.P s'.fr s'.hp Tryd.f43.results.toList = some xs ∧ retA xs = er_kit_SameInts r := by
 have he := e_kit_SameInts_ok
 unfold kit_SameInts at h
 let p1 : Nat × AV := (1, .sl 1 (x1.map cdI.enc))
 let p2 : Nat × AV := (0, .sl 1 (x0.map cdI.enc))
 refine Sem.wkQ (Sem.wk (s1 := ⟨Fr 26 [p2, p1], []⟩) (Wk.fr kr) ?_)
 refine Sem.sq he [p2, p1] [] ?_
 refine Sem.seq ?_
 refine Sem.seq ?_
 refine Sem.runS (s1 := ⟨Fr 26 [p2, p1, (10, .v (.bool ((x0.length : Int) != (x1.length : Int))))], []⟩) ?_ ?_
 ·refine RunS.segF (n := 26) he 1 [p2, p1, (6, .sl 1 (x0.map cdI.enc))] [] kr ?_
  refine RunS.one he 0 rfl (op_q (wantedA_none rfl) rfl (q_len (a := .sl 1 (x0.map cdI.enc)) kr (len_sl (el := 3) kr))) ?_
  refine RunS.segF (n := 26) he 1 [p2, p1, (7, .v (.int .i64 (x0.length : Int))), (8, .sl 1 (x1.map cdI.enc))] [] kr ?_
  refine RunS.one he 0 rfl (op_q (wantedA_none rfl) rfl (q_len (a := .sl 1 (x1.map cdI.enc)) kr (len_sl (el := 3) kr))) ?_
  exact RunS.last he
 refine Sem.cond (b := ((x0.length : Int) != (x1.length : Int))) kr (fun hb1 => ?_) (fun hb1 => ?_)
 ·rw [if_pos hb1] at h
  refine Sem.sq he [(4, .v (.bool false))] [] ?_
  refine Sem.ret ?_
  have hq := Option.some.inj h; subst hq
  exact ⟨⟨Fr 26 [(4, .v (.bool false))], []⟩, (Wk.fr kr), .inr rfl, [.v (.bool false)], kr, kr⟩
 ·rw [if_f hb1] at h
  refine Sem.skip ?_
  refine Sem.seq ?_
  let p3 : Nat × AV := (5, .v (.int .i64 0))
  refine Sem.sq he [p2, p1, p3] [] ?_
  refine Sem.block ?_
  obtain ⟨r8, hr8, h⟩ := Option.bind_eq_some_iff.1 h
  refine Sem.loop (n := 100000) ?_
  rcases r8 with w9 | w10
  ·try dsimp only at h
   refine Sem.cutN (SemN.wk (s1 := ⟨Fr 26 [p2, p1, p3], []⟩) (Wk.fr kr) (kit_SameInts_1_ok x0 x1 _ 0 _ hr8)) ?_
   refine Sem.sq he [(4, .v (.bool true))] [] ?_
   refine Sem.ret ?_
   have hq := Option.some.inj h; subst hq
   exact ⟨⟨Fr 26 [(4, .v (.bool true))], []⟩, (Wk.fr kr), .inr rfl, [.v (.bool true)], kr, kr⟩
  ·try dsimp only at h
   refine Sem.cutN (SemN.wk (s1 := ⟨Fr 26 [p2, p1, p3], []⟩) (Wk.fr kr) (kit_SameInts_1_ok x0 x1 _ 0 _ hr8)) ?_
   have hq := Option.some.inj h; subst hq
   exact ⟨⟨Fr 26 [(4, .v (.bool w10))], []⟩, (Wk.fr kr), .inr rfl, [.v (.bool w10)], kr, kr⟩
def t_kit_SameInts : List AV → Option AV := told cs_kit_SameInts (fun a => kit_SameInts a.1 a.2.1) er_kit_SameInts
theorem x_kit_SameInts : XOk 43 t_kit_SameInts := by
 refine EnvOk.x (E := e_kit_SameInts) (contract_ok e_kit_SameInts_ok (fn := Tryd.f43) (c := cb_kit_SameInts) ?h1 ?h2 ⟨Tryd.call43⟩ cs_kit_SameInts (fun a => kit_SameInts a.1 a.2.1) er_kit_SameInts (fun a => (by show 2 ≤ 26; decide)) ?h3 ?h4) rfl rfl
 case h1 => kernel_rfl
 case h2 => kernel_rfl
 case h3 => intro b; kernel_rfl
 case h4 => exact fun a b h => kit_SameInts_sem a.1 a.2.1 b h
/- trestle/trestlekit.SameLists -/
noncomputable def e_kit_SameLists : Env := (E0.withX 43 t_kit_SameInts)
theorem e_kit_SameLists_ok : EnvOk e_kit_SameLists := (EnvOk.withX E0_ok x_kit_SameInts.1 x_kit_SameInts.2)
noncomputable def cb_kit_SameLists : Code := codeOf Tryd.f56
def kit_SameLists_1 (x0 : (List (List Int))) (x1 : (List (List Int))) : Nat → Int → Option ((Unit) ⊕ (Bool))
 | 0, _ => none
 | f + 1, c2 =>
  if (decide (c2 < (x0.length : Int))) = true then
  (idx x0 c2).bind fun v4 =>
  (idx x1 c2).bind fun v5 =>
  (kit_SameInts v4 v5).bind fun v6 =>
  if (!v6) = true then
  some (.inr false)
  else
  kit_SameLists_1 x0 x1 f (wr .i64 (c2 + 1))
  else
  some (.inl ())
def kit_SameLists (x0 : (List (List Int))) (x1 : (List (List Int))) : Option (Bool) :=
 if ((x0.length : Int) != (x1.length : Int)) = true then
 some false
 else
 (kit_SameLists_1 x0 x1 100000 0).bind fun r9 =>
 match r9 with
 | (.inl w10) =>
  some true
 | (.inr w11) =>
  some w11
def cs_kit_SameLists : Cs ((List (List Int)) × (List (List Int)) × Unit) := (csC (cdL 1 (cdL 1 cdI)) (csC (cdL 1 (cdL 1 cdI)) csN))
def er_kit_SameLists (r : Bool) : AV := cdB.enc r
set_option maxHeartbeats 4000000 in
set_option maxRecDepth 100000 in
theorem kit_SameLists_1_ok (x0 : (List (List Int))) (x1 : (List (List Int))) : ∀ (f : Nat) (c2 : Int) (r : (Unit) ⊕ (Bool)), kit_SameLists_1 x0 x1 f c2 = some r → SemN e_kit_SameLists ⟨none, false⟩ (pc cb_kit_SameLists [1, 1, 0, 1, 0, 0]) f ⟨Fr 27 [(0, .sl 1 (x0.map (cdL 1 cdI).enc)), (1, .sl 1 (x1.map (cdL 1 cdI).enc)), (5, .v (.int .i64 c2))], []⟩ (fun e s => match r with
 | (.inl w) => e = (.exit 0) ∧ Wk e_kit_SameLists s ⟨Fr 27 [], []⟩
 | (.inr w) => e = .ret ∧ Wk e_kit_SameLists s ⟨Fr 27 [(4, .v (.bool w))], []⟩) := by
 have he := e_kit_SameLists_ok
 intro f
 induction f with
 | zero => intro c2 r h; cases h
 | succ f ih0 =>
  intro c2 r h
  have ih := fun (c2 : Int) => ih0 c2 r
  unfold kit_SameLists_1 at h
  refine SemN.succ ?_
  refine Sem.seq ?_
  refine Sem.seq ?_
  let p1 : Nat × AV := (5, .v (.int .i64 c2))
  let p2 : Nat × AV := (1, .sl 1 (x1.map (cdL 1 cdI).enc))
  let p3 : Nat × AV := (0, .sl 1 (x0.map (cdL 1 cdI).enc))
  refine Sem.runS (s1 := ⟨Fr 27 [p3, p2, p1, (14, .v (.bool (decide (c2 < (x0.length : Int)))))], []⟩) ?_ ?_
  ·refine RunS.segF (n := 27) he 2 [p3, p2, p1, (11, .v (.int .i64 c2)), (12, .sl 1 (x0.map (cdL 1 cdI).enc))] [] kr ?_
   refine RunS.one he 0 rfl (op_q (wantedA_none rfl) rfl (q_len (a := .sl 1 (x0.map (cdL 1 cdI).enc)) kr (len_sl (el := 31) kr))) ?_
   exact RunS.last he
  refine Sem.cond (b := (decide (c2 < (x0.length : Int)))) kr (fun hb3 => ?_) (fun hb3 => ?_)
  ·rw [if_pos hb3] at h
   refine Sem.skip ?_
   refine Sem.seq ?_
   refine Sem.block ?_
   refine Sem.seq ?_
   obtain ⟨v4, hv4, h⟩ := Option.bind_eq_some_iff.1 h
   obtain ⟨v5, hv5, h⟩ := Option.bind_eq_some_iff.1 h
   obtain ⟨v6, hv6, h⟩ := Option.bind_eq_some_iff.1 h
   refine Sem.runDS he (s1 := ⟨Fr 27 [p3, p2, p1, (26, .v (.bool (!v6)))], []⟩) kr ?_ ?_
   ·refine RunDS.segF (n := 27) he 2 [p3, p2, p1, (17, .sl 1 (x0.map (cdL 1 cdI).enc)), (18, .v (.int .i64 c2))] [] kr kr ?_
    refine RunDS.one he rfl kr (opd_q kr (wantedA_none rfl) rfl (q_indexAddr (a := .sl 1 (x0.map (cdL 1 cdI).enc)) (b := .v (.int .i64 c2)) kr kr (ix_sl (e := (cdL 1 cdI).enc) (el := 31) (k := 1) (ki := .i64) kr kr hv4)) kr) ?_
    refine RunDS.segF (n := 27) he 3 [p3, p2, p1, (20, .sl 1 (v4.map cdI.enc)), (21, .sl 1 (x1.map (cdL 1 cdI).enc)), (22, .v (.int .i64 c2))] [] kr kr ?_
    refine RunDS.one he rfl kr (opd_q kr (wantedA_none rfl) rfl (q_indexAddr (a := .sl 1 (x1.map (cdL 1 cdI).enc)) (b := .v (.int .i64 c2)) kr kr (ix_sl (e := (cdL 1 cdI).enc) (el := 31) (k := 1) (ki := .i64) kr kr hv5)) kr) ?_
    refine RunDS.segF (n := 27) he 1 [p3, p2, p1, (20, .sl 1 (v4.map cdI.enc)), (24, .sl 1 (v5.map cdI.enc))] [] kr kr ?_
    refine RunDS.call he (fid := 43) (s := cs_kit_SameInts) (F := fun a => kit_SameInts a.1 a.2.1) (er := er_kit_SameInts) (xs := [.sl 1 (v4.map cdI.enc), .sl 1 (v5.map cdI.enc)]) (a := (v4, v5, ())) rfl (wantedA_none rfl) kr kr kr (Sns.cons (Sn.enc (c := (cdL 1 cdI)) (v := v4)) (Sns.cons (Sn.enc (c := (cdL 1 cdI)) (v := v5)) Sns.nil)) kr hv6 ?_
    refine RunDS.segF (n := 27) he 1 [p3, p2, p1, (26, .v (.bool (!v6)))] [] kr kr ?_
    exact RunDS.done rfl (Wk.fr kr)
   refine Sem.cond (b := (!v6)) kr (fun hb7 => ?_) (fun hb7 => ?_)
   ·rw [if_pos hb7] at h
    refine Sem.sq he [(4, .v (.bool false))] [] ?_
    refine Sem.ret ?_
    have hq := Option.some.inj h; subst hq
    exact ⟨rfl, (Wk.fr kr)⟩
   ·rw [if_f hb7] at h
    refine Sem.skip ?_
    let p4 : Nat × AV := (5, .v (.int .i64 (wr .i64 (c2 + 1))))
    refine Sem.rg he [p3, p2, p4] [] ?_
    exact SemN.wk (s1 := ⟨Fr 27 [p3, p2, p4], []⟩) (Wk.fr kr) (ih (wr .i64 (c2 + 1)) h)
  ·rw [if_f hb3] at h
   refine Sem.exit ?_
   have hq := Option.some.inj h; subst hq
   exact ⟨rfl, (Wk.fr kr)⟩
set_option maxHeartbeats 4000000 in
set_option maxRecDepth 100000 in
theorem kit_SameLists_sem (x0 : (List (List Int))) (x1 : (List (List Int))) (r : Bool) (h : kit_SameLists x0 x1 = some r) : Sem e_kit_SameLists ⟨none, false⟩ cb_kit_SameLists ⟨Fr 27 (pairs0 0 (cs_kit_SameLists.enc (x0, x1, ()))), []⟩ fun e s' => (e = .normal ∨ e = .ret) ∧ ∃ xs, resA e_kit_SameLists.P s'.fr s'.hp Tryd.f56.results.toList = some xs ∧ retA xs = er_kit_SameLists r := by
 have he := e_kit_SameLists_ok
 unfold kit_SameLists at h
 let p1 : Nat × AV := (1, .sl 1 (x1.map (cdL 1 cdI).enc))
 let p2 : Nat × AV := (0, .sl 1 (x0.map (cdL 1 cdI).enc))
 refine Sem.wkQ (Sem.wk (s1 := ⟨Fr 27 [p2, p1], []⟩) (Wk.fr kr) ?_)
 refine Sem.sq he [p2, p1] [] ?_
 refine Sem.seq ?_
 refine Sem.seq ?_
 refine Sem.runS (s1 := ⟨Fr 27 [p2, p1, (10, .v (.bool ((x0.length : Int) != (x1.length : Int))))], []⟩) ?_ ?_
 ·refine RunS.segF (n := 27) he 1 [p2, p1, (6, .sl 1 (x0.map (cdL 1 cdI).enc))] [] kr ?_
  refine RunS.one he 0 rfl (op_q (wantedA_none rfl) rfl (q_len (a := .sl 1 (x0.map (cdL 1 cdI).enc)) kr (len_sl (el := 31) kr))) ?_
  refine RunS.segF (n := 27) he 1 [p2, p1, (7, .v (.int .i64 (x0.length : Int))), (8, .sl 1 (x1.map (cdL 1 cdI).enc))] [] kr ?_
  refine RunS.one he 0 rfl (op_q (wantedA_none rfl) rfl (q_len (a := .sl 1 (x1.map (cdL 1 cdI).enc)) kr (len_sl (el := 31) kr))) ?_
  exact RunS.last he
 refine Sem.cond (b := ((x0.length : Int) != (x1.length : Int))) kr (fun hb1 => ?_) (fun hb1 => ?_)
 ·rw [if_pos hb1] at h
  refine Sem.sq he [(4, .v (.bool false))] [] ?_
  refine Sem.ret ?_
  have hq := Option.some.inj h; subst hq
  exact ⟨⟨Fr 27 [(4, .v (.bool false))], []⟩, (Wk.fr kr), .inr rfl, [.v (.bool false)], kr, kr⟩
 ·rw [if_f hb1] at h
  refine Sem.skip ?_
  refine Sem.seq ?_
  let p3 : Nat × AV := (5, .v (.int .i64 0))
  refine Sem.sq he [p2, p1, p3] [] ?_
  refine Sem.block ?_
  obtain ⟨r9, hr9, h⟩ := Option.bind_eq_some_iff.1 h
  refine Sem.loop (n := 100000) ?_
  rcases r9 with w10 | w11
  ·try dsimp only at h
   refine Sem.cutN (SemN.wk (s1 := ⟨Fr 27 [p2, p1, p3], []⟩) (Wk.fr kr) (kit_SameLists_1_ok x0 x1 _ 0 _ hr9)) ?_
   refine Sem.sq he [(4, .v (.bool true))] [] ?_
   refine Sem.ret ?_
   have hq := Option.some.inj h; subst hq
   exact ⟨⟨Fr 27 [(4, .v (.bool true))], []⟩, (Wk.fr kr), .inr rfl, [.v (.bool true)], kr, kr⟩
  ·try dsimp only at h
   refine Sem.cutN (SemN.wk (s1 := ⟨Fr 27 [p2, p1, p3], []⟩) (Wk.fr kr) (kit_SameLists_1_ok x0 x1 _ 0 _ hr9)) ?_
   have hq := Option.some.inj h; subst hq
   exact ⟨⟨Fr 27 [(4, .v (.bool w11))], []⟩, (Wk.fr kr), .inr rfl, [.v (.bool w11)], kr, kr⟩
def t_kit_SameLists : List AV → Option AV := told cs_kit_SameLists (fun a => kit_SameLists a.1 a.2.1) er_kit_SameLists
theorem x_kit_SameLists : XOk 56 t_kit_SameLists := by
 refine EnvOk.x (E := e_kit_SameLists) (contract_ok e_kit_SameLists_ok (fn := Tryd.f56) (c := cb_kit_SameLists) ?h1 ?h2 ⟨Tryd.call56⟩ cs_kit_SameLists (fun a => kit_SameLists a.1 a.2.1) er_kit_SameLists (fun a => (by show 2 ≤ 27; decide)) ?h3 ?h4) rfl rfl
 case h1 => kernel_rfl
 case h2 => kernel_rfl
 case h3 => intro b; kernel_rfl
 case h4 => exact fun a b h => kit_SameLists_sem a.1 a.2.1 b h
/- trestle/trestlelaw09.Same$1 -/
noncomputable def e_law09_Same_1 : Env := (E0.withX 56 t_kit_SameLists)
theorem e_law09_Same_1_ok : EnvOk e_law09_Same_1 := (EnvOk.withX E0_ok x_kit_SameLists.1 x_kit_SameLists.2)
noncomputable def cb_law09_Same_1 : Code := codeOf Tryd.f55
def law09_Same_1 (x0 : (List (List Int))) (x1 : (List (List Int))) : Option (Bool) :=
 (kit_SameLists x0 x1).bind fun v1 =>
 some v1
def cs_law09_Same_1 : Cs ((List (List Int)) × (List (List Int)) × Unit) := (csC (cdL 1 (cdL 1 cdI)) (csC (cdL 1 (cdL 1 cdI)) csN))
def er_law09_Same_1 (r : Bool) : AV := cdB.enc r
set_option maxHeartbeats 4000000 in
set_option maxRecDepth 100000 in
theorem law09_Same_1_sem (x0 : (List (List Int))) (x1 : (List (List Int))) (r : Bool) (h : law09_Same_1 x0 x1 = some r) : Sem e_law09_Same_1 ⟨none, false⟩ cb_law09_Same_1 ⟨Fr 8 (pairs0 0 (cs_law09_Same_1.enc (x0, x1, ()))), []⟩ fun e s' => (e = .normal ∨ e = .ret) ∧ ∃ xs, resA e_law09_Same_1.P s'.fr s'.hp Tryd.f55.results.toList = some xs ∧ retA xs = er_law09_Same_1 r := by
 have he := e_law09_Same_1_ok
 unfold law09_Same_1 at h
 let p1 : Nat × AV := (1, .sl 1 (x1.map (cdL 1 cdI).enc))
 let p2 : Nat × AV := (0, .sl 1 (x0.map (cdL 1 cdI).enc))
 refine Sem.wkQ (Sem.wk (s1 := ⟨Fr 8 [p2, p1], []⟩) (Wk.fr kr) ?_)
 refine Sem.sq he [p2, p1] [] ?_
 refine Sem.seq ?_
 obtain ⟨v1, hv1, h⟩ := Option.bind_eq_some_iff.1 h
 refine Sem.runS (s1 := ⟨Fr 8 [(4, .v (.bool v1))], []⟩) ?_ ?_
 ·refine RunS.segF (n := 8) he 2 [(5, .sl 1 (x0.map (cdL 1 cdI).enc)), (6, .sl 1 (x1.map (cdL 1 cdI).enc))] [] kr ?_
  refine RunS.call he (fid := 56) (s := cs_kit_SameLists) (F := fun a => kit_SameLists a.1 a.2.1) (er := er_kit_SameLists) (xs := [.sl 1 (x0.map (cdL 1 cdI).enc), .sl 1 (x1.map (cdL 1 cdI).enc)]) (a := (x0, x1, ())) rfl (wantedA_none rfl) kr kr kr kr (Sns.cons (Sn.enc (c := (cdL 1 (cdL 1 cdI))) (v := x0)) (Sns.cons (Sn.enc (c := (cdL 1 (cdL 1 cdI))) (v := x1)) Sns.nil)) (.inl kr) hv1 ?_
  exact RunS.last he
 refine Sem.ret ?_
 have hq := Option.some.inj h; subst hq
 exact ⟨⟨Fr 8 [(4, .v (.bool v1))], []⟩, (Wk.fr kr), .inr rfl, [.v (.bool v1)], kr, kr⟩
def t_law09_Same_1 : List AV → Option AV := told cs_law09_Same_1 (fun a => law09_Same_1 a.1 a.2.1) er_law09_Same_1
theorem x_law09_Same_1 : XOk 55 t_law09_Same_1 := by
 refine EnvOk.x (E := e_law09_Same_1) (contract_ok e_law09_Same_1_ok (fn := Tryd.f55) (c := cb_law09_Same_1) ?h1 ?h2 ⟨Tryd.call55⟩ cs_law09_Same_1 (fun a => law09_Same_1 a.1 a.2.1) er_law09_Same_1 (fun a => (by show 2 ≤ 8; decide)) ?h3 ?h4) rfl rfl
 case h1 => kernel_rfl
 case h2 => kernel_rfl
 case h3 => intro b; kernel_rfl
 case h4 => exact fun a b h => law09_Same_1_sem a.1 a.2.1 b h
/- slices.EqualFunc[[][][]int,[][][]int,[][]int,[][]int] -/
noncomputable def e_slices_EqualFunc_LLL_LLL_LL_LL__law09_Same_1 : Env := (E0.withX 55 t_law09_Same_1)
theorem e_slices_EqualFunc_LLL_LLL_LL_LL__law09_Same_1_ok : EnvOk e_slices_EqualFunc_LLL_LLL_LL_LL__law09_Same_1 := (EnvOk.withX E0_ok x_law09_Same_1.1 x_law09_Same_1.2)
noncomputable def cb_slices_EqualFunc_LLL_LLL_LL_LL__law09_Same_1 : Code := codeOf Tryd.f54
def slices_EqualFunc_LLL_LLL_LL_LL__law09_Same_1_1 (x0 : (List (List (List Int)))) (x1 : (List (List (List Int)))) : Nat → Int → Option ((Unit) ⊕ (Bool))
 | 0, _ => none
 | f + 1, c2 =>
  if (decide (c2 < (x0.length : Int))) = true then
  (idx x0 c2).bind fun v4 =>
  (idx x1 c2).bind fun v5 =>
  (law09_Same_1 v4 v5).bind fun v6 =>
  if (!v6) = true then
  some (.inr false)
  else
  slices_EqualFunc_LLL_LLL_LL_LL__law09_Same_1_1 x0 x1 f (wr .i64 (c2 + 1))
  else
  some (.inl ())
def slices_EqualFunc_LLL_LLL_LL_LL__law09_Same_1 (x0 : (List (List (List Int)))) (x1 : (List (List (List Int)))) : Option (Bool) :=
 if ((x0.length : Int) != (x1.length : Int)) = true then
 some false
 else
 (slices_EqualFunc_LLL_LLL_LL_LL__law09_Same_1_1 x0 x1 100000 0).bind fun r9 =>
 match r9 with
 | (.inl w10) =>
  some true
 | (.inr w11) =>
  some w11
def er_slices_EqualFunc_LLL_LLL_LL_LL__law09_Same_1 (r : Bool) : AV := cdB.enc r
set_option maxHeartbeats 4000000 in
set_option maxRecDepth 100000 in
theorem slices_EqualFunc_LLL_LLL_LL_LL__law09_Same_1_1_ok (x0 : (List (List (List Int)))) (x1 : (List (List (List Int)))) : ∀ (f : Nat) (c2 : Int) (r : (Unit) ⊕ (Bool)), slices_EqualFunc_LLL_LLL_LL_LL__law09_Same_1_1 x0 x1 f c2 = some r → SemN e_slices_EqualFunc_LLL_LLL_LL_LL__law09_Same_1 ⟨none, false⟩ (pc cb_slices_EqualFunc_LLL_LLL_LL_LL__law09_Same_1 [1, 1, 0, 1, 0, 0]) f ⟨Fr 32 [(1, .sl 1 (x1.map (cdL 1 (cdL 1 cdI)).enc)), (2, .fn 55 [] []), (15, .sl 1 (x0.map (cdL 1 (cdL 1 cdI)).enc)), (16, .v (.int .i64 (x0.length : Int))), (17, .v (.int .i64 c2))], []⟩ (fun e s => match r with
 | (.inl w) => e = (.exit 0) ∧ Wk e_slices_EqualFunc_LLL_LLL_LL_LL__law09_Same_1 s ⟨Fr 32 [], []⟩
 | (.inr w) => e = .ret ∧ Wk e_slices_EqualFunc_LLL_LLL_LL_LL__law09_Same_1 s ⟨Fr 32 [(6, .v (.bool w))], []⟩) := by
 have he := e_slices_EqualFunc_LLL_LLL_LL_LL__law09_Same_1_ok
 intro f
 induction f with
 | zero => intro c2 r h; cases h
 | succ f ih0 =>
  intro c2 r h
  have ih := fun (c2 : Int) => ih0 c2 r
  unfold slices_EqualFunc_LLL_LLL_LL_LL__law09_Same_1_1 at h
  refine SemN.succ ?_
  let p1 : Nat × AV := (17, .v (.int .i64 c2))
  let p2 : Nat × AV := (16, .v (.int .i64 (x0.length : Int)))
  let p3 : Nat × AV := (15, .sl 1 (x0.map (cdL 1 (cdL 1 cdI)).enc))
  let p4 : Nat × AV := (2, .fn 55 [] [])
  let p5 : Nat × AV := (1, .sl 1 (x1.map (cdL 1 (cdL 1 cdI)).enc))
  refine Sem.sq he [p5, p4, p3, p2, p1, (18, .v (.bool (decide (c2 < (x0.length : Int)))))] [] ?_
  refine Sem.seq ?_
  refine Sem.cond (b := (decide (c2 < (x0.length : Int)))) kr (fun hb3 => ?_) (fun hb3 => ?_)
  ·rw [if_pos hb3] at h
   refine Sem.skip ?_
   refine Sem.seq ?_
   refine Sem.block ?_
   refine Sem.seq ?_
   obtain ⟨v4, hv4, h⟩ := Option.bind_eq_some_iff.1 h
   let p6 : Nat × AV := (8, .sl 1 (v4.map (cdL 1 cdI).enc))
   refine Sem.runS (s1 := ⟨Fr 32 [p5, p4, (7, .v (.int .i64 c2)), p6, p3, p2, p1], []⟩) ?_ ?_
   ·refine RunS.segF (n := 32) he 1 [p5, p4, p3, p2, p1, (19, .v (.int .i64 c2))] [] kr ?_
    refine RunS.one he 0 rfl (op_q (wantedA_none rfl) rfl (q_indexAddr (a := .sl 1 (x0.map (cdL 1 (cdL 1 cdI)).enc)) (b := .v (.int .i64 c2)) kr kr (ix_sl (e := (cdL 1 (cdL 1 cdI)).enc) (el := 50) (k := 1) (ki := .i64) kr kr hv4))) ?_
    exact RunS.last he
   refine Sem.seq ?_
   obtain ⟨v5, hv5, h⟩ := Option.bind_eq_some_iff.1 h
   refine Sem.runS (s1 := ⟨Fr 32 [p5, p4, p6, (9, .sl 1 (v5.map (cdL 1 cdI).enc)), p3, p2, p1], []⟩) ?_ ?_
   ·refine RunS.segF (n := 32) he 2 [p5, p4, p6, p3, p2, p1, (22, .sl 1 (x1.map (cdL 1 (cdL 1 cdI)).enc)), (23, .v (.int .i64 c2))] [] kr ?_
    refine RunS.one he 0 rfl (op_q (wantedA_none rfl) rfl (q_indexAddr (a := .sl 1 (x1.map (cdL 1 (cdL 1 cdI)).enc)) (b := .v (.int .i64 c2)) kr kr (ix_sl (e := (cdL 1 (cdL 1 cdI)).enc) (el := 50) (k := 1) (ki := .i64) kr kr hv5))) ?_
    exact RunS.last he
   refine Sem.seq ?_
   obtain ⟨v6, hv6, h⟩ := Option.bind_eq_some_iff.1 h
   refine Sem.runS (s1 := ⟨Fr 32 [p5, p4, p3, p2, p1, (30, .v (.bool (!v6)))], []⟩) ?_ ?_
   ·refine RunS.segF (n := 32) he 3 [p5, p4, p3, p2, p1, (26, .fn 55 [] []), (27, .sl 1 (v4.map (cdL 1 cdI).enc)), (28, .sl 1 (v5.map (cdL 1 cdI).enc))] [] kr ?_
    refine RunS.call he (fid := 55) (s := cs_law09_Same_1) (F := fun a => law09_Same_1 a.1 a.2.1) (er := er_law09_Same_1) (xs := [.sl 1 (v4.map (cdL 1 cdI).enc), .sl 1 (v5.map (cdL 1 cdI).enc)]) (a := (v4, v5, ())) rfl (wantedA_none rfl) kr kr kr kr (Sns.cons (Sn.enc (c := (cdL 1 (cdL 1 cdI))) (v := v4)) (Sns.cons (Sn.enc (c := (cdL 1 (cdL 1 cdI))) (v := v5)) Sns.nil)) (.inl kr) hv6 ?_
    exact RunS.last he
   refine Sem.cond (b := (!v6)) kr (fun hb7 => ?_) (fun hb7 => ?_)
   ·rw [if_pos hb7] at h
    refine Sem.sq he [(6, .v (.bool false))] [] ?_
    refine Sem.ret ?_
    have hq := Option.some.inj h; subst hq
    exact ⟨rfl, (Wk.fr kr)⟩
   ·rw [if_f hb7] at h
    refine Sem.skip ?_
    let p7 : Nat × AV := (17, .v (.int .i64 (wr .i64 (c2 + 1))))
    refine Sem.rg he [p5, p4, p3, p2, p7] [] ?_
    exact SemN.wk (s1 := ⟨Fr 32 [p5, p4, p3, p2, p7], []⟩) (Wk.fr kr) (ih (wr .i64 (c2 + 1)) h)
  ·rw [if_f hb3] at h
   refine Sem.exit ?_
   have hq := Option.some.inj h; subst hq
   exact ⟨rfl, (Wk.fr kr)⟩
set_option maxHeartbeats 4000000 in
set_option maxRecDepth 100000 in
theorem slices_EqualFunc_LLL_LLL_LL_LL__law09_Same_1_sem (x0 : (List (List (List Int)))) (x1 : (List (List (List Int)))) (r : Bool) (h : slices_EqualFunc_LLL_LLL_LL_LL__law09_Same_1 x0 x1 = some r) : Sem e_slices_EqualFunc_LLL_LLL_LL_LL__law09_Same_1 ⟨none, false⟩ cb_slices_EqualFunc_LLL_LLL_LL_LL__law09_Same_1 ⟨Fr 32 (pairs0 0 [.sl 1 (x0.map (cdL 1 (cdL 1 cdI)).enc), .sl 1 (x1.map (cdL 1 (cdL 1 cdI)).enc), .fn 55 [] []]), []⟩ fun e s' => (e = .normal ∨ e = .ret) ∧ ∃ xs, resA e_slices_EqualFunc_LLL_LLL_LL_LL__law09_Same_1.P s'.fr s'.hp Tryd.f54.results.toList = some xs ∧ (retA xs = er_slices_EqualFunc_LLL_LLL_LL_LL__law09_Same_1 r ∧ s'.hp = []) := by
 have he := e_slices_EqualFunc_LLL_LLL_LL_LL__law09_Same_1_ok
 unfold slices_EqualFunc_LLL_LLL_LL_LL__law09_Same_1 at h
 let p1 : Nat × AV := (2, .fn 55 [] [])
 let p2 : Nat × AV := (1, .sl 1 (x1.map (cdL 1 (cdL 1 cdI)).enc))
 let p3 : Nat × AV := (0, .sl 1 (x0.map (cdL 1 (cdL 1 cdI)).enc))
 refine Sem.wkQ (Sem.wk (s1 := ⟨Fr 32 [p3, p2, p1], []⟩) (Wk.fr kr) ?_)
 refine Sem.sq he [p3, p2, p1] [] ?_
 refine Sem.seq ?_
 refine Sem.seq ?_
 refine Sem.runS (s1 := ⟨Fr 32 [p3, p2, p1, (14, .v (.bool ((x0.length : Int) != (x1.length : Int))))], []⟩) ?_ ?_
 ·refine RunS.segF (n := 32) he 1 [p3, p2, p1, (10, .sl 1 (x0.map (cdL 1 (cdL 1 cdI)).enc))] [] kr ?_
  refine RunS.one he 0 rfl (op_q (wantedA_none rfl) rfl (q_len (a := .sl 1 (x0.map (cdL 1 (cdL 1 cdI)).enc)) kr (len_sl (el := 50) kr))) ?_
  refine RunS.segF (n := 32) he 1 [p3, p2, p1, (11, .v (.int .i64 (x0.length : Int))), (12, .sl 1 (x1.map (cdL 1 (cdL 1 cdI)).enc))] [] kr ?_
  refine RunS.one he 0 rfl (op_q (wantedA_none rfl) rfl (q_len (a := .sl 1 (x1.map (cdL 1 (cdL 1 cdI)).enc)) kr (len_sl (el := 50) kr))) ?_
  exact RunS.last he
 refine Sem.cond (b := ((x0.length : Int) != (x1.length : Int))) kr (fun hb1 => ?_) (fun hb1 => ?_)
 ·rw [if_pos hb1] at h
  refine Sem.sq he [(6, .v (.bool false))] [] ?_
  refine Sem.ret ?_
  have hq := Option.some.inj h; subst hq
  exact ⟨⟨Fr 32 [(6, .v (.bool false))], []⟩, (Wk.fr kr), .inr rfl, [.v (.bool false)], kr, ⟨kr, rfl⟩⟩
 ·rw [if_f hb1] at h
  refine Sem.skip ?_
  refine Sem.seq ?_
  refine Sem.seq ?_
  let p4 : Nat × AV := (17, .v (.int .i64 0))
  let p5 : Nat × AV := (16, .v (.int .i64 (x0.length : Int)))
  let p6 : Nat × AV := (15, .sl 1 (x0.map (cdL 1 (cdL 1 cdI)).enc))
  refine Sem.runS (s1 := ⟨Fr 32 [p2, p1, p6, p5, p4], []⟩) ?_ ?_
  ·refine RunS.segF (n := 32) he 1 [p2, p1, p6] [] kr ?_
   refine RunS.one he 0 rfl (op_q (wantedA_none rfl) rfl (q_len (a := .sl 1 (x0.map (cdL 1 (cdL 1 cdI)).enc)) kr (len_sl (el := 50) kr))) ?_
   exact RunS.last he
  refine Sem.block ?_
  obtain ⟨r9, hr9, h⟩ := Option.bind_eq_some_iff.1 h
  refine Sem.loop (n := 100000) ?_
  rcases r9 with w10 | w11
  ·try dsimp only at h
   refine Sem.cutN (SemN.wk (s1 := ⟨Fr 32 [p2, p1, p6, p5, p4], []⟩) (Wk.fr kr) (slices_EqualFunc_LLL_LLL_LL_LL__law09_Same_1_1_ok x0 x1 _ 0 _ hr9)) ?_
   refine Sem.sq he [(6, .v (.bool true))] [] ?_
   refine Sem.ret ?_
   have hq := Option.some.inj h; subst hq
   exact ⟨⟨Fr 32 [(6, .v (.bool true))], []⟩, (Wk.fr kr), .inr rfl, [.v (.bool true)], kr, ⟨kr, rfl⟩⟩
  ·try dsimp only at h
   refine Sem.cutN (SemN.wk (s1 := ⟨Fr 32 [p2, p1, p6, p5, p4], []⟩) (Wk.fr kr) (slices_EqualFunc_LLL_LLL_LL_LL__law09_Same_1_1_ok x0 x1 _ 0 _ hr9)) ?_
   have hq := Option.some.inj h; subst hq
   exact ⟨⟨Fr 32 [(6, .v (.bool w11))], []⟩, (Wk.fr kr), .inr rfl, [.v (.bool w11)], kr, ⟨kr, rfl⟩⟩
theorem s_slices_EqualFunc_LLL_LLL_LL_LL__law09_Same_1 (x0 : (List (List (List Int)))) (x1 : (List (List (List Int)))) (r : Bool) (h : slices_EqualFunc_LLL_LLL_LL_LL__law09_Same_1 x0 x1 = some r) : SOk 54 [.sl 1 (x0.map (cdL 1 (cdL 1 cdI)).enc), .sl 1 (x1.map (cdL 1 (cdL 1 cdI)).enc), .fn 55 [] []] (fun x h' => x = er_slices_EqualFunc_LLL_LLL_LL_LL__law09_Same_1 r ∧ h' = []) :=
 sok_of_sem e_slices_EqualFunc_LLL_LLL_LL_LL__law09_Same_1_ok rfl rfl (fn := Tryd.f54) (c := cb_slices_EqualFunc_LLL_LLL_LL_LL__law09_Same_1) kr kr ⟨Tryd.call54⟩ (by show 3 ≤ 32; decide) (slices_EqualFunc_LLL_LLL_LL_LL__law09_Same_1_sem x0 x1 r h)
/- trestle/trestlelaw09.Same -/
noncomputable def e_law09_Same : Env := E0
theorem e_law09_Same_ok : EnvOk e_law09_Same := E0_ok
noncomputable def cb_law09_Same : Code := codeOf Tryd.f18
def law09_Same (x0 : (List (List (List Int)))) (x1 : (List (List (List Int)))) : Option (Bool) :=
 (slices_EqualFunc_LLL_LLL_LL_LL__law09_Same_1 x0 x1).bind fun v1 =>
 some v1
def cs_law09_Same : Cs ((List (List (List Int))) × (List (List (List Int))) × Unit) := (csC (cdL 1 (cdL 1 (cdL 1 cdI))) (csC (cdL 1 (cdL 1 (cdL 1 cdI))) csN))
def er_law09_Same (r : Bool) : AV := cdB.enc r
set_option maxHeartbeats 4000000 in
set_option maxRecDepth 100000 in
theorem law09_Same_sem (x0 : (List (List (List Int)))) (x1 : (List (List (List Int)))) (r : Bool) (h : law09_Same x0 x1 = some r) : Sem e_law09_Same ⟨none, false⟩ cb_law09_Same ⟨Fr 8 (pairs0 0 (cs_law09_Same.enc (x0, x1, ()))), []⟩ fun e s' => (e = .normal ∨ e = .ret) ∧ ∃ xs, resA e_law09_Same.P s'.fr s'.hp Tryd.f18.results.toList = some xs ∧ retA xs = er_law09_Same r := by
 have he := e_law09_Same_ok
 unfold law09_Same at h
 let p1 : Nat × AV := (1, .sl 1 (x1.map (cdL 1 (cdL 1 cdI)).enc))
 let p2 : Nat × AV := (0, .sl 1 (x0.map (cdL 1 (cdL 1 cdI)).enc))
 refine Sem.wkQ (Sem.wk (s1 := ⟨Fr 8 [p2, p1], []⟩) (Wk.fr kr) ?_)
 refine Sem.sq he [p2, p1] [] ?_
 refine Sem.seq ?_
 obtain ⟨v1, hv1, h⟩ := Option.bind_eq_some_iff.1 h
 refine Sem.runS (s1 := ⟨Fr 8 [(4, .v (.bool v1))], []⟩) ?_ ?_
 ·refine RunS.segF (n := 8) he 2 [(5, .sl 1 (x0.map (cdL 1 (cdL 1 cdI)).enc)), (6, .sl 1 (x1.map (cdL 1 (cdL 1 cdI)).enc))] [] kr ?_
  refine RunS.callS rfl rfl (s_slices_EqualFunc_LLL_LLL_LL_LL__law09_Same_1 x0 x1 _ hv1) rfl (wantedA_none rfl) kr (xs := [.sl 1 (x0.map (cdL 1 (cdL 1 cdI)).enc), .sl 1 (x1.map (cdL 1 (cdL 1 cdI)).enc), .fn 55 [] []]) kr kr (by rintro x h' ⟨rfl, rfl⟩; exact ⟨rfl, rfl⟩) ?_
  rintro x h' ⟨rfl, rfl⟩
  exact RunS.last he
 refine Sem.ret ?_
 have hq := Option.some.inj h; subst hq
 exact ⟨⟨Fr 8 [(4, .v (.bool v1))], []⟩, (Wk.fr kr), .inr rfl, [.v (.bool v1)], kr, kr⟩
def t_law09_Same : List AV → Option AV := told cs_law09_Same (fun a => law09_Same a.1 a.2.1) er_law09_Same
theorem x_law09_Same : XOk 18 t_law09_Same := by
 refine EnvOk.x (E := e_law09_Same) (contract_ok e_law09_Same_ok (fn := Tryd.f18) (c := cb_law09_Same) ?h1 ?h2 ⟨Tryd.call18⟩ cs_law09_Same (fun a => law09_Same a.1 a.2.1) er_law09_Same (fun a => (by show 2 ≤ 8; decide)) ?h3 ?h4) rfl rfl
 case h1 => kernel_rfl
 case h2 => kernel_rfl
 case h3 => intro b; kernel_rfl
 case h4 => exact fun a b h => law09_Same_sem a.1 a.2.1 b h
/-- An own block is shortened. -/
theorem WkY.short {E : Env} {n d : Nat} {l : List (Nat × AV)} {hp : Hp} {b k q m : Nat} {t : TypeId} {es zs : List AV} (hb : hp[b]? = some (some ⟨k, t, es ++ zs, false⟩)) (_ : q ≤ m) : WkY E ⟨Fr n ((d, .rf b 0 q m) :: l), hp⟩ ⟨Fr n ((d, .rf b 0 q q) :: l), hp.set b (some ⟨k, t, es, false⟩)⟩ := by
 intro base w Z R a sr
 obtain ⟨r, arr, us, g1, g2, g3, g4, g5, g6, g7, g8, g9, g10⟩ := sr.hh.blk b _ hb
 have hel : (es ++ zs).take es.length = es := by rw [List.take_append_of_le_length (Nat.le_refl _), List.take_of_length_le (Nat.le_refl _)]
 have hput := sr.hh.put (w' := w) (es := es) (us := us.take es.length) (arr := arr) hb rfl g1 ⟨rfl, rfl, rfl, Nat.le_refl _, fun _ _ _ => rfl⟩ g3 g4 (by have : (es ++ zs).length ≤ r.cap := g5; rw [List.length_append] at this; omega) (by have := g9.take es.length; rwa [hel] at this) (fun i u hu => by
  rw [List.getElem?_take] at hu
  split at hu
  ·exact g10 i u hu
  ·cases hu)
 refine ⟨Z, R, ⟨hput.1, ⟨?_, fun t x hx => ?_⟩, sr.mks.step hput.2, sr.gl.step sr.hh hput.2, sr.bs⟩, hput.2⟩
 ·have := sr.fr.1; rw [Fr_len] at this ⊢; exact this
 ·have hold : ∀ x, (Fr n ((d, .rf b 0 q m) :: l))[t]? = some (some x) → VR w Z R x (a.tmps.getD t undef) := fun x h => sr.fr.2 t x h
  rw [Fr_get] at hx
  by_cases ht : t < n
  ·rw [if_pos ht] at hx
   injection hx with hx
   rw [lk_put] at hx
   by_cases hd : d = t
   ·subst hd
    rw [if_pos rfl] at hx
    injection hx with hx
    subst hx
    have h2 := hold (.rf b 0 q m) (by rw [Fr_get, if_pos ht, lk_put, if_pos rfl])
    generalize a.tmps.getD d undef = u at h2
    cases h2 with
    | rf hr h0 h1 h2 hm => exact .rf hr (Nat.le_refl _) (Nat.le_trans h0 h1) h2 hm
   ·rw [if_neg hd] at hx
    exact hold x (by rw [Fr_get, if_pos ht, lk_put, if_neg hd, hx])
  ·rw [if_neg ht] at hx; cases hx
def cutB (i : Int) (m : Nat) : Bool := decide (0 < m) && (decide (0 ≤ i) && decide (i ≤ (m : Int)))
section
variable {E : Env} {cx : Cx} {ops : Array Oper} {rest rest' : List Oper} {K : St → Prop} {n k d : Nat} {l : List (Nat × AV)} {hp : Hp} {t ty : TypeId} {α : Type} {c : Cd α} {xs : List α} {e : AV} {L : List Asn}
theorem RunL.cutO (hE : EnvOk E) {x y : Operand} {i : Int} {ki : IntKind} {t' : TypeId} {pos : String} {af : Array Edge} {g : Option (Nat × Bool)} (ht : T hp (own_ (ocL k t (ocV c)) e xs :: L)) (hc : cutB i xs.length = true) (hr : rest = ⟨some d, .slice ty x none (some y) none, t', pos, af, g⟩ :: rest') (hw : wantedA ops (Fr n l) ⟨some d, .slice ty x none (some y) none, t', pos, af, g⟩ = some true)
  (hx : opA E (Fr n l) x = some e) (hy : opA E (Fr n l) y = some (.v (.int ki i))) (hu : E.P.underlying ty = some (.slice t)) (hs : tySize E.P t = some k) (kk : ∀ e' hp', T hp' (own_ (ocL k t (ocV c)) e' (xs.take i.toNat) :: L) → RunL E cx ops rest' ⟨Fr n ((d, e') :: l), hp'⟩ K) : RunL E cx ops rest ⟨Fr n l, hp⟩ K := by
 unfold cutB at hc
 simp only [Bool.and_eq_true, decide_eq_true_eq] at hc
 obtain ⟨h0, h1, h2⟩ := hc
 obtain ⟨F, p, hn', hk, _⟩ := ht.act
 rcases p with ⟨rfl, rfl, _⟩ | ⟨b, es, F', rfl, hb, rfl, h4⟩
 ·simp at h0
 ·obtain ⟨rfl, rfl⟩ := h4.leaf_inv
  have hi : i.toNat ≤ xs.length := by omega
  have hsl : evSlice E.P hp ty (.rf b 0 xs.length xs.length) none (some (.v (.int ki i))) none = some (.rf b 0 i.toNat xs.length) := by
   unfold evSlice
   have hni : ¬ i < 0 := by omega
   simp only [hu, hb, natB, hni, if_false, hs]
   rw [if_pos ⟨Nat.zero_le _, hi, Nat.le_refl _, .inl rfl, trivial⟩, if_pos h0]
   simp
  refine RunL.one hE 0 hr (op_q hw rfl (q_slice hx rfl (by show (opA E (Fr n l) y).map some = _; rw [hy]; rfl) rfl hsl)) ?_
  refine RunL.wk (WkY.short (es := (xs.take i.toNat).map c.enc) (zs := (xs.drop i.toNat).map c.enc) (by rw [hb, ← List.map_append, List.take_append_drop]) hi) ?_
  have hlt := get_lt hb
  have hl : (xs.take i.toNat).length = i.toNat := by rw [List.length_take]; omega
  refine kk _ _ (hk _ _ [b] (.inr ⟨b, (xs.take i.toNat).map c.enc, [], by rw [hl], by simp [hlt], rfl, All3.leaf⟩) (by simp) (fun b' hb' _ => ?_) (fun b' hb' => .inl hb'))
  rw [List.getElem?_set, if_neg (by intro e; subst e; simp at hb')]
end
/- trestle/trestlelaw09.Copy -/
noncomputable def e_law09_Copy_d : Env := E0
theorem e_law09_Copy_d_ok : EnvOk e_law09_Copy_d := E0_ok
noncomputable def cb_law09_Copy_d : Code := codeOf Tryd.f14
def law09_Copy_d_2 (v6 : (List (List Int))) : Nat → Int → (List (List Int)) → Option (((List (List Int))))
 | 0, _, _ => none
 | f + 1, c8, c10 =>
  if (decide (c8 < (v6.length : Int))) = true then
  (idx v6 c8).bind fun v12 =>
  if (capOk 8 v12.length) = true then
  if (capOk 8 (v12.length + ([(-9)] : List Int).length)) = true then
  if (cutB (v12.length : Int) (v12 ++ ([(-9)] : List Int)).length) = true then
  if (capOk 24 (c10.length + ([((v12 ++ ([(-9)] : List Int)).take (v12.length : Int).toNat)] : List (List Int)).length)) = true then
  law09_Copy_d_2 v6 f (wr .i64 (c8 + 1)) (c10 ++ ([((v12 ++ ([(-9)] : List Int)).take (v12.length : Int).toNat)] : List (List Int)))
  else none
  else none
  else none
  else none
  else
  some c10
def law09_Copy_d_1 (x0 : (List (List (List Int)))) : Nat → Int → (List (List (List Int))) → Option (((List (List (List Int)))))
 | 0, _, _ => none
 | f + 1, c2, c4 =>
  if (decide (c2 < (x0.length : Int))) = true then
  (idx x0 c2).bind fun v6 =>
  (law09_Copy_d_2 v6 100000 0 ([] : (List (List Int)))).bind fun r46 =>
  if (capOk 24 (c4.length + ([r46] : List (List (List Int))).length)) = true then
  law09_Copy_d_1 x0 f (wr .i64 (c2 + 1)) (c4 ++ ([r46] : List (List (List Int))))
  else none
  else
  some c4
def law09_Copy_d (x0 : (List (List (List Int)))) : Option ((List (List (List Int)))) :=
 (law09_Copy_d_1 x0 100000 0 ([] : (List (List (List Int))))).bind fun r64 =>
 some r64
set_option maxHeartbeats 4000000 in
set_option maxRecDepth 100000 in
theorem law09_Copy_d_2_ok {L : List Asn} (v6 : (List (List Int))) (x0 : (List (List (List Int)))) (c2 : Int) (e3 : AV) (c4 : (List (List (List Int)))) : ∀ (f : Nat) (c8 : Int) (c10 : (List (List Int))) (r : ((List (List Int)))), law09_Copy_d_2 v6 f c8 c10 = some r → ∀ (e9 : AV) (hp : Hp), T hp ((own_ (ocL 1 50 (ocL 1 31 (ocL 1 3 (ocV cdI)))) e3 c4) :: (own_ (ocL 1 31 (ocL 1 3 (ocV cdI))) e9 c10) :: L) → SemYN e_law09_Copy_d ⟨none, false⟩ (pc cb_law09_Copy_d [1, 1, 0, 1, 0, 0, 1, 1, 0, 0, 1, 1, 0, 1, 0, 0]) f ⟨Fr 38 [(3, e3), (6, e9), (9, .sl 1 (x0.map (cdL 1 (cdL 1 cdI)).enc)), (10, .v (.int .i64 (x0.length : Int))), (11, .v (.int .i64 c2)), (15, .sl 1 (v6.map (cdL 1 cdI).enc)), (16, .v (.int .i64 (v6.length : Int))), (17, .v (.int .i64 c8))], hp⟩ (fun e s => e = (.exit 2) ∧ ∃ s2, (∃ (e43 : AV) (h' : Hp), T h' ((own_ (ocL 1 50 (ocL 1 31 (ocL 1 3 (ocV cdI)))) e3 c4) :: (own_ (ocL 1 31 (ocL 1 3 (ocV cdI))) e43 r) :: L) ∧ s2 = ⟨Fr 38 [(3, e3), (6, e43), (9, .sl 1 (x0.map (cdL 1 (cdL 1 cdI)).enc)), (10, .v (.int .i64 (x0.length : Int))), (11, .v (.int .i64 c2))], h'⟩) ∧ WkY e_law09_Copy_d s s2) := by
 have he := e_law09_Copy_d_ok
 intro f
 induction f with
 | zero => intro c8 c10 r h; cases h
 | succ f ih0 =>
  intro c8 c10 r h e9 hp hT
  unfold law09_Copy_d_2 at h
  refine SemYN.succ ?_
  let p1 : Nat × AV := (17, .v (.int .i64 c8))
  let p2 : Nat × AV := (16, .v (.int .i64 (v6.length : Int)))
  let p3 : Nat × AV := (15, .sl 1 (v6.map (cdL 1 cdI).enc))
  let p4 : Nat × AV := (11, .v (.int .i64 c2))
  let p5 : Nat × AV := (10, .v (.int .i64 (x0.length : Int)))
  let p6 : Nat × AV := (9, .sl 1 (x0.map (cdL 1 (cdL 1 cdI)).enc))
  refine SemY.sq he [(3, e3), (6, e9), p6, p5, p4, p3, p2, p1, (18, .v (.bool (decide (c8 < (v6.length : Int)))))] ?_
  refine SemY.seq ?_
  refine SemY.cond (b := (decide (c8 < (v6.length : Int)))) kr (fun hb11 => ?_) (fun hb11 => ?_)
  ·rw [if_pos hb11] at h
   refine SemY.skip ?_
   refine SemY.seq ?_
   refine SemY.block ?_
   refine SemY.seq ?_
   refine SemY.regionL ?_
   obtain ⟨v12, hv12, h⟩ := Option.bind_eq_some_iff.1 h
   refine RunL.one he 0 rfl (op_q (wantedA_none rfl) rfl (q_indexAddr (a := .sl 1 (v6.map (cdL 1 cdI).enc)) (b := .v (.int .i64 c8)) kr kr (ix_sl (e := (cdL 1 cdI).enc) (el := 31) (k := 1) (ki := .i64) kr kr hv12))) ?_
   refine RunL.fin he [(3, e3), (6, e9), (8, .sl 1 (v12.map cdI.enc)), p6, p5, p4, p3, p2, p1] ?_
   refine SemY.regionL ?_
   refine RunL.sg he 2 ?_
   by_cases hk13 : (capOk 8 v12.length) = true
   case neg => rw [if_neg hk13] at h; cases h
   rw [if_pos hk13] at h
   refine RunL.callS rfl rfl (s_clone v12 hk13) rfl (wantedA_none rfl) kr (xs := [.sl 1 (v12.map cdI.enc)]) kr (Sees.cons (SeeV.enc (c := cdL 1 cdI)) Sees.nil) clone_flat ?_
   intro x h' hO; obtain ⟨e14, hp15, e14q, hp15q, hT16⟩ := clone_own hT hO; rw [← e14q, ← hp15q]
   obtain ⟨e20, hp17, hb18, hT19⟩ := lit_ownB (P := Tryd.prog) (bytes := 8) (k := 1) (t := 3) (ty := 31) (xs := ([(-9)] : List Int)) (n := 1) (fit_V (k := 1) (fun _ => ⟨rfl, rfl, rfl⟩)) (els_leaf (c := cdI) (xs := ([(-9)] : List Int)) hT16) rfl kr kr kr
   refine RunL.one he 0 rfl (op_n (wantedA_none rfl) rfl kr (n_lit (xs := enumA 0 [.v (.int .i64 (-9))]) kr hb18)) ?_
   by_cases hk25 : (capOk 8 (v12.length + ([(-9)] : List Int).length)) = true
   case neg => rw [if_neg hk25] at h; cases h
   rw [if_pos hk25] at h
   have hT26 := ((hT19.front 0 rfl).front 1 rfl)
   obtain ⟨e24, hp21, hb22, hT23⟩ := app_ownB (P := Tryd.prog) (ty := 31) (ty2 := 31) (bytes := 8) hT26 kr kr hk25
   refine RunL.one he 0 rfl (op_w (wantedA_none rfl) rfl kr kr (w_append (a := e14) (b := e20) kr kr hb22)) ?_
   refine RunL.sg he 1 ?_
   refine RunL.one he 0 rfl (op_q (wantedA_none rfl) rfl (q_len (a := .sl 1 (v12.map cdI.enc)) kr (len_sl (el := 3) kr))) ?_
   by_cases hk27 : (cutB (v12.length : Int) (v12 ++ ([(-9)] : List Int)).length) = true
   case neg => rw [if_neg hk27] at h; cases h
   rw [if_pos hk27] at h
   refine RunL.cutO (ki := .i64) (i := (v12.length : Int)) he hT23 hk27 rfl (wantedA_none rfl) kr kr kr kr ?_
   intro e28 hp29 hT30
   have hl35 : evLen Tryd.prog 31 e28 = some (eI ((v12 ++ ([(-9)] : List Int)).take (v12.length : Int).toNat).length) := len_B hT30 kr
   obtain ⟨e34, hp31, hb32, hT33⟩ := lit_ownB (P := Tryd.prog) (bytes := 24) (k := 1) (t := 31) (ty := 50) (xs := ([((v12 ++ ([(-9)] : List Int)).take (v12.length : Int).toNat)] : List (List Int))) (n := 1) fit_L (els_cons ((els_nil (o := (ocL 1 3 (ocV cdI))) hT30).front 1 rfl)) rfl kr kr kr
   refine RunL.one he 0 rfl (op_n (wantedA_none rfl) rfl kr (n_lit (xs := enumA 0 [e28]) kr hb32)) ?_
   by_cases hk40 : (capOk 24 (c10.length + ([((v12 ++ ([(-9)] : List Int)).take (v12.length : Int).toNat)] : List (List Int)).length)) = true
   case neg => rw [if_neg hk40] at h; cases h
   rw [if_pos hk40] at h
   have hT41 := ((hT33.front 0 rfl).front 2 rfl)
   obtain ⟨e39, hp36, hb37, hT38⟩ := app_ownB (P := Tryd.prog) (ty := 50) (ty2 := 50) (bytes := 24) hT41 kr kr hk40
   refine RunL.one he 0 rfl (op_w (wantedA_none rfl) rfl kr kr (w_append (a := e9) (b := e34) kr kr hb37)) ?_
   refine RunL.fin he [(3, e3), (6, e39), p6, p5, p4, p3, p2, p1] ?_
   refine SemY.regionL ?_
   refine RunL.sg he 2 ?_
   refine RunL.done rfl ?_
   have hT42 := (hT38.front 1 rfl)
   exact SemYN.wk (WkY.fr kr) (ih0 (wr .i64 (c8 + 1)) (c10 ++ ([((v12 ++ ([(-9)] : List Int)).take (v12.length : Int).toNat)] : List (List Int))) _ h e39 hp36 hT42)
  ·rw [if_f hb11] at h
   refine SemY.exit ?_
   have hq := Option.some.inj h; subst hq
   exact ⟨rfl, _, ⟨e9, hp, hT, rfl⟩, (WkY.fr kr)⟩
set_option maxHeartbeats 4000000 in
set_option maxRecDepth 100000 in
theorem law09_Copy_d_1_ok {L : List Asn} (x0 : (List (List (List Int)))) : ∀ (f : Nat) (c2 : Int) (c4 : (List (List (List Int)))) (r : ((List (List (List Int))))), law09_Copy_d_1 x0 f c2 c4 = some r → ∀ (e3 : AV) (hp : Hp), T hp ((own_ (ocL 1 50 (ocL 1 31 (ocL 1 3 (ocV cdI)))) e3 c4) :: L) → SemYN e_law09_Copy_d ⟨none, false⟩ (pc cb_law09_Copy_d [1, 1, 0, 1, 0, 0]) f ⟨Fr 38 [(3, e3), (9, .sl 1 (x0.map (cdL 1 (cdL 1 cdI)).enc)), (10, .v (.int .i64 (x0.length : Int))), (11, .v (.int .i64 c2))], hp⟩ (fun e s => e = (.exit 0) ∧ ∃ s2, (∃ (e62 : AV) (h' : Hp), T h' ((own_ (ocL 1 50 (ocL 1 31 (ocL 1 3 (ocV cdI)))) e62 r) :: L) ∧ s2 = ⟨Fr 38 [(3, e62)], h'⟩) ∧ WkY e_law09_Copy_d s s2) := by
 have he := e_law09_Copy_d_ok
 intro f
 induction f with
 | zero => intro c2 c4 r h; cases h
 | succ f ih0 =>
  intro c2 c4 r h e3 hp hT
  unfold law09_Copy_d_1 at h
  refine SemYN.succ ?_
  let p1 : Nat × AV := (11, .v (.int .i64 c2))
  let p2 : Nat × AV := (10, .v (.int .i64 (x0.length : Int)))
  let p3 : Nat × AV := (9, .sl 1 (x0.map (cdL 1 (cdL 1 cdI)).enc))
  refine SemY.sq he [(3, e3), p3, p2, p1, (12, .v (.bool (decide (c2 < (x0.length : Int)))))] ?_
  refine SemY.seq ?_
  refine SemY.cond (b := (decide (c2 < (x0.length : Int)))) kr (fun hb5 => ?_) (fun hb5 => ?_)
  ·rw [if_pos hb5] at h
   refine SemY.skip ?_
   refine SemY.seq ?_
   refine SemY.block ?_
   refine SemY.seq ?_
   refine SemY.regionL ?_
   obtain ⟨v6, hv6, h⟩ := Option.bind_eq_some_iff.1 h
   refine RunL.one he 0 rfl (op_q (wantedA_none rfl) rfl (q_indexAddr (a := .sl 1 (x0.map (cdL 1 (cdL 1 cdI)).enc)) (b := .v (.int .i64 c2)) kr kr (ix_sl (e := (cdL 1 (cdL 1 cdI)).enc) (el := 50) (k := 1) (ki := .i64) kr kr hv6))) ?_
   let p4 : Nat × AV := (5, .sl 1 (v6.map (cdL 1 cdI).enc))
   refine RunL.fin he [(3, e3), p4, p3, p2, p1] ?_
   refine SemY.sq he [(3, e3), p4, (6, .e0), p3, p2, p1] ?_
   refine SemY.seq ?_
   refine SemY.seq ?_
   refine SemY.regionL ?_
   refine RunL.sg he 1 ?_
   refine RunL.one he 0 rfl (op_q (wantedA_none rfl) rfl (q_len (a := .sl 1 (v6.map (cdL 1 cdI).enc)) kr (len_sl (el := 31) kr))) ?_
   refine RunL.fin he [(3, e3), (6, .e0), p3, p2, p1, (15, .sl 1 (v6.map (cdL 1 cdI).enc)), (16, .v (.int .i64 (v6.length : Int))), (17, .v (.int .i64 0))] ?_
   refine SemY.block ?_
   have hT7 := (T.e0 (k := 1) (ty := 31) (o := (ocL 1 3 (ocV cdI))) hT)
   have hT45 := (hT7.front 1 rfl)
   refine SemY.loop (n := 100000) ?_
   obtain ⟨r46, hr46, h⟩ := Option.bind_eq_some_iff.1 h
   refine SemYN.cutT (SemYN.wk (WkY.fr kr) (law09_Copy_d_2_ok v6 x0 c2 e3 c4 _ 0 ([] : (List (List Int))) _ hr46 .e0 hp hT45)) ?_
   rintro _ ⟨e47, hp48, hT49, rfl⟩
   refine SemY.regionL ?_
   refine RunL.sg he 2 ?_
   have hT54 := (hT49.front 1 rfl)
   have hl55 : evLen Tryd.prog 50 e47 = some (eI r46.length) := len_B hT54 kr
   obtain ⟨e53, hp50, hb51, hT52⟩ := lit_ownB (P := Tryd.prog) (bytes := 24) (k := 1) (t := 50) (ty := 22) (xs := ([r46] : List (List (List Int)))) (n := 1) fit_L (els_cons ((els_nil (o := (ocL 1 31 (ocL 1 3 (ocV cdI)))) hT54).front 1 rfl)) rfl kr kr kr
   refine RunL.one he 0 rfl (op_n (wantedA_none rfl) rfl kr (n_lit (xs := enumA 0 [e47]) kr hb51)) ?_
   by_cases hk60 : (capOk 24 (c4.length + ([r46] : List (List (List Int))).length)) = true
   case neg => rw [if_neg hk60] at h; cases h
   rw [if_pos hk60] at h
   have hT61 := ((hT52.front 0 rfl).front 1 rfl)
   obtain ⟨e59, hp56, hb57, hT58⟩ := app_ownB (P := Tryd.prog) (ty := 22) (ty2 := 22) (bytes := 24) hT61 kr kr hk60
   refine RunL.one he 0 rfl (op_w (wantedA_none rfl) rfl kr kr (w_append (a := e3) (b := e53) kr kr hb57)) ?_
   refine RunL.fin he [(3, e59), p3, p2, p1] ?_
   refine SemY.regionL ?_
   refine RunL.sg he 2 ?_
   refine RunL.done rfl ?_
   exact SemYN.wk (WkY.fr kr) (ih0 (wr .i64 (c2 + 1)) (c4 ++ ([r46] : List (List (List Int)))) _ h e59 hp56 hT58)
  ·rw [if_f hb5] at h
   refine SemY.exit ?_
   have hq := Option.some.inj h; subst hq
   exact ⟨rfl, _, ⟨e3, hp, hT, rfl⟩, (WkY.fr kr)⟩
set_option maxHeartbeats 4000000 in
set_option maxRecDepth 100000 in
theorem law09_Copy_d_sem {L : List Asn} {hp : Hp} (x0 : (List (List (List Int)))) (r : (List (List (List Int)))) (h : law09_Copy_d x0 = some r) (hT : T hp (L)) : SemY e_law09_Copy_d ⟨none, false⟩ cb_law09_Copy_d ⟨Fr 38 (pairs0 0 [.sl 1 (x0.map (cdL 1 (cdL 1 cdI)).enc)]), hp⟩ fun x s' => (x = .normal ∨ x = .ret) ∧ ∃ ys, resA e_law09_Copy_d.P s'.fr s'.hp Tryd.f14.results.toList = some ys ∧ (fun v h' => ∃ (z0 : AV), v = z0 ∧ T h' ((own_ (ocL 1 50 (ocL 1 31 (ocL 1 3 (ocV cdI)))) z0 r) :: L)) (retA ys) s'.hp := by
 have he := e_law09_Copy_d_ok
 unfold law09_Copy_d at h
 let p1 : Nat × AV := (0, .sl 1 (x0.map (cdL 1 (cdL 1 cdI)).enc))
 refine SemY.wkQ (SemY.wk (s1 := ⟨Fr 38 [p1], hp⟩) (WkY.fr kr) ?_)
 refine SemY.sq he [p1] ?_
 refine SemY.sq he [p1, (3, .e0)] ?_
 refine SemY.seq ?_
 refine SemY.seq ?_
 refine SemY.regionL ?_
 refine RunL.sg he 1 ?_
 refine RunL.one he 0 rfl (op_q (wantedA_none rfl) rfl (q_len (a := .sl 1 (x0.map (cdL 1 (cdL 1 cdI)).enc)) kr (len_sl (el := 50) kr))) ?_
 refine RunL.fin he [(3, .e0), (9, .sl 1 (x0.map (cdL 1 (cdL 1 cdI)).enc)), (10, .v (.int .i64 (x0.length : Int))), (11, .v (.int .i64 0))] ?_
 refine SemY.block ?_
 have hT1 := (T.e0 (k := 1) (ty := 50) (o := (ocL 1 31 (ocL 1 3 (ocV cdI)))) hT)
 refine SemY.loop (n := 100000) ?_
 obtain ⟨r64, hr64, h⟩ := Option.bind_eq_some_iff.1 h
 refine SemYN.cutT (SemYN.wk (WkY.fr kr) (law09_Copy_d_1_ok x0 _ 0 ([] : (List (List (List Int)))) _ hr64 .e0 hp hT1)) ?_
 rintro _ ⟨e65, hp66, hT67, rfl⟩
 refine SemY.sq he [(2, e65)] ?_
 refine SemY.ret ?_
 have hq := Option.some.inj h; subst hq
 exact ⟨⟨Fr 38 [(2, e65)], hp66⟩, (WkY.fr kr), .inr rfl, [e65], kr, ⟨e65, rfl, hT67⟩⟩
/- trestle/trestlelaw09.EveningBetter -/
noncomputable def e_law09_EveningBetter : Env := ((((((E0.withX 25 t_law09_Made).withX 26 t_evening_Polish).withX 27 t_evening_Check).withX 28 t_evening_Strain).withX 18 t_law09_Same).withX 13 t_law09_awake)
theorem e_law09_EveningBetter_ok : EnvOk e_law09_EveningBetter := (EnvOk.withX (EnvOk.withX (EnvOk.withX (EnvOk.withX (EnvOk.withX (EnvOk.withX E0_ok x_law09_Made.1 x_law09_Made.2) x_evening_Polish.1 x_evening_Polish.2) x_evening_Check.1 x_evening_Check.2) x_evening_Strain.1 x_evening_Strain.2) x_law09_Same.1 x_law09_Same.2) x_law09_awake.1 x_law09_awake.2)
noncomputable def cb_law09_EveningBetter : Code := codeOf Tryd.f7
def law09_EveningBetter_j5 (x4 : Int) (x5 : Int) (v1 : (List (List (List Int))) × (List Int) × Int) (c41 : Int) (c42 : (List Int)) (v44 : Int) : Option (((List Int))) :=
 if (v44 == ((wr .i64 x5).tmod v1.2.2)) = true then
 (idx c42 c41).bind fun _v54 =>
 some (c42.set c41.toNat ((wr .i64 x4).tmod v1.2.2))
 else
 some c42
def law09_EveningBetter_j4 (x4 : Int) (x5 : Int) (v1 : (List (List (List Int))) × (List Int) × Int) (c41 : Int) (c42 : (List Int)) (v44 : Int) : Option (((List Int))) :=
 if (v44 == ((wr .i64 x4).tmod v1.2.2)) = true then
 (idx c42 c41).bind fun _v47 =>
 some (c42.set c41.toNat ((wr .i64 x5).tmod v1.2.2))
 else
 (law09_EveningBetter_j5 x4 x5 v1 c41 c42 v44).bind fun r61 =>
 some r61
def law09_EveningBetter_3 (x4 : Int) (x5 : Int) (v1 : (List (List (List Int))) × (List Int) × Int) (c33 : Int) (c34 : (List (List Int))) (v36 : (List Int)) : Nat → Int → (List Int) → Option (((List (List Int))))
 | 0, _, _ => none
 | f + 1, c41, c42 =>
  if (decide (c41 < (v36.length : Int))) = true then
  (idx c42 c41).bind fun v44 =>
  (law09_EveningBetter_j4 x4 x5 v1 c41 c42 v44).bind fun r64 =>
  law09_EveningBetter_3 x4 x5 v1 c33 c34 v36 f (wr .i64 (c41 + 1)) r64
  else
  some (c34.set c33.toNat c42)
def law09_EveningBetter_2 (x3 : Int) (x4 : Int) (x5 : Int) (v1 : (List (List (List Int))) × (List Int) × Int) (v22 : (List (List (List Int)))) (v29 : (List (List Int))) : Nat → Int → (List (List Int)) → Option (((List (List (List Int)))))
 | 0, _, _ => none
 | f + 1, c33, c34 =>
  if (decide (c33 < (v29.length : Int))) = true then
  (idx c34 c33).bind fun v36 =>
  (law09_EveningBetter_3 x4 x5 v1 c33 c34 v36 100000 0 v36).bind fun r74 =>
  law09_EveningBetter_2 x3 x4 x5 v1 v22 v29 f (wr .i64 (c33 + 1)) r74
  else
  some (v22.set (((wr .i64 x3).tmod (v1.1.length : Int)).toNat) c34)
def law09_EveningBetter_j1 (x3 : Int) (x4 : Int) (x5 : Int) (v1 : (List (List (List Int))) × (List Int) × Int) (v2 : (List (List (List Int))) × Int × Int) (v10 : Int) (j17 : Bool) : Option ((Unit) ⊕ (Unit)) :=
 if j17 = true then
 (law09_Copy_d v2.1).bind fun v22 =>
 if v1.2.2 = (0 : Int) then none else
 if v1.2.2 = (0 : Int) then none else
 if (v1.1.length : Int) = (0 : Int) then none else
 (idx v22 ((wr .i64 x3).tmod (v1.1.length : Int))).bind fun v29 =>
 (law09_EveningBetter_2 x3 x4 x5 v1 v22 v29 100000 0 v29).bind fun r83 =>
 (evening_Strain v1.2.2 r83).bind fun v86 =>
 if (decide (v86 < v10)) = true then
 some (.inr ())
 else
 some (.inl ())
 else
 some (.inl ())
def law09_EveningBetter (x0 : (List Int)) (x1 : (List (List (Int × Int)))) (x2 : Int) (x3 : Int) (x4 : Int) (x5 : Int) : Option (Bool) :=
 (law09_Made x0 x1).bind fun v1 =>
 (evening_Polish v1.2.2 v1.1 (wr .i64 (x2.tmod 31))).bind fun v2 =>
 (evening_Check v1.2.2 v1.2.1 v2.1).bind fun v3 =>
 (if (v2.2.2 != 0) = true then some true else if (v3.1 != 0) = true then some true else if (v3.2 != 0) = true then some true else if ((v2.1.length : Int) != (v1.1.length : Int)) = true then some true else if (decide (v2.2.1 < 0)) = true then some true else some (decide (v2.2.1 > (wr .i64 (x2.tmod 31))))).bind fun j4 =>
 if j4 = true then
 some false
 else
 (evening_Strain v1.2.2 v1.1).bind fun v9 =>
 (evening_Strain v1.2.2 v2.1).bind fun v10 =>
 (if (decide (v10 > (wr .i64 (v9 - v2.2.1)))) = true then some true else if (v2.2.1 == 0) = true then (law09_Same v1.1 v2.1).bind fun v11 =>
 some (!v11) else some false).bind fun j12 =>
 if j12 = true then
 some false
 else
 (if (decide (v2.2.1 < (wr .i64 (x2.tmod 31)))) = true then some (decide ((v1.1.length : Int) > 0)) else some false).bind fun j17 =>
 (law09_EveningBetter_j1 x3 x4 x5 v1 v2 v10 j17).bind fun r90 =>
 match r90 with
 | (.inl _w91) =>
  law09_awake.bind fun v94 =>
  some v94
 | (.inr _w95) =>
  some false
set_option maxHeartbeats 4000000 in
set_option maxRecDepth 100000 in
theorem law09_EveningBetter_j5_ok {L : List Asn} {hp : Hp} (x4 : Int) (x5 : Int) (v1 : (List (List (List Int))) × (List Int) × Int) (c41 : Int) (c42 : (List Int)) (v44 : Int) (x3 : Int) (v10 : Int) (v22 : (List (List (List Int)))) (e23 : AV) (v29 : (List (List Int))) (e30 : AV) (c33 : Int) (c34 : (List (List Int))) (v36 : (List Int)) (e38 : AV) (r : ((List Int))) (h : law09_EveningBetter_j5 x4 x5 v1 c41 c42 v44 = some r) (hT : T hp ((own_ (ocL 1 3 (ocV cdI)) e38 c42) :: (hole 1 50 (ocL 1 31 (ocL 1 3 (ocV cdI))) e23 v22 (((wr .i64 x3).tmod (v1.1.length : Int)).toNat) e30 v29) :: (hole 1 31 (ocL 1 3 (ocV cdI)) e30 c34 c33.toNat e38 v36) :: L)) : SemY e_law09_EveningBetter ⟨none, false⟩ (pc cb_law09_EveningBetter [1, 1, 1, 1, 1, 1, 1, 0, 1, 0, 1, 1, 0, 1, 0, 0, 1, 1, 0, 0, 1, 1, 0, 0, 1, 1, 0, 0, 1, 1, 0, 1, 1, 1]) ⟨Fr 164 [(15, .v (.int .i64 v1.2.2)), (23, .v (.int .i64 v10)), (24, e23), (25, .v (.int .i64 ((wr .i64 x4).tmod v1.2.2))), (26, .v (.int .i64 ((wr .i64 x5).tmod v1.2.2))), (28, e38), (29, .v (.int .i64 c41)), (128, e30), (129, .v (.int .i64 (v29.length : Int))), (130, .v (.int .i64 c33)), (134, e38), (135, .v (.int .i64 (v36.length : Int))), (136, .v (.int .i64 c41)), (149, .v (.bool (v44 == ((wr .i64 x5).tmod v1.2.2))))], hp⟩ (fun e s => e = .normal ∧ ∃ s2, (∃ (h' : Hp), T h' ((hole 1 50 (ocL 1 31 (ocL 1 3 (ocV cdI))) e23 v22 (((wr .i64 x3).tmod (v1.1.length : Int)).toNat) e30 v29) :: (hole 1 31 (ocL 1 3 (ocV cdI)) e30 c34 c33.toNat e38 v36) :: (own_ (ocL 1 3 (ocV cdI)) e38 r) :: L) ∧ s2 = ⟨Fr 164 [(15, .v (.int .i64 v1.2.2)), (23, .v (.int .i64 v10)), (24, e23), (25, .v (.int .i64 ((wr .i64 x4).tmod v1.2.2))), (26, .v (.int .i64 ((wr .i64 x5).tmod v1.2.2))), (28, e38), (128, e30), (129, .v (.int .i64 (v29.length : Int))), (130, .v (.int .i64 c33)), (134, e38), (135, .v (.int .i64 (v36.length : Int))), (136, .v (.int .i64 c41))], h'⟩) ∧ WkY e_law09_EveningBetter s s2) := by
 have he := e_law09_EveningBetter_ok
 unfold law09_EveningBetter_j5 at h
 refine SemY.cond (b := (v44 == ((wr .i64 x5).tmod v1.2.2))) kr (fun hb53 => ?_) (fun hb53 => ?_)
 ·rw [if_pos hb53] at h
  refine SemY.regionL ?_
  refine RunL.sg he 3 ?_
  obtain ⟨v54, hv54, h⟩ := Option.bind_eq_some_iff.1 h
  refine RunL.one he 0 rfl (op_q (wantedA_none rfl) rfl (q_indexAddr (a := e38) (b := .v (.int .i64 c41)) kr kr (ix_B (bytes := 8) hT kr hv54))) ?_
  obtain ⟨hp55, hs56, hT57⟩ := st_own0 (P := Tryd.prog) (ty := 3) (y := .v (.int .i64 ((wr .i64 x4).tmod v1.2.2))) (v' := ((wr .i64 x4).tmod v1.2.2)) hT (idx_at hv54).2 kr kr kr
  refine RunL.store he (y := eAt e38 c41.toNat) (z := .v (.int .i64 ((wr .i64 x4).tmod v1.2.2))) rfl (wantedA_none rfl) kr kr hs56 ?_
  refine RunL.done rfl ?_
  have hq := Option.some.inj h; subst hq
  have hT59 := ((hT57.front 2 rfl).front 2 rfl)
  exact ⟨rfl, _, ⟨hp55, hT59, rfl⟩, (WkY.fr kr)⟩
 ·rw [if_f hb53] at h
  refine SemY.skip ?_
  have hq := Option.some.inj h; subst hq
  have hT60 := ((hT.front 2 rfl).front 2 rfl)
  exact ⟨rfl, _, ⟨hp, hT60, rfl⟩, (WkY.fr kr)⟩
set_option maxHeartbeats 4000000 in
set_option maxRecDepth 100000 in
theorem law09_EveningBetter_j4_ok {L : List Asn} {hp : Hp} (x4 : Int) (x5 : Int) (v1 : (List (List (List Int))) × (List Int) × Int) (c41 : Int) (c42 : (List Int)) (v44 : Int) (x3 : Int) (v10 : Int) (v22 : (List (List (List Int)))) (e23 : AV) (v29 : (List (List Int))) (e30 : AV) (c33 : Int) (c34 : (List (List Int))) (v36 : (List Int)) (e38 : AV) (r : ((List Int))) (h : law09_EveningBetter_j4 x4 x5 v1 c41 c42 v44 = some r) (hT : T hp ((own_ (ocL 1 3 (ocV cdI)) e38 c42) :: (hole 1 50 (ocL 1 31 (ocL 1 3 (ocV cdI))) e23 v22 (((wr .i64 x3).tmod (v1.1.length : Int)).toNat) e30 v29) :: (hole 1 31 (ocL 1 3 (ocV cdI)) e30 c34 c33.toNat e38 v36) :: L)) : SemY e_law09_EveningBetter ⟨none, false⟩ (pc cb_law09_EveningBetter [1, 1, 1, 1, 1, 1, 1, 0, 1, 0, 1, 1, 0, 1, 0, 0, 1, 1, 0, 0, 1, 1, 0, 0, 1, 1, 0, 0, 1, 1, 0, 1]) ⟨Fr 164 [(15, .v (.int .i64 v1.2.2)), (23, .v (.int .i64 v10)), (24, e23), (25, .v (.int .i64 ((wr .i64 x4).tmod v1.2.2))), (26, .v (.int .i64 ((wr .i64 x5).tmod v1.2.2))), (28, e38), (29, .v (.int .i64 c41)), (128, e30), (129, .v (.int .i64 (v29.length : Int))), (130, .v (.int .i64 c33)), (134, e38), (135, .v (.int .i64 (v36.length : Int))), (136, .v (.int .i64 c41)), (141, .v (.int .i64 v44)), (142, .v (.bool (v44 == ((wr .i64 x4).tmod v1.2.2))))], hp⟩ (fun e s => e = .normal ∧ ∃ s2, (∃ (h' : Hp), T h' ((hole 1 50 (ocL 1 31 (ocL 1 3 (ocV cdI))) e23 v22 (((wr .i64 x3).tmod (v1.1.length : Int)).toNat) e30 v29) :: (hole 1 31 (ocL 1 3 (ocV cdI)) e30 c34 c33.toNat e38 v36) :: (own_ (ocL 1 3 (ocV cdI)) e38 r) :: L) ∧ s2 = ⟨Fr 164 [(15, .v (.int .i64 v1.2.2)), (23, .v (.int .i64 v10)), (24, e23), (25, .v (.int .i64 ((wr .i64 x4).tmod v1.2.2))), (26, .v (.int .i64 ((wr .i64 x5).tmod v1.2.2))), (28, e38), (128, e30), (129, .v (.int .i64 (v29.length : Int))), (130, .v (.int .i64 c33)), (134, e38), (135, .v (.int .i64 (v36.length : Int))), (136, .v (.int .i64 c41))], h'⟩) ∧ WkY e_law09_EveningBetter s s2) := by
 have he := e_law09_EveningBetter_ok
 unfold law09_EveningBetter_j4 at h
 refine SemY.cond (b := (v44 == ((wr .i64 x4).tmod v1.2.2))) kr (fun hb46 => ?_) (fun hb46 => ?_)
 ·rw [if_pos hb46] at h
  refine SemY.regionL ?_
  refine RunL.sg he 3 ?_
  obtain ⟨v47, hv47, h⟩ := Option.bind_eq_some_iff.1 h
  refine RunL.one he 0 rfl (op_q (wantedA_none rfl) rfl (q_indexAddr (a := e38) (b := .v (.int .i64 c41)) kr kr (ix_B (bytes := 8) hT kr hv47))) ?_
  obtain ⟨hp48, hs49, hT50⟩ := st_own0 (P := Tryd.prog) (ty := 3) (y := .v (.int .i64 ((wr .i64 x5).tmod v1.2.2))) (v' := ((wr .i64 x5).tmod v1.2.2)) hT (idx_at hv47).2 kr kr kr
  refine RunL.store he (y := eAt e38 c41.toNat) (z := .v (.int .i64 ((wr .i64 x5).tmod v1.2.2))) rfl (wantedA_none rfl) kr kr hs49 ?_
  refine RunL.done rfl ?_
  have hq := Option.some.inj h; subst hq
  have hT52 := ((hT50.front 2 rfl).front 2 rfl)
  exact ⟨rfl, _, ⟨hp48, hT52, rfl⟩, (WkY.fr kr)⟩
 ·rw [if_f hb46] at h
  refine SemY.sq he [(15, .v (.int .i64 v1.2.2)), (23, .v (.int .i64 v10)), (24, e23), (25, .v (.int .i64 ((wr .i64 x4).tmod v1.2.2))), (26, .v (.int .i64 ((wr .i64 x5).tmod v1.2.2))), (28, e38), (29, .v (.int .i64 c41)), (128, e30), (129, .v (.int .i64 (v29.length : Int))), (130, .v (.int .i64 c33)), (134, e38), (135, .v (.int .i64 (v36.length : Int))), (136, .v (.int .i64 c41)), (149, .v (.bool (v44 == ((wr .i64 x5).tmod v1.2.2))))] ?_
  obtain ⟨r61, hr61, h⟩ := Option.bind_eq_some_iff.1 h
  refine SemY.cutT (law09_EveningBetter_j5_ok x4 x5 v1 c41 c42 v44 x3 v10 v22 e23 v29 e30 c33 c34 v36 e38 _ hr61 hT) ?_
  rintro _ ⟨hp62, hT63, rfl⟩
  have hq := Option.some.inj h; subst hq
  exact ⟨rfl, _, ⟨hp62, hT63, rfl⟩, (WkY.fr kr)⟩
set_option maxHeartbeats 4000000 in
set_option maxRecDepth 100000 in
theorem law09_EveningBetter_3_ok {L : List Asn} (x4 : Int) (x5 : Int) (v1 : (List (List (List Int))) × (List Int) × Int) (c33 : Int) (c34 : (List (List Int))) (v36 : (List Int)) (x3 : Int) (v10 : Int) (v22 : (List (List (List Int)))) (e23 : AV) (v29 : (List (List Int))) (e30 : AV) (e38 : AV) : ∀ (f : Nat) (c41 : Int) (c42 : (List Int)) (r : ((List (List Int)))), law09_EveningBetter_3 x4 x5 v1 c33 c34 v36 f c41 c42 = some r → ∀ (hp : Hp), T hp ((hole 1 50 (ocL 1 31 (ocL 1 3 (ocV cdI))) e23 v22 (((wr .i64 x3).tmod (v1.1.length : Int)).toNat) e30 v29) :: (hole 1 31 (ocL 1 3 (ocV cdI)) e30 c34 c33.toNat e38 v36) :: (own_ (ocL 1 3 (ocV cdI)) e38 c42) :: L) → SemYN e_law09_EveningBetter ⟨none, false⟩ (pc cb_law09_EveningBetter [1, 1, 1, 1, 1, 1, 1, 0, 1, 0, 1, 1, 0, 1, 0, 0, 1, 1, 0, 0, 1, 1, 0, 0]) f ⟨Fr 164 [(15, .v (.int .i64 v1.2.2)), (23, .v (.int .i64 v10)), (24, e23), (25, .v (.int .i64 ((wr .i64 x4).tmod v1.2.2))), (26, .v (.int .i64 ((wr .i64 x5).tmod v1.2.2))), (28, e38), (128, e30), (129, .v (.int .i64 (v29.length : Int))), (130, .v (.int .i64 c33)), (134, e38), (135, .v (.int .i64 (v36.length : Int))), (136, .v (.int .i64 c41))], hp⟩ (fun e s => e = (.exit 2) ∧ ∃ s2, (∃ (h' : Hp), T h' ((hole 1 50 (ocL 1 31 (ocL 1 3 (ocV cdI))) e23 v22 (((wr .i64 x3).tmod (v1.1.length : Int)).toNat) e30 v29) :: (own_ (ocL 1 31 (ocL 1 3 (ocV cdI))) e30 r) :: L) ∧ s2 = ⟨Fr 164 [(15, .v (.int .i64 v1.2.2)), (23, .v (.int .i64 v10)), (24, e23), (25, .v (.int .i64 ((wr .i64 x4).tmod v1.2.2))), (26, .v (.int .i64 ((wr .i64 x5).tmod v1.2.2))), (128, e30), (129, .v (.int .i64 (v29.length : Int))), (130, .v (.int .i64 c33))], h'⟩) ∧ WkY e_law09_EveningBetter s s2) := by
 have he := e_law09_EveningBetter_ok
 intro f
 induction f with
 | zero => intro c41 c42 r h; cases h
 | succ f ih0 =>
  intro c41 c42 r h  hp hT
  unfold law09_EveningBetter_3 at h
  refine SemYN.succ ?_
  let p1 : Nat × AV := (136, .v (.int .i64 c41))
  let p2 : Nat × AV := (135, .v (.int .i64 (v36.length : Int)))
  let p3 : Nat × AV := (130, .v (.int .i64 c33))
  let p4 : Nat × AV := (129, .v (.int .i64 (v29.length : Int)))
  let p5 : Nat × AV := (26, .v (.int .i64 ((wr .i64 x5).tmod v1.2.2)))
  let p6 : Nat × AV := (25, .v (.int .i64 ((wr .i64 x4).tmod v1.2.2)))
  let p7 : Nat × AV := (23, .v (.int .i64 v10))
  let p8 : Nat × AV := (15, .v (.int .i64 v1.2.2))
  refine SemY.sq he [p8, p7, (24, e23), p6, p5, (28, e38), (128, e30), p4, p3, (134, e38), p2, p1, (137, .v (.bool (decide (c41 < (v36.length : Int)))))] ?_
  refine SemY.seq ?_
  refine SemY.cond (b := (decide (c41 < (v36.length : Int)))) kr (fun hb43 => ?_) (fun hb43 => ?_)
  ·rw [if_pos hb43] at h
   refine SemY.skip ?_
   refine SemY.seq ?_
   refine SemY.block ?_
   refine SemY.seq ?_
   refine SemY.regionL ?_
   refine RunL.sg he 1 ?_
   obtain ⟨v44, hv44, h⟩ := Option.bind_eq_some_iff.1 h
   have hT45 := (hT.front 2 rfl)
   refine RunL.one he 0 rfl (op_q (wantedA_none rfl) rfl (q_indexAddr (a := e38) (b := .v (.int .i64 c41)) kr kr (ix_B (bytes := 8) hT45 kr hv44))) ?_
   refine RunL.one he 0 rfl (op_q (wantedA_none rfl) rfl (q_load (p := eAt e38 c41.toNat) kr (ld_own0 (y := .v (.int .i64 v44)) (m := 1) (g := false) hT45 (idx_at hv44).2 kr kr kr))) ?_
   let p9 : Nat × AV := (29, .v (.int .i64 c41))
   refine RunL.fin he [p8, p7, (24, e23), p6, p5, (28, e38), p9, (30, .v (.int .i64 v44)), (128, e30), p4, p3, (134, e38), p2, p1] ?_
   refine SemY.sq he [p8, p7, (24, e23), p6, p5, (28, e38), p9, (128, e30), p4, p3, (134, e38), p2, p1, (141, .v (.int .i64 v44))] ?_
   refine SemY.block ?_
   refine SemY.sq he [p8, p7, (24, e23), p6, p5, (28, e38), p9, (128, e30), p4, p3, (134, e38), p2, p1, (141, .v (.int .i64 v44)), (142, .v (.bool (v44 == ((wr .i64 x4).tmod v1.2.2))))] ?_
   obtain ⟨r64, hr64, h⟩ := Option.bind_eq_some_iff.1 h
   refine SemY.cutT (law09_EveningBetter_j4_ok x4 x5 v1 c41 c42 v44 x3 v10 v22 e23 v29 e30 c33 c34 v36 e38 _ hr64 hT45) ?_
   rintro _ ⟨hp65, hT66, rfl⟩
   refine SemY.regionL ?_
   refine RunL.sg he 2 ?_
   refine RunL.done rfl ?_
   exact SemYN.wk (WkY.fr kr) (ih0 (wr .i64 (c41 + 1)) r64 _ h  hp65 hT66)
  ·rw [if_f hb43] at h
   refine SemY.exit ?_
   have hq := Option.some.inj h; subst hq
   have hT70 := ((hT.front 1 rfl).front 2 rfl)
   have hT71 := (T.merge hT70)
   have hT72 := (hT71.front 1 rfl)
   exact ⟨rfl, _, ⟨hp, hT72, rfl⟩, (WkY.fr kr)⟩
set_option maxHeartbeats 4000000 in
set_option maxRecDepth 100000 in
theorem law09_EveningBetter_2_ok {L : List Asn} (x3 : Int) (x4 : Int) (x5 : Int) (v1 : (List (List (List Int))) × (List Int) × Int) (v22 : (List (List (List Int)))) (v29 : (List (List Int))) (v10 : Int) (e23 : AV) (e30 : AV) : ∀ (f : Nat) (c33 : Int) (c34 : (List (List Int))) (r : ((List (List (List Int))))), law09_EveningBetter_2 x3 x4 x5 v1 v22 v29 f c33 c34 = some r → ∀ (hp : Hp), T hp ((hole 1 50 (ocL 1 31 (ocL 1 3 (ocV cdI))) e23 v22 (((wr .i64 x3).tmod (v1.1.length : Int)).toNat) e30 v29) :: (own_ (ocL 1 31 (ocL 1 3 (ocV cdI))) e30 c34) :: L) → SemYN e_law09_EveningBetter ⟨none, false⟩ (pc cb_law09_EveningBetter [1, 1, 1, 1, 1, 1, 1, 0, 1, 0, 1, 1, 0, 1, 0, 0]) f ⟨Fr 164 [(15, .v (.int .i64 v1.2.2)), (23, .v (.int .i64 v10)), (24, e23), (25, .v (.int .i64 ((wr .i64 x4).tmod v1.2.2))), (26, .v (.int .i64 ((wr .i64 x5).tmod v1.2.2))), (128, e30), (129, .v (.int .i64 (v29.length : Int))), (130, .v (.int .i64 c33))], hp⟩ (fun e s => e = (.exit 0) ∧ ∃ s2, (∃ (h' : Hp), T h' ((own_ (ocL 1 50 (ocL 1 31 (ocL 1 3 (ocV cdI)))) e23 r) :: L) ∧ s2 = ⟨Fr 164 [(15, .v (.int .i64 v1.2.2)), (23, .v (.int .i64 v10)), (24, e23)], h'⟩) ∧ WkY e_law09_EveningBetter s s2) := by
 have he := e_law09_EveningBetter_ok
 intro f
 induction f with
 | zero => intro c33 c34 r h; cases h
 | succ f ih0 =>
  intro c33 c34 r h  hp hT
  unfold law09_EveningBetter_2 at h
  refine SemYN.succ ?_
  let p1 : Nat × AV := (130, .v (.int .i64 c33))
  let p2 : Nat × AV := (129, .v (.int .i64 (v29.length : Int)))
  let p3 : Nat × AV := (26, .v (.int .i64 ((wr .i64 x5).tmod v1.2.2)))
  let p4 : Nat × AV := (25, .v (.int .i64 ((wr .i64 x4).tmod v1.2.2)))
  let p5 : Nat × AV := (23, .v (.int .i64 v10))
  let p6 : Nat × AV := (15, .v (.int .i64 v1.2.2))
  refine SemY.sq he [p6, p5, (24, e23), p4, p3, (128, e30), p2, p1, (131, .v (.bool (decide (c33 < (v29.length : Int)))))] ?_
  refine SemY.seq ?_
  refine SemY.cond (b := (decide (c33 < (v29.length : Int)))) kr (fun hb35 => ?_) (fun hb35 => ?_)
  ·rw [if_pos hb35] at h
   refine SemY.skip ?_
   refine SemY.seq ?_
   refine SemY.block ?_
   refine SemY.seq ?_
   refine SemY.regionL ?_
   obtain ⟨v36, hv36, h⟩ := Option.bind_eq_some_iff.1 h
   have hT37 := (hT.front 1 rfl)
   refine RunL.one he 0 rfl (op_q (wantedA_none rfl) rfl (q_indexAddr (a := e30) (b := .v (.int .i64 c33)) kr kr (ix_B (bytes := 24) hT37 kr hv36))) ?_
   obtain ⟨e38, hl39, hT40⟩ := ld_child (P := Tryd.prog) (ty := 31) hT37 (idx_at hv36).2 kr kr
   refine RunL.one he 0 rfl (op_q (wantedA_none rfl) rfl (q_load (p := eAt e30 c33.toNat) kr hl39)) ?_
   refine RunL.fin he [p6, p5, (24, e23), p4, p3, (28, e38), (128, e30), p2, p1] ?_
   refine SemY.seq ?_
   refine SemY.regionL ?_
   refine RunL.sg he 1 ?_
   refine RunL.one he 0 rfl (op_q (wantedA_none rfl) rfl (q_len (a := e38) kr (len_B hT40 kr))) ?_
   refine RunL.fin he [p6, p5, (24, e23), p4, p3, (28, e38), (128, e30), p2, p1, (134, e38), (135, .v (.int .i64 (v36.length : Int))), (136, .v (.int .i64 0))] ?_
   refine SemY.block ?_
   have hT73 := ((hT40.front 1 rfl).front 2 rfl)
   refine SemY.loop (n := 100000) ?_
   obtain ⟨r74, hr74, h⟩ := Option.bind_eq_some_iff.1 h
   refine SemYN.cutT (SemYN.wk (WkY.fr kr) (law09_EveningBetter_3_ok x4 x5 v1 c33 c34 v36 x3 v10 v22 e23 v29 e30 e38 _ 0 v36 _ hr74  hp hT73)) ?_
   rintro _ ⟨hp75, hT76, rfl⟩
   refine SemY.regionL ?_
   refine RunL.sg he 2 ?_
   refine RunL.done rfl ?_
   exact SemYN.wk (WkY.fr kr) (ih0 (wr .i64 (c33 + 1)) r74 _ h  hp75 hT76)
  ·rw [if_f hb35] at h
   refine SemY.exit ?_
   have hq := Option.some.inj h; subst hq
   have hT80 := ((hT.front 0 rfl).front 1 rfl)
   have hT81 := (T.merge hT80)
   exact ⟨rfl, _, ⟨hp, hT81, rfl⟩, (WkY.fr kr)⟩
set_option maxHeartbeats 4000000 in
set_option maxRecDepth 100000 in
theorem law09_EveningBetter_j1_ok {L : List Asn} {hp : Hp} (x3 : Int) (x4 : Int) (x5 : Int) (v1 : (List (List (List Int))) × (List Int) × Int) (v2 : (List (List (List Int))) × Int × Int) (v10 : Int) (j17 : Bool) (r : (Unit) ⊕ (Unit)) (h : law09_EveningBetter_j1 x3 x4 x5 v1 v2 v10 j17 = some r) (hT : T hp (L)) : SemY e_law09_EveningBetter ⟨none, false⟩ (pc cb_law09_EveningBetter [1, 1, 1, 1, 1, 1, 1, 0, 1]) ⟨Fr 164 [(3, .v (.int .u8 x3)), (4, .v (.int .u8 x4)), (5, .v (.int .u8 x5)), (13, .sl 1 (v1.1.map (cdL 1 (cdL 1 cdI)).enc)), (15, .v (.int .i64 v1.2.2)), (17, .sl 1 (v2.1.map (cdL 1 (cdL 1 cdI)).enc)), (23, .v (.int .i64 v10)), (110, .v (.bool j17))], hp⟩ (fun e s => match r with
 | (.inl _) => e = .normal ∧ ∃ s2, (∃ (h' : Hp), T h' (L) ∧ s2 = ⟨Fr 164 [], h'⟩) ∧ WkY e_law09_EveningBetter s s2
 | (.inr _) => e = .ret ∧ ∃ s2, (∃ (h' : Hp), T h' (L) ∧ s2 = ⟨Fr 164 [(12, .v (.bool false))], h'⟩) ∧ WkY e_law09_EveningBetter s s2) := by
 have he := e_law09_EveningBetter_ok
 unfold law09_EveningBetter_j1 at h
 refine SemY.cond (b := j17) kr (fun hb21 => ?_) (fun hb21 => ?_)
 ·rw [if_pos hb21] at h
  refine SemY.seq ?_
  refine SemY.regionL ?_
  refine RunL.sg he 1 ?_
  obtain ⟨v22, hv22, h⟩ := Option.bind_eq_some_iff.1 h
  refine RunL.inlT (E := e_law09_EveningBetter) (e := e_law09_Copy_d) rfl rfl e_law09_Copy_d_ok rfl rfl (fid := 14) (caps := []) (xs := [.sl 1 (v2.1.map (cdL 1 (cdL 1 cdI)).enc)]) (fn := Tryd.f14) (c := cb_law09_Copy_d) (Out := fun v h' => ∃ (z0 : AV), v = z0 ∧ T h' ((own_ (ocL 1 50 (ocL 1 31 (ocL 1 3 (ocV cdI)))) z0 v22) :: L)) rfl (wantedA_none rfl) kr kr kr kr (by show 1 ≤ 38; decide) (law09_Copy_d_sem v2.1 _ hv22 hT) ?_
  rintro xx hp24 ⟨e23, hqhp24, hT25⟩; subst xx
  let p1 : Nat × AV := (23, .v (.int .i64 v10))
  let p2 : Nat × AV := (15, .v (.int .i64 v1.2.2))
  let p3 : Nat × AV := (13, .sl 1 (v1.1.map (cdL 1 (cdL 1 cdI)).enc))
  refine RunL.fin he [(3, .v (.int .u8 x3)), (4, .v (.int .u8 x4)), (5, .v (.int .u8 x5)), p3, p2, p1, (24, e23)] ?_
  refine SemY.seq ?_
  refine SemY.runDT 10 he.mixed kr kr ?_
  refine RunDT.q (x := .v (.int .u8 x4)) rfl kr rfl (wantedA_none rfl) rfl kr kr ?_
  refine RunDT.q (x := .v (.int .i64 (wr .i64 x4))) rfl kr rfl (wantedA_none rfl) rfl kr kr ?_
  refine RunDT.q (x := .v (.int .i64 v1.2.2)) rfl kr rfl (wantedA_none rfl) rfl kr kr ?_
  by_cases hz26 : v1.2.2 = (0 : Int)
  ·rw [if_pos hz26] at h; cases h
  rw [if_neg hz26] at h
  refine RunDT.q (x := .v (.int .i64 ((wr .i64 x4).tmod v1.2.2))) rfl kr rfl (wantedA_none rfl) rfl (q_bin (a := .v (.int .i64 (wr .i64 x4))) (b := .v (.int .i64 v1.2.2)) kr kr (bin_rem hz26)) kr ?_
  refine RunDT.q (x := .v (.int .u8 x5)) rfl kr rfl (wantedA_none rfl) rfl kr kr ?_
  refine RunDT.q (x := .v (.int .i64 (wr .i64 x5))) rfl kr rfl (wantedA_none rfl) rfl kr kr ?_
  refine RunDT.q (x := .v (.int .i64 v1.2.2)) rfl kr rfl (wantedA_none rfl) rfl kr kr ?_
  by_cases hz27 : v1.2.2 = (0 : Int)
  ·rw [if_pos hz27] at h; cases h
  rw [if_neg hz27] at h
  refine RunDT.q (x := .v (.int .i64 ((wr .i64 x5).tmod v1.2.2))) rfl kr rfl (wantedA_none rfl) rfl (q_bin (a := .v (.int .i64 (wr .i64 x5))) (b := .v (.int .i64 v1.2.2)) kr kr (bin_rem hz27)) kr ?_
  refine RunDT.q (x := .v (.int .i64 ((wr .i64 x4).tmod v1.2.2))) rfl kr rfl (wantedA_none rfl) rfl kr kr ?_
  refine RunDT.q (x := .v (.int .i64 ((wr .i64 x5).tmod v1.2.2))) rfl kr rfl (wantedA_none rfl) rfl kr kr ?_
  let p4 : Nat × AV := (26, .v (.int .i64 ((wr .i64 x5).tmod v1.2.2)))
  let p5 : Nat × AV := (25, .v (.int .i64 ((wr .i64 x4).tmod v1.2.2)))
  refine RunDT.done rfl (SemY.fr (l' := [(3, .v (.int .u8 x3)), p3, p2, p1, (24, e23), p5, p4]) kr ?_)
  refine SemY.seq ?_
  refine SemY.seq ?_
  refine SemY.regionL ?_
  refine RunL.sg he 4 ?_
  refine RunL.one he 0 rfl (op_q (wantedA_none rfl) rfl (q_len (a := .sl 1 (v1.1.map (cdL 1 (cdL 1 cdI)).enc)) kr (len_sl (el := 50) kr))) ?_
  by_cases hz28 : (v1.1.length : Int) = (0 : Int)
  ·rw [if_pos hz28] at h; cases h
  rw [if_neg hz28] at h
  refine RunL.one he 0 rfl (op_q (wantedA_none rfl) rfl (q_bin (a := .v (.int .i64 (wr .i64 x3))) (b := .v (.int .i64 (v1.1.length : Int))) kr kr (bin_rem hz28))) ?_
  obtain ⟨v29, hv29, h⟩ := Option.bind_eq_some_iff.1 h
  refine RunL.one he 0 rfl (op_q (wantedA_none rfl) rfl (q_indexAddr (a := e23) (b := .v (.int .i64 ((wr .i64 x3).tmod (v1.1.length : Int)))) kr kr (ix_B (bytes := 24) hT25 kr hv29))) ?_
  obtain ⟨e30, hl31, hT32⟩ := ld_child (P := Tryd.prog) (ty := 50) hT25 (idx_at hv29).2 kr kr
  refine RunL.one he 0 rfl (op_q (wantedA_none rfl) rfl (q_load (p := eAt e23 (((wr .i64 x3).tmod (v1.1.length : Int)).toNat)) kr hl31)) ?_
  refine RunL.one he 0 rfl (op_q (wantedA_none rfl) rfl (q_len (a := e30) kr (len_B hT32 kr))) ?_
  refine RunL.fin he [p2, p1, (24, e23), p5, p4, (128, e30), (129, .v (.int .i64 (v29.length : Int))), (130, .v (.int .i64 0))] ?_
  refine SemY.block ?_
  have hT82 := (hT32.front 1 rfl)
  refine SemY.loop (n := 100000) ?_
  obtain ⟨r83, hr83, h⟩ := Option.bind_eq_some_iff.1 h
  refine SemYN.cutT (SemYN.wk (WkY.fr kr) (law09_EveningBetter_2_ok x3 x4 x5 v1 v22 v29 v10 e23 e30 _ 0 v29 _ hr83  hp24 hT82)) ?_
  rintro _ ⟨hp84, hT85, rfl⟩
  refine SemY.seq ?_
  refine SemY.regionL ?_
  refine RunL.sg he 2 ?_
  obtain ⟨v86, hv86, h⟩ := Option.bind_eq_some_iff.1 h
  refine RunL.callD he (fid := 28) (b := v86) (s := cs_evening_Strain) (F := fun a => evening_Strain a.1 a.2.1) (er := er_evening_Strain) (xs := [.v (.int .i64 v1.2.2), e23]) (a := (v1.2.2, r83, ())) rfl (wantedA_none rfl) kr kr kr (SeesD.cons (SeeD.enc (c := cdI) (v := v1.2.2)) (SeesD.cons (SeeD.own hT85 (i := 0) rfl) SeesD.nil)) kr hv86 ?_
  refine RunL.fin he [(162, .v (.bool (decide (v86 < v10))))] ?_
  refine SemY.cond (b := (decide (v86 < v10))) kr (fun hb87 => ?_) (fun hb87 => ?_)
  ·rw [if_pos hb87] at h
   refine SemY.sq he [(12, .v (.bool false))] ?_
   refine SemY.ret ?_
   have hq := Option.some.inj h; subst hq
   have hT88 := hT85.drop
   exact ⟨rfl, _, ⟨hp84, hT88, rfl⟩, (WkY.fr kr)⟩
  ·rw [if_f hb87] at h
   refine SemY.skip ?_
   have hq := Option.some.inj h; subst hq
   have hT89 := hT85.drop
   exact ⟨rfl, _, ⟨hp84, hT89, rfl⟩, (WkY.fr kr)⟩
 ·rw [if_f hb21] at h
  refine SemY.skip ?_
  have hq := Option.some.inj h; subst hq
  exact ⟨rfl, _, ⟨hp, hT, rfl⟩, (WkY.fr kr)⟩
set_option maxHeartbeats 4000000 in
set_option maxRecDepth 100000 in
theorem law09_EveningBetter_sem {L : List Asn} {hp : Hp} (x0 : (List Int)) (x1 : (List (List (Int × Int)))) (x2 : Int) (x3 : Int) (x4 : Int) (x5 : Int) (r : Bool) (h : law09_EveningBetter x0 x1 x2 x3 x4 x5 = some r) (hT : T hp (L)) : SemY e_law09_EveningBetter ⟨none, false⟩ cb_law09_EveningBetter ⟨Fr 164 (pairs0 0 [.sl 1 (x0.map (cdK .u8).enc), .sl 1 (x1.map (cdL 2 (cdG2 (cdK .u8) (cdK .u8) (fun _ => rfl) (fun _ => rfl))).enc), .v (.int .u8 x2), .v (.int .u8 x3), .v (.int .u8 x4), .v (.int .u8 x5)]), hp⟩ fun x s' => (x = .normal ∨ x = .ret) ∧ ∃ ys, resA e_law09_EveningBetter.P s'.fr s'.hp Tryd.f7.results.toList = some ys ∧ (fun v h' => v = .v (.bool r) ∧ T h' (L)) (retA ys) s'.hp := by
 have he := e_law09_EveningBetter_ok
 unfold law09_EveningBetter at h
 let p1 : Nat × AV := (5, .v (.int .u8 x5))
 let p2 : Nat × AV := (4, .v (.int .u8 x4))
 let p3 : Nat × AV := (3, .v (.int .u8 x3))
 let p4 : Nat × AV := (2, .v (.int .u8 x2))
 let p5 : Nat × AV := (1, .sl 1 (x1.map (cdL 2 (cdG2 (cdK .u8) (cdK .u8) (fun _ => rfl) (fun _ => rfl))).enc))
 let p6 : Nat × AV := (0, .sl 1 (x0.map (cdK .u8).enc))
 refine SemY.wkQ (SemY.wk (s1 := ⟨Fr 164 [p6, p5, p4, p3, p2, p1], hp⟩) (WkY.fr kr) ?_)
 refine SemY.sq he [p6, p5, p4, p3, p2, p1] ?_
 refine SemY.seq ?_
 refine SemY.regionL ?_
 refine RunL.sg he 2 ?_
 obtain ⟨v1, hv1, h⟩ := Option.bind_eq_some_iff.1 h
 refine RunL.call he (fid := 25) (b := v1) (s := cs_law09_Made) (F := fun a => law09_Made a.1 a.2.1) (er := er_law09_Made) (xs := [.sl 1 (x0.map (cdK .u8).enc), .sl 1 (x1.map (cdL 2 (cdG2 (cdK .u8) (cdK .u8) (fun _ => rfl) (fun _ => rfl))).enc)]) (a := (x0, x1, ())) rfl (wantedA_none rfl) kr kr kr kr (Sns.cons (Sn.enc (c := (cdL 1 (cdK .u8))) (v := x0)) (Sns.cons (Sn.enc (c := (cdL 1 (cdL 2 (cdG2 (cdK .u8) (cdK .u8) (fun _ => rfl) (fun _ => rfl))))) (v := x1)) Sns.nil)) (.inl kr) hv1 ?_
 let p7 : Nat × AV := (15, .v (.int .i64 v1.2.2))
 let p8 : Nat × AV := (14, .sl 1 (v1.2.1.map cdI.enc))
 let p9 : Nat × AV := (13, .sl 1 (v1.1.map (cdL 1 (cdL 1 cdI)).enc))
 refine RunL.fin he [p4, p3, p2, p1, p9, p8, p7] ?_
 let p10 : Nat × AV := (16, .v (.int .i64 (wr .i64 (x2.tmod 31))))
 refine SemY.sq he [p3, p2, p1, p9, p8, p7, p10] ?_
 refine SemY.seq ?_
 refine SemY.regionL ?_
 refine RunL.sg he 3 ?_
 obtain ⟨v2, hv2, h⟩ := Option.bind_eq_some_iff.1 h
 refine RunL.call he (fid := 26) (b := v2) (s := cs_evening_Polish) (F := fun a => evening_Polish a.1 a.2.1 a.2.2.1) (er := er_evening_Polish) (xs := [.v (.int .i64 v1.2.2), .sl 1 (v1.1.map (cdL 1 (cdL 1 cdI)).enc), .v (.int .i64 (wr .i64 (x2.tmod 31)))]) (a := (v1.2.2, v1.1, (wr .i64 (x2.tmod 31)), ())) rfl (wantedA_none rfl) kr kr kr kr (Sns.cons (Sn.enc (c := cdI) (v := v1.2.2)) (Sns.cons (Sn.enc (c := (cdL 1 (cdL 1 (cdL 1 cdI)))) (v := v1.1)) (Sns.cons (Sn.enc (c := cdI) (v := (wr .i64 (x2.tmod 31)))) Sns.nil))) (.inl kr) (by dsimp only; exact hv2) ?_
 let p11 : Nat × AV := (18, .v (.int .i64 v2.2.1))
 let p12 : Nat × AV := (17, .sl 1 (v2.1.map (cdL 1 (cdL 1 cdI)).enc))
 refine RunL.fin he [p3, p2, p1, p9, p8, p7, p10, p12, p11, (19, .v (.int .i64 v2.2.2))] ?_
 refine SemY.seq ?_
 refine SemY.seq ?_
 refine SemY.regionL ?_
 refine RunL.sg he 3 ?_
 obtain ⟨v3, hv3, h⟩ := Option.bind_eq_some_iff.1 h
 refine RunL.call he (fid := 27) (b := v3) (s := cs_evening_Check) (F := fun a => evening_Check a.1 a.2.1 a.2.2.1) (er := er_evening_Check) (xs := [.v (.int .i64 v1.2.2), .sl 1 (v1.2.1.map cdI.enc), .sl 1 (v2.1.map (cdL 1 (cdL 1 cdI)).enc)]) (a := (v1.2.2, v1.2.1, v2.1, ())) rfl (wantedA_none rfl) kr kr kr kr (Sns.cons (Sn.enc (c := cdI) (v := v1.2.2)) (Sns.cons (Sn.enc (c := (cdL 1 cdI)) (v := v1.2.1)) (Sns.cons (Sn.enc (c := (cdL 1 (cdL 1 (cdL 1 cdI)))) (v := v2.1)) Sns.nil))) (.inl kr) hv3 ?_
 let p13 : Nat × AV := (21, .v (.int .i64 v3.2))
 refine RunL.fin he [p3, p2, p1, p9, p7, p10, p12, p11, (19, .v (.int .i64 v2.2.2)), (20, .v (.int .i64 v3.1)), p13] ?_
 refine SemY.seq ?_
 obtain ⟨j4, hj4, h⟩ := Option.bind_eq_some_iff.1 h
 refine SemY.regT (A := fun s1 => ∃ (h' : Hp), T h' (L) ∧ s1 = ⟨Fr 164 [p3, p2, p1, p9, p7, p10, p12, p11, (81, .v (.bool j4))], h'⟩) ?_ ?_
 ·refine RunL.segF (n := 164) he 3 [p3, p2, p1, p9, p7, p10, p12, p11, (20, .v (.int .i64 v3.1)), p13, (58, .v (.bool (v2.2.2 != 0)))] hp kr ?_
  rcases Bool.eq_false_or_eq_true (v2.2.2 != 0) with hc101 | hc101
  ·rw [if_pos hc101] at hj4
   rw [hc101]
   refine RunL.sg he 23 ?_
   have hq := Option.some.inj hj4; subst hq
   exact RunL.done rfl ⟨_, ⟨hp, hT, rfl⟩, (WkY.fr kr)⟩
  ·rw [if_f hc101] at hj4
   rw [hc101]
   refine RunL.segF (n := 164) he 4 [p3, p2, p1, p9, p7, p10, p12, p11, p13, (62, .v (.bool (v3.1 != 0)))] hp kr ?_
   rcases Bool.eq_false_or_eq_true (v3.1 != 0) with hc102 | hc102
   ·rw [if_pos hc102] at hj4
    rw [hc102]
    refine RunL.sg he 19 ?_
    have hq := Option.some.inj hj4; subst hq
    exact RunL.done rfl ⟨_, ⟨hp, hT, rfl⟩, (WkY.fr kr)⟩
   ·rw [if_f hc102] at hj4
    rw [hc102]
    refine RunL.segF (n := 164) he 4 [p3, p2, p1, p9, p7, p10, p12, p11, (66, .v (.bool (v3.2 != 0)))] hp kr ?_
    rcases Bool.eq_false_or_eq_true (v3.2 != 0) with hc103 | hc103
    ·rw [if_pos hc103] at hj4
     rw [hc103]
     refine RunL.sg he 15 ?_
     have hq := Option.some.inj hj4; subst hq
     exact RunL.done rfl ⟨_, ⟨hp, hT, rfl⟩, (WkY.fr kr)⟩
    ·rw [if_f hc103] at hj4
     rw [hc103]
     refine RunL.sg he 1 ?_
     refine RunL.one he 0 rfl (op_q kr rfl (q_len (a := .sl 1 (v2.1.map (cdL 1 (cdL 1 cdI)).enc)) kr (len_sl (el := 50) kr))) ?_
     refine RunL.sg he 1 ?_
     refine RunL.one he 0 rfl (op_q kr rfl (q_len (a := .sl 1 (v1.1.map (cdL 1 (cdL 1 cdI)).enc)) kr (len_sl (el := 50) kr))) ?_
     refine RunL.segF (n := 164) he 3 [p3, p2, p1, p9, p7, p10, p12, p11, (73, .v (.bool ((v2.1.length : Int) != (v1.1.length : Int))))] hp kr ?_
     rcases Bool.eq_false_or_eq_true ((v2.1.length : Int) != (v1.1.length : Int)) with hc104 | hc104
     ·rw [if_pos hc104] at hj4
      rw [hc104]
      refine RunL.sg he 8 ?_
      have hq := Option.some.inj hj4; subst hq
      exact RunL.done rfl ⟨_, ⟨hp, hT, rfl⟩, (WkY.fr kr)⟩
     ·rw [if_f hc104] at hj4
      rw [hc104]
      refine RunL.segF (n := 164) he 4 [p3, p2, p1, p9, p7, p10, p12, p11, (77, .v (.bool (decide (v2.2.1 < 0))))] hp kr ?_
      rcases Bool.eq_false_or_eq_true (decide (v2.2.1 < 0)) with hc105 | hc105
      ·rw [if_pos hc105] at hj4
       rw [hc105]
       refine RunL.sg he 4 ?_
       have hq := Option.some.inj hj4; subst hq
       exact RunL.done rfl ⟨_, ⟨hp, hT, rfl⟩, (WkY.fr kr)⟩
      ·rw [if_f hc105] at hj4
       rw [hc105]
       refine RunL.sg he 4 ?_
       have hq := Option.some.inj hj4; subst hq
       exact RunL.done rfl ⟨_, ⟨hp, hT, rfl⟩, (WkY.fr kr)⟩
 rintro _ ⟨hp6, hT7, rfl⟩
 refine SemY.cond (b := j4) kr (fun hb8 => ?_) (fun hb8 => ?_)
 ·rw [if_pos hb8] at h
  refine SemY.sq he [(12, .v (.bool false))] ?_
  refine SemY.ret ?_
  have hq := Option.some.inj h; subst hq
  exact ⟨⟨Fr 164 [(12, .v (.bool false))], hp6⟩, (WkY.fr kr), .inr rfl, [.v (.bool false)], kr, ⟨rfl, hT7⟩⟩
 ·rw [if_f hb8] at h
  refine SemY.skip ?_
  refine SemY.seq ?_
  refine SemY.regionL ?_
  refine RunL.sg he 2 ?_
  obtain ⟨v9, hv9, h⟩ := Option.bind_eq_some_iff.1 h
  refine RunL.call he (fid := 28) (b := v9) (s := cs_evening_Strain) (F := fun a => evening_Strain a.1 a.2.1) (er := er_evening_Strain) (xs := [.v (.int .i64 v1.2.2), .sl 1 (v1.1.map (cdL 1 (cdL 1 cdI)).enc)]) (a := (v1.2.2, v1.1, ())) rfl (wantedA_none rfl) kr kr kr kr (Sns.cons (Sn.enc (c := cdI) (v := v1.2.2)) (Sns.cons (Sn.enc (c := (cdL 1 (cdL 1 (cdL 1 cdI)))) (v := v1.1)) Sns.nil)) (.inl kr) hv9 ?_
  refine RunL.sg he 2 ?_
  obtain ⟨v10, hv10, h⟩ := Option.bind_eq_some_iff.1 h
  refine RunL.call he (fid := 28) (b := v10) (s := cs_evening_Strain) (F := fun a => evening_Strain a.1 a.2.1) (er := er_evening_Strain) (xs := [.v (.int .i64 v1.2.2), .sl 1 (v2.1.map (cdL 1 (cdL 1 cdI)).enc)]) (a := (v1.2.2, v2.1, ())) rfl (wantedA_none rfl) kr kr kr kr (Sns.cons (Sn.enc (c := cdI) (v := v1.2.2)) (Sns.cons (Sn.enc (c := (cdL 1 (cdL 1 (cdL 1 cdI)))) (v := v2.1)) Sns.nil)) (.inl kr) hv10 ?_
  let p14 : Nat × AV := (23, .v (.int .i64 v10))
  refine RunL.fin he [p3, p2, p1, p9, p7, p10, p12, p11, (22, .v (.int .i64 v9)), p14] ?_
  refine SemY.seq ?_
  refine SemY.seq ?_
  obtain ⟨j12, hj12, h⟩ := Option.bind_eq_some_iff.1 h
  refine SemY.regT (A := fun s1 => ∃ (h' : Hp), T h' (L) ∧ s1 = ⟨Fr 164 [p3, p2, p1, p9, p7, p10, p12, p11, p14, (102, .v (.bool j12))], h'⟩) ?_ ?_
  ·refine RunL.segF (n := 164) he 6 [p3, p2, p1, p9, p7, p10, p12, p11, p14, (93, .v (.bool (decide (v10 > (wr .i64 (v9 - v2.2.1))))))] hp6 kr ?_
   rcases Bool.eq_false_or_eq_true (decide (v10 > (wr .i64 (v9 - v2.2.1)))) with hc99 | hc99
   ·rw [if_pos hc99] at hj12
    rw [hc99]
    refine RunL.sg he 9 ?_
    have hq := Option.some.inj hj12; subst hq
    exact RunL.done rfl ⟨_, ⟨hp6, hT7, rfl⟩, (WkY.fr kr)⟩
   ·rw [if_f hc99] at hj12
    rw [hc99]
    refine RunL.segF (n := 164) he 3 [p3, p2, p1, p9, p7, p10, p12, p11, p14, (93, .v (.bool false)), (96, .v (.bool (v2.2.1 == 0)))] hp6 kr ?_
    rcases Bool.eq_false_or_eq_true (v2.2.1 == 0) with hc100 | hc100
    ·rw [if_pos hc100] at hj12
     rw [hc100]
     refine RunL.sg he 2 ?_
     obtain ⟨v11, hv11, hj12⟩ := Option.bind_eq_some_iff.1 hj12
     refine RunL.call he (fid := 18) (b := v11) (s := cs_law09_Same) (F := fun a => law09_Same a.1 a.2.1) (er := er_law09_Same) (xs := [.sl 1 (v1.1.map (cdL 1 (cdL 1 cdI)).enc), .sl 1 (v2.1.map (cdL 1 (cdL 1 cdI)).enc)]) (a := (v1.1, v2.1, ())) rfl kr kr kr kr kr (Sns.cons (Sn.enc (c := (cdL 1 (cdL 1 (cdL 1 cdI)))) (v := v1.1)) (Sns.cons (Sn.enc (c := (cdL 1 (cdL 1 (cdL 1 cdI)))) (v := v2.1)) Sns.nil)) (.inl kr) hv11 ?_
     refine RunL.sg he 3 ?_
     have hq := Option.some.inj hj12; subst hq
     exact RunL.done rfl ⟨_, ⟨hp6, hT7, rfl⟩, (WkY.fr kr)⟩
    ·rw [if_f hc100] at hj12
     rw [hc100]
     refine RunL.sg he 6 ?_
     have hq := Option.some.inj hj12; subst hq
     exact RunL.done rfl ⟨_, ⟨hp6, hT7, rfl⟩, (WkY.fr kr)⟩
  rintro _ ⟨hp14, hT15, rfl⟩
  refine SemY.cond (b := j12) kr (fun hb16 => ?_) (fun hb16 => ?_)
  ·rw [if_pos hb16] at h
   refine SemY.sq he [(12, .v (.bool false))] ?_
   refine SemY.ret ?_
   have hq := Option.some.inj h; subst hq
   exact ⟨⟨Fr 164 [(12, .v (.bool false))], hp14⟩, (WkY.fr kr), .inr rfl, [.v (.bool false)], kr, ⟨rfl, hT15⟩⟩
  ·rw [if_f hb16] at h
   refine SemY.skip ?_
   refine SemY.seq ?_
   refine SemY.seq ?_
   obtain ⟨j17, hj17, h⟩ := Option.bind_eq_some_iff.1 h
   refine SemY.regT (A := fun s1 => ∃ (h' : Hp), T h' (L) ∧ s1 = ⟨Fr 164 [p3, p2, p1, p9, p7, p12, p14, (110, .v (.bool j17))], h'⟩) ?_ ?_
   ·refine RunL.segF (n := 164) he 4 [p3, p2, p1, p9, p7, p12, p14, (106, .v (.bool (decide (v2.2.1 < (wr .i64 (x2.tmod 31))))))] hp14 kr ?_
    rcases Bool.eq_false_or_eq_true (decide (v2.2.1 < (wr .i64 (x2.tmod 31)))) with hc98 | hc98
    ·rw [if_pos hc98] at hj17
     rw [hc98]
     refine RunL.sg he 1 ?_
     refine RunL.one he 0 rfl (op_q kr rfl (q_len (a := .sl 1 (v1.1.map (cdL 1 (cdL 1 cdI)).enc)) kr (len_sl (el := 50) kr))) ?_
     refine RunL.sg he 2 ?_
     have hq := Option.some.inj hj17; subst hq
     exact RunL.done rfl ⟨_, ⟨hp14, hT15, rfl⟩, (WkY.fr kr)⟩
    ·rw [if_f hc98] at hj17
     rw [hc98]
     refine RunL.sg he 4 ?_
     have hq := Option.some.inj hj17; subst hq
     exact RunL.done rfl ⟨_, ⟨hp14, hT15, rfl⟩, (WkY.fr kr)⟩
   rintro _ ⟨hp19, hT20, rfl⟩
   obtain ⟨r90, hr90, h⟩ := Option.bind_eq_some_iff.1 h
   rcases r90 with w91 | w95
   ·try dsimp only at h
    refine SemY.cutT (law09_EveningBetter_j1_ok x3 x4 x5 v1 v2 v10 j17 _ hr90 hT20) ?_
    rintro _ ⟨hp92, hT93, rfl⟩
    refine SemY.seq ?_
    refine SemY.regionL ?_
    obtain ⟨v94, hv94, h⟩ := Option.bind_eq_some_iff.1 h
    refine RunL.call he (fid := 13) (b := v94) (s := cs_law09_awake) (F := fun a => law09_awake ) (er := er_law09_awake) (xs := []) (a := (())) rfl (wantedA_none rfl) kr kr kr kr Sns.nil (.inl kr) hv94 ?_
    refine RunL.fin he [(12, .v (.bool v94))] ?_
    refine SemY.ret ?_
    have hq := Option.some.inj h; subst hq
    exact ⟨⟨Fr 164 [(12, .v (.bool v94))], hp92⟩, (WkY.fr kr), .inr rfl, [.v (.bool v94)], kr, ⟨rfl, hT93⟩⟩
   ·try dsimp only at h
    refine SemY.cutT (law09_EveningBetter_j1_ok x3 x4 x5 v1 v2 v10 j17 _ hr90 hT20) ?_
    rintro _ ⟨hp96, hT97, rfl⟩
    have hq := Option.some.inj h; subst hq
    exact ⟨⟨Fr 164 [(12, .v (.bool false))], hp96⟩, (WkY.fr kr), .inr rfl, [.v (.bool false)], kr, ⟨rfl, hT97⟩⟩
def cs_law09_EveningBetter : Cs ((List Int) × (List (List (Int × Int))) × Int × Int × Int × Int × Unit) := (csC (cdL 1 (cdK .u8)) (csC (cdL 1 (cdL 2 (cdG2 (cdK .u8) (cdK .u8) (fun _ => rfl) (fun _ => rfl)))) (csC (cdK .u8) (csC (cdK .u8) (csC (cdK .u8) (csC (cdK .u8) csN))))))
def er_law09_EveningBetter (r : Bool) : AV := cdB.enc r
def t_law09_EveningBetter : List AV → Option AV := told cs_law09_EveningBetter (fun a => law09_EveningBetter a.1 a.2.1 a.2.2.1 a.2.2.2.1 a.2.2.2.2.1 a.2.2.2.2.2.1) er_law09_EveningBetter
theorem x_law09_EveningBetter : XOk 7 t_law09_EveningBetter := by
 refine EnvOk.x (E := e_law09_EveningBetter) (contract_ok e_law09_EveningBetter_ok (fn := Tryd.f7) (c := cb_law09_EveningBetter) ?h1 ?h2 ⟨Tryd.call7⟩ cs_law09_EveningBetter (fun a => law09_EveningBetter a.1 a.2.1 a.2.2.1 a.2.2.2.1 a.2.2.2.2.1 a.2.2.2.2.2.1) er_law09_EveningBetter (fun a => (by show 6 ≤ 164; decide)) ?h3 ?h4) rfl rfl
 case h1 => kernel_rfl
 case h2 => kernel_rfl
 case h3 => intro b; kernel_rfl
 case h4 =>
  intro a b h
  refine Sem.mono (Sem.ofY (law09_EveningBetter_sem (L := []) (hp := []) a.1 a.2.1 a.2.2.1 a.2.2.2.1 a.2.2.2.2.1 a.2.2.2.2.2.1 b h T.nil)) fun e s' hs => ?_
  obtain ⟨h1, ys, h2, h3, -⟩ := hs
  exact ⟨h1, ys, h2, h3⟩
def in64 (n : Int) : Prop := -9223372036854775808 ≤ n ∧ n ≤ 9223372036854775807
theorem wr_i {n : Int} (h1 : -9223372036854775808 ≤ n) (h2 : n ≤ 9223372036854775807) : wr .i64 n = n := by
 show (if _ then n else _) = n
 rw [if_pos ⟨h1, h2⟩]
theorem idx_app {α : Type} (pre : List α) (v : α) (r : List α) : idx (pre ++ v :: r) (pre.length : Int) = some v := by
 unfold idx
 rw [if_pos (by omega)]
 simp
theorem idx_lt {α : Type} {xs : List α} {i : Nat} (h : i < xs.length) : idx xs (i : Int) = some xs[i] := by
 unfold idx
 rw [if_pos (by omega)]
 simp [h]
theorem snoc_len {α : Type} (pre : List α) (v : α) : ((pre.length : Int) + 1) = ((pre ++ [v]).length : Int) := by simp
theorem snoc_app {α : Type} (pre : List α) (v : α) (r : List α) : pre ++ v :: r = (pre ++ [v]) ++ r := by simp
theorem wr_snoc {α : Type} (pre : List α) (v : α) (r : List α) (h : (pre ++ v :: r).length ≤ 1000000000) : wr .i64 ((pre.length : Int) + 1) = ((pre ++ [v]).length : Int) := by
 simp at h
 rw [wr_i (by omega) (by omega)]; simp
theorem lt_len {α : Type} (pre : List α) (v : α) (r : List α) : decide ((pre.length : Int) < ((pre ++ v :: r).length : Int)) = true := by
 simp; omega
theorem nlt_len {α : Type} (pre : List α) : decide ((pre.length : Int) < ((pre ++ []).length : Int)) = false := by simp
theorem capOk_le {b n : Nat} (hb : b ≤ 1000) (h : n ≤ 1000000000) : capOk b n = true := by
 have h1 : n * b ≤ 1000000000 * 1000 := Nat.mul_le_mul h hb
 unfold capOk
 rw [Bool.and_eq_true]
 exact ⟨Nat.ble_eq_true_of_le (by omega), Nat.ble_eq_true_of_le (by omega)⟩
theorem tdiv2 (n : Int) (h : 0 ≤ n) : n.tdiv 2 = n / 2 := Int.tdiv_eq_ediv_of_nonneg h
/- trestle/trestleref09.times -/
def ref09_times_j3 (x0 : (List (List Int))) (x1 : Int) (c2 : Int) (c4 : Int) (c5 : Int) (v9 : Int) : Option ((Int)) :=
 if (v9 == x1) = true then
 some (wr .i64 (c4 + 1))
 else
 some c4
def ref09_times_2 (x0 : (List (List Int))) (x1 : Int) (c2 : Int) : Nat → Int → Int → Option ((Int))
 | 0, _, _ => none
 | f + 1, c4, c5 =>
  (idx x0 c2).bind fun v6 =>
  if (decide (c5 < (v6.length : Int))) = true then
  (idx x0 c2).bind fun v8 =>
  (idx v8 c5).bind fun v9 =>
  (ref09_times_j3 x0 x1 c2 c4 c5 v9).bind fun r12 =>
  ref09_times_2 x0 x1 c2 f r12 (wr .i64 (c5 + 1))
  else
  some c4
def ref09_times_1 (x0 : (List (List Int))) (x1 : Int) : Nat → Int → Int → Option ((Int))
 | 0, _, _ => none
 | f + 1, c1, c2 =>
  if (decide (c2 < (x0.length : Int))) = true then
  (ref09_times_2 x0 x1 c2 100000 c1 0).bind fun r14 =>
  ref09_times_1 x0 x1 f r14 (wr .i64 (c2 + 1))
  else
  some c1
def ref09_times (x0 : (List (List Int))) (x1 : Int) : Option (Int) :=
 (ref09_times_1 x0 x1 100000 0 0).bind fun r16 =>
 some r16
/- trestle/trestleref09.CheckEvening -/
def ref09_CheckEvening_1 (x0 : Int) (x1 : (List Int)) (x2 : (List (List Int))) : Nat → Int → Option ((Unit) ⊕ (Int))
 | 0, _ => none
 | f + 1, c4 =>
  if (decide (c4 < (x2.length : Int))) = true then
  (idx x2 c4).bind fun v6 =>
  (if ((v6.length : Int) == 0) = true then some true else if (decide ((x1.length : Int) > 0)) = true then (idx x1 c4).bind fun v7 =>
  (idx x2 c4).bind fun v8 =>
  some (v7 != (v8.length : Int)) else some false).bind fun j10 =>
  if j10 = true then
  some (.inr 2)
  else
  ref09_CheckEvening_1 x0 x1 x2 f (wr .i64 (c4 + 1))
  else
  some (.inl ())
def ref09_CheckEvening_3 (x0 : Int) (x2 : (List (List Int))) (c17 : Int) : Nat → Int → Option ((Unit) ⊕ (Int))
 | 0, _ => none
 | f + 1, c19 =>
  (idx x2 c17).bind fun v20 =>
  if (decide (c19 < (v20.length : Int))) = true then
  (idx x2 c17).bind fun v22 =>
  (idx v22 c19).bind fun v23 =>
  (if (decide (v23 < 0)) = true then some true else (idx x2 c17).bind fun v24 =>
  (idx v24 c19).bind fun v25 =>
  some (decide (v25 ≥ x0))).bind fun j27 =>
  if j27 = true then
  some (.inr 6)
  else
  ref09_CheckEvening_3 x0 x2 c17 f (wr .i64 (c19 + 1))
  else
  some (.inl ())
def ref09_CheckEvening_2 (x0 : Int) (x2 : (List (List Int))) : Nat → Int → Option ((Unit) ⊕ (Int))
 | 0, _ => none
 | f + 1, c17 =>
  if (decide (c17 < (x2.length : Int))) = true then
  (ref09_CheckEvening_3 x0 x2 c17 100000 0).bind fun r31 =>
  match r31 with
  | (.inl w32) =>
   ref09_CheckEvening_2 x0 x2 f (wr .i64 (c17 + 1))
  | (.inr w33) =>
   some (.inr w33)
  else
  some (.inl ())
def ref09_CheckEvening_4 (x0 : Int) (x2 : (List (List Int))) : Nat → Int → Option ((Unit) ⊕ (Int))
 | 0, _ => none
 | f + 1, c37 =>
  if (decide (c37 < x0)) = true then
  (ref09_times x2 c37).bind fun v39 =>
  if (decide (v39 > 1)) = true then
  some (.inr 5)
  else
  ref09_CheckEvening_4 x0 x2 f (wr .i64 (c37 + 1))
  else
  some (.inl ())
def ref09_CheckEvening_5 (x0 : Int) (x2 : (List (List Int))) : Nat → Int → Option ((Unit) ⊕ (Int))
 | 0, _ => none
 | f + 1, c44 =>
  if (decide (c44 < x0)) = true then
  (ref09_times x2 c44).bind fun v46 =>
  if (v46 == 0) = true then
  some (.inr 2)
  else
  ref09_CheckEvening_5 x0 x2 f (wr .i64 (c44 + 1))
  else
  some (.inl ())
def ref09_CheckEvening (x0 : Int) (x1 : (List Int)) (x2 : (List (List Int))) : Option (Int) :=
 (if (decide ((x1.length : Int) > 0)) = true then some ((x1.length : Int) != (x2.length : Int)) else some false).bind fun j2 =>
 if j2 = true then
 some 2
 else
 (ref09_CheckEvening_1 x0 x1 x2 100000 0).bind fun r15 =>
 match r15 with
 | (.inl w16) =>
  (ref09_CheckEvening_2 x0 x2 100000 0).bind fun r35 =>
  match r35 with
  | (.inl w36) =>
   (ref09_CheckEvening_4 x0 x2 100000 0).bind fun r42 =>
   match r42 with
   | (.inl w43) =>
    (ref09_CheckEvening_5 x0 x2 100000 0).bind fun r49 =>
    match r49 with
    | (.inl w50) =>
     some 0
    | (.inr w51) =>
     some w51
   | (.inr w52) =>
    some w52
  | (.inr w53) =>
   some w53
 | (.inr w54) =>
  some w54
/- trestle/trestleref09.Fit -/
def ref09_Fit_1 (x0 : Int) (x1 : (List Int)) : Nat → Int → Int → Option ((Int) ⊕ (Bool))
 | 0, _, _ => none
 | f + 1, c1, c2 =>
  if (decide (c2 < (x1.length : Int))) = true then
  (idx x1 c2).bind fun v4 =>
  (if (decide (v4 < 1)) = true then some true else (idx x1 c2).bind fun v5 =>
  if (decide (v5 > 64)) = true then some true else some (decide (c1 > 64))).bind fun j7 =>
  if j7 = true then
  some (.inr false)
  else
  (idx x1 c2).bind fun v10 =>
  ref09_Fit_1 x0 x1 f (wr .i64 (c1 + v10)) (wr .i64 (c2 + 1))
  else
  some (.inl c1)
def ref09_Fit (x0 : Int) (x1 : (List Int)) : Option (Bool) :=
 (ref09_Fit_1 x0 x1 100000 0 0).bind fun r14 =>
 match r14 with
 | (.inl w15) =>
  (if (decide (x0 ≥ 1)) = true then if (decide (x0 ≤ 64)) = true then some (w15 == x0) else some false else some false).bind fun j17 =>
  some j17
 | (.inr w20) =>
  some w20
/- trestle/trestleref09.Check -/
def ref09_Check_1 (x0 : Int) (x1 : (List Int)) (x2 : (List (List (List Int)))) : Nat → Int → Option ((Unit) ⊕ (Int × Int))
 | 0, _ => none
 | f + 1, c6 =>
  if (decide (c6 < (x2.length : Int))) = true then
  (idx x2 c6).bind fun v8 =>
  (ref09_CheckEvening x0 x1 v8).bind fun v9 =>
  if (v9 != 0) = true then
  some (.inr (c6, v9))
  else
  ref09_Check_1 x0 x1 x2 f (wr .i64 (c6 + 1))
  else
  some (.inl ())
def ref09_Check (x0 : Int) (x1 : (List Int)) (x2 : (List (List (List Int)))) : Option (Int × Int) :=
 (if (decide (x0 < 1)) = true then some true else if (decide (x0 > 64)) = true then some true else if (decide ((x1.length : Int) > 0)) = true then (ref09_Fit x0 x1).bind fun v1 =>
 some (!v1) else some false).bind fun j3 =>
 if j3 = true then
 some (0, 90)
 else
 if (decide ((x2.length : Int) > 64)) = true then
 some (0, 7)
 else
 (ref09_Check_1 x0 x1 x2 100000 0).bind fun r13 =>
 match r13 with
 | (.inl w14) =>
  some (0, 0)
 | (.inr w15) =>
  some (w15.1, w15.2)
/- slices.Equal[[]int,int] -/
/- trestle/evening.met -/
def sumL : List Int → Int
 | [] => 0
 | v :: r => v + sumL r
/-- Do sizes fit? -/
def fitP (n : Int) (xs : List Int) : Bool := xs.all (fun v => decide (1 ≤ v)) && decide (sumL xs = n) && decide (1 ≤ n) && decide (n ≤ 64)
def fitL : Int → List Int → Int ⊕ Bool
 | c, [] => .inl c
 | c, v :: r => if v < 1 ∨ v > c then .inr false else fitL (c - v) r
theorem fit_1 (n : Int) (xs : List Int) (hxs : xs.length ≤ 1000) : ∀ (r pre : List Int) (c : Int) (f : Nat), xs = pre ++ r → r.length < f → -9223372036854775808 ≤ c → c ≤ 9223372036854775807 → evening_fit_1 n xs f c pre.length = some (fitL c r)
 | [], pre, c, f + 1, h, _, _, _ => by
  subst h
  unfold evening_fit_1
  rw [nlt_len]
  rfl
 | v :: r, pre, c, f + 1, h, hf, h1, h2 => by
  subst h
  unfold evening_fit_1
  rw [if_pos (lt_len pre v r), idx_app]
  simp only [Option.bind_some]
  rw [wr_snoc pre v r (by omega)]
  unfold fitL
  by_cases ha : v < 1
  ·simp [ha]
  ·by_cases hb : v > c
   ·simp [ha, hb]
   ·simp only [ha, hb, decide_false, Bool.false_eq_true, if_false, Option.bind_some, false_or]
    rw [wr_i (by omega) (by omega)]
    rw [snoc_app]
    exact fit_1 n _ (by rw [← snoc_app]; exact hxs) r (pre ++ [v]) (c - v) f rfl (by simp at hf; omega) (by omega) (by omega)
theorem fitL_eq : ∀ (xs : List Int) (c : Int), (∃ d, fitL c xs = .inl d ∧ d = c - sumL xs ∧ (xs.all fun v => decide (1 ≤ v)) = true ∧ (0 ≤ c → 0 ≤ d)) ∨ (fitL c xs = .inr false ∧ ((xs.all fun v => decide (1 ≤ v)) = true → c < sumL xs))
 | [], c => .inl ⟨c, rfl, by simp [sumL], rfl, fun h => h⟩
 | v :: r, c => by
  unfold fitL
  by_cases hv : v < 1 ∨ v > c
  ·rw [if_pos hv]
   refine .inr ⟨rfl, fun h => ?_⟩
   simp only [List.all_cons, Bool.and_eq_true, decide_eq_true_eq] at h
   have : ∀ (l : List Int), (l.all fun v => decide (1 ≤ v)) = true → 0 ≤ sumL l := by
    intro l
    induction l with
    | nil => intro _; simp [sumL]
    | cons a l ih => intro h; simp only [List.all_cons, Bool.and_eq_true, decide_eq_true_eq] at h; have := ih h.2; simp only [sumL]; omega
   have := this r h.2
   simp only [sumL]
   omega
  ·rw [if_neg hv]
   rcases fitL_eq r (c - v) with ⟨d, h1, h2, h3, h4⟩ | ⟨h1, h2⟩
   ·refine .inl ⟨d, h1, by simp only [sumL]; omega, ?_, fun h => h4 (by omega)⟩
    simp only [List.all_cons, Bool.and_eq_true, decide_eq_true_eq]
    exact ⟨by omega, h3⟩
   ·refine .inr ⟨h1, fun h => ?_⟩
    simp only [List.all_cons, Bool.and_eq_true, decide_eq_true_eq] at h
    have := h2 h.2
    simp only [sumL]
    omega
theorem evening_fit_eq (n : Int) (hn : in64 n) (xs : List Int) (hxs : xs.length ≤ 1000) : evening_fit n xs = some (fitP n xs) := by
  unfold evening_fit
  rw [show (0 : Int) = (([] : List Int).length : Int) from rfl, fit_1 n xs hxs xs [] n 100000 rfl (by omega) hn.1 hn.2]
  simp only [Option.bind_some]
  rcases fitL_eq xs n with ⟨d, h1, h2, h3, h4⟩ | ⟨h1, h2⟩
  · rw [h1]
    simp only [evening_guests]
    unfold fitP
    rw [h3]
    by_cases ha : 1 ≤ n
    · by_cases hb : n ≤ 64
      · have : (d == 0) = decide (sumL xs = n) := by
          by_cases hd : d = 0
          · rw [hd]; simp; omega
          · have : ¬ sumL xs = n := by omega
            simp [this, hd]
        simp [ha, hb, this]
      · simp [ha, hb]
    · simp [ha]
  · rw [h1]
    simp only
    unfold fitP
    cases hall : xs.all (fun v => decide (1 ≤ v)) with
    | false => simp
    | true => have := h2 hall; have : ¬ sumL xs = n := by omega
              simp [this]
def fitR : Int → List Int → Int ⊕ Bool
 | c, [] => .inl c
 | c, v :: r => if v < 1 ∨ v > 64 ∨ c > 64 then .inr false else fitR (c + v) r
theorem Fit_1 (n : Int) (xs : List Int) (hxs : xs.length ≤ 1000) : ∀ (r pre : List Int) (c : Int) (f : Nat), xs = pre ++ r → r.length < f → 0 ≤ c → ref09_Fit_1 n xs f c pre.length = some (fitR c r)
 | [], pre, c, f + 1, h, _, _ => by
  subst h
  unfold ref09_Fit_1
  rw [nlt_len]
  rfl
 | v :: r, pre, c, f + 1, h, hf, h1 => by
  subst h
  unfold ref09_Fit_1
  rw [if_pos (lt_len pre v r), idx_app]
  simp only [Option.bind_some]
  rw [wr_snoc pre v r (by omega)]
  unfold fitR
  by_cases ha : v < 1
  ·simp [ha]
  ·by_cases hb : v > 64
   ·simp [ha, hb]
   ·by_cases hc : c > 64
    ·simp [ha, hb, hc]
    ·simp only [ha, hb, hc, decide_false, Bool.false_eq_true, if_false, Option.bind_some, false_or]
     rw [wr_i (by omega) (by omega)]
     rw [snoc_app]
     exact Fit_1 n _ (by rw [← snoc_app]; exact hxs) r (pre ++ [v]) (c + v) f rfl (by simp at hf; omega) (by omega)
theorem sum_nn : ∀ (l : List Int), (l.all fun v => decide (1 ≤ v)) = true → 0 ≤ sumL l
 | [], _ => by simp [sumL]
 | a :: l, h => by
  simp only [List.all_cons, Bool.and_eq_true, decide_eq_true_eq] at h
  have := sum_nn l h.2
  simp only [sumL]; omega
theorem fitR_eq : ∀ (xs : List Int) (c : Int), 0 ≤ c → (∃ d, fitR c xs = .inl d ∧ d = c + sumL xs ∧ (xs.all fun v => decide (1 ≤ v)) = true) ∨ (fitR c xs = .inr false ∧ ((xs.all fun v => decide (1 ≤ v)) = true → 64 < c + sumL xs))
 | [], c, _ => .inl ⟨c, rfl, by simp [sumL], rfl⟩
 | v :: r, c, h0 => by
  unfold fitR
  by_cases hv : v < 1 ∨ v > 64 ∨ c > 64
  ·rw [if_pos hv]
   refine .inr ⟨rfl, fun h => ?_⟩
   simp only [List.all_cons, Bool.and_eq_true, decide_eq_true_eq] at h
   have := sum_nn r h.2
   simp only [sumL]
   omega
  ·rw [if_neg hv]
   rcases fitR_eq r (c + v) (by omega) with ⟨d, h1, h2, h3⟩ | ⟨h1, h2⟩
   ·refine .inl ⟨d, h1, by simp only [sumL]; omega, ?_⟩
    simp only [List.all_cons, Bool.and_eq_true, decide_eq_true_eq]
    exact ⟨by omega, h3⟩
   ·refine .inr ⟨h1, fun h => ?_⟩
    simp only [List.all_cons, Bool.and_eq_true, decide_eq_true_eq] at h
    have := h2 h.2
    simp only [sumL]
    omega
theorem ref09_Fit_eq (n : Int) (xs : List Int) (hxs : xs.length ≤ 1000) : ref09_Fit n xs = some (fitP n xs) := by
 unfold ref09_Fit
 have e0 := Fit_1 n xs hxs xs [] 0 100000 rfl (by omega) (by omega)
 rw [show ((([] : List Int).length : Nat) : Int) = 0 from rfl] at e0
 rw [e0]
 simp only [Option.bind_some]
 rcases fitR_eq xs 0 (by omega) with ⟨d, h1, h2, h3⟩ | ⟨h1, h2⟩
 ·rw [h1]
  unfold fitP
  rw [h3]
  by_cases ha : 1 ≤ n
  ·by_cases hb : n ≤ 64
   ·have : (d == n) = decide (sumL xs = n) := by
     by_cases hd : d = n
     ·rw [hd]; simp; omega
     ·have : ¬ sumL xs = n := by omega
      simp [this, hd]
    simp [ha, hb, this]
   ·simp [ha, hb]
  ·simp [ha]
 ·rw [h1]
  unfold fitP
  cases hall : xs.all (fun v => decide (1 ≤ v)) with
  | false => simp
  | true =>
   have := h2 hall
   by_cases hs : sumL xs = n
   ·have : ¬ n ≤ 64 := by omega
    simp [hs, this]
   ·simp [hs]
/-- How often a number sits on an evening. -/
theorem times_2 (ev : List (List Int)) (x c2 : Int) (t : List Int) (ht : idx ev c2 = some t) (hl : t.length ≤ 50000) : ∀ (r pre : List Int) (f : Nat) (c : Int), t = pre ++ r → r.length < f → 0 ≤ c → c + r.length ≤ 1000000 → ref09_times_2 ev x c2 f c pre.length = some (c + (r.count x : Int))
 | [], pre, f + 1, c, h, _, _, _ => by
  unfold ref09_times_2
  rw [ht]
  subst h
  simp only [Option.bind_some]
  rw [nlt_len]
  simp
 | v :: r, pre, f + 1, c, h, hf, h0, h1 => by
  unfold ref09_times_2
  rw [ht]
  simp only [List.length_cons] at h1
  by_cases hv : v = x
  ·have ih := times_2 ev x c2 t ht hl r (pre ++ [v]) f (c + 1) (by rw [h]; simp) (by simp at hf; omega) (by omega) (by omega)
   subst h hv
   simp only [Option.bind_some]
   rw [if_pos (lt_len pre v r), idx_app]
   simp only [Option.bind_some, ref09_times_j3, beq_self_eq_true, if_true]
   rw [wr_snoc pre v r (by omega), wr_i (by omega) (by omega), ih, List.count_cons_self]
   congr 1; omega
  ·have ih := times_2 ev x c2 t ht hl r (pre ++ [v]) f c (by rw [h]; simp) (by simp at hf; omega) (by omega) (by omega)
   have hb : (v == x) = false := by simpa using hv
   subst h
   simp only [Option.bind_some]
   rw [if_pos (lt_len pre v r), idx_app]
   simp only [Option.bind_some, ref09_times_j3, hb, Bool.false_eq_true, if_false]
   rw [wr_snoc pre v r (by omega), ih, List.count_cons_of_ne hv]
theorem len_mem {α : Type} : ∀ {ev : List (List α)} {t : List α}, t ∈ ev → t.length ≤ ev.flatten.length
 | a :: ev, t, h => by
  simp only [List.flatten_cons, List.length_append]
  rcases List.mem_cons.1 h with rfl | h
  ·omega
  ·have := len_mem h; omega
theorem times_eq (ev : List (List Int)) (x : Int) (hl : ev.length ≤ 50000) (hfl : ev.flatten.length ≤ 50000) : ref09_times ev x = some (ev.flatten.count x : Int) := by
 unfold ref09_times
 have hm : ∀ t ∈ ev, t.length ≤ 50000 := fun t ht => by
  have := len_mem ht; omega
 have key : ∀ (r pre : List (List Int)) (f : Nat) (c : Int), ev = pre ++ r → r.length < f → 0 ≤ c → c + r.flatten.length ≤ 50000 → ref09_times_1 ev x f c pre.length = some (c + (r.flatten.count x : Int)) := by
  intro r
  induction r with
  | nil =>
   intro pre f c h hf h0 h1
   obtain ⟨f, rfl⟩ : ∃ g, f = g + 1 := ⟨f - 1, by simp at hf; omega⟩
   subst h
   unfold ref09_times_1
   rw [nlt_len]
   simp
  | cons t r ih =>
   intro pre f c h hf h0 h1
   obtain ⟨f, rfl⟩ : ∃ g, f = g + 1 := ⟨f - 1, by simp at hf; omega⟩
   have ht := hm t (by rw [h]; simp)
   subst h
   unfold ref09_times_1
   rw [if_pos (lt_len pre t r)]
   simp only [List.flatten_cons, List.length_append] at h1
   have hc : (t.count x) ≤ t.length := List.count_le_length
   have h2 := times_2 (pre ++ t :: r) x pre.length t (idx_app pre t r) (by omega) t [] 100000 c rfl (by omega) h0 (by omega)
   rw [show ((([] : List Int).length : Nat) : Int) = 0 from rfl] at h2
   rw [h2]
   simp only [Option.bind_some]
   simp at hl
   rw [wr_snoc pre t r (by simp; omega), ih (pre ++ [t]) f _ (by simp) (by simp at hf; omega) (by omega) (by omega)]
   simp only [List.flatten_cons, List.count_append]
   congr 1; omega
 have := key ev [] 100000 0 rfl (by omega) (by omega) (by omega)
 rw [show ((([] : List (List Int)).length : Nat) : Int) = 0 from rfl, Int.zero_add] at this
 rw [this]
 rfl
/-- Is the shape of an evening wrong? -/
def sbad (sizes : List Int) : List (List Int) → Int → Bool
 | [], _ => false
 | t :: r, i => ((t.length : Int) == 0) || (decide ((sizes.length : Int) > 0) && (match idx sizes i with | some v => ((t.length : Int) != v) | none => false)) || sbad sizes r (i + 1)
abbrev CSt := Int × Bool × Bool × List Bool
def stepC (n : Int) (s : CSt) (v : Int) : CSt := if v < 0 ∨ v ≥ n then (s.1, s.2.1, true, s.2.2.2) else ((if (s.2.2.2)[v.toNat]?.getD false then s.1 else s.1 + 1), s.2.1 || (s.2.2.2)[v.toNat]?.getD false, s.2.2.1, s.2.2.2.set v.toNat true)
theorem stepC_len (n : Int) (s : CSt) (v : Int) : (stepC n s v).2.2.2.length = s.2.2.2.length := by
 unfold stepC; split <;> simp
theorem stepC_le (n : Int) (s : CSt) (v : Int) : (stepC n s v).1 ≤ s.1 + 1 ∧ s.1 ≤ (stepC n s v).1 := by
 unfold stepC; split
 ·show s.1 ≤ s.1 + 1 ∧ s.1 ≤ s.1; omega
 ·simp only; split <;> omega
theorem check_2 (n : Int) (sizes : List Int) (ev : List (List Int)) (c9 : Int) (hn0 : 0 ≤ n) : ∀ (r pre : List Int) (s : CSt) (f : Nat) (t : List Int), t = pre ++ r → t.length ≤ 50000 → r.length < f → s.2.2.2.length = n.toNat → 0 ≤ s.1 → s.1 ≤ 1000000 + (pre.length : Int) → evening_check_2 n sizes ev c9 t f s.1 s.2.1 s.2.2.1 s.2.2.2 pre.length = some (r.foldl (stepC n) s)
 | [], pre, s, f + 1, t, ht, _, _, _, _, _ => by
  subst ht
  unfold evening_check_2
  rw [nlt_len]
  rfl
 | v :: r, pre, s, f + 1, t, ht, hl, hf, hs, h0, h1 => by
  obtain ⟨m, tw, un, seen⟩ := s
  simp only at hs h0 h1 ⊢
  have ih := check_2 n sizes ev c9 hn0 r (pre ++ [v]) (stepC n (m, tw, un, seen) v) f t (by rw [ht]; simp) hl (by simp at hf; omega) (by rw [stepC_len]; exact hs) (by have := (stepC_le n (m, tw, un, seen) v).2; simp only at this; omega) (by have := (stepC_le n (m, tw, un, seen) v).1; simp only at this; simp; omega)
  subst ht
  unfold evening_check_2
  rw [if_pos (lt_len pre v r), idx_app]
  simp only [Option.bind_some]
  rw [wr_snoc pre v r (by omega)]
  rw [List.foldl_cons]
  by_cases hv : v < 0 ∨ v ≥ n
  ·have hst : stepC n (m, tw, un, seen) v = (m, tw, true, seen) := by unfold stepC; rw [if_pos hv]
   rw [hst] at ih ⊢
   by_cases hv0 : v < 0
   ·simp only [hv0, decide_true, if_true, Option.bind_some]
    exact ih
   ·have : v ≥ n := by omega
    simp only [hv0, this, decide_false, decide_true, Bool.false_eq_true, if_false, if_true, Option.bind_some]
    exact ih
  ·have hv0 : ¬ v < 0 := by omega
   have hv1 : ¬ v ≥ n := by omega
   have hlt : v.toNat < seen.length := by omega
   have hidx : idx seen v = some (seen[v.toNat]'hlt) := by
    unfold idx; rw [if_pos (by omega)]; exact List.getElem?_eq_getElem hlt
   have hg : seen[v.toNat]?.getD false = seen[v.toNat]'hlt := by rw [List.getElem?_eq_getElem hlt]; rfl
   have hst : stepC n (m, tw, un, seen) v = ((if (seen[v.toNat]'hlt) then m else m + 1), tw || (seen[v.toNat]'hlt), un, seen.set v.toNat true) := by
    unfold stepC; rw [if_neg hv]; simp only [hg]
   rw [hst] at ih ⊢
   have hm1 : wr .i64 (m + 1) = m + 1 := wr_i (by omega) (by simp at hl; omega)
   simp only [hv0, hv1, decide_false, Bool.false_eq_true, if_false, Option.bind_some, hidx, evening_check_j3]
   cases htw : tw <;> cases hse : seen[v.toNat]'hlt <;> simp only [htw, hse, Bool.false_eq_true, if_false, if_true, Option.bind_some, Bool.not_true, Bool.not_false, hidx, hm1, Bool.or_true, Bool.or_false] at ih ⊢ <;> exact ih
theorem shape_j (sizes : List Int) (_ev : List (List Int)) (t : List Int) (i : Nat) (hs : (sizes.length : Int) > 0 → i < sizes.length) {β : Type} (b : β) : (if ((t.length : Int) == 0) = true then some (b, true) else if (decide ((sizes.length : Int) > 0)) = true then (idx sizes i).bind fun v12 => some (b, ((t.length : Int) != v12)) else some (b, false)) = some (b, ((t.length : Int) == 0) || (decide ((sizes.length : Int) > 0) && (match idx sizes i with | some v => ((t.length : Int) != v) | none => false))) := by
 cases h1 : ((t.length : Int) == 0) with
 | true => simp
 | false =>
  by_cases h2 : (sizes.length : Int) > 0
  ·have := hs h2
   rw [idx_lt this]
   have h3 : 0 < sizes.length := by omega
   simp [h3]
  ·have h3 : ¬ 0 < sizes.length := by omega
   simp [h3]
theorem check_1 (n : Int) (sizes : List Int) (ev : List (List Int)) (hn0 : 0 ≤ n) (hl : ev.length ≤ 50000) (hsz : (sizes.length : Int) > 0 → sizes.length = ev.length) : ∀ (r pre : List (List Int)) (s : CSt) (f : Nat), ev = pre ++ r → r.length < f → s.2.2.2.length = n.toNat → 0 ≤ s.1 → s.1 + r.flatten.length ≤ 50000 → evening_check_1 n sizes ev f s.1 s.2.1 s.2.2.1 s.2.2.2 pre.length = some (if sbad sizes r pre.length then .inr 2 else let q := r.flatten.foldl (stepC n) s; .inl (q.1, q.2.1, q.2.2.1))
 | [], pre, s, f + 1, h, _, _, _, _ => by
  subst h
  unfold evening_check_1
  rw [nlt_len]
  rfl
 | t :: r, pre, s, f + 1, h, hf, hs, h0, h1 => by
  obtain ⟨m, tw, un, seen⟩ := s
  simp only at hs h0 h1 ⊢
  subst h
  unfold evening_check_1
  rw [if_pos (lt_len pre t r), idx_app]
  simp only [Option.bind_some]
  rw [shape_j sizes (pre ++ t :: r) t pre.length (fun h => by rw [hsz h]; simp)]
  simp only [Option.bind_some]
  simp only [List.flatten_cons, List.length_append] at h1
  cases hb : (((t.length : Int) == 0) || (decide ((sizes.length : Int) > 0) && (match idx sizes (pre.length : Int) with | some v => ((t.length : Int) != v) | none => false))) with
  | true =>
   simp only [sbad, hb, Bool.true_or, if_true]
  | false =>
   simp only [sbad, hb, Bool.false_or, Bool.false_eq_true, if_false]
   have h2 := check_2 n sizes (pre ++ t :: r) pre.length hn0 t [] (m, tw, un, seen) 100000 t rfl (by omega) (by omega) hs h0 (by simp; omega)
   rw [show ((([] : List Int).length : Nat) : Int) = 0 from rfl] at h2
   simp only at h2
   rw [h2]
   simp only [Option.bind_some]
   have hfold : ∀ (l : List Int) (s : CSt), (l.foldl (stepC n) s).2.2.2.length = s.2.2.2.length ∧ (l.foldl (stepC n) s).1 ≤ s.1 + l.length ∧ s.1 ≤ (l.foldl (stepC n) s).1 := by
    intro l
    induction l with
    | nil => intro s; simp
    | cons a l ih =>
     intro s
     obtain ⟨a1, a2, a3⟩ := ih (stepC n s a)
     have := stepC_le n s a
     rw [List.foldl_cons]
     refine ⟨a1.trans (stepC_len n s a), ?_, ?_⟩
     ·simp; omega
     ·omega
   obtain ⟨a1, a2, a3⟩ := hfold t (m, tw, un, seen)
   simp only at a1 a2 a3
   rw [wr_snoc pre t r (by omega), check_1 n sizes (pre ++ t :: r) hn0 hl hsz r (pre ++ [t]) (t.foldl (stepC n) (m, tw, un, seen)) f (by simp) (by simp at hf; omega) (by omega) (by omega) (by omega)]
   rw [← snoc_len]
   simp only [List.flatten_cons, List.foldl_append]
def badV (n v : Int) : Bool := decide (v < 0 ∨ v ≥ n)
theorem un_eq (n : Int) : ∀ (L : List Int) (s : CSt), (L.foldl (stepC n) s).2.2.1 = (s.2.2.1 || L.any (badV n))
 | [], s => by simp
 | v :: L, s => by
  rw [List.foldl_cons, un_eq n L, List.any_cons]
  by_cases hv : v < 0 ∨ v ≥ n
  ·have hb : badV n v = true := by simp only [badV, decide_eq_true_eq]; exact hv
   have hs : (stepC n s v).2.2.1 = true := by unfold stepC; rw [if_pos hv]
   rw [hb, hs]; simp
  ·have hb : badV n v = false := by simp only [badV, decide_eq_false_iff_not]; exact hv
   have hs : (stepC n s v).2.2.1 = s.2.2.1 := by unfold stepC; rw [if_neg hv]
   rw [hb, hs]; simp
structure InvC (N : Nat) (P : List Int) (s : CSt) : Prop where
 len : s.2.2.2.length = N
 seen : ∀ k, k < N → s.2.2.2[k]?.getD false = decide ((k : Int) ∈ P)
 tw : s.2.1 = true ↔ ∃ x, 2 ≤ P.count x
 many : s.1 = (s.2.2.2.count true : Int)
theorem count_set : ∀ (l : List Bool) (k : Nat), k < l.length → ((l.set k true).count true : Int) = l.count true + (if l[k]?.getD false then 0 else 1)
 | [], k, h => by simp at h
 | b :: l, 0, _ => by cases b <;> simp
 | b :: l, k + 1, h => by
  have := count_set l k (by simpa using h)
  simp only [List.set_cons_succ, List.getElem?_cons_succ]
  cases b
  ·simpa using this
  ·simp only [List.count_cons_self]; push_cast; omega
theorem InvC.step {n : Int} {P : List Int} {s : CSt} (i : InvC n.toNat P s) {v : Int} (h0 : 0 ≤ v) (h1 : v < n) : InvC n.toNat (P ++ [v]) (stepC n s v) := by
 obtain ⟨m, tw, un, seen⟩ := s
 obtain ⟨i1, i2, i3, i4⟩ := i
 simp only at i1 i2 i3 i4
 have hst : stepC n (m, tw, un, seen) v = ((if seen[v.toNat]?.getD false then m else m + 1), tw || seen[v.toNat]?.getD false, un, seen.set v.toNat true) := by
  unfold stepC; rw [if_neg (by omega)]
 have hlt : v.toNat < seen.length := by clear i3; omega
 have hv := i2 v.toNat (by clear i3; omega)
 have hvv : ((v.toNat : Nat) : Int) = v := by clear i3; omega
 rw [hvv] at hv
 rw [hst]
 refine ⟨by simpa using i1, fun k hk => ?_, ?_, ?_⟩
 ·simp only [List.getElem?_set]
  by_cases hkv : v.toNat = k
  ·subst hkv
   simp [hlt, hvv]
  ·rw [if_neg hkv, i2 k hk]
   have : ¬ (k : Int) = v := by clear i3; omega
   simp [this]
 ·simp only [Bool.or_eq_true, i3, hv, decide_eq_true_eq]
  clear i3 i4
  constructor
  ·rintro (⟨x, hx⟩ | hm)
   ·exact ⟨x, by rw [List.count_append]; omega⟩
   ·exact ⟨v, by rw [List.count_append]; have := List.count_pos_iff.2 hm; have e : [v].count v = 1 := (by simp); omega⟩
  ·rintro ⟨x, hx⟩
   rw [List.count_append] at hx
   by_cases hxv : v = x
   ·subst hxv
    have e : [v].count v = 1 := by simp
    rw [e] at hx
    exact .inr (List.count_pos_iff.1 (by omega))
   ·rw [List.count_cons_of_ne hxv] at hx
    exact .inl ⟨x, by simpa using hx⟩
 ·simp only
  rw [count_set seen v.toNat hlt, i4]
  split <;> simp
theorem inv_all {n : Int} : ∀ (L P : List Int) (s : CSt), InvC n.toNat P s → (∀ v ∈ L, 0 ≤ v ∧ v < n) → InvC n.toNat (P ++ L) (L.foldl (stepC n) s)
 | [], P, s, h, _ => by simpa using h
 | v :: L, P, s, h, hv => by
  obtain ⟨h0, h1⟩ := hv v (by simp)
  have := inv_all L (P ++ [v]) (stepC n s v) (h.step h0 h1) fun w hw => hv w (by simp [hw])
  simpa using this
theorem inv_0 (N : Nat) : InvC N [] (0, false, false, List.replicate N false) := by
 refine ⟨by simp, fun k hk => by simp [hk], by simp, ?_⟩
 simp [List.count_replicate]
theorem count_true_lt : ∀ (l : List Bool), l.count true ≤ l.length ∧ (l.count true < l.length ↔ ∃ k, k < l.length ∧ l[k]?.getD false = false)
 | [] => by simp
 | b :: l => by
  obtain ⟨h1, h2⟩ := count_true_lt l
  cases b with
  | false =>
   refine ⟨by simp; omega, ?_⟩
   simp only [List.count_cons_of_ne (show (false : Bool) ≠ true by decide), List.length_cons]
   exact ⟨fun _ => ⟨0, by omega, rfl⟩, fun _ => by omega⟩
  | true =>
   refine ⟨by simp; omega, ?_⟩
   simp only [List.count_cons_self, List.length_cons, Nat.add_lt_add_iff_right, h2]
   constructor
   ·rintro ⟨k, a, b⟩; exact ⟨k + 1, by omega, by simpa using b⟩
   ·rintro ⟨k, a, b⟩
    cases k with
    | zero => simp at b
    | succ k => exact ⟨k, by omega, by simpa using b⟩
/-- Some number of a stretch. -/
def anyN (p : Int → Bool) : Nat → Int → Bool
 | 0, _ => false
 | k + 1, i => p i || anyN p k (i + 1)
theorem anyN_iff (p : Int → Bool) : ∀ (k : Nat) (i : Int), anyN p k i = true ↔ ∃ x, i ≤ x ∧ x < i + k ∧ p x = true
 | 0, i => by simp [anyN]; intro x h1 h2; omega
 | k + 1, i => by
  simp only [anyN, Bool.or_eq_true, anyN_iff p k]
  constructor
  ·rintro (h | ⟨x, h1, h2, h3⟩)
   ·exact ⟨i, by omega, by omega, h⟩
   ·exact ⟨x, by omega, by omega, h3⟩
  ·rintro ⟨x, h1, h2, h3⟩
   by_cases hx : x = i
   ·subst hx; exact .inl h3
   ·exact .inr ⟨x, by omega, by omega, h3⟩
/-- What an evening's check answers. -/
def chk (n : Int) (sizes : List Int) (ev : List (List Int)) : Int :=
 if (decide ((sizes.length : Int) > 0) && ((sizes.length : Int) != (ev.length : Int))) = true then 2 else
 if sbad sizes ev 0 then 2 else
 if ev.flatten.any (badV n) then 6 else
 if anyN (fun x => decide ((ev.flatten.count x : Int) > 1)) n.toNat 0 then 5 else
 if anyN (fun x => ((ev.flatten.count x : Int) == 0)) n.toNat 0 then 2 else 0
theorem evening_check_eq (n : Int) (hn0 : 0 ≤ n) (hn : n ≤ 64) (sizes : List Int) (ev : List (List Int)) (hl : ev.length ≤ 50000) (hf : ev.flatten.length ≤ 50000) : evening_check n sizes ev = some (chk n sizes ev) := by
 unfold evening_check chk
 by_cases hs : (decide ((sizes.length : Int) > 0) && ((sizes.length : Int) != (ev.length : Int))) = true
 ·rw [if_pos hs]
  simp only [Bool.and_eq_true, decide_eq_true_eq] at hs
  rw [if_pos (by simpa using hs.1)]
  simp only [Option.bind_some, hs.2, if_true]
 ·rw [if_neg hs]
  have hsz : (sizes.length : Int) > 0 → sizes.length = ev.length := fun h => by
   simp only [Bool.and_eq_true, decide_eq_true_eq, not_and, Bool.not_eq_true, bne_eq_false_iff_eq] at hs
   have := hs h; omega
  have e1 : (if (decide ((sizes.length : Int) > 0)) = true then some ((sizes.length : Int) != (ev.length : Int)) else some false) = some false := by
   by_cases h : (sizes.length : Int) > 0
   ·have := hsz h; simp [this]
   ·have h' : ¬ 0 < sizes.length := by omega
    simp [h']
  rw [e1]
  simp only [Option.bind_some, Bool.false_eq_true, if_false]
  have hmk : mkOk 1 n = true := by
   simp only [mkOk, Bool.and_eq_true, decide_eq_true_eq]; omega
  rw [if_pos hmk]
  have h1 := check_1 n sizes ev hn0 hl hsz ev [] (0, false, false, List.replicate n.toNat false) 100000 rfl (by omega) (by simp) (by simp) (by simp only; omega)
  rw [show ((([] : List (List Int)).length : Nat) : Int) = 0 from rfl] at h1
  simp only at h1
  rw [h1]
  simp only [Option.bind_some]
  cases hb : sbad sizes ev 0 with
  | true => simp
  | false =>
   simp only [Bool.false_eq_true, if_false]
   rw [un_eq]
   simp only [Bool.false_or]
   cases hu : ev.flatten.any (badV n) with
   | true => simp
   | false =>
    simp only [Bool.false_eq_true, if_false]
    have hval : ∀ v ∈ ev.flatten, 0 ≤ v ∧ v < n := fun v hv => by
     have := List.any_eq_false.1 hu v hv
     simp only [badV, decide_eq_true_eq] at this
     omega
    obtain ⟨j1, j2, j3, j4⟩ := inv_all ev.flatten [] _ (inv_0 n.toNat) hval
    rw [List.nil_append] at j2 j3
    generalize ev.flatten.foldl (stepC n) (0, false, false, List.replicate n.toNat false) = q at *
    have t1 : q.2.1 = anyN (fun x => decide ((ev.flatten.count x : Int) > 1)) n.toNat 0 := by
     rw [Bool.eq_iff_iff, j3, anyN_iff]
     constructor
     ·rintro ⟨x, hx⟩
      have := hval x (List.count_pos_iff.1 (by omega))
      exact ⟨x, by omega, by omega, by simp; omega⟩
     ·rintro ⟨x, _, _, hx⟩
      simp at hx
      exact ⟨x, by omega⟩
    have t2 : decide (q.1 < n) = anyN (fun x => ((ev.flatten.count x : Int) == 0)) n.toNat 0 := by
     rw [Bool.eq_iff_iff, anyN_iff, decide_eq_true_eq, j4]
     have hc := count_true_lt q.2.2.2
     rw [j1] at hc
     constructor
     ·intro h
      obtain ⟨k, k1, k2⟩ := hc.2.1 (by omega)
      rw [j2 k k1] at k2
      have hm : ¬ (k : Int) ∈ ev.flatten := by simpa using k2
      exact ⟨k, by omega, by omega, by rw [List.count_eq_zero.2 hm]; rfl⟩
     ·rintro ⟨x, h1, h2, h3⟩
      have h3 : ev.flatten.count x = 0 := by simpa using h3
      have hm := List.count_eq_zero.1 h3
      have := hc.2.2 ⟨x.toNat, by omega, by rw [j2 _ (by omega), show ((x.toNat : Nat) : Int) = x by omega]; simpa using hm⟩
      omega
    rw [t1, t2]
    cases anyN (fun x => decide ((ev.flatten.count x : Int) > 1)) n.toNat 0 <;> cases anyN (fun x => ((ev.flatten.count x : Int) == 0)) n.toNat 0 <;> simp
theorem shape_r (sizes : List Int) (t : List Int) (i : Nat) (hs : (sizes.length : Int) > 0 → i < sizes.length) : (if ((t.length : Int) == 0) = true then some true else if (decide ((sizes.length : Int) > 0)) = true then (idx sizes i).bind fun v7 => some (v7 != (t.length : Int)) else some false) = some (((t.length : Int) == 0) || (decide ((sizes.length : Int) > 0) && (match idx sizes i with | some v => ((t.length : Int) != v) | none => false))) := by
 cases h1 : ((t.length : Int) == 0) with
 | true => simp
 | false =>
  by_cases h2 : (sizes.length : Int) > 0
  ·have := hs h2
   rw [idx_lt this]
   have h3 : 0 < sizes.length := by omega
   simp [h3, bne_comm]
  ·have h3 : ¬ 0 < sizes.length := by omega
   simp [h3]
theorem or_if {c : Int} (X Y : Bool) : (if X = true then some (Sum.inr c) else some (if Y = true then Sum.inr c else Sum.inl ())) = some (if (X || Y) = true then Sum.inr c else Sum.inl ()) := by
 cases X <;> simp
theorem rCheck_1 (n : Int) (sizes : List Int) (ev : List (List Int)) (hl : ev.length ≤ 50000) (hsz : (sizes.length : Int) > 0 → sizes.length = ev.length) : ∀ (r pre : List (List Int)) (f : Nat), ev = pre ++ r → r.length < f → ref09_CheckEvening_1 n sizes ev f pre.length = some (if sbad sizes r pre.length then .inr 2 else .inl ())
 | [], pre, f + 1, h, _ => by
  subst h
  unfold ref09_CheckEvening_1
  rw [nlt_len]
  rfl
 | t :: r, pre, f + 1, h, hf => by
  have ih := rCheck_1 n sizes ev hl hsz r (pre ++ [t]) f (by rw [h]; simp) (by simp at hf; omega)
  subst h
  unfold ref09_CheckEvening_1
  rw [if_pos (lt_len pre t r), idx_app]
  simp only [Option.bind_some]
  rw [wr_snoc pre t r (by omega), ih, ← snoc_len, shape_r sizes t pre.length (fun h => by rw [hsz h]; simp)]
  simp only [Option.bind_some, sbad]
  exact or_if _ _
theorem rCheck_3 (n : Int) (ev : List (List Int)) (c : Int) (t : List Int) (ht : idx ev c = some t) (hl : t.length ≤ 50000) : ∀ (r pre : List Int) (f : Nat), t = pre ++ r → r.length < f → ref09_CheckEvening_3 n ev c f pre.length = some (if r.any (badV n) then .inr 6 else .inl ())
 | [], pre, f + 1, h, _ => by
  unfold ref09_CheckEvening_3
  rw [ht]
  subst h
  simp only [Option.bind_some]
  rw [nlt_len]
  rfl
 | v :: r, pre, f + 1, h, hf => by
  have ih := rCheck_3 n ev c t ht hl r (pre ++ [v]) f (by rw [h]; simp) (by simp at hf; omega)
  unfold ref09_CheckEvening_3
  rw [ht]
  subst h
  simp only [Option.bind_some]
  rw [if_pos (lt_len pre v r), idx_app]
  simp only [Option.bind_some]
  rw [wr_snoc pre v r (by omega), ih]
  simp only [List.any_cons, badV]
  by_cases h1 : v < 0
  ·simp [h1]
  ·by_cases h2 : v ≥ n
   ·simp [h1, h2]
   ·simp [h1, h2]
theorem rCheck_2 (n : Int) (ev : List (List Int)) (hl : ev.length ≤ 50000) (hm : ∀ t ∈ ev, t.length ≤ 50000) : ∀ (r pre : List (List Int)) (f : Nat), ev = pre ++ r → r.length < f → ref09_CheckEvening_2 n ev f pre.length = some (if r.flatten.any (badV n) then .inr 6 else .inl ())
 | [], pre, f + 1, h, _ => by
  subst h
  unfold ref09_CheckEvening_2
  rw [nlt_len]
  rfl
 | t :: r, pre, f + 1, h, hf => by
  have ih := rCheck_2 n ev hl hm r (pre ++ [t]) f (by rw [h]; simp) (by simp at hf; omega)
  have ht := hm t (by rw [h]; simp)
  subst h
  unfold ref09_CheckEvening_2
  rw [if_pos (lt_len pre t r)]
  have h3 := rCheck_3 n (pre ++ t :: r) pre.length t (idx_app pre t r) ht t [] 100000 rfl (by omega)
  rw [show ((([] : List Int).length : Nat) : Int) = 0 from rfl] at h3
  rw [h3]
  simp only [Option.bind_some, List.flatten_cons, List.any_append]
  cases t.any (badV n) with
  | true => simp
  | false =>
   simp only [Bool.false_eq_true, if_false, Bool.false_or]
   rw [wr_snoc pre t r (by omega), ih]
theorem rCheck_45 (n : Int) (hn : n ≤ 64) (ev : List (List Int)) (hl : ev.length ≤ 50000) (hf : ev.flatten.length ≤ 50000) :
  (∀ (k : Nat) (i : Int) (f : Nat), (k : Int) = n - i → 0 ≤ i → k < f → ref09_CheckEvening_4 n ev f i = some (if anyN (fun x => decide ((ev.flatten.count x : Int) > 1)) k i then .inr 5 else .inl ())) ∧
  (∀ (k : Nat) (i : Int) (f : Nat), (k : Int) = n - i → 0 ≤ i → k < f → ref09_CheckEvening_5 n ev f i = some (if anyN (fun x => ((ev.flatten.count x : Int) == 0)) k i then .inr 2 else .inl ())) := by
 constructor
 ·intro k
  induction k with
  | zero =>
   intro i f hk hi hf'
   obtain ⟨f, rfl⟩ : ∃ g, f = g + 1 := ⟨f - 1, by omega⟩
   unfold ref09_CheckEvening_4
   rw [if_neg (by simp; omega)]
   rfl
  | succ k ih =>
   intro i f hk hi hf'
   obtain ⟨f, rfl⟩ : ∃ g, f = g + 1 := ⟨f - 1, by omega⟩
   unfold ref09_CheckEvening_4
   rw [if_pos (by simp; omega), times_eq ev i hl hf]
   simp only [Option.bind_some, anyN]
   rw [wr_i (by omega) (by omega), ih (i + 1) f (by omega) (by omega) (by omega)]
   exact or_if _ _
 ·intro k
  induction k with
  | zero =>
   intro i f hk hi hf'
   obtain ⟨f, rfl⟩ : ∃ g, f = g + 1 := ⟨f - 1, by omega⟩
   unfold ref09_CheckEvening_5
   rw [if_neg (by simp; omega)]
   rfl
  | succ k ih =>
   intro i f hk hi hf'
   obtain ⟨f, rfl⟩ : ∃ g, f = g + 1 := ⟨f - 1, by omega⟩
   unfold ref09_CheckEvening_5
   rw [if_pos (by simp; omega), times_eq ev i hl hf]
   simp only [Option.bind_some, anyN]
   rw [wr_i (by omega) (by omega), ih (i + 1) f (by omega) (by omega) (by omega)]
   exact or_if _ _
theorem ref09_CheckEvening_eq (n : Int) (hn0 : 0 ≤ n) (hn : n ≤ 64) (sizes : List Int) (ev : List (List Int)) (hl : ev.length ≤ 50000) (hf : ev.flatten.length ≤ 50000) : ref09_CheckEvening n sizes ev = some (chk n sizes ev) := by
 unfold ref09_CheckEvening chk
 by_cases hs : (decide ((sizes.length : Int) > 0) && ((sizes.length : Int) != (ev.length : Int))) = true
 ·rw [if_pos hs]
  simp only [Bool.and_eq_true, decide_eq_true_eq] at hs
  rw [if_pos (by simpa using hs.1)]
  simp only [Option.bind_some, hs.2, if_true]
 ·rw [if_neg hs]
  have hsz : (sizes.length : Int) > 0 → sizes.length = ev.length := fun h => by
   simp only [Bool.and_eq_true, decide_eq_true_eq, not_and, Bool.not_eq_true, bne_eq_false_iff_eq] at hs
   have := hs h; omega
  have e1 : (if (decide ((sizes.length : Int) > 0)) = true then some ((sizes.length : Int) != (ev.length : Int)) else some false) = some false := by
   by_cases h : (sizes.length : Int) > 0
   ·have := hsz h; simp [this]
   ·have h' : ¬ 0 < sizes.length := by omega
    simp [h']
  rw [e1]
  simp only [Option.bind_some, Bool.false_eq_true, if_false]
  have hm : ∀ t ∈ ev, t.length ≤ 50000 := fun t ht => by
   have := len_mem ht; omega
  have h1 := rCheck_1 n sizes ev hl hsz ev [] 100000 rfl (by omega)
  have h2 := rCheck_2 n ev hl hm ev [] 100000 rfl (by omega)
  rw [show ((([] : List (List Int)).length : Nat) : Int) = 0 from rfl] at h1 h2
  obtain ⟨h4, h5⟩ := rCheck_45 n hn ev hl hf
  have h4 := h4 n.toNat 0 100000 (by omega) (by omega) (by omega)
  have h5 := h5 n.toNat 0 100000 (by omega) (by omega) (by omega)
  rw [h1]
  simp only [Option.bind_some]
  cases sbad sizes ev 0 with
  | true => simp
  | false =>
   simp only [Bool.false_eq_true, if_false]
   rw [h2]
   simp only [Option.bind_some]
   cases ev.flatten.any (badV n) with
   | true => simp
   | false =>
    simp only [Bool.false_eq_true, if_false]
    rw [h4]
    simp only [Option.bind_some]
    cases anyN (fun x => decide ((ev.flatten.count x : Int) > 1)) n.toNat 0 with
    | true => simp
    | false =>
     simp only [Bool.false_eq_true, if_false]
     rw [h5]
     simp only [Option.bind_some]
     cases anyN (fun x => ((ev.flatten.count x : Int) == 0)) n.toNat 0 <;> simp
/-- The schedule's check, told by that of its evenings. -/
def chkS (n : Int) (sizes : List Int) : List (List (List Int)) → Int → Int × Int
 | [], _ => (0, 0)
 | ev :: r, i => if chk n sizes ev != 0 then (i, chk n sizes ev) else chkS n sizes r (i + 1)
def chkAll (n : Int) (sizes : List Int) (s : List (List (List Int))) : Int × Int :=
 if (decide (n < 1) || decide (n > 64) || (decide ((sizes.length : Int) > 0) && !fitP n sizes)) = true then (0, 90) else if s.length > 64 then (0, 7) else chkS n sizes s 0
theorem check_loop (n : Int) (hn0 : 0 ≤ n) (hn : n ≤ 64) (sizes : List Int) (s : List (List (List Int))) (hs : s.length ≤ 50000) (hl : ∀ ev ∈ s, ev.length ≤ 50000 ∧ ev.flatten.length ≤ 50000) : ∀ (r pre : List (List (List Int))) (f : Nat), s = pre ++ r → r.length < f →
  (∃ q, evening_Check_1 n sizes s f pre.length = some q ∧ ref09_Check_1 n sizes s f pre.length = some q ∧ (match q with | .inl _ => chkS n sizes r pre.length = (0, 0) | .inr w => chkS n sizes r pre.length = w))
 | [], pre, f + 1, h, _ => by
  subst h
  refine ⟨.inl (), ?_, ?_, rfl⟩
  ·unfold evening_Check_1; rw [nlt_len]; rfl
  ·unfold ref09_Check_1; rw [nlt_len]; rfl
 | ev :: r, pre, f + 1, h, hf => by
  obtain ⟨h1, h2⟩ := hl ev (by rw [h]; simp)
  obtain ⟨q, a1, a2, a3⟩ := check_loop n hn0 hn sizes s hs hl r (pre ++ [ev]) f (by rw [h]; simp) (by simp at hf; omega)
  have e1 := evening_check_eq n hn0 hn sizes ev h1 h2
  have e2 := ref09_CheckEvening_eq n hn0 hn sizes ev h1 h2
  rw [← snoc_len] at a3
  cases hc : (chk n sizes ev != 0) with
  | true =>
   refine ⟨.inr ((pre.length : Int), chk n sizes ev), ?_, ?_, by simp [chkS, hc]⟩
   ·subst h
    unfold evening_Check_1
    rw [if_pos (lt_len pre ev r), idx_app]
    simp only [Option.bind_some]
    rw [e1]
    simp only [Option.bind_some, hc, if_true]
   ·subst h
    unfold ref09_Check_1
    rw [if_pos (lt_len pre ev r), idx_app]
    simp only [Option.bind_some]
    rw [e2]
    simp only [Option.bind_some, hc, if_true]
  | false =>
   refine ⟨q, ?_, ?_, ?_⟩
   ·subst h
    unfold evening_Check_1
    rw [if_pos (lt_len pre ev r), idx_app]
    simp only [Option.bind_some]
    rw [e1]
    simp only [Option.bind_some, hc, Bool.false_eq_true, if_false]
    rw [wr_snoc pre ev r (by omega)]
    exact a1
   ·subst h
    unfold ref09_Check_1
    rw [if_pos (lt_len pre ev r), idx_app]
    simp only [Option.bind_some]
    rw [e2]
    simp only [Option.bind_some, hc, Bool.false_eq_true, if_false]
    rw [wr_snoc pre ev r (by omega)]
    exact a2
   ·simp only [chkS, hc, Bool.false_eq_true, if_false]
    exact a3
theorem check_both (n : Int) (hn : in64 n) (sizes : List Int) (hsz : sizes.length ≤ 1000) (s : List (List (List Int))) (hs : s.length ≤ 50000) (hl : ∀ ev ∈ s, ev.length ≤ 50000 ∧ ev.flatten.length ≤ 50000) : evening_Check n sizes s = some (chkAll n sizes s) ∧ ref09_Check n sizes s = some (chkAll n sizes s) := by
 have hg : evening_guests n = some (decide (1 ≤ n) && decide (n ≤ 64)) := by
  unfold evening_guests
  by_cases h : 1 ≤ n
  ·simp [h]
  ·simp [h]
 unfold evening_Check ref09_Check chkAll
 rw [hg, evening_fit_eq n hn sizes hsz, ref09_Fit_eq n sizes hsz]
 simp only [Option.bind_some]
 by_cases h1 : n < 1
 ·have h1' : ¬ 1 ≤ n := by omega
  simp [h1, h1']
 ·by_cases h2 : n > 64
  ·have h2' : ¬ n ≤ 64 := by omega
   simp [h1, h2, h2']
  ·have h1' : 1 ≤ n := by omega
   have h2' : n ≤ 64 := by omega
   simp only [h1, h2, h1', h2', decide_true, decide_false, Bool.and_self, Bool.not_true, Bool.false_eq_true, if_false, Bool.false_or]
   by_cases h3 : (sizes.length : Int) > 0
   ·cases hf : fitP n sizes with
    | false =>
     have h3' : 0 < sizes.length := by omega
     simp [h3']
    | true =>
     simp only [h3, decide_true, if_true, Bool.not_true, Option.bind_some, Bool.and_false, Bool.false_eq_true, if_false]
     by_cases h4 : s.length > 64
     ·have h4' : decide ((s.length : Int) > 64) = true := by simp; omega
      simp only [h4', h4, if_true, and_self]
     ·have h4' : decide ((s.length : Int) > 64) = false := by simp; omega
      simp only [h4', h4, if_false, Bool.false_eq_true]
      obtain ⟨q, a1, a2, a3⟩ := check_loop n (by omega) h2' sizes s hs hl s [] 100000 rfl (by omega)
      rw [show ((([] : List (List (List Int))).length : Nat) : Int) = 0 from rfl] at a1 a2 a3
      rw [a1, a2]
      cases q with
      | inl w => simp only at a3; simp [a3]
      | inr w => simp only at a3; simp [a3]
   ·simp only [h3, decide_false, Bool.false_eq_true, if_false, Option.bind_some, Bool.false_and]
    by_cases h4 : s.length > 64
    ·have h4' : decide ((s.length : Int) > 64) = true := by simp; omega
     simp only [h4', h4, if_true, and_self]
    ·have h4' : decide ((s.length : Int) > 64) = false := by simp; omega
     simp only [h4', h4, if_false, Bool.false_eq_true]
     obtain ⟨q, a1, a2, a3⟩ := check_loop n (by omega) h2' sizes s hs hl s [] 100000 rfl (by omega)
     rw [show ((([] : List (List (List Int))).length : Nat) : Int) = 0 from rfl] at a1 a2 a3
     rw [a1, a2]
     cases q with
     | inl w => simp only at a3; simp [a3]
     | inr w => simp only at a3; simp [a3]
/- trestle/trestlelaw09.Few -/
/- trestle/trestlelaw09.Copy -/
noncomputable def e_law09_Copy : Env := E0
noncomputable def cb_law09_Copy : Code := codeOf Tryd.f14
def law09_Copy_2 (x0 : (List (List (List Int)))) (c1 : (List (List (List Int)))) (c2 : Int) (v4 : (List (List Int))) : Nat → (List (List Int)) → Int → Option (((List (List Int))))
 | 0, _, _ => none
 | f + 1, c5, c6 =>
  if (decide (c6 < (v4.length : Int))) = true then
  (idx v4 c6).bind fun v8 =>
  if (capOk 8 v8.length) = true then
  if (capOk 8 (v8.length + 1)) = true then
  if (cutOk 0 (v8.length : Int) (v8 ++ [(-9)]).length) = true then
  if (capOk 24 (c5.length + 1)) = true then
  law09_Copy_2 x0 c1 c2 v4 f (c5 ++ [((v8 ++ [(-9)]).take ((v8.length : Int).toNat))]) (wr .i64 (c6 + 1))
  else none
  else none
  else none
  else none
  else
  some c5
def law09_Copy_1 (x0 : (List (List (List Int)))) : Nat → (List (List (List Int))) → Int → Option (((List (List (List Int)))))
 | 0, _, _ => none
 | f + 1, c1, c2 =>
  if (decide (c2 < (x0.length : Int))) = true then
  (idx x0 c2).bind fun v4 =>
  (law09_Copy_2 x0 c1 c2 v4 100000 [] 0).bind fun r17 =>
  if (capOk 24 (c1.length + 1)) = true then
  law09_Copy_1 x0 f (c1 ++ [r17]) (wr .i64 (c2 + 1))
  else none
  else
  some c1
def law09_Copy (x0 : (List (List (List Int)))) : Option ((List (List (List Int)))) :=
 (law09_Copy_1 x0 100000 [] 0).bind fun r20 =>
 some r20
theorem copy_2 (s c1 : List (List (List Int))) (c2 : Int) (ev : List (List Int)) (he : ev.length ≤ 50000) (hs : ∀ t ∈ ev, t.length ≤ 50000) : ∀ (r pre : List (List Int)) (f : Nat), ev = pre ++ r → r.length < f → law09_Copy_2 s c1 c2 ev f pre pre.length = some ev
 | [], pre, f + 1, h, _ => by
  subst h
  unfold law09_Copy_2
  rw [nlt_len]
  simp
 | t :: r, pre, f + 1, h, hf => by
  have ht := hs t (by rw [h]; simp)
  have ih := copy_2 s c1 c2 ev he hs r (pre ++ [t]) f (by rw [h]; simp) (by simp at hf; omega)
  subst h
  have hcut : cutOk 0 (t.length : Int) (t ++ [(-9 : Int)]).length = true := by
   simp only [cutOk, Bool.and_eq_true, decide_eq_true_eq, List.length_append, List.length_singleton]; omega
  simp only [List.length_append, List.length_cons] at he
  unfold law09_Copy_2
  rw [if_pos (lt_len pre t r), idx_app]
  simp only [Option.bind_some]
  rw [if_pos (capOk_le (by omega) (by omega)), if_pos (capOk_le (by omega) (by omega)), if_pos hcut, if_pos (capOk_le (by omega) (by omega)), wr_snoc pre t r (by simp; omega)]
  rw [show (t ++ [(-9 : Int)]).take ((t.length : Int)).toNat = t by simp]
  exact ih
theorem copy_1 (s : List (List (List Int))) (he : s.length ≤ 50000) (hs : ∀ ev ∈ s, ev.length ≤ 50000 ∧ ∀ t ∈ ev, t.length ≤ 50000) : ∀ (r pre : List (List (List Int))) (f : Nat), s = pre ++ r → r.length < f → law09_Copy_1 s f pre pre.length = some s
 | [], pre, f + 1, h, _ => by
  subst h
  unfold law09_Copy_1
  rw [nlt_len]
  simp
 | ev :: r, pre, f + 1, h, hf => by
  obtain ⟨h1, h2⟩ := hs ev (by rw [h]; simp)
  have ih := copy_1 s he hs r (pre ++ [ev]) f (by rw [h]; simp) (by simp at hf; omega)
  have h3 := copy_2 s pre pre.length ev h1 h2 ev [] 100000 rfl (by omega)
  rw [show ((([] : List (List Int)).length : Nat) : Int) = 0 from rfl] at h3
  subst h
  simp only [List.length_append, List.length_cons] at he
  unfold law09_Copy_1
  rw [if_pos (lt_len pre ev r), idx_app]
  simp only [Option.bind_some]
  rw [h3]
  simp only [Option.bind_some]
  rw [if_pos (capOk_le (by omega) (by omega)), wr_snoc pre ev r (by simp; omega)]
  exact ih
theorem copy_eq (s : List (List (List Int))) (he : s.length ≤ 50000) (hs : ∀ ev ∈ s, ev.length ≤ 50000 ∧ ∀ t ∈ ev, t.length ≤ 50000) : law09_Copy s = some s := by
 unfold law09_Copy
 have := copy_1 s he hs s [] 100000 rfl (by omega)
 rw [show ((([] : List (List (List Int))).length : Nat) : Int) = 0 from rfl] at this
 rw [this]; rfl
theorem sameInts_1 (xs : List Int) (hxs : xs.length ≤ 50000) : ∀ (r pre : List Int) (f : Nat), xs = pre ++ r → r.length < f → kit_SameInts_1 xs xs f pre.length = some (.inl ())
 | [], pre, f + 1, h, _ => by
  subst h
  unfold kit_SameInts_1
  rw [nlt_len]
  rfl
 | v :: r, pre, f + 1, h, hf => by
  have ih := sameInts_1 xs hxs r (pre ++ [v]) f (by rw [h]; simp) (by simp at hf; omega)
  subst h
  unfold kit_SameInts_1
  rw [if_pos (lt_len pre v r), idx_app]
  simp only [Option.bind_some]
  rw [wr_snoc pre v r (by omega)]
  simp only [bne_self_eq_false, Bool.false_eq_true, if_false]
  exact ih
theorem sameInts_self (xs : List Int) (hxs : xs.length ≤ 50000) : kit_SameInts xs xs = some true := by
 unfold kit_SameInts
 have := sameInts_1 xs hxs xs [] 100000 rfl (by omega)
 rw [show ((([] : List Int).length : Nat) : Int) = 0 from rfl] at this
 simp only [bne_self_eq_false, Bool.false_eq_true, if_false]
 rw [this]; rfl
theorem sameLists_1 (xs : List (List Int)) (hxs : xs.length ≤ 50000) (hs : ∀ t ∈ xs, t.length ≤ 50000) : ∀ (r pre : List (List Int)) (f : Nat), xs = pre ++ r → r.length < f → kit_SameLists_1 xs xs f pre.length = some (.inl ())
 | [], pre, f + 1, h, _ => by
  subst h
  unfold kit_SameLists_1
  rw [nlt_len]
  rfl
 | v :: r, pre, f + 1, h, hf => by
  have hv := hs v (by rw [h]; simp)
  have ih := sameLists_1 xs hxs hs r (pre ++ [v]) f (by rw [h]; simp) (by simp at hf; omega)
  subst h
  unfold kit_SameLists_1
  rw [if_pos (lt_len pre v r), idx_app]
  simp only [Option.bind_some]
  rw [sameInts_self v hv]
  simp only [Option.bind_some]
  rw [wr_snoc pre v r (by omega)]
  simp only [Bool.not_true, Bool.false_eq_true, if_false]
  exact ih
theorem sameLists_self (xs : List (List Int)) (hxs : xs.length ≤ 50000) (hs : ∀ t ∈ xs, t.length ≤ 50000) : kit_SameLists xs xs = some true := by
 unfold kit_SameLists
 have := sameLists_1 xs hxs hs xs [] 100000 rfl (by omega)
 rw [show ((([] : List (List Int)).length : Nat) : Int) = 0 from rfl] at this
 simp only [bne_self_eq_false, Bool.false_eq_true, if_false]
 rw [this]; rfl
theorem equalFunc_1 (xs : List (List (List Int))) (hxs : xs.length ≤ 50000) (hs : ∀ ev ∈ xs, ev.length ≤ 50000 ∧ ∀ t ∈ ev, t.length ≤ 50000) : ∀ (r pre : List (List (List Int))) (f : Nat), xs = pre ++ r → r.length < f → slices_EqualFunc_LLL_LLL_LL_LL__law09_Same_1_1 xs xs f pre.length = some (.inl ())
 | [], pre, f + 1, h, _ => by
  subst h
  unfold slices_EqualFunc_LLL_LLL_LL_LL__law09_Same_1_1
  rw [nlt_len]
  rfl
 | v :: r, pre, f + 1, h, hf => by
  obtain ⟨h1, h2⟩ := hs v (by rw [h]; simp)
  have ih := equalFunc_1 xs hxs hs r (pre ++ [v]) f (by rw [h]; simp) (by simp at hf; omega)
  subst h
  unfold slices_EqualFunc_LLL_LLL_LL_LL__law09_Same_1_1
  rw [if_pos (lt_len pre v r), idx_app]
  simp only [Option.bind_some, law09_Same_1]
  rw [sameLists_self v h1 h2]
  simp only [Option.bind_some]
  rw [wr_snoc pre v r (by omega)]
  simp only [Bool.not_true, Bool.false_eq_true, if_false]
  exact ih
theorem same_self (xs : List (List (List Int))) (hxs : xs.length ≤ 50000) (hs : ∀ ev ∈ xs, ev.length ≤ 50000 ∧ ∀ t ∈ ev, t.length ≤ 50000) : law09_Same xs xs = some true := by
 unfold law09_Same slices_EqualFunc_LLL_LLL_LL_LL__law09_Same_1
 have := equalFunc_1 xs hxs hs xs [] 100000 rfl (by omega)
 rw [show ((([] : List (List (List Int))).length : Nat) : Int) = 0 from rfl] at this
 simp only [bne_self_eq_false, Bool.false_eq_true, if_false]
 rw [this]; rfl
def inc (cs : List Int) (i : Nat) : List Int := cs.set i (cs.getD i 0 + 1)
def incs (cs : List Int) (L : List Nat) : List Int := L.foldl inc cs
theorem inc_len (cs : List Int) (i : Nat) : (inc cs i).length = cs.length := by simp [inc]
theorem incs_len : ∀ (L : List Nat) (cs : List Int), (incs cs L).length = cs.length
 | [], _ => rfl
 | i :: L, cs => (incs_len L (inc cs i)).trans (inc_len cs i)
theorem incs_app (cs : List Int) (L L' : List Nat) : incs cs (L ++ L') = incs (incs cs L) L' := List.foldl_append
theorem incs_cons (cs : List Int) (i : Nat) (L : List Nat) : incs cs (i :: L) = incs (inc cs i) L := rfl
theorem inc_get (cs : List Int) (i j : Nat) (h : j < cs.length) : (inc cs i).getD j 0 = cs.getD j 0 + (if i = j then 1 else 0) := by
 unfold inc
 by_cases e : i = j
 ·subst e
  simp [List.getD_eq_getElem?_getD, h]
 ·simp [List.getD_eq_getElem?_getD, e]
theorem incs_get : ∀ (L : List Nat) (cs : List Int) (j : Nat), j < cs.length → (incs cs L).getD j 0 = cs.getD j 0 + (L.count j : Nat)
 | [], cs, j, _ => by simp [incs]
 | i :: L, cs, j, h => by
  rw [incs_cons, incs_get L (inc cs i) j (by rw [inc_len]; exact h), inc_get cs i j h, List.count_cons]
  by_cases e : i = j
  ·simp [e]; omega
  ·simp [e]
def zeros (n : Nat) : List Int := List.replicate n 0
theorem zeros_get (n j : Nat) : (zeros n).getD j 0 = 0 := by
 simp only [zeros, List.getD_eq_getElem?_getD, List.getElem?_replicate]
 split <;> rfl
theorem cnt_get (L : List Nat) (n j : Nat) (h : j < n) : (incs (zeros n) L).getD j 0 = (L.count j : Nat) := by
 rw [incs_get L (zeros n) j (by simpa [zeros] using h), zeros_get]; simp
/-- A bit of a number. -/
def tb (m i : Nat) : Bool := Nat.beq (Nat.mod (Nat.shiftRight m i) 2) 1
/-- The numbers of a list as bits; none if one stands there twice. -/
def bits : List Nat → Nat → Option Nat
 | [], m => some m
 | i :: L, m => bif tb m i then none else bits L (Nat.lor m (Nat.shiftLeft 1 i))
theorem cell_eq {n x y k l : Nat} (h1 : y < n) (h2 : l < n) (h : x * n + y = k * n + l) : x = k ∧ y = l := by
 have hn : 0 < n := by omega
 have e1 : (x * n + y) / n = x := by rw [Nat.mul_comm, Nat.mul_add_div hn, Nat.div_eq_of_lt h1]; rfl
 have e2 : (k * n + l) / n = k := by rw [Nat.mul_comm, Nat.mul_add_div hn, Nat.div_eq_of_lt h2]; rfl
 have : x = k := by rw [← e1, h, e2]
 subst this
 exact ⟨rfl, by omega⟩
theorem cell_lt {n x y : Nat} (h1 : x < n) (h2 : y < n) : x * n + y < n * n := by
 have : x * n + n ≤ n * n := by rw [← Nat.succ_mul]; exact Nat.mul_le_mul_right n h1
 omega
def toI1 (t : List Nat) : List Int := t.map Int.ofNat
def toI2 (ev : List (List Nat)) : List (List Int) := ev.map toI1
def toI3 (s : List (List (List Nat))) : List (List (List Int)) := s.map toI2
theorem toI1_len (t : List Nat) : (toI1 t).length = t.length := by simp [toI1]
theorem toI2_len (t : List (List Nat)) : (toI2 t).length = t.length := by simp [toI2]
theorem toI3_len (t : List (List (List Nat))) : (toI3 t).length = t.length := by simp [toI3]
theorem toI2_flat : ∀ (ev : List (List Nat)), (toI2 ev).flatten = toI1 ev.flatten
 | [] => rfl
 | t :: ev => by
  show toI1 t ++ (toI2 ev).flatten = toI1 (t ++ ev.flatten)
  rw [toI2_flat ev]; simp [toI1]
theorem toI1_count (L : List Nat) (x : Nat) : (toI1 L).count (x : Int) = L.count x := by
 induction L with
 | nil => rfl
 | cons v L ih =>
  show (Int.ofNat v :: toI1 L).count (x : Int) = _
  rw [List.count_cons, List.count_cons, ih]
  congr 1
  by_cases h : v = x
  ·subst h; simp
  ·have : ¬ (Int.ofNat v) = (x : Int) := fun e => h (Int.ofNat.inj e)
   simp [h]
   omega
theorem sbad_ok : ∀ (r : List (List Int)) (pre : List Int) (sz : List Int), (sz = [] ∨ sz = pre ++ r.map (fun t => (t.length : Int))) → (∀ t ∈ r, t.length ≠ 0) → sbad sz r pre.length = false
 | [], _, _, _, _ => rfl
 | t :: r, pre, sz, h, hne => by
  have h0 : ((t.length : Int) == 0) = false := by have := hne t (by simp); simp; intro h; subst h; simp at this
  have ih := sbad_ok r (pre ++ [(t.length : Int)]) sz (h.imp id fun h => by rw [h]; simp) (fun t ht => hne t (by simp [ht]))
  unfold sbad
  rw [h0, Bool.false_or]
  rw [← snoc_len] at ih
  rw [ih, Bool.or_false]
  rcases h with h | h
  ·subst h; simp
  ·rw [h, List.map_cons, idx_app]; simp
theorem mem_toI1 {L : List Nat} {v : Int} (h : v ∈ toI1 L) : ∃ j ∈ L, v = Int.ofNat j := by
 obtain ⟨j, h1, h2⟩ := List.mem_map.1 h
 exact ⟨j, h1, h2.symm⟩
theorem anyN_false (p : Int → Bool) (k : Nat) (h : ∀ x : Nat, x < k → p x = false) : anyN p k 0 = false := by
 cases e : anyN p k 0 with
 | false => rfl
 | true =>
  obtain ⟨x, h1, h2, h3⟩ := (anyN_iff p k 0).1 e
  have := h x.toNat (by omega)
  rw [show ((x.toNat : Nat) : Int) = x by omega, h3] at this
  cases this
theorem chkS_ok (n : Int) (sz : List Int) : ∀ (s : List (List (List Int))) (i : Int), (∀ ev ∈ s, chk n sz ev = 0) → chkS n sz s i = (0, 0)
 | [], _, _ => rfl
 | ev :: s, i, h => by
  unfold chkS
  rw [h ev (by simp)]
  exact chkS_ok n sz s (i + 1) fun e he => h e (by simp [he])
/- (trestle/evening.square[int]).rows -/
/-- The cells after some counts. -/
def celM (n : Nat) (L : List Nat) : List Int := incs (zeros (n * n)) L
theorem celM_len (n : Nat) (L : List Nat) : (celM n L).length = n * n := by rw [celM, incs_len]; simp [zeros]
theorem celM_wr {n x y : Nat} (hn : n ≤ 64) (hx : x < n) (hy : y < n) : wr .i64 (wr .i64 ((x : Int) * (n : Int)) + (y : Int)) = ((x * n + y : Nat) : Int) := by
 have h1 := cell_lt hx hy
 have h2 : n * n ≤ 64 * 64 := Nat.mul_le_mul hn hn
 have e : (x : Int) * (n : Int) = ((x * n : Nat) : Int) := by simp
 have q : wr .i64 ((x * n : Nat) : Int) = ((x * n : Nat) : Int) := wr_i (by omega) (by omega)
 rw [e, q, wr_i (by omega) (by omega)]
 simp
theorem celM_idx {n x y : Nat} (L : List Nat) (hx : x < n) (hy : y < n) : idx (celM n L) ((x * n + y : Nat) : Int) = some ((L.count (x * n + y) : Nat) : Int) := by
 have h1 := cell_lt hx hy
 have h2 : x * n + y < (celM n L).length := by rw [celM_len]; exact h1
 rw [idx_lt h2]
 have := cnt_get L (n * n) (x * n + y) h1
 rw [← this, List.getD_eq_getElem?_getD]
 show some _ = some ((celM n L)[x * n + y]?.getD 0)
 rw [List.getElem?_eq_getElem h2]
 rfl
theorem celM_set {n x y : Nat} (L : List Nat) (hL : L.length ≤ 10000000) (hx : x < n) (hy : y < n) : (celM n L).set (((x * n + y : Nat) : Int)).toNat (wr .i64 (((L.count (x * n + y) : Nat) : Int) + 1)) = celM n (L ++ [x * n + y]) := by
 have h1 := cell_lt hx hy
 have hc : L.count (x * n + y) ≤ L.length := List.count_le_length
 rw [wr_i (by omega) (by omega), Int.toNat_natCast]
 have h2 : celM n (L ++ [x * n + y]) = inc (celM n L) (x * n + y) := by rw [celM, incs_app]; rfl
 rw [h2, inc]
 have := cnt_get L (n * n) (x * n + y) h1
 rw [show (celM n L).getD (x * n + y) 0 = _ from this]
theorem toI1_app (a b : List Nat) : toI1 (a ++ b) = toI1 a ++ toI1 b := by simp [toI1]
theorem idx_toI1 (pre : List Nat) (x : Nat) (r : List Nat) : idx (toI1 (pre ++ x :: r)) (pre.length : Int) = some (x : Int) := by
 rw [toI1_app, ← toI1_len pre]
 exact idx_app _ _ _
theorem idx_toI2 (pre : List (List Nat)) (x : List Nat) (r : List (List Nat)) : idx (toI2 (pre ++ x :: r)) (pre.length : Int) = some (toI1 x) := by
 have : toI2 (pre ++ x :: r) = toI2 pre ++ toI1 x :: toI2 r := by simp [toI2]
 rw [this, ← toI2_len pre]
 exact idx_app _ _ _
theorem idx_toI3 (pre : List (List (List Nat))) (x : List (List Nat)) (r : List (List (List Nat))) : idx (toI3 (pre ++ x :: r)) (pre.length : Int) = some (toI2 x) := by
 have : toI3 (pre ++ x :: r) = toI3 pre ++ toI2 x :: toI3 r := by simp [toI3]
 rw [this, ← toI3_len pre]
 exact idx_app _ _ _
theorem wr_nat {k : Nat} (h : k ≤ 1000000000) : wr .i64 ((k : Int) + 1) = ((k + 1 : Nat) : Int) := by
 rw [wr_i (by omega) (by omega)]; simp
/-- Rows of a square. -/
def rowsC (n : Nat) (cs : List Int) : Nat → Nat → List (List Int)
 | 0, _ => []
 | k + 1, x => ((cs.take ((x + 1) * n)).drop (x * n)) :: rowsC n cs k (x + 1)
theorem row_at {n : Nat} {cs : List Int} (hcs : cs.length = n * n) {x y : Nat} (hx : x < n) (hy : y < n) : ((cs.take ((x + 1) * n)).drop (x * n)).length = n ∧ ((cs.take ((x + 1) * n)).drop (x * n))[y]? = some (cs.getD (x * n + y) 0) := by
 have hle : (x + 1) * n ≤ n * n := Nat.mul_le_mul_right n (by omega)
 have e : (x + 1) * n = x * n + n := Nat.succ_mul x n
 have hc := cell_lt hx hy
 refine ⟨by simp; omega, ?_⟩
 rw [List.getElem?_drop, List.getElem?_take, if_pos (by omega), List.getD_eq_getElem?_getD, List.getElem?_eq_getElem (by omega)]
 rfl
theorem mkOk_nn {n : Nat} (hn : n ≤ 64) : mkOk 8 (wr .i64 ((n : Int) * (n : Int))) = true ∧ List.replicate (wr .i64 ((n : Int) * (n : Int))).toNat (0 : Int) = celM n [] := by
 have h2 : n * n ≤ 64 * 64 := Nat.mul_le_mul hn hn
 have e : (n : Int) * (n : Int) = ((n * n : Nat) : Int) := by simp
 rw [e, wr_i (by omega) (by omega)]
 refine ⟨?_, by rw [Int.toNat_natCast]; rfl⟩
 simp only [mkOk, Bool.and_eq_true, decide_eq_true_eq]
 omega
/-- Small enough for all loops. -/
structure Sml (n : Nat) (s : List (List (List Nat))) : Prop where
 n64 : n ≤ 64
 mem : ∀ ev ∈ s, ∀ t ∈ ev, ∀ x ∈ t, x < n
 ev : ∀ ev ∈ s, ev.flatten.length ≤ 90000 ∧ ev.length ≤ 90000
 len : s.length ≤ 90000
 all : s.flatten.flatten.length ≤ 90000
/-- How many pairs are counted at most. -/
def sqs : List (List Nat) → Nat
 | [] => 0
 | t :: ev => t.length * t.length + sqs ev
def sqS : List (List (List Nat)) → Nat
 | [] => 0
 | ev :: s => sqs ev + sqS s
/-- Small enough for meetings. -/
structure SmM (n : Nat) (s : List (List (List Nat))) : Prop where
 n64 : n ≤ 64
 mem : ∀ ev ∈ s, ∀ t ∈ ev, ∀ x ∈ t, x < n
 ev : ∀ ev ∈ s, (∀ t ∈ ev, t.length ≤ 2000) ∧ ev.length ≤ 90000
 len : s.length ≤ 90000
 all : sqS s ≤ 9000000
theorem sqs_le : ∀ ev : List (List Nat), (∀ t ∈ ev, t.length ≤ 64) → sqs ev ≤ 64 * ev.flatten.length
 | [], _ => by simp [sqs]
 | t :: ev, h => by
  have a := sqs_le ev fun u hu => h u (by simp [hu])
  have c : t.length * t.length ≤ 64 * t.length := Nat.mul_le_mul_right _ (h t (by simp))
  simp only [sqs, List.flatten_cons, List.length_append, Nat.mul_add]; omega
theorem sqS_le : ∀ s : List (List (List Nat)), (∀ ev ∈ s, sqs ev ≤ 4096) → sqS s ≤ s.length * 4096
 | [], _ => by simp [sqS]
 | ev :: s, h => by
  have a := sqS_le s fun u hu => h u (by simp [hu])
  have b := h ev (by simp)
  simp only [sqS, List.length_cons, Nat.succ_mul]; omega
theorem flats_le : ∀ s : List (List (List Nat)), (∀ ev ∈ s, ev.flatten.length ≤ 64) → s.flatten.flatten.length ≤ s.length * 64
 | [], _ => by simp
 | ev :: s, h => by
  have a := flats_le s fun u hu => h u (by simp [hu])
  have b := h ev (by simp)
  rw [List.flatten_cons, List.flatten_append, List.length_append, List.length_cons, Nat.succ_mul]; omega
theorem len_flat {ev : List (List Nat)} (h : ∀ t ∈ ev, t.length ≠ 0) : ev.length ≤ ev.flatten.length := by
 induction ev with
 | nil => simp
 | cons t ev ih =>
  have := ih fun u hu => h u (by simp [hu])
  have := h t (by simp)
  simp only [List.flatten_cons, List.length_append, List.length_cons]; omega
end Go.Proofs.YtcmgmkepodbpkaaDoor
