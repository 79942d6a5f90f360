/- Lemmas for the proof. -/
import Derived.Test.YtcmgmkepodbpkaaDoorEveningMovesM1
import Derived.Test.YtcmgmkepodbpkaaDoorEveningMovesM2
import Derived.Test.YtcmgmkepodbpkaaDoorEveningMovesM3
import Derived.Test.YtcmgmkepodbpkaaDoorEveningMovesM4
import Derived.Test.YtcmgmkepodbpkaaDoorEveningMovesM5
namespace Go.Proofs.YtcmgmkepodbpkaaDoor
open Go.RowKit
/- trestle/evening.Relabel -/
noncomputable def e_evening_Relabel_d : Env := ((E0.withX 27 t_evening_Check).withX 83 t_evening_check)
theorem e_evening_Relabel_d_ok : EnvOk e_evening_Relabel_d := (EnvOk.withX (EnvOk.withX E0_ok x_evening_Check.1 x_evening_Check.2) x_evening_check.1 x_evening_check.2)
noncomputable def cb_evening_Relabel_d : Code := codeOf Tryd.f29
def evening_Relabel_d_3 (x2 : (List Int)) (c31 : Int) (c32 : (List (List Int))) (v34 : (List Int)) : Nat → Int → (List Int) → Option (((List (List Int))))
  | 0, _, _ => none
  | f + 1, c39, c40 =>
    if (decide (c39 < (v34.length : Int))) = true then
    (idx c40 c39).bind fun v42 =>
    (idx x2 v42).bind fun v44 =>
    (idx c40 c39).bind fun _v45 =>
    evening_Relabel_d_3 x2 c31 c32 v34 f (wr .i64 (c39 + 1)) (c40.set c39.toNat v44)
    else
    some (c32.set c31.toNat c40)
def evening_Relabel_d_2 (x2 : (List Int)) (c24 : Int) (c25 : (List (List (List Int)))) (v27 : (List (List Int))) : Nat → Int → (List (List Int)) → Option (((List (List (List Int)))))
  | 0, _, _ => none
  | f + 1, c31, c32 =>
    if (decide (c31 < (v27.length : Int))) = true then
    (idx c32 c31).bind fun v34 =>
    (evening_Relabel_d_3 x2 c31 c32 v34 100000 0 v34).bind fun r57 =>
    evening_Relabel_d_2 x2 c24 c25 v27 f (wr .i64 (c31 + 1)) r57
    else
    some (c25.set c24.toNat c32)
def evening_Relabel_d_1 (x2 : (List Int)) (v20 : (List (List (List Int)))) : Nat → Int → (List (List (List Int))) → Option (((List (List (List Int)))))
  | 0, _, _ => none
  | f + 1, c24, c25 =>
    if (decide (c24 < (v20.length : Int))) = true then
    (idx c25 c24).bind fun v27 =>
    (evening_Relabel_d_2 x2 c24 c25 v27 100000 0 v27).bind fun r66 =>
    evening_Relabel_d_1 x2 v20 f (wr .i64 (c24 + 1)) r66
    else
    some c25
def evening_Relabel_d (x0 : Int) (x1 : (List (List (List Int)))) (x2 : (List Int)) : Option (Int × (List (List (List Int)))) :=
  (evening_Check x0 [] x1).bind fun v1 =>
  if (v1.2 != 0) = true then
  some (v1.2, ([] : (List (List (List Int)))))
  else
  (if ((x2.length : Int) != x0) = true then some true else (evening_check x0 ([x0] : List Int) ([x2] : List (List Int))).bind fun v12 =>
  some (v12 != 0)).bind fun j13 =>
  if j13 = true then
  some (2, ([] : (List (List (List Int)))))
  else
  (evening_clone_d x1).bind fun v20 =>
  (evening_Relabel_d_1 x2 v20 100000 0 v20).bind fun r70 =>
  some (0, r70)
set_option maxHeartbeats 4000000 in
set_option maxRecDepth 100000 in
theorem evening_Relabel_d_3_ok {L : List Asn} (x2 : (List Int)) (c31 : Int) (c32 : (List (List Int))) (v34 : (List Int)) (v20 : (List (List (List Int)))) (e21 : AV) (c24 : Int) (c25 : (List (List (List Int)))) (v27 : (List (List Int))) (e28 : AV) (e36 : AV) : ∀ (f : Nat) (c39 : Int) (c40 : (List Int)) (r : ((List (List Int)))), evening_Relabel_d_3 x2 c31 c32 v34 f c39 c40 = some r → ∀ (hp : Hp), T hp ((hole 1 50 (ocL 1 31 (ocL 1 3 (ocV cdI))) e21 c25 c24.toNat e28 v27) :: (hole 1 31 (ocL 1 3 (ocV cdI)) e28 c32 c31.toNat e36 v34) :: (own_ (ocL 1 3 (ocV cdI)) e36 c40) :: L) → SemYN e_evening_Relabel_d ⟨none, false⟩ (pc cb_evening_Relabel_d [1, 1, 1, 1, 0, 1, 0, 0, 1, 1, 0, 0, 1, 1, 0, 0, 1, 1, 0, 0, 1, 1, 0, 0]) f ⟨Fr 71 [(2, .sl 1 (x2.map cdI.enc)), (10, e21), (14, e36), (41, e21), (42, .v (.int .i64 (v20.length : Int))), (43, .v (.int .i64 c24)), (47, e28), (48, .v (.int .i64 (v27.length : Int))), (49, .v (.int .i64 c31)), (53, e36), (54, .v (.int .i64 (v34.length : Int))), (55, .v (.int .i64 c39))], hp⟩ (fun e s => e = (.exit 4) ∧ ∃ s2, (∃ (h' : Hp), T h' ((hole 1 50 (ocL 1 31 (ocL 1 3 (ocV cdI))) e21 c25 c24.toNat e28 v27) :: (own_ (ocL 1 31 (ocL 1 3 (ocV cdI))) e28 r) :: L) ∧ s2 = ⟨Fr 71 [(2, .sl 1 (x2.map cdI.enc)), (10, e21), (41, e21), (42, .v (.int .i64 (v20.length : Int))), (43, .v (.int .i64 c24)), (47, e28), (48, .v (.int .i64 (v27.length : Int))), (49, .v (.int .i64 c31))], h'⟩) ∧ WkY e_evening_Relabel_d s s2) := by
  intro f
  induction f with
  | zero => intro c39 c40 r h; cases h
  | succ f ih0 =>
    intro c39 c40 r h  hp hT
    unfold evening_Relabel_d_3 at h
    refine SemYN.succ ?_
    refine SemY.seq ?_
    refine SemY.regionL ?_
    refine RunL.segF (n := 71) e_evening_Relabel_d_ok 1 [(2, .sl 1 (x2.map cdI.enc)), (10, e21), (14, e36), (41, e21), (42, .v (.int .i64 (v20.length : Int))), (43, .v (.int .i64 c24)), (47, e28), (48, .v (.int .i64 (v27.length : Int))), (49, .v (.int .i64 c31)), (53, e36), (54, .v (.int .i64 (v34.length : Int))), (55, .v (.int .i64 c39)), (56, .v (.bool (decide (c39 < (v34.length : Int)))))] hp (by kernel_rfl) ?_
    refine RunL.done rfl (SemY.fr (l' := [(2, .sl 1 (x2.map cdI.enc)), (10, e21), (14, e36), (41, e21), (42, .v (.int .i64 (v20.length : Int))), (43, .v (.int .i64 c24)), (47, e28), (48, .v (.int .i64 (v27.length : Int))), (49, .v (.int .i64 c31)), (53, e36), (54, .v (.int .i64 (v34.length : Int))), (55, .v (.int .i64 c39)), (56, .v (.bool (decide (c39 < (v34.length : Int)))))]) (by kernel_rfl) ?_)
    refine SemY.seq ?_
    refine SemY.cond (b := (decide (c39 < (v34.length : Int)))) (by kernel_rfl) (fun hb41 => ?_) (fun hb41 => ?_)
    · rw [if_pos hb41] at h
      refine SemY.skip ?_
      refine SemY.seq ?_
      refine SemY.block ?_
      refine SemY.seq ?_
      refine SemY.regionL ?_
      refine RunL.segF (n := 71) e_evening_Relabel_d_ok 1 [(2, .sl 1 (x2.map cdI.enc)), (10, e21), (14, e36), (41, e21), (42, .v (.int .i64 (v20.length : Int))), (43, .v (.int .i64 c24)), (47, e28), (48, .v (.int .i64 (v27.length : Int))), (49, .v (.int .i64 c31)), (53, e36), (54, .v (.int .i64 (v34.length : Int))), (55, .v (.int .i64 c39)), (57, .v (.int .i64 c39))] hp (by kernel_rfl) ?_
      obtain ⟨v42, hv42, h⟩ := Option.bind_eq_some_iff.1 h
      have hT43 : T hp ((own_ (ocL 1 3 (ocV cdI)) e36 c40) :: (hole 1 50 (ocL 1 31 (ocL 1 3 (ocV cdI))) e21 c25 c24.toNat e28 v27) :: (hole 1 31 (ocL 1 3 (ocV cdI)) e28 c32 c31.toNat e36 v34) :: L) := (hT.front 2 rfl)
      refine RunL.one e_evening_Relabel_d_ok 0 rfl (op_q (wantedA_none rfl) rfl (q_indexAddr (a := e36) (b := .v (.int .i64 c39)) (by kernel_rfl) (by kernel_rfl) (ix_B (bytes := 8) hT43 (by kernel_rfl) hv42))) ?_
      refine RunL.one e_evening_Relabel_d_ok 0 rfl (op_q (wantedA_none rfl) rfl (q_load (p := eAt e36 c39.toNat) (by kernel_rfl) (ld_own0 (y := .v (.int .i64 v42)) (m := 1) (g := false) hT43 (idx_at hv42).2 (by kernel_rfl) (by kernel_rfl) (by kernel_rfl)))) ?_
      refine RunL.segF (n := 71) e_evening_Relabel_d_ok 2 [(2, .sl 1 (x2.map cdI.enc)), (10, e21), (14, e36), (15, .v (.int .i64 c39)), (16, .v (.int .i64 v42)), (41, e21), (42, .v (.int .i64 (v20.length : Int))), (43, .v (.int .i64 c24)), (47, e28), (48, .v (.int .i64 (v27.length : Int))), (49, .v (.int .i64 c31)), (53, e36), (54, .v (.int .i64 (v34.length : Int))), (55, .v (.int .i64 c39))] hp (by kernel_rfl) ?_
      refine RunL.done rfl (SemY.fr (l' := [(2, .sl 1 (x2.map cdI.enc)), (10, e21), (14, e36), (15, .v (.int .i64 c39)), (16, .v (.int .i64 v42)), (41, e21), (42, .v (.int .i64 (v20.length : Int))), (43, .v (.int .i64 c24)), (47, e28), (48, .v (.int .i64 (v27.length : Int))), (49, .v (.int .i64 c31)), (53, e36), (54, .v (.int .i64 (v34.length : Int))), (55, .v (.int .i64 c39))]) (by kernel_rfl) ?_)
      refine SemY.regionL ?_
      refine RunL.segF (n := 71) e_evening_Relabel_d_ok 4 [(2, .sl 1 (x2.map cdI.enc)), (10, e21), (14, e36), (41, e21), (42, .v (.int .i64 (v20.length : Int))), (43, .v (.int .i64 c24)), (47, e28), (48, .v (.int .i64 (v27.length : Int))), (49, .v (.int .i64 c31)), (53, e36), (54, .v (.int .i64 (v34.length : Int))), (55, .v (.int .i64 c39)), (60, e36), (61, .v (.int .i64 c39)), (62, .sl 1 (x2.map cdI.enc)), (63, .v (.int .i64 v42))] hp (by kernel_rfl) ?_
      obtain ⟨v44, hv44, h⟩ := Option.bind_eq_some_iff.1 h
      refine RunL.one e_evening_Relabel_d_ok 0 rfl (op_q (wantedA_none rfl) rfl (q_indexAddr (a := .sl 1 (x2.map cdI.enc)) (b := .v (.int .i64 v42)) (by kernel_rfl) (by kernel_rfl) (ix_sl (e := cdI.enc) (el := 3) (k := 1) (ki := .i64) (by kernel_rfl) (by kernel_rfl) hv44))) ?_
      refine RunL.segF (n := 71) e_evening_Relabel_d_ok 1 [(2, .sl 1 (x2.map cdI.enc)), (10, e21), (14, e36), (41, e21), (42, .v (.int .i64 (v20.length : Int))), (43, .v (.int .i64 c24)), (47, e28), (48, .v (.int .i64 (v27.length : Int))), (49, .v (.int .i64 c31)), (53, e36), (54, .v (.int .i64 (v34.length : Int))), (55, .v (.int .i64 c39)), (60, e36), (61, .v (.int .i64 c39)), (65, .v (.int .i64 v44))] hp (by kernel_rfl) ?_
      obtain ⟨v45, hv45, h⟩ := Option.bind_eq_some_iff.1 h
      refine RunL.one e_evening_Relabel_d_ok 0 rfl (op_q (wantedA_none rfl) rfl (q_indexAddr (a := e36) (b := .v (.int .i64 c39)) (by kernel_rfl) (by kernel_rfl) (ix_B (bytes := 8) hT43 (by kernel_rfl) hv45))) ?_
      obtain ⟨hp46, hs47, hT480⟩ := st_own0 (P := Tryd.prog) (ty := 3) (y := .v (.int .i64 v44)) (v' := v44) hT43 (idx_at hv45).2 (by kernel_rfl) (by kernel_rfl) (by kernel_rfl)
      have hT48 : T hp46 ((own_ (ocL 1 3 (ocV cdI)) e36 (c40.set c39.toNat v44)) :: (hole 1 50 (ocL 1 31 (ocL 1 3 (ocV cdI))) e21 c25 c24.toNat e28 v27) :: (hole 1 31 (ocL 1 3 (ocV cdI)) e28 c32 c31.toNat e36 v34) :: L) := hT480
      refine RunL.store e_evening_Relabel_d_ok (y := eAt e36 c39.toNat) (z := .v (.int .i64 v44)) rfl (wantedA_none rfl) (by kernel_rfl) (by kernel_rfl) hs47 ?_
      refine RunL.done rfl (SemY.fr (l' := [(2, .sl 1 (x2.map cdI.enc)), (10, e21), (14, e36), (41, e21), (42, .v (.int .i64 (v20.length : Int))), (43, .v (.int .i64 c24)), (47, e28), (48, .v (.int .i64 (v27.length : Int))), (49, .v (.int .i64 c31)), (53, e36), (54, .v (.int .i64 (v34.length : Int))), (55, .v (.int .i64 c39))]) (by kernel_rfl) ?_)
      refine SemY.regionL ?_
      refine RunL.segF (n := 71) e_evening_Relabel_d_ok 2 [(2, .sl 1 (x2.map cdI.enc)), (10, e21), (14, e36), (41, e21), (42, .v (.int .i64 (v20.length : Int))), (43, .v (.int .i64 c24)), (47, e28), (48, .v (.int .i64 (v27.length : Int))), (49, .v (.int .i64 c31)), (53, e36), (54, .v (.int .i64 (v34.length : Int))), (55, .v (.int .i64 (wr .i64 (c39 + 1))))] hp46 (by kernel_rfl) ?_
      refine RunL.done rfl ?_
      have hT49 : T hp46 ((hole 1 50 (ocL 1 31 (ocL 1 3 (ocV cdI))) e21 c25 c24.toNat e28 v27) :: (hole 1 31 (ocL 1 3 (ocV cdI)) e28 c32 c31.toNat e36 v34) :: (own_ (ocL 1 3 (ocV cdI)) e36 (c40.set c39.toNat v44)) :: L) := ((hT48.front 2 rfl).front 2 rfl)
      exact SemYN.wk WkY.f1 (ih0 (wr .i64 (c39 + 1)) (c40.set c39.toNat v44) _ h  hp46 hT49)
    · rw [if_f hb41] at h
      refine SemY.exit ?_
      have hq := Option.some.inj h; subst hq
      have hT53 : T hp ((own_ (ocL 1 3 (ocV cdI)) e36 c40) :: (hole 1 31 (ocL 1 3 (ocV cdI)) e28 c32 c31.toNat e36 v34) :: (hole 1 50 (ocL 1 31 (ocL 1 3 (ocV cdI))) e21 c25 c24.toNat e28 v27) :: L) := ((hT.front 1 rfl).front 2 rfl)
      have hT54 : T hp ((own_ (ocL 1 31 (ocL 1 3 (ocV cdI))) e28 (c32.set c31.toNat c40)) :: (hole 1 50 (ocL 1 31 (ocL 1 3 (ocV cdI))) e21 c25 c24.toNat e28 v27) :: L) := (T.merge hT53)
      have hT55 : T hp ((hole 1 50 (ocL 1 31 (ocL 1 3 (ocV cdI))) e21 c25 c24.toNat e28 v27) :: (own_ (ocL 1 31 (ocL 1 3 (ocV cdI))) e28 (c32.set c31.toNat c40)) :: L) := (hT54.front 1 rfl)
      exact ⟨rfl, _, ⟨hp, hT55, rfl⟩, WkY.f1⟩
set_option maxHeartbeats 4000000 in
set_option maxRecDepth 100000 in
theorem evening_Relabel_d_2_ok {L : List Asn} (x2 : (List Int)) (c24 : Int) (c25 : (List (List (List Int)))) (v27 : (List (List Int))) (v20 : (List (List (List Int)))) (e21 : AV) (e28 : AV) : ∀ (f : Nat) (c31 : Int) (c32 : (List (List Int))) (r : ((List (List (List Int))))), evening_Relabel_d_2 x2 c24 c25 v27 f c31 c32 = some r → ∀ (hp : Hp), T hp ((hole 1 50 (ocL 1 31 (ocL 1 3 (ocV cdI))) e21 c25 c24.toNat e28 v27) :: (own_ (ocL 1 31 (ocL 1 3 (ocV cdI))) e28 c32) :: L) → SemYN e_evening_Relabel_d ⟨none, false⟩ (pc cb_evening_Relabel_d [1, 1, 1, 1, 0, 1, 0, 0, 1, 1, 0, 0, 1, 1, 0, 0]) f ⟨Fr 71 [(2, .sl 1 (x2.map cdI.enc)), (10, e21), (41, e21), (42, .v (.int .i64 (v20.length : Int))), (43, .v (.int .i64 c24)), (47, e28), (48, .v (.int .i64 (v27.length : Int))), (49, .v (.int .i64 c31))], hp⟩ (fun e s => e = (.exit 2) ∧ ∃ s2, (∃ (h' : Hp), T h' ((own_ (ocL 1 50 (ocL 1 31 (ocL 1 3 (ocV cdI)))) e21 r) :: L) ∧ s2 = ⟨Fr 71 [(2, .sl 1 (x2.map cdI.enc)), (10, e21), (41, e21), (42, .v (.int .i64 (v20.length : Int))), (43, .v (.int .i64 c24))], h'⟩) ∧ WkY e_evening_Relabel_d s s2) := by
  intro f
  induction f with
  | zero => intro c31 c32 r h; cases h
  | succ f ih0 =>
    intro c31 c32 r h  hp hT
    unfold evening_Relabel_d_2 at h
    refine SemYN.succ ?_
    refine SemY.seq ?_
    refine SemY.regionL ?_
    refine RunL.segF (n := 71) e_evening_Relabel_d_ok 1 [(2, .sl 1 (x2.map cdI.enc)), (10, e21), (41, e21), (42, .v (.int .i64 (v20.length : Int))), (43, .v (.int .i64 c24)), (47, e28), (48, .v (.int .i64 (v27.length : Int))), (49, .v (.int .i64 c31)), (50, .v (.bool (decide (c31 < (v27.length : Int)))))] hp (by kernel_rfl) ?_
    refine RunL.done rfl (SemY.fr (l' := [(2, .sl 1 (x2.map cdI.enc)), (10, e21), (41, e21), (42, .v (.int .i64 (v20.length : Int))), (43, .v (.int .i64 c24)), (47, e28), (48, .v (.int .i64 (v27.length : Int))), (49, .v (.int .i64 c31)), (50, .v (.bool (decide (c31 < (v27.length : Int)))))]) (by kernel_rfl) ?_)
    refine SemY.seq ?_
    refine SemY.cond (b := (decide (c31 < (v27.length : Int)))) (by kernel_rfl) (fun hb33 => ?_) (fun hb33 => ?_)
    · rw [if_pos hb33] at h
      refine SemY.skip ?_
      refine SemY.seq ?_
      refine SemY.block ?_
      refine SemY.seq ?_
      refine SemY.regionL ?_
      obtain ⟨v34, hv34, h⟩ := Option.bind_eq_some_iff.1 h
      have hT35 : T hp ((own_ (ocL 1 31 (ocL 1 3 (ocV cdI))) e28 c32) :: (hole 1 50 (ocL 1 31 (ocL 1 3 (ocV cdI))) e21 c25 c24.toNat e28 v27) :: L) := (hT.front 1 rfl)
      refine RunL.one e_evening_Relabel_d_ok 0 rfl (op_q (wantedA_none rfl) rfl (q_indexAddr (a := e28) (b := .v (.int .i64 c31)) (by kernel_rfl) (by kernel_rfl) (ix_B (bytes := 24) hT35 (by kernel_rfl) hv34))) ?_
      obtain ⟨e36, hl37, hT380⟩ := ld_child (P := Tryd.prog) (ty := 31) hT35 (idx_at hv34).2 (by kernel_rfl) (by kernel_rfl)
      have hT38 : T hp ((own_ (ocL 1 3 (ocV cdI)) e36 v34) :: (hole 1 31 (ocL 1 3 (ocV cdI)) e28 c32 c31.toNat e36 v34) :: (hole 1 50 (ocL 1 31 (ocL 1 3 (ocV cdI))) e21 c25 c24.toNat e28 v27) :: L) := hT380
      refine RunL.one e_evening_Relabel_d_ok 0 rfl (op_q (wantedA_none rfl) rfl (q_load (p := eAt e28 c31.toNat) (by kernel_rfl) hl37)) ?_
      refine RunL.segF (n := 71) e_evening_Relabel_d_ok 1 [(2, .sl 1 (x2.map cdI.enc)), (10, e21), (14, e36), (41, e21), (42, .v (.int .i64 (v20.length : Int))), (43, .v (.int .i64 c24)), (47, e28), (48, .v (.int .i64 (v27.length : Int))), (49, .v (.int .i64 c31))] hp (by kernel_rfl) ?_
      refine RunL.done rfl (SemY.fr (l' := [(2, .sl 1 (x2.map cdI.enc)), (10, e21), (14, e36), (41, e21), (42, .v (.int .i64 (v20.length : Int))), (43, .v (.int .i64 c24)), (47, e28), (48, .v (.int .i64 (v27.length : Int))), (49, .v (.int .i64 c31))]) (by kernel_rfl) ?_)
      refine SemY.seq ?_
      refine SemY.regionL ?_
      refine RunL.segF (n := 71) e_evening_Relabel_d_ok 1 [(2, .sl 1 (x2.map cdI.enc)), (10, e21), (14, e36), (41, e21), (42, .v (.int .i64 (v20.length : Int))), (43, .v (.int .i64 c24)), (47, e28), (48, .v (.int .i64 (v27.length : Int))), (49, .v (.int .i64 c31)), (53, e36)] hp (by kernel_rfl) ?_
      refine RunL.one e_evening_Relabel_d_ok 0 rfl (op_q (wantedA_none rfl) rfl (q_len (a := e36) (by kernel_rfl) (len_B hT38 (by kernel_rfl)))) ?_
      refine RunL.segF (n := 71) e_evening_Relabel_d_ok 1 [(2, .sl 1 (x2.map cdI.enc)), (10, e21), (14, e36), (41, e21), (42, .v (.int .i64 (v20.length : Int))), (43, .v (.int .i64 c24)), (47, e28), (48, .v (.int .i64 (v27.length : Int))), (49, .v (.int .i64 c31)), (53, e36), (54, .v (.int .i64 (v34.length : Int))), (55, .v (.int .i64 0))] hp (by kernel_rfl) ?_
      refine RunL.done rfl (SemY.fr (l' := [(2, .sl 1 (x2.map cdI.enc)), (10, e21), (14, e36), (41, e21), (42, .v (.int .i64 (v20.length : Int))), (43, .v (.int .i64 c24)), (47, e28), (48, .v (.int .i64 (v27.length : Int))), (49, .v (.int .i64 c31)), (53, e36), (54, .v (.int .i64 (v34.length : Int))), (55, .v (.int .i64 0))]) (by kernel_rfl) ?_)
      refine SemY.block ?_
      have hT56 : T hp ((hole 1 50 (ocL 1 31 (ocL 1 3 (ocV cdI))) e21 c25 c24.toNat e28 v27) :: (hole 1 31 (ocL 1 3 (ocV cdI)) e28 c32 c31.toNat e36 v34) :: (own_ (ocL 1 3 (ocV cdI)) e36 v34) :: L) := ((hT38.front 1 rfl).front 2 rfl)
      refine SemY.loop (n := 100000) ?_
      obtain ⟨r57, hr57, h⟩ := Option.bind_eq_some_iff.1 h
      refine SemYN.cutT (SemYN.wk WkY.f1 (evening_Relabel_d_3_ok x2 c31 c32 v34 v20 e21 c24 c25 v27 e28 e36 _ 0 v34 _ hr57  hp hT56)) ?_
      rintro _ ⟨hp58, hT59, rfl⟩
      refine SemY.regionL ?_
      refine RunL.segF (n := 71) e_evening_Relabel_d_ok 2 [(2, .sl 1 (x2.map cdI.enc)), (10, e21), (41, e21), (42, .v (.int .i64 (v20.length : Int))), (43, .v (.int .i64 c24)), (47, e28), (48, .v (.int .i64 (v27.length : Int))), (49, .v (.int .i64 (wr .i64 (c31 + 1))))] hp58 (by kernel_rfl) ?_
      refine RunL.done rfl ?_
      exact SemYN.wk WkY.f1 (ih0 (wr .i64 (c31 + 1)) r57 _ h  hp58 hT59)
    · rw [if_f hb33] at h
      refine SemY.exit ?_
      have hq := Option.some.inj h; subst hq
      have hT63 : T hp ((own_ (ocL 1 31 (ocL 1 3 (ocV cdI))) e28 c32) :: (hole 1 50 (ocL 1 31 (ocL 1 3 (ocV cdI))) e21 c25 c24.toNat e28 v27) :: L) := ((hT.front 0 rfl).front 1 rfl)
      have hT64 : T hp ((own_ (ocL 1 50 (ocL 1 31 (ocL 1 3 (ocV cdI)))) e21 (c25.set c24.toNat c32)) :: L) := (T.merge hT63)
      exact ⟨rfl, _, ⟨hp, hT64, rfl⟩, WkY.f1⟩
set_option maxHeartbeats 4000000 in
set_option maxRecDepth 100000 in
theorem evening_Relabel_d_1_ok {L : List Asn} (x2 : (List Int)) (v20 : (List (List (List Int)))) (e21 : AV) : ∀ (f : Nat) (c24 : Int) (c25 : (List (List (List Int)))) (r : ((List (List (List Int))))), evening_Relabel_d_1 x2 v20 f c24 c25 = some r → ∀ (hp : Hp), T hp ((own_ (ocL 1 50 (ocL 1 31 (ocL 1 3 (ocV cdI)))) e21 c25) :: L) → SemYN e_evening_Relabel_d ⟨none, false⟩ (pc cb_evening_Relabel_d [1, 1, 1, 1, 0, 1, 0, 0]) f ⟨Fr 71 [(2, .sl 1 (x2.map cdI.enc)), (10, e21), (41, e21), (42, .v (.int .i64 (v20.length : Int))), (43, .v (.int .i64 c24))], hp⟩ (fun e s => e = (.exit 0) ∧ ∃ s2, (∃ (h' : Hp), T h' ((own_ (ocL 1 50 (ocL 1 31 (ocL 1 3 (ocV cdI)))) e21 r) :: L) ∧ s2 = ⟨Fr 71 [(10, e21)], h'⟩) ∧ WkY e_evening_Relabel_d s s2) := by
  intro f
  induction f with
  | zero => intro c24 c25 r h; cases h
  | succ f ih0 =>
    intro c24 c25 r h  hp hT
    unfold evening_Relabel_d_1 at h
    refine SemYN.succ ?_
    refine SemY.seq ?_
    refine SemY.regionL ?_
    refine RunL.segF (n := 71) e_evening_Relabel_d_ok 1 [(2, .sl 1 (x2.map cdI.enc)), (10, e21), (41, e21), (42, .v (.int .i64 (v20.length : Int))), (43, .v (.int .i64 c24)), (44, .v (.bool (decide (c24 < (v20.length : Int)))))] hp (by kernel_rfl) ?_
    refine RunL.done rfl (SemY.fr (l' := [(2, .sl 1 (x2.map cdI.enc)), (10, e21), (41, e21), (42, .v (.int .i64 (v20.length : Int))), (43, .v (.int .i64 c24)), (44, .v (.bool (decide (c24 < (v20.length : Int)))))]) (by kernel_rfl) ?_)
    refine SemY.seq ?_
    refine SemY.cond (b := (decide (c24 < (v20.length : Int)))) (by kernel_rfl) (fun hb26 => ?_) (fun hb26 => ?_)
    · rw [if_pos hb26] at h
      refine SemY.skip ?_
      refine SemY.seq ?_
      refine SemY.block ?_
      refine SemY.seq ?_
      refine SemY.regionL ?_
      obtain ⟨v27, hv27, h⟩ := Option.bind_eq_some_iff.1 h
      refine RunL.one e_evening_Relabel_d_ok 0 rfl (op_q (wantedA_none rfl) rfl (q_indexAddr (a := e21) (b := .v (.int .i64 c24)) (by kernel_rfl) (by kernel_rfl) (ix_B (bytes := 24) hT (by kernel_rfl) hv27))) ?_
      obtain ⟨e28, hl29, hT300⟩ := ld_child (P := Tryd.prog) (ty := 50) hT (idx_at hv27).2 (by kernel_rfl) (by kernel_rfl)
      have hT30 : T hp ((own_ (ocL 1 31 (ocL 1 3 (ocV cdI))) e28 v27) :: (hole 1 50 (ocL 1 31 (ocL 1 3 (ocV cdI))) e21 c25 c24.toNat e28 v27) :: L) := hT300
      refine RunL.one e_evening_Relabel_d_ok 0 rfl (op_q (wantedA_none rfl) rfl (q_load (p := eAt e21 c24.toNat) (by kernel_rfl) hl29)) ?_
      refine RunL.segF (n := 71) e_evening_Relabel_d_ok 1 [(2, .sl 1 (x2.map cdI.enc)), (10, e21), (12, e28), (41, e21), (42, .v (.int .i64 (v20.length : Int))), (43, .v (.int .i64 c24))] hp (by kernel_rfl) ?_
      refine RunL.done rfl (SemY.fr (l' := [(2, .sl 1 (x2.map cdI.enc)), (10, e21), (12, e28), (41, e21), (42, .v (.int .i64 (v20.length : Int))), (43, .v (.int .i64 c24))]) (by kernel_rfl) ?_)
      refine SemY.seq ?_
      refine SemY.regionL ?_
      refine RunL.segF (n := 71) e_evening_Relabel_d_ok 1 [(2, .sl 1 (x2.map cdI.enc)), (10, e21), (41, e21), (42, .v (.int .i64 (v20.length : Int))), (43, .v (.int .i64 c24)), (47, e28)] hp (by kernel_rfl) ?_
      refine RunL.one e_evening_Relabel_d_ok 0 rfl (op_q (wantedA_none rfl) rfl (q_len (a := e28) (by kernel_rfl) (len_B hT30 (by kernel_rfl)))) ?_
      refine RunL.segF (n := 71) e_evening_Relabel_d_ok 1 [(2, .sl 1 (x2.map cdI.enc)), (10, e21), (41, e21), (42, .v (.int .i64 (v20.length : Int))), (43, .v (.int .i64 c24)), (47, e28), (48, .v (.int .i64 (v27.length : Int))), (49, .v (.int .i64 0))] hp (by kernel_rfl) ?_
      refine RunL.done rfl (SemY.fr (l' := [(2, .sl 1 (x2.map cdI.enc)), (10, e21), (41, e21), (42, .v (.int .i64 (v20.length : Int))), (43, .v (.int .i64 c24)), (47, e28), (48, .v (.int .i64 (v27.length : Int))), (49, .v (.int .i64 0))]) (by kernel_rfl) ?_)
      refine SemY.block ?_
      have hT65 : T hp ((hole 1 50 (ocL 1 31 (ocL 1 3 (ocV cdI))) e21 c25 c24.toNat e28 v27) :: (own_ (ocL 1 31 (ocL 1 3 (ocV cdI))) e28 v27) :: L) := (hT30.front 1 rfl)
      refine SemY.loop (n := 100000) ?_
      obtain ⟨r66, hr66, h⟩ := Option.bind_eq_some_iff.1 h
      refine SemYN.cutT (SemYN.wk WkY.f1 (evening_Relabel_d_2_ok x2 c24 c25 v27 v20 e21 e28 _ 0 v27 _ hr66  hp hT65)) ?_
      rintro _ ⟨hp67, hT68, rfl⟩
      refine SemY.regionL ?_
      refine RunL.segF (n := 71) e_evening_Relabel_d_ok 2 [(2, .sl 1 (x2.map cdI.enc)), (10, e21), (41, e21), (42, .v (.int .i64 (v20.length : Int))), (43, .v (.int .i64 (wr .i64 (c24 + 1))))] hp67 (by kernel_rfl) ?_
      refine RunL.done rfl ?_
      exact SemYN.wk WkY.f1 (ih0 (wr .i64 (c24 + 1)) r66 _ h  hp67 hT68)
    · rw [if_f hb26] at h
      refine SemY.exit ?_
      have hq := Option.some.inj h; subst hq
      exact ⟨rfl, _, ⟨hp, hT, rfl⟩, WkY.f1⟩
set_option maxHeartbeats 4000000 in
set_option maxRecDepth 100000 in
theorem evening_Relabel_d_sem {L : List Asn} {hp : Hp} (x0 : Int) (x1 : (List (List (List Int)))) (x2 : (List Int)) (r : Int × (List (List (List Int)))) (h : evening_Relabel_d x0 x1 x2 = some r) (hT : T hp (L)) : SemY e_evening_Relabel_d ⟨none, false⟩ cb_evening_Relabel_d ⟨Fr 71 (pairs0 0 [.v (.int .i64 x0), .sl 1 (x1.map (cdL 1 (cdL 1 cdI)).enc), .sl 1 (x2.map cdI.enc)]), hp⟩ fun x s' => (x = .normal ∨ x = .ret) ∧ ∃ ys, resA e_evening_Relabel_d.P s'.fr s'.hp Tryd.f29.results.toList = some ys ∧ (fun v h' => ∃ (z0 : AV), v = .tp [z0, .v (.int .i64 r.1)] ∧ T h' ((own_ (ocL 1 50 (ocL 1 31 (ocL 1 3 (ocV cdI)))) z0 r.2) :: L)) (retA ys) s'.hp := by
  unfold evening_Relabel_d at h
  refine SemY.wkQ (SemY.wk (s1 := ⟨Fr 71 [(0, .v (.int .i64 x0)), (1, .sl 1 (x1.map (cdL 1 (cdL 1 cdI)).enc)), (2, .sl 1 (x2.map cdI.enc))], hp⟩) WkY.f1 ?_)
  refine SemY.seq ?_
  refine SemY.regionL ?_
  refine RunL.segF (n := 71) e_evening_Relabel_d_ok 2 [(0, .v (.int .i64 x0)), (1, .sl 1 (x1.map (cdL 1 (cdL 1 cdI)).enc)), (2, .sl 1 (x2.map cdI.enc))] hp (by kernel_rfl) ?_
  refine RunL.done rfl (SemY.fr (l' := [(0, .v (.int .i64 x0)), (1, .sl 1 (x1.map (cdL 1 (cdL 1 cdI)).enc)), (2, .sl 1 (x2.map cdI.enc))]) (by kernel_rfl) ?_)
  refine SemY.seq ?_
  refine SemY.seq ?_
  refine SemY.regionL ?_
  refine RunL.segF (n := 71) e_evening_Relabel_d_ok 2 [(0, .v (.int .i64 x0)), (1, .sl 1 (x1.map (cdL 1 (cdL 1 cdI)).enc)), (2, .sl 1 (x2.map cdI.enc)), (18, .v (.int .i64 x0)), (19, .sl 1 (x1.map (cdL 1 (cdL 1 cdI)).enc))] hp (by kernel_rfl) ?_
  obtain ⟨v1, hv1, h⟩ := Option.bind_eq_some_iff.1 h
  refine RunL.call e_evening_Relabel_d_ok (fid := 27) (b := v1) (s := cs_evening_Check) (F := fun a => evening_Check a.1 a.2.1 a.2.2.1) (er := er_evening_Check) (xs := [.v (.int .i64 x0), .e0, .sl 1 (x1.map (cdL 1 (cdL 1 cdI)).enc)]) (a := (x0, [], x1, ())) rfl (wantedA_none rfl) (by kernel_rfl) (by kernel_rfl) (by kernel_rfl) (by kernel_rfl) (Sns.cons (Sn.enc (c := cdI) (v := x0)) (Sns.cons Sn.e0 (Sns.cons (Sn.enc (c := (cdL 1 (cdL 1 (cdL 1 cdI)))) (v := x1)) Sns.nil))) (.inl (by kernel_rfl)) hv1 ?_
  refine RunL.segF (n := 71) e_evening_Relabel_d_ok 5 [(0, .v (.int .i64 x0)), (1, .sl 1 (x1.map (cdL 1 (cdL 1 cdI)).enc)), (2, .sl 1 (x2.map cdI.enc)), (9, .v (.int .i64 v1.2))] hp (by kernel_rfl) ?_
  refine RunL.done rfl (SemY.fr (l' := [(0, .v (.int .i64 x0)), (1, .sl 1 (x1.map (cdL 1 (cdL 1 cdI)).enc)), (2, .sl 1 (x2.map cdI.enc)), (9, .v (.int .i64 v1.2))]) (by kernel_rfl) ?_)
  refine SemY.seq ?_
  refine SemY.regionL ?_
  refine RunL.segF (n := 71) e_evening_Relabel_d_ok 2 [(0, .v (.int .i64 x0)), (1, .sl 1 (x1.map (cdL 1 (cdL 1 cdI)).enc)), (2, .sl 1 (x2.map cdI.enc)), (9, .v (.int .i64 v1.2)), (24, .v (.bool (v1.2 != 0)))] hp (by kernel_rfl) ?_
  refine RunL.done rfl (SemY.fr (l' := [(0, .v (.int .i64 x0)), (1, .sl 1 (x1.map (cdL 1 (cdL 1 cdI)).enc)), (2, .sl 1 (x2.map cdI.enc)), (9, .v (.int .i64 v1.2)), (24, .v (.bool (v1.2 != 0)))]) (by kernel_rfl) ?_)
  refine SemY.cond (b := (v1.2 != 0)) (by kernel_rfl) (fun hb2 => ?_) (fun hb2 => ?_)
  · rw [if_pos hb2] at h
    refine SemY.seq ?_
    refine SemY.regionL ?_
    refine RunL.segF (n := 71) e_evening_Relabel_d_ok 3 [(6, .e0), (7, .v (.int .i64 v1.2))] hp (by kernel_rfl) ?_
    refine RunL.done rfl (SemY.fr (l' := [(6, .e0), (7, .v (.int .i64 v1.2))]) (by kernel_rfl) ?_)
    refine SemY.ret ?_
    have hq := Option.some.inj h; subst hq
    have hT3 : T hp ((own_ (ocL 1 50 (ocL 1 31 (ocL 1 3 (ocV cdI)))) .e0 ([] : (List (List (List Int))))) :: L) := (T.e0 (o := (ocL 1 31 (ocL 1 3 (ocV cdI)))) hT)
    exact ⟨⟨Fr 71 [(6, .e0), (7, .v (.int .i64 v1.2))], hp⟩, WkY.f1, .inr rfl, [.e0, .v (.int .i64 v1.2)], (by kernel_rfl), ⟨.e0, rfl, hT3⟩⟩
  · rw [if_f hb2] at h
    refine SemY.skip ?_
    refine SemY.seq ?_
    refine SemY.seq ?_
    obtain ⟨j13, hj13, h⟩ := Option.bind_eq_some_iff.1 h
    refine SemY.regT (A := fun s1 => ∃ (h' : Hp), T h' (L) ∧ s1 = ⟨Fr 71 [(1, .sl 1 (x1.map (cdL 1 (cdL 1 cdI)).enc)), (2, .sl 1 (x2.map cdI.enc)), (38, .v (.bool j13))], h'⟩) ?_ ?_
    · refine RunL.segF (n := 71) e_evening_Relabel_d_ok 1 [(0, .v (.int .i64 x0)), (1, .sl 1 (x1.map (cdL 1 (cdL 1 cdI)).enc)), (2, .sl 1 (x2.map cdI.enc)), (26, .sl 1 (x2.map cdI.enc))] hp (by kernel_rfl) ?_
      refine RunL.one e_evening_Relabel_d_ok 0 rfl (op_q (wantedA_none rfl) rfl (q_len (a := .sl 1 (x2.map cdI.enc)) (by kernel_rfl) (len_sl (el := 3) (by kernel_rfl)))) ?_
      refine RunL.segF (n := 71) e_evening_Relabel_d_ok 3 [(0, .v (.int .i64 x0)), (1, .sl 1 (x1.map (cdL 1 (cdL 1 cdI)).enc)), (2, .sl 1 (x2.map cdI.enc)), (30, .v (.bool ((x2.length : Int) != x0)))] hp (by kernel_rfl) ?_
      rcases Bool.eq_false_or_eq_true ((x2.length : Int) != x0) with hc73 | hc73
      · rw [if_pos hc73] at hj13
        rw [hc73]
        refine RunL.segF (n := 71) e_evening_Relabel_d_ok 8 [(1, .sl 1 (x1.map (cdL 1 (cdL 1 cdI)).enc)), (2, .sl 1 (x2.map cdI.enc)), (38, .v (.bool true))] hp (by kernel_rfl) ?_
        have hq := Option.some.inj hj13; subst hq
        exact RunL.done rfl ⟨_, ⟨hp, hT, rfl⟩, WkY.f1⟩
      · rw [if_f hc73] at hj13
        rw [hc73]
        refine RunL.segF (n := 71) e_evening_Relabel_d_ok 2 [(1, .sl 1 (x1.map (cdL 1 (cdL 1 cdI)).enc)), (2, .sl 1 (x2.map cdI.enc)), (30, .v (.bool false)), (31, .v (.int .i64 x0)), (32, .v (.int .i64 x0))] hp (by kernel_rfl) ?_
        obtain ⟨e7, hp4, hb5, hT60⟩ := lit_ownB (P := Tryd.prog) (bytes := 8) (k := 1) (t := 3) (ty := 31) (xs := ([x0] : List Int)) (n := 1) (fit_V (k := 1) (fun _ => ⟨rfl, rfl, rfl⟩)) (els_leaf (c := cdI) (xs := ([x0] : List Int)) hT) rfl (by kernel_rfl) (by kernel_rfl) (by kernel_rfl)
        have hT6 : T hp4 ((own_ (ocL 1 3 (ocV cdI)) e7 ([x0] : List Int)) :: L) := hT60
        refine RunL.one e_evening_Relabel_d_ok 0 rfl (op_n (by kernel_rfl) rfl (by kernel_rfl) (n_lit (xs := enumA 0 [.v (.int .i64 x0)]) (by kernel_rfl) hb5)) ?_
        refine RunL.segF (n := 71) e_evening_Relabel_d_ok 1 [(1, .sl 1 (x1.map (cdL 1 (cdL 1 cdI)).enc)), (2, .sl 1 (x2.map cdI.enc)), (30, .v (.bool false)), (31, .v (.int .i64 x0)), (33, e7), (34, .sl 1 (x2.map cdI.enc))] hp4 (by kernel_rfl) ?_
        obtain ⟨e11, hp8, hb9, hT100⟩ := lit_ownB (P := Tryd.prog) (bytes := 24) (k := 1) (t := 31) (ty := 50) (xs := ([x2] : List (List Int))) (n := 1) (fit_V (k := 1) (fun _ => ⟨rfl, rfl, rfl⟩)) (els_leaf (c := (cdL 1 cdI)) (xs := ([x2] : List (List Int))) hT6) rfl (by kernel_rfl) (by kernel_rfl) (by kernel_rfl)
        have hT10 : T hp8 ((own_ (ocL 1 31 (ocV (cdL 1 cdI))) e11 ([x2] : List (List Int))) :: (own_ (ocL 1 3 (ocV cdI)) e7 ([x0] : List Int)) :: L) := hT100
        refine RunL.one e_evening_Relabel_d_ok 0 rfl (op_n (by kernel_rfl) rfl (by kernel_rfl) (n_lit (xs := enumA 0 [.sl 1 (x2.map cdI.enc)]) (by kernel_rfl) hb9)) ?_
        obtain ⟨v12, hv12, hj13⟩ := Option.bind_eq_some_iff.1 hj13
        refine RunL.callD e_evening_Relabel_d_ok (fid := 83) (b := v12) (s := cs_evening_check) (F := fun a => evening_check a.1 a.2.1 a.2.2.1) (er := er_evening_check) (xs := [.v (.int .i64 x0), e7, e11]) (a := (x0, ([x0] : List Int), ([x2] : List (List Int)), ())) rfl (by kernel_rfl) (by kernel_rfl) (by kernel_rfl) (by kernel_rfl) (SeesD.cons (SeeD.enc (c := cdI) (v := x0)) (SeesD.cons (SeeD.own hT10 (i := 1) rfl) (SeesD.cons (SeeD.own hT10 (i := 0) rfl) SeesD.nil))) (by kernel_rfl) hv12 ?_
        refine RunL.segF (n := 71) e_evening_Relabel_d_ok 2 [(1, .sl 1 (x1.map (cdL 1 (cdL 1 cdI)).enc)), (2, .sl 1 (x2.map cdI.enc)), (38, .v (.bool (v12 != 0)))] hp8 (by kernel_rfl) ?_
        have hq := Option.some.inj hj13; subst hq
        have hT15 : T hp8 (L) := hT10.drop.drop
        exact RunL.done rfl ⟨_, ⟨hp8, hT15, rfl⟩, WkY.f1⟩
    rintro _ ⟨hp16, hT17, rfl⟩
    refine SemY.cond (b := j13) (by kernel_rfl) (fun hb18 => ?_) (fun hb18 => ?_)
    · rw [if_pos hb18] at h
      refine SemY.seq ?_
      refine SemY.regionL ?_
      refine RunL.segF (n := 71) e_evening_Relabel_d_ok 2 [(6, .e0), (7, .v (.int .i64 2))] hp16 (by kernel_rfl) ?_
      refine RunL.done rfl (SemY.fr (l' := [(6, .e0), (7, .v (.int .i64 2))]) (by kernel_rfl) ?_)
      refine SemY.ret ?_
      have hq := Option.some.inj h; subst hq
      have hT19 : T hp16 ((own_ (ocL 1 50 (ocL 1 31 (ocL 1 3 (ocV cdI)))) .e0 ([] : (List (List (List Int))))) :: L) := (T.e0 (o := (ocL 1 31 (ocL 1 3 (ocV cdI)))) hT17)
      exact ⟨⟨Fr 71 [(6, .e0), (7, .v (.int .i64 2))], hp16⟩, WkY.f1, .inr rfl, [.e0, .v (.int .i64 2)], (by kernel_rfl), ⟨.e0, rfl, hT19⟩⟩
    · rw [if_f hb18] at h
      refine SemY.skip ?_
      refine SemY.seq ?_
      refine SemY.regionL ?_
      refine RunL.segF (n := 71) e_evening_Relabel_d_ok 1 [(2, .sl 1 (x2.map cdI.enc)), (39, .sl 1 (x1.map (cdL 1 (cdL 1 cdI)).enc))] hp16 (by kernel_rfl) ?_
      obtain ⟨v20, hv20, h⟩ := Option.bind_eq_some_iff.1 h
      refine RunL.inlT (E := e_evening_Relabel_d) (e := e_evening_clone_d) rfl rfl e_evening_clone_d_ok rfl rfl (fid := 79) (caps := []) (xs := [.sl 1 (x1.map (cdL 1 (cdL 1 cdI)).enc)]) (fn := Tryd.f79) (c := cb_evening_clone_d) (Out := fun v h' => ∃ (z0 : AV), v = z0 ∧ T h' ((own_ (ocL 1 50 (ocL 1 31 (ocL 1 3 (ocV cdI)))) z0 v20) :: L)) rfl (wantedA_none rfl) (by kernel_rfl) (by kernel_rfl) (by kernel_rfl) (by kernel_rfl) (by show 1 ≤ 33; decide) (evening_clone_d_sem x1 _ hv20 hT17) ?_
      rintro xx hp22 ⟨e21, hqhp22, hT230⟩; subst xx
      have hT23 : T hp22 ((own_ (ocL 1 50 (ocL 1 31 (ocL 1 3 (ocV cdI)))) e21 v20) :: L) := hT230
      refine RunL.segF (n := 71) e_evening_Relabel_d_ok 1 [(2, .sl 1 (x2.map cdI.enc)), (10, e21)] hp22 (by kernel_rfl) ?_
      refine RunL.done rfl (SemY.fr (l' := [(2, .sl 1 (x2.map cdI.enc)), (10, e21)]) (by kernel_rfl) ?_)
      refine SemY.seq ?_
      refine SemY.seq ?_
      refine SemY.regionL ?_
      refine RunL.segF (n := 71) e_evening_Relabel_d_ok 1 [(2, .sl 1 (x2.map cdI.enc)), (10, e21), (41, e21)] hp22 (by kernel_rfl) ?_
      refine RunL.one e_evening_Relabel_d_ok 0 rfl (op_q (wantedA_none rfl) rfl (q_len (a := e21) (by kernel_rfl) (len_B hT23 (by kernel_rfl)))) ?_
      refine RunL.segF (n := 71) e_evening_Relabel_d_ok 1 [(2, .sl 1 (x2.map cdI.enc)), (10, e21), (41, e21), (42, .v (.int .i64 (v20.length : Int))), (43, .v (.int .i64 0))] hp22 (by kernel_rfl) ?_
      refine RunL.done rfl (SemY.fr (l' := [(2, .sl 1 (x2.map cdI.enc)), (10, e21), (41, e21), (42, .v (.int .i64 (v20.length : Int))), (43, .v (.int .i64 0))]) (by kernel_rfl) ?_)
      refine SemY.block ?_
      refine SemY.loop (n := 100000) ?_
      obtain ⟨r70, hr70, h⟩ := Option.bind_eq_some_iff.1 h
      refine SemYN.cutT (SemYN.wk WkY.f1 (evening_Relabel_d_1_ok x2 v20 e21 _ 0 v20 _ hr70  hp22 hT23)) ?_
      rintro _ ⟨hp71, hT72, rfl⟩
      refine SemY.seq ?_
      refine SemY.regionL ?_
      refine RunL.segF (n := 71) e_evening_Relabel_d_ok 3 [(6, e21), (7, .v (.int .i64 0))] hp71 (by kernel_rfl) ?_
      refine RunL.done rfl (SemY.fr (l' := [(6, e21), (7, .v (.int .i64 0))]) (by kernel_rfl) ?_)
      refine SemY.ret ?_
      have hq := Option.some.inj h; subst hq
      exact ⟨⟨Fr 71 [(6, e21), (7, .v (.int .i64 0))], hp71⟩, WkY.f1, .inr rfl, [e21, .v (.int .i64 0)], (by kernel_rfl), ⟨e21, rfl, hT72⟩⟩
/- trestle/evening.Join -/
noncomputable def e_evening_Join_d : Env := (E0.withX 27 t_evening_Check)
theorem e_evening_Join_d_ok : EnvOk e_evening_Join_d := (EnvOk.withX E0_ok x_evening_Check.1 x_evening_Check.2)
noncomputable def cb_evening_Join_d : Code := codeOf Tryd.f30
def evening_Join_d_1 (x0 : Int) (x1 : (List (List (List Int)))) (x2 : (List (List (List Int)))) : Nat → Int → Option ((Unit) ⊕ (Int))
  | 0, _ => none
  | f + 1, c5 =>
    if (decide (c5 < (([x1, x2] : List (List (List (List Int)))).length : Int))) = true then
    (idx ([x1, x2] : List (List (List (List Int)))) c5).bind fun v7 =>
    (evening_Check x0 [] v7).bind fun v8 =>
    if (v8.2 != 0) = true then
    some (.inr v8.2)
    else
    evening_Join_d_1 x0 x1 x2 f (wr .i64 (c5 + 1))
    else
    some (.inl ())
def evening_Join_d (x0 : Int) (x1 : (List (List (List Int)))) (x2 : (List (List (List Int)))) : Option (Int × (List (List (List Int)))) :=
  (evening_Join_d_1 x0 x1 x2 100000 0).bind fun r15 =>
  match r15 with
  | (.inl _w16) =>
    if (decide ((wr .i64 ((x1.length : Int) + (x2.length : Int))) > 64)) = true then
    some (7, ([] : (List (List (List Int)))))
    else
    (evening_clone_d x1).bind fun v21 =>
    (evening_clone_d x2).bind fun v25 =>
    if (capOk 24 (v21.length + v25.length)) = true then
    some (0, (v21 ++ v25))
    else none
  | (.inr w35) =>
    some (w35, ([] : (List (List (List Int)))))
set_option maxHeartbeats 4000000 in
set_option maxRecDepth 100000 in
theorem evening_Join_d_1_ok {L : List Asn} (x0 : Int) (x1 : (List (List (List Int)))) (x2 : (List (List (List Int)))) (e4 : AV) : ∀ (f : Nat) (c5 : Int) (r : (Unit) ⊕ (Int)), evening_Join_d_1 x0 x1 x2 f c5 = some r → ∀ (hp : Hp), T hp ((own_ (ocL 1 22 (ocV (cdL 1 (cdL 1 (cdL 1 cdI))))) e4 ([x1, x2] : List (List (List (List Int))))) :: L) → SemYN e_evening_Join_d ⟨none, false⟩ (pc cb_evening_Join_d [1, 0, 1, 0, 0]) f ⟨Fr 41 [(0, .v (.int .i64 x0)), (1, .sl 1 (x1.map (cdL 1 (cdL 1 cdI)).enc)), (2, .sl 1 (x2.map (cdL 1 (cdL 1 cdI)).enc)), (14, e4), (15, .v (.int .i64 (([x1, x2] : List (List (List (List Int)))).length : Int))), (16, .v (.int .i64 c5))], hp⟩ (fun e s => match r with
  | (.inl _w) => e = (.exit 0) ∧ ∃ s2, (∃ (h' : Hp), T h' (L) ∧ s2 = ⟨Fr 41 [(1, .sl 1 (x1.map (cdL 1 (cdL 1 cdI)).enc)), (2, .sl 1 (x2.map (cdL 1 (cdL 1 cdI)).enc))], h'⟩) ∧ WkY e_evening_Join_d s s2
  | (.inr w) => e = .ret ∧ ∃ s2, (∃ (h' : Hp), T h' ((own_ (ocL 1 50 (ocL 1 31 (ocL 1 3 (ocV cdI)))) .e0 ([] : (List (List (List Int))))) :: L) ∧ s2 = ⟨Fr 41 [(6, .e0), (7, .v (.int .i64 w))], h'⟩) ∧ WkY e_evening_Join_d s s2) := by
  intro f
  induction f with
  | zero => intro c5 r h; cases h
  | succ f ih0 =>
    intro c5 r h  hp hT
    unfold evening_Join_d_1 at h
    refine SemYN.succ ?_
    refine SemY.seq ?_
    refine SemY.regionL ?_
    refine RunL.segF (n := 41) e_evening_Join_d_ok 1 [(0, .v (.int .i64 x0)), (1, .sl 1 (x1.map (cdL 1 (cdL 1 cdI)).enc)), (2, .sl 1 (x2.map (cdL 1 (cdL 1 cdI)).enc)), (14, e4), (15, .v (.int .i64 (([x1, x2] : List (List (List (List Int)))).length : Int))), (16, .v (.int .i64 c5)), (17, .v (.bool (decide (c5 < (([x1, x2] : List (List (List (List Int)))).length : Int)))))] hp (by kernel_rfl) ?_
    refine RunL.done rfl (SemY.fr (l' := [(0, .v (.int .i64 x0)), (1, .sl 1 (x1.map (cdL 1 (cdL 1 cdI)).enc)), (2, .sl 1 (x2.map (cdL 1 (cdL 1 cdI)).enc)), (14, e4), (15, .v (.int .i64 (([x1, x2] : List (List (List (List Int)))).length : Int))), (16, .v (.int .i64 c5)), (17, .v (.bool (decide (c5 < (([x1, x2] : List (List (List (List Int)))).length : Int)))))]) (by kernel_rfl) ?_)
    refine SemY.seq ?_
    refine SemY.cond (b := (decide (c5 < (([x1, x2] : List (List (List (List Int)))).length : Int)))) (by kernel_rfl) (fun hb6 => ?_) (fun hb6 => ?_)
    · rw [if_pos hb6] at h
      refine SemY.skip ?_
      refine SemY.seq ?_
      refine SemY.block ?_
      refine SemY.seq ?_
      refine SemY.regionL ?_
      obtain ⟨v7, hv7, h⟩ := Option.bind_eq_some_iff.1 h
      refine RunL.one e_evening_Join_d_ok 0 rfl (op_q (wantedA_none rfl) rfl (q_indexAddr (a := e4) (b := .v (.int .i64 c5)) (by kernel_rfl) (by kernel_rfl) (ix_B (bytes := 24) hT (by kernel_rfl) hv7))) ?_
      refine RunL.one e_evening_Join_d_ok 0 rfl (op_q (wantedA_none rfl) rfl (q_load (p := eAt e4 c5.toNat) (by kernel_rfl) (ld_own0 (y := .sl 1 (v7.map (cdL 1 (cdL 1 cdI)).enc)) (m := 1) (g := false) hT (idx_at hv7).2 (by kernel_rfl) (by kernel_rfl) (by kernel_rfl)))) ?_
      refine RunL.segF (n := 41) e_evening_Join_d_ok 1 [(0, .v (.int .i64 x0)), (1, .sl 1 (x1.map (cdL 1 (cdL 1 cdI)).enc)), (2, .sl 1 (x2.map (cdL 1 (cdL 1 cdI)).enc)), (9, .sl 1 (v7.map (cdL 1 (cdL 1 cdI)).enc)), (14, e4), (15, .v (.int .i64 (([x1, x2] : List (List (List (List Int)))).length : Int))), (16, .v (.int .i64 c5))] hp (by kernel_rfl) ?_
      refine RunL.done rfl (SemY.fr (l' := [(0, .v (.int .i64 x0)), (1, .sl 1 (x1.map (cdL 1 (cdL 1 cdI)).enc)), (2, .sl 1 (x2.map (cdL 1 (cdL 1 cdI)).enc)), (9, .sl 1 (v7.map (cdL 1 (cdL 1 cdI)).enc)), (14, e4), (15, .v (.int .i64 (([x1, x2] : List (List (List (List Int)))).length : Int))), (16, .v (.int .i64 c5))]) (by kernel_rfl) ?_)
      refine SemY.seq ?_
      refine SemY.regionL ?_
      refine RunL.segF (n := 41) e_evening_Join_d_ok 2 [(0, .v (.int .i64 x0)), (1, .sl 1 (x1.map (cdL 1 (cdL 1 cdI)).enc)), (2, .sl 1 (x2.map (cdL 1 (cdL 1 cdI)).enc)), (14, e4), (15, .v (.int .i64 (([x1, x2] : List (List (List (List Int)))).length : Int))), (16, .v (.int .i64 c5)), (21, .v (.int .i64 x0)), (22, .sl 1 (v7.map (cdL 1 (cdL 1 cdI)).enc))] hp (by kernel_rfl) ?_
      obtain ⟨v8, hv8, h⟩ := Option.bind_eq_some_iff.1 h
      refine RunL.call e_evening_Join_d_ok (fid := 27) (b := v8) (s := cs_evening_Check) (F := fun a => evening_Check a.1 a.2.1 a.2.2.1) (er := er_evening_Check) (xs := [.v (.int .i64 x0), .e0, .sl 1 (v7.map (cdL 1 (cdL 1 cdI)).enc)]) (a := (x0, [], v7, ())) rfl (wantedA_none rfl) (by kernel_rfl) (by kernel_rfl) (by kernel_rfl) (by kernel_rfl) (Sns.cons (Sn.enc (c := cdI) (v := x0)) (Sns.cons Sn.e0 (Sns.cons (Sn.enc (c := (cdL 1 (cdL 1 (cdL 1 cdI)))) (v := v7)) Sns.nil))) (.inl (by kernel_rfl)) hv8 ?_
      refine RunL.segF (n := 41) e_evening_Join_d_ok 5 [(0, .v (.int .i64 x0)), (1, .sl 1 (x1.map (cdL 1 (cdL 1 cdI)).enc)), (2, .sl 1 (x2.map (cdL 1 (cdL 1 cdI)).enc)), (11, .v (.int .i64 v8.2)), (14, e4), (15, .v (.int .i64 (([x1, x2] : List (List (List (List Int)))).length : Int))), (16, .v (.int .i64 c5))] hp (by kernel_rfl) ?_
      refine RunL.done rfl (SemY.fr (l' := [(0, .v (.int .i64 x0)), (1, .sl 1 (x1.map (cdL 1 (cdL 1 cdI)).enc)), (2, .sl 1 (x2.map (cdL 1 (cdL 1 cdI)).enc)), (11, .v (.int .i64 v8.2)), (14, e4), (15, .v (.int .i64 (([x1, x2] : List (List (List (List Int)))).length : Int))), (16, .v (.int .i64 c5))]) (by kernel_rfl) ?_)
      refine SemY.seq ?_
      refine SemY.regionL ?_
      refine RunL.segF (n := 41) e_evening_Join_d_ok 2 [(0, .v (.int .i64 x0)), (1, .sl 1 (x1.map (cdL 1 (cdL 1 cdI)).enc)), (2, .sl 1 (x2.map (cdL 1 (cdL 1 cdI)).enc)), (11, .v (.int .i64 v8.2)), (14, e4), (15, .v (.int .i64 (([x1, x2] : List (List (List (List Int)))).length : Int))), (16, .v (.int .i64 c5)), (27, .v (.bool (v8.2 != 0)))] hp (by kernel_rfl) ?_
      refine RunL.done rfl (SemY.fr (l' := [(0, .v (.int .i64 x0)), (1, .sl 1 (x1.map (cdL 1 (cdL 1 cdI)).enc)), (2, .sl 1 (x2.map (cdL 1 (cdL 1 cdI)).enc)), (11, .v (.int .i64 v8.2)), (14, e4), (15, .v (.int .i64 (([x1, x2] : List (List (List (List Int)))).length : Int))), (16, .v (.int .i64 c5)), (27, .v (.bool (v8.2 != 0)))]) (by kernel_rfl) ?_)
      refine SemY.cond (b := (v8.2 != 0)) (by kernel_rfl) (fun hb9 => ?_) (fun hb9 => ?_)
      · rw [if_pos hb9] at h
        refine SemY.seq ?_
        refine SemY.regionL ?_
        refine RunL.segF (n := 41) e_evening_Join_d_ok 3 [(6, .e0), (7, .v (.int .i64 v8.2))] hp (by kernel_rfl) ?_
        refine RunL.done rfl (SemY.fr (l' := [(6, .e0), (7, .v (.int .i64 v8.2))]) (by kernel_rfl) ?_)
        refine SemY.ret ?_
        have hq := Option.some.inj h; subst hq
        have hT12 : T hp ((own_ (ocL 1 50 (ocL 1 31 (ocL 1 3 (ocV cdI)))) .e0 ([] : (List (List (List Int))))) :: (own_ (ocL 1 22 (ocV (cdL 1 (cdL 1 (cdL 1 cdI))))) e4 ([x1, x2] : List (List (List (List Int))))) :: L) := (T.e0 (o := (ocL 1 31 (ocL 1 3 (ocV cdI)))) hT)
        have hT13 : T hp ((own_ (ocL 1 50 (ocL 1 31 (ocL 1 3 (ocV cdI)))) .e0 ([] : (List (List (List Int))))) :: L) := (hT12.front 1 rfl).drop
        exact ⟨rfl, _, ⟨hp, hT13, rfl⟩, WkY.f1⟩
      · rw [if_f hb9] at h
        refine SemY.skip ?_
        refine SemY.regionL ?_
        refine RunL.segF (n := 41) e_evening_Join_d_ok 2 [(0, .v (.int .i64 x0)), (1, .sl 1 (x1.map (cdL 1 (cdL 1 cdI)).enc)), (2, .sl 1 (x2.map (cdL 1 (cdL 1 cdI)).enc)), (14, e4), (15, .v (.int .i64 (([x1, x2] : List (List (List (List Int)))).length : Int))), (16, .v (.int .i64 (wr .i64 (c5 + 1))))] hp (by kernel_rfl) ?_
        refine RunL.done rfl ?_
        exact SemYN.wk WkY.f1 (ih0 (wr .i64 (c5 + 1)) _ h  hp hT)
    · rw [if_f hb6] at h
      refine SemY.exit ?_
      have hq := Option.some.inj h; subst hq
      have hT14 : T hp (L) := hT.drop
      exact ⟨rfl, _, ⟨hp, hT14, rfl⟩, WkY.f1⟩
set_option maxHeartbeats 4000000 in
set_option maxRecDepth 100000 in
theorem evening_Join_d_sem {L : List Asn} {hp : Hp} (x0 : Int) (x1 : (List (List (List Int)))) (x2 : (List (List (List Int)))) (r : Int × (List (List (List Int)))) (h : evening_Join_d x0 x1 x2 = some r) (hT : T hp (L)) : SemY e_evening_Join_d ⟨none, false⟩ cb_evening_Join_d ⟨Fr 41 (pairs0 0 [.v (.int .i64 x0), .sl 1 (x1.map (cdL 1 (cdL 1 cdI)).enc), .sl 1 (x2.map (cdL 1 (cdL 1 cdI)).enc)]), hp⟩ fun x s' => (x = .normal ∨ x = .ret) ∧ ∃ ys, resA e_evening_Join_d.P s'.fr s'.hp Tryd.f30.results.toList = some ys ∧ (fun v h' => ∃ (z0 : AV), v = .tp [z0, .v (.int .i64 r.1)] ∧ T h' ((own_ (ocL 1 50 (ocL 1 31 (ocL 1 3 (ocV cdI)))) z0 r.2) :: L)) (retA ys) s'.hp := by
  unfold evening_Join_d at h
  refine SemY.wkQ (SemY.wk (s1 := ⟨Fr 41 [(0, .v (.int .i64 x0)), (1, .sl 1 (x1.map (cdL 1 (cdL 1 cdI)).enc)), (2, .sl 1 (x2.map (cdL 1 (cdL 1 cdI)).enc))], hp⟩) WkY.f1 ?_)
  refine SemY.seq ?_
  refine SemY.regionL ?_
  refine RunL.segF (n := 41) e_evening_Join_d_ok 2 [(0, .v (.int .i64 x0)), (1, .sl 1 (x1.map (cdL 1 (cdL 1 cdI)).enc)), (2, .sl 1 (x2.map (cdL 1 (cdL 1 cdI)).enc))] hp (by kernel_rfl) ?_
  refine RunL.done rfl (SemY.fr (l' := [(0, .v (.int .i64 x0)), (1, .sl 1 (x1.map (cdL 1 (cdL 1 cdI)).enc)), (2, .sl 1 (x2.map (cdL 1 (cdL 1 cdI)).enc))]) (by kernel_rfl) ?_)
  refine SemY.seq ?_
  refine SemY.seq ?_
  refine SemY.regionL ?_
  refine RunL.segF (n := 41) e_evening_Join_d_ok 2 [(0, .v (.int .i64 x0)), (1, .sl 1 (x1.map (cdL 1 (cdL 1 cdI)).enc)), (2, .sl 1 (x2.map (cdL 1 (cdL 1 cdI)).enc)), (12, .sl 1 (x1.map (cdL 1 (cdL 1 cdI)).enc)), (13, .sl 1 (x2.map (cdL 1 (cdL 1 cdI)).enc))] hp (by kernel_rfl) ?_
  obtain ⟨e4, hp1, hb2, hT30⟩ := lit_ownB (P := Tryd.prog) (bytes := 24) (k := 1) (t := 22) (ty := 89) (xs := ([x1, x2] : List (List (List (List Int))))) (n := 2) (fit_V (k := 1) (fun _ => ⟨rfl, rfl, rfl⟩)) (els_leaf (c := (cdL 1 (cdL 1 (cdL 1 cdI)))) (xs := ([x1, x2] : List (List (List (List Int))))) hT) rfl (by kernel_rfl) (by kernel_rfl) (by kernel_rfl)
  have hT3 : T hp1 ((own_ (ocL 1 22 (ocV (cdL 1 (cdL 1 (cdL 1 cdI))))) e4 ([x1, x2] : List (List (List (List Int))))) :: L) := hT30
  refine RunL.one e_evening_Join_d_ok 0 rfl (op_n (wantedA_none rfl) rfl (by kernel_rfl) (n_lit (xs := enumA 0 [.sl 1 (x1.map (cdL 1 (cdL 1 cdI)).enc), .sl 1 (x2.map (cdL 1 (cdL 1 cdI)).enc)]) (by kernel_rfl) hb2)) ?_
  refine RunL.one e_evening_Join_d_ok 0 rfl (op_q (wantedA_none rfl) rfl (q_len (a := e4) (by kernel_rfl) (len_B hT3 (by kernel_rfl)))) ?_
  refine RunL.segF (n := 41) e_evening_Join_d_ok 1 [(0, .v (.int .i64 x0)), (1, .sl 1 (x1.map (cdL 1 (cdL 1 cdI)).enc)), (2, .sl 1 (x2.map (cdL 1 (cdL 1 cdI)).enc)), (14, e4), (15, .v (.int .i64 (([x1, x2] : List (List (List (List Int)))).length : Int))), (16, .v (.int .i64 0))] hp1 (by kernel_rfl) ?_
  refine RunL.done rfl (SemY.fr (l' := [(0, .v (.int .i64 x0)), (1, .sl 1 (x1.map (cdL 1 (cdL 1 cdI)).enc)), (2, .sl 1 (x2.map (cdL 1 (cdL 1 cdI)).enc)), (14, e4), (15, .v (.int .i64 (([x1, x2] : List (List (List (List Int)))).length : Int))), (16, .v (.int .i64 0))]) (by kernel_rfl) ?_)
  refine SemY.block ?_
  refine SemY.loop (n := 100000) ?_
  obtain ⟨r15, hr15, h⟩ := Option.bind_eq_some_iff.1 h
  rcases r15 with w16 | w35
  · try dsimp only at h
    refine SemYN.cutT (SemYN.wk WkY.f1 (evening_Join_d_1_ok x0 x1 x2 e4 _ 0 _ hr15  hp1 hT3)) ?_
    rintro _ ⟨hp17, hT18, rfl⟩
    refine SemY.seq ?_
    refine SemY.seq ?_
    refine SemY.regionL ?_
    refine RunL.segF (n := 41) e_evening_Join_d_ok 1 [(1, .sl 1 (x1.map (cdL 1 (cdL 1 cdI)).enc)), (2, .sl 1 (x2.map (cdL 1 (cdL 1 cdI)).enc)), (30, .sl 1 (x1.map (cdL 1 (cdL 1 cdI)).enc))] hp17 (by kernel_rfl) ?_
    refine RunL.one e_evening_Join_d_ok 0 rfl (op_q (wantedA_none rfl) rfl (q_len (a := .sl 1 (x1.map (cdL 1 (cdL 1 cdI)).enc)) (by kernel_rfl) (len_sl (el := 50) (by kernel_rfl)))) ?_
    refine RunL.segF (n := 41) e_evening_Join_d_ok 1 [(1, .sl 1 (x1.map (cdL 1 (cdL 1 cdI)).enc)), (2, .sl 1 (x2.map (cdL 1 (cdL 1 cdI)).enc)), (31, .v (.int .i64 (x1.length : Int))), (32, .sl 1 (x2.map (cdL 1 (cdL 1 cdI)).enc))] hp17 (by kernel_rfl) ?_
    refine RunL.one e_evening_Join_d_ok 0 rfl (op_q (wantedA_none rfl) rfl (q_len (a := .sl 1 (x2.map (cdL 1 (cdL 1 cdI)).enc)) (by kernel_rfl) (len_sl (el := 50) (by kernel_rfl)))) ?_
    refine RunL.segF (n := 41) e_evening_Join_d_ok 2 [(1, .sl 1 (x1.map (cdL 1 (cdL 1 cdI)).enc)), (2, .sl 1 (x2.map (cdL 1 (cdL 1 cdI)).enc)), (35, .v (.bool (decide ((wr .i64 ((x1.length : Int) + (x2.length : Int))) > 64))))] hp17 (by kernel_rfl) ?_
    refine RunL.done rfl (SemY.fr (l' := [(1, .sl 1 (x1.map (cdL 1 (cdL 1 cdI)).enc)), (2, .sl 1 (x2.map (cdL 1 (cdL 1 cdI)).enc)), (35, .v (.bool (decide ((wr .i64 ((x1.length : Int) + (x2.length : Int))) > 64))))]) (by kernel_rfl) ?_)
    refine SemY.cond (b := (decide ((wr .i64 ((x1.length : Int) + (x2.length : Int))) > 64))) (by kernel_rfl) (fun hb19 => ?_) (fun hb19 => ?_)
    · rw [if_pos hb19] at h
      refine SemY.seq ?_
      refine SemY.regionL ?_
      refine RunL.segF (n := 41) e_evening_Join_d_ok 2 [(6, .e0), (7, .v (.int .i64 7))] hp17 (by kernel_rfl) ?_
      refine RunL.done rfl (SemY.fr (l' := [(6, .e0), (7, .v (.int .i64 7))]) (by kernel_rfl) ?_)
      refine SemY.ret ?_
      have hq := Option.some.inj h; subst hq
      have hT20 : T hp17 ((own_ (ocL 1 50 (ocL 1 31 (ocL 1 3 (ocV cdI)))) .e0 ([] : (List (List (List Int))))) :: L) := (T.e0 (o := (ocL 1 31 (ocL 1 3 (ocV cdI)))) hT18)
      exact ⟨⟨Fr 41 [(6, .e0), (7, .v (.int .i64 7))], hp17⟩, WkY.f1, .inr rfl, [.e0, .v (.int .i64 7)], (by kernel_rfl), ⟨.e0, rfl, hT20⟩⟩
    · rw [if_f hb19] at h
      refine SemY.skip ?_
      refine SemY.seq ?_
      refine SemY.regionL ?_
      refine RunL.segF (n := 41) e_evening_Join_d_ok 1 [(2, .sl 1 (x2.map (cdL 1 (cdL 1 cdI)).enc)), (36, .sl 1 (x1.map (cdL 1 (cdL 1 cdI)).enc))] hp17 (by kernel_rfl) ?_
      obtain ⟨v21, hv21, h⟩ := Option.bind_eq_some_iff.1 h
      refine RunL.inlT (E := e_evening_Join_d) (e := e_evening_clone_d) rfl rfl e_evening_clone_d_ok rfl rfl (fid := 79) (caps := []) (xs := [.sl 1 (x1.map (cdL 1 (cdL 1 cdI)).enc)]) (fn := Tryd.f79) (c := cb_evening_clone_d) (Out := fun v h' => ∃ (z0 : AV), v = z0 ∧ T h' ((own_ (ocL 1 50 (ocL 1 31 (ocL 1 3 (ocV cdI)))) z0 v21) :: L)) rfl (wantedA_none rfl) (by kernel_rfl) (by kernel_rfl) (by kernel_rfl) (by kernel_rfl) (by show 1 ≤ 33; decide) (evening_clone_d_sem x1 _ hv21 hT18) ?_
      rintro xx hp23 ⟨e22, hqhp23, hT240⟩; subst xx
      have hT24 : T hp23 ((own_ (ocL 1 50 (ocL 1 31 (ocL 1 3 (ocV cdI)))) e22 v21) :: L) := hT240
      refine RunL.segF (n := 41) e_evening_Join_d_ok 1 [(37, e22), (38, .sl 1 (x2.map (cdL 1 (cdL 1 cdI)).enc))] hp23 (by kernel_rfl) ?_
      obtain ⟨v25, hv25, h⟩ := Option.bind_eq_some_iff.1 h
      refine RunL.inlT (E := e_evening_Join_d) (e := e_evening_clone_d) rfl rfl e_evening_clone_d_ok rfl rfl (fid := 79) (caps := []) (xs := [.sl 1 (x2.map (cdL 1 (cdL 1 cdI)).enc)]) (fn := Tryd.f79) (c := cb_evening_clone_d) (Out := fun v h' => ∃ (z0 : AV), v = z0 ∧ T h' ((own_ (ocL 1 50 (ocL 1 31 (ocL 1 3 (ocV cdI)))) z0 v25) :: (own_ (ocL 1 50 (ocL 1 31 (ocL 1 3 (ocV cdI)))) e22 v21) :: L)) rfl (wantedA_none rfl) (by kernel_rfl) (by kernel_rfl) (by kernel_rfl) (by kernel_rfl) (by show 1 ≤ 33; decide) (evening_clone_d_sem x2 _ hv25 hT24) ?_
      rintro xx hp27 ⟨e26, hqhp27, hT280⟩; subst xx
      have hT28 : T hp27 ((own_ (ocL 1 50 (ocL 1 31 (ocL 1 3 (ocV cdI)))) e26 v25) :: (own_ (ocL 1 50 (ocL 1 31 (ocL 1 3 (ocV cdI)))) e22 v21) :: L) := hT280
      by_cases hk33 : (capOk 24 (v21.length + v25.length)) = true
      case neg => rw [if_neg hk33] at h; cases h
      rw [if_pos hk33] at h
      have hT34 : T hp27 ((own_ (ocL 1 50 (ocL 1 31 (ocL 1 3 (ocV cdI)))) e22 v21) :: (own_ (ocL 1 50 (ocL 1 31 (ocL 1 3 (ocV cdI)))) e26 v25) :: L) := ((hT28.front 0 rfl).front 1 rfl)
      obtain ⟨e32, hp29, hb30, hT310⟩ := app_ownB (P := Tryd.prog) (ty := 22) (ty2 := 22) (bytes := 24) hT34 (by kernel_rfl) (by kernel_rfl) hk33
      have hT31 : T hp29 ((own_ (ocL 1 50 (ocL 1 31 (ocL 1 3 (ocV cdI)))) e32 (v21 ++ v25)) :: L) := hT310
      refine RunL.one e_evening_Join_d_ok 0 rfl (op_w (wantedA_none rfl) rfl (by kernel_rfl) (by kernel_rfl) (w_append (a := e22) (b := e26) (by kernel_rfl) (by kernel_rfl) hb30)) ?_
      refine RunL.segF (n := 41) e_evening_Join_d_ok 2 [(6, e32), (7, .v (.int .i64 0))] hp29 (by kernel_rfl) ?_
      refine RunL.done rfl (SemY.fr (l' := [(6, e32), (7, .v (.int .i64 0))]) (by kernel_rfl) ?_)
      refine SemY.ret ?_
      have hq := Option.some.inj h; subst hq
      exact ⟨⟨Fr 41 [(6, e32), (7, .v (.int .i64 0))], hp29⟩, WkY.f1, .inr rfl, [e32, .v (.int .i64 0)], (by kernel_rfl), ⟨e32, rfl, hT31⟩⟩
  · try dsimp only at h
    refine SemYN.cutT (SemYN.wk WkY.f1 (evening_Join_d_1_ok x0 x1 x2 e4 _ 0 _ hr15  hp1 hT3)) ?_
    rintro _ ⟨hp36, hT37, rfl⟩
    have hq := Option.some.inj h; subst hq
    exact ⟨⟨Fr 41 [(6, .e0), (7, .v (.int .i64 w35))], hp36⟩, WkY.f1, .inr rfl, [.e0, .v (.int .i64 w35)], (by kernel_rfl), ⟨.e0, rfl, hT37⟩⟩
/- trestle/trestlekit.CopyInts -/
noncomputable def e_kit_CopyInts_d : Env := E0
theorem e_kit_CopyInts_d_ok : EnvOk e_kit_CopyInts_d := E0_ok
noncomputable def cb_kit_CopyInts_d : Code := codeOf Tryd.f132
def kit_CopyInts_d_1 (x0 : (List Int)) : Nat → Int → (List Int) → Option (((List Int)))
  | 0, _, _ => none
  | f + 1, c2, c4 =>
    if (decide (c2 < (x0.length : Int))) = true then
    (idx x0 c2).bind fun v6 =>
    if (capOk 8 (c4.length + ([v6] : List Int).length)) = true then
    kit_CopyInts_d_1 x0 f (wr .i64 (c2 + 1)) (c4 ++ ([v6] : List Int))
    else none
    else
    some c4
def kit_CopyInts_d (x0 : (List Int)) : Option ((List Int)) :=
  (kit_CopyInts_d_1 x0 100000 0 ([] : (List Int))).bind fun r19 =>
  some r19
set_option maxHeartbeats 4000000 in
set_option maxRecDepth 100000 in
theorem kit_CopyInts_d_1_ok {L : List Asn} (x0 : (List Int)) : ∀ (f : Nat) (c2 : Int) (c4 : (List Int)) (r : ((List Int))), kit_CopyInts_d_1 x0 f c2 c4 = some r → ∀ (e3 : AV) (hp : Hp), T hp ((own_ (ocL 1 3 (ocV cdI)) e3 c4) :: L) → SemYN e_kit_CopyInts_d ⟨none, false⟩ (pc cb_kit_CopyInts_d [1, 1, 0, 1, 0, 0]) f ⟨Fr 19 [(0, .sl 1 (x0.map cdI.enc)), (3, e3), (4, .v (.int .i64 c2))], hp⟩ (fun e s => e = (.exit 0) ∧ ∃ s2, (∃ (e17 : AV) (h' : Hp), T h' ((own_ (ocL 1 3 (ocV cdI)) e17 r) :: L) ∧ s2 = ⟨Fr 19 [(3, e17)], h'⟩) ∧ WkY e_kit_CopyInts_d s s2) := by
  intro f
  induction f with
  | zero => intro c2 c4 r h; cases h
  | succ f ih0 =>
    intro c2 c4 r h e3 hp hT
    unfold kit_CopyInts_d_1 at h
    refine SemYN.succ ?_
    refine SemY.seq ?_
    refine SemY.seq ?_
    refine SemY.regionL ?_
    refine RunL.segF (n := 19) e_kit_CopyInts_d_ok 2 [(0, .sl 1 (x0.map cdI.enc)), (3, e3), (4, .v (.int .i64 c2)), (5, .v (.int .i64 c2)), (6, .sl 1 (x0.map cdI.enc))] hp (by kernel_rfl) ?_
    refine RunL.one e_kit_CopyInts_d_ok 0 rfl (op_q (wantedA_none rfl) rfl (q_len (a := .sl 1 (x0.map cdI.enc)) (by kernel_rfl) (len_sl (el := 3) (by kernel_rfl)))) ?_
    refine RunL.segF (n := 19) e_kit_CopyInts_d_ok 1 [(0, .sl 1 (x0.map cdI.enc)), (3, e3), (4, .v (.int .i64 c2)), (8, .v (.bool (decide (c2 < (x0.length : Int)))))] hp (by kernel_rfl) ?_
    refine RunL.done rfl (SemY.fr (l' := [(0, .sl 1 (x0.map cdI.enc)), (3, e3), (4, .v (.int .i64 c2)), (8, .v (.bool (decide (c2 < (x0.length : Int)))))]) (by kernel_rfl) ?_)
    refine SemY.cond (b := (decide (c2 < (x0.length : Int)))) (by kernel_rfl) (fun hb5 => ?_) (fun hb5 => ?_)
    · rw [if_pos hb5] at h
      refine SemY.skip ?_
      refine SemY.seq ?_
      refine SemY.block ?_
      refine SemY.regionL ?_
      refine RunL.segF (n := 19) e_kit_CopyInts_d_ok 3 [(0, .sl 1 (x0.map cdI.enc)), (4, .v (.int .i64 c2)), (11, e3), (12, .sl 1 (x0.map cdI.enc)), (13, .v (.int .i64 c2))] hp (by kernel_rfl) ?_
      obtain ⟨v6, hv6, h⟩ := Option.bind_eq_some_iff.1 h
      refine RunL.one e_kit_CopyInts_d_ok 0 rfl (op_q (wantedA_none rfl) rfl (q_indexAddr (a := .sl 1 (x0.map cdI.enc)) (b := .v (.int .i64 c2)) (by kernel_rfl) (by kernel_rfl) (ix_sl (e := cdI.enc) (el := 3) (k := 1) (ki := .i64) (by kernel_rfl) (by kernel_rfl) hv6))) ?_
      refine RunL.segF (n := 19) e_kit_CopyInts_d_ok 1 [(0, .sl 1 (x0.map cdI.enc)), (4, .v (.int .i64 c2)), (11, e3), (15, .v (.int .i64 v6))] hp (by kernel_rfl) ?_
      obtain ⟨e10, hp7, hb8, hT90⟩ := lit_ownB (P := Tryd.prog) (bytes := 8) (k := 1) (t := 3) (ty := 31) (xs := ([v6] : List Int)) (n := 1) (fit_V (k := 1) (fun _ => ⟨rfl, rfl, rfl⟩)) (els_leaf (c := cdI) (xs := ([v6] : List Int)) hT) rfl (by kernel_rfl) (by kernel_rfl) (by kernel_rfl)
      have hT9 : T hp7 ((own_ (ocL 1 3 (ocV cdI)) e10 ([v6] : List Int)) :: (own_ (ocL 1 3 (ocV cdI)) e3 c4) :: L) := hT90
      refine RunL.one e_kit_CopyInts_d_ok 0 rfl (op_n (wantedA_none rfl) rfl (by kernel_rfl) (n_lit (xs := enumA 0 [.v (.int .i64 v6)]) (by kernel_rfl) hb8)) ?_
      by_cases hk15 : (capOk 8 (c4.length + ([v6] : List Int).length)) = true
      case neg => rw [if_neg hk15] at h; cases h
      rw [if_pos hk15] at h
      have hT16 : T hp7 ((own_ (ocL 1 3 (ocV cdI)) e3 c4) :: (own_ (ocL 1 3 (ocV cdI)) e10 ([v6] : List Int)) :: L) := ((hT9.front 0 rfl).front 1 rfl)
      obtain ⟨e14, hp11, hb12, hT130⟩ := app_ownB (P := Tryd.prog) (ty := 31) (ty2 := 31) (bytes := 8) hT16 (by kernel_rfl) (by kernel_rfl) hk15
      have hT13 : T hp11 ((own_ (ocL 1 3 (ocV cdI)) e14 (c4 ++ ([v6] : List Int))) :: L) := hT130
      refine RunL.one e_kit_CopyInts_d_ok 0 rfl (op_w (wantedA_none rfl) rfl (by kernel_rfl) (by kernel_rfl) (w_append (a := e3) (b := e10) (by kernel_rfl) (by kernel_rfl) hb12)) ?_
      refine RunL.segF (n := 19) e_kit_CopyInts_d_ok 1 [(0, .sl 1 (x0.map cdI.enc)), (3, e14), (4, .v (.int .i64 c2))] hp11 (by kernel_rfl) ?_
      refine RunL.done rfl (SemY.fr (l' := [(0, .sl 1 (x0.map cdI.enc)), (3, e14), (4, .v (.int .i64 c2))]) (by kernel_rfl) ?_)
      refine SemY.regionL ?_
      refine RunL.segF (n := 19) e_kit_CopyInts_d_ok 3 [(0, .sl 1 (x0.map cdI.enc)), (3, e14), (4, .v (.int .i64 (wr .i64 (c2 + 1))))] hp11 (by kernel_rfl) ?_
      refine RunL.done rfl ?_
      exact SemYN.wk WkY.f1 (ih0 (wr .i64 (c2 + 1)) (c4 ++ ([v6] : List Int)) _ h e14 hp11 hT13)
    · rw [if_f hb5] at h
      refine SemY.exit ?_
      have hq := Option.some.inj h; subst hq
      exact ⟨rfl, _, ⟨e3, hp, hT, rfl⟩, WkY.f1⟩
set_option maxHeartbeats 4000000 in
set_option maxRecDepth 100000 in
theorem kit_CopyInts_d_sem {L : List Asn} {hp : Hp} (x0 : (List Int)) (r : (List Int)) (h : kit_CopyInts_d x0 = some r) (hT : T hp (L)) : SemY e_kit_CopyInts_d ⟨none, false⟩ cb_kit_CopyInts_d ⟨Fr 19 (pairs0 0 [.sl 1 (x0.map cdI.enc)]), hp⟩ fun x s' => (x = .normal ∨ x = .ret) ∧ ∃ ys, resA e_kit_CopyInts_d.P s'.fr s'.hp Tryd.f132.results.toList = some ys ∧ (fun v h' => ∃ (z0 : AV), v = z0 ∧ T h' ((own_ (ocL 1 3 (ocV cdI)) z0 r) :: L)) (retA ys) s'.hp := by
  unfold kit_CopyInts_d at h
  refine SemY.wkQ (SemY.wk (s1 := ⟨Fr 19 [(0, .sl 1 (x0.map cdI.enc))], hp⟩) WkY.f1 ?_)
  refine SemY.seq ?_
  refine SemY.regionL ?_
  refine RunL.segF (n := 19) e_kit_CopyInts_d_ok 1 [(0, .sl 1 (x0.map cdI.enc))] hp (by kernel_rfl) ?_
  refine RunL.done rfl (SemY.fr (l' := [(0, .sl 1 (x0.map cdI.enc))]) (by kernel_rfl) ?_)
  refine SemY.seq ?_
  refine SemY.regionL ?_
  refine RunL.segF (n := 19) e_kit_CopyInts_d_ok 1 [(0, .sl 1 (x0.map cdI.enc)), (3, .e0)] hp (by kernel_rfl) ?_
  refine RunL.done rfl (SemY.fr (l' := [(0, .sl 1 (x0.map cdI.enc)), (3, .e0)]) (by kernel_rfl) ?_)
  refine SemY.seq ?_
  refine SemY.seq ?_
  refine SemY.regionL ?_
  refine RunL.segF (n := 19) e_kit_CopyInts_d_ok 1 [(0, .sl 1 (x0.map cdI.enc)), (3, .e0), (4, .v (.int .i64 0))] hp (by kernel_rfl) ?_
  refine RunL.done rfl (SemY.fr (l' := [(0, .sl 1 (x0.map cdI.enc)), (3, .e0), (4, .v (.int .i64 0))]) (by kernel_rfl) ?_)
  refine SemY.block ?_
  have hT1 : T hp ((own_ (ocL 1 3 (ocV cdI)) .e0 ([] : (List Int))) :: L) := (T.e0 (o := (ocV cdI)) hT)
  refine SemY.loop (n := 100000) ?_
  obtain ⟨r19, hr19, h⟩ := Option.bind_eq_some_iff.1 h
  refine SemYN.cutT (SemYN.wk WkY.f1 (kit_CopyInts_d_1_ok x0 _ 0 ([] : (List Int)) _ hr19 .e0 hp hT1)) ?_
  rintro _ ⟨e20, hp21, hT22, rfl⟩
  refine SemY.seq ?_
  refine SemY.regionL ?_
  refine RunL.segF (n := 19) e_kit_CopyInts_d_ok 2 [(2, e20)] hp21 (by kernel_rfl) ?_
  refine RunL.done rfl (SemY.fr (l' := [(2, e20)]) (by kernel_rfl) ?_)
  refine SemY.ret ?_
  have hq := Option.some.inj h; subst hq
  exact ⟨⟨Fr 19 [(2, e20)], hp21⟩, WkY.f1, .inr rfl, [e20], (by kernel_rfl), ⟨e20, rfl, hT22⟩⟩
/- trestle/trestlekit.CopyLists -/
noncomputable def e_kit_CopyLists_d : Env := E0
theorem e_kit_CopyLists_d_ok : EnvOk e_kit_CopyLists_d := E0_ok
noncomputable def cb_kit_CopyLists_d : Code := codeOf Tryd.f113
def kit_CopyLists_d_1 (x0 : (List (List Int))) : Nat → Int → (List (List Int)) → Option (((List (List Int))))
  | 0, _, _ => none
  | f + 1, c2, c4 =>
    if (decide (c2 < (x0.length : Int))) = true then
    (idx x0 c2).bind fun v6 =>
    (kit_CopyInts_d v6).bind fun v7 =>
    if (capOk 24 (c4.length + ([v7] : List (List Int)).length)) = true then
    kit_CopyLists_d_1 x0 f (wr .i64 (c2 + 1)) (c4 ++ ([v7] : List (List Int)))
    else none
    else
    some c4
def kit_CopyLists_d (x0 : (List (List Int))) : Option ((List (List Int))) :=
  (kit_CopyLists_d_1 x0 100000 0 ([] : (List (List Int)))).bind fun r23 =>
  some r23
set_option maxHeartbeats 4000000 in
set_option maxRecDepth 100000 in
theorem kit_CopyLists_d_1_ok {L : List Asn} (x0 : (List (List Int))) : ∀ (f : Nat) (c2 : Int) (c4 : (List (List Int))) (r : ((List (List Int)))), kit_CopyLists_d_1 x0 f c2 c4 = some r → ∀ (e3 : AV) (hp : Hp), T hp ((own_ (ocL 1 31 (ocL 1 3 (ocV cdI))) e3 c4) :: L) → SemYN e_kit_CopyLists_d ⟨none, false⟩ (pc cb_kit_CopyLists_d [1, 1, 0, 1, 0, 0]) f ⟨Fr 20 [(0, .sl 1 (x0.map (cdL 1 cdI).enc)), (3, e3), (4, .v (.int .i64 c2))], hp⟩ (fun e s => e = (.exit 0) ∧ ∃ s2, (∃ (e21 : AV) (h' : Hp), T h' ((own_ (ocL 1 31 (ocL 1 3 (ocV cdI))) e21 r) :: L) ∧ s2 = ⟨Fr 20 [(3, e21)], h'⟩) ∧ WkY e_kit_CopyLists_d s s2) := by
  intro f
  induction f with
  | zero => intro c2 c4 r h; cases h
  | succ f ih0 =>
    intro c2 c4 r h e3 hp hT
    unfold kit_CopyLists_d_1 at h
    refine SemYN.succ ?_
    refine SemY.seq ?_
    refine SemY.seq ?_
    refine SemY.regionL ?_
    refine RunL.segF (n := 20) e_kit_CopyLists_d_ok 2 [(0, .sl 1 (x0.map (cdL 1 cdI).enc)), (3, e3), (4, .v (.int .i64 c2)), (5, .v (.int .i64 c2)), (6, .sl 1 (x0.map (cdL 1 cdI).enc))] hp (by kernel_rfl) ?_
    refine RunL.one e_kit_CopyLists_d_ok 0 rfl (op_q (wantedA_none rfl) rfl (q_len (a := .sl 1 (x0.map (cdL 1 cdI).enc)) (by kernel_rfl) (len_sl (el := 31) (by kernel_rfl)))) ?_
    refine RunL.segF (n := 20) e_kit_CopyLists_d_ok 1 [(0, .sl 1 (x0.map (cdL 1 cdI).enc)), (3, e3), (4, .v (.int .i64 c2)), (8, .v (.bool (decide (c2 < (x0.length : Int)))))] hp (by kernel_rfl) ?_
    refine RunL.done rfl (SemY.fr (l' := [(0, .sl 1 (x0.map (cdL 1 cdI).enc)), (3, e3), (4, .v (.int .i64 c2)), (8, .v (.bool (decide (c2 < (x0.length : Int)))))]) (by kernel_rfl) ?_)
    refine SemY.cond (b := (decide (c2 < (x0.length : Int)))) (by kernel_rfl) (fun hb5 => ?_) (fun hb5 => ?_)
    · rw [if_pos hb5] at h
      refine SemY.skip ?_
      refine SemY.seq ?_
      refine SemY.block ?_
      refine SemY.regionL ?_
      refine RunL.segF (n := 20) e_kit_CopyLists_d_ok 3 [(0, .sl 1 (x0.map (cdL 1 cdI).enc)), (4, .v (.int .i64 c2)), (11, e3), (12, .sl 1 (x0.map (cdL 1 cdI).enc)), (13, .v (.int .i64 c2))] hp (by kernel_rfl) ?_
      obtain ⟨v6, hv6, h⟩ := Option.bind_eq_some_iff.1 h
      refine RunL.one e_kit_CopyLists_d_ok 0 rfl (op_q (wantedA_none rfl) rfl (q_indexAddr (a := .sl 1 (x0.map (cdL 1 cdI).enc)) (b := .v (.int .i64 c2)) (by kernel_rfl) (by kernel_rfl) (ix_sl (e := (cdL 1 cdI).enc) (el := 31) (k := 1) (ki := .i64) (by kernel_rfl) (by kernel_rfl) hv6))) ?_
      refine RunL.segF (n := 20) e_kit_CopyLists_d_ok 1 [(0, .sl 1 (x0.map (cdL 1 cdI).enc)), (4, .v (.int .i64 c2)), (11, e3), (15, .sl 1 (v6.map cdI.enc))] hp (by kernel_rfl) ?_
      obtain ⟨v7, hv7, h⟩ := Option.bind_eq_some_iff.1 h
      refine RunL.inlT (E := e_kit_CopyLists_d) (e := e_kit_CopyInts_d) rfl rfl e_kit_CopyInts_d_ok rfl rfl (fid := 132) (caps := []) (xs := [.sl 1 (v6.map cdI.enc)]) (fn := Tryd.f132) (c := cb_kit_CopyInts_d) (Out := fun v h' => ∃ (z0 : AV), v = z0 ∧ T h' ((own_ (ocL 1 3 (ocV cdI)) z0 v7) :: (own_ (ocL 1 31 (ocL 1 3 (ocV cdI))) e3 c4) :: L)) rfl (wantedA_none rfl) (by kernel_rfl) (by kernel_rfl) (by kernel_rfl) (by kernel_rfl) (by show 1 ≤ 19; decide) (kit_CopyInts_d_sem v6 _ hv7 hT) ?_
      rintro xx hp9 ⟨e8, hqhp9, hT100⟩; subst xx
      have hT10 : T hp9 ((own_ (ocL 1 3 (ocV cdI)) e8 v7) :: (own_ (ocL 1 31 (ocL 1 3 (ocV cdI))) e3 c4) :: L) := hT100
      obtain ⟨e14, hp11, hb12, hT130⟩ := lit_ownB (P := Tryd.prog) (bytes := 24) (k := 1) (t := 31) (ty := 50) (xs := ([v7] : List (List Int))) (n := 1) fit_L (els_cons ((els_nil (o := (ocL 1 3 (ocV cdI))) hT10).front 1 rfl)) rfl (by kernel_rfl) (by kernel_rfl) (by kernel_rfl)
      have hT13 : T hp11 ((own_ (ocL 1 31 (ocL 1 3 (ocV cdI))) e14 ([v7] : List (List Int))) :: (own_ (ocL 1 31 (ocL 1 3 (ocV cdI))) e3 c4) :: L) := hT130
      refine RunL.one e_kit_CopyLists_d_ok 0 rfl (op_n (wantedA_none rfl) rfl (by kernel_rfl) (n_lit (xs := enumA 0 [e8]) (by kernel_rfl) hb12)) ?_
      by_cases hk19 : (capOk 24 (c4.length + ([v7] : List (List Int)).length)) = true
      case neg => rw [if_neg hk19] at h; cases h
      rw [if_pos hk19] at h
      have hT20 : T hp11 ((own_ (ocL 1 31 (ocL 1 3 (ocV cdI))) e3 c4) :: (own_ (ocL 1 31 (ocL 1 3 (ocV cdI))) e14 ([v7] : List (List Int))) :: L) := ((hT13.front 0 rfl).front 1 rfl)
      obtain ⟨e18, hp15, hb16, hT170⟩ := app_ownB (P := Tryd.prog) (ty := 50) (ty2 := 50) (bytes := 24) hT20 (by kernel_rfl) (by kernel_rfl) hk19
      have hT17 : T hp15 ((own_ (ocL 1 31 (ocL 1 3 (ocV cdI))) e18 (c4 ++ ([v7] : List (List Int)))) :: L) := hT170
      refine RunL.one e_kit_CopyLists_d_ok 0 rfl (op_w (wantedA_none rfl) rfl (by kernel_rfl) (by kernel_rfl) (w_append (a := e3) (b := e14) (by kernel_rfl) (by kernel_rfl) hb16)) ?_
      refine RunL.segF (n := 20) e_kit_CopyLists_d_ok 1 [(0, .sl 1 (x0.map (cdL 1 cdI).enc)), (3, e18), (4, .v (.int .i64 c2))] hp15 (by kernel_rfl) ?_
      refine RunL.done rfl (SemY.fr (l' := [(0, .sl 1 (x0.map (cdL 1 cdI).enc)), (3, e18), (4, .v (.int .i64 c2))]) (by kernel_rfl) ?_)
      refine SemY.regionL ?_
      refine RunL.segF (n := 20) e_kit_CopyLists_d_ok 3 [(0, .sl 1 (x0.map (cdL 1 cdI).enc)), (3, e18), (4, .v (.int .i64 (wr .i64 (c2 + 1))))] hp15 (by kernel_rfl) ?_
      refine RunL.done rfl ?_
      exact SemYN.wk WkY.f1 (ih0 (wr .i64 (c2 + 1)) (c4 ++ ([v7] : List (List Int))) _ h e18 hp15 hT17)
    · rw [if_f hb5] at h
      refine SemY.exit ?_
      have hq := Option.some.inj h; subst hq
      exact ⟨rfl, _, ⟨e3, hp, hT, rfl⟩, WkY.f1⟩
set_option maxHeartbeats 4000000 in
set_option maxRecDepth 100000 in
theorem kit_CopyLists_d_sem {L : List Asn} {hp : Hp} (x0 : (List (List Int))) (r : (List (List Int))) (h : kit_CopyLists_d x0 = some r) (hT : T hp (L)) : SemY e_kit_CopyLists_d ⟨none, false⟩ cb_kit_CopyLists_d ⟨Fr 20 (pairs0 0 [.sl 1 (x0.map (cdL 1 cdI).enc)]), hp⟩ fun x s' => (x = .normal ∨ x = .ret) ∧ ∃ ys, resA e_kit_CopyLists_d.P s'.fr s'.hp Tryd.f113.results.toList = some ys ∧ (fun v h' => ∃ (z0 : AV), v = z0 ∧ T h' ((own_ (ocL 1 31 (ocL 1 3 (ocV cdI))) z0 r) :: L)) (retA ys) s'.hp := by
  unfold kit_CopyLists_d at h
  refine SemY.wkQ (SemY.wk (s1 := ⟨Fr 20 [(0, .sl 1 (x0.map (cdL 1 cdI).enc))], hp⟩) WkY.f1 ?_)
  refine SemY.seq ?_
  refine SemY.regionL ?_
  refine RunL.segF (n := 20) e_kit_CopyLists_d_ok 1 [(0, .sl 1 (x0.map (cdL 1 cdI).enc))] hp (by kernel_rfl) ?_
  refine RunL.done rfl (SemY.fr (l' := [(0, .sl 1 (x0.map (cdL 1 cdI).enc))]) (by kernel_rfl) ?_)
  refine SemY.seq ?_
  refine SemY.regionL ?_
  refine RunL.segF (n := 20) e_kit_CopyLists_d_ok 1 [(0, .sl 1 (x0.map (cdL 1 cdI).enc)), (3, .e0)] hp (by kernel_rfl) ?_
  refine RunL.done rfl (SemY.fr (l' := [(0, .sl 1 (x0.map (cdL 1 cdI).enc)), (3, .e0)]) (by kernel_rfl) ?_)
  refine SemY.seq ?_
  refine SemY.seq ?_
  refine SemY.regionL ?_
  refine RunL.segF (n := 20) e_kit_CopyLists_d_ok 1 [(0, .sl 1 (x0.map (cdL 1 cdI).enc)), (3, .e0), (4, .v (.int .i64 0))] hp (by kernel_rfl) ?_
  refine RunL.done rfl (SemY.fr (l' := [(0, .sl 1 (x0.map (cdL 1 cdI).enc)), (3, .e0), (4, .v (.int .i64 0))]) (by kernel_rfl) ?_)
  refine SemY.block ?_
  have hT1 : T hp ((own_ (ocL 1 31 (ocL 1 3 (ocV cdI))) .e0 ([] : (List (List Int)))) :: L) := (T.e0 (o := (ocL 1 3 (ocV cdI))) hT)
  refine SemY.loop (n := 100000) ?_
  obtain ⟨r23, hr23, h⟩ := Option.bind_eq_some_iff.1 h
  refine SemYN.cutT (SemYN.wk WkY.f1 (kit_CopyLists_d_1_ok x0 _ 0 ([] : (List (List Int))) _ hr23 .e0 hp hT1)) ?_
  rintro _ ⟨e24, hp25, hT26, rfl⟩
  refine SemY.seq ?_
  refine SemY.regionL ?_
  refine RunL.segF (n := 20) e_kit_CopyLists_d_ok 2 [(2, e24)] hp25 (by kernel_rfl) ?_
  refine RunL.done rfl (SemY.fr (l' := [(2, e24)]) (by kernel_rfl) ?_)
  refine SemY.ret ?_
  have hq := Option.some.inj h; subst hq
  exact ⟨⟨Fr 20 [(2, e24)], hp25⟩, WkY.f1, .inr rfl, [e24], (by kernel_rfl), ⟨e24, rfl, hT26⟩⟩
/- trestle/trestleref09.Copy -/
noncomputable def e_ref09_Copy_d : Env := E0
theorem e_ref09_Copy_d_ok : EnvOk e_ref09_Copy_d := E0_ok
noncomputable def cb_ref09_Copy_d : Code := codeOf Tryd.f88
def ref09_Copy_d_1 (x0 : (List (List (List Int)))) : Nat → Int → (List (List (List Int))) → Option (((List (List (List Int)))))
  | 0, _, _ => none
  | f + 1, c2, c4 =>
    if (decide (c2 < (x0.length : Int))) = true then
    (idx x0 c2).bind fun v6 =>
    (kit_CopyLists_d v6).bind fun v7 =>
    if (capOk 24 (c4.length + ([v7] : List (List (List Int))).length)) = true then
    ref09_Copy_d_1 x0 f (wr .i64 (c2 + 1)) (c4 ++ ([v7] : List (List (List Int))))
    else none
    else
    some c4
def ref09_Copy_d (x0 : (List (List (List Int)))) : Option ((List (List (List Int)))) :=
  (ref09_Copy_d_1 x0 100000 0 ([] : (List (List (List Int))))).bind fun r23 =>
  some r23
set_option maxHeartbeats 4000000 in
set_option maxRecDepth 100000 in
theorem ref09_Copy_d_1_ok {L : List Asn} (x0 : (List (List (List Int)))) : ∀ (f : Nat) (c2 : Int) (c4 : (List (List (List Int)))) (r : ((List (List (List Int))))), ref09_Copy_d_1 x0 f c2 c4 = some r → ∀ (e3 : AV) (hp : Hp), T hp ((own_ (ocL 1 50 (ocL 1 31 (ocL 1 3 (ocV cdI)))) e3 c4) :: L) → SemYN e_ref09_Copy_d ⟨none, false⟩ (pc cb_ref09_Copy_d [1, 1, 0, 1, 0, 0]) f ⟨Fr 20 [(0, .sl 1 (x0.map (cdL 1 (cdL 1 cdI)).enc)), (3, e3), (4, .v (.int .i64 c2))], hp⟩ (fun e s => e = (.exit 0) ∧ ∃ s2, (∃ (e21 : AV) (h' : Hp), T h' ((own_ (ocL 1 50 (ocL 1 31 (ocL 1 3 (ocV cdI)))) e21 r) :: L) ∧ s2 = ⟨Fr 20 [(3, e21)], h'⟩) ∧ WkY e_ref09_Copy_d s s2) := by
  intro f
  induction f with
  | zero => intro c2 c4 r h; cases h
  | succ f ih0 =>
    intro c2 c4 r h e3 hp hT
    unfold ref09_Copy_d_1 at h
    refine SemYN.succ ?_
    refine SemY.seq ?_
    refine SemY.seq ?_
    refine SemY.regionL ?_
    refine RunL.segF (n := 20) e_ref09_Copy_d_ok 2 [(0, .sl 1 (x0.map (cdL 1 (cdL 1 cdI)).enc)), (3, e3), (4, .v (.int .i64 c2)), (5, .v (.int .i64 c2)), (6, .sl 1 (x0.map (cdL 1 (cdL 1 cdI)).enc))] hp (by kernel_rfl) ?_
    refine RunL.one e_ref09_Copy_d_ok 0 rfl (op_q (wantedA_none rfl) rfl (q_len (a := .sl 1 (x0.map (cdL 1 (cdL 1 cdI)).enc)) (by kernel_rfl) (len_sl (el := 50) (by kernel_rfl)))) ?_
    refine RunL.segF (n := 20) e_ref09_Copy_d_ok 1 [(0, .sl 1 (x0.map (cdL 1 (cdL 1 cdI)).enc)), (3, e3), (4, .v (.int .i64 c2)), (8, .v (.bool (decide (c2 < (x0.length : Int)))))] hp (by kernel_rfl) ?_
    refine RunL.done rfl (SemY.fr (l' := [(0, .sl 1 (x0.map (cdL 1 (cdL 1 cdI)).enc)), (3, e3), (4, .v (.int .i64 c2)), (8, .v (.bool (decide (c2 < (x0.length : Int)))))]) (by kernel_rfl) ?_)
    refine SemY.cond (b := (decide (c2 < (x0.length : Int)))) (by kernel_rfl) (fun hb5 => ?_) (fun hb5 => ?_)
    · rw [if_pos hb5] at h
      refine SemY.skip ?_
      refine SemY.seq ?_
      refine SemY.block ?_
      refine SemY.regionL ?_
      refine RunL.segF (n := 20) e_ref09_Copy_d_ok 3 [(0, .sl 1 (x0.map (cdL 1 (cdL 1 cdI)).enc)), (4, .v (.int .i64 c2)), (11, e3), (12, .sl 1 (x0.map (cdL 1 (cdL 1 cdI)).enc)), (13, .v (.int .i64 c2))] hp (by kernel_rfl) ?_
      obtain ⟨v6, hv6, h⟩ := Option.bind_eq_some_iff.1 h
      refine RunL.one e_ref09_Copy_d_ok 0 rfl (op_q (wantedA_none rfl) rfl (q_indexAddr (a := .sl 1 (x0.map (cdL 1 (cdL 1 cdI)).enc)) (b := .v (.int .i64 c2)) (by kernel_rfl) (by kernel_rfl) (ix_sl (e := (cdL 1 (cdL 1 cdI)).enc) (el := 50) (k := 1) (ki := .i64) (by kernel_rfl) (by kernel_rfl) hv6))) ?_
      refine RunL.segF (n := 20) e_ref09_Copy_d_ok 1 [(0, .sl 1 (x0.map (cdL 1 (cdL 1 cdI)).enc)), (4, .v (.int .i64 c2)), (11, e3), (15, .sl 1 (v6.map (cdL 1 cdI).enc))] hp (by kernel_rfl) ?_
      obtain ⟨v7, hv7, h⟩ := Option.bind_eq_some_iff.1 h
      refine RunL.inlT (E := e_ref09_Copy_d) (e := e_kit_CopyLists_d) rfl rfl e_kit_CopyLists_d_ok rfl rfl (fid := 113) (caps := []) (xs := [.sl 1 (v6.map (cdL 1 cdI).enc)]) (fn := Tryd.f113) (c := cb_kit_CopyLists_d) (Out := fun v h' => ∃ (z0 : AV), v = z0 ∧ T h' ((own_ (ocL 1 31 (ocL 1 3 (ocV cdI))) z0 v7) :: (own_ (ocL 1 50 (ocL 1 31 (ocL 1 3 (ocV cdI)))) e3 c4) :: L)) rfl (wantedA_none rfl) (by kernel_rfl) (by kernel_rfl) (by kernel_rfl) (by kernel_rfl) (by show 1 ≤ 20; decide) (kit_CopyLists_d_sem v6 _ hv7 hT) ?_
      rintro xx hp9 ⟨e8, hqhp9, hT100⟩; subst xx
      have hT10 : T hp9 ((own_ (ocL 1 31 (ocL 1 3 (ocV cdI))) e8 v7) :: (own_ (ocL 1 50 (ocL 1 31 (ocL 1 3 (ocV cdI)))) e3 c4) :: L) := hT100
      obtain ⟨e14, hp11, hb12, hT130⟩ := lit_ownB (P := Tryd.prog) (bytes := 24) (k := 1) (t := 50) (ty := 22) (xs := ([v7] : List (List (List Int)))) (n := 1) fit_L (els_cons ((els_nil (o := (ocL 1 31 (ocL 1 3 (ocV cdI)))) hT10).front 1 rfl)) rfl (by kernel_rfl) (by kernel_rfl) (by kernel_rfl)
      have hT13 : T hp11 ((own_ (ocL 1 50 (ocL 1 31 (ocL 1 3 (ocV cdI)))) e14 ([v7] : List (List (List Int)))) :: (own_ (ocL 1 50 (ocL 1 31 (ocL 1 3 (ocV cdI)))) e3 c4) :: L) := hT130
      refine RunL.one e_ref09_Copy_d_ok 0 rfl (op_n (wantedA_none rfl) rfl (by kernel_rfl) (n_lit (xs := enumA 0 [e8]) (by kernel_rfl) hb12)) ?_
      by_cases hk19 : (capOk 24 (c4.length + ([v7] : List (List (List Int))).length)) = true
      case neg => rw [if_neg hk19] at h; cases h
      rw [if_pos hk19] at h
      have hT20 : T hp11 ((own_ (ocL 1 50 (ocL 1 31 (ocL 1 3 (ocV cdI)))) e3 c4) :: (own_ (ocL 1 50 (ocL 1 31 (ocL 1 3 (ocV cdI)))) e14 ([v7] : List (List (List Int)))) :: L) := ((hT13.front 0 rfl).front 1 rfl)
      obtain ⟨e18, hp15, hb16, hT170⟩ := app_ownB (P := Tryd.prog) (ty := 22) (ty2 := 22) (bytes := 24) hT20 (by kernel_rfl) (by kernel_rfl) hk19
      have hT17 : T hp15 ((own_ (ocL 1 50 (ocL 1 31 (ocL 1 3 (ocV cdI)))) e18 (c4 ++ ([v7] : List (List (List Int))))) :: L) := hT170
      refine RunL.one e_ref09_Copy_d_ok 0 rfl (op_w (wantedA_none rfl) rfl (by kernel_rfl) (by kernel_rfl) (w_append (a := e3) (b := e14) (by kernel_rfl) (by kernel_rfl) hb16)) ?_
      refine RunL.segF (n := 20) e_ref09_Copy_d_ok 1 [(0, .sl 1 (x0.map (cdL 1 (cdL 1 cdI)).enc)), (3, e18), (4, .v (.int .i64 c2))] hp15 (by kernel_rfl) ?_
      refine RunL.done rfl (SemY.fr (l' := [(0, .sl 1 (x0.map (cdL 1 (cdL 1 cdI)).enc)), (3, e18), (4, .v (.int .i64 c2))]) (by kernel_rfl) ?_)
      refine SemY.regionL ?_
      refine RunL.segF (n := 20) e_ref09_Copy_d_ok 3 [(0, .sl 1 (x0.map (cdL 1 (cdL 1 cdI)).enc)), (3, e18), (4, .v (.int .i64 (wr .i64 (c2 + 1))))] hp15 (by kernel_rfl) ?_
      refine RunL.done rfl ?_
      exact SemYN.wk WkY.f1 (ih0 (wr .i64 (c2 + 1)) (c4 ++ ([v7] : List (List (List Int)))) _ h e18 hp15 hT17)
    · rw [if_f hb5] at h
      refine SemY.exit ?_
      have hq := Option.some.inj h; subst hq
      exact ⟨rfl, _, ⟨e3, hp, hT, rfl⟩, WkY.f1⟩
set_option maxHeartbeats 4000000 in
set_option maxRecDepth 100000 in
theorem ref09_Copy_d_sem {L : List Asn} {hp : Hp} (x0 : (List (List (List Int)))) (r : (List (List (List Int)))) (h : ref09_Copy_d x0 = some r) (hT : T hp (L)) : SemY e_ref09_Copy_d ⟨none, false⟩ cb_ref09_Copy_d ⟨Fr 20 (pairs0 0 [.sl 1 (x0.map (cdL 1 (cdL 1 cdI)).enc)]), hp⟩ fun x s' => (x = .normal ∨ x = .ret) ∧ ∃ ys, resA e_ref09_Copy_d.P s'.fr s'.hp Tryd.f88.results.toList = some ys ∧ (fun v h' => ∃ (z0 : AV), v = z0 ∧ T h' ((own_ (ocL 1 50 (ocL 1 31 (ocL 1 3 (ocV cdI)))) z0 r) :: L)) (retA ys) s'.hp := by
  unfold ref09_Copy_d at h
  refine SemY.wkQ (SemY.wk (s1 := ⟨Fr 20 [(0, .sl 1 (x0.map (cdL 1 (cdL 1 cdI)).enc))], hp⟩) WkY.f1 ?_)
  refine SemY.seq ?_
  refine SemY.regionL ?_
  refine RunL.segF (n := 20) e_ref09_Copy_d_ok 1 [(0, .sl 1 (x0.map (cdL 1 (cdL 1 cdI)).enc))] hp (by kernel_rfl) ?_
  refine RunL.done rfl (SemY.fr (l' := [(0, .sl 1 (x0.map (cdL 1 (cdL 1 cdI)).enc))]) (by kernel_rfl) ?_)
  refine SemY.seq ?_
  refine SemY.regionL ?_
  refine RunL.segF (n := 20) e_ref09_Copy_d_ok 1 [(0, .sl 1 (x0.map (cdL 1 (cdL 1 cdI)).enc)), (3, .e0)] hp (by kernel_rfl) ?_
  refine RunL.done rfl (SemY.fr (l' := [(0, .sl 1 (x0.map (cdL 1 (cdL 1 cdI)).enc)), (3, .e0)]) (by kernel_rfl) ?_)
  refine SemY.seq ?_
  refine SemY.seq ?_
  refine SemY.regionL ?_
  refine RunL.segF (n := 20) e_ref09_Copy_d_ok 1 [(0, .sl 1 (x0.map (cdL 1 (cdL 1 cdI)).enc)), (3, .e0), (4, .v (.int .i64 0))] hp (by kernel_rfl) ?_
  refine RunL.done rfl (SemY.fr (l' := [(0, .sl 1 (x0.map (cdL 1 (cdL 1 cdI)).enc)), (3, .e0), (4, .v (.int .i64 0))]) (by kernel_rfl) ?_)
  refine SemY.block ?_
  have hT1 : T hp ((own_ (ocL 1 50 (ocL 1 31 (ocL 1 3 (ocV cdI)))) .e0 ([] : (List (List (List Int))))) :: L) := (T.e0 (o := (ocL 1 31 (ocL 1 3 (ocV cdI)))) hT)
  refine SemY.loop (n := 100000) ?_
  obtain ⟨r23, hr23, h⟩ := Option.bind_eq_some_iff.1 h
  refine SemYN.cutT (SemYN.wk WkY.f1 (ref09_Copy_d_1_ok x0 _ 0 ([] : (List (List (List Int)))) _ hr23 .e0 hp hT1)) ?_
  rintro _ ⟨e24, hp25, hT26, rfl⟩
  refine SemY.seq ?_
  refine SemY.regionL ?_
  refine RunL.segF (n := 20) e_ref09_Copy_d_ok 2 [(2, e24)] hp25 (by kernel_rfl) ?_
  refine RunL.done rfl (SemY.fr (l' := [(2, e24)]) (by kernel_rfl) ?_)
  refine SemY.ret ?_
  have hq := Option.some.inj h; subst hq
  exact ⟨⟨Fr 20 [(2, e24)], hp25⟩, WkY.f1, .inr rfl, [e24], (by kernel_rfl), ⟨e24, rfl, hT26⟩⟩
/- trestle/trestlelaw09.spoil -/
noncomputable def e_law09_spoil_d : Env := E0
theorem e_law09_spoil_d_ok : EnvOk e_law09_spoil_d := E0_ok
noncomputable def cb_law09_spoil_d : Code := codeOf Tryd.f65
def law09_spoil_d_3 (c8 : Int) (c9 : (List (List Int))) (v11 : (List Int)) : Nat → Int → (List Int) → Option (((List (List Int))))
  | 0, _, _ => none
  | f + 1, c16, c17 =>
    if (decide (c16 < (v11.length : Int))) = true then
    (idx c17 c16).bind fun v19 =>
    (idx c17 c16).bind fun _v20 =>
    law09_spoil_d_3 c8 c9 v11 f (wr .i64 (c16 + 1)) (c17.set c16.toNat (xorI .i64 v19 1))
    else
    some (c9.set c8.toNat c17)
def law09_spoil_d_2 (c1 : Int) (c2 : (List (List (List Int)))) (v4 : (List (List Int))) : Nat → Int → (List (List Int)) → Option (((List (List (List Int)))))
  | 0, _, _ => none
  | f + 1, c8, c9 =>
    if (decide (c8 < (v4.length : Int))) = true then
    (idx c9 c8).bind fun v11 =>
    (law09_spoil_d_3 c8 c9 v11 100000 0 v11).bind fun r28 =>
    law09_spoil_d_2 c1 c2 v4 f (wr .i64 (c8 + 1)) r28
    else
    some (c2.set c1.toNat c9)
def law09_spoil_d_1 (x0 : (List (List (List Int)))) : Nat → Int → (List (List (List Int))) → Option (((List (List (List Int)))))
  | 0, _, _ => none
  | f + 1, c1, c2 =>
    if (decide (c1 < (x0.length : Int))) = true then
    (idx c2 c1).bind fun v4 =>
    (law09_spoil_d_2 c1 c2 v4 100000 0 v4).bind fun r37 =>
    law09_spoil_d_1 x0 f (wr .i64 (c1 + 1)) r37
    else
    some c2
def law09_spoil_d (x0 : (List (List (List Int)))) : Option ((List (List (List Int)))) :=
  (law09_spoil_d_1 x0 100000 0 x0).bind fun r41 =>
  some r41
set_option maxHeartbeats 4000000 in
set_option maxRecDepth 100000 in
theorem law09_spoil_d_3_ok {L : List Asn} (c8 : Int) (c9 : (List (List Int))) (v11 : (List Int)) (u0 : AV) (x0 : (List (List (List Int)))) (c1 : Int) (c2 : (List (List (List Int)))) (v4 : (List (List Int))) (e5 : AV) (e13 : AV) : ∀ (f : Nat) (c16 : Int) (c17 : (List Int)) (r : ((List (List Int)))), law09_spoil_d_3 c8 c9 v11 f c16 c17 = some r → ∀ (hp : Hp), T hp ((own_ (ocL 1 3 (ocV cdI)) e13 c17) :: (hole 1 31 (ocL 1 3 (ocV cdI)) e5 c9 c8.toNat e13 v11) :: (hole 1 50 (ocL 1 31 (ocL 1 3 (ocV cdI))) u0 c2 c1.toNat e5 v4) :: L) → SemYN e_law09_spoil_d ⟨none, false⟩ (pc cb_law09_spoil_d [1, 0, 0, 1, 1, 0, 0, 1, 1, 0, 0, 1, 1, 0, 0, 1, 1, 0, 0]) f ⟨Fr 33 [(5, e13), (7, u0), (8, .v (.int .i64 (x0.length : Int))), (9, .v (.int .i64 c1)), (13, e5), (14, .v (.int .i64 (v4.length : Int))), (15, .v (.int .i64 c8)), (20, .v (.int .i64 (v11.length : Int))), (21, .v (.int .i64 c16))], hp⟩ (fun e s => e = (.exit 4) ∧ ∃ s2, (∃ (h' : Hp), T h' ((hole 1 50 (ocL 1 31 (ocL 1 3 (ocV cdI))) u0 c2 c1.toNat e5 v4) :: (own_ (ocL 1 31 (ocL 1 3 (ocV cdI))) e5 r) :: L) ∧ s2 = ⟨Fr 33 [(7, u0), (8, .v (.int .i64 (x0.length : Int))), (9, .v (.int .i64 c1)), (13, e5), (14, .v (.int .i64 (v4.length : Int))), (15, .v (.int .i64 c8))], h'⟩) ∧ WkY e_law09_spoil_d s s2) := by
  intro f
  induction f with
  | zero => intro c16 c17 r h; cases h
  | succ f ih0 =>
    intro c16 c17 r h  hp hT
    unfold law09_spoil_d_3 at h
    refine SemYN.succ ?_
    refine SemY.seq ?_
    refine SemY.regionL ?_
    refine RunL.segF (n := 33) e_law09_spoil_d_ok 1 [(5, e13), (7, u0), (8, .v (.int .i64 (x0.length : Int))), (9, .v (.int .i64 c1)), (13, e5), (14, .v (.int .i64 (v4.length : Int))), (15, .v (.int .i64 c8)), (20, .v (.int .i64 (v11.length : Int))), (21, .v (.int .i64 c16)), (22, .v (.bool (decide (c16 < (v11.length : Int)))))] hp (by kernel_rfl) ?_
    refine RunL.done rfl (SemY.fr (l' := [(5, e13), (7, u0), (8, .v (.int .i64 (x0.length : Int))), (9, .v (.int .i64 c1)), (13, e5), (14, .v (.int .i64 (v4.length : Int))), (15, .v (.int .i64 c8)), (20, .v (.int .i64 (v11.length : Int))), (21, .v (.int .i64 c16)), (22, .v (.bool (decide (c16 < (v11.length : Int)))))]) (by kernel_rfl) ?_)
    refine SemY.seq ?_
    refine SemY.cond (b := (decide (c16 < (v11.length : Int)))) (by kernel_rfl) (fun hb18 => ?_) (fun hb18 => ?_)
    · rw [if_pos hb18] at h
      refine SemY.skip ?_
      refine SemY.seq ?_
      refine SemY.block ?_
      refine SemY.seq ?_
      refine SemY.regionL ?_
      refine RunL.segF (n := 33) e_law09_spoil_d_ok 2 [(5, e13), (6, .v (.int .i64 c16)), (7, u0), (8, .v (.int .i64 (x0.length : Int))), (9, .v (.int .i64 c1)), (13, e5), (14, .v (.int .i64 (v4.length : Int))), (15, .v (.int .i64 c8)), (20, .v (.int .i64 (v11.length : Int))), (21, .v (.int .i64 c16))] hp (by kernel_rfl) ?_
      refine RunL.done rfl (SemY.fr (l' := [(5, e13), (6, .v (.int .i64 c16)), (7, u0), (8, .v (.int .i64 (x0.length : Int))), (9, .v (.int .i64 c1)), (13, e5), (14, .v (.int .i64 (v4.length : Int))), (15, .v (.int .i64 c8)), (20, .v (.int .i64 (v11.length : Int))), (21, .v (.int .i64 c16))]) (by kernel_rfl) ?_)
      refine SemY.regionL ?_
      refine RunL.segF (n := 33) e_law09_spoil_d_ok 2 [(5, e13), (7, u0), (8, .v (.int .i64 (x0.length : Int))), (9, .v (.int .i64 c1)), (13, e5), (14, .v (.int .i64 (v4.length : Int))), (15, .v (.int .i64 c8)), (20, .v (.int .i64 (v11.length : Int))), (21, .v (.int .i64 c16)), (24, e13), (25, .v (.int .i64 c16))] hp (by kernel_rfl) ?_
      obtain ⟨v19, hv19, h⟩ := Option.bind_eq_some_iff.1 h
      refine RunL.one e_law09_spoil_d_ok 0 rfl (op_q (wantedA_none rfl) rfl (q_indexAddr (a := e13) (b := .v (.int .i64 c16)) (by kernel_rfl) (by kernel_rfl) (ix_B (bytes := 8) hT (by kernel_rfl) hv19))) ?_
      refine RunL.one e_law09_spoil_d_ok 0 rfl (op_q (wantedA_none rfl) rfl (q_load (p := eAt e13 c16.toNat) (by kernel_rfl) (ld_own0 (y := .v (.int .i64 v19)) (m := 1) (g := false) hT (idx_at hv19).2 (by kernel_rfl) (by kernel_rfl) (by kernel_rfl)))) ?_
      refine RunL.segF (n := 33) e_law09_spoil_d_ok 1 [(5, e13), (7, u0), (8, .v (.int .i64 (x0.length : Int))), (9, .v (.int .i64 c1)), (13, e5), (14, .v (.int .i64 (v4.length : Int))), (15, .v (.int .i64 c8)), (20, .v (.int .i64 (v11.length : Int))), (21, .v (.int .i64 c16)), (24, e13), (25, .v (.int .i64 c16)), (28, .v (.int .i64 (xorI .i64 v19 1)))] hp (by kernel_rfl) ?_
      obtain ⟨v20, hv20, h⟩ := Option.bind_eq_some_iff.1 h
      refine RunL.one e_law09_spoil_d_ok 0 rfl (op_q (wantedA_none rfl) rfl (q_indexAddr (a := e13) (b := .v (.int .i64 c16)) (by kernel_rfl) (by kernel_rfl) (ix_B (bytes := 8) hT (by kernel_rfl) hv20))) ?_
      obtain ⟨hp21, hs22, hT230⟩ := st_own0 (P := Tryd.prog) (ty := 3) (y := .v (.int .i64 (xorI .i64 v19 1))) (v' := (xorI .i64 v19 1)) hT (idx_at hv20).2 (by kernel_rfl) (by kernel_rfl) (by kernel_rfl)
      have hT23 : T hp21 ((own_ (ocL 1 3 (ocV cdI)) e13 (c17.set c16.toNat (xorI .i64 v19 1))) :: (hole 1 31 (ocL 1 3 (ocV cdI)) e5 c9 c8.toNat e13 v11) :: (hole 1 50 (ocL 1 31 (ocL 1 3 (ocV cdI))) u0 c2 c1.toNat e5 v4) :: L) := hT230
      refine RunL.store e_law09_spoil_d_ok (y := eAt e13 c16.toNat) (z := .v (.int .i64 (xorI .i64 v19 1))) rfl (wantedA_none rfl) (by kernel_rfl) (by kernel_rfl) hs22 ?_
      refine RunL.done rfl (SemY.fr (l' := [(5, e13), (7, u0), (8, .v (.int .i64 (x0.length : Int))), (9, .v (.int .i64 c1)), (13, e5), (14, .v (.int .i64 (v4.length : Int))), (15, .v (.int .i64 c8)), (20, .v (.int .i64 (v11.length : Int))), (21, .v (.int .i64 c16))]) (by kernel_rfl) ?_)
      refine SemY.regionL ?_
      refine RunL.segF (n := 33) e_law09_spoil_d_ok 2 [(5, e13), (7, u0), (8, .v (.int .i64 (x0.length : Int))), (9, .v (.int .i64 c1)), (13, e5), (14, .v (.int .i64 (v4.length : Int))), (15, .v (.int .i64 c8)), (20, .v (.int .i64 (v11.length : Int))), (21, .v (.int .i64 (wr .i64 (c16 + 1))))] hp21 (by kernel_rfl) ?_
      refine RunL.done rfl ?_
      exact SemYN.wk WkY.f1 (ih0 (wr .i64 (c16 + 1)) (c17.set c16.toNat (xorI .i64 v19 1)) _ h  hp21 hT23)
    · rw [if_f hb18] at h
      refine SemY.exit ?_
      have hq := Option.some.inj h; subst hq
      have hT26 : T hp ((own_ (ocL 1 31 (ocL 1 3 (ocV cdI))) e5 (c9.set c8.toNat c17)) :: (hole 1 50 (ocL 1 31 (ocL 1 3 (ocV cdI))) u0 c2 c1.toNat e5 v4) :: L) := (T.merge hT)
      have hT27 : T hp ((hole 1 50 (ocL 1 31 (ocL 1 3 (ocV cdI))) u0 c2 c1.toNat e5 v4) :: (own_ (ocL 1 31 (ocL 1 3 (ocV cdI))) e5 (c9.set c8.toNat c17)) :: L) := (hT26.front 1 rfl)
      exact ⟨rfl, _, ⟨hp, hT27, rfl⟩, WkY.f1⟩
set_option maxHeartbeats 4000000 in
set_option maxRecDepth 100000 in
theorem law09_spoil_d_2_ok {L : List Asn} (c1 : Int) (c2 : (List (List (List Int)))) (v4 : (List (List Int))) (u0 : AV) (x0 : (List (List (List Int)))) (e5 : AV) : ∀ (f : Nat) (c8 : Int) (c9 : (List (List Int))) (r : ((List (List (List Int))))), law09_spoil_d_2 c1 c2 v4 f c8 c9 = some r → ∀ (hp : Hp), T hp ((hole 1 50 (ocL 1 31 (ocL 1 3 (ocV cdI))) u0 c2 c1.toNat e5 v4) :: (own_ (ocL 1 31 (ocL 1 3 (ocV cdI))) e5 c9) :: L) → SemYN e_law09_spoil_d ⟨none, false⟩ (pc cb_law09_spoil_d [1, 0, 0, 1, 1, 0, 0, 1, 1, 0, 0]) f ⟨Fr 33 [(7, u0), (8, .v (.int .i64 (x0.length : Int))), (9, .v (.int .i64 c1)), (13, e5), (14, .v (.int .i64 (v4.length : Int))), (15, .v (.int .i64 c8))], hp⟩ (fun e s => e = (.exit 2) ∧ ∃ s2, (∃ (h' : Hp), T h' ((own_ (ocL 1 50 (ocL 1 31 (ocL 1 3 (ocV cdI)))) u0 r) :: L) ∧ s2 = ⟨Fr 33 [(7, u0), (8, .v (.int .i64 (x0.length : Int))), (9, .v (.int .i64 c1))], h'⟩) ∧ WkY e_law09_spoil_d s s2) := by
  intro f
  induction f with
  | zero => intro c8 c9 r h; cases h
  | succ f ih0 =>
    intro c8 c9 r h  hp hT
    unfold law09_spoil_d_2 at h
    refine SemYN.succ ?_
    refine SemY.seq ?_
    refine SemY.regionL ?_
    refine RunL.segF (n := 33) e_law09_spoil_d_ok 1 [(7, u0), (8, .v (.int .i64 (x0.length : Int))), (9, .v (.int .i64 c1)), (13, e5), (14, .v (.int .i64 (v4.length : Int))), (15, .v (.int .i64 c8)), (16, .v (.bool (decide (c8 < (v4.length : Int)))))] hp (by kernel_rfl) ?_
    refine RunL.done rfl (SemY.fr (l' := [(7, u0), (8, .v (.int .i64 (x0.length : Int))), (9, .v (.int .i64 c1)), (13, e5), (14, .v (.int .i64 (v4.length : Int))), (15, .v (.int .i64 c8)), (16, .v (.bool (decide (c8 < (v4.length : Int)))))]) (by kernel_rfl) ?_)
    refine SemY.seq ?_
    refine SemY.cond (b := (decide (c8 < (v4.length : Int)))) (by kernel_rfl) (fun hb10 => ?_) (fun hb10 => ?_)
    · rw [if_pos hb10] at h
      refine SemY.skip ?_
      refine SemY.seq ?_
      refine SemY.block ?_
      refine SemY.seq ?_
      refine SemY.regionL ?_
      obtain ⟨v11, hv11, h⟩ := Option.bind_eq_some_iff.1 h
      have hT12 : T hp ((own_ (ocL 1 31 (ocL 1 3 (ocV cdI))) e5 c9) :: (hole 1 50 (ocL 1 31 (ocL 1 3 (ocV cdI))) u0 c2 c1.toNat e5 v4) :: L) := (hT.front 1 rfl)
      refine RunL.one e_law09_spoil_d_ok 0 rfl (op_q (wantedA_none rfl) rfl (q_indexAddr (a := e5) (b := .v (.int .i64 c8)) (by kernel_rfl) (by kernel_rfl) (ix_B (bytes := 24) hT12 (by kernel_rfl) hv11))) ?_
      obtain ⟨e13, hl14, hT150⟩ := ld_child (P := Tryd.prog) (ty := 31) hT12 (idx_at hv11).2 (by kernel_rfl) (by kernel_rfl)
      have hT15 : T hp ((own_ (ocL 1 3 (ocV cdI)) e13 v11) :: (hole 1 31 (ocL 1 3 (ocV cdI)) e5 c9 c8.toNat e13 v11) :: (hole 1 50 (ocL 1 31 (ocL 1 3 (ocV cdI))) u0 c2 c1.toNat e5 v4) :: L) := hT150
      refine RunL.one e_law09_spoil_d_ok 0 rfl (op_q (wantedA_none rfl) rfl (q_load (p := eAt e5 c8.toNat) (by kernel_rfl) hl14)) ?_
      refine RunL.segF (n := 33) e_law09_spoil_d_ok 1 [(5, e13), (7, u0), (8, .v (.int .i64 (x0.length : Int))), (9, .v (.int .i64 c1)), (13, e5), (14, .v (.int .i64 (v4.length : Int))), (15, .v (.int .i64 c8))] hp (by kernel_rfl) ?_
      refine RunL.done rfl (SemY.fr (l' := [(5, e13), (7, u0), (8, .v (.int .i64 (x0.length : Int))), (9, .v (.int .i64 c1)), (13, e5), (14, .v (.int .i64 (v4.length : Int))), (15, .v (.int .i64 c8))]) (by kernel_rfl) ?_)
      refine SemY.seq ?_
      refine SemY.regionL ?_
      refine RunL.segF (n := 33) e_law09_spoil_d_ok 1 [(5, e13), (7, u0), (8, .v (.int .i64 (x0.length : Int))), (9, .v (.int .i64 c1)), (13, e5), (14, .v (.int .i64 (v4.length : Int))), (15, .v (.int .i64 c8)), (19, e13)] hp (by kernel_rfl) ?_
      refine RunL.one e_law09_spoil_d_ok 0 rfl (op_q (wantedA_none rfl) rfl (q_len (a := e13) (by kernel_rfl) (len_B hT15 (by kernel_rfl)))) ?_
      refine RunL.segF (n := 33) e_law09_spoil_d_ok 1 [(5, e13), (7, u0), (8, .v (.int .i64 (x0.length : Int))), (9, .v (.int .i64 c1)), (13, e5), (14, .v (.int .i64 (v4.length : Int))), (15, .v (.int .i64 c8)), (20, .v (.int .i64 (v11.length : Int))), (21, .v (.int .i64 0))] hp (by kernel_rfl) ?_
      refine RunL.done rfl (SemY.fr (l' := [(5, e13), (7, u0), (8, .v (.int .i64 (x0.length : Int))), (9, .v (.int .i64 c1)), (13, e5), (14, .v (.int .i64 (v4.length : Int))), (15, .v (.int .i64 c8)), (20, .v (.int .i64 (v11.length : Int))), (21, .v (.int .i64 0))]) (by kernel_rfl) ?_)
      refine SemY.block ?_
      refine SemY.loop (n := 100000) ?_
      obtain ⟨r28, hr28, h⟩ := Option.bind_eq_some_iff.1 h
      refine SemYN.cutT (SemYN.wk WkY.f1 (law09_spoil_d_3_ok c8 c9 v11 u0 x0 c1 c2 v4 e5 e13 _ 0 v11 _ hr28  hp hT15)) ?_
      rintro _ ⟨hp29, hT30, rfl⟩
      refine SemY.regionL ?_
      refine RunL.segF (n := 33) e_law09_spoil_d_ok 2 [(7, u0), (8, .v (.int .i64 (x0.length : Int))), (9, .v (.int .i64 c1)), (13, e5), (14, .v (.int .i64 (v4.length : Int))), (15, .v (.int .i64 (wr .i64 (c8 + 1))))] hp29 (by kernel_rfl) ?_
      refine RunL.done rfl ?_
      exact SemYN.wk WkY.f1 (ih0 (wr .i64 (c8 + 1)) r28 _ h  hp29 hT30)
    · rw [if_f hb10] at h
      refine SemY.exit ?_
      have hq := Option.some.inj h; subst hq
      have hT34 : T hp ((own_ (ocL 1 31 (ocL 1 3 (ocV cdI))) e5 c9) :: (hole 1 50 (ocL 1 31 (ocL 1 3 (ocV cdI))) u0 c2 c1.toNat e5 v4) :: L) := ((hT.front 0 rfl).front 1 rfl)
      have hT35 : T hp ((own_ (ocL 1 50 (ocL 1 31 (ocL 1 3 (ocV cdI)))) u0 (c2.set c1.toNat c9)) :: L) := (T.merge hT34)
      exact ⟨rfl, _, ⟨hp, hT35, rfl⟩, WkY.f1⟩
set_option maxHeartbeats 4000000 in
set_option maxRecDepth 100000 in
theorem law09_spoil_d_1_ok {L : List Asn} (x0 : (List (List (List Int)))) (u0 : AV) : ∀ (f : Nat) (c1 : Int) (c2 : (List (List (List Int)))) (r : ((List (List (List Int))))), law09_spoil_d_1 x0 f c1 c2 = some r → ∀ (hp : Hp), T hp ((own_ (ocL 1 50 (ocL 1 31 (ocL 1 3 (ocV cdI)))) u0 c2) :: L) → SemYN e_law09_spoil_d ⟨none, false⟩ (pc cb_law09_spoil_d [1, 0, 0]) f ⟨Fr 33 [(7, u0), (8, .v (.int .i64 (x0.length : Int))), (9, .v (.int .i64 c1))], hp⟩ (fun e s => e = (.exit 0) ∧ ∃ s2, (∃ (h' : Hp), T h' ((own_ (ocL 1 50 (ocL 1 31 (ocL 1 3 (ocV cdI)))) u0 r) :: L) ∧ s2 = ⟨Fr 33 [], h'⟩) ∧ WkY e_law09_spoil_d s s2) := by
  intro f
  induction f with
  | zero => intro c1 c2 r h; cases h
  | succ f ih0 =>
    intro c1 c2 r h  hp hT
    unfold law09_spoil_d_1 at h
    refine SemYN.succ ?_
    refine SemY.seq ?_
    refine SemY.regionL ?_
    refine RunL.segF (n := 33) e_law09_spoil_d_ok 1 [(7, u0), (8, .v (.int .i64 (x0.length : Int))), (9, .v (.int .i64 c1)), (10, .v (.bool (decide (c1 < (x0.length : Int)))))] hp (by kernel_rfl) ?_
    refine RunL.done rfl (SemY.fr (l' := [(7, u0), (8, .v (.int .i64 (x0.length : Int))), (9, .v (.int .i64 c1)), (10, .v (.bool (decide (c1 < (x0.length : Int)))))]) (by kernel_rfl) ?_)
    refine SemY.seq ?_
    refine SemY.cond (b := (decide (c1 < (x0.length : Int)))) (by kernel_rfl) (fun hb3 => ?_) (fun hb3 => ?_)
    · rw [if_pos hb3] at h
      refine SemY.skip ?_
      refine SemY.seq ?_
      refine SemY.block ?_
      refine SemY.seq ?_
      refine SemY.regionL ?_
      obtain ⟨v4, hv4, h⟩ := Option.bind_eq_some_iff.1 h
      refine RunL.one e_law09_spoil_d_ok 0 rfl (op_q (wantedA_none rfl) rfl (q_indexAddr (a := u0) (b := .v (.int .i64 c1)) (by kernel_rfl) (by kernel_rfl) (ix_B (bytes := 24) hT (by kernel_rfl) hv4))) ?_
      obtain ⟨e5, hl6, hT70⟩ := ld_child (P := Tryd.prog) (ty := 50) hT (idx_at hv4).2 (by kernel_rfl) (by kernel_rfl)
      have hT7 : T hp ((own_ (ocL 1 31 (ocL 1 3 (ocV cdI))) e5 v4) :: (hole 1 50 (ocL 1 31 (ocL 1 3 (ocV cdI))) u0 c2 c1.toNat e5 v4) :: L) := hT70
      refine RunL.one e_law09_spoil_d_ok 0 rfl (op_q (wantedA_none rfl) rfl (q_load (p := eAt u0 c1.toNat) (by kernel_rfl) hl6)) ?_
      refine RunL.segF (n := 33) e_law09_spoil_d_ok 1 [(3, e5), (7, u0), (8, .v (.int .i64 (x0.length : Int))), (9, .v (.int .i64 c1))] hp (by kernel_rfl) ?_
      refine RunL.done rfl (SemY.fr (l' := [(3, e5), (7, u0), (8, .v (.int .i64 (x0.length : Int))), (9, .v (.int .i64 c1))]) (by kernel_rfl) ?_)
      refine SemY.seq ?_
      refine SemY.regionL ?_
      refine RunL.segF (n := 33) e_law09_spoil_d_ok 1 [(7, u0), (8, .v (.int .i64 (x0.length : Int))), (9, .v (.int .i64 c1)), (13, e5)] hp (by kernel_rfl) ?_
      refine RunL.one e_law09_spoil_d_ok 0 rfl (op_q (wantedA_none rfl) rfl (q_len (a := e5) (by kernel_rfl) (len_B hT7 (by kernel_rfl)))) ?_
      refine RunL.segF (n := 33) e_law09_spoil_d_ok 1 [(7, u0), (8, .v (.int .i64 (x0.length : Int))), (9, .v (.int .i64 c1)), (13, e5), (14, .v (.int .i64 (v4.length : Int))), (15, .v (.int .i64 0))] hp (by kernel_rfl) ?_
      refine RunL.done rfl (SemY.fr (l' := [(7, u0), (8, .v (.int .i64 (x0.length : Int))), (9, .v (.int .i64 c1)), (13, e5), (14, .v (.int .i64 (v4.length : Int))), (15, .v (.int .i64 0))]) (by kernel_rfl) ?_)
      refine SemY.block ?_
      have hT36 : T hp ((hole 1 50 (ocL 1 31 (ocL 1 3 (ocV cdI))) u0 c2 c1.toNat e5 v4) :: (own_ (ocL 1 31 (ocL 1 3 (ocV cdI))) e5 v4) :: L) := (hT7.front 1 rfl)
      refine SemY.loop (n := 100000) ?_
      obtain ⟨r37, hr37, h⟩ := Option.bind_eq_some_iff.1 h
      refine SemYN.cutT (SemYN.wk WkY.f1 (law09_spoil_d_2_ok c1 c2 v4 u0 x0 e5 _ 0 v4 _ hr37  hp hT36)) ?_
      rintro _ ⟨hp38, hT39, rfl⟩
      refine SemY.regionL ?_
      refine RunL.segF (n := 33) e_law09_spoil_d_ok 2 [(7, u0), (8, .v (.int .i64 (x0.length : Int))), (9, .v (.int .i64 (wr .i64 (c1 + 1))))] hp38 (by kernel_rfl) ?_
      refine RunL.done rfl ?_
      exact SemYN.wk WkY.f1 (ih0 (wr .i64 (c1 + 1)) r37 _ h  hp38 hT39)
    · rw [if_f hb3] at h
      refine SemY.exit ?_
      have hq := Option.some.inj h; subst hq
      exact ⟨rfl, _, ⟨hp, hT, rfl⟩, WkY.f1⟩
set_option maxHeartbeats 4000000 in
set_option maxRecDepth 100000 in
theorem law09_spoil_d_sem {L : List Asn} {hp : Hp} (u0 : AV) (x0 : (List (List (List Int)))) (r : (List (List (List Int)))) (h : law09_spoil_d x0 = some r) (hT : T hp ((own_ (ocL 1 50 (ocL 1 31 (ocL 1 3 (ocV cdI)))) u0 x0) :: L)) : SemY e_law09_spoil_d ⟨none, false⟩ cb_law09_spoil_d ⟨Fr 33 (pairs0 0 [u0]), hp⟩ fun x s' => (x = .normal ∨ x = .ret) ∧ ∃ ys, resA e_law09_spoil_d.P s'.fr s'.hp Tryd.f65.results.toList = some ys ∧ (fun v h' => v = .tp [] ∧ T h' ((own_ (ocL 1 50 (ocL 1 31 (ocL 1 3 (ocV cdI)))) u0 r) :: L)) (retA ys) s'.hp := by
  unfold law09_spoil_d at h
  refine SemY.wkQ (SemY.wk (s1 := ⟨Fr 33 [(0, u0)], hp⟩) WkY.f1 ?_)
  refine SemY.seq ?_
  refine SemY.regionL ?_
  refine RunL.segF (n := 33) e_law09_spoil_d_ok 1 [(7, u0)] hp (by kernel_rfl) ?_
  refine RunL.one e_law09_spoil_d_ok 0 rfl (op_q (wantedA_none rfl) rfl (q_len (a := u0) (by kernel_rfl) (len_B hT (by kernel_rfl)))) ?_
  refine RunL.segF (n := 33) e_law09_spoil_d_ok 1 [(7, u0), (8, .v (.int .i64 (x0.length : Int))), (9, .v (.int .i64 0))] hp (by kernel_rfl) ?_
  refine RunL.done rfl (SemY.fr (l' := [(7, u0), (8, .v (.int .i64 (x0.length : Int))), (9, .v (.int .i64 0))]) (by kernel_rfl) ?_)
  refine SemY.block ?_
  refine SemY.loop (n := 100000) ?_
  obtain ⟨r41, hr41, h⟩ := Option.bind_eq_some_iff.1 h
  refine SemYN.cutT (SemYN.wk WkY.f1 (law09_spoil_d_1_ok x0 u0 _ 0 x0 _ hr41  hp hT)) ?_
  rintro _ ⟨hp42, hT43, rfl⟩
  have hq := Option.some.inj h; subst hq
  exact ⟨⟨Fr 33 [], hp42⟩, WkY.f1, .inl rfl, [], (by kernel_rfl), ⟨rfl, hT43⟩⟩
/- trestle/trestlelaw09.moves -/
noncomputable def e_law09_moves : Env := ((((((((E0.withX 14 t_law09_Copy).withX 48 t_ref09_Check).withX 39 t_evening_Hosts).withX 86 t_ref09_Hosts).withX 87 t_law09_permutation).withX 18 t_law09_Same).withX 56 t_kit_SameLists).withX 23 t_slices_Equal_L_int)
theorem e_law09_moves_ok : EnvOk e_law09_moves := (EnvOk.withX (EnvOk.withX (EnvOk.withX (EnvOk.withX (EnvOk.withX (EnvOk.withX (EnvOk.withX (EnvOk.withX E0_ok x_law09_Copy.1 x_law09_Copy.2) x_ref09_Check.1 x_ref09_Check.2) x_evening_Hosts.1 x_evening_Hosts.2) x_ref09_Hosts.1 x_ref09_Hosts.2) x_law09_permutation.1 x_law09_permutation.2) x_law09_Same.1 x_law09_Same.2) x_kit_SameLists.1 x_kit_SameLists.2) x_slices_Equal_L_int.1 x_slices_Equal_L_int.2)
noncomputable def cb_law09_moves : Code := codeOf Tryd.f34
def law09_moves_5 (x3 : (List Int)) (c37 : Int) (c38 : (List (List Int))) (v40 : (List Int)) : Nat → Int → (List Int) → Option (((List (List Int))))
  | 0, _, _ => none
  | f + 1, c45, c46 =>
    if (decide (c45 < (v40.length : Int))) = true then
    (idx c46 c45).bind fun v48 =>
    (idx x3 v48).bind fun v50 =>
    (idx c46 c45).bind fun _v51 =>
    law09_moves_5 x3 c37 c38 v40 f (wr .i64 (c45 + 1)) (c46.set c45.toNat v50)
    else
    some (c38.set c37.toNat c46)
def law09_moves_4 (x3 : (List Int)) (c29 : Int) (c30 : (List (List (List Int)))) (v32 : (List (List Int))) : Nat → Int → (List (List Int)) → Option (((List (List (List Int)))))
  | 0, _, _ => none
  | f + 1, c37, c38 =>
    if (decide (c37 < (v32.length : Int))) = true then
    (idx c38 c37).bind fun v40 =>
    (law09_moves_5 x3 c37 c38 v40 100000 0 v40).bind fun r63 =>
    law09_moves_4 x3 c29 c30 v32 f (wr .i64 (c37 + 1)) r63
    else
    some (c30.set c29.toNat c38)
def law09_moves_3 (x3 : (List Int)) (v25 : (List (List (List Int)))) : Nat → Int → (List (List (List Int))) → Option (((List (List (List Int)))))
  | 0, _, _ => none
  | f + 1, c29, c30 =>
    if (decide (c29 < (v25.length : Int))) = true then
    (idx c30 c29).bind fun v32 =>
    (law09_moves_4 x3 c29 c30 v32 100000 0 v32).bind fun r73 =>
    law09_moves_3 x3 v25 f (wr .i64 (c29 + 1)) r73
    else
    some c30
def law09_moves_j2 (x1 : (List (List (List Int)))) (x3 : (List Int)) (v23 : Bool) : Option ((Int × (List (List (List Int))))) :=
  if v23 = true then
  (ref09_Copy_d x1).bind fun v25 =>
  (law09_moves_3 x3 v25 100000 0 v25).bind fun r78 =>
  some (0, r78)
  else
  some (2, ([] : (List (List (List Int)))))
def law09_moves_j7 (x1 : (List (List (List Int)))) (x2 : (List (List (List Int)))) : Option ((Int × (List (List (List Int))))) :=
  if (decide ((wr .i64 ((x1.length : Int) + (x2.length : Int))) ≤ 64)) = true then
  (ref09_Copy_d x1).bind fun v92 =>
  (ref09_Copy_d x2).bind fun v96 =>
  if (capOk 24 (v92.length + v96.length)) = true then
  some (0, (v92 ++ v96))
  else none
  else
  some (7, ([] : (List (List (List Int)))))
def law09_moves_j6 (x1 : (List (List (List Int)))) (x2 : (List (List (List Int)))) (v8 : Int × Int) : Option ((Int × (List (List (List Int))))) :=
  if (v8.2 == 0) = true then
  (law09_moves_j7 x1 x2).bind fun r112 =>
  some (r112.1, r112.2)
  else
  some (v8.2, ([] : (List (List (List Int)))))
def law09_moves_j1 (x0 : Int) (x1 : (List (List (List Int)))) (x2 : (List (List (List Int)))) (x3 : (List Int)) (v7 : Int × Int) (v8 : Int × Int) : Option (((List (List Int)) × Int × Int × (List (List (List Int))) × (List (List (List Int))))) :=
  if (v7.2 == 0) = true then
  (ref09_Hosts x0 x1).bind fun v22 =>
  (law09_permutation x3 x0).bind fun v23 =>
  (law09_moves_j2 x1 x3 v23).bind fun r86 =>
  (law09_moves_j6 x1 x2 v8).bind fun r121 =>
  some (v22, r86.1, r121.1, r86.2, r121.2)
  else
  some (([] : (List (List Int))), v7.2, v7.2, ([] : (List (List (List Int)))), ([] : (List (List (List Int)))))
def law09_moves (x0 : Int) (x1 : (List (List (List Int)))) (x2 : (List (List (List Int)))) (x3 : (List Int)) : Option (Bool) :=
  (law09_Copy x1).bind fun v1 =>
  (law09_Copy x2).bind fun v2 =>
  if (capOk 8 x3.length) = true then
  (ref09_Check x0 [] x1).bind fun v7 =>
  (ref09_Check x0 [] x2).bind fun v8 =>
  (evening_Relabel_d x0 v1 x3).bind fun v12 =>
  (evening_Join_d x0 v1 v2).bind fun v16 =>
  (evening_Hosts x0 v1).bind fun v20 =>
  (law09_moves_j1 x0 x1 x2 x3 v7 v8).bind fun r139 =>
  (law09_Same v12.2 r139.2.2.2.1).bind fun v144 =>
  (if (!v144) = true then some true else (law09_Same v16.2 r139.2.2.2.2).bind fun v145 =>
  if (!v145) = true then some true else (kit_SameLists v20 r139.1).bind fun v146 =>
  if (!v146) = true then some true else if (v12.1 != r139.2.1) = true then some true else some (v16.1 != r139.2.2.1)).bind fun j147 =>
  if j147 = true then
  some false
  else
  (law09_spoil_d v12.2).bind fun _v167 =>
  (law09_spoil_d v16.2).bind fun _v171 =>
  (law09_Same v1 x1).bind fun v174 =>
  (if v174 = true then (law09_Same v2 x2).bind fun v175 =>
  if v175 = true then (slices_Equal_L_int x3 x3).bind fun v176 =>
  some v176 else some false else some false).bind fun j177 =>
  some j177
  else none
set_option maxHeartbeats 4000000 in
set_option maxRecDepth 100000 in
theorem law09_moves_5_ok {L : List Asn} (x3 : (List Int)) (c37 : Int) (c38 : (List (List Int))) (v40 : (List Int)) (x1 : (List (List (List Int)))) (x2 : (List (List (List Int)))) (v1 : (List (List (List Int)))) (v2 : (List (List (List Int)))) (v8 : Int × Int) (v12 : Int × (List (List (List Int)))) (e13 : AV) (v16 : Int × (List (List (List Int)))) (e17 : AV) (v20 : (List (List Int))) (v22 : (List (List Int))) (v25 : (List (List (List Int)))) (e26 : AV) (c29 : Int) (c30 : (List (List (List Int)))) (v32 : (List (List Int))) (e34 : AV) (e42 : AV) : ∀ (f : Nat) (c45 : Int) (c46 : (List Int)) (r : ((List (List Int)))), law09_moves_5 x3 c37 c38 v40 f c45 c46 = some r → ∀ (hp : Hp), T hp ((own_ (ocL 1 50 (ocL 1 31 (ocL 1 3 (ocV cdI)))) e13 v12.2) :: (own_ (ocL 1 50 (ocL 1 31 (ocL 1 3 (ocV cdI)))) e17 v16.2) :: (hole 1 50 (ocL 1 31 (ocL 1 3 (ocV cdI))) e26 c30 c29.toNat e34 v32) :: (hole 1 31 (ocL 1 3 (ocV cdI)) e34 c38 c37.toNat e42 v40) :: (own_ (ocL 1 3 (ocV cdI)) e42 c46) :: L) → SemYN e_law09_moves ⟨none, false⟩ (pc cb_law09_moves [1, 1, 1, 1, 1, 1, 1, 1, 1, 1, 0, 1, 0, 1, 1, 1, 0, 1, 0, 1, 1, 1, 0, 0, 1, 1, 0, 0, 1, 1, 0, 0, 1, 1, 0, 0, 1, 1, 0, 0]) f ⟨Fr 165 [(1, .sl 1 (x1.map (cdL 1 (cdL 1 cdI)).enc)), (2, .sl 1 (x2.map (cdL 1 (cdL 1 cdI)).enc)), (3, .sl 1 (x3.map cdI.enc)), (9, .sl 1 (v1.map (cdL 1 (cdL 1 cdI)).enc)), (10, .sl 1 (v2.map (cdL 1 (cdL 1 cdI)).enc)), (11, .sl 1 (x3.map cdI.enc)), (15, .v (.int .i64 v8.2)), (16, e13), (17, .v (.int .i64 v12.1)), (18, e17), (19, .v (.int .i64 v16.1)), (20, .sl 1 (v20.map (cdL 1 cdI).enc)), (21, e26), (22, .e0), (23, .sl 1 (v22.map (cdL 1 cdI).enc)), (24, .v (.int .i64 0)), (25, .v (.int .i64 v8.2)), (29, e42), (80, e26), (81, .v (.int .i64 (v25.length : Int))), (82, .v (.int .i64 c29)), (86, e34), (87, .v (.int .i64 (v32.length : Int))), (88, .v (.int .i64 c37)), (92, e42), (93, .v (.int .i64 (v40.length : Int))), (94, .v (.int .i64 c45))], hp⟩ (fun e s => e = (.exit 4) ∧ ∃ s2, (∃ (h' : Hp), T h' ((own_ (ocL 1 50 (ocL 1 31 (ocL 1 3 (ocV cdI)))) e13 v12.2) :: (own_ (ocL 1 50 (ocL 1 31 (ocL 1 3 (ocV cdI)))) e17 v16.2) :: (hole 1 50 (ocL 1 31 (ocL 1 3 (ocV cdI))) e26 c30 c29.toNat e34 v32) :: (own_ (ocL 1 31 (ocL 1 3 (ocV cdI))) e34 r) :: L) ∧ s2 = ⟨Fr 165 [(1, .sl 1 (x1.map (cdL 1 (cdL 1 cdI)).enc)), (2, .sl 1 (x2.map (cdL 1 (cdL 1 cdI)).enc)), (3, .sl 1 (x3.map cdI.enc)), (9, .sl 1 (v1.map (cdL 1 (cdL 1 cdI)).enc)), (10, .sl 1 (v2.map (cdL 1 (cdL 1 cdI)).enc)), (11, .sl 1 (x3.map cdI.enc)), (15, .v (.int .i64 v8.2)), (16, e13), (17, .v (.int .i64 v12.1)), (18, e17), (19, .v (.int .i64 v16.1)), (20, .sl 1 (v20.map (cdL 1 cdI).enc)), (21, e26), (22, .e0), (23, .sl 1 (v22.map (cdL 1 cdI).enc)), (24, .v (.int .i64 0)), (25, .v (.int .i64 v8.2)), (80, e26), (81, .v (.int .i64 (v25.length : Int))), (82, .v (.int .i64 c29)), (86, e34), (87, .v (.int .i64 (v32.length : Int))), (88, .v (.int .i64 c37))], h'⟩) ∧ WkY e_law09_moves s s2) := by
  intro f
  induction f with
  | zero => intro c45 c46 r h; cases h
  | succ f ih0 =>
    intro c45 c46 r h  hp hT
    unfold law09_moves_5 at h
    refine SemYN.succ ?_
    refine SemY.seq ?_
    refine SemY.regionL ?_
    refine RunL.segF (n := 165) e_law09_moves_ok 1 [(1, .sl 1 (x1.map (cdL 1 (cdL 1 cdI)).enc)), (2, .sl 1 (x2.map (cdL 1 (cdL 1 cdI)).enc)), (3, .sl 1 (x3.map cdI.enc)), (9, .sl 1 (v1.map (cdL 1 (cdL 1 cdI)).enc)), (10, .sl 1 (v2.map (cdL 1 (cdL 1 cdI)).enc)), (11, .sl 1 (x3.map cdI.enc)), (15, .v (.int .i64 v8.2)), (16, e13), (17, .v (.int .i64 v12.1)), (18, e17), (19, .v (.int .i64 v16.1)), (20, .sl 1 (v20.map (cdL 1 cdI).enc)), (21, e26), (22, .e0), (23, .sl 1 (v22.map (cdL 1 cdI).enc)), (24, .v (.int .i64 0)), (25, .v (.int .i64 v8.2)), (29, e42), (80, e26), (81, .v (.int .i64 (v25.length : Int))), (82, .v (.int .i64 c29)), (86, e34), (87, .v (.int .i64 (v32.length : Int))), (88, .v (.int .i64 c37)), (92, e42), (93, .v (.int .i64 (v40.length : Int))), (94, .v (.int .i64 c45)), (95, .v (.bool (decide (c45 < (v40.length : Int)))))] hp (by kernel_rfl) ?_
    refine RunL.done rfl (SemY.fr (l' := [(1, .sl 1 (x1.map (cdL 1 (cdL 1 cdI)).enc)), (2, .sl 1 (x2.map (cdL 1 (cdL 1 cdI)).enc)), (3, .sl 1 (x3.map cdI.enc)), (9, .sl 1 (v1.map (cdL 1 (cdL 1 cdI)).enc)), (10, .sl 1 (v2.map (cdL 1 (cdL 1 cdI)).enc)), (11, .sl 1 (x3.map cdI.enc)), (15, .v (.int .i64 v8.2)), (16, e13), (17, .v (.int .i64 v12.1)), (18, e17), (19, .v (.int .i64 v16.1)), (20, .sl 1 (v20.map (cdL 1 cdI).enc)), (21, e26), (22, .e0), (23, .sl 1 (v22.map (cdL 1 cdI).enc)), (24, .v (.int .i64 0)), (25, .v (.int .i64 v8.2)), (29, e42), (80, e26), (81, .v (.int .i64 (v25.length : Int))), (82, .v (.int .i64 c29)), (86, e34), (87, .v (.int .i64 (v32.length : Int))), (88, .v (.int .i64 c37)), (92, e42), (93, .v (.int .i64 (v40.length : Int))), (94, .v (.int .i64 c45)), (95, .v (.bool (decide (c45 < (v40.length : Int)))))]) (by kernel_rfl) ?_)
    refine SemY.seq ?_
    refine SemY.cond (b := (decide (c45 < (v40.length : Int)))) (by kernel_rfl) (fun hb47 => ?_) (fun hb47 => ?_)
    · rw [if_pos hb47] at h
      refine SemY.skip ?_
      refine SemY.seq ?_
      refine SemY.block ?_
      refine SemY.seq ?_
      refine SemY.regionL ?_
      refine RunL.segF (n := 165) e_law09_moves_ok 1 [(1, .sl 1 (x1.map (cdL 1 (cdL 1 cdI)).enc)), (2, .sl 1 (x2.map (cdL 1 (cdL 1 cdI)).enc)), (3, .sl 1 (x3.map cdI.enc)), (9, .sl 1 (v1.map (cdL 1 (cdL 1 cdI)).enc)), (10, .sl 1 (v2.map (cdL 1 (cdL 1 cdI)).enc)), (11, .sl 1 (x3.map cdI.enc)), (15, .v (.int .i64 v8.2)), (16, e13), (17, .v (.int .i64 v12.1)), (18, e17), (19, .v (.int .i64 v16.1)), (20, .sl 1 (v20.map (cdL 1 cdI).enc)), (21, e26), (22, .e0), (23, .sl 1 (v22.map (cdL 1 cdI).enc)), (24, .v (.int .i64 0)), (25, .v (.int .i64 v8.2)), (29, e42), (80, e26), (81, .v (.int .i64 (v25.length : Int))), (82, .v (.int .i64 c29)), (86, e34), (87, .v (.int .i64 (v32.length : Int))), (88, .v (.int .i64 c37)), (92, e42), (93, .v (.int .i64 (v40.length : Int))), (94, .v (.int .i64 c45)), (96, .v (.int .i64 c45))] hp (by kernel_rfl) ?_
      obtain ⟨v48, hv48, h⟩ := Option.bind_eq_some_iff.1 h
      have hT49 : T hp ((own_ (ocL 1 3 (ocV cdI)) e42 c46) :: (own_ (ocL 1 50 (ocL 1 31 (ocL 1 3 (ocV cdI)))) e13 v12.2) :: (own_ (ocL 1 50 (ocL 1 31 (ocL 1 3 (ocV cdI)))) e17 v16.2) :: (hole 1 50 (ocL 1 31 (ocL 1 3 (ocV cdI))) e26 c30 c29.toNat e34 v32) :: (hole 1 31 (ocL 1 3 (ocV cdI)) e34 c38 c37.toNat e42 v40) :: L) := (hT.front 4 rfl)
      refine RunL.one e_law09_moves_ok 0 rfl (op_q (wantedA_none rfl) rfl (q_indexAddr (a := e42) (b := .v (.int .i64 c45)) (by kernel_rfl) (by kernel_rfl) (ix_B (bytes := 8) hT49 (by kernel_rfl) hv48))) ?_
      refine RunL.one e_law09_moves_ok 0 rfl (op_q (wantedA_none rfl) rfl (q_load (p := eAt e42 c45.toNat) (by kernel_rfl) (ld_own0 (y := .v (.int .i64 v48)) (m := 1) (g := false) hT49 (idx_at hv48).2 (by kernel_rfl) (by kernel_rfl) (by kernel_rfl)))) ?_
      refine RunL.segF (n := 165) e_law09_moves_ok 2 [(1, .sl 1 (x1.map (cdL 1 (cdL 1 cdI)).enc)), (2, .sl 1 (x2.map (cdL 1 (cdL 1 cdI)).enc)), (3, .sl 1 (x3.map cdI.enc)), (9, .sl 1 (v1.map (cdL 1 (cdL 1 cdI)).enc)), (10, .sl 1 (v2.map (cdL 1 (cdL 1 cdI)).enc)), (11, .sl 1 (x3.map cdI.enc)), (15, .v (.int .i64 v8.2)), (16, e13), (17, .v (.int .i64 v12.1)), (18, e17), (19, .v (.int .i64 v16.1)), (20, .sl 1 (v20.map (cdL 1 cdI).enc)), (21, e26), (22, .e0), (23, .sl 1 (v22.map (cdL 1 cdI).enc)), (24, .v (.int .i64 0)), (25, .v (.int .i64 v8.2)), (29, e42), (30, .v (.int .i64 c45)), (31, .v (.int .i64 v48)), (80, e26), (81, .v (.int .i64 (v25.length : Int))), (82, .v (.int .i64 c29)), (86, e34), (87, .v (.int .i64 (v32.length : Int))), (88, .v (.int .i64 c37)), (92, e42), (93, .v (.int .i64 (v40.length : Int))), (94, .v (.int .i64 c45))] hp (by kernel_rfl) ?_
      refine RunL.done rfl (SemY.fr (l' := [(1, .sl 1 (x1.map (cdL 1 (cdL 1 cdI)).enc)), (2, .sl 1 (x2.map (cdL 1 (cdL 1 cdI)).enc)), (3, .sl 1 (x3.map cdI.enc)), (9, .sl 1 (v1.map (cdL 1 (cdL 1 cdI)).enc)), (10, .sl 1 (v2.map (cdL 1 (cdL 1 cdI)).enc)), (11, .sl 1 (x3.map cdI.enc)), (15, .v (.int .i64 v8.2)), (16, e13), (17, .v (.int .i64 v12.1)), (18, e17), (19, .v (.int .i64 v16.1)), (20, .sl 1 (v20.map (cdL 1 cdI).enc)), (21, e26), (22, .e0), (23, .sl 1 (v22.map (cdL 1 cdI).enc)), (24, .v (.int .i64 0)), (25, .v (.int .i64 v8.2)), (29, e42), (30, .v (.int .i64 c45)), (31, .v (.int .i64 v48)), (80, e26), (81, .v (.int .i64 (v25.length : Int))), (82, .v (.int .i64 c29)), (86, e34), (87, .v (.int .i64 (v32.length : Int))), (88, .v (.int .i64 c37)), (92, e42), (93, .v (.int .i64 (v40.length : Int))), (94, .v (.int .i64 c45))]) (by kernel_rfl) ?_)
      refine SemY.regionL ?_
      refine RunL.segF (n := 165) e_law09_moves_ok 4 [(1, .sl 1 (x1.map (cdL 1 (cdL 1 cdI)).enc)), (2, .sl 1 (x2.map (cdL 1 (cdL 1 cdI)).enc)), (3, .sl 1 (x3.map cdI.enc)), (9, .sl 1 (v1.map (cdL 1 (cdL 1 cdI)).enc)), (10, .sl 1 (v2.map (cdL 1 (cdL 1 cdI)).enc)), (11, .sl 1 (x3.map cdI.enc)), (15, .v (.int .i64 v8.2)), (16, e13), (17, .v (.int .i64 v12.1)), (18, e17), (19, .v (.int .i64 v16.1)), (20, .sl 1 (v20.map (cdL 1 cdI).enc)), (21, e26), (22, .e0), (23, .sl 1 (v22.map (cdL 1 cdI).enc)), (24, .v (.int .i64 0)), (25, .v (.int .i64 v8.2)), (29, e42), (80, e26), (81, .v (.int .i64 (v25.length : Int))), (82, .v (.int .i64 c29)), (86, e34), (87, .v (.int .i64 (v32.length : Int))), (88, .v (.int .i64 c37)), (92, e42), (93, .v (.int .i64 (v40.length : Int))), (94, .v (.int .i64 c45)), (99, e42), (100, .v (.int .i64 c45)), (101, .sl 1 (x3.map cdI.enc)), (102, .v (.int .i64 v48))] hp (by kernel_rfl) ?_
      obtain ⟨v50, hv50, h⟩ := Option.bind_eq_some_iff.1 h
      refine RunL.one e_law09_moves_ok 0 rfl (op_q (wantedA_none rfl) rfl (q_indexAddr (a := .sl 1 (x3.map cdI.enc)) (b := .v (.int .i64 v48)) (by kernel_rfl) (by kernel_rfl) (ix_sl (e := cdI.enc) (el := 3) (k := 1) (ki := .i64) (by kernel_rfl) (by kernel_rfl) hv50))) ?_
      refine RunL.segF (n := 165) e_law09_moves_ok 1 [(1, .sl 1 (x1.map (cdL 1 (cdL 1 cdI)).enc)), (2, .sl 1 (x2.map (cdL 1 (cdL 1 cdI)).enc)), (3, .sl 1 (x3.map cdI.enc)), (9, .sl 1 (v1.map (cdL 1 (cdL 1 cdI)).enc)), (10, .sl 1 (v2.map (cdL 1 (cdL 1 cdI)).enc)), (11, .sl 1 (x3.map cdI.enc)), (15, .v (.int .i64 v8.2)), (16, e13), (17, .v (.int .i64 v12.1)), (18, e17), (19, .v (.int .i64 v16.1)), (20, .sl 1 (v20.map (cdL 1 cdI).enc)), (21, e26), (22, .e0), (23, .sl 1 (v22.map (cdL 1 cdI).enc)), (24, .v (.int .i64 0)), (25, .v (.int .i64 v8.2)), (29, e42), (80, e26), (81, .v (.int .i64 (v25.length : Int))), (82, .v (.int .i64 c29)), (86, e34), (87, .v (.int .i64 (v32.length : Int))), (88, .v (.int .i64 c37)), (92, e42), (93, .v (.int .i64 (v40.length : Int))), (94, .v (.int .i64 c45)), (99, e42), (100, .v (.int .i64 c45)), (104, .v (.int .i64 v50))] hp (by kernel_rfl) ?_
      obtain ⟨v51, hv51, h⟩ := Option.bind_eq_some_iff.1 h
      refine RunL.one e_law09_moves_ok 0 rfl (op_q (wantedA_none rfl) rfl (q_indexAddr (a := e42) (b := .v (.int .i64 c45)) (by kernel_rfl) (by kernel_rfl) (ix_B (bytes := 8) hT49 (by kernel_rfl) hv51))) ?_
      obtain ⟨hp52, hs53, hT540⟩ := st_own0 (P := Tryd.prog) (ty := 3) (y := .v (.int .i64 v50)) (v' := v50) hT49 (idx_at hv51).2 (by kernel_rfl) (by kernel_rfl) (by kernel_rfl)
      have hT54 : T hp52 ((own_ (ocL 1 3 (ocV cdI)) e42 (c46.set c45.toNat v50)) :: (own_ (ocL 1 50 (ocL 1 31 (ocL 1 3 (ocV cdI)))) e13 v12.2) :: (own_ (ocL 1 50 (ocL 1 31 (ocL 1 3 (ocV cdI)))) e17 v16.2) :: (hole 1 50 (ocL 1 31 (ocL 1 3 (ocV cdI))) e26 c30 c29.toNat e34 v32) :: (hole 1 31 (ocL 1 3 (ocV cdI)) e34 c38 c37.toNat e42 v40) :: L) := hT540
      refine RunL.store e_law09_moves_ok (y := eAt e42 c45.toNat) (z := .v (.int .i64 v50)) rfl (wantedA_none rfl) (by kernel_rfl) (by kernel_rfl) hs53 ?_
      refine RunL.done rfl (SemY.fr (l' := [(1, .sl 1 (x1.map (cdL 1 (cdL 1 cdI)).enc)), (2, .sl 1 (x2.map (cdL 1 (cdL 1 cdI)).enc)), (3, .sl 1 (x3.map cdI.enc)), (9, .sl 1 (v1.map (cdL 1 (cdL 1 cdI)).enc)), (10, .sl 1 (v2.map (cdL 1 (cdL 1 cdI)).enc)), (11, .sl 1 (x3.map cdI.enc)), (15, .v (.int .i64 v8.2)), (16, e13), (17, .v (.int .i64 v12.1)), (18, e17), (19, .v (.int .i64 v16.1)), (20, .sl 1 (v20.map (cdL 1 cdI).enc)), (21, e26), (22, .e0), (23, .sl 1 (v22.map (cdL 1 cdI).enc)), (24, .v (.int .i64 0)), (25, .v (.int .i64 v8.2)), (29, e42), (80, e26), (81, .v (.int .i64 (v25.length : Int))), (82, .v (.int .i64 c29)), (86, e34), (87, .v (.int .i64 (v32.length : Int))), (88, .v (.int .i64 c37)), (92, e42), (93, .v (.int .i64 (v40.length : Int))), (94, .v (.int .i64 c45))]) (by kernel_rfl) ?_)
      refine SemY.regionL ?_
      refine RunL.segF (n := 165) e_law09_moves_ok 2 [(1, .sl 1 (x1.map (cdL 1 (cdL 1 cdI)).enc)), (2, .sl 1 (x2.map (cdL 1 (cdL 1 cdI)).enc)), (3, .sl 1 (x3.map cdI.enc)), (9, .sl 1 (v1.map (cdL 1 (cdL 1 cdI)).enc)), (10, .sl 1 (v2.map (cdL 1 (cdL 1 cdI)).enc)), (11, .sl 1 (x3.map cdI.enc)), (15, .v (.int .i64 v8.2)), (16, e13), (17, .v (.int .i64 v12.1)), (18, e17), (19, .v (.int .i64 v16.1)), (20, .sl 1 (v20.map (cdL 1 cdI).enc)), (21, e26), (22, .e0), (23, .sl 1 (v22.map (cdL 1 cdI).enc)), (24, .v (.int .i64 0)), (25, .v (.int .i64 v8.2)), (29, e42), (80, e26), (81, .v (.int .i64 (v25.length : Int))), (82, .v (.int .i64 c29)), (86, e34), (87, .v (.int .i64 (v32.length : Int))), (88, .v (.int .i64 c37)), (92, e42), (93, .v (.int .i64 (v40.length : Int))), (94, .v (.int .i64 (wr .i64 (c45 + 1))))] hp52 (by kernel_rfl) ?_
      refine RunL.done rfl ?_
      have hT55 : T hp52 ((own_ (ocL 1 50 (ocL 1 31 (ocL 1 3 (ocV cdI)))) e13 v12.2) :: (own_ (ocL 1 50 (ocL 1 31 (ocL 1 3 (ocV cdI)))) e17 v16.2) :: (hole 1 50 (ocL 1 31 (ocL 1 3 (ocV cdI))) e26 c30 c29.toNat e34 v32) :: (hole 1 31 (ocL 1 3 (ocV cdI)) e34 c38 c37.toNat e42 v40) :: (own_ (ocL 1 3 (ocV cdI)) e42 (c46.set c45.toNat v50)) :: L) := ((((hT54.front 4 rfl).front 4 rfl).front 4 rfl).front 4 rfl)
      exact SemYN.wk WkY.f1 (ih0 (wr .i64 (c45 + 1)) (c46.set c45.toNat v50) _ h  hp52 hT55)
    · rw [if_f hb47] at h
      refine SemY.exit ?_
      have hq := Option.some.inj h; subst hq
      have hT59 : T hp ((own_ (ocL 1 3 (ocV cdI)) e42 c46) :: (hole 1 31 (ocL 1 3 (ocV cdI)) e34 c38 c37.toNat e42 v40) :: (own_ (ocL 1 50 (ocL 1 31 (ocL 1 3 (ocV cdI)))) e13 v12.2) :: (own_ (ocL 1 50 (ocL 1 31 (ocL 1 3 (ocV cdI)))) e17 v16.2) :: (hole 1 50 (ocL 1 31 (ocL 1 3 (ocV cdI))) e26 c30 c29.toNat e34 v32) :: L) := ((hT.front 3 rfl).front 4 rfl)
      have hT60 : T hp ((own_ (ocL 1 31 (ocL 1 3 (ocV cdI))) e34 (c38.set c37.toNat c46)) :: (own_ (ocL 1 50 (ocL 1 31 (ocL 1 3 (ocV cdI)))) e13 v12.2) :: (own_ (ocL 1 50 (ocL 1 31 (ocL 1 3 (ocV cdI)))) e17 v16.2) :: (hole 1 50 (ocL 1 31 (ocL 1 3 (ocV cdI))) e26 c30 c29.toNat e34 v32) :: L) := (T.merge hT59)
      have hT61 : T hp ((own_ (ocL 1 50 (ocL 1 31 (ocL 1 3 (ocV cdI)))) e13 v12.2) :: (own_ (ocL 1 50 (ocL 1 31 (ocL 1 3 (ocV cdI)))) e17 v16.2) :: (hole 1 50 (ocL 1 31 (ocL 1 3 (ocV cdI))) e26 c30 c29.toNat e34 v32) :: (own_ (ocL 1 31 (ocL 1 3 (ocV cdI))) e34 (c38.set c37.toNat c46)) :: L) := (((hT60.front 3 rfl).front 3 rfl).front 3 rfl)
      exact ⟨rfl, _, ⟨hp, hT61, rfl⟩, WkY.f1⟩
set_option maxHeartbeats 4000000 in
set_option maxRecDepth 100000 in
theorem law09_moves_4_ok {L : List Asn} (x3 : (List Int)) (c29 : Int) (c30 : (List (List (List Int)))) (v32 : (List (List Int))) (x1 : (List (List (List Int)))) (x2 : (List (List (List Int)))) (v1 : (List (List (List Int)))) (v2 : (List (List (List Int)))) (v8 : Int × Int) (v12 : Int × (List (List (List Int)))) (e13 : AV) (v16 : Int × (List (List (List Int)))) (e17 : AV) (v20 : (List (List Int))) (v22 : (List (List Int))) (v25 : (List (List (List Int)))) (e26 : AV) (e34 : AV) : ∀ (f : Nat) (c37 : Int) (c38 : (List (List Int))) (r : ((List (List (List Int))))), law09_moves_4 x3 c29 c30 v32 f c37 c38 = some r → ∀ (hp : Hp), T hp ((own_ (ocL 1 50 (ocL 1 31 (ocL 1 3 (ocV cdI)))) e13 v12.2) :: (own_ (ocL 1 50 (ocL 1 31 (ocL 1 3 (ocV cdI)))) e17 v16.2) :: (hole 1 50 (ocL 1 31 (ocL 1 3 (ocV cdI))) e26 c30 c29.toNat e34 v32) :: (own_ (ocL 1 31 (ocL 1 3 (ocV cdI))) e34 c38) :: L) → SemYN e_law09_moves ⟨none, false⟩ (pc cb_law09_moves [1, 1, 1, 1, 1, 1, 1, 1, 1, 1, 0, 1, 0, 1, 1, 1, 0, 1, 0, 1, 1, 1, 0, 0, 1, 1, 0, 0, 1, 1, 0, 0]) f ⟨Fr 165 [(1, .sl 1 (x1.map (cdL 1 (cdL 1 cdI)).enc)), (2, .sl 1 (x2.map (cdL 1 (cdL 1 cdI)).enc)), (3, .sl 1 (x3.map cdI.enc)), (9, .sl 1 (v1.map (cdL 1 (cdL 1 cdI)).enc)), (10, .sl 1 (v2.map (cdL 1 (cdL 1 cdI)).enc)), (11, .sl 1 (x3.map cdI.enc)), (15, .v (.int .i64 v8.2)), (16, e13), (17, .v (.int .i64 v12.1)), (18, e17), (19, .v (.int .i64 v16.1)), (20, .sl 1 (v20.map (cdL 1 cdI).enc)), (21, e26), (22, .e0), (23, .sl 1 (v22.map (cdL 1 cdI).enc)), (24, .v (.int .i64 0)), (25, .v (.int .i64 v8.2)), (80, e26), (81, .v (.int .i64 (v25.length : Int))), (82, .v (.int .i64 c29)), (86, e34), (87, .v (.int .i64 (v32.length : Int))), (88, .v (.int .i64 c37))], hp⟩ (fun e s => e = (.exit 2) ∧ ∃ s2, (∃ (h' : Hp), T h' ((own_ (ocL 1 50 (ocL 1 31 (ocL 1 3 (ocV cdI)))) e13 v12.2) :: (own_ (ocL 1 50 (ocL 1 31 (ocL 1 3 (ocV cdI)))) e17 v16.2) :: (own_ (ocL 1 50 (ocL 1 31 (ocL 1 3 (ocV cdI)))) e26 r) :: L) ∧ s2 = ⟨Fr 165 [(1, .sl 1 (x1.map (cdL 1 (cdL 1 cdI)).enc)), (2, .sl 1 (x2.map (cdL 1 (cdL 1 cdI)).enc)), (3, .sl 1 (x3.map cdI.enc)), (9, .sl 1 (v1.map (cdL 1 (cdL 1 cdI)).enc)), (10, .sl 1 (v2.map (cdL 1 (cdL 1 cdI)).enc)), (11, .sl 1 (x3.map cdI.enc)), (15, .v (.int .i64 v8.2)), (16, e13), (17, .v (.int .i64 v12.1)), (18, e17), (19, .v (.int .i64 v16.1)), (20, .sl 1 (v20.map (cdL 1 cdI).enc)), (21, e26), (22, .e0), (23, .sl 1 (v22.map (cdL 1 cdI).enc)), (24, .v (.int .i64 0)), (25, .v (.int .i64 v8.2)), (80, e26), (81, .v (.int .i64 (v25.length : Int))), (82, .v (.int .i64 c29))], h'⟩) ∧ WkY e_law09_moves s s2) := by
  intro f
  induction f with
  | zero => intro c37 c38 r h; cases h
  | succ f ih0 =>
    intro c37 c38 r h  hp hT
    unfold law09_moves_4 at h
    refine SemYN.succ ?_
    refine SemY.seq ?_
    refine SemY.regionL ?_
    refine RunL.segF (n := 165) e_law09_moves_ok 1 [(1, .sl 1 (x1.map (cdL 1 (cdL 1 cdI)).enc)), (2, .sl 1 (x2.map (cdL 1 (cdL 1 cdI)).enc)), (3, .sl 1 (x3.map cdI.enc)), (9, .sl 1 (v1.map (cdL 1 (cdL 1 cdI)).enc)), (10, .sl 1 (v2.map (cdL 1 (cdL 1 cdI)).enc)), (11, .sl 1 (x3.map cdI.enc)), (15, .v (.int .i64 v8.2)), (16, e13), (17, .v (.int .i64 v12.1)), (18, e17), (19, .v (.int .i64 v16.1)), (20, .sl 1 (v20.map (cdL 1 cdI).enc)), (21, e26), (22, .e0), (23, .sl 1 (v22.map (cdL 1 cdI).enc)), (24, .v (.int .i64 0)), (25, .v (.int .i64 v8.2)), (80, e26), (81, .v (.int .i64 (v25.length : Int))), (82, .v (.int .i64 c29)), (86, e34), (87, .v (.int .i64 (v32.length : Int))), (88, .v (.int .i64 c37)), (89, .v (.bool (decide (c37 < (v32.length : Int)))))] hp (by kernel_rfl) ?_
    refine RunL.done rfl (SemY.fr (l' := [(1, .sl 1 (x1.map (cdL 1 (cdL 1 cdI)).enc)), (2, .sl 1 (x2.map (cdL 1 (cdL 1 cdI)).enc)), (3, .sl 1 (x3.map cdI.enc)), (9, .sl 1 (v1.map (cdL 1 (cdL 1 cdI)).enc)), (10, .sl 1 (v2.map (cdL 1 (cdL 1 cdI)).enc)), (11, .sl 1 (x3.map cdI.enc)), (15, .v (.int .i64 v8.2)), (16, e13), (17, .v (.int .i64 v12.1)), (18, e17), (19, .v (.int .i64 v16.1)), (20, .sl 1 (v20.map (cdL 1 cdI).enc)), (21, e26), (22, .e0), (23, .sl 1 (v22.map (cdL 1 cdI).enc)), (24, .v (.int .i64 0)), (25, .v (.int .i64 v8.2)), (80, e26), (81, .v (.int .i64 (v25.length : Int))), (82, .v (.int .i64 c29)), (86, e34), (87, .v (.int .i64 (v32.length : Int))), (88, .v (.int .i64 c37)), (89, .v (.bool (decide (c37 < (v32.length : Int)))))]) (by kernel_rfl) ?_)
    refine SemY.seq ?_
    refine SemY.cond (b := (decide (c37 < (v32.length : Int)))) (by kernel_rfl) (fun hb39 => ?_) (fun hb39 => ?_)
    · rw [if_pos hb39] at h
      refine SemY.skip ?_
      refine SemY.seq ?_
      refine SemY.block ?_
      refine SemY.seq ?_
      refine SemY.regionL ?_
      obtain ⟨v40, hv40, h⟩ := Option.bind_eq_some_iff.1 h
      have hT41 : T hp ((own_ (ocL 1 31 (ocL 1 3 (ocV cdI))) e34 c38) :: (own_ (ocL 1 50 (ocL 1 31 (ocL 1 3 (ocV cdI)))) e13 v12.2) :: (own_ (ocL 1 50 (ocL 1 31 (ocL 1 3 (ocV cdI)))) e17 v16.2) :: (hole 1 50 (ocL 1 31 (ocL 1 3 (ocV cdI))) e26 c30 c29.toNat e34 v32) :: L) := (hT.front 3 rfl)
      refine RunL.one e_law09_moves_ok 0 rfl (op_q (wantedA_none rfl) rfl (q_indexAddr (a := e34) (b := .v (.int .i64 c37)) (by kernel_rfl) (by kernel_rfl) (ix_B (bytes := 24) hT41 (by kernel_rfl) hv40))) ?_
      obtain ⟨e42, hl43, hT440⟩ := ld_child (P := Tryd.prog) (ty := 31) hT41 (idx_at hv40).2 (by kernel_rfl) (by kernel_rfl)
      have hT44 : T hp ((own_ (ocL 1 3 (ocV cdI)) e42 v40) :: (hole 1 31 (ocL 1 3 (ocV cdI)) e34 c38 c37.toNat e42 v40) :: (own_ (ocL 1 50 (ocL 1 31 (ocL 1 3 (ocV cdI)))) e13 v12.2) :: (own_ (ocL 1 50 (ocL 1 31 (ocL 1 3 (ocV cdI)))) e17 v16.2) :: (hole 1 50 (ocL 1 31 (ocL 1 3 (ocV cdI))) e26 c30 c29.toNat e34 v32) :: L) := hT440
      refine RunL.one e_law09_moves_ok 0 rfl (op_q (wantedA_none rfl) rfl (q_load (p := eAt e34 c37.toNat) (by kernel_rfl) hl43)) ?_
      refine RunL.segF (n := 165) e_law09_moves_ok 1 [(1, .sl 1 (x1.map (cdL 1 (cdL 1 cdI)).enc)), (2, .sl 1 (x2.map (cdL 1 (cdL 1 cdI)).enc)), (3, .sl 1 (x3.map cdI.enc)), (9, .sl 1 (v1.map (cdL 1 (cdL 1 cdI)).enc)), (10, .sl 1 (v2.map (cdL 1 (cdL 1 cdI)).enc)), (11, .sl 1 (x3.map cdI.enc)), (15, .v (.int .i64 v8.2)), (16, e13), (17, .v (.int .i64 v12.1)), (18, e17), (19, .v (.int .i64 v16.1)), (20, .sl 1 (v20.map (cdL 1 cdI).enc)), (21, e26), (22, .e0), (23, .sl 1 (v22.map (cdL 1 cdI).enc)), (24, .v (.int .i64 0)), (25, .v (.int .i64 v8.2)), (29, e42), (80, e26), (81, .v (.int .i64 (v25.length : Int))), (82, .v (.int .i64 c29)), (86, e34), (87, .v (.int .i64 (v32.length : Int))), (88, .v (.int .i64 c37))] hp (by kernel_rfl) ?_
      refine RunL.done rfl (SemY.fr (l' := [(1, .sl 1 (x1.map (cdL 1 (cdL 1 cdI)).enc)), (2, .sl 1 (x2.map (cdL 1 (cdL 1 cdI)).enc)), (3, .sl 1 (x3.map cdI.enc)), (9, .sl 1 (v1.map (cdL 1 (cdL 1 cdI)).enc)), (10, .sl 1 (v2.map (cdL 1 (cdL 1 cdI)).enc)), (11, .sl 1 (x3.map cdI.enc)), (15, .v (.int .i64 v8.2)), (16, e13), (17, .v (.int .i64 v12.1)), (18, e17), (19, .v (.int .i64 v16.1)), (20, .sl 1 (v20.map (cdL 1 cdI).enc)), (21, e26), (22, .e0), (23, .sl 1 (v22.map (cdL 1 cdI).enc)), (24, .v (.int .i64 0)), (25, .v (.int .i64 v8.2)), (29, e42), (80, e26), (81, .v (.int .i64 (v25.length : Int))), (82, .v (.int .i64 c29)), (86, e34), (87, .v (.int .i64 (v32.length : Int))), (88, .v (.int .i64 c37))]) (by kernel_rfl) ?_)
      refine SemY.seq ?_
      refine SemY.regionL ?_
      refine RunL.segF (n := 165) e_law09_moves_ok 1 [(1, .sl 1 (x1.map (cdL 1 (cdL 1 cdI)).enc)), (2, .sl 1 (x2.map (cdL 1 (cdL 1 cdI)).enc)), (3, .sl 1 (x3.map cdI.enc)), (9, .sl 1 (v1.map (cdL 1 (cdL 1 cdI)).enc)), (10, .sl 1 (v2.map (cdL 1 (cdL 1 cdI)).enc)), (11, .sl 1 (x3.map cdI.enc)), (15, .v (.int .i64 v8.2)), (16, e13), (17, .v (.int .i64 v12.1)), (18, e17), (19, .v (.int .i64 v16.1)), (20, .sl 1 (v20.map (cdL 1 cdI).enc)), (21, e26), (22, .e0), (23, .sl 1 (v22.map (cdL 1 cdI).enc)), (24, .v (.int .i64 0)), (25, .v (.int .i64 v8.2)), (29, e42), (80, e26), (81, .v (.int .i64 (v25.length : Int))), (82, .v (.int .i64 c29)), (86, e34), (87, .v (.int .i64 (v32.length : Int))), (88, .v (.int .i64 c37)), (92, e42)] hp (by kernel_rfl) ?_
      refine RunL.one e_law09_moves_ok 0 rfl (op_q (wantedA_none rfl) rfl (q_len (a := e42) (by kernel_rfl) (len_B hT44 (by kernel_rfl)))) ?_
      refine RunL.segF (n := 165) e_law09_moves_ok 1 [(1, .sl 1 (x1.map (cdL 1 (cdL 1 cdI)).enc)), (2, .sl 1 (x2.map (cdL 1 (cdL 1 cdI)).enc)), (3, .sl 1 (x3.map cdI.enc)), (9, .sl 1 (v1.map (cdL 1 (cdL 1 cdI)).enc)), (10, .sl 1 (v2.map (cdL 1 (cdL 1 cdI)).enc)), (11, .sl 1 (x3.map cdI.enc)), (15, .v (.int .i64 v8.2)), (16, e13), (17, .v (.int .i64 v12.1)), (18, e17), (19, .v (.int .i64 v16.1)), (20, .sl 1 (v20.map (cdL 1 cdI).enc)), (21, e26), (22, .e0), (23, .sl 1 (v22.map (cdL 1 cdI).enc)), (24, .v (.int .i64 0)), (25, .v (.int .i64 v8.2)), (29, e42), (80, e26), (81, .v (.int .i64 (v25.length : Int))), (82, .v (.int .i64 c29)), (86, e34), (87, .v (.int .i64 (v32.length : Int))), (88, .v (.int .i64 c37)), (92, e42), (93, .v (.int .i64 (v40.length : Int))), (94, .v (.int .i64 0))] hp (by kernel_rfl) ?_
      refine RunL.done rfl (SemY.fr (l' := [(1, .sl 1 (x1.map (cdL 1 (cdL 1 cdI)).enc)), (2, .sl 1 (x2.map (cdL 1 (cdL 1 cdI)).enc)), (3, .sl 1 (x3.map cdI.enc)), (9, .sl 1 (v1.map (cdL 1 (cdL 1 cdI)).enc)), (10, .sl 1 (v2.map (cdL 1 (cdL 1 cdI)).enc)), (11, .sl 1 (x3.map cdI.enc)), (15, .v (.int .i64 v8.2)), (16, e13), (17, .v (.int .i64 v12.1)), (18, e17), (19, .v (.int .i64 v16.1)), (20, .sl 1 (v20.map (cdL 1 cdI).enc)), (21, e26), (22, .e0), (23, .sl 1 (v22.map (cdL 1 cdI).enc)), (24, .v (.int .i64 0)), (25, .v (.int .i64 v8.2)), (29, e42), (80, e26), (81, .v (.int .i64 (v25.length : Int))), (82, .v (.int .i64 c29)), (86, e34), (87, .v (.int .i64 (v32.length : Int))), (88, .v (.int .i64 c37)), (92, e42), (93, .v (.int .i64 (v40.length : Int))), (94, .v (.int .i64 0))]) (by kernel_rfl) ?_)
      refine SemY.block ?_
      have hT62 : T hp ((own_ (ocL 1 50 (ocL 1 31 (ocL 1 3 (ocV cdI)))) e13 v12.2) :: (own_ (ocL 1 50 (ocL 1 31 (ocL 1 3 (ocV cdI)))) e17 v16.2) :: (hole 1 50 (ocL 1 31 (ocL 1 3 (ocV cdI))) e26 c30 c29.toNat e34 v32) :: (hole 1 31 (ocL 1 3 (ocV cdI)) e34 c38 c37.toNat e42 v40) :: (own_ (ocL 1 3 (ocV cdI)) e42 v40) :: L) := ((((hT44.front 1 rfl).front 4 rfl).front 4 rfl).front 4 rfl)
      refine SemY.loop (n := 100000) ?_
      obtain ⟨r63, hr63, h⟩ := Option.bind_eq_some_iff.1 h
      refine SemYN.cutT (SemYN.wk WkY.f1 (law09_moves_5_ok x3 c37 c38 v40 x1 x2 v1 v2 v8 v12 e13 v16 e17 v20 v22 v25 e26 c29 c30 v32 e34 e42 _ 0 v40 _ hr63  hp hT62)) ?_
      rintro _ ⟨hp64, hT65, rfl⟩
      refine SemY.regionL ?_
      refine RunL.segF (n := 165) e_law09_moves_ok 2 [(1, .sl 1 (x1.map (cdL 1 (cdL 1 cdI)).enc)), (2, .sl 1 (x2.map (cdL 1 (cdL 1 cdI)).enc)), (3, .sl 1 (x3.map cdI.enc)), (9, .sl 1 (v1.map (cdL 1 (cdL 1 cdI)).enc)), (10, .sl 1 (v2.map (cdL 1 (cdL 1 cdI)).enc)), (11, .sl 1 (x3.map cdI.enc)), (15, .v (.int .i64 v8.2)), (16, e13), (17, .v (.int .i64 v12.1)), (18, e17), (19, .v (.int .i64 v16.1)), (20, .sl 1 (v20.map (cdL 1 cdI).enc)), (21, e26), (22, .e0), (23, .sl 1 (v22.map (cdL 1 cdI).enc)), (24, .v (.int .i64 0)), (25, .v (.int .i64 v8.2)), (80, e26), (81, .v (.int .i64 (v25.length : Int))), (82, .v (.int .i64 c29)), (86, e34), (87, .v (.int .i64 (v32.length : Int))), (88, .v (.int .i64 (wr .i64 (c37 + 1))))] hp64 (by kernel_rfl) ?_
      refine RunL.done rfl ?_
      exact SemYN.wk WkY.f1 (ih0 (wr .i64 (c37 + 1)) r63 _ h  hp64 hT65)
    · rw [if_f hb39] at h
      refine SemY.exit ?_
      have hq := Option.some.inj h; subst hq
      have hT69 : T hp ((own_ (ocL 1 31 (ocL 1 3 (ocV cdI))) e34 c38) :: (hole 1 50 (ocL 1 31 (ocL 1 3 (ocV cdI))) e26 c30 c29.toNat e34 v32) :: (own_ (ocL 1 50 (ocL 1 31 (ocL 1 3 (ocV cdI)))) e13 v12.2) :: (own_ (ocL 1 50 (ocL 1 31 (ocL 1 3 (ocV cdI)))) e17 v16.2) :: L) := ((hT.front 2 rfl).front 3 rfl)
      have hT70 : T hp ((own_ (ocL 1 50 (ocL 1 31 (ocL 1 3 (ocV cdI)))) e26 (c30.set c29.toNat c38)) :: (own_ (ocL 1 50 (ocL 1 31 (ocL 1 3 (ocV cdI)))) e13 v12.2) :: (own_ (ocL 1 50 (ocL 1 31 (ocL 1 3 (ocV cdI)))) e17 v16.2) :: L) := (T.merge hT69)
      have hT71 : T hp ((own_ (ocL 1 50 (ocL 1 31 (ocL 1 3 (ocV cdI)))) e13 v12.2) :: (own_ (ocL 1 50 (ocL 1 31 (ocL 1 3 (ocV cdI)))) e17 v16.2) :: (own_ (ocL 1 50 (ocL 1 31 (ocL 1 3 (ocV cdI)))) e26 (c30.set c29.toNat c38)) :: L) := ((hT70.front 2 rfl).front 2 rfl)
      exact ⟨rfl, _, ⟨hp, hT71, rfl⟩, WkY.f1⟩
set_option maxHeartbeats 4000000 in
set_option maxRecDepth 100000 in
theorem law09_moves_3_ok {L : List Asn} (x3 : (List Int)) (v25 : (List (List (List Int)))) (x1 : (List (List (List Int)))) (x2 : (List (List (List Int)))) (v1 : (List (List (List Int)))) (v2 : (List (List (List Int)))) (v8 : Int × Int) (v12 : Int × (List (List (List Int)))) (e13 : AV) (v16 : Int × (List (List (List Int)))) (e17 : AV) (v20 : (List (List Int))) (v22 : (List (List Int))) (e26 : AV) : ∀ (f : Nat) (c29 : Int) (c30 : (List (List (List Int)))) (r : ((List (List (List Int))))), law09_moves_3 x3 v25 f c29 c30 = some r → ∀ (hp : Hp), T hp ((own_ (ocL 1 50 (ocL 1 31 (ocL 1 3 (ocV cdI)))) e13 v12.2) :: (own_ (ocL 1 50 (ocL 1 31 (ocL 1 3 (ocV cdI)))) e17 v16.2) :: (own_ (ocL 1 50 (ocL 1 31 (ocL 1 3 (ocV cdI)))) e26 c30) :: L) → SemYN e_law09_moves ⟨none, false⟩ (pc cb_law09_moves [1, 1, 1, 1, 1, 1, 1, 1, 1, 1, 0, 1, 0, 1, 1, 1, 0, 1, 0, 1, 1, 1, 0, 0]) f ⟨Fr 165 [(1, .sl 1 (x1.map (cdL 1 (cdL 1 cdI)).enc)), (2, .sl 1 (x2.map (cdL 1 (cdL 1 cdI)).enc)), (3, .sl 1 (x3.map cdI.enc)), (9, .sl 1 (v1.map (cdL 1 (cdL 1 cdI)).enc)), (10, .sl 1 (v2.map (cdL 1 (cdL 1 cdI)).enc)), (11, .sl 1 (x3.map cdI.enc)), (15, .v (.int .i64 v8.2)), (16, e13), (17, .v (.int .i64 v12.1)), (18, e17), (19, .v (.int .i64 v16.1)), (20, .sl 1 (v20.map (cdL 1 cdI).enc)), (21, e26), (22, .e0), (23, .sl 1 (v22.map (cdL 1 cdI).enc)), (24, .v (.int .i64 0)), (25, .v (.int .i64 v8.2)), (80, e26), (81, .v (.int .i64 (v25.length : Int))), (82, .v (.int .i64 c29))], hp⟩ (fun e s => e = (.exit 0) ∧ ∃ s2, (∃ (h' : Hp), T h' ((own_ (ocL 1 50 (ocL 1 31 (ocL 1 3 (ocV cdI)))) e13 v12.2) :: (own_ (ocL 1 50 (ocL 1 31 (ocL 1 3 (ocV cdI)))) e17 v16.2) :: (own_ (ocL 1 50 (ocL 1 31 (ocL 1 3 (ocV cdI)))) e26 r) :: L) ∧ s2 = ⟨Fr 165 [(1, .sl 1 (x1.map (cdL 1 (cdL 1 cdI)).enc)), (2, .sl 1 (x2.map (cdL 1 (cdL 1 cdI)).enc)), (3, .sl 1 (x3.map cdI.enc)), (9, .sl 1 (v1.map (cdL 1 (cdL 1 cdI)).enc)), (10, .sl 1 (v2.map (cdL 1 (cdL 1 cdI)).enc)), (11, .sl 1 (x3.map cdI.enc)), (15, .v (.int .i64 v8.2)), (16, e13), (17, .v (.int .i64 v12.1)), (18, e17), (19, .v (.int .i64 v16.1)), (20, .sl 1 (v20.map (cdL 1 cdI).enc)), (21, e26), (22, .e0), (23, .sl 1 (v22.map (cdL 1 cdI).enc)), (24, .v (.int .i64 0)), (25, .v (.int .i64 v8.2))], h'⟩) ∧ WkY e_law09_moves s s2) := by
  intro f
  induction f with
  | zero => intro c29 c30 r h; cases h
  | succ f ih0 =>
    intro c29 c30 r h  hp hT
    unfold law09_moves_3 at h
    refine SemYN.succ ?_
    refine SemY.seq ?_
    refine SemY.regionL ?_
    refine RunL.segF (n := 165) e_law09_moves_ok 1 [(1, .sl 1 (x1.map (cdL 1 (cdL 1 cdI)).enc)), (2, .sl 1 (x2.map (cdL 1 (cdL 1 cdI)).enc)), (3, .sl 1 (x3.map cdI.enc)), (9, .sl 1 (v1.map (cdL 1 (cdL 1 cdI)).enc)), (10, .sl 1 (v2.map (cdL 1 (cdL 1 cdI)).enc)), (11, .sl 1 (x3.map cdI.enc)), (15, .v (.int .i64 v8.2)), (16, e13), (17, .v (.int .i64 v12.1)), (18, e17), (19, .v (.int .i64 v16.1)), (20, .sl 1 (v20.map (cdL 1 cdI).enc)), (21, e26), (22, .e0), (23, .sl 1 (v22.map (cdL 1 cdI).enc)), (24, .v (.int .i64 0)), (25, .v (.int .i64 v8.2)), (80, e26), (81, .v (.int .i64 (v25.length : Int))), (82, .v (.int .i64 c29)), (83, .v (.bool (decide (c29 < (v25.length : Int)))))] hp (by kernel_rfl) ?_
    refine RunL.done rfl (SemY.fr (l' := [(1, .sl 1 (x1.map (cdL 1 (cdL 1 cdI)).enc)), (2, .sl 1 (x2.map (cdL 1 (cdL 1 cdI)).enc)), (3, .sl 1 (x3.map cdI.enc)), (9, .sl 1 (v1.map (cdL 1 (cdL 1 cdI)).enc)), (10, .sl 1 (v2.map (cdL 1 (cdL 1 cdI)).enc)), (11, .sl 1 (x3.map cdI.enc)), (15, .v (.int .i64 v8.2)), (16, e13), (17, .v (.int .i64 v12.1)), (18, e17), (19, .v (.int .i64 v16.1)), (20, .sl 1 (v20.map (cdL 1 cdI).enc)), (21, e26), (22, .e0), (23, .sl 1 (v22.map (cdL 1 cdI).enc)), (24, .v (.int .i64 0)), (25, .v (.int .i64 v8.2)), (80, e26), (81, .v (.int .i64 (v25.length : Int))), (82, .v (.int .i64 c29)), (83, .v (.bool (decide (c29 < (v25.length : Int)))))]) (by kernel_rfl) ?_)
    refine SemY.seq ?_
    refine SemY.cond (b := (decide (c29 < (v25.length : Int)))) (by kernel_rfl) (fun hb31 => ?_) (fun hb31 => ?_)
    · rw [if_pos hb31] at h
      refine SemY.skip ?_
      refine SemY.seq ?_
      refine SemY.block ?_
      refine SemY.seq ?_
      refine SemY.regionL ?_
      obtain ⟨v32, hv32, h⟩ := Option.bind_eq_some_iff.1 h
      have hT33 : T hp ((own_ (ocL 1 50 (ocL 1 31 (ocL 1 3 (ocV cdI)))) e26 c30) :: (own_ (ocL 1 50 (ocL 1 31 (ocL 1 3 (ocV cdI)))) e13 v12.2) :: (own_ (ocL 1 50 (ocL 1 31 (ocL 1 3 (ocV cdI)))) e17 v16.2) :: L) := (hT.front 2 rfl)
      refine RunL.one e_law09_moves_ok 0 rfl (op_q (wantedA_none rfl) rfl (q_indexAddr (a := e26) (b := .v (.int .i64 c29)) (by kernel_rfl) (by kernel_rfl) (ix_B (bytes := 24) hT33 (by kernel_rfl) hv32))) ?_
      obtain ⟨e34, hl35, hT360⟩ := ld_child (P := Tryd.prog) (ty := 50) hT33 (idx_at hv32).2 (by kernel_rfl) (by kernel_rfl)
      have hT36 : T hp ((own_ (ocL 1 31 (ocL 1 3 (ocV cdI))) e34 v32) :: (hole 1 50 (ocL 1 31 (ocL 1 3 (ocV cdI))) e26 c30 c29.toNat e34 v32) :: (own_ (ocL 1 50 (ocL 1 31 (ocL 1 3 (ocV cdI)))) e13 v12.2) :: (own_ (ocL 1 50 (ocL 1 31 (ocL 1 3 (ocV cdI)))) e17 v16.2) :: L) := hT360
      refine RunL.one e_law09_moves_ok 0 rfl (op_q (wantedA_none rfl) rfl (q_load (p := eAt e26 c29.toNat) (by kernel_rfl) hl35)) ?_
      refine RunL.segF (n := 165) e_law09_moves_ok 1 [(1, .sl 1 (x1.map (cdL 1 (cdL 1 cdI)).enc)), (2, .sl 1 (x2.map (cdL 1 (cdL 1 cdI)).enc)), (3, .sl 1 (x3.map cdI.enc)), (9, .sl 1 (v1.map (cdL 1 (cdL 1 cdI)).enc)), (10, .sl 1 (v2.map (cdL 1 (cdL 1 cdI)).enc)), (11, .sl 1 (x3.map cdI.enc)), (15, .v (.int .i64 v8.2)), (16, e13), (17, .v (.int .i64 v12.1)), (18, e17), (19, .v (.int .i64 v16.1)), (20, .sl 1 (v20.map (cdL 1 cdI).enc)), (21, e26), (22, .e0), (23, .sl 1 (v22.map (cdL 1 cdI).enc)), (24, .v (.int .i64 0)), (25, .v (.int .i64 v8.2)), (27, e34), (80, e26), (81, .v (.int .i64 (v25.length : Int))), (82, .v (.int .i64 c29))] hp (by kernel_rfl) ?_
      refine RunL.done rfl (SemY.fr (l' := [(1, .sl 1 (x1.map (cdL 1 (cdL 1 cdI)).enc)), (2, .sl 1 (x2.map (cdL 1 (cdL 1 cdI)).enc)), (3, .sl 1 (x3.map cdI.enc)), (9, .sl 1 (v1.map (cdL 1 (cdL 1 cdI)).enc)), (10, .sl 1 (v2.map (cdL 1 (cdL 1 cdI)).enc)), (11, .sl 1 (x3.map cdI.enc)), (15, .v (.int .i64 v8.2)), (16, e13), (17, .v (.int .i64 v12.1)), (18, e17), (19, .v (.int .i64 v16.1)), (20, .sl 1 (v20.map (cdL 1 cdI).enc)), (21, e26), (22, .e0), (23, .sl 1 (v22.map (cdL 1 cdI).enc)), (24, .v (.int .i64 0)), (25, .v (.int .i64 v8.2)), (27, e34), (80, e26), (81, .v (.int .i64 (v25.length : Int))), (82, .v (.int .i64 c29))]) (by kernel_rfl) ?_)
      refine SemY.seq ?_
      refine SemY.regionL ?_
      refine RunL.segF (n := 165) e_law09_moves_ok 1 [(1, .sl 1 (x1.map (cdL 1 (cdL 1 cdI)).enc)), (2, .sl 1 (x2.map (cdL 1 (cdL 1 cdI)).enc)), (3, .sl 1 (x3.map cdI.enc)), (9, .sl 1 (v1.map (cdL 1 (cdL 1 cdI)).enc)), (10, .sl 1 (v2.map (cdL 1 (cdL 1 cdI)).enc)), (11, .sl 1 (x3.map cdI.enc)), (15, .v (.int .i64 v8.2)), (16, e13), (17, .v (.int .i64 v12.1)), (18, e17), (19, .v (.int .i64 v16.1)), (20, .sl 1 (v20.map (cdL 1 cdI).enc)), (21, e26), (22, .e0), (23, .sl 1 (v22.map (cdL 1 cdI).enc)), (24, .v (.int .i64 0)), (25, .v (.int .i64 v8.2)), (80, e26), (81, .v (.int .i64 (v25.length : Int))), (82, .v (.int .i64 c29)), (86, e34)] hp (by kernel_rfl) ?_
      refine RunL.one e_law09_moves_ok 0 rfl (op_q (wantedA_none rfl) rfl (q_len (a := e34) (by kernel_rfl) (len_B hT36 (by kernel_rfl)))) ?_
      refine RunL.segF (n := 165) e_law09_moves_ok 1 [(1, .sl 1 (x1.map (cdL 1 (cdL 1 cdI)).enc)), (2, .sl 1 (x2.map (cdL 1 (cdL 1 cdI)).enc)), (3, .sl 1 (x3.map cdI.enc)), (9, .sl 1 (v1.map (cdL 1 (cdL 1 cdI)).enc)), (10, .sl 1 (v2.map (cdL 1 (cdL 1 cdI)).enc)), (11, .sl 1 (x3.map cdI.enc)), (15, .v (.int .i64 v8.2)), (16, e13), (17, .v (.int .i64 v12.1)), (18, e17), (19, .v (.int .i64 v16.1)), (20, .sl 1 (v20.map (cdL 1 cdI).enc)), (21, e26), (22, .e0), (23, .sl 1 (v22.map (cdL 1 cdI).enc)), (24, .v (.int .i64 0)), (25, .v (.int .i64 v8.2)), (80, e26), (81, .v (.int .i64 (v25.length : Int))), (82, .v (.int .i64 c29)), (86, e34), (87, .v (.int .i64 (v32.length : Int))), (88, .v (.int .i64 0))] hp (by kernel_rfl) ?_
      refine RunL.done rfl (SemY.fr (l' := [(1, .sl 1 (x1.map (cdL 1 (cdL 1 cdI)).enc)), (2, .sl 1 (x2.map (cdL 1 (cdL 1 cdI)).enc)), (3, .sl 1 (x3.map cdI.enc)), (9, .sl 1 (v1.map (cdL 1 (cdL 1 cdI)).enc)), (10, .sl 1 (v2.map (cdL 1 (cdL 1 cdI)).enc)), (11, .sl 1 (x3.map cdI.enc)), (15, .v (.int .i64 v8.2)), (16, e13), (17, .v (.int .i64 v12.1)), (18, e17), (19, .v (.int .i64 v16.1)), (20, .sl 1 (v20.map (cdL 1 cdI).enc)), (21, e26), (22, .e0), (23, .sl 1 (v22.map (cdL 1 cdI).enc)), (24, .v (.int .i64 0)), (25, .v (.int .i64 v8.2)), (80, e26), (81, .v (.int .i64 (v25.length : Int))), (82, .v (.int .i64 c29)), (86, e34), (87, .v (.int .i64 (v32.length : Int))), (88, .v (.int .i64 0))]) (by kernel_rfl) ?_)
      refine SemY.block ?_
      have hT72 : T hp ((own_ (ocL 1 50 (ocL 1 31 (ocL 1 3 (ocV cdI)))) e13 v12.2) :: (own_ (ocL 1 50 (ocL 1 31 (ocL 1 3 (ocV cdI)))) e17 v16.2) :: (hole 1 50 (ocL 1 31 (ocL 1 3 (ocV cdI))) e26 c30 c29.toNat e34 v32) :: (own_ (ocL 1 31 (ocL 1 3 (ocV cdI))) e34 v32) :: L) := (((hT36.front 1 rfl).front 3 rfl).front 3 rfl)
      refine SemY.loop (n := 100000) ?_
      obtain ⟨r73, hr73, h⟩ := Option.bind_eq_some_iff.1 h
      refine SemYN.cutT (SemYN.wk WkY.f1 (law09_moves_4_ok x3 c29 c30 v32 x1 x2 v1 v2 v8 v12 e13 v16 e17 v20 v22 v25 e26 e34 _ 0 v32 _ hr73  hp hT72)) ?_
      rintro _ ⟨hp74, hT75, rfl⟩
      refine SemY.regionL ?_
      refine RunL.segF (n := 165) e_law09_moves_ok 2 [(1, .sl 1 (x1.map (cdL 1 (cdL 1 cdI)).enc)), (2, .sl 1 (x2.map (cdL 1 (cdL 1 cdI)).enc)), (3, .sl 1 (x3.map cdI.enc)), (9, .sl 1 (v1.map (cdL 1 (cdL 1 cdI)).enc)), (10, .sl 1 (v2.map (cdL 1 (cdL 1 cdI)).enc)), (11, .sl 1 (x3.map cdI.enc)), (15, .v (.int .i64 v8.2)), (16, e13), (17, .v (.int .i64 v12.1)), (18, e17), (19, .v (.int .i64 v16.1)), (20, .sl 1 (v20.map (cdL 1 cdI).enc)), (21, e26), (22, .e0), (23, .sl 1 (v22.map (cdL 1 cdI).enc)), (24, .v (.int .i64 0)), (25, .v (.int .i64 v8.2)), (80, e26), (81, .v (.int .i64 (v25.length : Int))), (82, .v (.int .i64 (wr .i64 (c29 + 1))))] hp74 (by kernel_rfl) ?_
      refine RunL.done rfl ?_
      exact SemYN.wk WkY.f1 (ih0 (wr .i64 (c29 + 1)) r73 _ h  hp74 hT75)
    · rw [if_f hb31] at h
      refine SemY.exit ?_
      have hq := Option.some.inj h; subst hq
      exact ⟨rfl, _, ⟨hp, hT, rfl⟩, WkY.f1⟩
set_option maxHeartbeats 4000000 in
set_option maxRecDepth 100000 in
theorem law09_moves_j2_ok {L : List Asn} {hp : Hp} (x1 : (List (List (List Int)))) (x3 : (List Int)) (v23 : Bool) (x2 : (List (List (List Int)))) (v1 : (List (List (List Int)))) (v2 : (List (List (List Int)))) (v8 : Int × Int) (v12 : Int × (List (List (List Int)))) (e13 : AV) (v16 : Int × (List (List (List Int)))) (e17 : AV) (v20 : (List (List Int))) (v22 : (List (List Int))) (r : (Int × (List (List (List Int))))) (h : law09_moves_j2 x1 x3 v23 = some r) (hT : T hp ((own_ (ocL 1 50 (ocL 1 31 (ocL 1 3 (ocV cdI)))) e17 v16.2) :: (own_ (ocL 1 50 (ocL 1 31 (ocL 1 3 (ocV cdI)))) e13 v12.2) :: L)) : SemY e_law09_moves ⟨none, false⟩ (pc cb_law09_moves [1, 1, 1, 1, 1, 1, 1, 1, 1, 1, 0, 1, 0, 1, 1, 1, 0, 1]) ⟨Fr 165 [(1, .sl 1 (x1.map (cdL 1 (cdL 1 cdI)).enc)), (2, .sl 1 (x2.map (cdL 1 (cdL 1 cdI)).enc)), (3, .sl 1 (x3.map cdI.enc)), (9, .sl 1 (v1.map (cdL 1 (cdL 1 cdI)).enc)), (10, .sl 1 (v2.map (cdL 1 (cdL 1 cdI)).enc)), (11, .sl 1 (x3.map cdI.enc)), (15, .v (.int .i64 v8.2)), (16, e13), (17, .v (.int .i64 v12.1)), (18, e17), (19, .v (.int .i64 v16.1)), (20, .sl 1 (v20.map (cdL 1 cdI).enc)), (21, .e0), (22, .e0), (23, .sl 1 (v22.map (cdL 1 cdI).enc)), (24, .v (.int .i64 2)), (25, .v (.int .i64 v8.2)), (77, .v (.bool v23))], hp⟩ (fun e s => e = .normal ∧ ∃ s2, (∃ (e82 : AV) (h' : Hp), T h' ((own_ (ocL 1 50 (ocL 1 31 (ocL 1 3 (ocV cdI)))) e13 v12.2) :: (own_ (ocL 1 50 (ocL 1 31 (ocL 1 3 (ocV cdI)))) e17 v16.2) :: (own_ (ocL 1 50 (ocL 1 31 (ocL 1 3 (ocV cdI)))) e82 r.2) :: L) ∧ s2 = ⟨Fr 165 [(1, .sl 1 (x1.map (cdL 1 (cdL 1 cdI)).enc)), (2, .sl 1 (x2.map (cdL 1 (cdL 1 cdI)).enc)), (3, .sl 1 (x3.map cdI.enc)), (9, .sl 1 (v1.map (cdL 1 (cdL 1 cdI)).enc)), (10, .sl 1 (v2.map (cdL 1 (cdL 1 cdI)).enc)), (11, .sl 1 (x3.map cdI.enc)), (15, .v (.int .i64 v8.2)), (16, e13), (17, .v (.int .i64 v12.1)), (18, e17), (19, .v (.int .i64 v16.1)), (20, .sl 1 (v20.map (cdL 1 cdI).enc)), (21, e82), (22, .e0), (23, .sl 1 (v22.map (cdL 1 cdI).enc)), (24, .v (.int .i64 r.1)), (25, .v (.int .i64 v8.2))], h'⟩) ∧ WkY e_law09_moves s s2) := by
  unfold law09_moves_j2 at h
  refine SemY.cond (b := v23) (by kernel_rfl) (fun hb24 => ?_) (fun hb24 => ?_)
  · rw [if_pos hb24] at h
    refine SemY.seq ?_
    refine SemY.regionL ?_
    refine RunL.segF (n := 165) e_law09_moves_ok 1 [(1, .sl 1 (x1.map (cdL 1 (cdL 1 cdI)).enc)), (2, .sl 1 (x2.map (cdL 1 (cdL 1 cdI)).enc)), (3, .sl 1 (x3.map cdI.enc)), (9, .sl 1 (v1.map (cdL 1 (cdL 1 cdI)).enc)), (10, .sl 1 (v2.map (cdL 1 (cdL 1 cdI)).enc)), (11, .sl 1 (x3.map cdI.enc)), (15, .v (.int .i64 v8.2)), (16, e13), (17, .v (.int .i64 v12.1)), (18, e17), (19, .v (.int .i64 v16.1)), (20, .sl 1 (v20.map (cdL 1 cdI).enc)), (22, .e0), (23, .sl 1 (v22.map (cdL 1 cdI).enc)), (24, .v (.int .i64 0)), (25, .v (.int .i64 v8.2))] hp (by kernel_rfl) ?_
    refine RunL.done rfl (SemY.fr (l' := [(1, .sl 1 (x1.map (cdL 1 (cdL 1 cdI)).enc)), (2, .sl 1 (x2.map (cdL 1 (cdL 1 cdI)).enc)), (3, .sl 1 (x3.map cdI.enc)), (9, .sl 1 (v1.map (cdL 1 (cdL 1 cdI)).enc)), (10, .sl 1 (v2.map (cdL 1 (cdL 1 cdI)).enc)), (11, .sl 1 (x3.map cdI.enc)), (15, .v (.int .i64 v8.2)), (16, e13), (17, .v (.int .i64 v12.1)), (18, e17), (19, .v (.int .i64 v16.1)), (20, .sl 1 (v20.map (cdL 1 cdI).enc)), (22, .e0), (23, .sl 1 (v22.map (cdL 1 cdI).enc)), (24, .v (.int .i64 0)), (25, .v (.int .i64 v8.2))]) (by kernel_rfl) ?_)
    refine SemY.seq ?_
    refine SemY.regionL ?_
    refine RunL.segF (n := 165) e_law09_moves_ok 1 [(1, .sl 1 (x1.map (cdL 1 (cdL 1 cdI)).enc)), (2, .sl 1 (x2.map (cdL 1 (cdL 1 cdI)).enc)), (3, .sl 1 (x3.map cdI.enc)), (9, .sl 1 (v1.map (cdL 1 (cdL 1 cdI)).enc)), (10, .sl 1 (v2.map (cdL 1 (cdL 1 cdI)).enc)), (11, .sl 1 (x3.map cdI.enc)), (15, .v (.int .i64 v8.2)), (16, e13), (17, .v (.int .i64 v12.1)), (18, e17), (19, .v (.int .i64 v16.1)), (20, .sl 1 (v20.map (cdL 1 cdI).enc)), (22, .e0), (23, .sl 1 (v22.map (cdL 1 cdI).enc)), (24, .v (.int .i64 0)), (25, .v (.int .i64 v8.2)), (78, .sl 1 (x1.map (cdL 1 (cdL 1 cdI)).enc))] hp (by kernel_rfl) ?_
    obtain ⟨v25, hv25, h⟩ := Option.bind_eq_some_iff.1 h
    refine RunL.inlT (E := e_law09_moves) (e := e_ref09_Copy_d) rfl rfl e_ref09_Copy_d_ok rfl rfl (fid := 88) (caps := []) (xs := [.sl 1 (x1.map (cdL 1 (cdL 1 cdI)).enc)]) (fn := Tryd.f88) (c := cb_ref09_Copy_d) (Out := fun v h' => ∃ (z0 : AV), v = z0 ∧ T h' ((own_ (ocL 1 50 (ocL 1 31 (ocL 1 3 (ocV cdI)))) z0 v25) :: (own_ (ocL 1 50 (ocL 1 31 (ocL 1 3 (ocV cdI)))) e17 v16.2) :: (own_ (ocL 1 50 (ocL 1 31 (ocL 1 3 (ocV cdI)))) e13 v12.2) :: L)) rfl (wantedA_none rfl) (by kernel_rfl) (by kernel_rfl) (by kernel_rfl) (by kernel_rfl) (by show 1 ≤ 20; decide) (ref09_Copy_d_sem x1 _ hv25 hT) ?_
    rintro xx hp27 ⟨e26, hqhp27, hT280⟩; subst xx
    have hT28 : T hp27 ((own_ (ocL 1 50 (ocL 1 31 (ocL 1 3 (ocV cdI)))) e26 v25) :: (own_ (ocL 1 50 (ocL 1 31 (ocL 1 3 (ocV cdI)))) e17 v16.2) :: (own_ (ocL 1 50 (ocL 1 31 (ocL 1 3 (ocV cdI)))) e13 v12.2) :: L) := hT280
    refine RunL.segF (n := 165) e_law09_moves_ok 1 [(1, .sl 1 (x1.map (cdL 1 (cdL 1 cdI)).enc)), (2, .sl 1 (x2.map (cdL 1 (cdL 1 cdI)).enc)), (3, .sl 1 (x3.map cdI.enc)), (9, .sl 1 (v1.map (cdL 1 (cdL 1 cdI)).enc)), (10, .sl 1 (v2.map (cdL 1 (cdL 1 cdI)).enc)), (11, .sl 1 (x3.map cdI.enc)), (15, .v (.int .i64 v8.2)), (16, e13), (17, .v (.int .i64 v12.1)), (18, e17), (19, .v (.int .i64 v16.1)), (20, .sl 1 (v20.map (cdL 1 cdI).enc)), (21, e26), (22, .e0), (23, .sl 1 (v22.map (cdL 1 cdI).enc)), (24, .v (.int .i64 0)), (25, .v (.int .i64 v8.2))] hp27 (by kernel_rfl) ?_
    refine RunL.done rfl (SemY.fr (l' := [(1, .sl 1 (x1.map (cdL 1 (cdL 1 cdI)).enc)), (2, .sl 1 (x2.map (cdL 1 (cdL 1 cdI)).enc)), (3, .sl 1 (x3.map cdI.enc)), (9, .sl 1 (v1.map (cdL 1 (cdL 1 cdI)).enc)), (10, .sl 1 (v2.map (cdL 1 (cdL 1 cdI)).enc)), (11, .sl 1 (x3.map cdI.enc)), (15, .v (.int .i64 v8.2)), (16, e13), (17, .v (.int .i64 v12.1)), (18, e17), (19, .v (.int .i64 v16.1)), (20, .sl 1 (v20.map (cdL 1 cdI).enc)), (21, e26), (22, .e0), (23, .sl 1 (v22.map (cdL 1 cdI).enc)), (24, .v (.int .i64 0)), (25, .v (.int .i64 v8.2))]) (by kernel_rfl) ?_)
    refine SemY.seq ?_
    refine SemY.regionL ?_
    refine RunL.segF (n := 165) e_law09_moves_ok 1 [(1, .sl 1 (x1.map (cdL 1 (cdL 1 cdI)).enc)), (2, .sl 1 (x2.map (cdL 1 (cdL 1 cdI)).enc)), (3, .sl 1 (x3.map cdI.enc)), (9, .sl 1 (v1.map (cdL 1 (cdL 1 cdI)).enc)), (10, .sl 1 (v2.map (cdL 1 (cdL 1 cdI)).enc)), (11, .sl 1 (x3.map cdI.enc)), (15, .v (.int .i64 v8.2)), (16, e13), (17, .v (.int .i64 v12.1)), (18, e17), (19, .v (.int .i64 v16.1)), (20, .sl 1 (v20.map (cdL 1 cdI).enc)), (21, e26), (22, .e0), (23, .sl 1 (v22.map (cdL 1 cdI).enc)), (24, .v (.int .i64 0)), (25, .v (.int .i64 v8.2)), (80, e26)] hp27 (by kernel_rfl) ?_
    refine RunL.one e_law09_moves_ok 0 rfl (op_q (wantedA_none rfl) rfl (q_len (a := e26) (by kernel_rfl) (len_B hT28 (by kernel_rfl)))) ?_
    refine RunL.segF (n := 165) e_law09_moves_ok 1 [(1, .sl 1 (x1.map (cdL 1 (cdL 1 cdI)).enc)), (2, .sl 1 (x2.map (cdL 1 (cdL 1 cdI)).enc)), (3, .sl 1 (x3.map cdI.enc)), (9, .sl 1 (v1.map (cdL 1 (cdL 1 cdI)).enc)), (10, .sl 1 (v2.map (cdL 1 (cdL 1 cdI)).enc)), (11, .sl 1 (x3.map cdI.enc)), (15, .v (.int .i64 v8.2)), (16, e13), (17, .v (.int .i64 v12.1)), (18, e17), (19, .v (.int .i64 v16.1)), (20, .sl 1 (v20.map (cdL 1 cdI).enc)), (21, e26), (22, .e0), (23, .sl 1 (v22.map (cdL 1 cdI).enc)), (24, .v (.int .i64 0)), (25, .v (.int .i64 v8.2)), (80, e26), (81, .v (.int .i64 (v25.length : Int))), (82, .v (.int .i64 0))] hp27 (by kernel_rfl) ?_
    refine RunL.done rfl (SemY.fr (l' := [(1, .sl 1 (x1.map (cdL 1 (cdL 1 cdI)).enc)), (2, .sl 1 (x2.map (cdL 1 (cdL 1 cdI)).enc)), (3, .sl 1 (x3.map cdI.enc)), (9, .sl 1 (v1.map (cdL 1 (cdL 1 cdI)).enc)), (10, .sl 1 (v2.map (cdL 1 (cdL 1 cdI)).enc)), (11, .sl 1 (x3.map cdI.enc)), (15, .v (.int .i64 v8.2)), (16, e13), (17, .v (.int .i64 v12.1)), (18, e17), (19, .v (.int .i64 v16.1)), (20, .sl 1 (v20.map (cdL 1 cdI).enc)), (21, e26), (22, .e0), (23, .sl 1 (v22.map (cdL 1 cdI).enc)), (24, .v (.int .i64 0)), (25, .v (.int .i64 v8.2)), (80, e26), (81, .v (.int .i64 (v25.length : Int))), (82, .v (.int .i64 0))]) (by kernel_rfl) ?_)
    refine SemY.block ?_
    have hT77 : T hp27 ((own_ (ocL 1 50 (ocL 1 31 (ocL 1 3 (ocV cdI)))) e13 v12.2) :: (own_ (ocL 1 50 (ocL 1 31 (ocL 1 3 (ocV cdI)))) e17 v16.2) :: (own_ (ocL 1 50 (ocL 1 31 (ocL 1 3 (ocV cdI)))) e26 v25) :: L) := ((hT28.front 1 rfl).front 2 rfl)
    refine SemY.loop (n := 100000) ?_
    obtain ⟨r78, hr78, h⟩ := Option.bind_eq_some_iff.1 h
    refine SemYN.cutT (SemYN.wk WkY.f1 (law09_moves_3_ok x3 v25 x1 x2 v1 v2 v8 v12 e13 v16 e17 v20 v22 e26 _ 0 v25 _ hr78  hp27 hT77)) ?_
    rintro _ ⟨hp79, hT80, rfl⟩
    have hq := Option.some.inj h; subst hq
    exact ⟨rfl, _, ⟨e26, hp79, hT80, rfl⟩, WkY.f1⟩
  · rw [if_f hb24] at h
    refine SemY.skip ?_
    have hq := Option.some.inj h; subst hq
    have hT84 : T hp ((own_ (ocL 1 50 (ocL 1 31 (ocL 1 3 (ocV cdI)))) .e0 ([] : (List (List (List Int))))) :: (own_ (ocL 1 50 (ocL 1 31 (ocL 1 3 (ocV cdI)))) e17 v16.2) :: (own_ (ocL 1 50 (ocL 1 31 (ocL 1 3 (ocV cdI)))) e13 v12.2) :: L) := (T.e0 (o := (ocL 1 31 (ocL 1 3 (ocV cdI)))) hT)
    have hT85 : T hp ((own_ (ocL 1 50 (ocL 1 31 (ocL 1 3 (ocV cdI)))) e13 v12.2) :: (own_ (ocL 1 50 (ocL 1 31 (ocL 1 3 (ocV cdI)))) e17 v16.2) :: (own_ (ocL 1 50 (ocL 1 31 (ocL 1 3 (ocV cdI)))) .e0 ([] : (List (List (List Int))))) :: L) := ((hT84.front 1 rfl).front 2 rfl)
    exact ⟨rfl, _, ⟨.e0, hp, hT85, rfl⟩, WkY.f1⟩
set_option maxHeartbeats 4000000 in
set_option maxRecDepth 100000 in
theorem law09_moves_j7_ok {L : List Asn} {hp : Hp} (x1 : (List (List (List Int)))) (x2 : (List (List (List Int)))) (x3 : (List Int)) (v1 : (List (List (List Int)))) (v2 : (List (List (List Int)))) (v12 : Int × (List (List (List Int)))) (e13 : AV) (v16 : Int × (List (List (List Int)))) (e17 : AV) (v20 : (List (List Int))) (v22 : (List (List Int))) (e87 : AV) (r86 : Int × (List (List (List Int)))) (r : (Int × (List (List (List Int))))) (h : law09_moves_j7 x1 x2 = some r) (hT : T hp ((own_ (ocL 1 50 (ocL 1 31 (ocL 1 3 (ocV cdI)))) e13 v12.2) :: (own_ (ocL 1 50 (ocL 1 31 (ocL 1 3 (ocV cdI)))) e17 v16.2) :: (own_ (ocL 1 50 (ocL 1 31 (ocL 1 3 (ocV cdI)))) e87 r86.2) :: L)) : SemY e_law09_moves ⟨none, false⟩ (pc cb_law09_moves [1, 1, 1, 1, 1, 1, 1, 1, 1, 1, 0, 1, 0, 1, 1, 1, 1, 1, 0, 1, 1]) ⟨Fr 165 [(1, .sl 1 (x1.map (cdL 1 (cdL 1 cdI)).enc)), (2, .sl 1 (x2.map (cdL 1 (cdL 1 cdI)).enc)), (3, .sl 1 (x3.map cdI.enc)), (9, .sl 1 (v1.map (cdL 1 (cdL 1 cdI)).enc)), (10, .sl 1 (v2.map (cdL 1 (cdL 1 cdI)).enc)), (11, .sl 1 (x3.map cdI.enc)), (16, e13), (17, .v (.int .i64 v12.1)), (18, e17), (19, .v (.int .i64 v16.1)), (20, .sl 1 (v20.map (cdL 1 cdI).enc)), (21, e87), (22, .e0), (23, .sl 1 (v22.map (cdL 1 cdI).enc)), (24, .v (.int .i64 r86.1)), (25, .v (.int .i64 7)), (116, .v (.bool (decide ((wr .i64 ((x1.length : Int) + (x2.length : Int))) ≤ 64))))], hp⟩ (fun e s => e = .normal ∧ ∃ s2, (∃ (e107 : AV) (h' : Hp), T h' ((own_ (ocL 1 50 (ocL 1 31 (ocL 1 3 (ocV cdI)))) e13 v12.2) :: (own_ (ocL 1 50 (ocL 1 31 (ocL 1 3 (ocV cdI)))) e17 v16.2) :: (own_ (ocL 1 50 (ocL 1 31 (ocL 1 3 (ocV cdI)))) e87 r86.2) :: (own_ (ocL 1 50 (ocL 1 31 (ocL 1 3 (ocV cdI)))) e107 r.2) :: L) ∧ s2 = ⟨Fr 165 [(1, .sl 1 (x1.map (cdL 1 (cdL 1 cdI)).enc)), (2, .sl 1 (x2.map (cdL 1 (cdL 1 cdI)).enc)), (3, .sl 1 (x3.map cdI.enc)), (9, .sl 1 (v1.map (cdL 1 (cdL 1 cdI)).enc)), (10, .sl 1 (v2.map (cdL 1 (cdL 1 cdI)).enc)), (11, .sl 1 (x3.map cdI.enc)), (16, e13), (17, .v (.int .i64 v12.1)), (18, e17), (19, .v (.int .i64 v16.1)), (20, .sl 1 (v20.map (cdL 1 cdI).enc)), (21, e87), (22, e107), (23, .sl 1 (v22.map (cdL 1 cdI).enc)), (24, .v (.int .i64 r86.1)), (25, .v (.int .i64 r.1))], h'⟩) ∧ WkY e_law09_moves s s2) := by
  unfold law09_moves_j7 at h
  refine SemY.cond (b := (decide ((wr .i64 ((x1.length : Int) + (x2.length : Int))) ≤ 64))) (by kernel_rfl) (fun hb91 => ?_) (fun hb91 => ?_)
  · rw [if_pos hb91] at h
    refine SemY.seq ?_
    refine SemY.regionL ?_
    refine RunL.segF (n := 165) e_law09_moves_ok 1 [(1, .sl 1 (x1.map (cdL 1 (cdL 1 cdI)).enc)), (2, .sl 1 (x2.map (cdL 1 (cdL 1 cdI)).enc)), (3, .sl 1 (x3.map cdI.enc)), (9, .sl 1 (v1.map (cdL 1 (cdL 1 cdI)).enc)), (10, .sl 1 (v2.map (cdL 1 (cdL 1 cdI)).enc)), (11, .sl 1 (x3.map cdI.enc)), (16, e13), (17, .v (.int .i64 v12.1)), (18, e17), (19, .v (.int .i64 v16.1)), (20, .sl 1 (v20.map (cdL 1 cdI).enc)), (21, e87), (23, .sl 1 (v22.map (cdL 1 cdI).enc)), (24, .v (.int .i64 r86.1)), (25, .v (.int .i64 0))] hp (by kernel_rfl) ?_
    refine RunL.done rfl (SemY.fr (l' := [(1, .sl 1 (x1.map (cdL 1 (cdL 1 cdI)).enc)), (2, .sl 1 (x2.map (cdL 1 (cdL 1 cdI)).enc)), (3, .sl 1 (x3.map cdI.enc)), (9, .sl 1 (v1.map (cdL 1 (cdL 1 cdI)).enc)), (10, .sl 1 (v2.map (cdL 1 (cdL 1 cdI)).enc)), (11, .sl 1 (x3.map cdI.enc)), (16, e13), (17, .v (.int .i64 v12.1)), (18, e17), (19, .v (.int .i64 v16.1)), (20, .sl 1 (v20.map (cdL 1 cdI).enc)), (21, e87), (23, .sl 1 (v22.map (cdL 1 cdI).enc)), (24, .v (.int .i64 r86.1)), (25, .v (.int .i64 0))]) (by kernel_rfl) ?_)
    refine SemY.regionL ?_
    refine RunL.segF (n := 165) e_law09_moves_ok 1 [(1, .sl 1 (x1.map (cdL 1 (cdL 1 cdI)).enc)), (2, .sl 1 (x2.map (cdL 1 (cdL 1 cdI)).enc)), (3, .sl 1 (x3.map cdI.enc)), (9, .sl 1 (v1.map (cdL 1 (cdL 1 cdI)).enc)), (10, .sl 1 (v2.map (cdL 1 (cdL 1 cdI)).enc)), (11, .sl 1 (x3.map cdI.enc)), (16, e13), (17, .v (.int .i64 v12.1)), (18, e17), (19, .v (.int .i64 v16.1)), (20, .sl 1 (v20.map (cdL 1 cdI).enc)), (21, e87), (23, .sl 1 (v22.map (cdL 1 cdI).enc)), (24, .v (.int .i64 r86.1)), (25, .v (.int .i64 0)), (117, .sl 1 (x1.map (cdL 1 (cdL 1 cdI)).enc))] hp (by kernel_rfl) ?_
    obtain ⟨v92, hv92, h⟩ := Option.bind_eq_some_iff.1 h
    refine RunL.inlT (E := e_law09_moves) (e := e_ref09_Copy_d) rfl rfl e_ref09_Copy_d_ok rfl rfl (fid := 88) (caps := []) (xs := [.sl 1 (x1.map (cdL 1 (cdL 1 cdI)).enc)]) (fn := Tryd.f88) (c := cb_ref09_Copy_d) (Out := fun v h' => ∃ (z0 : AV), v = z0 ∧ T h' ((own_ (ocL 1 50 (ocL 1 31 (ocL 1 3 (ocV cdI)))) z0 v92) :: (own_ (ocL 1 50 (ocL 1 31 (ocL 1 3 (ocV cdI)))) e13 v12.2) :: (own_ (ocL 1 50 (ocL 1 31 (ocL 1 3 (ocV cdI)))) e17 v16.2) :: (own_ (ocL 1 50 (ocL 1 31 (ocL 1 3 (ocV cdI)))) e87 r86.2) :: L)) rfl (wantedA_none rfl) (by kernel_rfl) (by kernel_rfl) (by kernel_rfl) (by kernel_rfl) (by show 1 ≤ 20; decide) (ref09_Copy_d_sem x1 _ hv92 hT) ?_
    rintro xx hp94 ⟨e93, hqhp94, hT950⟩; subst xx
    have hT95 : T hp94 ((own_ (ocL 1 50 (ocL 1 31 (ocL 1 3 (ocV cdI)))) e93 v92) :: (own_ (ocL 1 50 (ocL 1 31 (ocL 1 3 (ocV cdI)))) e13 v12.2) :: (own_ (ocL 1 50 (ocL 1 31 (ocL 1 3 (ocV cdI)))) e17 v16.2) :: (own_ (ocL 1 50 (ocL 1 31 (ocL 1 3 (ocV cdI)))) e87 r86.2) :: L) := hT950
    refine RunL.segF (n := 165) e_law09_moves_ok 1 [(1, .sl 1 (x1.map (cdL 1 (cdL 1 cdI)).enc)), (2, .sl 1 (x2.map (cdL 1 (cdL 1 cdI)).enc)), (3, .sl 1 (x3.map cdI.enc)), (9, .sl 1 (v1.map (cdL 1 (cdL 1 cdI)).enc)), (10, .sl 1 (v2.map (cdL 1 (cdL 1 cdI)).enc)), (11, .sl 1 (x3.map cdI.enc)), (16, e13), (17, .v (.int .i64 v12.1)), (18, e17), (19, .v (.int .i64 v16.1)), (20, .sl 1 (v20.map (cdL 1 cdI).enc)), (21, e87), (23, .sl 1 (v22.map (cdL 1 cdI).enc)), (24, .v (.int .i64 r86.1)), (25, .v (.int .i64 0)), (118, e93), (119, .sl 1 (x2.map (cdL 1 (cdL 1 cdI)).enc))] hp94 (by kernel_rfl) ?_
    obtain ⟨v96, hv96, h⟩ := Option.bind_eq_some_iff.1 h
    refine RunL.inlT (E := e_law09_moves) (e := e_ref09_Copy_d) rfl rfl e_ref09_Copy_d_ok rfl rfl (fid := 88) (caps := []) (xs := [.sl 1 (x2.map (cdL 1 (cdL 1 cdI)).enc)]) (fn := Tryd.f88) (c := cb_ref09_Copy_d) (Out := fun v h' => ∃ (z0 : AV), v = z0 ∧ T h' ((own_ (ocL 1 50 (ocL 1 31 (ocL 1 3 (ocV cdI)))) z0 v96) :: (own_ (ocL 1 50 (ocL 1 31 (ocL 1 3 (ocV cdI)))) e93 v92) :: (own_ (ocL 1 50 (ocL 1 31 (ocL 1 3 (ocV cdI)))) e13 v12.2) :: (own_ (ocL 1 50 (ocL 1 31 (ocL 1 3 (ocV cdI)))) e17 v16.2) :: (own_ (ocL 1 50 (ocL 1 31 (ocL 1 3 (ocV cdI)))) e87 r86.2) :: L)) rfl (wantedA_none rfl) (by kernel_rfl) (by kernel_rfl) (by kernel_rfl) (by kernel_rfl) (by show 1 ≤ 20; decide) (ref09_Copy_d_sem x2 _ hv96 hT95) ?_
    rintro xx hp98 ⟨e97, hqhp98, hT990⟩; subst xx
    have hT99 : T hp98 ((own_ (ocL 1 50 (ocL 1 31 (ocL 1 3 (ocV cdI)))) e97 v96) :: (own_ (ocL 1 50 (ocL 1 31 (ocL 1 3 (ocV cdI)))) e93 v92) :: (own_ (ocL 1 50 (ocL 1 31 (ocL 1 3 (ocV cdI)))) e13 v12.2) :: (own_ (ocL 1 50 (ocL 1 31 (ocL 1 3 (ocV cdI)))) e17 v16.2) :: (own_ (ocL 1 50 (ocL 1 31 (ocL 1 3 (ocV cdI)))) e87 r86.2) :: L) := hT990
    by_cases hk104 : (capOk 24 (v92.length + v96.length)) = true
    case neg => rw [if_neg hk104] at h; cases h
    rw [if_pos hk104] at h
    have hT105 : T hp98 ((own_ (ocL 1 50 (ocL 1 31 (ocL 1 3 (ocV cdI)))) e93 v92) :: (own_ (ocL 1 50 (ocL 1 31 (ocL 1 3 (ocV cdI)))) e97 v96) :: (own_ (ocL 1 50 (ocL 1 31 (ocL 1 3 (ocV cdI)))) e13 v12.2) :: (own_ (ocL 1 50 (ocL 1 31 (ocL 1 3 (ocV cdI)))) e17 v16.2) :: (own_ (ocL 1 50 (ocL 1 31 (ocL 1 3 (ocV cdI)))) e87 r86.2) :: L) := ((hT99.front 0 rfl).front 1 rfl)
    obtain ⟨e103, hp100, hb101, hT1020⟩ := app_ownB (P := Tryd.prog) (ty := 22) (ty2 := 22) (bytes := 24) hT105 (by kernel_rfl) (by kernel_rfl) hk104
    have hT102 : T hp100 ((own_ (ocL 1 50 (ocL 1 31 (ocL 1 3 (ocV cdI)))) e103 (v92 ++ v96)) :: (own_ (ocL 1 50 (ocL 1 31 (ocL 1 3 (ocV cdI)))) e13 v12.2) :: (own_ (ocL 1 50 (ocL 1 31 (ocL 1 3 (ocV cdI)))) e17 v16.2) :: (own_ (ocL 1 50 (ocL 1 31 (ocL 1 3 (ocV cdI)))) e87 r86.2) :: L) := hT1020
    refine RunL.one e_law09_moves_ok 0 rfl (op_w (wantedA_none rfl) rfl (by kernel_rfl) (by kernel_rfl) (w_append (a := e93) (b := e97) (by kernel_rfl) (by kernel_rfl) hb101)) ?_
    refine RunL.segF (n := 165) e_law09_moves_ok 1 [(1, .sl 1 (x1.map (cdL 1 (cdL 1 cdI)).enc)), (2, .sl 1 (x2.map (cdL 1 (cdL 1 cdI)).enc)), (3, .sl 1 (x3.map cdI.enc)), (9, .sl 1 (v1.map (cdL 1 (cdL 1 cdI)).enc)), (10, .sl 1 (v2.map (cdL 1 (cdL 1 cdI)).enc)), (11, .sl 1 (x3.map cdI.enc)), (16, e13), (17, .v (.int .i64 v12.1)), (18, e17), (19, .v (.int .i64 v16.1)), (20, .sl 1 (v20.map (cdL 1 cdI).enc)), (21, e87), (22, e103), (23, .sl 1 (v22.map (cdL 1 cdI).enc)), (24, .v (.int .i64 r86.1)), (25, .v (.int .i64 0))] hp100 (by kernel_rfl) ?_
    refine RunL.done rfl ?_
    have hq := Option.some.inj h; subst hq
    have hT109 : T hp100 ((own_ (ocL 1 50 (ocL 1 31 (ocL 1 3 (ocV cdI)))) e13 v12.2) :: (own_ (ocL 1 50 (ocL 1 31 (ocL 1 3 (ocV cdI)))) e17 v16.2) :: (own_ (ocL 1 50 (ocL 1 31 (ocL 1 3 (ocV cdI)))) e87 r86.2) :: (own_ (ocL 1 50 (ocL 1 31 (ocL 1 3 (ocV cdI)))) e103 (v92 ++ v96)) :: L) := (((hT102.front 3 rfl).front 3 rfl).front 3 rfl)
    exact ⟨rfl, _, ⟨e103, hp100, hT109, rfl⟩, WkY.f1⟩
  · rw [if_f hb91] at h
    refine SemY.skip ?_
    have hq := Option.some.inj h; subst hq
    have hT110 : T hp ((own_ (ocL 1 50 (ocL 1 31 (ocL 1 3 (ocV cdI)))) .e0 ([] : (List (List (List Int))))) :: (own_ (ocL 1 50 (ocL 1 31 (ocL 1 3 (ocV cdI)))) e13 v12.2) :: (own_ (ocL 1 50 (ocL 1 31 (ocL 1 3 (ocV cdI)))) e17 v16.2) :: (own_ (ocL 1 50 (ocL 1 31 (ocL 1 3 (ocV cdI)))) e87 r86.2) :: L) := (T.e0 (o := (ocL 1 31 (ocL 1 3 (ocV cdI)))) hT)
    have hT111 : T hp ((own_ (ocL 1 50 (ocL 1 31 (ocL 1 3 (ocV cdI)))) e13 v12.2) :: (own_ (ocL 1 50 (ocL 1 31 (ocL 1 3 (ocV cdI)))) e17 v16.2) :: (own_ (ocL 1 50 (ocL 1 31 (ocL 1 3 (ocV cdI)))) e87 r86.2) :: (own_ (ocL 1 50 (ocL 1 31 (ocL 1 3 (ocV cdI)))) .e0 ([] : (List (List (List Int))))) :: L) := (((hT110.front 3 rfl).front 3 rfl).front 3 rfl)
    exact ⟨rfl, _, ⟨.e0, hp, hT111, rfl⟩, WkY.f1⟩
set_option maxHeartbeats 4000000 in
set_option maxRecDepth 100000 in
theorem law09_moves_j6_ok {L : List Asn} {hp : Hp} (x1 : (List (List (List Int)))) (x2 : (List (List (List Int)))) (v8 : Int × Int) (x3 : (List Int)) (v1 : (List (List (List Int)))) (v2 : (List (List (List Int)))) (v12 : Int × (List (List (List Int)))) (e13 : AV) (v16 : Int × (List (List (List Int)))) (e17 : AV) (v20 : (List (List Int))) (v22 : (List (List Int))) (e87 : AV) (r86 : Int × (List (List (List Int)))) (r : (Int × (List (List (List Int))))) (h : law09_moves_j6 x1 x2 v8 = some r) (hT : T hp ((own_ (ocL 1 50 (ocL 1 31 (ocL 1 3 (ocV cdI)))) e13 v12.2) :: (own_ (ocL 1 50 (ocL 1 31 (ocL 1 3 (ocV cdI)))) e17 v16.2) :: (own_ (ocL 1 50 (ocL 1 31 (ocL 1 3 (ocV cdI)))) e87 r86.2) :: L)) : SemY e_law09_moves ⟨none, false⟩ (pc cb_law09_moves [1, 1, 1, 1, 1, 1, 1, 1, 1, 1, 0, 1, 0, 1, 1, 1, 1, 1]) ⟨Fr 165 [(1, .sl 1 (x1.map (cdL 1 (cdL 1 cdI)).enc)), (2, .sl 1 (x2.map (cdL 1 (cdL 1 cdI)).enc)), (3, .sl 1 (x3.map cdI.enc)), (9, .sl 1 (v1.map (cdL 1 (cdL 1 cdI)).enc)), (10, .sl 1 (v2.map (cdL 1 (cdL 1 cdI)).enc)), (11, .sl 1 (x3.map cdI.enc)), (16, e13), (17, .v (.int .i64 v12.1)), (18, e17), (19, .v (.int .i64 v16.1)), (20, .sl 1 (v20.map (cdL 1 cdI).enc)), (21, e87), (22, .e0), (23, .sl 1 (v22.map (cdL 1 cdI).enc)), (24, .v (.int .i64 r86.1)), (25, .v (.int .i64 v8.2)), (110, .v (.bool (v8.2 == 0)))], hp⟩ (fun e s => e = .normal ∧ ∃ s2, (∃ (e117 : AV) (h' : Hp), T h' ((own_ (ocL 1 50 (ocL 1 31 (ocL 1 3 (ocV cdI)))) e13 v12.2) :: (own_ (ocL 1 50 (ocL 1 31 (ocL 1 3 (ocV cdI)))) e17 v16.2) :: (own_ (ocL 1 50 (ocL 1 31 (ocL 1 3 (ocV cdI)))) e87 r86.2) :: (own_ (ocL 1 50 (ocL 1 31 (ocL 1 3 (ocV cdI)))) e117 r.2) :: L) ∧ s2 = ⟨Fr 165 [(1, .sl 1 (x1.map (cdL 1 (cdL 1 cdI)).enc)), (2, .sl 1 (x2.map (cdL 1 (cdL 1 cdI)).enc)), (3, .sl 1 (x3.map cdI.enc)), (9, .sl 1 (v1.map (cdL 1 (cdL 1 cdI)).enc)), (10, .sl 1 (v2.map (cdL 1 (cdL 1 cdI)).enc)), (11, .sl 1 (x3.map cdI.enc)), (16, e13), (17, .v (.int .i64 v12.1)), (18, e17), (19, .v (.int .i64 v16.1)), (20, .sl 1 (v20.map (cdL 1 cdI).enc)), (21, e87), (22, e117), (23, .sl 1 (v22.map (cdL 1 cdI).enc)), (24, .v (.int .i64 r86.1)), (25, .v (.int .i64 r.1))], h'⟩) ∧ WkY e_law09_moves s s2) := by
  unfold law09_moves_j6 at h
  refine SemY.cond (b := (v8.2 == 0)) (by kernel_rfl) (fun hb90 => ?_) (fun hb90 => ?_)
  · rw [if_pos hb90] at h
    refine SemY.seq ?_
    refine SemY.regionL ?_
    refine RunL.segF (n := 165) e_law09_moves_ok 1 [(1, .sl 1 (x1.map (cdL 1 (cdL 1 cdI)).enc)), (2, .sl 1 (x2.map (cdL 1 (cdL 1 cdI)).enc)), (3, .sl 1 (x3.map cdI.enc)), (9, .sl 1 (v1.map (cdL 1 (cdL 1 cdI)).enc)), (10, .sl 1 (v2.map (cdL 1 (cdL 1 cdI)).enc)), (11, .sl 1 (x3.map cdI.enc)), (16, e13), (17, .v (.int .i64 v12.1)), (18, e17), (19, .v (.int .i64 v16.1)), (20, .sl 1 (v20.map (cdL 1 cdI).enc)), (21, e87), (22, .e0), (23, .sl 1 (v22.map (cdL 1 cdI).enc)), (24, .v (.int .i64 r86.1)), (25, .v (.int .i64 7))] hp (by kernel_rfl) ?_
    refine RunL.done rfl (SemY.fr (l' := [(1, .sl 1 (x1.map (cdL 1 (cdL 1 cdI)).enc)), (2, .sl 1 (x2.map (cdL 1 (cdL 1 cdI)).enc)), (3, .sl 1 (x3.map cdI.enc)), (9, .sl 1 (v1.map (cdL 1 (cdL 1 cdI)).enc)), (10, .sl 1 (v2.map (cdL 1 (cdL 1 cdI)).enc)), (11, .sl 1 (x3.map cdI.enc)), (16, e13), (17, .v (.int .i64 v12.1)), (18, e17), (19, .v (.int .i64 v16.1)), (20, .sl 1 (v20.map (cdL 1 cdI).enc)), (21, e87), (22, .e0), (23, .sl 1 (v22.map (cdL 1 cdI).enc)), (24, .v (.int .i64 r86.1)), (25, .v (.int .i64 7))]) (by kernel_rfl) ?_)
    refine SemY.seq ?_
    refine SemY.regionL ?_
    refine RunL.segF (n := 165) e_law09_moves_ok 1 [(1, .sl 1 (x1.map (cdL 1 (cdL 1 cdI)).enc)), (2, .sl 1 (x2.map (cdL 1 (cdL 1 cdI)).enc)), (3, .sl 1 (x3.map cdI.enc)), (9, .sl 1 (v1.map (cdL 1 (cdL 1 cdI)).enc)), (10, .sl 1 (v2.map (cdL 1 (cdL 1 cdI)).enc)), (11, .sl 1 (x3.map cdI.enc)), (16, e13), (17, .v (.int .i64 v12.1)), (18, e17), (19, .v (.int .i64 v16.1)), (20, .sl 1 (v20.map (cdL 1 cdI).enc)), (21, e87), (22, .e0), (23, .sl 1 (v22.map (cdL 1 cdI).enc)), (24, .v (.int .i64 r86.1)), (25, .v (.int .i64 7)), (111, .sl 1 (x1.map (cdL 1 (cdL 1 cdI)).enc))] hp (by kernel_rfl) ?_
    refine RunL.one e_law09_moves_ok 0 rfl (op_q (wantedA_none rfl) rfl (q_len (a := .sl 1 (x1.map (cdL 1 (cdL 1 cdI)).enc)) (by kernel_rfl) (len_sl (el := 50) (by kernel_rfl)))) ?_
    refine RunL.segF (n := 165) e_law09_moves_ok 1 [(1, .sl 1 (x1.map (cdL 1 (cdL 1 cdI)).enc)), (2, .sl 1 (x2.map (cdL 1 (cdL 1 cdI)).enc)), (3, .sl 1 (x3.map cdI.enc)), (9, .sl 1 (v1.map (cdL 1 (cdL 1 cdI)).enc)), (10, .sl 1 (v2.map (cdL 1 (cdL 1 cdI)).enc)), (11, .sl 1 (x3.map cdI.enc)), (16, e13), (17, .v (.int .i64 v12.1)), (18, e17), (19, .v (.int .i64 v16.1)), (20, .sl 1 (v20.map (cdL 1 cdI).enc)), (21, e87), (22, .e0), (23, .sl 1 (v22.map (cdL 1 cdI).enc)), (24, .v (.int .i64 r86.1)), (25, .v (.int .i64 7)), (112, .v (.int .i64 (x1.length : Int))), (113, .sl 1 (x2.map (cdL 1 (cdL 1 cdI)).enc))] hp (by kernel_rfl) ?_
    refine RunL.one e_law09_moves_ok 0 rfl (op_q (wantedA_none rfl) rfl (q_len (a := .sl 1 (x2.map (cdL 1 (cdL 1 cdI)).enc)) (by kernel_rfl) (len_sl (el := 50) (by kernel_rfl)))) ?_
    refine RunL.segF (n := 165) e_law09_moves_ok 2 [(1, .sl 1 (x1.map (cdL 1 (cdL 1 cdI)).enc)), (2, .sl 1 (x2.map (cdL 1 (cdL 1 cdI)).enc)), (3, .sl 1 (x3.map cdI.enc)), (9, .sl 1 (v1.map (cdL 1 (cdL 1 cdI)).enc)), (10, .sl 1 (v2.map (cdL 1 (cdL 1 cdI)).enc)), (11, .sl 1 (x3.map cdI.enc)), (16, e13), (17, .v (.int .i64 v12.1)), (18, e17), (19, .v (.int .i64 v16.1)), (20, .sl 1 (v20.map (cdL 1 cdI).enc)), (21, e87), (22, .e0), (23, .sl 1 (v22.map (cdL 1 cdI).enc)), (24, .v (.int .i64 r86.1)), (25, .v (.int .i64 7)), (116, .v (.bool (decide ((wr .i64 ((x1.length : Int) + (x2.length : Int))) ≤ 64))))] hp (by kernel_rfl) ?_
    refine RunL.done rfl (SemY.fr (l' := [(1, .sl 1 (x1.map (cdL 1 (cdL 1 cdI)).enc)), (2, .sl 1 (x2.map (cdL 1 (cdL 1 cdI)).enc)), (3, .sl 1 (x3.map cdI.enc)), (9, .sl 1 (v1.map (cdL 1 (cdL 1 cdI)).enc)), (10, .sl 1 (v2.map (cdL 1 (cdL 1 cdI)).enc)), (11, .sl 1 (x3.map cdI.enc)), (16, e13), (17, .v (.int .i64 v12.1)), (18, e17), (19, .v (.int .i64 v16.1)), (20, .sl 1 (v20.map (cdL 1 cdI).enc)), (21, e87), (22, .e0), (23, .sl 1 (v22.map (cdL 1 cdI).enc)), (24, .v (.int .i64 r86.1)), (25, .v (.int .i64 7)), (116, .v (.bool (decide ((wr .i64 ((x1.length : Int) + (x2.length : Int))) ≤ 64))))]) (by kernel_rfl) ?_)
    obtain ⟨r112, hr112, h⟩ := Option.bind_eq_some_iff.1 h
    refine SemY.cutT (law09_moves_j7_ok x1 x2 x3 v1 v2 v12 e13 v16 e17 v20 v22 e87 r86 _ hr112 hT) ?_
    rintro _ ⟨e113, hp114, hT115, rfl⟩
    have hq := Option.some.inj h; subst hq
    exact ⟨rfl, _, ⟨e113, hp114, hT115, rfl⟩, WkY.f1⟩
  · rw [if_f hb90] at h
    refine SemY.skip ?_
    have hq := Option.some.inj h; subst hq
    have hT119 : T hp ((own_ (ocL 1 50 (ocL 1 31 (ocL 1 3 (ocV cdI)))) .e0 ([] : (List (List (List Int))))) :: (own_ (ocL 1 50 (ocL 1 31 (ocL 1 3 (ocV cdI)))) e13 v12.2) :: (own_ (ocL 1 50 (ocL 1 31 (ocL 1 3 (ocV cdI)))) e17 v16.2) :: (own_ (ocL 1 50 (ocL 1 31 (ocL 1 3 (ocV cdI)))) e87 r86.2) :: L) := (T.e0 (o := (ocL 1 31 (ocL 1 3 (ocV cdI)))) hT)
    have hT120 : T hp ((own_ (ocL 1 50 (ocL 1 31 (ocL 1 3 (ocV cdI)))) e13 v12.2) :: (own_ (ocL 1 50 (ocL 1 31 (ocL 1 3 (ocV cdI)))) e17 v16.2) :: (own_ (ocL 1 50 (ocL 1 31 (ocL 1 3 (ocV cdI)))) e87 r86.2) :: (own_ (ocL 1 50 (ocL 1 31 (ocL 1 3 (ocV cdI)))) .e0 ([] : (List (List (List Int))))) :: L) := (((hT119.front 3 rfl).front 3 rfl).front 3 rfl)
    exact ⟨rfl, _, ⟨.e0, hp, hT120, rfl⟩, WkY.f1⟩
set_option maxHeartbeats 4000000 in
set_option maxRecDepth 100000 in
theorem law09_moves_j1_ok {L : List Asn} {hp : Hp} (x0 : Int) (x1 : (List (List (List Int)))) (x2 : (List (List (List Int)))) (x3 : (List Int)) (v7 : Int × Int) (v8 : Int × Int) (v1 : (List (List (List Int)))) (v2 : (List (List (List Int)))) (v12 : Int × (List (List (List Int)))) (e13 : AV) (v16 : Int × (List (List (List Int)))) (e17 : AV) (v20 : (List (List Int))) (r : ((List (List Int)) × Int × Int × (List (List (List Int))) × (List (List (List Int))))) (h : law09_moves_j1 x0 x1 x2 x3 v7 v8 = some r) (hT : T hp ((own_ (ocL 1 50 (ocL 1 31 (ocL 1 3 (ocV cdI)))) e17 v16.2) :: (own_ (ocL 1 50 (ocL 1 31 (ocL 1 3 (ocV cdI)))) e13 v12.2) :: L)) : SemY e_law09_moves ⟨none, false⟩ (pc cb_law09_moves [1, 1, 1, 1, 1, 1, 1, 1, 1, 1, 0, 1]) ⟨Fr 165 [(0, .v (.int .i64 x0)), (1, .sl 1 (x1.map (cdL 1 (cdL 1 cdI)).enc)), (2, .sl 1 (x2.map (cdL 1 (cdL 1 cdI)).enc)), (3, .sl 1 (x3.map cdI.enc)), (9, .sl 1 (v1.map (cdL 1 (cdL 1 cdI)).enc)), (10, .sl 1 (v2.map (cdL 1 (cdL 1 cdI)).enc)), (11, .sl 1 (x3.map cdI.enc)), (15, .v (.int .i64 v8.2)), (16, e13), (17, .v (.int .i64 v12.1)), (18, e17), (19, .v (.int .i64 v16.1)), (20, .sl 1 (v20.map (cdL 1 cdI).enc)), (21, .e0), (22, .e0), (23, .e0), (24, .v (.int .i64 v7.2)), (25, .v (.int .i64 v7.2)), (70, .v (.bool (v7.2 == 0)))], hp⟩ (fun e s => e = .normal ∧ ∃ s2, (∃ (e128 e130 : AV) (h' : Hp), T h' ((own_ (ocL 1 50 (ocL 1 31 (ocL 1 3 (ocV cdI)))) e13 v12.2) :: (own_ (ocL 1 50 (ocL 1 31 (ocL 1 3 (ocV cdI)))) e17 v16.2) :: (own_ (ocL 1 50 (ocL 1 31 (ocL 1 3 (ocV cdI)))) e128 r.2.2.2.1) :: (own_ (ocL 1 50 (ocL 1 31 (ocL 1 3 (ocV cdI)))) e130 r.2.2.2.2) :: L) ∧ s2 = ⟨Fr 165 [(1, .sl 1 (x1.map (cdL 1 (cdL 1 cdI)).enc)), (2, .sl 1 (x2.map (cdL 1 (cdL 1 cdI)).enc)), (3, .sl 1 (x3.map cdI.enc)), (9, .sl 1 (v1.map (cdL 1 (cdL 1 cdI)).enc)), (10, .sl 1 (v2.map (cdL 1 (cdL 1 cdI)).enc)), (11, .sl 1 (x3.map cdI.enc)), (16, e13), (17, .v (.int .i64 v12.1)), (18, e17), (19, .v (.int .i64 v16.1)), (20, .sl 1 (v20.map (cdL 1 cdI).enc)), (21, e128), (22, e130), (23, .sl 1 (r.1.map (cdL 1 cdI).enc)), (24, .v (.int .i64 r.2.1)), (25, .v (.int .i64 r.2.2.1))], h'⟩) ∧ WkY e_law09_moves s s2) := by
  unfold law09_moves_j1 at h
  refine SemY.cond (b := (v7.2 == 0)) (by kernel_rfl) (fun hb21 => ?_) (fun hb21 => ?_)
  · rw [if_pos hb21] at h
    refine SemY.seq ?_
    refine SemY.regionL ?_
    refine RunL.segF (n := 165) e_law09_moves_ok 2 [(0, .v (.int .i64 x0)), (1, .sl 1 (x1.map (cdL 1 (cdL 1 cdI)).enc)), (2, .sl 1 (x2.map (cdL 1 (cdL 1 cdI)).enc)), (3, .sl 1 (x3.map cdI.enc)), (9, .sl 1 (v1.map (cdL 1 (cdL 1 cdI)).enc)), (10, .sl 1 (v2.map (cdL 1 (cdL 1 cdI)).enc)), (11, .sl 1 (x3.map cdI.enc)), (15, .v (.int .i64 v8.2)), (16, e13), (17, .v (.int .i64 v12.1)), (18, e17), (19, .v (.int .i64 v16.1)), (20, .sl 1 (v20.map (cdL 1 cdI).enc)), (21, .e0), (22, .e0), (71, .v (.int .i64 x0)), (72, .sl 1 (x1.map (cdL 1 (cdL 1 cdI)).enc))] hp (by kernel_rfl) ?_
    obtain ⟨v22, hv22, h⟩ := Option.bind_eq_some_iff.1 h
    refine RunL.call e_law09_moves_ok (fid := 86) (b := v22) (s := cs_ref09_Hosts) (F := fun a => ref09_Hosts a.1 a.2.1) (er := er_ref09_Hosts) (xs := [.v (.int .i64 x0), .sl 1 (x1.map (cdL 1 (cdL 1 cdI)).enc)]) (a := (x0, x1, ())) rfl (wantedA_none rfl) (by kernel_rfl) (by kernel_rfl) (by kernel_rfl) (by kernel_rfl) (Sns.cons (Sn.enc (c := cdI) (v := x0)) (Sns.cons (Sn.enc (c := (cdL 1 (cdL 1 (cdL 1 cdI)))) (v := x1)) Sns.nil)) (.inl (by kernel_rfl)) hv22 ?_
    refine RunL.segF (n := 165) e_law09_moves_ok 1 [(0, .v (.int .i64 x0)), (1, .sl 1 (x1.map (cdL 1 (cdL 1 cdI)).enc)), (2, .sl 1 (x2.map (cdL 1 (cdL 1 cdI)).enc)), (3, .sl 1 (x3.map cdI.enc)), (9, .sl 1 (v1.map (cdL 1 (cdL 1 cdI)).enc)), (10, .sl 1 (v2.map (cdL 1 (cdL 1 cdI)).enc)), (11, .sl 1 (x3.map cdI.enc)), (15, .v (.int .i64 v8.2)), (16, e13), (17, .v (.int .i64 v12.1)), (18, e17), (19, .v (.int .i64 v16.1)), (20, .sl 1 (v20.map (cdL 1 cdI).enc)), (21, .e0), (22, .e0), (23, .sl 1 (v22.map (cdL 1 cdI).enc))] hp (by kernel_rfl) ?_
    refine RunL.done rfl (SemY.fr (l' := [(0, .v (.int .i64 x0)), (1, .sl 1 (x1.map (cdL 1 (cdL 1 cdI)).enc)), (2, .sl 1 (x2.map (cdL 1 (cdL 1 cdI)).enc)), (3, .sl 1 (x3.map cdI.enc)), (9, .sl 1 (v1.map (cdL 1 (cdL 1 cdI)).enc)), (10, .sl 1 (v2.map (cdL 1 (cdL 1 cdI)).enc)), (11, .sl 1 (x3.map cdI.enc)), (15, .v (.int .i64 v8.2)), (16, e13), (17, .v (.int .i64 v12.1)), (18, e17), (19, .v (.int .i64 v16.1)), (20, .sl 1 (v20.map (cdL 1 cdI).enc)), (21, .e0), (22, .e0), (23, .sl 1 (v22.map (cdL 1 cdI).enc))]) (by kernel_rfl) ?_)
    refine SemY.seq ?_
    refine SemY.regionL ?_
    refine RunL.segF (n := 165) e_law09_moves_ok 2 [(0, .v (.int .i64 x0)), (1, .sl 1 (x1.map (cdL 1 (cdL 1 cdI)).enc)), (2, .sl 1 (x2.map (cdL 1 (cdL 1 cdI)).enc)), (3, .sl 1 (x3.map cdI.enc)), (9, .sl 1 (v1.map (cdL 1 (cdL 1 cdI)).enc)), (10, .sl 1 (v2.map (cdL 1 (cdL 1 cdI)).enc)), (11, .sl 1 (x3.map cdI.enc)), (15, .v (.int .i64 v8.2)), (16, e13), (17, .v (.int .i64 v12.1)), (18, e17), (19, .v (.int .i64 v16.1)), (20, .sl 1 (v20.map (cdL 1 cdI).enc)), (21, .e0), (22, .e0), (23, .sl 1 (v22.map (cdL 1 cdI).enc)), (25, .v (.int .i64 v8.2))] hp (by kernel_rfl) ?_
    refine RunL.done rfl (SemY.fr (l' := [(0, .v (.int .i64 x0)), (1, .sl 1 (x1.map (cdL 1 (cdL 1 cdI)).enc)), (2, .sl 1 (x2.map (cdL 1 (cdL 1 cdI)).enc)), (3, .sl 1 (x3.map cdI.enc)), (9, .sl 1 (v1.map (cdL 1 (cdL 1 cdI)).enc)), (10, .sl 1 (v2.map (cdL 1 (cdL 1 cdI)).enc)), (11, .sl 1 (x3.map cdI.enc)), (15, .v (.int .i64 v8.2)), (16, e13), (17, .v (.int .i64 v12.1)), (18, e17), (19, .v (.int .i64 v16.1)), (20, .sl 1 (v20.map (cdL 1 cdI).enc)), (21, .e0), (22, .e0), (23, .sl 1 (v22.map (cdL 1 cdI).enc)), (25, .v (.int .i64 v8.2))]) (by kernel_rfl) ?_)
    refine SemY.seq ?_
    refine SemY.regionL ?_
    refine RunL.segF (n := 165) e_law09_moves_ok 1 [(0, .v (.int .i64 x0)), (1, .sl 1 (x1.map (cdL 1 (cdL 1 cdI)).enc)), (2, .sl 1 (x2.map (cdL 1 (cdL 1 cdI)).enc)), (3, .sl 1 (x3.map cdI.enc)), (9, .sl 1 (v1.map (cdL 1 (cdL 1 cdI)).enc)), (10, .sl 1 (v2.map (cdL 1 (cdL 1 cdI)).enc)), (11, .sl 1 (x3.map cdI.enc)), (15, .v (.int .i64 v8.2)), (16, e13), (17, .v (.int .i64 v12.1)), (18, e17), (19, .v (.int .i64 v16.1)), (20, .sl 1 (v20.map (cdL 1 cdI).enc)), (21, .e0), (22, .e0), (23, .sl 1 (v22.map (cdL 1 cdI).enc)), (24, .v (.int .i64 2)), (25, .v (.int .i64 v8.2))] hp (by kernel_rfl) ?_
    refine RunL.done rfl (SemY.fr (l' := [(0, .v (.int .i64 x0)), (1, .sl 1 (x1.map (cdL 1 (cdL 1 cdI)).enc)), (2, .sl 1 (x2.map (cdL 1 (cdL 1 cdI)).enc)), (3, .sl 1 (x3.map cdI.enc)), (9, .sl 1 (v1.map (cdL 1 (cdL 1 cdI)).enc)), (10, .sl 1 (v2.map (cdL 1 (cdL 1 cdI)).enc)), (11, .sl 1 (x3.map cdI.enc)), (15, .v (.int .i64 v8.2)), (16, e13), (17, .v (.int .i64 v12.1)), (18, e17), (19, .v (.int .i64 v16.1)), (20, .sl 1 (v20.map (cdL 1 cdI).enc)), (21, .e0), (22, .e0), (23, .sl 1 (v22.map (cdL 1 cdI).enc)), (24, .v (.int .i64 2)), (25, .v (.int .i64 v8.2))]) (by kernel_rfl) ?_)
    refine SemY.seq ?_
    refine SemY.seq ?_
    refine SemY.regionL ?_
    refine RunL.segF (n := 165) e_law09_moves_ok 2 [(1, .sl 1 (x1.map (cdL 1 (cdL 1 cdI)).enc)), (2, .sl 1 (x2.map (cdL 1 (cdL 1 cdI)).enc)), (3, .sl 1 (x3.map cdI.enc)), (9, .sl 1 (v1.map (cdL 1 (cdL 1 cdI)).enc)), (10, .sl 1 (v2.map (cdL 1 (cdL 1 cdI)).enc)), (11, .sl 1 (x3.map cdI.enc)), (15, .v (.int .i64 v8.2)), (16, e13), (17, .v (.int .i64 v12.1)), (18, e17), (19, .v (.int .i64 v16.1)), (20, .sl 1 (v20.map (cdL 1 cdI).enc)), (21, .e0), (22, .e0), (23, .sl 1 (v22.map (cdL 1 cdI).enc)), (24, .v (.int .i64 2)), (25, .v (.int .i64 v8.2)), (75, .sl 1 (x3.map cdI.enc)), (76, .v (.int .i64 x0))] hp (by kernel_rfl) ?_
    obtain ⟨v23, hv23, h⟩ := Option.bind_eq_some_iff.1 h
    refine RunL.call e_law09_moves_ok (fid := 87) (b := v23) (s := cs_law09_permutation) (F := fun a => law09_permutation a.1 a.2.1) (er := er_law09_permutation) (xs := [.sl 1 (x3.map cdI.enc), .v (.int .i64 x0)]) (a := (x3, x0, ())) rfl (wantedA_none rfl) (by kernel_rfl) (by kernel_rfl) (by kernel_rfl) (by kernel_rfl) (Sns.cons (Sn.enc (c := (cdL 1 cdI)) (v := x3)) (Sns.cons (Sn.enc (c := cdI) (v := x0)) Sns.nil)) (.inl (by kernel_rfl)) hv23 ?_
    refine RunL.done rfl (SemY.fr (l' := [(1, .sl 1 (x1.map (cdL 1 (cdL 1 cdI)).enc)), (2, .sl 1 (x2.map (cdL 1 (cdL 1 cdI)).enc)), (3, .sl 1 (x3.map cdI.enc)), (9, .sl 1 (v1.map (cdL 1 (cdL 1 cdI)).enc)), (10, .sl 1 (v2.map (cdL 1 (cdL 1 cdI)).enc)), (11, .sl 1 (x3.map cdI.enc)), (15, .v (.int .i64 v8.2)), (16, e13), (17, .v (.int .i64 v12.1)), (18, e17), (19, .v (.int .i64 v16.1)), (20, .sl 1 (v20.map (cdL 1 cdI).enc)), (21, .e0), (22, .e0), (23, .sl 1 (v22.map (cdL 1 cdI).enc)), (24, .v (.int .i64 2)), (25, .v (.int .i64 v8.2)), (77, .v (.bool v23))]) (by kernel_rfl) ?_)
    obtain ⟨r86, hr86, h⟩ := Option.bind_eq_some_iff.1 h
    refine SemY.cutT (law09_moves_j2_ok x1 x3 v23 x2 v1 v2 v8 v12 e13 v16 e17 v20 v22 _ hr86 hT) ?_
    rintro _ ⟨e87, hp88, hT89, rfl⟩
    refine SemY.seq ?_
    refine SemY.regionL ?_
    refine RunL.segF (n := 165) e_law09_moves_ok 2 [(1, .sl 1 (x1.map (cdL 1 (cdL 1 cdI)).enc)), (2, .sl 1 (x2.map (cdL 1 (cdL 1 cdI)).enc)), (3, .sl 1 (x3.map cdI.enc)), (9, .sl 1 (v1.map (cdL 1 (cdL 1 cdI)).enc)), (10, .sl 1 (v2.map (cdL 1 (cdL 1 cdI)).enc)), (11, .sl 1 (x3.map cdI.enc)), (16, e13), (17, .v (.int .i64 v12.1)), (18, e17), (19, .v (.int .i64 v16.1)), (20, .sl 1 (v20.map (cdL 1 cdI).enc)), (21, e87), (22, .e0), (23, .sl 1 (v22.map (cdL 1 cdI).enc)), (24, .v (.int .i64 r86.1)), (25, .v (.int .i64 v8.2)), (110, .v (.bool (v8.2 == 0)))] hp88 (by kernel_rfl) ?_
    refine RunL.done rfl (SemY.fr (l' := [(1, .sl 1 (x1.map (cdL 1 (cdL 1 cdI)).enc)), (2, .sl 1 (x2.map (cdL 1 (cdL 1 cdI)).enc)), (3, .sl 1 (x3.map cdI.enc)), (9, .sl 1 (v1.map (cdL 1 (cdL 1 cdI)).enc)), (10, .sl 1 (v2.map (cdL 1 (cdL 1 cdI)).enc)), (11, .sl 1 (x3.map cdI.enc)), (16, e13), (17, .v (.int .i64 v12.1)), (18, e17), (19, .v (.int .i64 v16.1)), (20, .sl 1 (v20.map (cdL 1 cdI).enc)), (21, e87), (22, .e0), (23, .sl 1 (v22.map (cdL 1 cdI).enc)), (24, .v (.int .i64 r86.1)), (25, .v (.int .i64 v8.2)), (110, .v (.bool (v8.2 == 0)))]) (by kernel_rfl) ?_)
    obtain ⟨r121, hr121, h⟩ := Option.bind_eq_some_iff.1 h
    refine SemY.cutT (law09_moves_j6_ok x1 x2 v8 x3 v1 v2 v12 e13 v16 e17 v20 v22 e87 r86 _ hr121 hT89) ?_
    rintro _ ⟨e122, hp123, hT124, rfl⟩
    have hq := Option.some.inj h; subst hq
    exact ⟨rfl, _, ⟨e87, e122, hp123, hT124, rfl⟩, WkY.f1⟩
  · rw [if_f hb21] at h
    refine SemY.skip ?_
    have hq := Option.some.inj h; subst hq
    have hT132 : T hp ((own_ (ocL 1 31 (ocV (cdL 1 cdI))) .e0 ([] : (List (List Int)))) :: (own_ (ocL 1 50 (ocL 1 31 (ocL 1 3 (ocV cdI)))) e17 v16.2) :: (own_ (ocL 1 50 (ocL 1 31 (ocL 1 3 (ocV cdI)))) e13 v12.2) :: L) := (T.e0 (o := (ocV (cdL 1 cdI))) hT)
    obtain ⟨hp133, hw134, hT1350⟩ := WkY.frzT (E := e_law09_moves) (n := 165) (l := [(1, .sl 1 (x1.map (cdL 1 (cdL 1 cdI)).enc)), (2, .sl 1 (x2.map (cdL 1 (cdL 1 cdI)).enc)), (3, .sl 1 (x3.map cdI.enc)), (9, .sl 1 (v1.map (cdL 1 (cdL 1 cdI)).enc)), (10, .sl 1 (v2.map (cdL 1 (cdL 1 cdI)).enc)), (11, .sl 1 (x3.map cdI.enc)), (16, e13), (17, .v (.int .i64 v12.1)), (18, e17), (19, .v (.int .i64 v16.1)), (20, .sl 1 (v20.map (cdL 1 cdI).enc)), (21, .e0), (22, .e0), (23, .e0), (24, .v (.int .i64 v7.2)), (25, .v (.int .i64 v7.2))]) (l' := [(1, .sl 1 (x1.map (cdL 1 (cdL 1 cdI)).enc)), (2, .sl 1 (x2.map (cdL 1 (cdL 1 cdI)).enc)), (3, .sl 1 (x3.map cdI.enc)), (9, .sl 1 (v1.map (cdL 1 (cdL 1 cdI)).enc)), (10, .sl 1 (v2.map (cdL 1 (cdL 1 cdI)).enc)), (11, .sl 1 (x3.map cdI.enc)), (16, e13), (17, .v (.int .i64 v12.1)), (18, e17), (19, .v (.int .i64 v16.1)), (20, .sl 1 (v20.map (cdL 1 cdI).enc)), (21, .e0), (22, .e0), (23, .sl 1 (([] : (List (List Int))).map (cdL 1 cdI).enc)), (24, .v (.int .i64 v7.2)), (25, .v (.int .i64 v7.2))]) hT132 (LkT.at_ ⟨.inl (by kernel_rfl), .inl (by kernel_rfl), .inl (by kernel_rfl), .inl (by kernel_rfl), .inl (by kernel_rfl), .inl (by kernel_rfl), .inl (by kernel_rfl), .inl (by kernel_rfl), .inl (by kernel_rfl), .inl (by kernel_rfl), .inl (by kernel_rfl), .inl (by kernel_rfl), .inl (by kernel_rfl), .inr ⟨(by kernel_rfl), rfl⟩, .inl (by kernel_rfl), .inl (by kernel_rfl), trivial⟩)
    have hT135 : T hp133 ((own_ (ocL 1 50 (ocL 1 31 (ocL 1 3 (ocV cdI)))) e17 v16.2) :: (own_ (ocL 1 50 (ocL 1 31 (ocL 1 3 (ocV cdI)))) e13 v12.2) :: L) := hT1350
    have hT136 : T hp133 ((own_ (ocL 1 50 (ocL 1 31 (ocL 1 3 (ocV cdI)))) .e0 ([] : (List (List (List Int))))) :: (own_ (ocL 1 50 (ocL 1 31 (ocL 1 3 (ocV cdI)))) e17 v16.2) :: (own_ (ocL 1 50 (ocL 1 31 (ocL 1 3 (ocV cdI)))) e13 v12.2) :: L) := (T.e0 (o := (ocL 1 31 (ocL 1 3 (ocV cdI)))) hT135)
    have hT137 : T hp133 ((own_ (ocL 1 50 (ocL 1 31 (ocL 1 3 (ocV cdI)))) .e0 ([] : (List (List (List Int))))) :: (own_ (ocL 1 50 (ocL 1 31 (ocL 1 3 (ocV cdI)))) .e0 ([] : (List (List (List Int))))) :: (own_ (ocL 1 50 (ocL 1 31 (ocL 1 3 (ocV cdI)))) e17 v16.2) :: (own_ (ocL 1 50 (ocL 1 31 (ocL 1 3 (ocV cdI)))) e13 v12.2) :: L) := (T.e0 (o := (ocL 1 31 (ocL 1 3 (ocV cdI)))) hT136)
    have hT138 : T hp133 ((own_ (ocL 1 50 (ocL 1 31 (ocL 1 3 (ocV cdI)))) e13 v12.2) :: (own_ (ocL 1 50 (ocL 1 31 (ocL 1 3 (ocV cdI)))) e17 v16.2) :: (own_ (ocL 1 50 (ocL 1 31 (ocL 1 3 (ocV cdI)))) .e0 ([] : (List (List (List Int))))) :: (own_ (ocL 1 50 (ocL 1 31 (ocL 1 3 (ocV cdI)))) .e0 ([] : (List (List (List Int))))) :: L) := (((hT137.front 1 rfl).front 2 rfl).front 3 rfl)
    exact ⟨rfl, _, ⟨.e0, .e0, hp133, hT138, rfl⟩, (WkY.trans (WkY.trans WkY.f1 hw134) WkY.f1)⟩
set_option maxHeartbeats 4000000 in
set_option maxRecDepth 100000 in
theorem law09_moves_sem {L : List Asn} {hp : Hp} (x0 : Int) (x1 : (List (List (List Int)))) (x2 : (List (List (List Int)))) (x3 : (List Int)) (r : Bool) (h : law09_moves x0 x1 x2 x3 = some r) (hT : T hp (L)) : SemY e_law09_moves ⟨none, false⟩ cb_law09_moves ⟨Fr 165 (pairs0 0 [.v (.int .i64 x0), .sl 1 (x1.map (cdL 1 (cdL 1 cdI)).enc), .sl 1 (x2.map (cdL 1 (cdL 1 cdI)).enc), .sl 1 (x3.map cdI.enc)]), hp⟩ fun x s' => (x = .normal ∨ x = .ret) ∧ ∃ ys, resA e_law09_moves.P s'.fr s'.hp Tryd.f34.results.toList = some ys ∧ (fun v h' => v = .v (.bool r) ∧ T h' (L)) (retA ys) s'.hp := by
  unfold law09_moves at h
  refine SemY.wkQ (SemY.wk (s1 := ⟨Fr 165 [(0, .v (.int .i64 x0)), (1, .sl 1 (x1.map (cdL 1 (cdL 1 cdI)).enc)), (2, .sl 1 (x2.map (cdL 1 (cdL 1 cdI)).enc)), (3, .sl 1 (x3.map cdI.enc))], hp⟩) WkY.f1 ?_)
  refine SemY.seq ?_
  refine SemY.regionL ?_
  refine RunL.segF (n := 165) e_law09_moves_ok 1 [(0, .v (.int .i64 x0)), (1, .sl 1 (x1.map (cdL 1 (cdL 1 cdI)).enc)), (2, .sl 1 (x2.map (cdL 1 (cdL 1 cdI)).enc)), (3, .sl 1 (x3.map cdI.enc))] hp (by kernel_rfl) ?_
  refine RunL.done rfl (SemY.fr (l' := [(0, .v (.int .i64 x0)), (1, .sl 1 (x1.map (cdL 1 (cdL 1 cdI)).enc)), (2, .sl 1 (x2.map (cdL 1 (cdL 1 cdI)).enc)), (3, .sl 1 (x3.map cdI.enc))]) (by kernel_rfl) ?_)
  refine SemY.seq ?_
  refine SemY.regionL ?_
  refine RunL.segF (n := 165) e_law09_moves_ok 1 [(0, .v (.int .i64 x0)), (1, .sl 1 (x1.map (cdL 1 (cdL 1 cdI)).enc)), (2, .sl 1 (x2.map (cdL 1 (cdL 1 cdI)).enc)), (3, .sl 1 (x3.map cdI.enc)), (32, .sl 1 (x1.map (cdL 1 (cdL 1 cdI)).enc))] hp (by kernel_rfl) ?_
  obtain ⟨v1, hv1, h⟩ := Option.bind_eq_some_iff.1 h
  refine RunL.call e_law09_moves_ok (fid := 14) (b := v1) (s := cs_law09_Copy) (F := fun a => law09_Copy a.1) (er := er_law09_Copy) (xs := [.sl 1 (x1.map (cdL 1 (cdL 1 cdI)).enc)]) (a := (x1, ())) rfl (wantedA_none rfl) (by kernel_rfl) (by kernel_rfl) (by kernel_rfl) (by kernel_rfl) (Sns.cons (Sn.enc (c := (cdL 1 (cdL 1 (cdL 1 cdI)))) (v := x1)) Sns.nil) (.inl (by kernel_rfl)) hv1 ?_
  refine RunL.segF (n := 165) e_law09_moves_ok 1 [(0, .v (.int .i64 x0)), (1, .sl 1 (x1.map (cdL 1 (cdL 1 cdI)).enc)), (2, .sl 1 (x2.map (cdL 1 (cdL 1 cdI)).enc)), (3, .sl 1 (x3.map cdI.enc)), (33, .sl 1 (v1.map (cdL 1 (cdL 1 cdI)).enc)), (34, .sl 1 (x2.map (cdL 1 (cdL 1 cdI)).enc))] hp (by kernel_rfl) ?_
  obtain ⟨v2, hv2, h⟩ := Option.bind_eq_some_iff.1 h
  refine RunL.call e_law09_moves_ok (fid := 14) (b := v2) (s := cs_law09_Copy) (F := fun a => law09_Copy a.1) (er := er_law09_Copy) (xs := [.sl 1 (x2.map (cdL 1 (cdL 1 cdI)).enc)]) (a := (x2, ())) rfl (wantedA_none rfl) (by kernel_rfl) (by kernel_rfl) (by kernel_rfl) (by kernel_rfl) (Sns.cons (Sn.enc (c := (cdL 1 (cdL 1 (cdL 1 cdI)))) (v := x2)) Sns.nil) (.inl (by kernel_rfl)) hv2 ?_
  refine RunL.segF (n := 165) e_law09_moves_ok 1 [(0, .v (.int .i64 x0)), (1, .sl 1 (x1.map (cdL 1 (cdL 1 cdI)).enc)), (2, .sl 1 (x2.map (cdL 1 (cdL 1 cdI)).enc)), (3, .sl 1 (x3.map cdI.enc)), (33, .sl 1 (v1.map (cdL 1 (cdL 1 cdI)).enc)), (35, .sl 1 (v2.map (cdL 1 (cdL 1 cdI)).enc)), (36, .sl 1 (x3.map cdI.enc))] hp (by kernel_rfl) ?_
  by_cases hk3 : (capOk 8 x3.length) = true
  case neg => rw [if_neg hk3] at h; cases h
  rw [if_pos hk3] at h
  refine RunL.callS rfl rfl (s_clone x3 hk3) rfl (wantedA_none rfl) (by kernel_rfl) (xs := [.sl 1 (x3.map cdI.enc)]) (by kernel_rfl) (Sees.cons (SeeV.enc (c := cdL 1 cdI)) Sees.nil) clone_flat ?_
  intro x h' hO; obtain ⟨e4, hp5, e4q, hp5q, hT60⟩ := clone_own hT hO; rw [← e4q, ← hp5q]
  have hT6 : T hp5 ((own_ (ocL 1 3 (ocV cdI)) e4 x3) :: L) := hT60
  refine RunL.segF (n := 165) e_law09_moves_ok 3 [(0, .v (.int .i64 x0)), (1, .sl 1 (x1.map (cdL 1 (cdL 1 cdI)).enc)), (2, .sl 1 (x2.map (cdL 1 (cdL 1 cdI)).enc)), (3, .sl 1 (x3.map cdI.enc)), (9, .sl 1 (v1.map (cdL 1 (cdL 1 cdI)).enc)), (10, .sl 1 (v2.map (cdL 1 (cdL 1 cdI)).enc)), (11, e4)] hp5 (by kernel_rfl) ?_
  refine RunL.done rfl (SemY.fr (l' := [(0, .v (.int .i64 x0)), (1, .sl 1 (x1.map (cdL 1 (cdL 1 cdI)).enc)), (2, .sl 1 (x2.map (cdL 1 (cdL 1 cdI)).enc)), (3, .sl 1 (x3.map cdI.enc)), (9, .sl 1 (v1.map (cdL 1 (cdL 1 cdI)).enc)), (10, .sl 1 (v2.map (cdL 1 (cdL 1 cdI)).enc)), (11, e4)]) (by kernel_rfl) ?_)
  refine SemY.seq ?_
  refine SemY.regionL ?_
  refine RunL.segF (n := 165) e_law09_moves_ok 2 [(0, .v (.int .i64 x0)), (1, .sl 1 (x1.map (cdL 1 (cdL 1 cdI)).enc)), (2, .sl 1 (x2.map (cdL 1 (cdL 1 cdI)).enc)), (3, .sl 1 (x3.map cdI.enc)), (9, .sl 1 (v1.map (cdL 1 (cdL 1 cdI)).enc)), (10, .sl 1 (v2.map (cdL 1 (cdL 1 cdI)).enc)), (11, e4), (39, .v (.int .i64 x0)), (40, .sl 1 (x1.map (cdL 1 (cdL 1 cdI)).enc))] hp5 (by kernel_rfl) ?_
  obtain ⟨v7, hv7, h⟩ := Option.bind_eq_some_iff.1 h
  refine RunL.call e_law09_moves_ok (fid := 48) (b := v7) (s := cs_ref09_Check) (F := fun a => ref09_Check a.1 a.2.1 a.2.2.1) (er := er_ref09_Check) (xs := [.v (.int .i64 x0), .e0, .sl 1 (x1.map (cdL 1 (cdL 1 cdI)).enc)]) (a := (x0, [], x1, ())) rfl (wantedA_none rfl) (by kernel_rfl) (by kernel_rfl) (by kernel_rfl) (by kernel_rfl) (Sns.cons (Sn.enc (c := cdI) (v := x0)) (Sns.cons Sn.e0 (Sns.cons (Sn.enc (c := (cdL 1 (cdL 1 (cdL 1 cdI)))) (v := x1)) Sns.nil))) (.inl (by kernel_rfl)) hv7 ?_
  refine RunL.segF (n := 165) e_law09_moves_ok 5 [(0, .v (.int .i64 x0)), (1, .sl 1 (x1.map (cdL 1 (cdL 1 cdI)).enc)), (2, .sl 1 (x2.map (cdL 1 (cdL 1 cdI)).enc)), (3, .sl 1 (x3.map cdI.enc)), (9, .sl 1 (v1.map (cdL 1 (cdL 1 cdI)).enc)), (10, .sl 1 (v2.map (cdL 1 (cdL 1 cdI)).enc)), (11, e4), (13, .v (.int .i64 v7.2))] hp5 (by kernel_rfl) ?_
  refine RunL.done rfl (SemY.fr (l' := [(0, .v (.int .i64 x0)), (1, .sl 1 (x1.map (cdL 1 (cdL 1 cdI)).enc)), (2, .sl 1 (x2.map (cdL 1 (cdL 1 cdI)).enc)), (3, .sl 1 (x3.map cdI.enc)), (9, .sl 1 (v1.map (cdL 1 (cdL 1 cdI)).enc)), (10, .sl 1 (v2.map (cdL 1 (cdL 1 cdI)).enc)), (11, e4), (13, .v (.int .i64 v7.2))]) (by kernel_rfl) ?_)
  refine SemY.seq ?_
  refine SemY.regionL ?_
  refine RunL.segF (n := 165) e_law09_moves_ok 2 [(0, .v (.int .i64 x0)), (1, .sl 1 (x1.map (cdL 1 (cdL 1 cdI)).enc)), (2, .sl 1 (x2.map (cdL 1 (cdL 1 cdI)).enc)), (3, .sl 1 (x3.map cdI.enc)), (9, .sl 1 (v1.map (cdL 1 (cdL 1 cdI)).enc)), (10, .sl 1 (v2.map (cdL 1 (cdL 1 cdI)).enc)), (11, e4), (13, .v (.int .i64 v7.2)), (45, .v (.int .i64 x0)), (46, .sl 1 (x2.map (cdL 1 (cdL 1 cdI)).enc))] hp5 (by kernel_rfl) ?_
  obtain ⟨v8, hv8, h⟩ := Option.bind_eq_some_iff.1 h
  refine RunL.call e_law09_moves_ok (fid := 48) (b := v8) (s := cs_ref09_Check) (F := fun a => ref09_Check a.1 a.2.1 a.2.2.1) (er := er_ref09_Check) (xs := [.v (.int .i64 x0), .e0, .sl 1 (x2.map (cdL 1 (cdL 1 cdI)).enc)]) (a := (x0, [], x2, ())) rfl (wantedA_none rfl) (by kernel_rfl) (by kernel_rfl) (by kernel_rfl) (by kernel_rfl) (Sns.cons (Sn.enc (c := cdI) (v := x0)) (Sns.cons Sn.e0 (Sns.cons (Sn.enc (c := (cdL 1 (cdL 1 (cdL 1 cdI)))) (v := x2)) Sns.nil))) (.inl (by kernel_rfl)) hv8 ?_
  refine RunL.segF (n := 165) e_law09_moves_ok 5 [(0, .v (.int .i64 x0)), (1, .sl 1 (x1.map (cdL 1 (cdL 1 cdI)).enc)), (2, .sl 1 (x2.map (cdL 1 (cdL 1 cdI)).enc)), (3, .sl 1 (x3.map cdI.enc)), (9, .sl 1 (v1.map (cdL 1 (cdL 1 cdI)).enc)), (10, .sl 1 (v2.map (cdL 1 (cdL 1 cdI)).enc)), (11, e4), (13, .v (.int .i64 v7.2)), (15, .v (.int .i64 v8.2))] hp5 (by kernel_rfl) ?_
  refine RunL.done rfl (SemY.fr (l' := [(0, .v (.int .i64 x0)), (1, .sl 1 (x1.map (cdL 1 (cdL 1 cdI)).enc)), (2, .sl 1 (x2.map (cdL 1 (cdL 1 cdI)).enc)), (3, .sl 1 (x3.map cdI.enc)), (9, .sl 1 (v1.map (cdL 1 (cdL 1 cdI)).enc)), (10, .sl 1 (v2.map (cdL 1 (cdL 1 cdI)).enc)), (11, e4), (13, .v (.int .i64 v7.2)), (15, .v (.int .i64 v8.2))]) (by kernel_rfl) ?_)
  refine SemY.seq ?_
  refine SemY.regionL ?_
  refine RunL.segF (n := 165) e_law09_moves_ok 3 [(0, .v (.int .i64 x0)), (1, .sl 1 (x1.map (cdL 1 (cdL 1 cdI)).enc)), (2, .sl 1 (x2.map (cdL 1 (cdL 1 cdI)).enc)), (3, .sl 1 (x3.map cdI.enc)), (9, .sl 1 (v1.map (cdL 1 (cdL 1 cdI)).enc)), (10, .sl 1 (v2.map (cdL 1 (cdL 1 cdI)).enc)), (11, e4), (13, .v (.int .i64 v7.2)), (15, .v (.int .i64 v8.2)), (51, .v (.int .i64 x0)), (52, .sl 1 (v1.map (cdL 1 (cdL 1 cdI)).enc)), (53, e4)] hp5 (by kernel_rfl) ?_
  obtain ⟨hp9, hw10, hT110⟩ := WkY.frzT (E := e_law09_moves) (n := 165) (l := [(0, .v (.int .i64 x0)), (1, .sl 1 (x1.map (cdL 1 (cdL 1 cdI)).enc)), (2, .sl 1 (x2.map (cdL 1 (cdL 1 cdI)).enc)), (3, .sl 1 (x3.map cdI.enc)), (9, .sl 1 (v1.map (cdL 1 (cdL 1 cdI)).enc)), (10, .sl 1 (v2.map (cdL 1 (cdL 1 cdI)).enc)), (11, e4), (13, .v (.int .i64 v7.2)), (15, .v (.int .i64 v8.2)), (51, .v (.int .i64 x0)), (52, .sl 1 (v1.map (cdL 1 (cdL 1 cdI)).enc)), (53, e4)]) (l' := [(0, .v (.int .i64 x0)), (1, .sl 1 (x1.map (cdL 1 (cdL 1 cdI)).enc)), (2, .sl 1 (x2.map (cdL 1 (cdL 1 cdI)).enc)), (3, .sl 1 (x3.map cdI.enc)), (9, .sl 1 (v1.map (cdL 1 (cdL 1 cdI)).enc)), (10, .sl 1 (v2.map (cdL 1 (cdL 1 cdI)).enc)), (11, .sl 1 (x3.map cdI.enc)), (13, .v (.int .i64 v7.2)), (15, .v (.int .i64 v8.2)), (51, .v (.int .i64 x0)), (52, .sl 1 (v1.map (cdL 1 (cdL 1 cdI)).enc)), (53, .sl 1 (x3.map cdI.enc))]) hT6 (LkT.at_ ⟨.inl (by kernel_rfl), .inl (by kernel_rfl), .inl (by kernel_rfl), .inl (by kernel_rfl), .inl (by kernel_rfl), .inl (by kernel_rfl), .inr ⟨(by kernel_rfl), rfl⟩, .inl (by kernel_rfl), .inl (by kernel_rfl), .inl (by kernel_rfl), .inl (by kernel_rfl), .inr ⟨(by kernel_rfl), rfl⟩, trivial⟩)
  have hT11 : T hp9 (L) := hT110
  refine RunL.wk (WkY.trans WkY.f1 hw10) ?_
  obtain ⟨v12, hv12, h⟩ := Option.bind_eq_some_iff.1 h
  refine RunL.inlT (E := e_law09_moves) (e := e_evening_Relabel_d) rfl rfl e_evening_Relabel_d_ok rfl rfl (fid := 29) (caps := []) (xs := [.v (.int .i64 x0), .sl 1 (v1.map (cdL 1 (cdL 1 cdI)).enc), .sl 1 (x3.map cdI.enc)]) (fn := Tryd.f29) (c := cb_evening_Relabel_d) (Out := fun v h' => ∃ (z0 : AV), v = .tp [z0, .v (.int .i64 v12.1)] ∧ T h' ((own_ (ocL 1 50 (ocL 1 31 (ocL 1 3 (ocV cdI)))) z0 v12.2) :: L)) rfl (wantedA_none rfl) (by kernel_rfl) (by kernel_rfl) (by kernel_rfl) (by kernel_rfl) (by show 3 ≤ 71; decide) (evening_Relabel_d_sem x0 v1 x3 _ hv12 hT11) ?_
  rintro xx hp14 ⟨e13, hqhp14, hT150⟩; subst xx
  have hT15 : T hp14 ((own_ (ocL 1 50 (ocL 1 31 (ocL 1 3 (ocV cdI)))) e13 v12.2) :: L) := hT150
  refine RunL.segF (n := 165) e_law09_moves_ok 5 [(0, .v (.int .i64 x0)), (1, .sl 1 (x1.map (cdL 1 (cdL 1 cdI)).enc)), (2, .sl 1 (x2.map (cdL 1 (cdL 1 cdI)).enc)), (3, .sl 1 (x3.map cdI.enc)), (9, .sl 1 (v1.map (cdL 1 (cdL 1 cdI)).enc)), (10, .sl 1 (v2.map (cdL 1 (cdL 1 cdI)).enc)), (11, .sl 1 (x3.map cdI.enc)), (13, .v (.int .i64 v7.2)), (15, .v (.int .i64 v8.2)), (16, e13), (17, .v (.int .i64 v12.1))] hp14 (by kernel_rfl) ?_
  refine RunL.done rfl (SemY.fr (l' := [(0, .v (.int .i64 x0)), (1, .sl 1 (x1.map (cdL 1 (cdL 1 cdI)).enc)), (2, .sl 1 (x2.map (cdL 1 (cdL 1 cdI)).enc)), (3, .sl 1 (x3.map cdI.enc)), (9, .sl 1 (v1.map (cdL 1 (cdL 1 cdI)).enc)), (10, .sl 1 (v2.map (cdL 1 (cdL 1 cdI)).enc)), (11, .sl 1 (x3.map cdI.enc)), (13, .v (.int .i64 v7.2)), (15, .v (.int .i64 v8.2)), (16, e13), (17, .v (.int .i64 v12.1))]) (by kernel_rfl) ?_)
  refine SemY.seq ?_
  refine SemY.regionL ?_
  refine RunL.segF (n := 165) e_law09_moves_ok 3 [(0, .v (.int .i64 x0)), (1, .sl 1 (x1.map (cdL 1 (cdL 1 cdI)).enc)), (2, .sl 1 (x2.map (cdL 1 (cdL 1 cdI)).enc)), (3, .sl 1 (x3.map cdI.enc)), (9, .sl 1 (v1.map (cdL 1 (cdL 1 cdI)).enc)), (10, .sl 1 (v2.map (cdL 1 (cdL 1 cdI)).enc)), (11, .sl 1 (x3.map cdI.enc)), (13, .v (.int .i64 v7.2)), (15, .v (.int .i64 v8.2)), (16, e13), (17, .v (.int .i64 v12.1)), (58, .v (.int .i64 x0)), (59, .sl 1 (v1.map (cdL 1 (cdL 1 cdI)).enc)), (60, .sl 1 (v2.map (cdL 1 (cdL 1 cdI)).enc))] hp14 (by kernel_rfl) ?_
  obtain ⟨v16, hv16, h⟩ := Option.bind_eq_some_iff.1 h
  refine RunL.inlT (E := e_law09_moves) (e := e_evening_Join_d) rfl rfl e_evening_Join_d_ok rfl rfl (fid := 30) (caps := []) (xs := [.v (.int .i64 x0), .sl 1 (v1.map (cdL 1 (cdL 1 cdI)).enc), .sl 1 (v2.map (cdL 1 (cdL 1 cdI)).enc)]) (fn := Tryd.f30) (c := cb_evening_Join_d) (Out := fun v h' => ∃ (z0 : AV), v = .tp [z0, .v (.int .i64 v16.1)] ∧ T h' ((own_ (ocL 1 50 (ocL 1 31 (ocL 1 3 (ocV cdI)))) z0 v16.2) :: (own_ (ocL 1 50 (ocL 1 31 (ocL 1 3 (ocV cdI)))) e13 v12.2) :: L)) rfl (wantedA_none rfl) (by kernel_rfl) (by kernel_rfl) (by kernel_rfl) (by kernel_rfl) (by show 3 ≤ 41; decide) (evening_Join_d_sem x0 v1 v2 _ hv16 hT15) ?_
  rintro xx hp18 ⟨e17, hqhp18, hT190⟩; subst xx
  have hT19 : T hp18 ((own_ (ocL 1 50 (ocL 1 31 (ocL 1 3 (ocV cdI)))) e17 v16.2) :: (own_ (ocL 1 50 (ocL 1 31 (ocL 1 3 (ocV cdI)))) e13 v12.2) :: L) := hT190
  refine RunL.segF (n := 165) e_law09_moves_ok 5 [(0, .v (.int .i64 x0)), (1, .sl 1 (x1.map (cdL 1 (cdL 1 cdI)).enc)), (2, .sl 1 (x2.map (cdL 1 (cdL 1 cdI)).enc)), (3, .sl 1 (x3.map cdI.enc)), (9, .sl 1 (v1.map (cdL 1 (cdL 1 cdI)).enc)), (10, .sl 1 (v2.map (cdL 1 (cdL 1 cdI)).enc)), (11, .sl 1 (x3.map cdI.enc)), (13, .v (.int .i64 v7.2)), (15, .v (.int .i64 v8.2)), (16, e13), (17, .v (.int .i64 v12.1)), (18, e17), (19, .v (.int .i64 v16.1))] hp18 (by kernel_rfl) ?_
  refine RunL.done rfl (SemY.fr (l' := [(0, .v (.int .i64 x0)), (1, .sl 1 (x1.map (cdL 1 (cdL 1 cdI)).enc)), (2, .sl 1 (x2.map (cdL 1 (cdL 1 cdI)).enc)), (3, .sl 1 (x3.map cdI.enc)), (9, .sl 1 (v1.map (cdL 1 (cdL 1 cdI)).enc)), (10, .sl 1 (v2.map (cdL 1 (cdL 1 cdI)).enc)), (11, .sl 1 (x3.map cdI.enc)), (13, .v (.int .i64 v7.2)), (15, .v (.int .i64 v8.2)), (16, e13), (17, .v (.int .i64 v12.1)), (18, e17), (19, .v (.int .i64 v16.1))]) (by kernel_rfl) ?_)
  refine SemY.seq ?_
  refine SemY.regionL ?_
  refine RunL.segF (n := 165) e_law09_moves_ok 2 [(0, .v (.int .i64 x0)), (1, .sl 1 (x1.map (cdL 1 (cdL 1 cdI)).enc)), (2, .sl 1 (x2.map (cdL 1 (cdL 1 cdI)).enc)), (3, .sl 1 (x3.map cdI.enc)), (9, .sl 1 (v1.map (cdL 1 (cdL 1 cdI)).enc)), (10, .sl 1 (v2.map (cdL 1 (cdL 1 cdI)).enc)), (11, .sl 1 (x3.map cdI.enc)), (13, .v (.int .i64 v7.2)), (15, .v (.int .i64 v8.2)), (16, e13), (17, .v (.int .i64 v12.1)), (18, e17), (19, .v (.int .i64 v16.1)), (64, .v (.int .i64 x0)), (65, .sl 1 (v1.map (cdL 1 (cdL 1 cdI)).enc))] hp18 (by kernel_rfl) ?_
  obtain ⟨v20, hv20, h⟩ := Option.bind_eq_some_iff.1 h
  refine RunL.call e_law09_moves_ok (fid := 39) (b := v20) (s := cs_evening_Hosts) (F := fun a => evening_Hosts a.1 a.2.1) (er := er_evening_Hosts) (xs := [.v (.int .i64 x0), .sl 1 (v1.map (cdL 1 (cdL 1 cdI)).enc)]) (a := (x0, v1, ())) rfl (wantedA_none rfl) (by kernel_rfl) (by kernel_rfl) (by kernel_rfl) (by kernel_rfl) (Sns.cons (Sn.enc (c := cdI) (v := x0)) (Sns.cons (Sn.enc (c := (cdL 1 (cdL 1 (cdL 1 cdI)))) (v := v1)) Sns.nil)) (.inl (by kernel_rfl)) hv20 ?_
  refine RunL.segF (n := 165) e_law09_moves_ok 1 [(0, .v (.int .i64 x0)), (1, .sl 1 (x1.map (cdL 1 (cdL 1 cdI)).enc)), (2, .sl 1 (x2.map (cdL 1 (cdL 1 cdI)).enc)), (3, .sl 1 (x3.map cdI.enc)), (9, .sl 1 (v1.map (cdL 1 (cdL 1 cdI)).enc)), (10, .sl 1 (v2.map (cdL 1 (cdL 1 cdI)).enc)), (11, .sl 1 (x3.map cdI.enc)), (13, .v (.int .i64 v7.2)), (15, .v (.int .i64 v8.2)), (16, e13), (17, .v (.int .i64 v12.1)), (18, e17), (19, .v (.int .i64 v16.1)), (20, .sl 1 (v20.map (cdL 1 cdI).enc))] hp18 (by kernel_rfl) ?_
  refine RunL.done rfl (SemY.fr (l' := [(0, .v (.int .i64 x0)), (1, .sl 1 (x1.map (cdL 1 (cdL 1 cdI)).enc)), (2, .sl 1 (x2.map (cdL 1 (cdL 1 cdI)).enc)), (3, .sl 1 (x3.map cdI.enc)), (9, .sl 1 (v1.map (cdL 1 (cdL 1 cdI)).enc)), (10, .sl 1 (v2.map (cdL 1 (cdL 1 cdI)).enc)), (11, .sl 1 (x3.map cdI.enc)), (13, .v (.int .i64 v7.2)), (15, .v (.int .i64 v8.2)), (16, e13), (17, .v (.int .i64 v12.1)), (18, e17), (19, .v (.int .i64 v16.1)), (20, .sl 1 (v20.map (cdL 1 cdI).enc))]) (by kernel_rfl) ?_)
  refine SemY.seq ?_
  refine SemY.regionL ?_
  refine RunL.segF (n := 165) e_law09_moves_ok 2 [(0, .v (.int .i64 x0)), (1, .sl 1 (x1.map (cdL 1 (cdL 1 cdI)).enc)), (2, .sl 1 (x2.map (cdL 1 (cdL 1 cdI)).enc)), (3, .sl 1 (x3.map cdI.enc)), (9, .sl 1 (v1.map (cdL 1 (cdL 1 cdI)).enc)), (10, .sl 1 (v2.map (cdL 1 (cdL 1 cdI)).enc)), (11, .sl 1 (x3.map cdI.enc)), (13, .v (.int .i64 v7.2)), (15, .v (.int .i64 v8.2)), (16, e13), (17, .v (.int .i64 v12.1)), (18, e17), (19, .v (.int .i64 v16.1)), (20, .sl 1 (v20.map (cdL 1 cdI).enc)), (21, .e0), (22, .e0)] hp18 (by kernel_rfl) ?_
  refine RunL.done rfl (SemY.fr (l' := [(0, .v (.int .i64 x0)), (1, .sl 1 (x1.map (cdL 1 (cdL 1 cdI)).enc)), (2, .sl 1 (x2.map (cdL 1 (cdL 1 cdI)).enc)), (3, .sl 1 (x3.map cdI.enc)), (9, .sl 1 (v1.map (cdL 1 (cdL 1 cdI)).enc)), (10, .sl 1 (v2.map (cdL 1 (cdL 1 cdI)).enc)), (11, .sl 1 (x3.map cdI.enc)), (13, .v (.int .i64 v7.2)), (15, .v (.int .i64 v8.2)), (16, e13), (17, .v (.int .i64 v12.1)), (18, e17), (19, .v (.int .i64 v16.1)), (20, .sl 1 (v20.map (cdL 1 cdI).enc)), (21, .e0), (22, .e0)]) (by kernel_rfl) ?_)
  refine SemY.seq ?_
  refine SemY.regionL ?_
  refine RunL.segF (n := 165) e_law09_moves_ok 1 [(0, .v (.int .i64 x0)), (1, .sl 1 (x1.map (cdL 1 (cdL 1 cdI)).enc)), (2, .sl 1 (x2.map (cdL 1 (cdL 1 cdI)).enc)), (3, .sl 1 (x3.map cdI.enc)), (9, .sl 1 (v1.map (cdL 1 (cdL 1 cdI)).enc)), (10, .sl 1 (v2.map (cdL 1 (cdL 1 cdI)).enc)), (11, .sl 1 (x3.map cdI.enc)), (13, .v (.int .i64 v7.2)), (15, .v (.int .i64 v8.2)), (16, e13), (17, .v (.int .i64 v12.1)), (18, e17), (19, .v (.int .i64 v16.1)), (20, .sl 1 (v20.map (cdL 1 cdI).enc)), (21, .e0), (22, .e0), (23, .e0)] hp18 (by kernel_rfl) ?_
  refine RunL.done rfl (SemY.fr (l' := [(0, .v (.int .i64 x0)), (1, .sl 1 (x1.map (cdL 1 (cdL 1 cdI)).enc)), (2, .sl 1 (x2.map (cdL 1 (cdL 1 cdI)).enc)), (3, .sl 1 (x3.map cdI.enc)), (9, .sl 1 (v1.map (cdL 1 (cdL 1 cdI)).enc)), (10, .sl 1 (v2.map (cdL 1 (cdL 1 cdI)).enc)), (11, .sl 1 (x3.map cdI.enc)), (13, .v (.int .i64 v7.2)), (15, .v (.int .i64 v8.2)), (16, e13), (17, .v (.int .i64 v12.1)), (18, e17), (19, .v (.int .i64 v16.1)), (20, .sl 1 (v20.map (cdL 1 cdI).enc)), (21, .e0), (22, .e0), (23, .e0)]) (by kernel_rfl) ?_)
  refine SemY.seq ?_
  refine SemY.regionL ?_
  refine RunL.segF (n := 165) e_law09_moves_ok 4 [(0, .v (.int .i64 x0)), (1, .sl 1 (x1.map (cdL 1 (cdL 1 cdI)).enc)), (2, .sl 1 (x2.map (cdL 1 (cdL 1 cdI)).enc)), (3, .sl 1 (x3.map cdI.enc)), (9, .sl 1 (v1.map (cdL 1 (cdL 1 cdI)).enc)), (10, .sl 1 (v2.map (cdL 1 (cdL 1 cdI)).enc)), (11, .sl 1 (x3.map cdI.enc)), (13, .v (.int .i64 v7.2)), (15, .v (.int .i64 v8.2)), (16, e13), (17, .v (.int .i64 v12.1)), (18, e17), (19, .v (.int .i64 v16.1)), (20, .sl 1 (v20.map (cdL 1 cdI).enc)), (21, .e0), (22, .e0), (23, .e0), (24, .v (.int .i64 v7.2)), (25, .v (.int .i64 v7.2))] hp18 (by kernel_rfl) ?_
  refine RunL.done rfl (SemY.fr (l' := [(0, .v (.int .i64 x0)), (1, .sl 1 (x1.map (cdL 1 (cdL 1 cdI)).enc)), (2, .sl 1 (x2.map (cdL 1 (cdL 1 cdI)).enc)), (3, .sl 1 (x3.map cdI.enc)), (9, .sl 1 (v1.map (cdL 1 (cdL 1 cdI)).enc)), (10, .sl 1 (v2.map (cdL 1 (cdL 1 cdI)).enc)), (11, .sl 1 (x3.map cdI.enc)), (13, .v (.int .i64 v7.2)), (15, .v (.int .i64 v8.2)), (16, e13), (17, .v (.int .i64 v12.1)), (18, e17), (19, .v (.int .i64 v16.1)), (20, .sl 1 (v20.map (cdL 1 cdI).enc)), (21, .e0), (22, .e0), (23, .e0), (24, .v (.int .i64 v7.2)), (25, .v (.int .i64 v7.2))]) (by kernel_rfl) ?_)
  refine SemY.seq ?_
  refine SemY.seq ?_
  refine SemY.regionL ?_
  refine RunL.segF (n := 165) e_law09_moves_ok 2 [(0, .v (.int .i64 x0)), (1, .sl 1 (x1.map (cdL 1 (cdL 1 cdI)).enc)), (2, .sl 1 (x2.map (cdL 1 (cdL 1 cdI)).enc)), (3, .sl 1 (x3.map cdI.enc)), (9, .sl 1 (v1.map (cdL 1 (cdL 1 cdI)).enc)), (10, .sl 1 (v2.map (cdL 1 (cdL 1 cdI)).enc)), (11, .sl 1 (x3.map cdI.enc)), (15, .v (.int .i64 v8.2)), (16, e13), (17, .v (.int .i64 v12.1)), (18, e17), (19, .v (.int .i64 v16.1)), (20, .sl 1 (v20.map (cdL 1 cdI).enc)), (21, .e0), (22, .e0), (23, .e0), (24, .v (.int .i64 v7.2)), (25, .v (.int .i64 v7.2)), (70, .v (.bool (v7.2 == 0)))] hp18 (by kernel_rfl) ?_
  refine RunL.done rfl (SemY.fr (l' := [(0, .v (.int .i64 x0)), (1, .sl 1 (x1.map (cdL 1 (cdL 1 cdI)).enc)), (2, .sl 1 (x2.map (cdL 1 (cdL 1 cdI)).enc)), (3, .sl 1 (x3.map cdI.enc)), (9, .sl 1 (v1.map (cdL 1 (cdL 1 cdI)).enc)), (10, .sl 1 (v2.map (cdL 1 (cdL 1 cdI)).enc)), (11, .sl 1 (x3.map cdI.enc)), (15, .v (.int .i64 v8.2)), (16, e13), (17, .v (.int .i64 v12.1)), (18, e17), (19, .v (.int .i64 v16.1)), (20, .sl 1 (v20.map (cdL 1 cdI).enc)), (21, .e0), (22, .e0), (23, .e0), (24, .v (.int .i64 v7.2)), (25, .v (.int .i64 v7.2)), (70, .v (.bool (v7.2 == 0)))]) (by kernel_rfl) ?_)
  obtain ⟨r139, hr139, h⟩ := Option.bind_eq_some_iff.1 h
  refine SemY.cutT (law09_moves_j1_ok x0 x1 x2 x3 v7 v8 v1 v2 v12 e13 v16 e17 v20 _ hr139 hT19) ?_
  rintro _ ⟨e140, e141, hp142, hT143, rfl⟩
  refine SemY.seq ?_
  refine SemY.seq ?_
  obtain ⟨v144, hv144, h⟩ := Option.bind_eq_some_iff.1 h
  obtain ⟨j147, hj147, h⟩ := Option.bind_eq_some_iff.1 h
  refine SemY.regT (A := fun s1 => ∃ (h' : Hp), T h' ((own_ (ocL 1 50 (ocL 1 31 (ocL 1 3 (ocV cdI)))) e13 v12.2) :: (own_ (ocL 1 50 (ocL 1 31 (ocL 1 3 (ocV cdI)))) e17 v16.2) :: L) ∧ s1 = ⟨Fr 165 [(1, .sl 1 (x1.map (cdL 1 (cdL 1 cdI)).enc)), (2, .sl 1 (x2.map (cdL 1 (cdL 1 cdI)).enc)), (3, .sl 1 (x3.map cdI.enc)), (9, .sl 1 (v1.map (cdL 1 (cdL 1 cdI)).enc)), (10, .sl 1 (v2.map (cdL 1 (cdL 1 cdI)).enc)), (11, .sl 1 (x3.map cdI.enc)), (16, e13), (18, e17), (147, .v (.bool j147))], h'⟩) ?_ ?_
  · refine RunL.segF (n := 165) e_law09_moves_ok 2 [(1, .sl 1 (x1.map (cdL 1 (cdL 1 cdI)).enc)), (2, .sl 1 (x2.map (cdL 1 (cdL 1 cdI)).enc)), (3, .sl 1 (x3.map cdI.enc)), (9, .sl 1 (v1.map (cdL 1 (cdL 1 cdI)).enc)), (10, .sl 1 (v2.map (cdL 1 (cdL 1 cdI)).enc)), (11, .sl 1 (x3.map cdI.enc)), (16, e13), (17, .v (.int .i64 v12.1)), (18, e17), (19, .v (.int .i64 v16.1)), (20, .sl 1 (v20.map (cdL 1 cdI).enc)), (22, e141), (23, .sl 1 (r139.1.map (cdL 1 cdI).enc)), (24, .v (.int .i64 r139.2.1)), (25, .v (.int .i64 r139.2.2.1)), (122, e13), (123, e140)] hp142 (by kernel_rfl) ?_
    refine RunL.callD e_law09_moves_ok (fid := 18) (b := v144) (s := cs_law09_Same) (F := fun a => law09_Same a.1 a.2.1) (er := er_law09_Same) (xs := [e13, e140]) (a := (v12.2, r139.2.2.2.1, ())) rfl (wantedA_none rfl) (by kernel_rfl) (by kernel_rfl) (by kernel_rfl) (SeesD.cons (SeeD.own hT143 (i := 0) rfl) (SeesD.cons (SeeD.own hT143 (i := 2) rfl) SeesD.nil)) (by kernel_rfl) hv144 ?_
    refine RunL.segF (n := 165) e_law09_moves_ok 2 [(1, .sl 1 (x1.map (cdL 1 (cdL 1 cdI)).enc)), (2, .sl 1 (x2.map (cdL 1 (cdL 1 cdI)).enc)), (3, .sl 1 (x3.map cdI.enc)), (9, .sl 1 (v1.map (cdL 1 (cdL 1 cdI)).enc)), (10, .sl 1 (v2.map (cdL 1 (cdL 1 cdI)).enc)), (11, .sl 1 (x3.map cdI.enc)), (16, e13), (17, .v (.int .i64 v12.1)), (18, e17), (19, .v (.int .i64 v16.1)), (20, .sl 1 (v20.map (cdL 1 cdI).enc)), (22, e141), (23, .sl 1 (r139.1.map (cdL 1 cdI).enc)), (24, .v (.int .i64 r139.2.1)), (25, .v (.int .i64 r139.2.2.1)), (126, .v (.bool (!v144)))] hp142 (by kernel_rfl) ?_
    rcases Bool.eq_false_or_eq_true (!v144) with hc186 | hc186
    · rw [if_pos hc186] at hj147
      rw [hc186]
      refine RunL.segF (n := 165) e_law09_moves_ok 21 [(1, .sl 1 (x1.map (cdL 1 (cdL 1 cdI)).enc)), (2, .sl 1 (x2.map (cdL 1 (cdL 1 cdI)).enc)), (3, .sl 1 (x3.map cdI.enc)), (9, .sl 1 (v1.map (cdL 1 (cdL 1 cdI)).enc)), (10, .sl 1 (v2.map (cdL 1 (cdL 1 cdI)).enc)), (11, .sl 1 (x3.map cdI.enc)), (16, e13), (18, e17), (147, .v (.bool true))] hp142 (by kernel_rfl) ?_
      have hq := Option.some.inj hj147; subst hq
      have hT159 : T hp142 ((own_ (ocL 1 50 (ocL 1 31 (ocL 1 3 (ocV cdI)))) e13 v12.2) :: (own_ (ocL 1 50 (ocL 1 31 (ocL 1 3 (ocV cdI)))) e17 v16.2) :: L) := ((hT143.front 2 rfl).drop.front 2 rfl).drop
      exact RunL.done rfl ⟨_, ⟨hp142, hT159, rfl⟩, WkY.f1⟩
    · rw [if_f hc186] at hj147
      rw [hc186]
      refine RunL.segF (n := 165) e_law09_moves_ok 2 [(1, .sl 1 (x1.map (cdL 1 (cdL 1 cdI)).enc)), (2, .sl 1 (x2.map (cdL 1 (cdL 1 cdI)).enc)), (3, .sl 1 (x3.map cdI.enc)), (9, .sl 1 (v1.map (cdL 1 (cdL 1 cdI)).enc)), (10, .sl 1 (v2.map (cdL 1 (cdL 1 cdI)).enc)), (11, .sl 1 (x3.map cdI.enc)), (16, e13), (17, .v (.int .i64 v12.1)), (18, e17), (19, .v (.int .i64 v16.1)), (20, .sl 1 (v20.map (cdL 1 cdI).enc)), (23, .sl 1 (r139.1.map (cdL 1 cdI).enc)), (24, .v (.int .i64 r139.2.1)), (25, .v (.int .i64 r139.2.2.1)), (126, .v (.bool false)), (127, e17), (128, e141)] hp142 (by kernel_rfl) ?_
      obtain ⟨v145, hv145, hj147⟩ := Option.bind_eq_some_iff.1 hj147
      refine RunL.callD e_law09_moves_ok (fid := 18) (b := v145) (s := cs_law09_Same) (F := fun a => law09_Same a.1 a.2.1) (er := er_law09_Same) (xs := [e17, e141]) (a := (v16.2, r139.2.2.2.2, ())) rfl (by kernel_rfl) (by kernel_rfl) (by kernel_rfl) (by kernel_rfl) (SeesD.cons (SeeD.own hT143 (i := 1) rfl) (SeesD.cons (SeeD.own hT143 (i := 3) rfl) SeesD.nil)) (by kernel_rfl) hv145 ?_
      refine RunL.segF (n := 165) e_law09_moves_ok 3 [(1, .sl 1 (x1.map (cdL 1 (cdL 1 cdI)).enc)), (2, .sl 1 (x2.map (cdL 1 (cdL 1 cdI)).enc)), (3, .sl 1 (x3.map cdI.enc)), (9, .sl 1 (v1.map (cdL 1 (cdL 1 cdI)).enc)), (10, .sl 1 (v2.map (cdL 1 (cdL 1 cdI)).enc)), (11, .sl 1 (x3.map cdI.enc)), (16, e13), (17, .v (.int .i64 v12.1)), (18, e17), (19, .v (.int .i64 v16.1)), (20, .sl 1 (v20.map (cdL 1 cdI).enc)), (23, .sl 1 (r139.1.map (cdL 1 cdI).enc)), (24, .v (.int .i64 r139.2.1)), (25, .v (.int .i64 r139.2.2.1)), (132, .v (.bool (!v145)))] hp142 (by kernel_rfl) ?_
      rcases Bool.eq_false_or_eq_true (!v145) with hc187 | hc187
      · rw [if_pos hc187] at hj147
        rw [hc187]
        refine RunL.segF (n := 165) e_law09_moves_ok 15 [(1, .sl 1 (x1.map (cdL 1 (cdL 1 cdI)).enc)), (2, .sl 1 (x2.map (cdL 1 (cdL 1 cdI)).enc)), (3, .sl 1 (x3.map cdI.enc)), (9, .sl 1 (v1.map (cdL 1 (cdL 1 cdI)).enc)), (10, .sl 1 (v2.map (cdL 1 (cdL 1 cdI)).enc)), (11, .sl 1 (x3.map cdI.enc)), (16, e13), (18, e17), (147, .v (.bool true))] hp142 (by kernel_rfl) ?_
        have hq := Option.some.inj hj147; subst hq
        have hT160 : T hp142 ((own_ (ocL 1 50 (ocL 1 31 (ocL 1 3 (ocV cdI)))) e13 v12.2) :: (own_ (ocL 1 50 (ocL 1 31 (ocL 1 3 (ocV cdI)))) e17 v16.2) :: L) := ((hT143.front 2 rfl).drop.front 2 rfl).drop
        exact RunL.done rfl ⟨_, ⟨hp142, hT160, rfl⟩, WkY.f1⟩
      · rw [if_f hc187] at hj147
        rw [hc187]
        refine RunL.segF (n := 165) e_law09_moves_ok 2 [(1, .sl 1 (x1.map (cdL 1 (cdL 1 cdI)).enc)), (2, .sl 1 (x2.map (cdL 1 (cdL 1 cdI)).enc)), (3, .sl 1 (x3.map cdI.enc)), (9, .sl 1 (v1.map (cdL 1 (cdL 1 cdI)).enc)), (10, .sl 1 (v2.map (cdL 1 (cdL 1 cdI)).enc)), (11, .sl 1 (x3.map cdI.enc)), (16, e13), (17, .v (.int .i64 v12.1)), (18, e17), (19, .v (.int .i64 v16.1)), (24, .v (.int .i64 r139.2.1)), (25, .v (.int .i64 r139.2.2.1)), (132, .v (.bool false)), (133, .sl 1 (v20.map (cdL 1 cdI).enc)), (134, .sl 1 (r139.1.map (cdL 1 cdI).enc))] hp142 (by kernel_rfl) ?_
        obtain ⟨v146, hv146, hj147⟩ := Option.bind_eq_some_iff.1 hj147
        refine RunL.call e_law09_moves_ok (fid := 56) (b := v146) (s := cs_kit_SameLists) (F := fun a => kit_SameLists a.1 a.2.1) (er := er_kit_SameLists) (xs := [.sl 1 (v20.map (cdL 1 cdI).enc), .sl 1 (r139.1.map (cdL 1 cdI).enc)]) (a := (v20, r139.1, ())) rfl (by kernel_rfl) (by kernel_rfl) (by kernel_rfl) (by kernel_rfl) (by kernel_rfl) (Sns.cons (Sn.enc (c := (cdL 1 (cdL 1 cdI))) (v := v20)) (Sns.cons (Sn.enc (c := (cdL 1 (cdL 1 cdI))) (v := r139.1)) Sns.nil)) (.inl (by kernel_rfl)) hv146 ?_
        refine RunL.segF (n := 165) e_law09_moves_ok 3 [(1, .sl 1 (x1.map (cdL 1 (cdL 1 cdI)).enc)), (2, .sl 1 (x2.map (cdL 1 (cdL 1 cdI)).enc)), (3, .sl 1 (x3.map cdI.enc)), (9, .sl 1 (v1.map (cdL 1 (cdL 1 cdI)).enc)), (10, .sl 1 (v2.map (cdL 1 (cdL 1 cdI)).enc)), (11, .sl 1 (x3.map cdI.enc)), (16, e13), (17, .v (.int .i64 v12.1)), (18, e17), (19, .v (.int .i64 v16.1)), (24, .v (.int .i64 r139.2.1)), (25, .v (.int .i64 r139.2.2.1)), (138, .v (.bool (!v146)))] hp142 (by kernel_rfl) ?_
        rcases Bool.eq_false_or_eq_true (!v146) with hc188 | hc188
        · rw [if_pos hc188] at hj147
          rw [hc188]
          refine RunL.segF (n := 165) e_law09_moves_ok 9 [(1, .sl 1 (x1.map (cdL 1 (cdL 1 cdI)).enc)), (2, .sl 1 (x2.map (cdL 1 (cdL 1 cdI)).enc)), (3, .sl 1 (x3.map cdI.enc)), (9, .sl 1 (v1.map (cdL 1 (cdL 1 cdI)).enc)), (10, .sl 1 (v2.map (cdL 1 (cdL 1 cdI)).enc)), (11, .sl 1 (x3.map cdI.enc)), (16, e13), (18, e17), (147, .v (.bool true))] hp142 (by kernel_rfl) ?_
          have hq := Option.some.inj hj147; subst hq
          have hT161 : T hp142 ((own_ (ocL 1 50 (ocL 1 31 (ocL 1 3 (ocV cdI)))) e13 v12.2) :: (own_ (ocL 1 50 (ocL 1 31 (ocL 1 3 (ocV cdI)))) e17 v16.2) :: L) := ((hT143.front 2 rfl).drop.front 2 rfl).drop
          exact RunL.done rfl ⟨_, ⟨hp142, hT161, rfl⟩, WkY.f1⟩
        · rw [if_f hc188] at hj147
          rw [hc188]
          refine RunL.segF (n := 165) e_law09_moves_ok 5 [(1, .sl 1 (x1.map (cdL 1 (cdL 1 cdI)).enc)), (2, .sl 1 (x2.map (cdL 1 (cdL 1 cdI)).enc)), (3, .sl 1 (x3.map cdI.enc)), (9, .sl 1 (v1.map (cdL 1 (cdL 1 cdI)).enc)), (10, .sl 1 (v2.map (cdL 1 (cdL 1 cdI)).enc)), (11, .sl 1 (x3.map cdI.enc)), (16, e13), (18, e17), (19, .v (.int .i64 v16.1)), (25, .v (.int .i64 r139.2.2.1)), (143, .v (.bool (v12.1 != r139.2.1)))] hp142 (by kernel_rfl) ?_
          rcases Bool.eq_false_or_eq_true (v12.1 != r139.2.1) with hc189 | hc189
          · rw [if_pos hc189] at hj147
            rw [hc189]
            refine RunL.segF (n := 165) e_law09_moves_ok 4 [(1, .sl 1 (x1.map (cdL 1 (cdL 1 cdI)).enc)), (2, .sl 1 (x2.map (cdL 1 (cdL 1 cdI)).enc)), (3, .sl 1 (x3.map cdI.enc)), (9, .sl 1 (v1.map (cdL 1 (cdL 1 cdI)).enc)), (10, .sl 1 (v2.map (cdL 1 (cdL 1 cdI)).enc)), (11, .sl 1 (x3.map cdI.enc)), (16, e13), (18, e17), (147, .v (.bool true))] hp142 (by kernel_rfl) ?_
            have hq := Option.some.inj hj147; subst hq
            have hT162 : T hp142 ((own_ (ocL 1 50 (ocL 1 31 (ocL 1 3 (ocV cdI)))) e13 v12.2) :: (own_ (ocL 1 50 (ocL 1 31 (ocL 1 3 (ocV cdI)))) e17 v16.2) :: L) := ((hT143.front 2 rfl).drop.front 2 rfl).drop
            exact RunL.done rfl ⟨_, ⟨hp142, hT162, rfl⟩, WkY.f1⟩
          · rw [if_f hc189] at hj147
            rw [hc189]
            refine RunL.segF (n := 165) e_law09_moves_ok 4 [(1, .sl 1 (x1.map (cdL 1 (cdL 1 cdI)).enc)), (2, .sl 1 (x2.map (cdL 1 (cdL 1 cdI)).enc)), (3, .sl 1 (x3.map cdI.enc)), (9, .sl 1 (v1.map (cdL 1 (cdL 1 cdI)).enc)), (10, .sl 1 (v2.map (cdL 1 (cdL 1 cdI)).enc)), (11, .sl 1 (x3.map cdI.enc)), (16, e13), (18, e17), (147, .v (.bool (v16.1 != r139.2.2.1)))] hp142 (by kernel_rfl) ?_
            have hq := Option.some.inj hj147; subst hq
            have hT163 : T hp142 ((own_ (ocL 1 50 (ocL 1 31 (ocL 1 3 (ocV cdI)))) e13 v12.2) :: (own_ (ocL 1 50 (ocL 1 31 (ocL 1 3 (ocV cdI)))) e17 v16.2) :: L) := ((hT143.front 2 rfl).drop.front 2 rfl).drop
            exact RunL.done rfl ⟨_, ⟨hp142, hT163, rfl⟩, WkY.f1⟩
  rintro _ ⟨hp164, hT165, rfl⟩
  refine SemY.cond (b := j147) (by kernel_rfl) (fun hb166 => ?_) (fun hb166 => ?_)
  · rw [if_pos hb166] at h
    refine SemY.seq ?_
    refine SemY.regionL ?_
    refine RunL.segF (n := 165) e_law09_moves_ok 1 [(8, .v (.bool false))] hp164 (by kernel_rfl) ?_
    refine RunL.done rfl (SemY.fr (l' := [(8, .v (.bool false))]) (by kernel_rfl) ?_)
    refine SemY.ret ?_
    have hq := Option.some.inj h; subst hq
    exact ⟨⟨Fr 165 [(8, .v (.bool false))], hp164⟩, WkY.f1, .inr rfl, [.v (.bool false)], (by kernel_rfl), ⟨rfl, hT165.drop.drop⟩⟩
  · rw [if_f hb166] at h
    refine SemY.skip ?_
    refine SemY.seq ?_
    refine SemY.regionL ?_
    refine RunL.segF (n := 165) e_law09_moves_ok 1 [(1, .sl 1 (x1.map (cdL 1 (cdL 1 cdI)).enc)), (2, .sl 1 (x2.map (cdL 1 (cdL 1 cdI)).enc)), (3, .sl 1 (x3.map cdI.enc)), (9, .sl 1 (v1.map (cdL 1 (cdL 1 cdI)).enc)), (10, .sl 1 (v2.map (cdL 1 (cdL 1 cdI)).enc)), (11, .sl 1 (x3.map cdI.enc)), (18, e17), (148, e13)] hp164 (by kernel_rfl) ?_
    obtain ⟨v167, hv167, h⟩ := Option.bind_eq_some_iff.1 h
    refine RunL.inlT (E := e_law09_moves) (e := e_law09_spoil_d) rfl rfl e_law09_spoil_d_ok rfl rfl (fid := 65) (caps := []) (xs := [e13]) (fn := Tryd.f65) (c := cb_law09_spoil_d) (Out := fun v h' => v = .tp [] ∧ T h' ((own_ (ocL 1 50 (ocL 1 31 (ocL 1 3 (ocV cdI)))) e13 v167) :: (own_ (ocL 1 50 (ocL 1 31 (ocL 1 3 (ocV cdI)))) e17 v16.2) :: L)) rfl (wantedA_none rfl) (by kernel_rfl) (by kernel_rfl) (by kernel_rfl) (by kernel_rfl) (by show 1 ≤ 33; decide) (law09_spoil_d_sem e13 v12.2 _ hv167 hT165) ?_
    rintro xx hp168 ⟨hqhp168, hT1690⟩; subst xx
    have hT169 : T hp168 ((own_ (ocL 1 50 (ocL 1 31 (ocL 1 3 (ocV cdI)))) e13 v167) :: (own_ (ocL 1 50 (ocL 1 31 (ocL 1 3 (ocV cdI)))) e17 v16.2) :: L) := hT1690
    refine RunL.done rfl (SemY.fr (l' := [(1, .sl 1 (x1.map (cdL 1 (cdL 1 cdI)).enc)), (2, .sl 1 (x2.map (cdL 1 (cdL 1 cdI)).enc)), (3, .sl 1 (x3.map cdI.enc)), (9, .sl 1 (v1.map (cdL 1 (cdL 1 cdI)).enc)), (10, .sl 1 (v2.map (cdL 1 (cdL 1 cdI)).enc)), (11, .sl 1 (x3.map cdI.enc)), (18, e17)]) (by kernel_rfl) ?_)
    refine SemY.seq ?_
    refine SemY.regionL ?_
    refine RunL.segF (n := 165) e_law09_moves_ok 1 [(1, .sl 1 (x1.map (cdL 1 (cdL 1 cdI)).enc)), (2, .sl 1 (x2.map (cdL 1 (cdL 1 cdI)).enc)), (3, .sl 1 (x3.map cdI.enc)), (9, .sl 1 (v1.map (cdL 1 (cdL 1 cdI)).enc)), (10, .sl 1 (v2.map (cdL 1 (cdL 1 cdI)).enc)), (11, .sl 1 (x3.map cdI.enc)), (150, e17)] hp168 (by kernel_rfl) ?_
    obtain ⟨v171, hv171, h⟩ := Option.bind_eq_some_iff.1 h
    have hT170 : T hp168 ((own_ (ocL 1 50 (ocL 1 31 (ocL 1 3 (ocV cdI)))) e17 v16.2) :: (own_ (ocL 1 50 (ocL 1 31 (ocL 1 3 (ocV cdI)))) e13 v167) :: L) := (hT169.front 1 rfl)
    refine RunL.inlT (E := e_law09_moves) (e := e_law09_spoil_d) rfl rfl e_law09_spoil_d_ok rfl rfl (fid := 65) (caps := []) (xs := [e17]) (fn := Tryd.f65) (c := cb_law09_spoil_d) (Out := fun v h' => v = .tp [] ∧ T h' ((own_ (ocL 1 50 (ocL 1 31 (ocL 1 3 (ocV cdI)))) e17 v171) :: (own_ (ocL 1 50 (ocL 1 31 (ocL 1 3 (ocV cdI)))) e13 v167) :: L)) rfl (wantedA_none rfl) (by kernel_rfl) (by kernel_rfl) (by kernel_rfl) (by kernel_rfl) (by show 1 ≤ 33; decide) (law09_spoil_d_sem e17 v16.2 _ hv171 hT170) ?_
    rintro xx hp172 ⟨hqhp172, hT1730⟩; subst xx
    have hT173 : T hp172 ((own_ (ocL 1 50 (ocL 1 31 (ocL 1 3 (ocV cdI)))) e17 v171) :: (own_ (ocL 1 50 (ocL 1 31 (ocL 1 3 (ocV cdI)))) e13 v167) :: L) := hT1730
    refine RunL.done rfl (SemY.fr (l' := [(1, .sl 1 (x1.map (cdL 1 (cdL 1 cdI)).enc)), (2, .sl 1 (x2.map (cdL 1 (cdL 1 cdI)).enc)), (3, .sl 1 (x3.map cdI.enc)), (9, .sl 1 (v1.map (cdL 1 (cdL 1 cdI)).enc)), (10, .sl 1 (v2.map (cdL 1 (cdL 1 cdI)).enc)), (11, .sl 1 (x3.map cdI.enc))]) (by kernel_rfl) ?_)
    refine SemY.seq ?_
    obtain ⟨v174, hv174, h⟩ := Option.bind_eq_some_iff.1 h
    obtain ⟨j177, hj177, h⟩ := Option.bind_eq_some_iff.1 h
    refine SemY.regT (A := fun s1 => ∃ (h' : Hp), T h' (L) ∧ s1 = ⟨Fr 165 [(8, .v (.bool j177))], h'⟩) ?_ ?_
    · refine RunL.segF (n := 165) e_law09_moves_ok 2 [(2, .sl 1 (x2.map (cdL 1 (cdL 1 cdI)).enc)), (3, .sl 1 (x3.map cdI.enc)), (10, .sl 1 (v2.map (cdL 1 (cdL 1 cdI)).enc)), (11, .sl 1 (x3.map cdI.enc)), (152, .sl 1 (v1.map (cdL 1 (cdL 1 cdI)).enc)), (153, .sl 1 (x1.map (cdL 1 (cdL 1 cdI)).enc))] hp172 (by kernel_rfl) ?_
      refine RunL.call e_law09_moves_ok (fid := 18) (b := v174) (s := cs_law09_Same) (F := fun a => law09_Same a.1 a.2.1) (er := er_law09_Same) (xs := [.sl 1 (v1.map (cdL 1 (cdL 1 cdI)).enc), .sl 1 (x1.map (cdL 1 (cdL 1 cdI)).enc)]) (a := (v1, x1, ())) rfl (wantedA_none rfl) (by kernel_rfl) (by kernel_rfl) (by kernel_rfl) (by kernel_rfl) (Sns.cons (Sn.enc (c := (cdL 1 (cdL 1 (cdL 1 cdI)))) (v := v1)) (Sns.cons (Sn.enc (c := (cdL 1 (cdL 1 (cdL 1 cdI)))) (v := x1)) Sns.nil)) (.inl (by kernel_rfl)) hv174 ?_
      refine RunL.segF (n := 165) e_law09_moves_ok 1 [(2, .sl 1 (x2.map (cdL 1 (cdL 1 cdI)).enc)), (3, .sl 1 (x3.map cdI.enc)), (10, .sl 1 (v2.map (cdL 1 (cdL 1 cdI)).enc)), (11, .sl 1 (x3.map cdI.enc)), (155, .v (.bool v174))] hp172 (by kernel_rfl) ?_
      rcases Bool.eq_false_or_eq_true v174 with hc184 | hc184
      · rw [if_pos hc184] at hj177
        rw [hc184]
        refine RunL.segF (n := 165) e_law09_moves_ok 2 [(3, .sl 1 (x3.map cdI.enc)), (11, .sl 1 (x3.map cdI.enc)), (155, .v (.bool true)), (156, .sl 1 (v2.map (cdL 1 (cdL 1 cdI)).enc)), (157, .sl 1 (x2.map (cdL 1 (cdL 1 cdI)).enc))] hp172 (by kernel_rfl) ?_
        obtain ⟨v175, hv175, hj177⟩ := Option.bind_eq_some_iff.1 hj177
        refine RunL.call e_law09_moves_ok (fid := 18) (b := v175) (s := cs_law09_Same) (F := fun a => law09_Same a.1 a.2.1) (er := er_law09_Same) (xs := [.sl 1 (v2.map (cdL 1 (cdL 1 cdI)).enc), .sl 1 (x2.map (cdL 1 (cdL 1 cdI)).enc)]) (a := (v2, x2, ())) rfl (by kernel_rfl) (by kernel_rfl) (by kernel_rfl) (by kernel_rfl) (by kernel_rfl) (Sns.cons (Sn.enc (c := (cdL 1 (cdL 1 (cdL 1 cdI)))) (v := v2)) (Sns.cons (Sn.enc (c := (cdL 1 (cdL 1 (cdL 1 cdI)))) (v := x2)) Sns.nil)) (.inl (by kernel_rfl)) hv175 ?_
        refine RunL.segF (n := 165) e_law09_moves_ok 2 [(3, .sl 1 (x3.map cdI.enc)), (11, .sl 1 (x3.map cdI.enc)), (160, .v (.bool v175))] hp172 (by kernel_rfl) ?_
        rcases Bool.eq_false_or_eq_true v175 with hc185 | hc185
        · rw [if_pos hc185] at hj177
          rw [hc185]
          refine RunL.segF (n := 165) e_law09_moves_ok 2 [(160, .v (.bool true)), (161, .sl 1 (x3.map cdI.enc)), (162, .sl 1 (x3.map cdI.enc))] hp172 (by kernel_rfl) ?_
          obtain ⟨v176, hv176, hj177⟩ := Option.bind_eq_some_iff.1 hj177
          refine RunL.call e_law09_moves_ok (fid := 23) (b := v176) (s := cs_slices_Equal_L_int) (F := fun a => slices_Equal_L_int a.1 a.2.1) (er := er_slices_Equal_L_int) (xs := [.sl 1 (x3.map cdI.enc), .sl 1 (x3.map cdI.enc)]) (a := (x3, x3, ())) rfl (by kernel_rfl) (by kernel_rfl) (by kernel_rfl) (by kernel_rfl) (by kernel_rfl) (Sns.cons (Sn.enc (c := (cdL 1 cdI)) (v := x3)) (Sns.cons (Sn.enc (c := (cdL 1 cdI)) (v := x3)) Sns.nil)) (.inl (by kernel_rfl)) hv176 ?_
          refine RunL.segF (n := 165) e_law09_moves_ok 2 [(8, .v (.bool v176))] hp172 (by kernel_rfl) ?_
          have hq := Option.some.inj hj177; subst hq
          have hT179 : T hp172 (L) := hT173.drop.drop
          exact RunL.done rfl ⟨_, ⟨hp172, hT179, rfl⟩, WkY.f1⟩
        · rw [if_f hc185] at hj177
          rw [hc185]
          refine RunL.segF (n := 165) e_law09_moves_ok 5 [(8, .v (.bool false))] hp172 (by kernel_rfl) ?_
          have hq := Option.some.inj hj177; subst hq
          have hT180 : T hp172 (L) := hT173.drop.drop
          exact RunL.done rfl ⟨_, ⟨hp172, hT180, rfl⟩, WkY.f1⟩
      · rw [if_f hc184] at hj177
        rw [hc184]
        refine RunL.segF (n := 165) e_law09_moves_ok 10 [(8, .v (.bool false))] hp172 (by kernel_rfl) ?_
        have hq := Option.some.inj hj177; subst hq
        have hT181 : T hp172 (L) := hT173.drop.drop
        exact RunL.done rfl ⟨_, ⟨hp172, hT181, rfl⟩, WkY.f1⟩
    rintro _ ⟨hp182, hT183, rfl⟩
    refine SemY.ret ?_
    have hq := Option.some.inj h; subst hq
    exact ⟨⟨Fr 165 [(8, .v (.bool j177))], hp182⟩, WkY.f1, .inr rfl, [.v (.bool j177)], (by kernel_rfl), ⟨rfl, hT183⟩⟩
def cs_law09_moves : Cs (Int × (List (List (List Int))) × (List (List (List Int))) × (List Int) × Unit) := (csC cdI (csC (cdL 1 (cdL 1 (cdL 1 cdI))) (csC (cdL 1 (cdL 1 (cdL 1 cdI))) (csC (cdL 1 cdI) csN))))
def er_law09_moves (r : Bool) : AV := cdB.enc r
def t_law09_moves : List AV → Option AV := told cs_law09_moves (fun a => law09_moves a.1 a.2.1 a.2.2.1 a.2.2.2.1) er_law09_moves
theorem x_law09_moves : XOk 34 t_law09_moves := by
  refine EnvOk.x (E := e_law09_moves) (contract_ok e_law09_moves_ok (fn := Tryd.f34) (c := cb_law09_moves) ?h1 ?h2 ⟨Tryd.call34⟩ cs_law09_moves (fun a => law09_moves a.1 a.2.1 a.2.2.1 a.2.2.2.1) er_law09_moves (fun a => (by show 4 ≤ 165; decide)) ?h3 ?h4) rfl rfl
  case h1 => kernel_rfl
  case h2 => kernel_rfl
  case h3 => intro b; kernel_rfl
  case h4 =>
    intro a b h
    refine Sem.mono (Sem.ofY (law09_moves_sem (L := []) (hp := []) a.1 a.2.1 a.2.2.1 a.2.2.2.1 b h T.nil)) fun e s' hs => ?_
    obtain ⟨h1, ys, h2, h3, -⟩ := hs
    exact ⟨h1, ys, h2, h3⟩
/- trestle/trestlelaw09.EveningMoves -/
noncomputable def e_law09_EveningMoves : Env := (((E0.withX 12 t_law09_Few).withX 13 t_law09_awake).withX 34 t_law09_moves)
theorem e_law09_EveningMoves_ok : EnvOk e_law09_EveningMoves := (EnvOk.withX (EnvOk.withX (EnvOk.withX E0_ok x_law09_Few.1 x_law09_Few.2) x_law09_awake.1 x_law09_awake.2) x_law09_moves.1 x_law09_moves.2)
noncomputable def cb_law09_EveningMoves : Code := codeOf Tryd.f9
def law09_EveningMoves (x0 : Int) (x1 : (List (List (List Int)))) (x2 : (List (List (List Int)))) (x3 : (List Int)) : Option (Bool) :=
  (law09_Few x1 100).bind fun v1 =>
  (if (!v1) = true then law09_awake.bind fun v2 =>
  some v2 else (law09_Few x2 100).bind fun v3 =>
  if (!v3) = true then law09_awake.bind fun v4 =>
  some v4 else if (decide ((x3.length : Int) > 70)) = true then law09_awake.bind fun v5 =>
  some v5 else (law09_moves x0 x1 x2 x3).bind fun v6 =>
  if v6 = true then law09_awake.bind fun v7 =>
  some v7 else some false).bind fun j8 =>
  some j8
set_option maxHeartbeats 4000000 in
set_option maxRecDepth 100000 in
theorem law09_EveningMoves_sem {L : List Asn} {hp : Hp} (x0 : Int) (x1 : (List (List (List Int)))) (x2 : (List (List (List Int)))) (x3 : (List Int)) (r : Bool) (h : law09_EveningMoves x0 x1 x2 x3 = some r) (hT : T hp (L)) : SemY e_law09_EveningMoves ⟨none, false⟩ cb_law09_EveningMoves ⟨Fr 32 (pairs0 0 [.v (.int .i64 x0), .sl 1 (x1.map (cdL 1 (cdL 1 cdI)).enc), .sl 1 (x2.map (cdL 1 (cdL 1 cdI)).enc), .sl 1 (x3.map cdI.enc)]), hp⟩ fun x s' => (x = .normal ∨ x = .ret) ∧ ∃ ys, resA e_law09_EveningMoves.P s'.fr s'.hp Tryd.f9.results.toList = some ys ∧ (fun v h' => v = .v (.bool r) ∧ T h' (L)) (retA ys) s'.hp := by
  unfold law09_EveningMoves at h
  refine SemY.wkQ (SemY.wk (s1 := ⟨Fr 32 [(0, .v (.int .i64 x0)), (1, .sl 1 (x1.map (cdL 1 (cdL 1 cdI)).enc)), (2, .sl 1 (x2.map (cdL 1 (cdL 1 cdI)).enc)), (3, .sl 1 (x3.map cdI.enc))], hp⟩) WkY.f1 ?_)
  refine SemY.seq ?_
  refine SemY.regionL ?_
  refine RunL.segF (n := 32) e_law09_EveningMoves_ok 1 [(0, .v (.int .i64 x0)), (1, .sl 1 (x1.map (cdL 1 (cdL 1 cdI)).enc)), (2, .sl 1 (x2.map (cdL 1 (cdL 1 cdI)).enc)), (3, .sl 1 (x3.map cdI.enc))] hp (by kernel_rfl) ?_
  refine RunL.done rfl (SemY.fr (l' := [(0, .v (.int .i64 x0)), (1, .sl 1 (x1.map (cdL 1 (cdL 1 cdI)).enc)), (2, .sl 1 (x2.map (cdL 1 (cdL 1 cdI)).enc)), (3, .sl 1 (x3.map cdI.enc))]) (by kernel_rfl) ?_)
  refine SemY.seq ?_
  obtain ⟨v1, hv1, h⟩ := Option.bind_eq_some_iff.1 h
  obtain ⟨j8, hj8, h⟩ := Option.bind_eq_some_iff.1 h
  refine SemY.regT (A := fun s1 => ∃ (h' : Hp), T h' (L) ∧ s1 = ⟨Fr 32 [(8, .v (.bool j8))], h'⟩) ?_ ?_
  · refine RunL.segF (n := 32) e_law09_EveningMoves_ok 1 [(0, .v (.int .i64 x0)), (1, .sl 1 (x1.map (cdL 1 (cdL 1 cdI)).enc)), (2, .sl 1 (x2.map (cdL 1 (cdL 1 cdI)).enc)), (3, .sl 1 (x3.map cdI.enc)), (9, .sl 1 (x1.map (cdL 1 (cdL 1 cdI)).enc))] hp (by kernel_rfl) ?_
    refine RunL.call e_law09_EveningMoves_ok (fid := 12) (b := v1) (s := cs_law09_Few) (F := fun a => law09_Few a.1 a.2.1) (er := er_law09_Few) (xs := [.sl 1 (x1.map (cdL 1 (cdL 1 cdI)).enc), .v (.int .i64 100)]) (a := (x1, 100, ())) rfl (wantedA_none rfl) (by kernel_rfl) (by kernel_rfl) (by kernel_rfl) (by kernel_rfl) (Sns.cons (Sn.enc (c := (cdL 1 (cdL 1 (cdL 1 cdI)))) (v := x1)) (Sns.cons (Sn.enc (c := cdI) (v := 100)) Sns.nil)) (.inl (by kernel_rfl)) hv1 ?_
    refine RunL.segF (n := 32) e_law09_EveningMoves_ok 2 [(0, .v (.int .i64 x0)), (1, .sl 1 (x1.map (cdL 1 (cdL 1 cdI)).enc)), (2, .sl 1 (x2.map (cdL 1 (cdL 1 cdI)).enc)), (3, .sl 1 (x3.map cdI.enc)), (12, .v (.bool (!v1)))] hp (by kernel_rfl) ?_
    rcases Bool.eq_false_or_eq_true (!v1) with hc12 | hc12
    · rw [if_pos hc12] at hj8
      rw [hc12]
      refine RunL.segF (n := 32) e_law09_EveningMoves_ok 17 [(29, .v (.bool true))] hp (by kernel_rfl) ?_
      obtain ⟨v2, hv2, hj8⟩ := Option.bind_eq_some_iff.1 hj8
      refine RunL.call e_law09_EveningMoves_ok (fid := 13) (b := v2) (s := cs_law09_awake) (F := fun a => law09_awake ) (er := er_law09_awake) (xs := []) (a := (())) rfl (by kernel_rfl) (by kernel_rfl) (by kernel_rfl) (by kernel_rfl) (by kernel_rfl) Sns.nil (.inl (by kernel_rfl)) hv2 ?_
      refine RunL.segF (n := 32) e_law09_EveningMoves_ok 2 [(8, .v (.bool v2))] hp (by kernel_rfl) ?_
      have hq := Option.some.inj hj8; subst hq
      exact RunL.done rfl ⟨_, ⟨hp, hT, rfl⟩, WkY.f1⟩
    · rw [if_f hc12] at hj8
      rw [hc12]
      refine RunL.segF (n := 32) e_law09_EveningMoves_ok 1 [(0, .v (.int .i64 x0)), (1, .sl 1 (x1.map (cdL 1 (cdL 1 cdI)).enc)), (2, .sl 1 (x2.map (cdL 1 (cdL 1 cdI)).enc)), (3, .sl 1 (x3.map cdI.enc)), (12, .v (.bool false)), (13, .sl 1 (x2.map (cdL 1 (cdL 1 cdI)).enc))] hp (by kernel_rfl) ?_
      obtain ⟨v3, hv3, hj8⟩ := Option.bind_eq_some_iff.1 hj8
      refine RunL.call e_law09_EveningMoves_ok (fid := 12) (b := v3) (s := cs_law09_Few) (F := fun a => law09_Few a.1 a.2.1) (er := er_law09_Few) (xs := [.sl 1 (x2.map (cdL 1 (cdL 1 cdI)).enc), .v (.int .i64 100)]) (a := (x2, 100, ())) rfl (by kernel_rfl) (by kernel_rfl) (by kernel_rfl) (by kernel_rfl) (by kernel_rfl) (Sns.cons (Sn.enc (c := (cdL 1 (cdL 1 (cdL 1 cdI)))) (v := x2)) (Sns.cons (Sn.enc (c := cdI) (v := 100)) Sns.nil)) (.inl (by kernel_rfl)) hv3 ?_
      refine RunL.segF (n := 32) e_law09_EveningMoves_ok 3 [(0, .v (.int .i64 x0)), (1, .sl 1 (x1.map (cdL 1 (cdL 1 cdI)).enc)), (2, .sl 1 (x2.map (cdL 1 (cdL 1 cdI)).enc)), (3, .sl 1 (x3.map cdI.enc)), (17, .v (.bool (!v3)))] hp (by kernel_rfl) ?_
      rcases Bool.eq_false_or_eq_true (!v3) with hc13 | hc13
      · rw [if_pos hc13] at hj8
        rw [hc13]
        refine RunL.segF (n := 32) e_law09_EveningMoves_ok 12 [(29, .v (.bool true))] hp (by kernel_rfl) ?_
        obtain ⟨v4, hv4, hj8⟩ := Option.bind_eq_some_iff.1 hj8
        refine RunL.call e_law09_EveningMoves_ok (fid := 13) (b := v4) (s := cs_law09_awake) (F := fun a => law09_awake ) (er := er_law09_awake) (xs := []) (a := (())) rfl (by kernel_rfl) (by kernel_rfl) (by kernel_rfl) (by kernel_rfl) (by kernel_rfl) Sns.nil (.inl (by kernel_rfl)) hv4 ?_
        refine RunL.segF (n := 32) e_law09_EveningMoves_ok 2 [(8, .v (.bool v4))] hp (by kernel_rfl) ?_
        have hq := Option.some.inj hj8; subst hq
        exact RunL.done rfl ⟨_, ⟨hp, hT, rfl⟩, WkY.f1⟩
      · rw [if_f hc13] at hj8
        rw [hc13]
        refine RunL.segF (n := 32) e_law09_EveningMoves_ok 1 [(0, .v (.int .i64 x0)), (1, .sl 1 (x1.map (cdL 1 (cdL 1 cdI)).enc)), (2, .sl 1 (x2.map (cdL 1 (cdL 1 cdI)).enc)), (3, .sl 1 (x3.map cdI.enc)), (17, .v (.bool false)), (18, .sl 1 (x3.map cdI.enc))] hp (by kernel_rfl) ?_
        refine RunL.one e_law09_EveningMoves_ok 0 rfl (op_q (by kernel_rfl) rfl (q_len (a := .sl 1 (x3.map cdI.enc)) (by kernel_rfl) (len_sl (el := 3) (by kernel_rfl)))) ?_
        refine RunL.segF (n := 32) e_law09_EveningMoves_ok 3 [(0, .v (.int .i64 x0)), (1, .sl 1 (x1.map (cdL 1 (cdL 1 cdI)).enc)), (2, .sl 1 (x2.map (cdL 1 (cdL 1 cdI)).enc)), (3, .sl 1 (x3.map cdI.enc)), (22, .v (.bool (decide ((x3.length : Int) > 70))))] hp (by kernel_rfl) ?_
        rcases Bool.eq_false_or_eq_true (decide ((x3.length : Int) > 70)) with hc14 | hc14
        · rw [if_pos hc14] at hj8
          rw [hc14]
          refine RunL.segF (n := 32) e_law09_EveningMoves_ok 7 [(29, .v (.bool true))] hp (by kernel_rfl) ?_
          obtain ⟨v5, hv5, hj8⟩ := Option.bind_eq_some_iff.1 hj8
          refine RunL.call e_law09_EveningMoves_ok (fid := 13) (b := v5) (s := cs_law09_awake) (F := fun a => law09_awake ) (er := er_law09_awake) (xs := []) (a := (())) rfl (by kernel_rfl) (by kernel_rfl) (by kernel_rfl) (by kernel_rfl) (by kernel_rfl) Sns.nil (.inl (by kernel_rfl)) hv5 ?_
          refine RunL.segF (n := 32) e_law09_EveningMoves_ok 2 [(8, .v (.bool v5))] hp (by kernel_rfl) ?_
          have hq := Option.some.inj hj8; subst hq
          exact RunL.done rfl ⟨_, ⟨hp, hT, rfl⟩, WkY.f1⟩
        · rw [if_f hc14] at hj8
          rw [hc14]
          refine RunL.segF (n := 32) e_law09_EveningMoves_ok 4 [(22, .v (.bool false)), (23, .v (.int .i64 x0)), (24, .sl 1 (x1.map (cdL 1 (cdL 1 cdI)).enc)), (25, .sl 1 (x2.map (cdL 1 (cdL 1 cdI)).enc)), (26, .sl 1 (x3.map cdI.enc))] hp (by kernel_rfl) ?_
          obtain ⟨v6, hv6, hj8⟩ := Option.bind_eq_some_iff.1 hj8
          refine RunL.call e_law09_EveningMoves_ok (fid := 34) (b := v6) (s := cs_law09_moves) (F := fun a => law09_moves a.1 a.2.1 a.2.2.1 a.2.2.2.1) (er := er_law09_moves) (xs := [.v (.int .i64 x0), .sl 1 (x1.map (cdL 1 (cdL 1 cdI)).enc), .sl 1 (x2.map (cdL 1 (cdL 1 cdI)).enc), .sl 1 (x3.map cdI.enc)]) (a := (x0, x1, x2, x3, ())) rfl (by kernel_rfl) (by kernel_rfl) (by kernel_rfl) (by kernel_rfl) (by kernel_rfl) (Sns.cons (Sn.enc (c := cdI) (v := x0)) (Sns.cons (Sn.enc (c := (cdL 1 (cdL 1 (cdL 1 cdI)))) (v := x1)) (Sns.cons (Sn.enc (c := (cdL 1 (cdL 1 (cdL 1 cdI)))) (v := x2)) (Sns.cons (Sn.enc (c := (cdL 1 cdI)) (v := x3)) Sns.nil)))) (.inl (by kernel_rfl)) hv6 ?_
          refine RunL.segF (n := 32) e_law09_EveningMoves_ok 2 [(29, .v (.bool v6))] hp (by kernel_rfl) ?_
          rcases Bool.eq_false_or_eq_true v6 with hc15 | hc15
          · rw [if_pos hc15] at hj8
            rw [hc15]
            obtain ⟨v7, hv7, hj8⟩ := Option.bind_eq_some_iff.1 hj8
            refine RunL.call e_law09_EveningMoves_ok (fid := 13) (b := v7) (s := cs_law09_awake) (F := fun a => law09_awake ) (er := er_law09_awake) (xs := []) (a := (())) rfl (by kernel_rfl) (by kernel_rfl) (by kernel_rfl) (by kernel_rfl) (by kernel_rfl) Sns.nil (.inl (by kernel_rfl)) hv7 ?_
            refine RunL.segF (n := 32) e_law09_EveningMoves_ok 2 [(8, .v (.bool v7))] hp (by kernel_rfl) ?_
            have hq := Option.some.inj hj8; subst hq
            exact RunL.done rfl ⟨_, ⟨hp, hT, rfl⟩, WkY.f1⟩
          · rw [if_f hc15] at hj8
            rw [hc15]
            refine RunL.segF (n := 32) e_law09_EveningMoves_ok 3 [(8, .v (.bool false))] hp (by kernel_rfl) ?_
            have hq := Option.some.inj hj8; subst hq
            exact RunL.done rfl ⟨_, ⟨hp, hT, rfl⟩, WkY.f1⟩
  rintro _ ⟨hp10, hT11, rfl⟩
  refine SemY.ret ?_
  have hq := Option.some.inj h; subst hq
  exact ⟨⟨Fr 32 [(8, .v (.bool j8))], hp10⟩, WkY.f1, .inr rfl, [.v (.bool j8)], (by kernel_rfl), ⟨rfl, hT11⟩⟩
def cs_law09_EveningMoves : Cs (Int × (List (List (List Int))) × (List (List (List Int))) × (List Int) × Unit) := (csC cdI (csC (cdL 1 (cdL 1 (cdL 1 cdI))) (csC (cdL 1 (cdL 1 (cdL 1 cdI))) (csC (cdL 1 cdI) csN))))
def er_law09_EveningMoves (r : Bool) : AV := cdB.enc r
def t_law09_EveningMoves : List AV → Option AV := told cs_law09_EveningMoves (fun a => law09_EveningMoves a.1 a.2.1 a.2.2.1 a.2.2.2.1) er_law09_EveningMoves
theorem x_law09_EveningMoves : XOk 9 t_law09_EveningMoves := by
  refine EnvOk.x (E := e_law09_EveningMoves) (contract_ok e_law09_EveningMoves_ok (fn := Tryd.f9) (c := cb_law09_EveningMoves) ?h1 ?h2 ⟨Tryd.call9⟩ cs_law09_EveningMoves (fun a => law09_EveningMoves a.1 a.2.1 a.2.2.1 a.2.2.2.1) er_law09_EveningMoves (fun a => (by show 4 ≤ 32; decide)) ?h3 ?h4) rfl rfl
  case h1 => kernel_rfl
  case h2 => kernel_rfl
  case h3 => intro b; kernel_rfl
  case h4 =>
    intro a b h
    refine Sem.mono (Sem.ofY (law09_EveningMoves_sem (L := []) (hp := []) a.1 a.2.1 a.2.2.1 a.2.2.2.1 b h T.nil)) fun e s' hs => ?_
    obtain ⟨h1, ys, h2, h3, -⟩ := hs
    exact ⟨h1, ys, h2, h3⟩
def in64 (n : Int) : Prop := -9223372036854775808 ≤ n ∧ n ≤ 9223372036854775807
theorem wr_i {n : Int} (h1 : -9223372036854775808 ≤ n) (h2 : n ≤ 9223372036854775807) : wr .i64 n = n := by
  show (if _ then n else _) = n
  rw [if_pos ⟨h1, h2⟩]
theorem idx_app {α : Type} (pre : List α) (v : α) (r : List α) : idx (pre ++ v :: r) (pre.length : Int) = some v := by
  unfold idx
  rw [if_pos (by omega)]
  simp
theorem idx_lt {α : Type} {xs : List α} {i : Nat} (h : i < xs.length) : idx xs (i : Int) = some xs[i] := by
  unfold idx
  rw [if_pos (by omega)]
  simp [h]
theorem snoc_len {α : Type} (pre : List α) (v : α) : ((pre.length : Int) + 1) = ((pre ++ [v]).length : Int) := by simp
theorem snoc_app {α : Type} (pre : List α) (v : α) (r : List α) : pre ++ v :: r = (pre ++ [v]) ++ r := by simp
theorem wr_snoc {α : Type} (pre : List α) (v : α) (r : List α) (h : (pre ++ v :: r).length ≤ 1000000000) : wr .i64 ((pre.length : Int) + 1) = ((pre ++ [v]).length : Int) := by
  simp at h
  rw [wr_i (by omega) (by omega)]; simp
theorem lt_len {α : Type} (pre : List α) (v : α) (r : List α) : decide ((pre.length : Int) < ((pre ++ v :: r).length : Int)) = true := by
  simp; omega
theorem nlt_len {α : Type} (pre : List α) : decide ((pre.length : Int) < ((pre ++ []).length : Int)) = false := by simp
theorem capOk_le {b n : Nat} (hb : b ≤ 1000) (h : n ≤ 1000000000) : capOk b n = true := by
  have h1 : n * b ≤ 1000000000 * 1000 := Nat.mul_le_mul h hb
  unfold capOk
  rw [Bool.and_eq_true]
  exact ⟨Nat.ble_eq_true_of_le (by omega), Nat.ble_eq_true_of_le (by omega)⟩
/- trestle/evening.met -/
end Go.Proofs.YtcmgmkepodbpkaaDoor
