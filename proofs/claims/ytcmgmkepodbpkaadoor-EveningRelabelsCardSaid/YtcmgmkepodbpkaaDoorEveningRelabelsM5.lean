/- Lemmas for the proof. -/
import Derived.Test.YtcmgmkepodbpkaaDoorEveningRelabelsM1
import Derived.Test.YtcmgmkepodbpkaaDoorEveningRelabelsM2
import Derived.Test.YtcmgmkepodbpkaaDoorEveningRelabelsM3
import Derived.Test.YtcmgmkepodbpkaaDoorEveningRelabelsM4
import Derived.Test.YtcmgmkepodbpkaaDoorProg
import Derived.Laws.CopyOwn
import Derived.Laws.Slices
import Derived.Laws.StructEq
namespace Go.Proofs.YtcmgmkepodbpkaaDoor
open Go.RowKit
/- trestle/evening.Relabel -/
noncomputable def e_evening_Relabel : Env := ((E0.withX 27 t_evening_Check).withX 83 t_evening_check)
theorem e_evening_Relabel_ok : EnvOk e_evening_Relabel := (EnvOk.withX (EnvOk.withX E0_ok x_evening_Check.1 x_evening_Check.2) x_evening_check.1 x_evening_check.2)
noncomputable def cb_evening_Relabel : Code := codeOf Tryd.f29
def evening_Relabel_3 (x2 : (List Int)) (c37 : Int) (c38 : (List (List Int))) (v40 : (List Int)) : Nat → Int → (List Int) → Option (((List (List Int))))
  | 0, _, _ => none
  | f + 1, c45, c46 =>
    if (decide (c45 < (v40.length : Int))) = true then
    (idx c46 c45).bind fun v48 =>
    (idx x2 v48).bind fun v50 =>
    (idx c46 c45).bind fun _v51 =>
    evening_Relabel_3 x2 c37 c38 v40 f (wr .i64 (c45 + 1)) (c46.set c45.toNat v50)
    else
    some (c38.set c37.toNat c46)
def evening_Relabel_2 (x2 : (List Int)) (c30 : Int) (c31 : (List (List (List Int)))) (v33 : (List (List Int))) : Nat → Int → (List (List Int)) → Option (((List (List (List Int)))))
  | 0, _, _ => none
  | f + 1, c37, c38 =>
    if (decide (c37 < (v33.length : Int))) = true then
    (idx c38 c37).bind fun v40 =>
    (evening_Relabel_3 x2 c37 c38 v40 100000 0 v40).bind fun r63 =>
    evening_Relabel_2 x2 c30 c31 v33 f (wr .i64 (c37 + 1)) r63
    else
    some (c31.set c30.toNat c38)
def evening_Relabel_1 (x2 : (List Int)) (v26 : (List (List (List Int)))) : Nat → Int → (List (List (List Int))) → Option (((List (List (List Int)))))
  | 0, _, _ => none
  | f + 1, c30, c31 =>
    if (decide (c30 < (v26.length : Int))) = true then
    (idx c31 c30).bind fun v33 =>
    (evening_Relabel_2 x2 c30 c31 v33 100000 0 v33).bind fun r72 =>
    evening_Relabel_1 x2 v26 f (wr .i64 (c30 + 1)) r72
    else
    some c31
def evening_Relabel (x0 : Int) (x1 : (List (List (List Int)))) (x2 : (List Int)) : Option ((List (List (List Int))) × Int) :=
  (evening_Check x0 [] x1).bind fun v1 =>
  if (v1.2 != 0) = true then
  some (([] : (List (List (List Int)))), v1.2)
  else
  (if ((x2.length : Int) != x0) = true then some true else (evening_check x0 ([x0] : List Int) ([x2] : List (List Int))).bind fun v15 =>
  some (v15 != 0)).bind fun j16 =>
  if j16 = true then
  some (([] : (List (List (List Int)))), 2)
  else
  (evening_clone_d x1).bind fun v26 =>
  (evening_Relabel_1 x2 v26 100000 0 v26).bind fun r76 =>
  some (r76, 0)
set_option maxHeartbeats 4000000 in
set_option maxRecDepth 100000 in
theorem evening_Relabel_3_ok {L : List Asn} (x2 : (List Int)) (c37 : Int) (c38 : (List (List Int))) (v40 : (List Int)) (v26 : (List (List (List Int)))) (e27 : AV) (c30 : Int) (c31 : (List (List (List Int)))) (v33 : (List (List Int))) (e34 : AV) (e42 : AV) : ∀ (f : Nat) (c45 : Int) (c46 : (List Int)) (r : ((List (List Int)))), evening_Relabel_3 x2 c37 c38 v40 f c45 c46 = some r → ∀ (hp : Hp), T hp ((hole 1 50 (ocL 1 31 (ocL 1 3 (ocV cdI))) e27 c31 c30.toNat e34 v33) :: (hole 1 31 (ocL 1 3 (ocV cdI)) e34 c38 c37.toNat e42 v40) :: (own_ (ocL 1 3 (ocV cdI)) e42 c46) :: L) → SemYN e_evening_Relabel ⟨none, false⟩ (pc cb_evening_Relabel [1, 1, 1, 1, 0, 1, 0, 0, 1, 1, 0, 0, 1, 1, 0, 0, 1, 1, 0, 0, 1, 1, 0, 0]) f ⟨Fr 71 [(2, .sl 1 (x2.map cdI.enc)), (10, e27), (14, e42), (41, e27), (42, .v (.int .i64 (v26.length : Int))), (43, .v (.int .i64 c30)), (47, e34), (48, .v (.int .i64 (v33.length : Int))), (49, .v (.int .i64 c37)), (53, e42), (54, .v (.int .i64 (v40.length : Int))), (55, .v (.int .i64 c45))], hp⟩ (fun e s => e = (.exit 4) ∧ ∃ s2, (∃ (h' : Hp), T h' ((hole 1 50 (ocL 1 31 (ocL 1 3 (ocV cdI))) e27 c31 c30.toNat e34 v33) :: (own_ (ocL 1 31 (ocL 1 3 (ocV cdI))) e34 r) :: L) ∧ s2 = ⟨Fr 71 [(2, .sl 1 (x2.map cdI.enc)), (10, e27), (41, e27), (42, .v (.int .i64 (v26.length : Int))), (43, .v (.int .i64 c30)), (47, e34), (48, .v (.int .i64 (v33.length : Int))), (49, .v (.int .i64 c37))], h'⟩) ∧ WkY e_evening_Relabel s s2) := by
  intro f
  induction f with
  | zero => intro c45 c46 r h; cases h
  | succ f ih0 =>
    intro c45 c46 r h  hp hT
    unfold evening_Relabel_3 at h
    refine SemYN.succ ?_
    refine SemY.seq ?_
    refine SemY.regionL ?_
    refine RunL.segF (n := 71) e_evening_Relabel_ok 1 [(2, .sl 1 (x2.map cdI.enc)), (10, e27), (14, e42), (41, e27), (42, .v (.int .i64 (v26.length : Int))), (43, .v (.int .i64 c30)), (47, e34), (48, .v (.int .i64 (v33.length : Int))), (49, .v (.int .i64 c37)), (53, e42), (54, .v (.int .i64 (v40.length : Int))), (55, .v (.int .i64 c45)), (56, .v (.bool (decide (c45 < (v40.length : Int)))))] hp (by kernel_rfl) ?_
    refine RunL.done rfl (SemY.fr (l' := [(2, .sl 1 (x2.map cdI.enc)), (10, e27), (14, e42), (41, e27), (42, .v (.int .i64 (v26.length : Int))), (43, .v (.int .i64 c30)), (47, e34), (48, .v (.int .i64 (v33.length : Int))), (49, .v (.int .i64 c37)), (53, e42), (54, .v (.int .i64 (v40.length : Int))), (55, .v (.int .i64 c45)), (56, .v (.bool (decide (c45 < (v40.length : Int)))))]) (by kernel_rfl) ?_)
    refine SemY.seq ?_
    refine SemY.cond (b := (decide (c45 < (v40.length : Int)))) (by kernel_rfl) (fun hb47 => ?_) (fun hb47 => ?_)
    · rw [if_pos hb47] at h
      refine SemY.skip ?_
      refine SemY.seq ?_
      refine SemY.block ?_
      refine SemY.seq ?_
      refine SemY.regionL ?_
      refine RunL.segF (n := 71) e_evening_Relabel_ok 1 [(2, .sl 1 (x2.map cdI.enc)), (10, e27), (14, e42), (41, e27), (42, .v (.int .i64 (v26.length : Int))), (43, .v (.int .i64 c30)), (47, e34), (48, .v (.int .i64 (v33.length : Int))), (49, .v (.int .i64 c37)), (53, e42), (54, .v (.int .i64 (v40.length : Int))), (55, .v (.int .i64 c45)), (57, .v (.int .i64 c45))] hp (by kernel_rfl) ?_
      obtain ⟨v48, hv48, h⟩ := Option.bind_eq_some_iff.1 h
      have hT49 : T hp ((own_ (ocL 1 3 (ocV cdI)) e42 c46) :: (hole 1 50 (ocL 1 31 (ocL 1 3 (ocV cdI))) e27 c31 c30.toNat e34 v33) :: (hole 1 31 (ocL 1 3 (ocV cdI)) e34 c38 c37.toNat e42 v40) :: L) := (hT.front 2 rfl)
      refine RunL.one e_evening_Relabel_ok 0 rfl (op_q (wantedA_none rfl) rfl (q_indexAddr (a := e42) (b := .v (.int .i64 c45)) (by kernel_rfl) (by kernel_rfl) (ix_B (bytes := 8) hT49 (by kernel_rfl) hv48))) ?_
      refine RunL.one e_evening_Relabel_ok 0 rfl (op_q (wantedA_none rfl) rfl (q_load (p := eAt e42 c45.toNat) (by kernel_rfl) (ld_own0 (y := .v (.int .i64 v48)) (m := 1) (g := false) hT49 (idx_at hv48).2 (by kernel_rfl) (by kernel_rfl) (by kernel_rfl)))) ?_
      refine RunL.segF (n := 71) e_evening_Relabel_ok 2 [(2, .sl 1 (x2.map cdI.enc)), (10, e27), (14, e42), (15, .v (.int .i64 c45)), (16, .v (.int .i64 v48)), (41, e27), (42, .v (.int .i64 (v26.length : Int))), (43, .v (.int .i64 c30)), (47, e34), (48, .v (.int .i64 (v33.length : Int))), (49, .v (.int .i64 c37)), (53, e42), (54, .v (.int .i64 (v40.length : Int))), (55, .v (.int .i64 c45))] hp (by kernel_rfl) ?_
      refine RunL.done rfl (SemY.fr (l' := [(2, .sl 1 (x2.map cdI.enc)), (10, e27), (14, e42), (15, .v (.int .i64 c45)), (16, .v (.int .i64 v48)), (41, e27), (42, .v (.int .i64 (v26.length : Int))), (43, .v (.int .i64 c30)), (47, e34), (48, .v (.int .i64 (v33.length : Int))), (49, .v (.int .i64 c37)), (53, e42), (54, .v (.int .i64 (v40.length : Int))), (55, .v (.int .i64 c45))]) (by kernel_rfl) ?_)
      refine SemY.regionL ?_
      refine RunL.segF (n := 71) e_evening_Relabel_ok 4 [(2, .sl 1 (x2.map cdI.enc)), (10, e27), (14, e42), (41, e27), (42, .v (.int .i64 (v26.length : Int))), (43, .v (.int .i64 c30)), (47, e34), (48, .v (.int .i64 (v33.length : Int))), (49, .v (.int .i64 c37)), (53, e42), (54, .v (.int .i64 (v40.length : Int))), (55, .v (.int .i64 c45)), (60, e42), (61, .v (.int .i64 c45)), (62, .sl 1 (x2.map cdI.enc)), (63, .v (.int .i64 v48))] hp (by kernel_rfl) ?_
      obtain ⟨v50, hv50, h⟩ := Option.bind_eq_some_iff.1 h
      refine RunL.one e_evening_Relabel_ok 0 rfl (op_q (wantedA_none rfl) rfl (q_indexAddr (a := .sl 1 (x2.map cdI.enc)) (b := .v (.int .i64 v48)) (by kernel_rfl) (by kernel_rfl) (ix_sl (e := cdI.enc) (el := 3) (k := 1) (ki := .i64) (by kernel_rfl) (by kernel_rfl) hv50))) ?_
      refine RunL.segF (n := 71) e_evening_Relabel_ok 1 [(2, .sl 1 (x2.map cdI.enc)), (10, e27), (14, e42), (41, e27), (42, .v (.int .i64 (v26.length : Int))), (43, .v (.int .i64 c30)), (47, e34), (48, .v (.int .i64 (v33.length : Int))), (49, .v (.int .i64 c37)), (53, e42), (54, .v (.int .i64 (v40.length : Int))), (55, .v (.int .i64 c45)), (60, e42), (61, .v (.int .i64 c45)), (65, .v (.int .i64 v50))] hp (by kernel_rfl) ?_
      obtain ⟨v51, hv51, h⟩ := Option.bind_eq_some_iff.1 h
      refine RunL.one e_evening_Relabel_ok 0 rfl (op_q (wantedA_none rfl) rfl (q_indexAddr (a := e42) (b := .v (.int .i64 c45)) (by kernel_rfl) (by kernel_rfl) (ix_B (bytes := 8) hT49 (by kernel_rfl) hv51))) ?_
      obtain ⟨hp52, hs53, hT540⟩ := st_own0 (P := Tryd.prog) (ty := 3) (y := .v (.int .i64 v50)) (v' := v50) hT49 (idx_at hv51).2 (by kernel_rfl) (by kernel_rfl) (by kernel_rfl)
      have hT54 : T hp52 ((own_ (ocL 1 3 (ocV cdI)) e42 (c46.set c45.toNat v50)) :: (hole 1 50 (ocL 1 31 (ocL 1 3 (ocV cdI))) e27 c31 c30.toNat e34 v33) :: (hole 1 31 (ocL 1 3 (ocV cdI)) e34 c38 c37.toNat e42 v40) :: L) := hT540
      refine RunL.store e_evening_Relabel_ok (y := eAt e42 c45.toNat) (z := .v (.int .i64 v50)) rfl (wantedA_none rfl) (by kernel_rfl) (by kernel_rfl) hs53 ?_
      refine RunL.done rfl (SemY.fr (l' := [(2, .sl 1 (x2.map cdI.enc)), (10, e27), (14, e42), (41, e27), (42, .v (.int .i64 (v26.length : Int))), (43, .v (.int .i64 c30)), (47, e34), (48, .v (.int .i64 (v33.length : Int))), (49, .v (.int .i64 c37)), (53, e42), (54, .v (.int .i64 (v40.length : Int))), (55, .v (.int .i64 c45))]) (by kernel_rfl) ?_)
      refine SemY.regionL ?_
      refine RunL.segF (n := 71) e_evening_Relabel_ok 2 [(2, .sl 1 (x2.map cdI.enc)), (10, e27), (14, e42), (41, e27), (42, .v (.int .i64 (v26.length : Int))), (43, .v (.int .i64 c30)), (47, e34), (48, .v (.int .i64 (v33.length : Int))), (49, .v (.int .i64 c37)), (53, e42), (54, .v (.int .i64 (v40.length : Int))), (55, .v (.int .i64 (wr .i64 (c45 + 1))))] hp52 (by kernel_rfl) ?_
      refine RunL.done rfl ?_
      have hT55 : T hp52 ((hole 1 50 (ocL 1 31 (ocL 1 3 (ocV cdI))) e27 c31 c30.toNat e34 v33) :: (hole 1 31 (ocL 1 3 (ocV cdI)) e34 c38 c37.toNat e42 v40) :: (own_ (ocL 1 3 (ocV cdI)) e42 (c46.set c45.toNat v50)) :: L) := ((hT54.front 2 rfl).front 2 rfl)
      exact SemYN.wk WkY.f1 (ih0 (wr .i64 (c45 + 1)) (c46.set c45.toNat v50) _ h  hp52 hT55)
    · rw [if_f hb47] at h
      refine SemY.exit ?_
      have hq := Option.some.inj h; subst hq
      have hT59 : T hp ((own_ (ocL 1 3 (ocV cdI)) e42 c46) :: (hole 1 31 (ocL 1 3 (ocV cdI)) e34 c38 c37.toNat e42 v40) :: (hole 1 50 (ocL 1 31 (ocL 1 3 (ocV cdI))) e27 c31 c30.toNat e34 v33) :: L) := ((hT.front 1 rfl).front 2 rfl)
      have hT60 : T hp ((own_ (ocL 1 31 (ocL 1 3 (ocV cdI))) e34 (c38.set c37.toNat c46)) :: (hole 1 50 (ocL 1 31 (ocL 1 3 (ocV cdI))) e27 c31 c30.toNat e34 v33) :: L) := (T.merge hT59)
      have hT61 : T hp ((hole 1 50 (ocL 1 31 (ocL 1 3 (ocV cdI))) e27 c31 c30.toNat e34 v33) :: (own_ (ocL 1 31 (ocL 1 3 (ocV cdI))) e34 (c38.set c37.toNat c46)) :: L) := (hT60.front 1 rfl)
      exact ⟨rfl, _, ⟨hp, hT61, rfl⟩, WkY.f1⟩
set_option maxHeartbeats 4000000 in
set_option maxRecDepth 100000 in
theorem evening_Relabel_2_ok {L : List Asn} (x2 : (List Int)) (c30 : Int) (c31 : (List (List (List Int)))) (v33 : (List (List Int))) (v26 : (List (List (List Int)))) (e27 : AV) (e34 : AV) : ∀ (f : Nat) (c37 : Int) (c38 : (List (List Int))) (r : ((List (List (List Int))))), evening_Relabel_2 x2 c30 c31 v33 f c37 c38 = some r → ∀ (hp : Hp), T hp ((hole 1 50 (ocL 1 31 (ocL 1 3 (ocV cdI))) e27 c31 c30.toNat e34 v33) :: (own_ (ocL 1 31 (ocL 1 3 (ocV cdI))) e34 c38) :: L) → SemYN e_evening_Relabel ⟨none, false⟩ (pc cb_evening_Relabel [1, 1, 1, 1, 0, 1, 0, 0, 1, 1, 0, 0, 1, 1, 0, 0]) f ⟨Fr 71 [(2, .sl 1 (x2.map cdI.enc)), (10, e27), (41, e27), (42, .v (.int .i64 (v26.length : Int))), (43, .v (.int .i64 c30)), (47, e34), (48, .v (.int .i64 (v33.length : Int))), (49, .v (.int .i64 c37))], hp⟩ (fun e s => e = (.exit 2) ∧ ∃ s2, (∃ (h' : Hp), T h' ((own_ (ocL 1 50 (ocL 1 31 (ocL 1 3 (ocV cdI)))) e27 r) :: L) ∧ s2 = ⟨Fr 71 [(2, .sl 1 (x2.map cdI.enc)), (10, e27), (41, e27), (42, .v (.int .i64 (v26.length : Int))), (43, .v (.int .i64 c30))], h'⟩) ∧ WkY e_evening_Relabel s s2) := by
  intro f
  induction f with
  | zero => intro c37 c38 r h; cases h
  | succ f ih0 =>
    intro c37 c38 r h  hp hT
    unfold evening_Relabel_2 at h
    refine SemYN.succ ?_
    refine SemY.seq ?_
    refine SemY.regionL ?_
    refine RunL.segF (n := 71) e_evening_Relabel_ok 1 [(2, .sl 1 (x2.map cdI.enc)), (10, e27), (41, e27), (42, .v (.int .i64 (v26.length : Int))), (43, .v (.int .i64 c30)), (47, e34), (48, .v (.int .i64 (v33.length : Int))), (49, .v (.int .i64 c37)), (50, .v (.bool (decide (c37 < (v33.length : Int)))))] hp (by kernel_rfl) ?_
    refine RunL.done rfl (SemY.fr (l' := [(2, .sl 1 (x2.map cdI.enc)), (10, e27), (41, e27), (42, .v (.int .i64 (v26.length : Int))), (43, .v (.int .i64 c30)), (47, e34), (48, .v (.int .i64 (v33.length : Int))), (49, .v (.int .i64 c37)), (50, .v (.bool (decide (c37 < (v33.length : Int)))))]) (by kernel_rfl) ?_)
    refine SemY.seq ?_
    refine SemY.cond (b := (decide (c37 < (v33.length : Int)))) (by kernel_rfl) (fun hb39 => ?_) (fun hb39 => ?_)
    · rw [if_pos hb39] at h
      refine SemY.skip ?_
      refine SemY.seq ?_
      refine SemY.block ?_
      refine SemY.seq ?_
      refine SemY.regionL ?_
      obtain ⟨v40, hv40, h⟩ := Option.bind_eq_some_iff.1 h
      have hT41 : T hp ((own_ (ocL 1 31 (ocL 1 3 (ocV cdI))) e34 c38) :: (hole 1 50 (ocL 1 31 (ocL 1 3 (ocV cdI))) e27 c31 c30.toNat e34 v33) :: L) := (hT.front 1 rfl)
      refine RunL.one e_evening_Relabel_ok 0 rfl (op_q (wantedA_none rfl) rfl (q_indexAddr (a := e34) (b := .v (.int .i64 c37)) (by kernel_rfl) (by kernel_rfl) (ix_B (bytes := 24) hT41 (by kernel_rfl) hv40))) ?_
      obtain ⟨e42, hl43, hT440⟩ := ld_child (P := Tryd.prog) (ty := 31) hT41 (idx_at hv40).2 (by kernel_rfl) (by kernel_rfl)
      have hT44 : T hp ((own_ (ocL 1 3 (ocV cdI)) e42 v40) :: (hole 1 31 (ocL 1 3 (ocV cdI)) e34 c38 c37.toNat e42 v40) :: (hole 1 50 (ocL 1 31 (ocL 1 3 (ocV cdI))) e27 c31 c30.toNat e34 v33) :: L) := hT440
      refine RunL.one e_evening_Relabel_ok 0 rfl (op_q (wantedA_none rfl) rfl (q_load (p := eAt e34 c37.toNat) (by kernel_rfl) hl43)) ?_
      refine RunL.segF (n := 71) e_evening_Relabel_ok 1 [(2, .sl 1 (x2.map cdI.enc)), (10, e27), (14, e42), (41, e27), (42, .v (.int .i64 (v26.length : Int))), (43, .v (.int .i64 c30)), (47, e34), (48, .v (.int .i64 (v33.length : Int))), (49, .v (.int .i64 c37))] hp (by kernel_rfl) ?_
      refine RunL.done rfl (SemY.fr (l' := [(2, .sl 1 (x2.map cdI.enc)), (10, e27), (14, e42), (41, e27), (42, .v (.int .i64 (v26.length : Int))), (43, .v (.int .i64 c30)), (47, e34), (48, .v (.int .i64 (v33.length : Int))), (49, .v (.int .i64 c37))]) (by kernel_rfl) ?_)
      refine SemY.seq ?_
      refine SemY.regionL ?_
      refine RunL.segF (n := 71) e_evening_Relabel_ok 1 [(2, .sl 1 (x2.map cdI.enc)), (10, e27), (14, e42), (41, e27), (42, .v (.int .i64 (v26.length : Int))), (43, .v (.int .i64 c30)), (47, e34), (48, .v (.int .i64 (v33.length : Int))), (49, .v (.int .i64 c37)), (53, e42)] hp (by kernel_rfl) ?_
      refine RunL.one e_evening_Relabel_ok 0 rfl (op_q (wantedA_none rfl) rfl (q_len (a := e42) (by kernel_rfl) (len_B hT44 (by kernel_rfl)))) ?_
      refine RunL.segF (n := 71) e_evening_Relabel_ok 1 [(2, .sl 1 (x2.map cdI.enc)), (10, e27), (14, e42), (41, e27), (42, .v (.int .i64 (v26.length : Int))), (43, .v (.int .i64 c30)), (47, e34), (48, .v (.int .i64 (v33.length : Int))), (49, .v (.int .i64 c37)), (53, e42), (54, .v (.int .i64 (v40.length : Int))), (55, .v (.int .i64 0))] hp (by kernel_rfl) ?_
      refine RunL.done rfl (SemY.fr (l' := [(2, .sl 1 (x2.map cdI.enc)), (10, e27), (14, e42), (41, e27), (42, .v (.int .i64 (v26.length : Int))), (43, .v (.int .i64 c30)), (47, e34), (48, .v (.int .i64 (v33.length : Int))), (49, .v (.int .i64 c37)), (53, e42), (54, .v (.int .i64 (v40.length : Int))), (55, .v (.int .i64 0))]) (by kernel_rfl) ?_)
      refine SemY.block ?_
      have hT62 : T hp ((hole 1 50 (ocL 1 31 (ocL 1 3 (ocV cdI))) e27 c31 c30.toNat e34 v33) :: (hole 1 31 (ocL 1 3 (ocV cdI)) e34 c38 c37.toNat e42 v40) :: (own_ (ocL 1 3 (ocV cdI)) e42 v40) :: L) := ((hT44.front 1 rfl).front 2 rfl)
      refine SemY.loop (n := 100000) ?_
      obtain ⟨r63, hr63, h⟩ := Option.bind_eq_some_iff.1 h
      refine SemYN.cutT (SemYN.wk WkY.f1 (evening_Relabel_3_ok x2 c37 c38 v40 v26 e27 c30 c31 v33 e34 e42 _ 0 v40 _ hr63  hp hT62)) ?_
      rintro _ ⟨hp64, hT65, rfl⟩
      refine SemY.regionL ?_
      refine RunL.segF (n := 71) e_evening_Relabel_ok 2 [(2, .sl 1 (x2.map cdI.enc)), (10, e27), (41, e27), (42, .v (.int .i64 (v26.length : Int))), (43, .v (.int .i64 c30)), (47, e34), (48, .v (.int .i64 (v33.length : Int))), (49, .v (.int .i64 (wr .i64 (c37 + 1))))] hp64 (by kernel_rfl) ?_
      refine RunL.done rfl ?_
      exact SemYN.wk WkY.f1 (ih0 (wr .i64 (c37 + 1)) r63 _ h  hp64 hT65)
    · rw [if_f hb39] at h
      refine SemY.exit ?_
      have hq := Option.some.inj h; subst hq
      have hT69 : T hp ((own_ (ocL 1 31 (ocL 1 3 (ocV cdI))) e34 c38) :: (hole 1 50 (ocL 1 31 (ocL 1 3 (ocV cdI))) e27 c31 c30.toNat e34 v33) :: L) := ((hT.front 0 rfl).front 1 rfl)
      have hT70 : T hp ((own_ (ocL 1 50 (ocL 1 31 (ocL 1 3 (ocV cdI)))) e27 (c31.set c30.toNat c38)) :: L) := (T.merge hT69)
      exact ⟨rfl, _, ⟨hp, hT70, rfl⟩, WkY.f1⟩
set_option maxHeartbeats 4000000 in
set_option maxRecDepth 100000 in
theorem evening_Relabel_1_ok {L : List Asn} (x2 : (List Int)) (v26 : (List (List (List Int)))) (e27 : AV) : ∀ (f : Nat) (c30 : Int) (c31 : (List (List (List Int)))) (r : ((List (List (List Int))))), evening_Relabel_1 x2 v26 f c30 c31 = some r → ∀ (hp : Hp), T hp ((own_ (ocL 1 50 (ocL 1 31 (ocL 1 3 (ocV cdI)))) e27 c31) :: L) → SemYN e_evening_Relabel ⟨none, false⟩ (pc cb_evening_Relabel [1, 1, 1, 1, 0, 1, 0, 0]) f ⟨Fr 71 [(2, .sl 1 (x2.map cdI.enc)), (10, e27), (41, e27), (42, .v (.int .i64 (v26.length : Int))), (43, .v (.int .i64 c30))], hp⟩ (fun e s => e = (.exit 0) ∧ ∃ s2, (∃ (h' : Hp), T h' ((own_ (ocL 1 50 (ocL 1 31 (ocL 1 3 (ocV cdI)))) e27 r) :: L) ∧ s2 = ⟨Fr 71 [(10, e27)], h'⟩) ∧ WkY e_evening_Relabel s s2) := by
  intro f
  induction f with
  | zero => intro c30 c31 r h; cases h
  | succ f ih0 =>
    intro c30 c31 r h  hp hT
    unfold evening_Relabel_1 at h
    refine SemYN.succ ?_
    refine SemY.seq ?_
    refine SemY.regionL ?_
    refine RunL.segF (n := 71) e_evening_Relabel_ok 1 [(2, .sl 1 (x2.map cdI.enc)), (10, e27), (41, e27), (42, .v (.int .i64 (v26.length : Int))), (43, .v (.int .i64 c30)), (44, .v (.bool (decide (c30 < (v26.length : Int)))))] hp (by kernel_rfl) ?_
    refine RunL.done rfl (SemY.fr (l' := [(2, .sl 1 (x2.map cdI.enc)), (10, e27), (41, e27), (42, .v (.int .i64 (v26.length : Int))), (43, .v (.int .i64 c30)), (44, .v (.bool (decide (c30 < (v26.length : Int)))))]) (by kernel_rfl) ?_)
    refine SemY.seq ?_
    refine SemY.cond (b := (decide (c30 < (v26.length : Int)))) (by kernel_rfl) (fun hb32 => ?_) (fun hb32 => ?_)
    · rw [if_pos hb32] at h
      refine SemY.skip ?_
      refine SemY.seq ?_
      refine SemY.block ?_
      refine SemY.seq ?_
      refine SemY.regionL ?_
      obtain ⟨v33, hv33, h⟩ := Option.bind_eq_some_iff.1 h
      refine RunL.one e_evening_Relabel_ok 0 rfl (op_q (wantedA_none rfl) rfl (q_indexAddr (a := e27) (b := .v (.int .i64 c30)) (by kernel_rfl) (by kernel_rfl) (ix_B (bytes := 24) hT (by kernel_rfl) hv33))) ?_
      obtain ⟨e34, hl35, hT360⟩ := ld_child (P := Tryd.prog) (ty := 50) hT (idx_at hv33).2 (by kernel_rfl) (by kernel_rfl)
      have hT36 : T hp ((own_ (ocL 1 31 (ocL 1 3 (ocV cdI))) e34 v33) :: (hole 1 50 (ocL 1 31 (ocL 1 3 (ocV cdI))) e27 c31 c30.toNat e34 v33) :: L) := hT360
      refine RunL.one e_evening_Relabel_ok 0 rfl (op_q (wantedA_none rfl) rfl (q_load (p := eAt e27 c30.toNat) (by kernel_rfl) hl35)) ?_
      refine RunL.segF (n := 71) e_evening_Relabel_ok 1 [(2, .sl 1 (x2.map cdI.enc)), (10, e27), (12, e34), (41, e27), (42, .v (.int .i64 (v26.length : Int))), (43, .v (.int .i64 c30))] hp (by kernel_rfl) ?_
      refine RunL.done rfl (SemY.fr (l' := [(2, .sl 1 (x2.map cdI.enc)), (10, e27), (12, e34), (41, e27), (42, .v (.int .i64 (v26.length : Int))), (43, .v (.int .i64 c30))]) (by kernel_rfl) ?_)
      refine SemY.seq ?_
      refine SemY.regionL ?_
      refine RunL.segF (n := 71) e_evening_Relabel_ok 1 [(2, .sl 1 (x2.map cdI.enc)), (10, e27), (41, e27), (42, .v (.int .i64 (v26.length : Int))), (43, .v (.int .i64 c30)), (47, e34)] hp (by kernel_rfl) ?_
      refine RunL.one e_evening_Relabel_ok 0 rfl (op_q (wantedA_none rfl) rfl (q_len (a := e34) (by kernel_rfl) (len_B hT36 (by kernel_rfl)))) ?_
      refine RunL.segF (n := 71) e_evening_Relabel_ok 1 [(2, .sl 1 (x2.map cdI.enc)), (10, e27), (41, e27), (42, .v (.int .i64 (v26.length : Int))), (43, .v (.int .i64 c30)), (47, e34), (48, .v (.int .i64 (v33.length : Int))), (49, .v (.int .i64 0))] hp (by kernel_rfl) ?_
      refine RunL.done rfl (SemY.fr (l' := [(2, .sl 1 (x2.map cdI.enc)), (10, e27), (41, e27), (42, .v (.int .i64 (v26.length : Int))), (43, .v (.int .i64 c30)), (47, e34), (48, .v (.int .i64 (v33.length : Int))), (49, .v (.int .i64 0))]) (by kernel_rfl) ?_)
      refine SemY.block ?_
      have hT71 : T hp ((hole 1 50 (ocL 1 31 (ocL 1 3 (ocV cdI))) e27 c31 c30.toNat e34 v33) :: (own_ (ocL 1 31 (ocL 1 3 (ocV cdI))) e34 v33) :: L) := (hT36.front 1 rfl)
      refine SemY.loop (n := 100000) ?_
      obtain ⟨r72, hr72, h⟩ := Option.bind_eq_some_iff.1 h
      refine SemYN.cutT (SemYN.wk WkY.f1 (evening_Relabel_2_ok x2 c30 c31 v33 v26 e27 e34 _ 0 v33 _ hr72  hp hT71)) ?_
      rintro _ ⟨hp73, hT74, rfl⟩
      refine SemY.regionL ?_
      refine RunL.segF (n := 71) e_evening_Relabel_ok 2 [(2, .sl 1 (x2.map cdI.enc)), (10, e27), (41, e27), (42, .v (.int .i64 (v26.length : Int))), (43, .v (.int .i64 (wr .i64 (c30 + 1))))] hp73 (by kernel_rfl) ?_
      refine RunL.done rfl ?_
      exact SemYN.wk WkY.f1 (ih0 (wr .i64 (c30 + 1)) r72 _ h  hp73 hT74)
    · rw [if_f hb32] at h
      refine SemY.exit ?_
      have hq := Option.some.inj h; subst hq
      exact ⟨rfl, _, ⟨hp, hT, rfl⟩, WkY.f1⟩
set_option maxHeartbeats 4000000 in
set_option maxRecDepth 100000 in
theorem evening_Relabel_sem {L : List Asn} {hp : Hp} (x0 : Int) (x1 : (List (List (List Int)))) (x2 : (List Int)) (r : (List (List (List Int))) × Int) (h : evening_Relabel x0 x1 x2 = some r) (hT : T hp (L)) : SemY e_evening_Relabel ⟨none, false⟩ cb_evening_Relabel ⟨Fr 71 (pairs0 0 [.v (.int .i64 x0), .sl 1 (x1.map (cdL 1 (cdL 1 cdI)).enc), .sl 1 (x2.map cdI.enc)]), hp⟩ fun x s' => (x = .normal ∨ x = .ret) ∧ ∃ ys, resA e_evening_Relabel.P s'.fr s'.hp Tryd.f29.results.toList = some ys ∧ (fun v h' => v = .tp [.sl 1 (r.1.map (cdL 1 (cdL 1 cdI)).enc), .v (.int .i64 r.2)] ∧ T h' (L)) (retA ys) s'.hp := by
  unfold evening_Relabel at h
  refine SemY.wkQ (SemY.wk (s1 := ⟨Fr 71 [(0, .v (.int .i64 x0)), (1, .sl 1 (x1.map (cdL 1 (cdL 1 cdI)).enc)), (2, .sl 1 (x2.map cdI.enc))], hp⟩) WkY.f1 ?_)
  refine SemY.seq ?_
  refine SemY.regionL ?_
  refine RunL.segF (n := 71) e_evening_Relabel_ok 2 [(0, .v (.int .i64 x0)), (1, .sl 1 (x1.map (cdL 1 (cdL 1 cdI)).enc)), (2, .sl 1 (x2.map cdI.enc))] hp (by kernel_rfl) ?_
  refine RunL.done rfl (SemY.fr (l' := [(0, .v (.int .i64 x0)), (1, .sl 1 (x1.map (cdL 1 (cdL 1 cdI)).enc)), (2, .sl 1 (x2.map cdI.enc))]) (by kernel_rfl) ?_)
  refine SemY.seq ?_
  refine SemY.seq ?_
  refine SemY.regionL ?_
  refine RunL.segF (n := 71) e_evening_Relabel_ok 2 [(0, .v (.int .i64 x0)), (1, .sl 1 (x1.map (cdL 1 (cdL 1 cdI)).enc)), (2, .sl 1 (x2.map cdI.enc)), (18, .v (.int .i64 x0)), (19, .sl 1 (x1.map (cdL 1 (cdL 1 cdI)).enc))] hp (by kernel_rfl) ?_
  obtain ⟨v1, hv1, h⟩ := Option.bind_eq_some_iff.1 h
  refine RunL.call e_evening_Relabel_ok (fid := 27) (b := v1) (s := cs_evening_Check) (F := fun a => evening_Check a.1 a.2.1 a.2.2.1) (er := er_evening_Check) (xs := [.v (.int .i64 x0), .e0, .sl 1 (x1.map (cdL 1 (cdL 1 cdI)).enc)]) (a := (x0, [], x1, ())) rfl (wantedA_none rfl) (by kernel_rfl) (by kernel_rfl) (by kernel_rfl) (by kernel_rfl) (Sns.cons (Sn.enc (c := cdI) (v := x0)) (Sns.cons Sn.e0 (Sns.cons (Sn.enc (c := (cdL 1 (cdL 1 (cdL 1 cdI)))) (v := x1)) Sns.nil))) (.inl (by kernel_rfl)) hv1 ?_
  refine RunL.segF (n := 71) e_evening_Relabel_ok 5 [(0, .v (.int .i64 x0)), (1, .sl 1 (x1.map (cdL 1 (cdL 1 cdI)).enc)), (2, .sl 1 (x2.map cdI.enc)), (9, .v (.int .i64 v1.2))] hp (by kernel_rfl) ?_
  refine RunL.done rfl (SemY.fr (l' := [(0, .v (.int .i64 x0)), (1, .sl 1 (x1.map (cdL 1 (cdL 1 cdI)).enc)), (2, .sl 1 (x2.map cdI.enc)), (9, .v (.int .i64 v1.2))]) (by kernel_rfl) ?_)
  refine SemY.seq ?_
  refine SemY.regionL ?_
  refine RunL.segF (n := 71) e_evening_Relabel_ok 2 [(0, .v (.int .i64 x0)), (1, .sl 1 (x1.map (cdL 1 (cdL 1 cdI)).enc)), (2, .sl 1 (x2.map cdI.enc)), (9, .v (.int .i64 v1.2)), (24, .v (.bool (v1.2 != 0)))] hp (by kernel_rfl) ?_
  refine RunL.done rfl (SemY.fr (l' := [(0, .v (.int .i64 x0)), (1, .sl 1 (x1.map (cdL 1 (cdL 1 cdI)).enc)), (2, .sl 1 (x2.map cdI.enc)), (9, .v (.int .i64 v1.2)), (24, .v (.bool (v1.2 != 0)))]) (by kernel_rfl) ?_)
  refine SemY.cond (b := (v1.2 != 0)) (by kernel_rfl) (fun hb2 => ?_) (fun hb2 => ?_)
  · rw [if_pos hb2] at h
    refine SemY.seq ?_
    refine SemY.regionL ?_
    refine RunL.segF (n := 71) e_evening_Relabel_ok 3 [(6, .e0), (7, .v (.int .i64 v1.2))] hp (by kernel_rfl) ?_
    refine RunL.done rfl (SemY.fr (l' := [(6, .e0), (7, .v (.int .i64 v1.2))]) (by kernel_rfl) ?_)
    refine SemY.ret ?_
    have hq := Option.some.inj h; subst hq
    have hT3 : T hp ((own_ (ocL 1 50 (ocL 1 31 (ocL 1 3 (ocV cdI)))) .e0 ([] : (List (List (List Int))))) :: L) := (T.e0 (o := (ocL 1 31 (ocL 1 3 (ocV cdI)))) hT)
    obtain ⟨hp4, hw5, hT60⟩ := WkY.frzT (E := e_evening_Relabel) (n := 71) (l := [(6, .e0), (7, .v (.int .i64 v1.2))]) (l' := [(6, .sl 1 (([] : (List (List (List Int)))).map (cdL 1 (cdL 1 cdI)).enc)), (7, .v (.int .i64 v1.2))]) hT3 (LkT.at_ ⟨.inr ⟨(by kernel_rfl), rfl⟩, .inl (by kernel_rfl), trivial⟩)
    have hT6 : T hp4 (L) := hT60
    exact ⟨⟨Fr 71 [(6, .sl 1 (([] : (List (List (List Int)))).map (cdL 1 (cdL 1 cdI)).enc)), (7, .v (.int .i64 v1.2))], hp4⟩, (WkY.trans (WkY.trans WkY.f1 hw5) WkY.f1), .inr rfl, [.sl 1 (([] : (List (List (List Int)))).map (cdL 1 (cdL 1 cdI)).enc), .v (.int .i64 v1.2)], (by kernel_rfl), ⟨rfl, hT6⟩⟩
  · rw [if_f hb2] at h
    refine SemY.skip ?_
    refine SemY.seq ?_
    refine SemY.seq ?_
    obtain ⟨j16, hj16, h⟩ := Option.bind_eq_some_iff.1 h
    refine SemY.regT (A := fun s1 => ∃ (h' : Hp), T h' (L) ∧ s1 = ⟨Fr 71 [(1, .sl 1 (x1.map (cdL 1 (cdL 1 cdI)).enc)), (2, .sl 1 (x2.map cdI.enc)), (38, .v (.bool j16))], h'⟩) ?_ ?_
    · refine RunL.segF (n := 71) e_evening_Relabel_ok 1 [(0, .v (.int .i64 x0)), (1, .sl 1 (x1.map (cdL 1 (cdL 1 cdI)).enc)), (2, .sl 1 (x2.map cdI.enc)), (26, .sl 1 (x2.map cdI.enc))] hp (by kernel_rfl) ?_
      refine RunL.one e_evening_Relabel_ok 0 rfl (op_q (wantedA_none rfl) rfl (q_len (a := .sl 1 (x2.map cdI.enc)) (by kernel_rfl) (len_sl (el := 3) (by kernel_rfl)))) ?_
      refine RunL.segF (n := 71) e_evening_Relabel_ok 3 [(0, .v (.int .i64 x0)), (1, .sl 1 (x1.map (cdL 1 (cdL 1 cdI)).enc)), (2, .sl 1 (x2.map cdI.enc)), (30, .v (.bool ((x2.length : Int) != x0)))] hp (by kernel_rfl) ?_
      rcases Bool.eq_false_or_eq_true ((x2.length : Int) != x0) with hc82 | hc82
      · rw [if_pos hc82] at hj16
        rw [hc82]
        refine RunL.segF (n := 71) e_evening_Relabel_ok 8 [(1, .sl 1 (x1.map (cdL 1 (cdL 1 cdI)).enc)), (2, .sl 1 (x2.map cdI.enc)), (38, .v (.bool true))] hp (by kernel_rfl) ?_
        have hq := Option.some.inj hj16; subst hq
        exact RunL.done rfl ⟨_, ⟨hp, hT, rfl⟩, WkY.f1⟩
      · rw [if_f hc82] at hj16
        rw [hc82]
        refine RunL.segF (n := 71) e_evening_Relabel_ok 2 [(1, .sl 1 (x1.map (cdL 1 (cdL 1 cdI)).enc)), (2, .sl 1 (x2.map cdI.enc)), (30, .v (.bool false)), (31, .v (.int .i64 x0)), (32, .v (.int .i64 x0))] hp (by kernel_rfl) ?_
        obtain ⟨e10, hp7, hb8, hT90⟩ := lit_ownB (P := Tryd.prog) (bytes := 8) (k := 1) (t := 3) (ty := 31) (xs := ([x0] : List Int)) (n := 1) (fit_V (k := 1) (fun _ => ⟨rfl, rfl, rfl⟩)) (els_leaf (c := cdI) (xs := ([x0] : List Int)) hT) rfl (by kernel_rfl) (by kernel_rfl) (by kernel_rfl)
        have hT9 : T hp7 ((own_ (ocL 1 3 (ocV cdI)) e10 ([x0] : List Int)) :: L) := hT90
        refine RunL.one e_evening_Relabel_ok 0 rfl (op_n (by kernel_rfl) rfl (by kernel_rfl) (n_lit (xs := enumA 0 [.v (.int .i64 x0)]) (by kernel_rfl) hb8)) ?_
        refine RunL.segF (n := 71) e_evening_Relabel_ok 1 [(1, .sl 1 (x1.map (cdL 1 (cdL 1 cdI)).enc)), (2, .sl 1 (x2.map cdI.enc)), (30, .v (.bool false)), (31, .v (.int .i64 x0)), (33, e10), (34, .sl 1 (x2.map cdI.enc))] hp7 (by kernel_rfl) ?_
        obtain ⟨e14, hp11, hb12, hT130⟩ := lit_ownB (P := Tryd.prog) (bytes := 24) (k := 1) (t := 31) (ty := 50) (xs := ([x2] : List (List Int))) (n := 1) (fit_V (k := 1) (fun _ => ⟨rfl, rfl, rfl⟩)) (els_leaf (c := (cdL 1 cdI)) (xs := ([x2] : List (List Int))) hT9) rfl (by kernel_rfl) (by kernel_rfl) (by kernel_rfl)
        have hT13 : T hp11 ((own_ (ocL 1 31 (ocV (cdL 1 cdI))) e14 ([x2] : List (List Int))) :: (own_ (ocL 1 3 (ocV cdI)) e10 ([x0] : List Int)) :: L) := hT130
        refine RunL.one e_evening_Relabel_ok 0 rfl (op_n (by kernel_rfl) rfl (by kernel_rfl) (n_lit (xs := enumA 0 [.sl 1 (x2.map cdI.enc)]) (by kernel_rfl) hb12)) ?_
        obtain ⟨v15, hv15, hj16⟩ := Option.bind_eq_some_iff.1 hj16
        refine RunL.callD e_evening_Relabel_ok (fid := 83) (b := v15) (s := cs_evening_check) (F := fun a => evening_check a.1 a.2.1 a.2.2.1) (er := er_evening_check) (xs := [.v (.int .i64 x0), e10, e14]) (a := (x0, ([x0] : List Int), ([x2] : List (List Int)), ())) rfl (by kernel_rfl) (by kernel_rfl) (by kernel_rfl) (by kernel_rfl) (SeesD.cons (SeeD.enc (c := cdI) (v := x0)) (SeesD.cons (SeeD.own hT13 (i := 1) rfl) (SeesD.cons (SeeD.own hT13 (i := 0) rfl) SeesD.nil))) (by kernel_rfl) hv15 ?_
        refine RunL.segF (n := 71) e_evening_Relabel_ok 2 [(1, .sl 1 (x1.map (cdL 1 (cdL 1 cdI)).enc)), (2, .sl 1 (x2.map cdI.enc)), (38, .v (.bool (v15 != 0)))] hp11 (by kernel_rfl) ?_
        have hq := Option.some.inj hj16; subst hq
        have hT18 : T hp11 (L) := hT13.drop.drop
        exact RunL.done rfl ⟨_, ⟨hp11, hT18, rfl⟩, WkY.f1⟩
    rintro _ ⟨hp19, hT20, rfl⟩
    refine SemY.cond (b := j16) (by kernel_rfl) (fun hb21 => ?_) (fun hb21 => ?_)
    · rw [if_pos hb21] at h
      refine SemY.seq ?_
      refine SemY.regionL ?_
      refine RunL.segF (n := 71) e_evening_Relabel_ok 2 [(6, .e0), (7, .v (.int .i64 2))] hp19 (by kernel_rfl) ?_
      refine RunL.done rfl (SemY.fr (l' := [(6, .e0), (7, .v (.int .i64 2))]) (by kernel_rfl) ?_)
      refine SemY.ret ?_
      have hq := Option.some.inj h; subst hq
      have hT22 : T hp19 ((own_ (ocL 1 50 (ocL 1 31 (ocL 1 3 (ocV cdI)))) .e0 ([] : (List (List (List Int))))) :: L) := (T.e0 (o := (ocL 1 31 (ocL 1 3 (ocV cdI)))) hT20)
      obtain ⟨hp23, hw24, hT250⟩ := WkY.frzT (E := e_evening_Relabel) (n := 71) (l := [(6, .e0), (7, .v (.int .i64 2))]) (l' := [(6, .sl 1 (([] : (List (List (List Int)))).map (cdL 1 (cdL 1 cdI)).enc)), (7, .v (.int .i64 2))]) hT22 (LkT.at_ ⟨.inr ⟨(by kernel_rfl), rfl⟩, .inl (by kernel_rfl), trivial⟩)
      have hT25 : T hp23 (L) := hT250
      exact ⟨⟨Fr 71 [(6, .sl 1 (([] : (List (List (List Int)))).map (cdL 1 (cdL 1 cdI)).enc)), (7, .v (.int .i64 2))], hp23⟩, (WkY.trans (WkY.trans WkY.f1 hw24) WkY.f1), .inr rfl, [.sl 1 (([] : (List (List (List Int)))).map (cdL 1 (cdL 1 cdI)).enc), .v (.int .i64 2)], (by kernel_rfl), ⟨rfl, hT25⟩⟩
    · rw [if_f hb21] at h
      refine SemY.skip ?_
      refine SemY.seq ?_
      refine SemY.regionL ?_
      refine RunL.segF (n := 71) e_evening_Relabel_ok 1 [(2, .sl 1 (x2.map cdI.enc)), (39, .sl 1 (x1.map (cdL 1 (cdL 1 cdI)).enc))] hp19 (by kernel_rfl) ?_
      obtain ⟨v26, hv26, h⟩ := Option.bind_eq_some_iff.1 h
      refine RunL.inlT (E := e_evening_Relabel) (e := e_evening_clone_d) rfl rfl e_evening_clone_d_ok rfl rfl (fid := 79) (caps := []) (xs := [.sl 1 (x1.map (cdL 1 (cdL 1 cdI)).enc)]) (fn := Tryd.f79) (c := cb_evening_clone_d) (Out := fun v h' => ∃ (z0 : AV), v = z0 ∧ T h' ((own_ (ocL 1 50 (ocL 1 31 (ocL 1 3 (ocV cdI)))) z0 v26) :: L)) rfl (wantedA_none rfl) (by kernel_rfl) (by kernel_rfl) (by kernel_rfl) (by kernel_rfl) (by show 1 ≤ 33; decide) (evening_clone_d_sem x1 _ hv26 hT20) ?_
      rintro xx hp28 ⟨e27, hqhp28, hT290⟩; subst xx
      have hT29 : T hp28 ((own_ (ocL 1 50 (ocL 1 31 (ocL 1 3 (ocV cdI)))) e27 v26) :: L) := hT290
      refine RunL.segF (n := 71) e_evening_Relabel_ok 1 [(2, .sl 1 (x2.map cdI.enc)), (10, e27)] hp28 (by kernel_rfl) ?_
      refine RunL.done rfl (SemY.fr (l' := [(2, .sl 1 (x2.map cdI.enc)), (10, e27)]) (by kernel_rfl) ?_)
      refine SemY.seq ?_
      refine SemY.seq ?_
      refine SemY.regionL ?_
      refine RunL.segF (n := 71) e_evening_Relabel_ok 1 [(2, .sl 1 (x2.map cdI.enc)), (10, e27), (41, e27)] hp28 (by kernel_rfl) ?_
      refine RunL.one e_evening_Relabel_ok 0 rfl (op_q (wantedA_none rfl) rfl (q_len (a := e27) (by kernel_rfl) (len_B hT29 (by kernel_rfl)))) ?_
      refine RunL.segF (n := 71) e_evening_Relabel_ok 1 [(2, .sl 1 (x2.map cdI.enc)), (10, e27), (41, e27), (42, .v (.int .i64 (v26.length : Int))), (43, .v (.int .i64 0))] hp28 (by kernel_rfl) ?_
      refine RunL.done rfl (SemY.fr (l' := [(2, .sl 1 (x2.map cdI.enc)), (10, e27), (41, e27), (42, .v (.int .i64 (v26.length : Int))), (43, .v (.int .i64 0))]) (by kernel_rfl) ?_)
      refine SemY.block ?_
      refine SemY.loop (n := 100000) ?_
      obtain ⟨r76, hr76, h⟩ := Option.bind_eq_some_iff.1 h
      refine SemYN.cutT (SemYN.wk WkY.f1 (evening_Relabel_1_ok x2 v26 e27 _ 0 v26 _ hr76  hp28 hT29)) ?_
      rintro _ ⟨hp77, hT78, rfl⟩
      refine SemY.seq ?_
      refine SemY.regionL ?_
      refine RunL.segF (n := 71) e_evening_Relabel_ok 3 [(6, e27), (7, .v (.int .i64 0))] hp77 (by kernel_rfl) ?_
      refine RunL.done rfl (SemY.fr (l' := [(6, e27), (7, .v (.int .i64 0))]) (by kernel_rfl) ?_)
      refine SemY.ret ?_
      have hq := Option.some.inj h; subst hq
      obtain ⟨hp79, hw80, hT810⟩ := WkY.frzT (E := e_evening_Relabel) (n := 71) (l := [(6, e27), (7, .v (.int .i64 0))]) (l' := [(6, .sl 1 (r76.map (cdL 1 (cdL 1 cdI)).enc)), (7, .v (.int .i64 0))]) hT78 (LkT.at_ ⟨.inr ⟨(by kernel_rfl), rfl⟩, .inl (by kernel_rfl), trivial⟩)
      have hT81 : T hp79 (L) := hT810
      exact ⟨⟨Fr 71 [(6, .sl 1 (r76.map (cdL 1 (cdL 1 cdI)).enc)), (7, .v (.int .i64 0))], hp79⟩, (WkY.trans (WkY.trans WkY.f1 hw80) WkY.f1), .inr rfl, [.sl 1 (r76.map (cdL 1 (cdL 1 cdI)).enc), .v (.int .i64 0)], (by kernel_rfl), ⟨rfl, hT81⟩⟩
def cs_evening_Relabel : Cs (Int × (List (List (List Int))) × (List Int) × Unit) := (csC cdI (csC (cdL 1 (cdL 1 (cdL 1 cdI))) (csC (cdL 1 cdI) csN)))
def er_evening_Relabel (r : (List (List (List Int))) × Int) : AV := .tp [(cdL 1 (cdL 1 (cdL 1 cdI))).enc r.1, cdI.enc r.2]
def t_evening_Relabel : List AV → Option AV := told cs_evening_Relabel (fun a => evening_Relabel a.1 a.2.1 a.2.2.1) er_evening_Relabel
theorem x_evening_Relabel : XOk 29 t_evening_Relabel := by
  refine EnvOk.x (E := e_evening_Relabel) (contract_ok e_evening_Relabel_ok (fn := Tryd.f29) (c := cb_evening_Relabel) ?h1 ?h2 ⟨Tryd.call29⟩ cs_evening_Relabel (fun a => evening_Relabel a.1 a.2.1 a.2.2.1) er_evening_Relabel (fun a => (by show 3 ≤ 71; decide)) ?h3 ?h4) rfl rfl
  case h1 => kernel_rfl
  case h2 => kernel_rfl
  case h3 => intro b; kernel_rfl
  case h4 =>
    intro a b h
    refine Sem.mono (Sem.ofY (evening_Relabel_sem (L := []) (hp := []) a.1 a.2.1 a.2.2.1 b h T.nil)) fun e s' hs => ?_
    obtain ⟨h1, ys, h2, h3, -⟩ := hs
    exact ⟨h1, ys, h2, h3⟩
/- trestle/evening.Join -/
noncomputable def e_evening_Join : Env := (E0.withX 27 t_evening_Check)
theorem e_evening_Join_ok : EnvOk e_evening_Join := (EnvOk.withX E0_ok x_evening_Check.1 x_evening_Check.2)
noncomputable def cb_evening_Join : Code := codeOf Tryd.f30
def evening_Join_1 (x0 : Int) (x1 : (List (List (List Int)))) (x2 : (List (List (List Int)))) : Nat → Int → Option ((Unit) ⊕ (Int))
  | 0, _ => none
  | f + 1, c5 =>
    if (decide (c5 < (([x1, x2] : List (List (List (List Int)))).length : Int))) = true then
    (idx ([x1, x2] : List (List (List (List Int)))) c5).bind fun v7 =>
    (evening_Check x0 [] v7).bind fun v8 =>
    if (v8.2 != 0) = true then
    some (.inr v8.2)
    else
    evening_Join_1 x0 x1 x2 f (wr .i64 (c5 + 1))
    else
    some (.inl ())
def evening_Join (x0 : Int) (x1 : (List (List (List Int)))) (x2 : (List (List (List Int)))) : Option ((List (List (List Int))) × Int) :=
  (evening_Join_1 x0 x1 x2 100000 0).bind fun r13 =>
  match r13 with
  | (.inl _w14) =>
    if (decide ((wr .i64 ((x1.length : Int) + (x2.length : Int))) > 64)) = true then
    some (([] : (List (List (List Int)))), 7)
    else
    (evening_clone_d x1).bind fun v22 =>
    (evening_clone_d x2).bind fun v26 =>
    if (capOk 24 (v22.length + v26.length)) = true then
    some ((v22 ++ v26), 0)
    else none
  | (.inr w39) =>
    some (([] : (List (List (List Int)))), w39)
set_option maxHeartbeats 4000000 in
set_option maxRecDepth 100000 in
theorem evening_Join_1_ok {L : List Asn} (x0 : Int) (x1 : (List (List (List Int)))) (x2 : (List (List (List Int)))) (e4 : AV) : ∀ (f : Nat) (c5 : Int) (r : (Unit) ⊕ (Int)), evening_Join_1 x0 x1 x2 f c5 = some r → ∀ (hp : Hp), T hp ((own_ (ocL 1 22 (ocV (cdL 1 (cdL 1 (cdL 1 cdI))))) e4 ([x1, x2] : List (List (List (List Int))))) :: L) → SemYN e_evening_Join ⟨none, false⟩ (pc cb_evening_Join [1, 0, 1, 0, 0]) f ⟨Fr 41 [(0, .v (.int .i64 x0)), (1, .sl 1 (x1.map (cdL 1 (cdL 1 cdI)).enc)), (2, .sl 1 (x2.map (cdL 1 (cdL 1 cdI)).enc)), (14, e4), (15, .v (.int .i64 (([x1, x2] : List (List (List (List Int)))).length : Int))), (16, .v (.int .i64 c5))], hp⟩ (fun e s => match r with
  | (.inl _w) => e = (.exit 0) ∧ ∃ s2, (∃ (h' : Hp), T h' (L) ∧ s2 = ⟨Fr 41 [(1, .sl 1 (x1.map (cdL 1 (cdL 1 cdI)).enc)), (2, .sl 1 (x2.map (cdL 1 (cdL 1 cdI)).enc))], h'⟩) ∧ WkY e_evening_Join s s2
  | (.inr w) => e = .ret ∧ ∃ s2, (∃ (h' : Hp), T h' (L) ∧ s2 = ⟨Fr 41 [(6, .e0), (7, .v (.int .i64 w))], h'⟩) ∧ WkY e_evening_Join s s2) := by
  intro f
  induction f with
  | zero => intro c5 r h; cases h
  | succ f ih0 =>
    intro c5 r h  hp hT
    unfold evening_Join_1 at h
    refine SemYN.succ ?_
    refine SemY.seq ?_
    refine SemY.regionL ?_
    refine RunL.segF (n := 41) e_evening_Join_ok 1 [(0, .v (.int .i64 x0)), (1, .sl 1 (x1.map (cdL 1 (cdL 1 cdI)).enc)), (2, .sl 1 (x2.map (cdL 1 (cdL 1 cdI)).enc)), (14, e4), (15, .v (.int .i64 (([x1, x2] : List (List (List (List Int)))).length : Int))), (16, .v (.int .i64 c5)), (17, .v (.bool (decide (c5 < (([x1, x2] : List (List (List (List Int)))).length : Int)))))] hp (by kernel_rfl) ?_
    refine RunL.done rfl (SemY.fr (l' := [(0, .v (.int .i64 x0)), (1, .sl 1 (x1.map (cdL 1 (cdL 1 cdI)).enc)), (2, .sl 1 (x2.map (cdL 1 (cdL 1 cdI)).enc)), (14, e4), (15, .v (.int .i64 (([x1, x2] : List (List (List (List Int)))).length : Int))), (16, .v (.int .i64 c5)), (17, .v (.bool (decide (c5 < (([x1, x2] : List (List (List (List Int)))).length : Int)))))]) (by kernel_rfl) ?_)
    refine SemY.seq ?_
    refine SemY.cond (b := (decide (c5 < (([x1, x2] : List (List (List (List Int)))).length : Int)))) (by kernel_rfl) (fun hb6 => ?_) (fun hb6 => ?_)
    · rw [if_pos hb6] at h
      refine SemY.skip ?_
      refine SemY.seq ?_
      refine SemY.block ?_
      refine SemY.seq ?_
      refine SemY.regionL ?_
      obtain ⟨v7, hv7, h⟩ := Option.bind_eq_some_iff.1 h
      refine RunL.one e_evening_Join_ok 0 rfl (op_q (wantedA_none rfl) rfl (q_indexAddr (a := e4) (b := .v (.int .i64 c5)) (by kernel_rfl) (by kernel_rfl) (ix_B (bytes := 24) hT (by kernel_rfl) hv7))) ?_
      refine RunL.one e_evening_Join_ok 0 rfl (op_q (wantedA_none rfl) rfl (q_load (p := eAt e4 c5.toNat) (by kernel_rfl) (ld_own0 (y := .sl 1 (v7.map (cdL 1 (cdL 1 cdI)).enc)) (m := 1) (g := false) hT (idx_at hv7).2 (by kernel_rfl) (by kernel_rfl) (by kernel_rfl)))) ?_
      refine RunL.segF (n := 41) e_evening_Join_ok 1 [(0, .v (.int .i64 x0)), (1, .sl 1 (x1.map (cdL 1 (cdL 1 cdI)).enc)), (2, .sl 1 (x2.map (cdL 1 (cdL 1 cdI)).enc)), (9, .sl 1 (v7.map (cdL 1 (cdL 1 cdI)).enc)), (14, e4), (15, .v (.int .i64 (([x1, x2] : List (List (List (List Int)))).length : Int))), (16, .v (.int .i64 c5))] hp (by kernel_rfl) ?_
      refine RunL.done rfl (SemY.fr (l' := [(0, .v (.int .i64 x0)), (1, .sl 1 (x1.map (cdL 1 (cdL 1 cdI)).enc)), (2, .sl 1 (x2.map (cdL 1 (cdL 1 cdI)).enc)), (9, .sl 1 (v7.map (cdL 1 (cdL 1 cdI)).enc)), (14, e4), (15, .v (.int .i64 (([x1, x2] : List (List (List (List Int)))).length : Int))), (16, .v (.int .i64 c5))]) (by kernel_rfl) ?_)
      refine SemY.seq ?_
      refine SemY.regionL ?_
      refine RunL.segF (n := 41) e_evening_Join_ok 2 [(0, .v (.int .i64 x0)), (1, .sl 1 (x1.map (cdL 1 (cdL 1 cdI)).enc)), (2, .sl 1 (x2.map (cdL 1 (cdL 1 cdI)).enc)), (14, e4), (15, .v (.int .i64 (([x1, x2] : List (List (List (List Int)))).length : Int))), (16, .v (.int .i64 c5)), (21, .v (.int .i64 x0)), (22, .sl 1 (v7.map (cdL 1 (cdL 1 cdI)).enc))] hp (by kernel_rfl) ?_
      obtain ⟨v8, hv8, h⟩ := Option.bind_eq_some_iff.1 h
      refine RunL.call e_evening_Join_ok (fid := 27) (b := v8) (s := cs_evening_Check) (F := fun a => evening_Check a.1 a.2.1 a.2.2.1) (er := er_evening_Check) (xs := [.v (.int .i64 x0), .e0, .sl 1 (v7.map (cdL 1 (cdL 1 cdI)).enc)]) (a := (x0, [], v7, ())) rfl (wantedA_none rfl) (by kernel_rfl) (by kernel_rfl) (by kernel_rfl) (by kernel_rfl) (Sns.cons (Sn.enc (c := cdI) (v := x0)) (Sns.cons Sn.e0 (Sns.cons (Sn.enc (c := (cdL 1 (cdL 1 (cdL 1 cdI)))) (v := v7)) Sns.nil))) (.inl (by kernel_rfl)) hv8 ?_
      refine RunL.segF (n := 41) e_evening_Join_ok 5 [(0, .v (.int .i64 x0)), (1, .sl 1 (x1.map (cdL 1 (cdL 1 cdI)).enc)), (2, .sl 1 (x2.map (cdL 1 (cdL 1 cdI)).enc)), (11, .v (.int .i64 v8.2)), (14, e4), (15, .v (.int .i64 (([x1, x2] : List (List (List (List Int)))).length : Int))), (16, .v (.int .i64 c5))] hp (by kernel_rfl) ?_
      refine RunL.done rfl (SemY.fr (l' := [(0, .v (.int .i64 x0)), (1, .sl 1 (x1.map (cdL 1 (cdL 1 cdI)).enc)), (2, .sl 1 (x2.map (cdL 1 (cdL 1 cdI)).enc)), (11, .v (.int .i64 v8.2)), (14, e4), (15, .v (.int .i64 (([x1, x2] : List (List (List (List Int)))).length : Int))), (16, .v (.int .i64 c5))]) (by kernel_rfl) ?_)
      refine SemY.seq ?_
      refine SemY.regionL ?_
      refine RunL.segF (n := 41) e_evening_Join_ok 2 [(0, .v (.int .i64 x0)), (1, .sl 1 (x1.map (cdL 1 (cdL 1 cdI)).enc)), (2, .sl 1 (x2.map (cdL 1 (cdL 1 cdI)).enc)), (11, .v (.int .i64 v8.2)), (14, e4), (15, .v (.int .i64 (([x1, x2] : List (List (List (List Int)))).length : Int))), (16, .v (.int .i64 c5)), (27, .v (.bool (v8.2 != 0)))] hp (by kernel_rfl) ?_
      refine RunL.done rfl (SemY.fr (l' := [(0, .v (.int .i64 x0)), (1, .sl 1 (x1.map (cdL 1 (cdL 1 cdI)).enc)), (2, .sl 1 (x2.map (cdL 1 (cdL 1 cdI)).enc)), (11, .v (.int .i64 v8.2)), (14, e4), (15, .v (.int .i64 (([x1, x2] : List (List (List (List Int)))).length : Int))), (16, .v (.int .i64 c5)), (27, .v (.bool (v8.2 != 0)))]) (by kernel_rfl) ?_)
      refine SemY.cond (b := (v8.2 != 0)) (by kernel_rfl) (fun hb9 => ?_) (fun hb9 => ?_)
      · rw [if_pos hb9] at h
        refine SemY.seq ?_
        refine SemY.regionL ?_
        refine RunL.segF (n := 41) e_evening_Join_ok 3 [(6, .e0), (7, .v (.int .i64 v8.2))] hp (by kernel_rfl) ?_
        refine RunL.done rfl (SemY.fr (l' := [(6, .e0), (7, .v (.int .i64 v8.2))]) (by kernel_rfl) ?_)
        refine SemY.ret ?_
        have hq := Option.some.inj h; subst hq
        have hT11 : T hp (L) := hT.drop
        exact ⟨rfl, _, ⟨hp, hT11, rfl⟩, WkY.f1⟩
      · rw [if_f hb9] at h
        refine SemY.skip ?_
        refine SemY.regionL ?_
        refine RunL.segF (n := 41) e_evening_Join_ok 2 [(0, .v (.int .i64 x0)), (1, .sl 1 (x1.map (cdL 1 (cdL 1 cdI)).enc)), (2, .sl 1 (x2.map (cdL 1 (cdL 1 cdI)).enc)), (14, e4), (15, .v (.int .i64 (([x1, x2] : List (List (List (List Int)))).length : Int))), (16, .v (.int .i64 (wr .i64 (c5 + 1))))] hp (by kernel_rfl) ?_
        refine RunL.done rfl ?_
        exact SemYN.wk WkY.f1 (ih0 (wr .i64 (c5 + 1)) _ h  hp hT)
    · rw [if_f hb6] at h
      refine SemY.exit ?_
      have hq := Option.some.inj h; subst hq
      have hT12 : T hp (L) := hT.drop
      exact ⟨rfl, _, ⟨hp, hT12, rfl⟩, WkY.f1⟩
set_option maxHeartbeats 4000000 in
set_option maxRecDepth 100000 in
theorem evening_Join_sem {L : List Asn} {hp : Hp} (x0 : Int) (x1 : (List (List (List Int)))) (x2 : (List (List (List Int)))) (r : (List (List (List Int))) × Int) (h : evening_Join x0 x1 x2 = some r) (hT : T hp (L)) : SemY e_evening_Join ⟨none, false⟩ cb_evening_Join ⟨Fr 41 (pairs0 0 [.v (.int .i64 x0), .sl 1 (x1.map (cdL 1 (cdL 1 cdI)).enc), .sl 1 (x2.map (cdL 1 (cdL 1 cdI)).enc)]), hp⟩ fun x s' => (x = .normal ∨ x = .ret) ∧ ∃ ys, resA e_evening_Join.P s'.fr s'.hp Tryd.f30.results.toList = some ys ∧ (fun v h' => v = .tp [.sl 1 (r.1.map (cdL 1 (cdL 1 cdI)).enc), .v (.int .i64 r.2)] ∧ T h' (L)) (retA ys) s'.hp := by
  unfold evening_Join at h
  refine SemY.wkQ (SemY.wk (s1 := ⟨Fr 41 [(0, .v (.int .i64 x0)), (1, .sl 1 (x1.map (cdL 1 (cdL 1 cdI)).enc)), (2, .sl 1 (x2.map (cdL 1 (cdL 1 cdI)).enc))], hp⟩) WkY.f1 ?_)
  refine SemY.seq ?_
  refine SemY.regionL ?_
  refine RunL.segF (n := 41) e_evening_Join_ok 2 [(0, .v (.int .i64 x0)), (1, .sl 1 (x1.map (cdL 1 (cdL 1 cdI)).enc)), (2, .sl 1 (x2.map (cdL 1 (cdL 1 cdI)).enc))] hp (by kernel_rfl) ?_
  refine RunL.done rfl (SemY.fr (l' := [(0, .v (.int .i64 x0)), (1, .sl 1 (x1.map (cdL 1 (cdL 1 cdI)).enc)), (2, .sl 1 (x2.map (cdL 1 (cdL 1 cdI)).enc))]) (by kernel_rfl) ?_)
  refine SemY.seq ?_
  refine SemY.seq ?_
  refine SemY.regionL ?_
  refine RunL.segF (n := 41) e_evening_Join_ok 2 [(0, .v (.int .i64 x0)), (1, .sl 1 (x1.map (cdL 1 (cdL 1 cdI)).enc)), (2, .sl 1 (x2.map (cdL 1 (cdL 1 cdI)).enc)), (12, .sl 1 (x1.map (cdL 1 (cdL 1 cdI)).enc)), (13, .sl 1 (x2.map (cdL 1 (cdL 1 cdI)).enc))] hp (by kernel_rfl) ?_
  obtain ⟨e4, hp1, hb2, hT30⟩ := lit_ownB (P := Tryd.prog) (bytes := 24) (k := 1) (t := 22) (ty := 89) (xs := ([x1, x2] : List (List (List (List Int))))) (n := 2) (fit_V (k := 1) (fun _ => ⟨rfl, rfl, rfl⟩)) (els_leaf (c := (cdL 1 (cdL 1 (cdL 1 cdI)))) (xs := ([x1, x2] : List (List (List (List Int))))) hT) rfl (by kernel_rfl) (by kernel_rfl) (by kernel_rfl)
  have hT3 : T hp1 ((own_ (ocL 1 22 (ocV (cdL 1 (cdL 1 (cdL 1 cdI))))) e4 ([x1, x2] : List (List (List (List Int))))) :: L) := hT30
  refine RunL.one e_evening_Join_ok 0 rfl (op_n (wantedA_none rfl) rfl (by kernel_rfl) (n_lit (xs := enumA 0 [.sl 1 (x1.map (cdL 1 (cdL 1 cdI)).enc), .sl 1 (x2.map (cdL 1 (cdL 1 cdI)).enc)]) (by kernel_rfl) hb2)) ?_
  refine RunL.one e_evening_Join_ok 0 rfl (op_q (wantedA_none rfl) rfl (q_len (a := e4) (by kernel_rfl) (len_B hT3 (by kernel_rfl)))) ?_
  refine RunL.segF (n := 41) e_evening_Join_ok 1 [(0, .v (.int .i64 x0)), (1, .sl 1 (x1.map (cdL 1 (cdL 1 cdI)).enc)), (2, .sl 1 (x2.map (cdL 1 (cdL 1 cdI)).enc)), (14, e4), (15, .v (.int .i64 (([x1, x2] : List (List (List (List Int)))).length : Int))), (16, .v (.int .i64 0))] hp1 (by kernel_rfl) ?_
  refine RunL.done rfl (SemY.fr (l' := [(0, .v (.int .i64 x0)), (1, .sl 1 (x1.map (cdL 1 (cdL 1 cdI)).enc)), (2, .sl 1 (x2.map (cdL 1 (cdL 1 cdI)).enc)), (14, e4), (15, .v (.int .i64 (([x1, x2] : List (List (List (List Int)))).length : Int))), (16, .v (.int .i64 0))]) (by kernel_rfl) ?_)
  refine SemY.block ?_
  refine SemY.loop (n := 100000) ?_
  obtain ⟨r13, hr13, h⟩ := Option.bind_eq_some_iff.1 h
  rcases r13 with w14 | w39
  · try dsimp only at h
    refine SemYN.cutT (SemYN.wk WkY.f1 (evening_Join_1_ok x0 x1 x2 e4 _ 0 _ hr13  hp1 hT3)) ?_
    rintro _ ⟨hp15, hT16, rfl⟩
    refine SemY.seq ?_
    refine SemY.seq ?_
    refine SemY.regionL ?_
    refine RunL.segF (n := 41) e_evening_Join_ok 1 [(1, .sl 1 (x1.map (cdL 1 (cdL 1 cdI)).enc)), (2, .sl 1 (x2.map (cdL 1 (cdL 1 cdI)).enc)), (30, .sl 1 (x1.map (cdL 1 (cdL 1 cdI)).enc))] hp15 (by kernel_rfl) ?_
    refine RunL.one e_evening_Join_ok 0 rfl (op_q (wantedA_none rfl) rfl (q_len (a := .sl 1 (x1.map (cdL 1 (cdL 1 cdI)).enc)) (by kernel_rfl) (len_sl (el := 50) (by kernel_rfl)))) ?_
    refine RunL.segF (n := 41) e_evening_Join_ok 1 [(1, .sl 1 (x1.map (cdL 1 (cdL 1 cdI)).enc)), (2, .sl 1 (x2.map (cdL 1 (cdL 1 cdI)).enc)), (31, .v (.int .i64 (x1.length : Int))), (32, .sl 1 (x2.map (cdL 1 (cdL 1 cdI)).enc))] hp15 (by kernel_rfl) ?_
    refine RunL.one e_evening_Join_ok 0 rfl (op_q (wantedA_none rfl) rfl (q_len (a := .sl 1 (x2.map (cdL 1 (cdL 1 cdI)).enc)) (by kernel_rfl) (len_sl (el := 50) (by kernel_rfl)))) ?_
    refine RunL.segF (n := 41) e_evening_Join_ok 2 [(1, .sl 1 (x1.map (cdL 1 (cdL 1 cdI)).enc)), (2, .sl 1 (x2.map (cdL 1 (cdL 1 cdI)).enc)), (35, .v (.bool (decide ((wr .i64 ((x1.length : Int) + (x2.length : Int))) > 64))))] hp15 (by kernel_rfl) ?_
    refine RunL.done rfl (SemY.fr (l' := [(1, .sl 1 (x1.map (cdL 1 (cdL 1 cdI)).enc)), (2, .sl 1 (x2.map (cdL 1 (cdL 1 cdI)).enc)), (35, .v (.bool (decide ((wr .i64 ((x1.length : Int) + (x2.length : Int))) > 64))))]) (by kernel_rfl) ?_)
    refine SemY.cond (b := (decide ((wr .i64 ((x1.length : Int) + (x2.length : Int))) > 64))) (by kernel_rfl) (fun hb17 => ?_) (fun hb17 => ?_)
    · rw [if_pos hb17] at h
      refine SemY.seq ?_
      refine SemY.regionL ?_
      refine RunL.segF (n := 41) e_evening_Join_ok 2 [(6, .e0), (7, .v (.int .i64 7))] hp15 (by kernel_rfl) ?_
      refine RunL.done rfl (SemY.fr (l' := [(6, .e0), (7, .v (.int .i64 7))]) (by kernel_rfl) ?_)
      refine SemY.ret ?_
      have hq := Option.some.inj h; subst hq
      have hT18 : T hp15 ((own_ (ocL 1 50 (ocL 1 31 (ocL 1 3 (ocV cdI)))) .e0 ([] : (List (List (List Int))))) :: L) := (T.e0 (o := (ocL 1 31 (ocL 1 3 (ocV cdI)))) hT16)
      obtain ⟨hp19, hw20, hT210⟩ := WkY.frzT (E := e_evening_Join) (n := 41) (l := [(6, .e0), (7, .v (.int .i64 7))]) (l' := [(6, .sl 1 (([] : (List (List (List Int)))).map (cdL 1 (cdL 1 cdI)).enc)), (7, .v (.int .i64 7))]) hT18 (LkT.at_ ⟨.inr ⟨(by kernel_rfl), rfl⟩, .inl (by kernel_rfl), trivial⟩)
      have hT21 : T hp19 (L) := hT210
      exact ⟨⟨Fr 41 [(6, .sl 1 (([] : (List (List (List Int)))).map (cdL 1 (cdL 1 cdI)).enc)), (7, .v (.int .i64 7))], hp19⟩, (WkY.trans (WkY.trans WkY.f1 hw20) WkY.f1), .inr rfl, [.sl 1 (([] : (List (List (List Int)))).map (cdL 1 (cdL 1 cdI)).enc), .v (.int .i64 7)], (by kernel_rfl), ⟨rfl, hT21⟩⟩
    · rw [if_f hb17] at h
      refine SemY.skip ?_
      refine SemY.seq ?_
      refine SemY.regionL ?_
      refine RunL.segF (n := 41) e_evening_Join_ok 1 [(2, .sl 1 (x2.map (cdL 1 (cdL 1 cdI)).enc)), (36, .sl 1 (x1.map (cdL 1 (cdL 1 cdI)).enc))] hp15 (by kernel_rfl) ?_
      obtain ⟨v22, hv22, h⟩ := Option.bind_eq_some_iff.1 h
      refine RunL.inlT (E := e_evening_Join) (e := e_evening_clone_d) rfl rfl e_evening_clone_d_ok rfl rfl (fid := 79) (caps := []) (xs := [.sl 1 (x1.map (cdL 1 (cdL 1 cdI)).enc)]) (fn := Tryd.f79) (c := cb_evening_clone_d) (Out := fun v h' => ∃ (z0 : AV), v = z0 ∧ T h' ((own_ (ocL 1 50 (ocL 1 31 (ocL 1 3 (ocV cdI)))) z0 v22) :: L)) rfl (wantedA_none rfl) (by kernel_rfl) (by kernel_rfl) (by kernel_rfl) (by kernel_rfl) (by show 1 ≤ 33; decide) (evening_clone_d_sem x1 _ hv22 hT16) ?_
      rintro xx hp24 ⟨e23, hqhp24, hT250⟩; subst xx
      have hT25 : T hp24 ((own_ (ocL 1 50 (ocL 1 31 (ocL 1 3 (ocV cdI)))) e23 v22) :: L) := hT250
      refine RunL.segF (n := 41) e_evening_Join_ok 1 [(37, e23), (38, .sl 1 (x2.map (cdL 1 (cdL 1 cdI)).enc))] hp24 (by kernel_rfl) ?_
      obtain ⟨v26, hv26, h⟩ := Option.bind_eq_some_iff.1 h
      refine RunL.inlT (E := e_evening_Join) (e := e_evening_clone_d) rfl rfl e_evening_clone_d_ok rfl rfl (fid := 79) (caps := []) (xs := [.sl 1 (x2.map (cdL 1 (cdL 1 cdI)).enc)]) (fn := Tryd.f79) (c := cb_evening_clone_d) (Out := fun v h' => ∃ (z0 : AV), v = z0 ∧ T h' ((own_ (ocL 1 50 (ocL 1 31 (ocL 1 3 (ocV cdI)))) z0 v26) :: (own_ (ocL 1 50 (ocL 1 31 (ocL 1 3 (ocV cdI)))) e23 v22) :: L)) rfl (wantedA_none rfl) (by kernel_rfl) (by kernel_rfl) (by kernel_rfl) (by kernel_rfl) (by show 1 ≤ 33; decide) (evening_clone_d_sem x2 _ hv26 hT25) ?_
      rintro xx hp28 ⟨e27, hqhp28, hT290⟩; subst xx
      have hT29 : T hp28 ((own_ (ocL 1 50 (ocL 1 31 (ocL 1 3 (ocV cdI)))) e27 v26) :: (own_ (ocL 1 50 (ocL 1 31 (ocL 1 3 (ocV cdI)))) e23 v22) :: L) := hT290
      by_cases hk34 : (capOk 24 (v22.length + v26.length)) = true
      case neg => rw [if_neg hk34] at h; cases h
      rw [if_pos hk34] at h
      have hT35 : T hp28 ((own_ (ocL 1 50 (ocL 1 31 (ocL 1 3 (ocV cdI)))) e23 v22) :: (own_ (ocL 1 50 (ocL 1 31 (ocL 1 3 (ocV cdI)))) e27 v26) :: L) := ((hT29.front 0 rfl).front 1 rfl)
      obtain ⟨e33, hp30, hb31, hT320⟩ := app_ownB (P := Tryd.prog) (ty := 22) (ty2 := 22) (bytes := 24) hT35 (by kernel_rfl) (by kernel_rfl) hk34
      have hT32 : T hp30 ((own_ (ocL 1 50 (ocL 1 31 (ocL 1 3 (ocV cdI)))) e33 (v22 ++ v26)) :: L) := hT320
      refine RunL.one e_evening_Join_ok 0 rfl (op_w (wantedA_none rfl) rfl (by kernel_rfl) (by kernel_rfl) (w_append (a := e23) (b := e27) (by kernel_rfl) (by kernel_rfl) hb31)) ?_
      refine RunL.segF (n := 41) e_evening_Join_ok 2 [(6, e33), (7, .v (.int .i64 0))] hp30 (by kernel_rfl) ?_
      refine RunL.done rfl (SemY.fr (l' := [(6, e33), (7, .v (.int .i64 0))]) (by kernel_rfl) ?_)
      refine SemY.ret ?_
      have hq := Option.some.inj h; subst hq
      obtain ⟨hp36, hw37, hT380⟩ := WkY.frzT (E := e_evening_Join) (n := 41) (l := [(6, e33), (7, .v (.int .i64 0))]) (l' := [(6, .sl 1 ((v22 ++ v26).map (cdL 1 (cdL 1 cdI)).enc)), (7, .v (.int .i64 0))]) hT32 (LkT.at_ ⟨.inr ⟨(by kernel_rfl), rfl⟩, .inl (by kernel_rfl), trivial⟩)
      have hT38 : T hp36 (L) := hT380
      exact ⟨⟨Fr 41 [(6, .sl 1 ((v22 ++ v26).map (cdL 1 (cdL 1 cdI)).enc)), (7, .v (.int .i64 0))], hp36⟩, (WkY.trans (WkY.trans WkY.f1 hw37) WkY.f1), .inr rfl, [.sl 1 ((v22 ++ v26).map (cdL 1 (cdL 1 cdI)).enc), .v (.int .i64 0)], (by kernel_rfl), ⟨rfl, hT38⟩⟩
  · try dsimp only at h
    refine SemYN.cutT (SemYN.wk WkY.f1 (evening_Join_1_ok x0 x1 x2 e4 _ 0 _ hr13  hp1 hT3)) ?_
    rintro _ ⟨hp40, hT41, rfl⟩
    have hq := Option.some.inj h; subst hq
    have hT42 : T hp40 ((own_ (ocL 1 50 (ocL 1 31 (ocL 1 3 (ocV cdI)))) .e0 ([] : (List (List (List Int))))) :: L) := (T.e0 (o := (ocL 1 31 (ocL 1 3 (ocV cdI)))) hT41)
    obtain ⟨hp43, hw44, hT450⟩ := WkY.frzT (E := e_evening_Join) (n := 41) (l := [(6, .e0), (7, .v (.int .i64 w39))]) (l' := [(6, .sl 1 (([] : (List (List (List Int)))).map (cdL 1 (cdL 1 cdI)).enc)), (7, .v (.int .i64 w39))]) hT42 (LkT.at_ ⟨.inr ⟨(by kernel_rfl), rfl⟩, .inl (by kernel_rfl), trivial⟩)
    have hT45 : T hp43 (L) := hT450
    exact ⟨⟨Fr 41 [(6, .sl 1 (([] : (List (List (List Int)))).map (cdL 1 (cdL 1 cdI)).enc)), (7, .v (.int .i64 w39))], hp43⟩, (WkY.trans (WkY.trans WkY.f1 hw44) WkY.f1), .inr rfl, [.sl 1 (([] : (List (List (List Int)))).map (cdL 1 (cdL 1 cdI)).enc), .v (.int .i64 w39)], (by kernel_rfl), ⟨rfl, hT45⟩⟩
def cs_evening_Join : Cs (Int × (List (List (List Int))) × (List (List (List Int))) × Unit) := (csC cdI (csC (cdL 1 (cdL 1 (cdL 1 cdI))) (csC (cdL 1 (cdL 1 (cdL 1 cdI))) csN)))
def er_evening_Join (r : (List (List (List Int))) × Int) : AV := .tp [(cdL 1 (cdL 1 (cdL 1 cdI))).enc r.1, cdI.enc r.2]
def t_evening_Join : List AV → Option AV := told cs_evening_Join (fun a => evening_Join a.1 a.2.1 a.2.2.1) er_evening_Join
theorem x_evening_Join : XOk 30 t_evening_Join := by
  refine EnvOk.x (E := e_evening_Join) (contract_ok e_evening_Join_ok (fn := Tryd.f30) (c := cb_evening_Join) ?h1 ?h2 ⟨Tryd.call30⟩ cs_evening_Join (fun a => evening_Join a.1 a.2.1 a.2.2.1) er_evening_Join (fun a => (by show 3 ≤ 41; decide)) ?h3 ?h4) rfl rfl
  case h1 => kernel_rfl
  case h2 => kernel_rfl
  case h3 => intro b; kernel_rfl
  case h4 =>
    intro a b h
    refine Sem.mono (Sem.ofY (evening_Join_sem (L := []) (hp := []) a.1 a.2.1 a.2.2.1 b h T.nil)) fun e s' hs => ?_
    obtain ⟨h1, ys, h2, h3, -⟩ := hs
    exact ⟨h1, ys, h2, h3⟩
/- trestle/evening.valid -/
noncomputable def e_evening_valid : Env := (E0.withX 27 t_evening_Check)
theorem e_evening_valid_ok : EnvOk e_evening_valid := (EnvOk.withX E0_ok x_evening_Check.1 x_evening_Check.2)
noncomputable def cb_evening_valid : Code := codeOf Tryd.f50
def evening_valid (x0 : Int) (x1 : (List (List (List Int)))) : Option (Bool) :=
  (evening_Check x0 [] x1).bind fun v1 =>
  some (v1.2 == 0)
def cs_evening_valid : Cs (Int × (List (List (List Int))) × Unit) := (csC cdI (csC (cdL 1 (cdL 1 (cdL 1 cdI))) csN))
def er_evening_valid (r : Bool) : AV := cdB.enc r
set_option maxHeartbeats 4000000 in
set_option maxRecDepth 100000 in
theorem evening_valid_sem (x0 : Int) (x1 : (List (List (List Int)))) (r : Bool) (h : evening_valid x0 x1 = some r) : Sem e_evening_valid ⟨none, false⟩ cb_evening_valid ⟨Fr 15 (pairs0 0 (cs_evening_valid.enc (x0, x1, ()))), []⟩ fun e s' => (e = .normal ∨ e = .ret) ∧ ∃ xs, resA e_evening_valid.P s'.fr s'.hp Tryd.f50.results.toList = some xs ∧ retA xs = er_evening_valid r := by
  unfold evening_valid at h
  refine Sem.wkQ (Sem.wk (s1 := ⟨Fr 15 [(0, .v (.int .i64 x0)), (1, .sl 1 (x1.map (cdL 1 (cdL 1 cdI)).enc))], []⟩) Wk.f1 ?_)
  refine Sem.seq ?_
  refine Sem.runS (s1 := ⟨Fr 15 [(0, .v (.int .i64 x0)), (1, .sl 1 (x1.map (cdL 1 (cdL 1 cdI)).enc))], []⟩) ?_ ?_
  · refine RunS.segF (n := 15) e_evening_valid_ok 1 [(0, .v (.int .i64 x0)), (1, .sl 1 (x1.map (cdL 1 (cdL 1 cdI)).enc))] [] (by kernel_rfl) ?_
    exact RunS.done rfl Wk.f1
  refine Sem.seq ?_
  obtain ⟨v1, hv1, h⟩ := Option.bind_eq_some_iff.1 h
  refine Sem.runS (s1 := ⟨Fr 15 [(6, .v (.int .i64 v1.2))], []⟩) ?_ ?_
  · refine RunS.segF (n := 15) e_evening_valid_ok 2 [(8, .v (.int .i64 x0)), (9, .sl 1 (x1.map (cdL 1 (cdL 1 cdI)).enc))] [] (by kernel_rfl) ?_
    refine RunS.call e_evening_valid_ok (fid := 27) (s := cs_evening_Check) (F := fun a => evening_Check a.1 a.2.1 a.2.2.1) (er := er_evening_Check) (xs := [.v (.int .i64 x0), .e0, .sl 1 (x1.map (cdL 1 (cdL 1 cdI)).enc)]) (a := (x0, [], x1, ())) rfl (wantedA_none rfl) (by kernel_rfl) (by kernel_rfl) (by kernel_rfl) (by kernel_rfl) (Sns.cons (Sn.enc (c := cdI) (v := x0)) (Sns.cons Sn.e0 (Sns.cons (Sn.enc (c := (cdL 1 (cdL 1 (cdL 1 cdI)))) (v := x1)) Sns.nil))) (.inl (by kernel_rfl)) hv1 ?_
    refine RunS.segF (n := 15) e_evening_valid_ok 5 [(6, .v (.int .i64 v1.2))] [] (by kernel_rfl) ?_
    exact RunS.done rfl Wk.f1
  refine Sem.seq ?_
  refine Sem.runS (s1 := ⟨Fr 15 [(4, .v (.bool (v1.2 == 0)))], []⟩) ?_ ?_
  · refine RunS.segF (n := 15) e_evening_valid_ok 3 [(4, .v (.bool (v1.2 == 0)))] [] (by kernel_rfl) ?_
    exact RunS.done rfl Wk.f1
  refine Sem.ret ?_
  have hq := Option.some.inj h; subst hq
  exact ⟨⟨Fr 15 [(4, .v (.bool (v1.2 == 0)))], []⟩, Wk.f1, .inr rfl, [.v (.bool (v1.2 == 0))], (by kernel_rfl), (by kernel_rfl)⟩
def t_evening_valid : List AV → Option AV := told cs_evening_valid (fun a => evening_valid a.1 a.2.1) er_evening_valid
theorem x_evening_valid : XOk 50 t_evening_valid := by
  refine EnvOk.x (E := e_evening_valid) (contract_ok e_evening_valid_ok (fn := Tryd.f50) (c := cb_evening_valid) ?h1 ?h2 ⟨Tryd.call50⟩ cs_evening_valid (fun a => evening_valid a.1 a.2.1) er_evening_valid (fun a => (by show 2 ≤ 15; decide)) ?h3 ?h4) rfl rfl
  case h1 => kernel_rfl
  case h2 => kernel_rfl
  case h3 => intro b; kernel_rfl
  case h4 => exact fun a b h => evening_valid_sem a.1 a.2.1 b h
/- trestle/evening.meetings -/
noncomputable def e_evening_meetings : Env := E0
theorem e_evening_meetings_ok : EnvOk e_evening_meetings := E0_ok
noncomputable def cb_evening_meetings : Code := codeOf Tryd.f80
noncomputable def e_evening_meetings_k1 : Env := E0
theorem e_evening_meetings_k1_ok : EnvOk e_evening_meetings_k1 := E0_ok
noncomputable def cb_evening_meetings_k1 : Code := codeOf Tryd.f68
def evening_meetings_k1 (_y0 : Int) (y1 : Int) : Option (Int × Int × (List Int)) :=
  if (mkOk 8 (wr .i64 (y1 * y1))) = true then
  some (y1, y1, (List.replicate (wr .i64 (y1 * y1)).toNat (0 : Int)))
  else none
set_option maxHeartbeats 4000000 in
set_option maxRecDepth 100000 in
theorem evening_meetings_k1_sem (y0 : Int) (y1 : Int) (r : Int × Int × (List Int)) (h : evening_meetings_k1 y0 y1 = some r) : SemY e_evening_meetings_k1 ⟨none, false⟩ cb_evening_meetings_k1 ⟨Fr 9 (pairs0 0 [.v (.int .i64 y1)]), [some ⟨2, 94, [.ag [.v (.int .i64 y0), .e0]], false⟩]⟩ fun x s' => (x = .normal ∨ x = .ret) ∧ ∃ ys, resA e_evening_meetings_k1.P s'.fr s'.hp Tryd.f68.results.toList = some ys ∧ (retA ys = .ag [.v (.int .i64 r.1), .rf 2 0 r.2.2.length r.2.2.length] ∧ s'.hp = [some ⟨2, 94, [.ag [.v (.int .i64 y0), .e0]], false⟩, some ⟨2, 94, [.ag [.v (.int .i64 r.2.1), .rf 2 0 r.2.2.length r.2.2.length]], false⟩, some ⟨1, 3, (r.2.2.map cdI.enc), false⟩]) := by
  unfold evening_meetings_k1 at h
  refine SemY.seq ?_
  refine SemY.region ?_
  refine RunY.segF (n := 9) e_evening_meetings_k1_ok 1 [(0, .v (.int .i64 y1)), (2, .pt 1 0 0)] [some ⟨2, 94, [.ag [.v (.int .i64 y0), .e0]], false⟩, some ⟨2, 94, [.ag [.v (.int .i64 0), .e0]], false⟩] (by kernel_rfl) ?_
  refine RunY.done rfl (SemY.fr (l' := [(0, .v (.int .i64 y1)), (2, .pt 1 0 0)]) (by kernel_rfl) ?_)
  refine SemY.seq ?_
  refine SemY.region ?_
  refine RunY.segF (n := 9) e_evening_meetings_k1_ok 4 [(2, .pt 1 0 0), (3, .v (.int .i64 y1)), (6, .v (.int .i64 (wr .i64 (y1 * y1))))] [some ⟨2, 94, [.ag [.v (.int .i64 y0), .e0]], false⟩, some ⟨2, 94, [.ag [.v (.int .i64 0), .e0]], false⟩] (by kernel_rfl) ?_
  by_cases hk1 : (mkOk 8 (wr .i64 (y1 * y1))) = true
  case neg => rw [if_neg hk1] at h; cases h
  rw [if_pos hk1] at h
  refine RunY.one e_evening_meetings_k1_ok 0 rfl (op_n (wantedA_none rfl) rfl (by kernel_rfl) (n_make (x := .v (.int .i64 (wr .i64 (y1 * y1)))) (y := .v (.int .i64 (wr .i64 (y1 * y1)))) (by kernel_rfl) (by kernel_rfl) (make_B (c := cdI) (z := (0 : Int)) (k := 1) (bytes := 8) (el := 3) (by kernel_rfl) (by kernel_rfl) hk1))) ?_
  refine RunY.segF (n := 9) e_evening_meetings_k1_ok 2 [(2, .pt 1 0 0)] [some ⟨2, 94, [.ag [.v (.int .i64 y0), .e0]], false⟩, some ⟨2, 94, [.ag [.v (.int .i64 y1), .rf 2 0 (List.replicate (wr .i64 (y1 * y1)).toNat (0 : Int)).length (List.replicate (wr .i64 (y1 * y1)).toNat (0 : Int)).length]], false⟩, some ⟨1, 3, ((List.replicate (wr .i64 (y1 * y1)).toNat (0 : Int)).map cdI.enc), false⟩] (by kernel_rfl) ?_
  refine RunY.done rfl (SemY.fr (l' := [(2, .pt 1 0 0)]) (by kernel_rfl) ?_)
  refine SemY.ret ?_
  have hq := Option.some.inj h; subst hq
  exact ⟨.inr rfl, [.ag [.v (.int .i64 y1), .rf 2 0 (List.replicate (wr .i64 (y1 * y1)).toNat (0 : Int)).length (List.replicate (wr .i64 (y1 * y1)).toNat (0 : Int)).length]], (by kernel_rfl), (by kernel_rfl), (by kernel_rfl)⟩
noncomputable def e_evening_meetings_k2 : Env := E0
theorem e_evening_meetings_k2_ok : EnvOk e_evening_meetings_k2 := E0_ok
noncomputable def cb_evening_meetings_k2 : Code := codeOf Tryd.f72
def evening_meetings_k2 (_y0 : Int) (_y1 : Int) (_y2 : (List Int)) (y3 : (List (List Int))) : Option ((List (List Int))) :=
  some y3
set_option maxHeartbeats 4000000 in
set_option maxRecDepth 100000 in
theorem evening_meetings_k2_sem (y0 : Int) (y1 : Int) (y2 : (List Int)) (y3 : (List (List Int))) (r : (List (List Int))) (h : evening_meetings_k2 y0 y1 y2 y3 = some r) : SemY e_evening_meetings_k2 ⟨none, false⟩ cb_evening_meetings_k2 ⟨Fr 4 (pairs0 0 [.sl 1 (y3.map (cdL 1 cdI).enc)]), [some ⟨2, 94, [.ag [.v (.int .i64 y0), .e0]], false⟩, some ⟨2, 94, [.ag [.v (.int .i64 y1), .rf 2 0 y2.length y2.length]], false⟩, some ⟨1, 3, (y2.map cdI.enc), false⟩]⟩ fun x s' => (x = .normal ∨ x = .ret) ∧ ∃ ys, resA e_evening_meetings_k2.P s'.fr s'.hp Tryd.f72.results.toList = some ys ∧ (retA ys = .fn 108 [] [.pt 3 0 0] ∧ s'.hp = [some ⟨2, 94, [.ag [.v (.int .i64 y0), .e0]], false⟩, some ⟨2, 94, [.ag [.v (.int .i64 y1), .rf 2 0 y2.length y2.length]], false⟩, some ⟨1, 3, (y2.map cdI.enc), false⟩, some ⟨1, 50, [.sl 1 (r.map (cdL 1 cdI).enc)], false⟩]) := by
  unfold evening_meetings_k2 at h
  refine SemY.seq ?_
  refine SemY.region ?_
  refine RunY.segF (n := 4) e_evening_meetings_k2_ok 2 [(1, .pt 3 0 0)] [some ⟨2, 94, [.ag [.v (.int .i64 y0), .e0]], false⟩, some ⟨2, 94, [.ag [.v (.int .i64 y1), .rf 2 0 y2.length y2.length]], false⟩, some ⟨1, 3, (y2.map cdI.enc), false⟩, some ⟨1, 50, [.sl 1 (y3.map (cdL 1 cdI).enc)], false⟩] (by kernel_rfl) ?_
  refine RunY.done rfl (SemY.fr (l' := [(1, .pt 3 0 0)]) (by kernel_rfl) ?_)
  refine SemY.seq ?_
  refine SemY.region ?_
  refine RunY.segF (n := 4) e_evening_meetings_k2_ok 2 [(2, .fn 108 [] [.pt 3 0 0])] [some ⟨2, 94, [.ag [.v (.int .i64 y0), .e0]], false⟩, some ⟨2, 94, [.ag [.v (.int .i64 y1), .rf 2 0 y2.length y2.length]], false⟩, some ⟨1, 3, (y2.map cdI.enc), false⟩, some ⟨1, 50, [.sl 1 (y3.map (cdL 1 cdI).enc)], false⟩] (by kernel_rfl) ?_
  refine RunY.done rfl (SemY.fr (l' := [(2, .fn 108 [] [.pt 3 0 0])]) (by kernel_rfl) ?_)
  refine SemY.ret ?_
  have hq := Option.some.inj h; subst hq
  exact ⟨.inr rfl, [.fn 108 [] [.pt 3 0 0]], (by kernel_rfl), (by kernel_rfl), (by kernel_rfl)⟩
noncomputable def e_evening_meetings_k3 : Env := E0
theorem e_evening_meetings_k3_ok : EnvOk e_evening_meetings_k3 := E0_ok
noncomputable def cb_evening_meetings_k3 : Code := codeOf Tryd.f108
noncomputable def cx_evening_meetings_k3 (y4 : (List (List (List Int)))) (y5 : Int) (y6 : Int) : Cx := ⟨some ⟨4, Fr 32 [(4, .pt 0 0 0), (5, .pt 1 0 0), (12, .sl 1 (y4.map (cdL 1 (cdL 1 cdI)).enc)), (13, .v (.int .i64 y5)), (14, .v (.int .i64 y6)), (19, .fn 108 [] [.pt 3 0 0])], [20, 21], asgOf (pc cb_evening_meetings [1, 1, 0, 1, 0, 0, 1, 1, 0, 0, 1, 1, 0]), bdyOf (pc cb_evening_meetings [1, 1, 0, 1, 0, 0, 1, 1, 0, 0, 1, 1, 0])⟩, false⟩
noncomputable def e_evening_meetings_k3_y_k1 : Env := E0
theorem e_evening_meetings_k3_y_k1_ok : EnvOk e_evening_meetings_k3_y_k1 := E0_ok
noncomputable def cb_evening_meetings_k3_y_k1 : Code := codeOf Tryd.f73
def evening_meetings_k3_y_k1 (_y0 : Int) (_y1 : Int) (y2 : (List Int)) (_y3 : (List (List Int))) (y4 : Int) (y5 : Int) (y6 : Int) : Option (Int) :=
  (idx y2 (wr .i64 ((wr .i64 (y5 * y4)) + y6))).bind fun _v1 =>
  some y4
set_option maxHeartbeats 4000000 in
set_option maxRecDepth 100000 in
theorem evening_meetings_k3_y_k1_sem (y0 : Int) (y1 : Int) (y2 : (List Int)) (y3 : (List (List Int))) (y4 : Int) (y5 : Int) (y6 : Int) (r : Int) (h : evening_meetings_k3_y_k1 y0 y1 y2 y3 y4 y5 y6 = some r) : SemY e_evening_meetings_k3_y_k1 ⟨none, false⟩ cb_evening_meetings_k3_y_k1 ⟨Fr 16 (pairs0 0 [.ag [.v (.int .i64 y4), .rf 2 0 y2.length y2.length], .v (.int .i64 y5), .v (.int .i64 y6)]), [some ⟨2, 94, [.ag [.v (.int .i64 y0), .e0]], false⟩, some ⟨2, 94, [.ag [.v (.int .i64 y1), .rf 2 0 y2.length y2.length]], false⟩, some ⟨1, 3, (y2.map cdI.enc), false⟩, some ⟨1, 50, [.sl 1 (y3.map (cdL 1 cdI).enc)], false⟩, none]⟩ fun x s' => (x = .normal ∨ x = .ret) ∧ ∃ ys, resA e_evening_meetings_k3_y_k1.P s'.fr s'.hp Tryd.f73.results.toList = some ys ∧ (retA ys = .pt 2 ((wr .i64 ((wr .i64 (y5 * y4)) + y6)).toNat) 0 ∧ s'.hp = [some ⟨2, 94, [.ag [.v (.int .i64 y0), .e0]], false⟩, some ⟨2, 94, [.ag [.v (.int .i64 y1), .rf 2 0 y2.length y2.length]], false⟩, some ⟨1, 3, (y2.map cdI.enc), false⟩, some ⟨1, 50, [.sl 1 (y3.map (cdL 1 cdI).enc)], false⟩, none, some ⟨2, 94, [.ag [.v (.int .i64 r), .rf 2 0 y2.length y2.length]], false⟩]) := by
  unfold evening_meetings_k3_y_k1 at h
  refine SemY.seq ?_
  refine SemY.region ?_
  refine RunY.segF (n := 16) e_evening_meetings_k3_y_k1_ok 2 [(1, .v (.int .i64 y5)), (2, .v (.int .i64 y6)), (3, .pt 5 0 0)] [some ⟨2, 94, [.ag [.v (.int .i64 y0), .e0]], false⟩, some ⟨2, 94, [.ag [.v (.int .i64 y1), .rf 2 0 y2.length y2.length]], false⟩, some ⟨1, 3, (y2.map cdI.enc), false⟩, some ⟨1, 50, [.sl 1 (y3.map (cdL 1 cdI).enc)], false⟩, none, some ⟨2, 94, [.ag [.v (.int .i64 y4), .rf 2 0 y2.length y2.length]], false⟩] (by kernel_rfl) ?_
  refine RunY.done rfl (SemY.fr (l' := [(1, .v (.int .i64 y5)), (2, .v (.int .i64 y6)), (3, .pt 5 0 0)]) (by kernel_rfl) ?_)
  refine SemY.seq ?_
  refine SemY.region ?_
  refine RunY.segF (n := 16) e_evening_meetings_k3_y_k1_ok 8 [(8, .rf 2 0 y2.length y2.length), (14, .v (.int .i64 (wr .i64 ((wr .i64 (y5 * y4)) + y6))))] [some ⟨2, 94, [.ag [.v (.int .i64 y0), .e0]], false⟩, some ⟨2, 94, [.ag [.v (.int .i64 y1), .rf 2 0 y2.length y2.length]], false⟩, some ⟨1, 3, (y2.map cdI.enc), false⟩, some ⟨1, 50, [.sl 1 (y3.map (cdL 1 cdI).enc)], false⟩, none, some ⟨2, 94, [.ag [.v (.int .i64 y4), .rf 2 0 y2.length y2.length]], false⟩] (by kernel_rfl) ?_
  obtain ⟨v1, hv1, h⟩ := Option.bind_eq_some_iff.1 h
  refine RunY.one e_evening_meetings_k3_y_k1_ok 0 rfl (op_q (wantedA_none rfl) rfl (q_indexAddr (a := .rf 2 0 y2.length y2.length) (b := .v (.int .i64 (wr .i64 ((wr .i64 (y5 * y4)) + y6)))) (by kernel_rfl) (by kernel_rfl) (ix_rl (e := cdI.enc) (xs := y2) (t' := 3) (el := 3) (k := 1) (ki := .i64) (by kernel_rfl) (by kernel_rfl) (by kernel_rfl) hv1))) ?_
  refine RunY.segF (n := 16) e_evening_meetings_k3_y_k1_ok 1 [(6, .pt 2 ((wr .i64 ((wr .i64 (y5 * y4)) + y6)).toNat) 0)] [some ⟨2, 94, [.ag [.v (.int .i64 y0), .e0]], false⟩, some ⟨2, 94, [.ag [.v (.int .i64 y1), .rf 2 0 y2.length y2.length]], false⟩, some ⟨1, 3, (y2.map cdI.enc), false⟩, some ⟨1, 50, [.sl 1 (y3.map (cdL 1 cdI).enc)], false⟩, none, some ⟨2, 94, [.ag [.v (.int .i64 y4), .rf 2 0 y2.length y2.length]], false⟩] (by kernel_rfl) ?_
  refine RunY.done rfl (SemY.fr (l' := [(6, .pt 2 ((wr .i64 ((wr .i64 (y5 * y4)) + y6)).toNat) 0)]) (by kernel_rfl) ?_)
  refine SemY.ret ?_
  have hq := Option.some.inj h; subst hq
  exact ⟨.inr rfl, [.pt 2 ((wr .i64 ((wr .i64 (y5 * y4)) + y6)).toNat) 0], (by kernel_rfl), (by kernel_rfl), (by kernel_rfl)⟩
def evening_meetings_k3_y (y0 : Int) (y1 : Int) (y2 : (List Int)) (y3 : (List (List Int))) (_y4 : (List (List (List Int)))) (_y5 : Int) (_y6 : Int) (y7 : Int) (y8 : Int) : Option ((List Int)) :=
  (evening_meetings_k3_y_k1 y0 y1 y2 y3 y1 y7 y8).bind fun _v1 =>
  (idx y2 (wr .i64 ((wr .i64 (y7 * y1)) + y8))).bind fun v2 =>
  some (y2.set ((wr .i64 ((wr .i64 (y7 * y1)) + y8)).toNat) (wr .i64 (v2 + 1)))
set_option maxHeartbeats 4000000 in
set_option maxRecDepth 100000 in
theorem evening_meetings_k3_y_sem (y0 : Int) (y1 : Int) (y2 : (List Int)) (y3 : (List (List Int))) (y4 : (List (List (List Int)))) (y5 : Int) (y6 : Int) (y7 : Int) (y8 : Int) (r : (List Int)) (h : evening_meetings_k3_y y0 y1 y2 y3 y4 y5 y6 y7 y8 = some r) : SemY e_evening_meetings ⟨none, true⟩ (asgOf (pc cb_evening_meetings [1, 1, 0, 1, 0, 0, 1, 1, 0, 0, 1, 1, 0])) ⟨Fr 32 [(21, .v (.int .i64 y8)), (20, .v (.int .i64 y7)), (4, .pt 0 0 0), (5, .pt 1 0 0), (12, .sl 1 (y4.map (cdL 1 (cdL 1 cdI)).enc)), (13, .v (.int .i64 y5)), (14, .v (.int .i64 y6)), (19, .fn 108 [] [.pt 3 0 0])], [some ⟨2, 94, [.ag [.v (.int .i64 y0), .e0]], false⟩, some ⟨2, 94, [.ag [.v (.int .i64 y1), .rf 2 0 y2.length y2.length]], false⟩, some ⟨1, 3, (y2.map cdI.enc), false⟩, some ⟨1, 50, [.sl 1 (y3.map (cdL 1 cdI).enc)], false⟩, none]⟩ fun e s1 => e = .normal ∧ SemY e_evening_meetings ⟨none, true⟩ (bdyOf (pc cb_evening_meetings [1, 1, 0, 1, 0, 0, 1, 1, 0, 0, 1, 1, 0])) s1 fun e s2 => e = .normal ∧ s2.hp = [some ⟨2, 94, [.ag [.v (.int .i64 y0), .e0]], false⟩, some ⟨2, 94, [.ag [.v (.int .i64 y1), .rf 2 0 r.length r.length]], false⟩, some ⟨1, 3, (r.map cdI.enc), false⟩, some ⟨1, 50, [.sl 1 (y3.map (cdL 1 cdI).enc)], false⟩, none] := by
  unfold evening_meetings_k3_y at h
  refine SemY.seq ?_
  refine SemY.region ?_
  refine RunY.segF (n := 32) e_evening_meetings_ok 1 [(5, .pt 1 0 0), (8, .v (.int .i64 y7)), (21, .v (.int .i64 y8))] [some ⟨2, 94, [.ag [.v (.int .i64 y0), .e0]], false⟩, some ⟨2, 94, [.ag [.v (.int .i64 y1), .rf 2 0 y2.length y2.length]], false⟩, some ⟨1, 3, (y2.map cdI.enc), false⟩, some ⟨1, 50, [.sl 1 (y3.map (cdL 1 cdI).enc)], false⟩, none] (by kernel_rfl) ?_
  refine RunY.done rfl (SemY.fr (l' := [(5, .pt 1 0 0), (8, .v (.int .i64 y7)), (21, .v (.int .i64 y8))]) (by kernel_rfl) ?_)
  refine SemY.region ?_
  refine RunY.segF (n := 32) e_evening_meetings_ok 1 [(5, .pt 1 0 0), (8, .v (.int .i64 y7)), (9, .v (.int .i64 y8))] [some ⟨2, 94, [.ag [.v (.int .i64 y0), .e0]], false⟩, some ⟨2, 94, [.ag [.v (.int .i64 y1), .rf 2 0 y2.length y2.length]], false⟩, some ⟨1, 3, (y2.map cdI.enc), false⟩, some ⟨1, 50, [.sl 1 (y3.map (cdL 1 cdI).enc)], false⟩, none] (by kernel_rfl) ?_
  refine RunY.done rfl ?_
  refine ⟨rfl, ?_⟩
  refine SemY.block ?_
  refine SemY.region ?_
  refine RunY.segF (n := 32) e_evening_meetings_ok 3 [(22, .ag [.v (.int .i64 y1), .rf 2 0 y2.length y2.length]), (23, .v (.int .i64 y7)), (24, .v (.int .i64 y8))] [some ⟨2, 94, [.ag [.v (.int .i64 y0), .e0]], false⟩, some ⟨2, 94, [.ag [.v (.int .i64 y1), .rf 2 0 y2.length y2.length]], false⟩, some ⟨1, 3, (y2.map cdI.enc), false⟩, some ⟨1, 50, [.sl 1 (y3.map (cdL 1 cdI).enc)], false⟩, none] (by kernel_rfl) ?_
  obtain ⟨v1, hv1, h⟩ := Option.bind_eq_some_iff.1 h
  obtain ⟨v2, hv2, h⟩ := Option.bind_eq_some_iff.1 h
  refine RunY.inl (fid := 73) (caps := []) (xs := [.ag [.v (.int .i64 y1), .rf 2 0 y2.length y2.length], .v (.int .i64 y7), .v (.int .i64 y8)]) (fn := Tryd.f73) (Out := fun x h' => x = .pt 2 ((wr .i64 ((wr .i64 (y7 * y1)) + y8)).toNat) 0 ∧ h' = [some ⟨2, 94, [.ag [.v (.int .i64 y0), .e0]], false⟩, some ⟨2, 94, [.ag [.v (.int .i64 y1), .rf 2 0 y2.length y2.length]], false⟩, some ⟨1, 3, (y2.map cdI.enc), false⟩, some ⟨1, 50, [.sl 1 (y3.map (cdL 1 cdI).enc)], false⟩, none, some ⟨2, 94, [.ag [.v (.int .i64 v1), .rf 2 0 y2.length y2.length]], false⟩]) rfl rfl e_evening_meetings_k3_y_k1_ok rfl rfl 5 (by kernel_rfl) rfl (wantedA_none rfl) (by kernel_rfl) (by kernel_rfl) (by kernel_rfl) (by kernel_rfl) (by show 3 ≤ 16; decide) (evening_meetings_k3_y_k1_sem y0 y1 y2 y3 y1 y7 y8 _ hv1) ?_
  rintro x h' ⟨rfl, rfl⟩
  refine ⟨[some ⟨2, 94, [.ag [.v (.int .i64 y0), .e0]], false⟩, some ⟨2, 94, [.ag [.v (.int .i64 y1), .rf 2 0 y2.length y2.length]], false⟩, some ⟨1, 3, (y2.map cdI.enc), false⟩, some ⟨1, 50, [.sl 1 (y3.map (cdL 1 cdI).enc)], false⟩, none], by kernel_rfl, ⟨⟨_, rfl, bu_d⟩, ⟨_, rfl, bu_d⟩, ⟨_, rfl, bu_own⟩, ⟨_, rfl, bu_d⟩, ⟨_, rfl, bu_none⟩, trivial⟩, ⟨by kernel_rfl, by kernel_rfl⟩, ?_⟩
  refine RunY.segF (n := 32) e_evening_meetings_ok 1 [(25, .pt 2 ((wr .i64 ((wr .i64 (y7 * y1)) + y8)).toNat) 0), (26, .pt 2 ((wr .i64 ((wr .i64 (y7 * y1)) + y8)).toNat) 0)] [some ⟨2, 94, [.ag [.v (.int .i64 y0), .e0]], false⟩, some ⟨2, 94, [.ag [.v (.int .i64 y1), .rf 2 0 y2.length y2.length]], false⟩, some ⟨1, 3, (y2.map cdI.enc), false⟩, some ⟨1, 50, [.sl 1 (y3.map (cdL 1 cdI).enc)], false⟩, none] (by kernel_rfl) ?_
  refine RunY.one e_evening_meetings_ok 0 rfl (op_q (wantedA_none rfl) rfl (q_load (p := .pt 2 ((wr .i64 ((wr .i64 (y7 * y1)) + y8)).toNat) 0) (by kernel_rfl) (ld_blk (B := ⟨1, 3, (y2.map cdI.enc), false⟩) (m := 1) (g := false) (e := cdI.enc) (xs := y2) (by kernel_rfl) (by kernel_rfl) (by kernel_rfl) rfl (idx_at hv2).2 (by kernel_rfl)))) ?_
  refine RunY.segF (n := 32) e_evening_meetings_ok 2 [(28, .v (.int .i64 (wr .i64 (v2 + 1)))), (29, .pt 2 ((wr .i64 ((wr .i64 (y7 * y1)) + y8)).toNat) 0)] [some ⟨2, 94, [.ag [.v (.int .i64 y0), .e0]], false⟩, some ⟨2, 94, [.ag [.v (.int .i64 y1), .rf 2 0 y2.length y2.length]], false⟩, some ⟨1, 3, (y2.map cdI.enc), false⟩, some ⟨1, 50, [.sl 1 (y3.map (cdL 1 cdI).enc)], false⟩, none] (by kernel_rfl) ?_
  refine RunY.store e_evening_meetings_ok (y := .pt 2 ((wr .i64 ((wr .i64 (y7 * y1)) + y8)).toNat) 0) (z := .v (.int .i64 (wr .i64 (v2 + 1)))) rfl (wantedA_none rfl) (by kernel_rfl) (by kernel_rfl) (st_blk (t' := 3) (k := 1) (e := cdI.enc) (xs := y2) (v := v2) (v' := (wr .i64 (v2 + 1))) (by kernel_rfl) (idx_at hv2).2 (by kernel_rfl) (by kernel_rfl) (by kernel_rfl)) ?_
  refine RunY.done rfl ?_
  have hq := Option.some.inj h; subst hq
  exact ⟨rfl, Eq.trans (b := [some ⟨2, 94, [.ag [.v (.int .i64 y0), .e0]], false⟩, some ⟨2, 94, [.ag [.v (.int .i64 y1), .rf 2 0 y2.length y2.length]], false⟩, some ⟨1, 3, ((y2.set ((wr .i64 ((wr .i64 (y7 * y1)) + y8)).toNat) (wr .i64 (v2 + 1))).map cdI.enc), false⟩, some ⟨1, 50, [.sl 1 (y3.map (cdL 1 cdI).enc)], false⟩, none]) (by kernel_rfl) (by simp only [List.length_set])⟩
def evening_meetings_k3_3 (y0 : Int) (y1 : Int) (y3 : (List (List Int))) (y4 : (List (List (List Int)))) (y5 : Int) (y6 : Int) (c186 : Int) (v189 : (List Int)) (c222 : Int) (v225 : Int) : Nat → Int → (List Int) → Option (((List Int)))
  | 0, _, _ => none
  | f + 1, c239, c240 =>
    if (decide (c239 < (v189.length : Int))) = true then
    (idx v189 c239).bind fun v242 =>
    if (c222 != c239) = true then
    (evening_meetings_k3_y y0 y1 c240 y3 y4 y5 y6 v225 v242).bind fun v243 =>
    evening_meetings_k3_3 y0 y1 y3 y4 y5 y6 c186 v189 c222 v225 f (wr .i64 (c239 + 1)) v243
    else
    evening_meetings_k3_3 y0 y1 y3 y4 y5 y6 c186 v189 c222 v225 f (wr .i64 (c239 + 1)) c240
    else
    some c240
def evening_meetings_k3_2 (y0 : Int) (y1 : Int) (y3 : (List (List Int))) (y4 : (List (List (List Int)))) (y5 : Int) (y6 : Int) (c186 : Int) (v189 : (List Int)) : Nat → Int → (List Int) → Option (((List Int)))
  | 0, _, _ => none
  | f + 1, c222, c223 =>
    if (decide (c222 < (v189.length : Int))) = true then
    (idx v189 c222).bind fun v225 =>
    (evening_meetings_k3_3 y0 y1 y3 y4 y5 y6 c186 v189 c222 v225 100000 0 c223).bind fun r246 =>
    evening_meetings_k3_2 y0 y1 y3 y4 y5 y6 c186 v189 f (wr .i64 (c222 + 1)) r246
    else
    some c223
def evening_meetings_k3_1 (y0 : Int) (y1 : Int) (y3 : (List (List Int))) (y4 : (List (List (List Int)))) (y5 : Int) (y6 : Int) : Nat → Int → (List Int) → Option (((List Int)))
  | 0, _, _ => none
  | f + 1, c186, c187 =>
    if (decide (c186 < (y3.length : Int))) = true then
    (idx y3 c186).bind fun v189 =>
    (evening_meetings_k3_2 y0 y1 y3 y4 y5 y6 c186 v189 100000 0 c187).bind fun r248 =>
    evening_meetings_k3_1 y0 y1 y3 y4 y5 y6 f (wr .i64 (c186 + 1)) r248
    else
    some c187
def evening_meetings_k3 (y0 : Int) (y1 : Int) (y2 : (List Int)) (y3 : (List (List Int))) (y4 : (List (List (List Int)))) (y5 : Int) (y6 : Int) : Option ((List Int)) :=
  (evening_meetings_k3_1 y0 y1 y3 y4 y5 y6 100000 0 y2).bind fun r250 =>
  some r250
set_option maxHeartbeats 4000000 in
set_option maxRecDepth 100000 in
theorem evening_meetings_k3_3_ok (y0 : Int) (y1 : Int) (y3 : (List (List Int))) (y4 : (List (List (List Int)))) (y5 : Int) (y6 : Int) (c186 : Int) (v189 : (List Int)) (c222 : Int) (v225 : Int) : ∀ (f : Nat) (c239 : Int) (c240 : (List Int)) (r : ((List Int))), evening_meetings_k3_3 y0 y1 y3 y4 y5 y6 c186 v189 c222 v225 f c239 c240 = some r → SemYN e_evening_meetings_k3 (cx_evening_meetings_k3 y4 y5 y6) (pc cb_evening_meetings_k3 [1, 0, 0, 1, 1, 0, 0, 1, 1, 0, 0, 1, 1, 0, 0, 1, 1, 0, 0]) f ⟨Fr 42 [(0, .yl 4), (4, .sl 1 (v189.map cdI.enc)), (5, .v (.int .i64 c222)), (6, .v (.int .i64 v225)), (9, .sl 1 (y3.map (cdL 1 cdI).enc)), (10, .v (.int .i64 (y3.length : Int))), (11, .v (.int .i64 c186)), (15, .sl 1 (v189.map cdI.enc)), (16, .v (.int .i64 (v189.length : Int))), (17, .v (.int .i64 c222)), (22, .sl 1 (v189.map cdI.enc)), (23, .v (.int .i64 (v189.length : Int))), (24, .v (.int .i64 c239))], [some ⟨2, 94, [.ag [.v (.int .i64 y0), .e0]], false⟩, some ⟨2, 94, [.ag [.v (.int .i64 y1), .rf 2 0 c240.length c240.length]], false⟩, some ⟨1, 3, (c240.map cdI.enc), false⟩, some ⟨1, 50, [.sl 1 (y3.map (cdL 1 cdI).enc)], false⟩, none]⟩ (fun e s => e = (.exit 4) ∧ WkY e_evening_meetings_k3 s ⟨Fr 42 [(0, .yl 4), (4, .sl 1 (v189.map cdI.enc)), (9, .sl 1 (y3.map (cdL 1 cdI).enc)), (10, .v (.int .i64 (y3.length : Int))), (11, .v (.int .i64 c186)), (15, .sl 1 (v189.map cdI.enc)), (16, .v (.int .i64 (v189.length : Int))), (17, .v (.int .i64 c222))], [some ⟨2, 94, [.ag [.v (.int .i64 y0), .e0]], false⟩, some ⟨2, 94, [.ag [.v (.int .i64 y1), .rf 2 0 r.length r.length]], false⟩, some ⟨1, 3, (r.map cdI.enc), false⟩, some ⟨1, 50, [.sl 1 (y3.map (cdL 1 cdI).enc)], false⟩, none]⟩) := by
  intro f
  induction f with
  | zero => intro c239 c240 r h; cases h
  | succ f ih0 =>
    intro c239 c240 r h
    have ih := fun (c239 : Int) (c240 : (List Int)) => ih0 c239 c240 r
    unfold evening_meetings_k3_3 at h
    refine SemYN.succ ?_
    refine SemY.seq ?_
    refine SemY.region ?_
    refine RunY.segF (n := 42) e_evening_meetings_k3_ok 1 [(0, .yl 4), (4, .sl 1 (v189.map cdI.enc)), (5, .v (.int .i64 c222)), (6, .v (.int .i64 v225)), (9, .sl 1 (y3.map (cdL 1 cdI).enc)), (10, .v (.int .i64 (y3.length : Int))), (11, .v (.int .i64 c186)), (15, .sl 1 (v189.map cdI.enc)), (16, .v (.int .i64 (v189.length : Int))), (17, .v (.int .i64 c222)), (22, .sl 1 (v189.map cdI.enc)), (23, .v (.int .i64 (v189.length : Int))), (24, .v (.int .i64 c239)), (25, .v (.bool (decide (c239 < (v189.length : Int)))))] [some ⟨2, 94, [.ag [.v (.int .i64 y0), .e0]], false⟩, some ⟨2, 94, [.ag [.v (.int .i64 y1), .rf 2 0 c240.length c240.length]], false⟩, some ⟨1, 3, (c240.map cdI.enc), false⟩, some ⟨1, 50, [.sl 1 (y3.map (cdL 1 cdI).enc)], false⟩, none] (by kernel_rfl) ?_
    refine RunY.done rfl (SemY.fr (l' := [(0, .yl 4), (4, .sl 1 (v189.map cdI.enc)), (5, .v (.int .i64 c222)), (6, .v (.int .i64 v225)), (9, .sl 1 (y3.map (cdL 1 cdI).enc)), (10, .v (.int .i64 (y3.length : Int))), (11, .v (.int .i64 c186)), (15, .sl 1 (v189.map cdI.enc)), (16, .v (.int .i64 (v189.length : Int))), (17, .v (.int .i64 c222)), (22, .sl 1 (v189.map cdI.enc)), (23, .v (.int .i64 (v189.length : Int))), (24, .v (.int .i64 c239)), (25, .v (.bool (decide (c239 < (v189.length : Int)))))]) (by kernel_rfl) ?_)
    refine SemY.seq ?_
    refine SemY.cond (b := (decide (c239 < (v189.length : Int)))) (by kernel_rfl) (fun hb241 => ?_) (fun hb241 => ?_)
    · rw [if_pos hb241] at h
      refine SemY.skip ?_
      refine SemY.seq ?_
      refine SemY.block ?_
      refine SemY.seq ?_
      refine SemY.region ?_
      refine RunY.segF (n := 42) e_evening_meetings_k3_ok 1 [(0, .yl 4), (4, .sl 1 (v189.map cdI.enc)), (5, .v (.int .i64 c222)), (6, .v (.int .i64 v225)), (9, .sl 1 (y3.map (cdL 1 cdI).enc)), (10, .v (.int .i64 (y3.length : Int))), (11, .v (.int .i64 c186)), (15, .sl 1 (v189.map cdI.enc)), (16, .v (.int .i64 (v189.length : Int))), (17, .v (.int .i64 c222)), (22, .sl 1 (v189.map cdI.enc)), (23, .v (.int .i64 (v189.length : Int))), (24, .v (.int .i64 c239)), (26, .v (.int .i64 c239))] [some ⟨2, 94, [.ag [.v (.int .i64 y0), .e0]], false⟩, some ⟨2, 94, [.ag [.v (.int .i64 y1), .rf 2 0 c240.length c240.length]], false⟩, some ⟨1, 3, (c240.map cdI.enc), false⟩, some ⟨1, 50, [.sl 1 (y3.map (cdL 1 cdI).enc)], false⟩, none] (by kernel_rfl) ?_
      obtain ⟨v242, hv242, h⟩ := Option.bind_eq_some_iff.1 h
      refine RunY.one e_evening_meetings_k3_ok 0 rfl (op_q (wantedA_none rfl) rfl (q_indexAddr (a := .sl 1 (v189.map cdI.enc)) (b := .v (.int .i64 c239)) (by kernel_rfl) (by kernel_rfl) (ix_sl (e := cdI.enc) (el := 3) (k := 1) (ki := .i64) (by kernel_rfl) (by kernel_rfl) hv242))) ?_
      refine RunY.segF (n := 42) e_evening_meetings_k3_ok 3 [(0, .yl 4), (4, .sl 1 (v189.map cdI.enc)), (5, .v (.int .i64 c222)), (6, .v (.int .i64 v225)), (7, .v (.int .i64 c239)), (8, .v (.int .i64 v242)), (9, .sl 1 (y3.map (cdL 1 cdI).enc)), (10, .v (.int .i64 (y3.length : Int))), (11, .v (.int .i64 c186)), (15, .sl 1 (v189.map cdI.enc)), (16, .v (.int .i64 (v189.length : Int))), (17, .v (.int .i64 c222)), (22, .sl 1 (v189.map cdI.enc)), (23, .v (.int .i64 (v189.length : Int))), (24, .v (.int .i64 c239))] [some ⟨2, 94, [.ag [.v (.int .i64 y0), .e0]], false⟩, some ⟨2, 94, [.ag [.v (.int .i64 y1), .rf 2 0 c240.length c240.length]], false⟩, some ⟨1, 3, (c240.map cdI.enc), false⟩, some ⟨1, 50, [.sl 1 (y3.map (cdL 1 cdI).enc)], false⟩, none] (by kernel_rfl) ?_
      refine RunY.done rfl (SemY.fr (l' := [(0, .yl 4), (4, .sl 1 (v189.map cdI.enc)), (5, .v (.int .i64 c222)), (6, .v (.int .i64 v225)), (7, .v (.int .i64 c239)), (8, .v (.int .i64 v242)), (9, .sl 1 (y3.map (cdL 1 cdI).enc)), (10, .v (.int .i64 (y3.length : Int))), (11, .v (.int .i64 c186)), (15, .sl 1 (v189.map cdI.enc)), (16, .v (.int .i64 (v189.length : Int))), (17, .v (.int .i64 c222)), (22, .sl 1 (v189.map cdI.enc)), (23, .v (.int .i64 (v189.length : Int))), (24, .v (.int .i64 c239))]) (by kernel_rfl) ?_)
      refine SemY.seq ?_
      refine SemY.region ?_
      refine RunY.segF (n := 42) e_evening_meetings_k3_ok 4 [(0, .yl 4), (4, .sl 1 (v189.map cdI.enc)), (5, .v (.int .i64 c222)), (6, .v (.int .i64 v225)), (8, .v (.int .i64 v242)), (9, .sl 1 (y3.map (cdL 1 cdI).enc)), (10, .v (.int .i64 (y3.length : Int))), (11, .v (.int .i64 c186)), (15, .sl 1 (v189.map cdI.enc)), (16, .v (.int .i64 (v189.length : Int))), (17, .v (.int .i64 c222)), (22, .sl 1 (v189.map cdI.enc)), (23, .v (.int .i64 (v189.length : Int))), (24, .v (.int .i64 c239)), (32, .v (.bool (c222 != c239)))] [some ⟨2, 94, [.ag [.v (.int .i64 y0), .e0]], false⟩, some ⟨2, 94, [.ag [.v (.int .i64 y1), .rf 2 0 c240.length c240.length]], false⟩, some ⟨1, 3, (c240.map cdI.enc), false⟩, some ⟨1, 50, [.sl 1 (y3.map (cdL 1 cdI).enc)], false⟩, none] (by kernel_rfl) ?_
      rcases Bool.eq_false_or_eq_true (c222 != c239) with hc244 | hc244
      · rw [if_pos hc244] at h
        rw [hc244]
        refine RunY.segF (n := 42) e_evening_meetings_k3_ok 3 [(0, .yl 4), (4, .sl 1 (v189.map cdI.enc)), (5, .v (.int .i64 c222)), (6, .v (.int .i64 v225)), (9, .sl 1 (y3.map (cdL 1 cdI).enc)), (10, .v (.int .i64 (y3.length : Int))), (11, .v (.int .i64 c186)), (15, .sl 1 (v189.map cdI.enc)), (16, .v (.int .i64 (v189.length : Int))), (17, .v (.int .i64 c222)), (22, .sl 1 (v189.map cdI.enc)), (23, .v (.int .i64 (v189.length : Int))), (24, .v (.int .i64 c239)), (32, .v (.bool true)), (33, .yl 4), (34, .v (.int .i64 v225)), (35, .v (.int .i64 v242))] [some ⟨2, 94, [.ag [.v (.int .i64 y0), .e0]], false⟩, some ⟨2, 94, [.ag [.v (.int .i64 y1), .rf 2 0 c240.length c240.length]], false⟩, some ⟨1, 3, (c240.map cdI.enc), false⟩, some ⟨1, 50, [.sl 1 (y3.map (cdL 1 cdI).enc)], false⟩, none] (by kernel_rfl) ?_
        obtain ⟨v243, hv243, h⟩ := Option.bind_eq_some_iff.1 h
        refine RunY.yield (K1 := fun h' => h' = [some ⟨2, 94, [.ag [.v (.int .i64 y0), .e0]], false⟩, some ⟨2, 94, [.ag [.v (.int .i64 y1), .rf 2 0 v243.length v243.length]], false⟩, some ⟨1, 3, (v243.map cdI.enc), false⟩, some ⟨1, 50, [.sl 1 (y3.map (cdL 1 cdI).enc)], false⟩, none]) rfl rfl (eb := e_evening_meetings) rfl rfl rfl rfl rfl (by kernel_rfl) (by kernel_rfl) (xs := [.v (.int .i64 v225), .v (.int .i64 v242)]) (by kernel_rfl) rfl rfl (evening_meetings_k3_y_sem y0 y1 c240 y3 y4 y5 y6 v225 v242 _ hv243) ?_
        rintro h' rfl
        refine RunY.segF (n := 42) e_evening_meetings_k3_ok 2 [(0, .yl 4), (4, .sl 1 (v189.map cdI.enc)), (5, .v (.int .i64 c222)), (6, .v (.int .i64 v225)), (9, .sl 1 (y3.map (cdL 1 cdI).enc)), (10, .v (.int .i64 (y3.length : Int))), (11, .v (.int .i64 c186)), (15, .sl 1 (v189.map cdI.enc)), (16, .v (.int .i64 (v189.length : Int))), (17, .v (.int .i64 c222)), (22, .sl 1 (v189.map cdI.enc)), (23, .v (.int .i64 (v189.length : Int))), (24, .v (.int .i64 c239)), (33, .yl 4), (34, .v (.int .i64 v225)), (35, .v (.int .i64 v242)), (36, .v (.bool true)), (37, .v (.bool false)), (38, .v (.bool false))] [some ⟨2, 94, [.ag [.v (.int .i64 y0), .e0]], false⟩, some ⟨2, 94, [.ag [.v (.int .i64 y1), .rf 2 0 v243.length v243.length]], false⟩, some ⟨1, 3, (v243.map cdI.enc), false⟩, some ⟨1, 50, [.sl 1 (y3.map (cdL 1 cdI).enc)], false⟩, none] (by kernel_rfl) ?_
        refine RunY.done rfl (SemY.fr (l' := [(0, .yl 4), (4, .sl 1 (v189.map cdI.enc)), (5, .v (.int .i64 c222)), (6, .v (.int .i64 v225)), (9, .sl 1 (y3.map (cdL 1 cdI).enc)), (10, .v (.int .i64 (y3.length : Int))), (11, .v (.int .i64 c186)), (15, .sl 1 (v189.map cdI.enc)), (16, .v (.int .i64 (v189.length : Int))), (17, .v (.int .i64 c222)), (22, .sl 1 (v189.map cdI.enc)), (23, .v (.int .i64 (v189.length : Int))), (24, .v (.int .i64 c239)), (33, .yl 4), (34, .v (.int .i64 v225)), (35, .v (.int .i64 v242)), (36, .v (.bool true)), (37, .v (.bool false)), (38, .v (.bool false))]) (by kernel_rfl) ?_)
        refine SemY.cond_false (by kernel_rfl) ?_
        refine SemY.skip ?_
        refine SemY.region ?_
        refine RunY.segF (n := 42) e_evening_meetings_k3_ok 2 [(0, .yl 4), (4, .sl 1 (v189.map cdI.enc)), (5, .v (.int .i64 c222)), (6, .v (.int .i64 v225)), (9, .sl 1 (y3.map (cdL 1 cdI).enc)), (10, .v (.int .i64 (y3.length : Int))), (11, .v (.int .i64 c186)), (15, .sl 1 (v189.map cdI.enc)), (16, .v (.int .i64 (v189.length : Int))), (17, .v (.int .i64 c222)), (22, .sl 1 (v189.map cdI.enc)), (23, .v (.int .i64 (v189.length : Int))), (24, .v (.int .i64 (wr .i64 (c239 + 1)))), (33, .yl 4), (34, .v (.int .i64 v225)), (35, .v (.int .i64 v242)), (36, .v (.bool true)), (37, .v (.bool false))] [some ⟨2, 94, [.ag [.v (.int .i64 y0), .e0]], false⟩, some ⟨2, 94, [.ag [.v (.int .i64 y1), .rf 2 0 v243.length v243.length]], false⟩, some ⟨1, 3, (v243.map cdI.enc), false⟩, some ⟨1, 50, [.sl 1 (y3.map (cdL 1 cdI).enc)], false⟩, none] (by kernel_rfl) ?_
        refine RunY.done rfl ?_
        exact SemYN.wk (s1 := ⟨Fr 42 [(0, .yl 4), (4, .sl 1 (v189.map cdI.enc)), (5, .v (.int .i64 c222)), (6, .v (.int .i64 v225)), (9, .sl 1 (y3.map (cdL 1 cdI).enc)), (10, .v (.int .i64 (y3.length : Int))), (11, .v (.int .i64 c186)), (15, .sl 1 (v189.map cdI.enc)), (16, .v (.int .i64 (v189.length : Int))), (17, .v (.int .i64 c222)), (22, .sl 1 (v189.map cdI.enc)), (23, .v (.int .i64 (v189.length : Int))), (24, .v (.int .i64 (wr .i64 (c239 + 1))))], [some ⟨2, 94, [.ag [.v (.int .i64 y0), .e0]], false⟩, some ⟨2, 94, [.ag [.v (.int .i64 y1), .rf 2 0 v243.length v243.length]], false⟩, some ⟨1, 3, (v243.map cdI.enc), false⟩, some ⟨1, 50, [.sl 1 (y3.map (cdL 1 cdI).enc)], false⟩, none]⟩) WkY.f1 (ih (wr .i64 (c239 + 1)) v243 h)
      · rw [if_f hc244] at h
        rw [hc244]
        refine RunY.segF (n := 42) e_evening_meetings_k3_ok 6 [(0, .yl 4), (4, .sl 1 (v189.map cdI.enc)), (5, .v (.int .i64 c222)), (6, .v (.int .i64 v225)), (9, .sl 1 (y3.map (cdL 1 cdI).enc)), (10, .v (.int .i64 (y3.length : Int))), (11, .v (.int .i64 c186)), (15, .sl 1 (v189.map cdI.enc)), (16, .v (.int .i64 (v189.length : Int))), (17, .v (.int .i64 c222)), (22, .sl 1 (v189.map cdI.enc)), (23, .v (.int .i64 (v189.length : Int))), (24, .v (.int .i64 c239)), (33, .tp []), (34, .tp []), (35, .tp []), (36, .tp []), (37, .tp []), (38, .v (.bool false))] [some ⟨2, 94, [.ag [.v (.int .i64 y0), .e0]], false⟩, some ⟨2, 94, [.ag [.v (.int .i64 y1), .rf 2 0 c240.length c240.length]], false⟩, some ⟨1, 3, (c240.map cdI.enc), false⟩, some ⟨1, 50, [.sl 1 (y3.map (cdL 1 cdI).enc)], false⟩, none] (by kernel_rfl) ?_
        refine RunY.done rfl (SemY.fr (l' := [(0, .yl 4), (4, .sl 1 (v189.map cdI.enc)), (5, .v (.int .i64 c222)), (6, .v (.int .i64 v225)), (9, .sl 1 (y3.map (cdL 1 cdI).enc)), (10, .v (.int .i64 (y3.length : Int))), (11, .v (.int .i64 c186)), (15, .sl 1 (v189.map cdI.enc)), (16, .v (.int .i64 (v189.length : Int))), (17, .v (.int .i64 c222)), (22, .sl 1 (v189.map cdI.enc)), (23, .v (.int .i64 (v189.length : Int))), (24, .v (.int .i64 c239)), (33, .tp []), (34, .tp []), (35, .tp []), (36, .tp []), (37, .tp []), (38, .v (.bool false))]) (by kernel_rfl) ?_)
        refine SemY.cond_false (by kernel_rfl) ?_
        refine SemY.skip ?_
        refine SemY.region ?_
        refine RunY.segF (n := 42) e_evening_meetings_k3_ok 2 [(0, .yl 4), (4, .sl 1 (v189.map cdI.enc)), (5, .v (.int .i64 c222)), (6, .v (.int .i64 v225)), (9, .sl 1 (y3.map (cdL 1 cdI).enc)), (10, .v (.int .i64 (y3.length : Int))), (11, .v (.int .i64 c186)), (15, .sl 1 (v189.map cdI.enc)), (16, .v (.int .i64 (v189.length : Int))), (17, .v (.int .i64 c222)), (22, .sl 1 (v189.map cdI.enc)), (23, .v (.int .i64 (v189.length : Int))), (24, .v (.int .i64 (wr .i64 (c239 + 1)))), (33, .tp []), (34, .tp []), (35, .tp []), (36, .tp []), (37, .tp [])] [some ⟨2, 94, [.ag [.v (.int .i64 y0), .e0]], false⟩, some ⟨2, 94, [.ag [.v (.int .i64 y1), .rf 2 0 c240.length c240.length]], false⟩, some ⟨1, 3, (c240.map cdI.enc), false⟩, some ⟨1, 50, [.sl 1 (y3.map (cdL 1 cdI).enc)], false⟩, none] (by kernel_rfl) ?_
        refine RunY.done rfl ?_
        exact SemYN.wk (s1 := ⟨Fr 42 [(0, .yl 4), (4, .sl 1 (v189.map cdI.enc)), (5, .v (.int .i64 c222)), (6, .v (.int .i64 v225)), (9, .sl 1 (y3.map (cdL 1 cdI).enc)), (10, .v (.int .i64 (y3.length : Int))), (11, .v (.int .i64 c186)), (15, .sl 1 (v189.map cdI.enc)), (16, .v (.int .i64 (v189.length : Int))), (17, .v (.int .i64 c222)), (22, .sl 1 (v189.map cdI.enc)), (23, .v (.int .i64 (v189.length : Int))), (24, .v (.int .i64 (wr .i64 (c239 + 1))))], [some ⟨2, 94, [.ag [.v (.int .i64 y0), .e0]], false⟩, some ⟨2, 94, [.ag [.v (.int .i64 y1), .rf 2 0 c240.length c240.length]], false⟩, some ⟨1, 3, (c240.map cdI.enc), false⟩, some ⟨1, 50, [.sl 1 (y3.map (cdL 1 cdI).enc)], false⟩, none]⟩) WkY.f1 (ih (wr .i64 (c239 + 1)) c240 h)
    · rw [if_f hb241] at h
      refine SemY.exit ?_
      have hq := Option.some.inj h; subst hq
      exact ⟨rfl, WkY.f1⟩
set_option maxHeartbeats 4000000 in
set_option maxRecDepth 100000 in
theorem evening_meetings_k3_2_ok (y0 : Int) (y1 : Int) (y3 : (List (List Int))) (y4 : (List (List (List Int)))) (y5 : Int) (y6 : Int) (c186 : Int) (v189 : (List Int)) : ∀ (f : Nat) (c222 : Int) (c223 : (List Int)) (r : ((List Int))), evening_meetings_k3_2 y0 y1 y3 y4 y5 y6 c186 v189 f c222 c223 = some r → SemYN e_evening_meetings_k3 (cx_evening_meetings_k3 y4 y5 y6) (pc cb_evening_meetings_k3 [1, 0, 0, 1, 1, 0, 0, 1, 1, 0, 0]) f ⟨Fr 42 [(0, .yl 4), (4, .sl 1 (v189.map cdI.enc)), (9, .sl 1 (y3.map (cdL 1 cdI).enc)), (10, .v (.int .i64 (y3.length : Int))), (11, .v (.int .i64 c186)), (15, .sl 1 (v189.map cdI.enc)), (16, .v (.int .i64 (v189.length : Int))), (17, .v (.int .i64 c222))], [some ⟨2, 94, [.ag [.v (.int .i64 y0), .e0]], false⟩, some ⟨2, 94, [.ag [.v (.int .i64 y1), .rf 2 0 c223.length c223.length]], false⟩, some ⟨1, 3, (c223.map cdI.enc), false⟩, some ⟨1, 50, [.sl 1 (y3.map (cdL 1 cdI).enc)], false⟩, none]⟩ (fun e s => e = (.exit 2) ∧ WkY e_evening_meetings_k3 s ⟨Fr 42 [(0, .yl 4), (9, .sl 1 (y3.map (cdL 1 cdI).enc)), (10, .v (.int .i64 (y3.length : Int))), (11, .v (.int .i64 c186))], [some ⟨2, 94, [.ag [.v (.int .i64 y0), .e0]], false⟩, some ⟨2, 94, [.ag [.v (.int .i64 y1), .rf 2 0 r.length r.length]], false⟩, some ⟨1, 3, (r.map cdI.enc), false⟩, some ⟨1, 50, [.sl 1 (y3.map (cdL 1 cdI).enc)], false⟩, none]⟩) := by
  intro f
  induction f with
  | zero => intro c222 c223 r h; cases h
  | succ f ih0 =>
    intro c222 c223 r h
    have ih := fun (c222 : Int) (c223 : (List Int)) => ih0 c222 c223 r
    unfold evening_meetings_k3_2 at h
    refine SemYN.succ ?_
    refine SemY.seq ?_
    refine SemY.region ?_
    refine RunY.segF (n := 42) e_evening_meetings_k3_ok 1 [(0, .yl 4), (4, .sl 1 (v189.map cdI.enc)), (9, .sl 1 (y3.map (cdL 1 cdI).enc)), (10, .v (.int .i64 (y3.length : Int))), (11, .v (.int .i64 c186)), (15, .sl 1 (v189.map cdI.enc)), (16, .v (.int .i64 (v189.length : Int))), (17, .v (.int .i64 c222)), (18, .v (.bool (decide (c222 < (v189.length : Int)))))] [some ⟨2, 94, [.ag [.v (.int .i64 y0), .e0]], false⟩, some ⟨2, 94, [.ag [.v (.int .i64 y1), .rf 2 0 c223.length c223.length]], false⟩, some ⟨1, 3, (c223.map cdI.enc), false⟩, some ⟨1, 50, [.sl 1 (y3.map (cdL 1 cdI).enc)], false⟩, none] (by kernel_rfl) ?_
    refine RunY.done rfl (SemY.fr (l' := [(0, .yl 4), (4, .sl 1 (v189.map cdI.enc)), (9, .sl 1 (y3.map (cdL 1 cdI).enc)), (10, .v (.int .i64 (y3.length : Int))), (11, .v (.int .i64 c186)), (15, .sl 1 (v189.map cdI.enc)), (16, .v (.int .i64 (v189.length : Int))), (17, .v (.int .i64 c222)), (18, .v (.bool (decide (c222 < (v189.length : Int)))))]) (by kernel_rfl) ?_)
    refine SemY.seq ?_
    refine SemY.cond (b := (decide (c222 < (v189.length : Int)))) (by kernel_rfl) (fun hb224 => ?_) (fun hb224 => ?_)
    · rw [if_pos hb224] at h
      refine SemY.skip ?_
      refine SemY.seq ?_
      refine SemY.block ?_
      refine SemY.seq ?_
      refine SemY.region ?_
      refine RunY.segF (n := 42) e_evening_meetings_k3_ok 1 [(0, .yl 4), (4, .sl 1 (v189.map cdI.enc)), (9, .sl 1 (y3.map (cdL 1 cdI).enc)), (10, .v (.int .i64 (y3.length : Int))), (11, .v (.int .i64 c186)), (15, .sl 1 (v189.map cdI.enc)), (16, .v (.int .i64 (v189.length : Int))), (17, .v (.int .i64 c222)), (19, .v (.int .i64 c222))] [some ⟨2, 94, [.ag [.v (.int .i64 y0), .e0]], false⟩, some ⟨2, 94, [.ag [.v (.int .i64 y1), .rf 2 0 c223.length c223.length]], false⟩, some ⟨1, 3, (c223.map cdI.enc), false⟩, some ⟨1, 50, [.sl 1 (y3.map (cdL 1 cdI).enc)], false⟩, none] (by kernel_rfl) ?_
      obtain ⟨v225, hv225, h⟩ := Option.bind_eq_some_iff.1 h
      refine RunY.one e_evening_meetings_k3_ok 0 rfl (op_q (wantedA_none rfl) rfl (q_indexAddr (a := .sl 1 (v189.map cdI.enc)) (b := .v (.int .i64 c222)) (by kernel_rfl) (by kernel_rfl) (ix_sl (e := cdI.enc) (el := 3) (k := 1) (ki := .i64) (by kernel_rfl) (by kernel_rfl) hv225))) ?_
      refine RunY.segF (n := 42) e_evening_meetings_k3_ok 3 [(0, .yl 4), (4, .sl 1 (v189.map cdI.enc)), (5, .v (.int .i64 c222)), (6, .v (.int .i64 v225)), (9, .sl 1 (y3.map (cdL 1 cdI).enc)), (10, .v (.int .i64 (y3.length : Int))), (11, .v (.int .i64 c186)), (15, .sl 1 (v189.map cdI.enc)), (16, .v (.int .i64 (v189.length : Int))), (17, .v (.int .i64 c222))] [some ⟨2, 94, [.ag [.v (.int .i64 y0), .e0]], false⟩, some ⟨2, 94, [.ag [.v (.int .i64 y1), .rf 2 0 c223.length c223.length]], false⟩, some ⟨1, 3, (c223.map cdI.enc), false⟩, some ⟨1, 50, [.sl 1 (y3.map (cdL 1 cdI).enc)], false⟩, none] (by kernel_rfl) ?_
      refine RunY.done rfl (SemY.fr (l' := [(0, .yl 4), (4, .sl 1 (v189.map cdI.enc)), (5, .v (.int .i64 c222)), (6, .v (.int .i64 v225)), (9, .sl 1 (y3.map (cdL 1 cdI).enc)), (10, .v (.int .i64 (y3.length : Int))), (11, .v (.int .i64 c186)), (15, .sl 1 (v189.map cdI.enc)), (16, .v (.int .i64 (v189.length : Int))), (17, .v (.int .i64 c222))]) (by kernel_rfl) ?_)
      refine SemY.seq ?_
      refine SemY.region ?_
      refine RunY.segF (n := 42) e_evening_meetings_k3_ok 1 [(0, .yl 4), (4, .sl 1 (v189.map cdI.enc)), (5, .v (.int .i64 c222)), (6, .v (.int .i64 v225)), (9, .sl 1 (y3.map (cdL 1 cdI).enc)), (10, .v (.int .i64 (y3.length : Int))), (11, .v (.int .i64 c186)), (15, .sl 1 (v189.map cdI.enc)), (16, .v (.int .i64 (v189.length : Int))), (17, .v (.int .i64 c222)), (22, .sl 1 (v189.map cdI.enc))] [some ⟨2, 94, [.ag [.v (.int .i64 y0), .e0]], false⟩, some ⟨2, 94, [.ag [.v (.int .i64 y1), .rf 2 0 c223.length c223.length]], false⟩, some ⟨1, 3, (c223.map cdI.enc), false⟩, some ⟨1, 50, [.sl 1 (y3.map (cdL 1 cdI).enc)], false⟩, none] (by kernel_rfl) ?_
      refine RunY.one e_evening_meetings_k3_ok 0 rfl (op_q (wantedA_none rfl) rfl (q_len (a := .sl 1 (v189.map cdI.enc)) (by kernel_rfl) (len_sl (el := 3) (by kernel_rfl)))) ?_
      refine RunY.segF (n := 42) e_evening_meetings_k3_ok 1 [(0, .yl 4), (4, .sl 1 (v189.map cdI.enc)), (5, .v (.int .i64 c222)), (6, .v (.int .i64 v225)), (9, .sl 1 (y3.map (cdL 1 cdI).enc)), (10, .v (.int .i64 (y3.length : Int))), (11, .v (.int .i64 c186)), (15, .sl 1 (v189.map cdI.enc)), (16, .v (.int .i64 (v189.length : Int))), (17, .v (.int .i64 c222)), (22, .sl 1 (v189.map cdI.enc)), (23, .v (.int .i64 (v189.length : Int))), (24, .v (.int .i64 0))] [some ⟨2, 94, [.ag [.v (.int .i64 y0), .e0]], false⟩, some ⟨2, 94, [.ag [.v (.int .i64 y1), .rf 2 0 c223.length c223.length]], false⟩, some ⟨1, 3, (c223.map cdI.enc), false⟩, some ⟨1, 50, [.sl 1 (y3.map (cdL 1 cdI).enc)], false⟩, none] (by kernel_rfl) ?_
      refine RunY.done rfl (SemY.fr (l' := [(0, .yl 4), (4, .sl 1 (v189.map cdI.enc)), (5, .v (.int .i64 c222)), (6, .v (.int .i64 v225)), (9, .sl 1 (y3.map (cdL 1 cdI).enc)), (10, .v (.int .i64 (y3.length : Int))), (11, .v (.int .i64 c186)), (15, .sl 1 (v189.map cdI.enc)), (16, .v (.int .i64 (v189.length : Int))), (17, .v (.int .i64 c222)), (22, .sl 1 (v189.map cdI.enc)), (23, .v (.int .i64 (v189.length : Int))), (24, .v (.int .i64 0))]) (by kernel_rfl) ?_)
      refine SemY.block ?_
      obtain ⟨r246, hr246, h⟩ := Option.bind_eq_some_iff.1 h
      refine SemY.loop (n := 100000) ?_
      refine SemY.cutN (SemYN.wk (s1 := ⟨Fr 42 [(0, .yl 4), (4, .sl 1 (v189.map cdI.enc)), (5, .v (.int .i64 c222)), (6, .v (.int .i64 v225)), (9, .sl 1 (y3.map (cdL 1 cdI).enc)), (10, .v (.int .i64 (y3.length : Int))), (11, .v (.int .i64 c186)), (15, .sl 1 (v189.map cdI.enc)), (16, .v (.int .i64 (v189.length : Int))), (17, .v (.int .i64 c222)), (22, .sl 1 (v189.map cdI.enc)), (23, .v (.int .i64 (v189.length : Int))), (24, .v (.int .i64 0))], [some ⟨2, 94, [.ag [.v (.int .i64 y0), .e0]], false⟩, some ⟨2, 94, [.ag [.v (.int .i64 y1), .rf 2 0 c223.length c223.length]], false⟩, some ⟨1, 3, (c223.map cdI.enc), false⟩, some ⟨1, 50, [.sl 1 (y3.map (cdL 1 cdI).enc)], false⟩, none]⟩) WkY.f1 (evening_meetings_k3_3_ok y0 y1 y3 y4 y5 y6 c186 v189 c222 v225 _ 0 c223 _ hr246)) ?_
      refine SemY.region ?_
      refine RunY.segF (n := 42) e_evening_meetings_k3_ok 2 [(0, .yl 4), (4, .sl 1 (v189.map cdI.enc)), (9, .sl 1 (y3.map (cdL 1 cdI).enc)), (10, .v (.int .i64 (y3.length : Int))), (11, .v (.int .i64 c186)), (15, .sl 1 (v189.map cdI.enc)), (16, .v (.int .i64 (v189.length : Int))), (17, .v (.int .i64 (wr .i64 (c222 + 1))))] [some ⟨2, 94, [.ag [.v (.int .i64 y0), .e0]], false⟩, some ⟨2, 94, [.ag [.v (.int .i64 y1), .rf 2 0 r246.length r246.length]], false⟩, some ⟨1, 3, (r246.map cdI.enc), false⟩, some ⟨1, 50, [.sl 1 (y3.map (cdL 1 cdI).enc)], false⟩, none] (by kernel_rfl) ?_
      refine RunY.done rfl ?_
      exact SemYN.wk (s1 := ⟨Fr 42 [(0, .yl 4), (4, .sl 1 (v189.map cdI.enc)), (9, .sl 1 (y3.map (cdL 1 cdI).enc)), (10, .v (.int .i64 (y3.length : Int))), (11, .v (.int .i64 c186)), (15, .sl 1 (v189.map cdI.enc)), (16, .v (.int .i64 (v189.length : Int))), (17, .v (.int .i64 (wr .i64 (c222 + 1))))], [some ⟨2, 94, [.ag [.v (.int .i64 y0), .e0]], false⟩, some ⟨2, 94, [.ag [.v (.int .i64 y1), .rf 2 0 r246.length r246.length]], false⟩, some ⟨1, 3, (r246.map cdI.enc), false⟩, some ⟨1, 50, [.sl 1 (y3.map (cdL 1 cdI).enc)], false⟩, none]⟩) WkY.f1 (ih (wr .i64 (c222 + 1)) r246 h)
    · rw [if_f hb224] at h
      refine SemY.exit ?_
      have hq := Option.some.inj h; subst hq
      exact ⟨rfl, WkY.f1⟩
set_option maxHeartbeats 4000000 in
set_option maxRecDepth 100000 in
theorem evening_meetings_k3_1_ok (y0 : Int) (y1 : Int) (y3 : (List (List Int))) (y4 : (List (List (List Int)))) (y5 : Int) (y6 : Int) : ∀ (f : Nat) (c186 : Int) (c187 : (List Int)) (r : ((List Int))), evening_meetings_k3_1 y0 y1 y3 y4 y5 y6 f c186 c187 = some r → SemYN e_evening_meetings_k3 (cx_evening_meetings_k3 y4 y5 y6) (pc cb_evening_meetings_k3 [1, 0, 0]) f ⟨Fr 42 [(0, .yl 4), (9, .sl 1 (y3.map (cdL 1 cdI).enc)), (10, .v (.int .i64 (y3.length : Int))), (11, .v (.int .i64 c186))], [some ⟨2, 94, [.ag [.v (.int .i64 y0), .e0]], false⟩, some ⟨2, 94, [.ag [.v (.int .i64 y1), .rf 2 0 c187.length c187.length]], false⟩, some ⟨1, 3, (c187.map cdI.enc), false⟩, some ⟨1, 50, [.sl 1 (y3.map (cdL 1 cdI).enc)], false⟩, none]⟩ (fun e s => e = (.exit 0) ∧ WkY e_evening_meetings_k3 s ⟨Fr 42 [], [some ⟨2, 94, [.ag [.v (.int .i64 y0), .e0]], false⟩, some ⟨2, 94, [.ag [.v (.int .i64 y1), .rf 2 0 r.length r.length]], false⟩, some ⟨1, 3, (r.map cdI.enc), false⟩, some ⟨1, 50, [.sl 1 (y3.map (cdL 1 cdI).enc)], false⟩, none]⟩) := by
  intro f
  induction f with
  | zero => intro c186 c187 r h; cases h
  | succ f ih0 =>
    intro c186 c187 r h
    have ih := fun (c186 : Int) (c187 : (List Int)) => ih0 c186 c187 r
    unfold evening_meetings_k3_1 at h
    refine SemYN.succ ?_
    refine SemY.seq ?_
    refine SemY.region ?_
    refine RunY.segF (n := 42) e_evening_meetings_k3_ok 1 [(0, .yl 4), (9, .sl 1 (y3.map (cdL 1 cdI).enc)), (10, .v (.int .i64 (y3.length : Int))), (11, .v (.int .i64 c186)), (12, .v (.bool (decide (c186 < (y3.length : Int)))))] [some ⟨2, 94, [.ag [.v (.int .i64 y0), .e0]], false⟩, some ⟨2, 94, [.ag [.v (.int .i64 y1), .rf 2 0 c187.length c187.length]], false⟩, some ⟨1, 3, (c187.map cdI.enc), false⟩, some ⟨1, 50, [.sl 1 (y3.map (cdL 1 cdI).enc)], false⟩, none] (by kernel_rfl) ?_
    refine RunY.done rfl (SemY.fr (l' := [(0, .yl 4), (9, .sl 1 (y3.map (cdL 1 cdI).enc)), (10, .v (.int .i64 (y3.length : Int))), (11, .v (.int .i64 c186)), (12, .v (.bool (decide (c186 < (y3.length : Int)))))]) (by kernel_rfl) ?_)
    refine SemY.seq ?_
    refine SemY.cond (b := (decide (c186 < (y3.length : Int)))) (by kernel_rfl) (fun hb188 => ?_) (fun hb188 => ?_)
    · rw [if_pos hb188] at h
      refine SemY.skip ?_
      refine SemY.seq ?_
      refine SemY.block ?_
      refine SemY.seq ?_
      refine SemY.region ?_
      obtain ⟨v189, hv189, h⟩ := Option.bind_eq_some_iff.1 h
      refine RunY.one e_evening_meetings_k3_ok 0 rfl (op_q (wantedA_none rfl) rfl (q_indexAddr (a := .sl 1 (y3.map (cdL 1 cdI).enc)) (b := .v (.int .i64 c186)) (by kernel_rfl) (by kernel_rfl) (ix_sl (e := (cdL 1 cdI).enc) (el := 31) (k := 1) (ki := .i64) (by kernel_rfl) (by kernel_rfl) hv189))) ?_
      refine RunY.segF (n := 42) e_evening_meetings_k3_ok 2 [(0, .yl 4), (4, .sl 1 (v189.map cdI.enc)), (9, .sl 1 (y3.map (cdL 1 cdI).enc)), (10, .v (.int .i64 (y3.length : Int))), (11, .v (.int .i64 c186))] [some ⟨2, 94, [.ag [.v (.int .i64 y0), .e0]], false⟩, some ⟨2, 94, [.ag [.v (.int .i64 y1), .rf 2 0 c187.length c187.length]], false⟩, some ⟨1, 3, (c187.map cdI.enc), false⟩, some ⟨1, 50, [.sl 1 (y3.map (cdL 1 cdI).enc)], false⟩, none] (by kernel_rfl) ?_
      refine RunY.done rfl (SemY.fr (l' := [(0, .yl 4), (4, .sl 1 (v189.map cdI.enc)), (9, .sl 1 (y3.map (cdL 1 cdI).enc)), (10, .v (.int .i64 (y3.length : Int))), (11, .v (.int .i64 c186))]) (by kernel_rfl) ?_)
      refine SemY.seq ?_
      refine SemY.region ?_
      refine RunY.segF (n := 42) e_evening_meetings_k3_ok 1 [(0, .yl 4), (4, .sl 1 (v189.map cdI.enc)), (9, .sl 1 (y3.map (cdL 1 cdI).enc)), (10, .v (.int .i64 (y3.length : Int))), (11, .v (.int .i64 c186)), (15, .sl 1 (v189.map cdI.enc))] [some ⟨2, 94, [.ag [.v (.int .i64 y0), .e0]], false⟩, some ⟨2, 94, [.ag [.v (.int .i64 y1), .rf 2 0 c187.length c187.length]], false⟩, some ⟨1, 3, (c187.map cdI.enc), false⟩, some ⟨1, 50, [.sl 1 (y3.map (cdL 1 cdI).enc)], false⟩, none] (by kernel_rfl) ?_
      refine RunY.one e_evening_meetings_k3_ok 0 rfl (op_q (wantedA_none rfl) rfl (q_len (a := .sl 1 (v189.map cdI.enc)) (by kernel_rfl) (len_sl (el := 3) (by kernel_rfl)))) ?_
      refine RunY.segF (n := 42) e_evening_meetings_k3_ok 1 [(0, .yl 4), (4, .sl 1 (v189.map cdI.enc)), (9, .sl 1 (y3.map (cdL 1 cdI).enc)), (10, .v (.int .i64 (y3.length : Int))), (11, .v (.int .i64 c186)), (15, .sl 1 (v189.map cdI.enc)), (16, .v (.int .i64 (v189.length : Int))), (17, .v (.int .i64 0))] [some ⟨2, 94, [.ag [.v (.int .i64 y0), .e0]], false⟩, some ⟨2, 94, [.ag [.v (.int .i64 y1), .rf 2 0 c187.length c187.length]], false⟩, some ⟨1, 3, (c187.map cdI.enc), false⟩, some ⟨1, 50, [.sl 1 (y3.map (cdL 1 cdI).enc)], false⟩, none] (by kernel_rfl) ?_
      refine RunY.done rfl (SemY.fr (l' := [(0, .yl 4), (4, .sl 1 (v189.map cdI.enc)), (9, .sl 1 (y3.map (cdL 1 cdI).enc)), (10, .v (.int .i64 (y3.length : Int))), (11, .v (.int .i64 c186)), (15, .sl 1 (v189.map cdI.enc)), (16, .v (.int .i64 (v189.length : Int))), (17, .v (.int .i64 0))]) (by kernel_rfl) ?_)
      refine SemY.block ?_
      obtain ⟨r248, hr248, h⟩ := Option.bind_eq_some_iff.1 h
      refine SemY.loop (n := 100000) ?_
      refine SemY.cutN (SemYN.wk (s1 := ⟨Fr 42 [(0, .yl 4), (4, .sl 1 (v189.map cdI.enc)), (9, .sl 1 (y3.map (cdL 1 cdI).enc)), (10, .v (.int .i64 (y3.length : Int))), (11, .v (.int .i64 c186)), (15, .sl 1 (v189.map cdI.enc)), (16, .v (.int .i64 (v189.length : Int))), (17, .v (.int .i64 0))], [some ⟨2, 94, [.ag [.v (.int .i64 y0), .e0]], false⟩, some ⟨2, 94, [.ag [.v (.int .i64 y1), .rf 2 0 c187.length c187.length]], false⟩, some ⟨1, 3, (c187.map cdI.enc), false⟩, some ⟨1, 50, [.sl 1 (y3.map (cdL 1 cdI).enc)], false⟩, none]⟩) WkY.f1 (evening_meetings_k3_2_ok y0 y1 y3 y4 y5 y6 c186 v189 _ 0 c187 _ hr248)) ?_
      refine SemY.region ?_
      refine RunY.segF (n := 42) e_evening_meetings_k3_ok 2 [(0, .yl 4), (9, .sl 1 (y3.map (cdL 1 cdI).enc)), (10, .v (.int .i64 (y3.length : Int))), (11, .v (.int .i64 (wr .i64 (c186 + 1))))] [some ⟨2, 94, [.ag [.v (.int .i64 y0), .e0]], false⟩, some ⟨2, 94, [.ag [.v (.int .i64 y1), .rf 2 0 r248.length r248.length]], false⟩, some ⟨1, 3, (r248.map cdI.enc), false⟩, some ⟨1, 50, [.sl 1 (y3.map (cdL 1 cdI).enc)], false⟩, none] (by kernel_rfl) ?_
      refine RunY.done rfl ?_
      exact SemYN.wk (s1 := ⟨Fr 42 [(0, .yl 4), (9, .sl 1 (y3.map (cdL 1 cdI).enc)), (10, .v (.int .i64 (y3.length : Int))), (11, .v (.int .i64 (wr .i64 (c186 + 1))))], [some ⟨2, 94, [.ag [.v (.int .i64 y0), .e0]], false⟩, some ⟨2, 94, [.ag [.v (.int .i64 y1), .rf 2 0 r248.length r248.length]], false⟩, some ⟨1, 3, (r248.map cdI.enc), false⟩, some ⟨1, 50, [.sl 1 (y3.map (cdL 1 cdI).enc)], false⟩, none]⟩) WkY.f1 (ih (wr .i64 (c186 + 1)) r248 h)
    · rw [if_f hb188] at h
      refine SemY.exit ?_
      have hq := Option.some.inj h; subst hq
      exact ⟨rfl, WkY.f1⟩
set_option maxHeartbeats 4000000 in
set_option maxRecDepth 100000 in
theorem evening_meetings_k3_sem (y0 : Int) (y1 : Int) (y2 : (List Int)) (y3 : (List (List Int))) (y4 : (List (List (List Int)))) (y5 : Int) (y6 : Int) (r : (List Int)) (h : evening_meetings_k3 y0 y1 y2 y3 y4 y5 y6 = some r) : SemY e_evening_meetings_k3 (cx_evening_meetings_k3 y4 y5 y6) cb_evening_meetings_k3 ⟨Fr 42 (pairs0 0 [.yl 4, .pt 3 0 0]), [some ⟨2, 94, [.ag [.v (.int .i64 y0), .e0]], false⟩, some ⟨2, 94, [.ag [.v (.int .i64 y1), .rf 2 0 y2.length y2.length]], false⟩, some ⟨1, 3, (y2.map cdI.enc), false⟩, some ⟨1, 50, [.sl 1 (y3.map (cdL 1 cdI).enc)], false⟩, none]⟩ fun x s' => (x = .normal ∨ x = .ret) ∧ ∃ ys, resA e_evening_meetings_k3.P s'.fr s'.hp Tryd.f108.results.toList = some ys ∧ (retA ys = .tp [] ∧ s'.hp = [some ⟨2, 94, [.ag [.v (.int .i64 y0), .e0]], false⟩, some ⟨2, 94, [.ag [.v (.int .i64 y1), .rf 2 0 r.length r.length]], false⟩, some ⟨1, 3, (r.map cdI.enc), false⟩, some ⟨1, 50, [.sl 1 (y3.map (cdL 1 cdI).enc)], false⟩, none]) := by
  unfold evening_meetings_k3 at h
  refine SemY.seq ?_
  refine SemY.region ?_
  refine RunY.segF (n := 42) e_evening_meetings_k3_ok 1 [(0, .yl 4), (9, .sl 1 (y3.map (cdL 1 cdI).enc))] [some ⟨2, 94, [.ag [.v (.int .i64 y0), .e0]], false⟩, some ⟨2, 94, [.ag [.v (.int .i64 y1), .rf 2 0 y2.length y2.length]], false⟩, some ⟨1, 3, (y2.map cdI.enc), false⟩, some ⟨1, 50, [.sl 1 (y3.map (cdL 1 cdI).enc)], false⟩, none] (by kernel_rfl) ?_
  refine RunY.one e_evening_meetings_k3_ok 0 rfl (op_q (wantedA_none rfl) rfl (q_len (a := .sl 1 (y3.map (cdL 1 cdI).enc)) (by kernel_rfl) (len_sl (el := 31) (by kernel_rfl)))) ?_
  refine RunY.segF (n := 42) e_evening_meetings_k3_ok 1 [(0, .yl 4), (9, .sl 1 (y3.map (cdL 1 cdI).enc)), (10, .v (.int .i64 (y3.length : Int))), (11, .v (.int .i64 0))] [some ⟨2, 94, [.ag [.v (.int .i64 y0), .e0]], false⟩, some ⟨2, 94, [.ag [.v (.int .i64 y1), .rf 2 0 y2.length y2.length]], false⟩, some ⟨1, 3, (y2.map cdI.enc), false⟩, some ⟨1, 50, [.sl 1 (y3.map (cdL 1 cdI).enc)], false⟩, none] (by kernel_rfl) ?_
  refine RunY.done rfl (SemY.fr (l' := [(0, .yl 4), (9, .sl 1 (y3.map (cdL 1 cdI).enc)), (10, .v (.int .i64 (y3.length : Int))), (11, .v (.int .i64 0))]) (by kernel_rfl) ?_)
  refine SemY.block ?_
  obtain ⟨r250, hr250, h⟩ := Option.bind_eq_some_iff.1 h
  refine SemY.loop (n := 100000) ?_
  refine SemY.cutN (SemYN.wk (s1 := ⟨Fr 42 [(0, .yl 4), (9, .sl 1 (y3.map (cdL 1 cdI).enc)), (10, .v (.int .i64 (y3.length : Int))), (11, .v (.int .i64 0))], [some ⟨2, 94, [.ag [.v (.int .i64 y0), .e0]], false⟩, some ⟨2, 94, [.ag [.v (.int .i64 y1), .rf 2 0 y2.length y2.length]], false⟩, some ⟨1, 3, (y2.map cdI.enc), false⟩, some ⟨1, 50, [.sl 1 (y3.map (cdL 1 cdI).enc)], false⟩, none]⟩) WkY.f1 (evening_meetings_k3_1_ok y0 y1 y3 y4 y5 y6 _ 0 y2 _ hr250)) ?_
  have hq := Option.some.inj h; subst hq
  exact ⟨.inl rfl, [], (by kernel_rfl), (by kernel_rfl), (by kernel_rfl)⟩
def evening_meetings_1 (x1 : (List (List (List Int)))) (v1 : Int × Int × (List Int)) : Nat → (List Int) → Int → Option (((List Int)))
  | 0, _, _ => none
  | f + 1, c13, c14 =>
    if (decide (c14 < (x1.length : Int))) = true then
    (idx x1 c14).bind fun v16 =>
    (evening_meetings_k2 0 v1.1 c13 v16).bind fun v17 =>
    (evening_meetings_k3 0 v1.1 c13 v17 x1 (x1.length : Int) c14).bind fun v18 =>
    evening_meetings_1 x1 v1 f v18 (wr .i64 (c14 + 1))
    else
    some c13
def evening_meetings (x0 : Int) (x1 : (List (List (List Int)))) : Option ((Int × (List Int))) :=
  (evening_meetings_k1 0 x0).bind fun v1 =>
  (evening_meetings_1 x1 v1 100000 v1.2.2 0).bind fun r20 =>
  some (v1.1, r20)
def cs_evening_meetings : Cs (Int × (List (List (List Int))) × Unit) := (csC cdI (csC (cdL 1 (cdL 1 (cdL 1 cdI))) csN))
def er_evening_meetings (r : (Int × (List Int))) : AV := (cdG2 cdI (cdL 1 cdI) (fun _ => rfl) (fun _ => rfl)).enc r
set_option maxHeartbeats 4000000 in
set_option maxRecDepth 100000 in
theorem evening_meetings_1_ok (x1 : (List (List (List Int)))) (v1 : Int × Int × (List Int)) : ∀ (f : Nat) (c13 : (List Int)) (c14 : Int) (r : ((List Int))), evening_meetings_1 x1 v1 f c13 c14 = some r → SemN e_evening_meetings ⟨none, false⟩ (pc cb_evening_meetings [1, 1, 0, 1, 0, 0]) f ⟨Fr 32 [(4, .pt 0 0 0), (5, .pt 1 0 0), (12, .sl 1 (x1.map (cdL 1 (cdL 1 cdI)).enc)), (13, .v (.int .i64 (x1.length : Int))), (14, .v (.int .i64 c14))], [some ⟨2, 94, [.ag [.v (.int .i64 0), .e0]], false⟩, some ⟨2, 94, [.ag [.v (.int .i64 v1.1), .rf 2 0 c13.length c13.length]], false⟩, some ⟨1, 3, (c13.map cdI.enc), false⟩]⟩ (fun e s => e = (.exit 0) ∧ Wk e_evening_meetings s ⟨Fr 32 [(4, .pt 0 0 0), (5, .pt 1 0 0)], [some ⟨2, 94, [.ag [.v (.int .i64 0), .e0]], false⟩, some ⟨2, 94, [.ag [.v (.int .i64 v1.1), .rf 2 0 r.length r.length]], false⟩, some ⟨1, 3, (r.map cdI.enc), false⟩]⟩) := by
  intro f
  induction f with
  | zero => intro c13 c14 r h; cases h
  | succ f ih0 =>
    intro c13 c14 r h
    have ih := fun (c13 : (List Int)) (c14 : Int) => ih0 c13 c14 r
    unfold evening_meetings_1 at h
    refine SemN.succ ?_
    refine Sem.seq ?_
    refine Sem.runS (s1 := ⟨Fr 32 [(4, .pt 0 0 0), (5, .pt 1 0 0), (12, .sl 1 (x1.map (cdL 1 (cdL 1 cdI)).enc)), (13, .v (.int .i64 (x1.length : Int))), (14, .v (.int .i64 c14)), (15, .v (.bool (decide (c14 < (x1.length : Int)))))], [some ⟨2, 94, [.ag [.v (.int .i64 0), .e0]], false⟩, some ⟨2, 94, [.ag [.v (.int .i64 v1.1), .rf 2 0 c13.length c13.length]], false⟩, some ⟨1, 3, (c13.map cdI.enc), false⟩]⟩) ?_ ?_
    · refine RunS.segF (n := 32) e_evening_meetings_ok 1 [(4, .pt 0 0 0), (5, .pt 1 0 0), (12, .sl 1 (x1.map (cdL 1 (cdL 1 cdI)).enc)), (13, .v (.int .i64 (x1.length : Int))), (14, .v (.int .i64 c14)), (15, .v (.bool (decide (c14 < (x1.length : Int)))))] [some ⟨2, 94, [.ag [.v (.int .i64 0), .e0]], false⟩, some ⟨2, 94, [.ag [.v (.int .i64 v1.1), .rf 2 0 c13.length c13.length]], false⟩, some ⟨1, 3, (c13.map cdI.enc), false⟩] (by kernel_rfl) ?_
      exact RunS.done rfl (Wk.s3 [0, 1, 2] ⟨⟨_, rfl, bu_d⟩, ⟨_, rfl, bu_d⟩, ⟨_, rfl, bu_own⟩, trivial⟩ ⟨lv, lv, lv, lv, lv, lv, trivial⟩)
    refine Sem.seq ?_
    refine Sem.cond (b := (decide (c14 < (x1.length : Int)))) (by kernel_rfl) (fun hb15 => ?_) (fun hb15 => ?_)
    · rw [if_pos hb15] at h
      refine Sem.skip ?_
      refine Sem.seq ?_
      refine Sem.block ?_
      refine Sem.seq ?_
      obtain ⟨v16, hv16, h⟩ := Option.bind_eq_some_iff.1 h
      refine Sem.runS (s1 := ⟨Fr 32 [(4, .pt 0 0 0), (5, .pt 1 0 0), (7, .sl 1 (v16.map (cdL 1 cdI).enc)), (12, .sl 1 (x1.map (cdL 1 (cdL 1 cdI)).enc)), (13, .v (.int .i64 (x1.length : Int))), (14, .v (.int .i64 c14))], [some ⟨2, 94, [.ag [.v (.int .i64 0), .e0]], false⟩, some ⟨2, 94, [.ag [.v (.int .i64 v1.1), .rf 2 0 c13.length c13.length]], false⟩, some ⟨1, 3, (c13.map cdI.enc), false⟩]⟩) ?_ ?_
      · refine RunS.one e_evening_meetings_ok 0 rfl (op_q (wantedA_none rfl) rfl (q_indexAddr (a := .sl 1 (x1.map (cdL 1 (cdL 1 cdI)).enc)) (b := .v (.int .i64 c14)) (by kernel_rfl) (by kernel_rfl) (ix_sl (e := (cdL 1 (cdL 1 cdI)).enc) (el := 50) (k := 1) (ki := .i64) (by kernel_rfl) (by kernel_rfl) hv16))) ?_
        refine RunS.segF (n := 32) e_evening_meetings_ok 2 [(4, .pt 0 0 0), (5, .pt 1 0 0), (7, .sl 1 (v16.map (cdL 1 cdI).enc)), (12, .sl 1 (x1.map (cdL 1 (cdL 1 cdI)).enc)), (13, .v (.int .i64 (x1.length : Int))), (14, .v (.int .i64 c14))] [some ⟨2, 94, [.ag [.v (.int .i64 0), .e0]], false⟩, some ⟨2, 94, [.ag [.v (.int .i64 v1.1), .rf 2 0 c13.length c13.length]], false⟩, some ⟨1, 3, (c13.map cdI.enc), false⟩] (by kernel_rfl) ?_
        exact RunS.done rfl (Wk.s3 [0, 1, 2] ⟨⟨_, rfl, bu_d⟩, ⟨_, rfl, bu_d⟩, ⟨_, rfl, bu_own⟩, trivial⟩ ⟨lv, lv, lv, lv, lv, lv, trivial⟩)
      refine Sem.seq ?_
      obtain ⟨v17, hv17, h⟩ := Option.bind_eq_some_iff.1 h
      refine Sem.runS (s1 := ⟨Fr 32 [(4, .pt 0 0 0), (5, .pt 1 0 0), (12, .sl 1 (x1.map (cdL 1 (cdL 1 cdI)).enc)), (13, .v (.int .i64 (x1.length : Int))), (14, .v (.int .i64 c14)), (19, .fn 108 [] [.pt 3 0 0])], [some ⟨2, 94, [.ag [.v (.int .i64 0), .e0]], false⟩, some ⟨2, 94, [.ag [.v (.int .i64 v1.1), .rf 2 0 c13.length c13.length]], false⟩, some ⟨1, 3, (c13.map cdI.enc), false⟩, some ⟨1, 50, [.sl 1 (v17.map (cdL 1 cdI).enc)], false⟩]⟩) ?_ ?_
      · refine RunS.segF (n := 32) e_evening_meetings_ok 1 [(4, .pt 0 0 0), (5, .pt 1 0 0), (12, .sl 1 (x1.map (cdL 1 (cdL 1 cdI)).enc)), (13, .v (.int .i64 (x1.length : Int))), (14, .v (.int .i64 c14)), (18, .sl 1 (v16.map (cdL 1 cdI).enc))] [some ⟨2, 94, [.ag [.v (.int .i64 0), .e0]], false⟩, some ⟨2, 94, [.ag [.v (.int .i64 v1.1), .rf 2 0 c13.length c13.length]], false⟩, some ⟨1, 3, (c13.map cdI.enc), false⟩] (by kernel_rfl) ?_
        refine RunS.inlY (fid := 72) (caps := []) (xs := [.sl 1 (v16.map (cdL 1 cdI).enc)]) (fn := Tryd.f72) (Out := fun x h' => x = .fn 108 [] [.pt 3 0 0] ∧ h' = [some ⟨2, 94, [.ag [.v (.int .i64 0), .e0]], false⟩, some ⟨2, 94, [.ag [.v (.int .i64 v1.1), .rf 2 0 c13.length c13.length]], false⟩, some ⟨1, 3, (c13.map cdI.enc), false⟩, some ⟨1, 50, [.sl 1 (v17.map (cdL 1 cdI).enc)], false⟩]) rfl rfl e_evening_meetings_k2_ok rfl rfl rfl (wantedA_none rfl) (by kernel_rfl) (by kernel_rfl) (by kernel_rfl) (by kernel_rfl) (by show 1 ≤ 4; decide) (evening_meetings_k2_sem 0 v1.1 c13 v16 _ hv17) ?_
        rintro x h' ⟨rfl, rfl⟩
        exact RunS.done rfl (Wk.s3 [0, 1, 2, 3] ⟨⟨_, rfl, bu_d⟩, ⟨_, rfl, bu_d⟩, ⟨_, rfl, bu_own⟩, ⟨_, rfl, bu_d⟩, trivial⟩ ⟨lv, lv, lv, lv, lv, lv, trivial⟩)
      refine Sem.block ?_
      obtain ⟨v18, hv18, h⟩ := Option.bind_eq_some_iff.1 h
      refine Sem.range (E := e_evening_meetings) (gid := 108) (caps := [.pt 3 0 0]) (fn := Tryd.f108) (Out := fun x h' => x = .tp [] ∧ h' = [some ⟨2, 94, [.ag [.v (.int .i64 0), .e0]], false⟩, some ⟨2, 94, [.ag [.v (.int .i64 v1.1), .rf 2 0 v18.length v18.length]], false⟩, some ⟨1, 3, (v18.map cdI.enc), false⟩, some ⟨1, 50, [.sl 1 (v17.map (cdL 1 cdI).enc)], false⟩, none]) rfl rfl e_evening_meetings_k3_ok rfl rfl rfl (by kernel_rfl) (by kernel_rfl) (by kernel_rfl) (by kernel_rfl) (by kernel_rfl) (by show 2 ≤ 42; decide) (evening_meetings_k3_sem 0 v1.1 c13 v17 x1 (x1.length : Int) c14 _ hv18) ?_
      rintro x h' ⟨-, rfl⟩
      refine Sem.runS (s1 := ⟨Fr 32 [(4, .pt 0 0 0), (5, .pt 1 0 0), (12, .sl 1 (x1.map (cdL 1 (cdL 1 cdI)).enc)), (13, .v (.int .i64 (x1.length : Int))), (14, .v (.int .i64 (wr .i64 (c14 + 1))))], [some ⟨2, 94, [.ag [.v (.int .i64 0), .e0]], false⟩, some ⟨2, 94, [.ag [.v (.int .i64 v1.1), .rf 2 0 v18.length v18.length]], false⟩, some ⟨1, 3, (v18.map cdI.enc), false⟩]⟩) ?_ ?_
      · refine RunS.segF (n := 32) e_evening_meetings_ok 2 [(4, .pt 0 0 0), (5, .pt 1 0 0), (12, .sl 1 (x1.map (cdL 1 (cdL 1 cdI)).enc)), (13, .v (.int .i64 (x1.length : Int))), (14, .v (.int .i64 (wr .i64 (c14 + 1))))] [some ⟨2, 94, [.ag [.v (.int .i64 0), .e0]], false⟩, some ⟨2, 94, [.ag [.v (.int .i64 v1.1), .rf 2 0 v18.length v18.length]], false⟩, some ⟨1, 3, (v18.map cdI.enc), false⟩, some ⟨1, 50, [.sl 1 (v17.map (cdL 1 cdI).enc)], false⟩, none] (by kernel_rfl) ?_
        exact RunS.done rfl (Wk.s3 [0, 1, 2] ⟨⟨_, rfl, bu_d⟩, ⟨_, rfl, bu_d⟩, ⟨_, rfl, bu_own⟩, trivial⟩ ⟨lv, lv, lv, lv, lv, trivial⟩)
      exact SemN.wk (s1 := ⟨Fr 32 [(4, .pt 0 0 0), (5, .pt 1 0 0), (12, .sl 1 (x1.map (cdL 1 (cdL 1 cdI)).enc)), (13, .v (.int .i64 (x1.length : Int))), (14, .v (.int .i64 (wr .i64 (c14 + 1))))], [some ⟨2, 94, [.ag [.v (.int .i64 0), .e0]], false⟩, some ⟨2, 94, [.ag [.v (.int .i64 v1.1), .rf 2 0 v18.length v18.length]], false⟩, some ⟨1, 3, (v18.map cdI.enc), false⟩]⟩) (Wk.s3 [0, 1, 2] ⟨⟨_, rfl, bu_d⟩, ⟨_, rfl, bu_d⟩, ⟨_, rfl, bu_own⟩, trivial⟩ ⟨lv, lv, lv, lv, lv, trivial⟩) (ih v18 (wr .i64 (c14 + 1)) h)
    · rw [if_f hb15] at h
      refine Sem.exit ?_
      have hq := Option.some.inj h; subst hq
      exact ⟨rfl, (Wk.s3 [0, 1, 2] ⟨⟨_, rfl, bu_d⟩, ⟨_, rfl, bu_d⟩, ⟨_, rfl, bu_own⟩, trivial⟩ ⟨lv, lv, trivial⟩)⟩
set_option maxHeartbeats 4000000 in
set_option maxRecDepth 100000 in
theorem evening_meetings_sem (x0 : Int) (x1 : (List (List (List Int)))) (r : (Int × (List Int))) (h : evening_meetings x0 x1 = some r) : Sem e_evening_meetings ⟨none, false⟩ cb_evening_meetings ⟨Fr 32 (pairs0 0 (cs_evening_meetings.enc (x0, x1, ()))), []⟩ fun e s' => (e = .normal ∨ e = .ret) ∧ ∃ xs, resA e_evening_meetings.P s'.fr s'.hp Tryd.f80.results.toList = some xs ∧ retA xs = er_evening_meetings r := by
  unfold evening_meetings at h
  refine Sem.wkQ (Sem.wk (s1 := ⟨Fr 32 [(0, .v (.int .i64 x0)), (1, .sl 1 (x1.map (cdL 1 (cdL 1 cdI)).enc))], []⟩) Wk.f1 ?_)
  refine Sem.seq ?_
  refine Sem.runS (s1 := ⟨Fr 32 [(0, .v (.int .i64 x0)), (1, .sl 1 (x1.map (cdL 1 (cdL 1 cdI)).enc)), (4, .pt 0 0 0)], [some ⟨2, 94, [.ag [.v (.int .i64 0), .e0]], false⟩]⟩) ?_ ?_
  · refine RunS.segF (n := 32) e_evening_meetings_ok 1 [(0, .v (.int .i64 x0)), (1, .sl 1 (x1.map (cdL 1 (cdL 1 cdI)).enc)), (4, .pt 0 0 0)] [some ⟨2, 94, [.ag [.v (.int .i64 0), .e0]], false⟩] (by kernel_rfl) ?_
    exact RunS.done rfl (Wk.s3 [0] ⟨⟨_, rfl, bu_d⟩, trivial⟩ ⟨lv, lv, lv, trivial⟩)
  refine Sem.seq ?_
  obtain ⟨v1, hv1, h⟩ := Option.bind_eq_some_iff.1 h
  refine Sem.runS (s1 := ⟨Fr 32 [(1, .sl 1 (x1.map (cdL 1 (cdL 1 cdI)).enc)), (4, .pt 0 0 0), (5, .pt 1 0 0)], [some ⟨2, 94, [.ag [.v (.int .i64 0), .e0]], false⟩, some ⟨2, 94, [.ag [.v (.int .i64 v1.1), .rf 2 0 v1.2.2.length v1.2.2.length]], false⟩, some ⟨1, 3, (v1.2.2.map cdI.enc), false⟩]⟩) ?_ ?_
  · refine RunS.segF (n := 32) e_evening_meetings_ok 1 [(1, .sl 1 (x1.map (cdL 1 (cdL 1 cdI)).enc)), (4, .pt 0 0 0), (10, .v (.int .i64 x0))] [some ⟨2, 94, [.ag [.v (.int .i64 0), .e0]], false⟩] (by kernel_rfl) ?_
    refine RunS.inlY (fid := 68) (caps := []) (xs := [.v (.int .i64 x0)]) (fn := Tryd.f68) (Out := fun x h' => x = .ag [.v (.int .i64 v1.1), .rf 2 0 v1.2.2.length v1.2.2.length] ∧ h' = [some ⟨2, 94, [.ag [.v (.int .i64 0), .e0]], false⟩, some ⟨2, 94, [.ag [.v (.int .i64 v1.2.1), .rf 2 0 v1.2.2.length v1.2.2.length]], false⟩, some ⟨1, 3, (v1.2.2.map cdI.enc), false⟩]) rfl rfl e_evening_meetings_k1_ok rfl rfl rfl (wantedA_none rfl) (by kernel_rfl) (by kernel_rfl) (by kernel_rfl) (by kernel_rfl) (by show 1 ≤ 9; decide) (evening_meetings_k1_sem 0 x0 _ hv1) ?_
    rintro x h' ⟨rfl, rfl⟩
    refine RunS.segF (n := 32) e_evening_meetings_ok 2 [(1, .sl 1 (x1.map (cdL 1 (cdL 1 cdI)).enc)), (4, .pt 0 0 0), (5, .pt 3 0 0)] [some ⟨2, 94, [.ag [.v (.int .i64 0), .e0]], false⟩, some ⟨2, 94, [.ag [.v (.int .i64 v1.2.1), .rf 2 0 v1.2.2.length v1.2.2.length]], false⟩, some ⟨1, 3, (v1.2.2.map cdI.enc), false⟩, some ⟨2, 94, [.ag [.v (.int .i64 v1.1), .rf 2 0 v1.2.2.length v1.2.2.length]], false⟩] (by kernel_rfl) ?_
    exact RunS.done rfl (Wk.s3 [0, 3, 2] ⟨⟨_, rfl, bu_d⟩, ⟨_, rfl, bu_d⟩, ⟨_, rfl, bu_own⟩, trivial⟩ ⟨lv, lv, lv, trivial⟩)
  refine Sem.seq ?_
  refine Sem.seq ?_
  refine Sem.runS (s1 := ⟨Fr 32 [(4, .pt 0 0 0), (5, .pt 1 0 0), (12, .sl 1 (x1.map (cdL 1 (cdL 1 cdI)).enc)), (13, .v (.int .i64 (x1.length : Int))), (14, .v (.int .i64 0))], [some ⟨2, 94, [.ag [.v (.int .i64 0), .e0]], false⟩, some ⟨2, 94, [.ag [.v (.int .i64 v1.1), .rf 2 0 v1.2.2.length v1.2.2.length]], false⟩, some ⟨1, 3, (v1.2.2.map cdI.enc), false⟩]⟩) ?_ ?_
  · refine RunS.segF (n := 32) e_evening_meetings_ok 1 [(4, .pt 0 0 0), (5, .pt 1 0 0), (12, .sl 1 (x1.map (cdL 1 (cdL 1 cdI)).enc))] [some ⟨2, 94, [.ag [.v (.int .i64 0), .e0]], false⟩, some ⟨2, 94, [.ag [.v (.int .i64 v1.1), .rf 2 0 v1.2.2.length v1.2.2.length]], false⟩, some ⟨1, 3, (v1.2.2.map cdI.enc), false⟩] (by kernel_rfl) ?_
    refine RunS.one e_evening_meetings_ok 0 rfl (op_q (wantedA_none rfl) rfl (q_len (a := .sl 1 (x1.map (cdL 1 (cdL 1 cdI)).enc)) (by kernel_rfl) (len_sl (el := 50) (by kernel_rfl)))) ?_
    refine RunS.segF (n := 32) e_evening_meetings_ok 1 [(4, .pt 0 0 0), (5, .pt 1 0 0), (12, .sl 1 (x1.map (cdL 1 (cdL 1 cdI)).enc)), (13, .v (.int .i64 (x1.length : Int))), (14, .v (.int .i64 0))] [some ⟨2, 94, [.ag [.v (.int .i64 0), .e0]], false⟩, some ⟨2, 94, [.ag [.v (.int .i64 v1.1), .rf 2 0 v1.2.2.length v1.2.2.length]], false⟩, some ⟨1, 3, (v1.2.2.map cdI.enc), false⟩] (by kernel_rfl) ?_
    exact RunS.done rfl (Wk.s3 [0, 1, 2] ⟨⟨_, rfl, bu_d⟩, ⟨_, rfl, bu_d⟩, ⟨_, rfl, bu_own⟩, trivial⟩ ⟨lv, lv, lv, lv, lv, trivial⟩)
  refine Sem.block ?_
  obtain ⟨r20, hr20, h⟩ := Option.bind_eq_some_iff.1 h
  refine Sem.loop (n := 100000) ?_
  refine Sem.cutN (SemN.wk (s1 := ⟨Fr 32 [(4, .pt 0 0 0), (5, .pt 1 0 0), (12, .sl 1 (x1.map (cdL 1 (cdL 1 cdI)).enc)), (13, .v (.int .i64 (x1.length : Int))), (14, .v (.int .i64 0))], [some ⟨2, 94, [.ag [.v (.int .i64 0), .e0]], false⟩, some ⟨2, 94, [.ag [.v (.int .i64 v1.1), .rf 2 0 v1.2.2.length v1.2.2.length]], false⟩, some ⟨1, 3, (v1.2.2.map cdI.enc), false⟩]⟩) (Wk.s3 [0, 1, 2] ⟨⟨_, rfl, bu_d⟩, ⟨_, rfl, bu_d⟩, ⟨_, rfl, bu_own⟩, trivial⟩ ⟨lv, lv, lv, lv, lv, trivial⟩) (evening_meetings_1_ok x1 v1 _ v1.2.2 0 _ hr20)) ?_
  refine Sem.seq ?_
  refine Sem.runS (s1 := ⟨Fr 32 [(4, .pt 0 0 0)], [some ⟨2, 94, [.ag [.v (.int .i64 v1.1), .rf 1 0 r20.length r20.length]], false⟩, some ⟨1, 3, (r20.map cdI.enc), false⟩]⟩) ?_ ?_
  · refine RunS.segF (n := 32) e_evening_meetings_ok 2 [(4, .pt 0 0 0)] [some ⟨2, 94, [.ag [.v (.int .i64 v1.1), .rf 2 0 r20.length r20.length]], false⟩, some ⟨2, 94, [.ag [.v (.int .i64 v1.1), .rf 2 0 r20.length r20.length]], false⟩, some ⟨1, 3, (r20.map cdI.enc), false⟩] (by kernel_rfl) ?_
    exact RunS.done rfl (Wk.s3 [0, 2] ⟨⟨_, rfl, bu_d⟩, ⟨_, rfl, bu_own⟩, trivial⟩ ⟨lv, trivial⟩)
  refine Sem.ret ?_
  have hq := Option.some.inj h; subst hq
  exact ⟨⟨Fr 32 [(4, .pt 0 0 0)], [some ⟨2, 94, [.ag [.v (.int .i64 v1.1), .sl 1 (r20.map cdI.enc)]], false⟩]⟩, (Wk.trans (s1 := ⟨Fr 32 [(4, .pt 0 0 0)], [some ⟨2, 94, [.ag [.v (.int .i64 v1.1), .sl 1 (r20.map cdI.enc)]], false⟩, none]⟩) (Wk.frzG2 1 (.inl (by kernel_rfl)) ⟨.inr (.inr ⟨_, _, _, _, rfl, rfl, ⟨(.inr ⟨_, _, rfl, rfl, ⟨.inl rfl, fz_rlT (c := cdI) (xs := r20) (t := 3) (by kernel_rfl), trivial⟩⟩), trivial⟩⟩), .inl rfl, trivial⟩ ⟨⟨.pt 0 0 0, (by kernel_rfl), (.inl (.inl rfl))⟩, trivial⟩) (Wk.s3 [0] ⟨⟨_, rfl, bu_d⟩, trivial⟩ ⟨lv, trivial⟩)), .inr rfl, [.ag [.v (.int .i64 v1.1), .sl 1 (r20.map cdI.enc)]], (by kernel_rfl), (by kernel_rfl)⟩
def t_evening_meetings : List AV → Option AV := told cs_evening_meetings (fun a => evening_meetings a.1 a.2.1) er_evening_meetings
theorem x_evening_meetings : XOk 80 t_evening_meetings := by
  refine EnvOk.x (E := e_evening_meetings) (contract_ok e_evening_meetings_ok (fn := Tryd.f80) (c := cb_evening_meetings) ?h1 ?h2 ⟨Tryd.call80⟩ cs_evening_meetings (fun a => evening_meetings a.1 a.2.1) er_evening_meetings (fun a => (by show 2 ≤ 32; decide)) ?h3 ?h4) rfl rfl
  case h1 => kernel_rfl
  case h2 => kernel_rfl
  case h3 => intro b; kernel_rfl
  case h4 => exact fun a b h => evening_meetings_sem a.1 a.2.1 b h
/- (trestle/evening.square[int]).rows -/
noncomputable def e_evening_square_int_rows : Env := (E0.withX 20 t_slices_Clone_L_int)
theorem e_evening_square_int_rows_ok : EnvOk e_evening_square_int_rows := (EnvOk.withX E0_ok x_slices_Clone_L_int.1 x_slices_Clone_L_int.2)
noncomputable def cb_evening_square_int_rows : Code := codeOf Tryd.f84
def evening_square_int_rows_1 (x0 : (Int × (List Int))) : Nat → (List (List Int)) → Int → Option (((List (List Int))))
  | 0, _, _ => none
  | f + 1, c1, c2 =>
    if (decide (c2 < x0.1)) = true then
    if (cutOk (wr .i64 (c2 * x0.1)) (wr .i64 ((wr .i64 (c2 + 1)) * x0.1)) x0.2.length) = true then
    (slices_Clone_L_int ((x0.2.take (wr .i64 ((wr .i64 (c2 + 1)) * x0.1)).toNat).drop (wr .i64 (c2 * x0.1)).toNat)).bind fun v5 =>
    if (capOk 24 (c1.length + 1)) = true then
    evening_square_int_rows_1 x0 f (c1 ++ [v5]) (wr .i64 (c2 + 1))
    else none
    else none
    else
    some c1
def evening_square_int_rows (x0 : (Int × (List Int))) : Option ((List (List Int))) :=
  (evening_square_int_rows_1 x0 100000 [] 0).bind fun r8 =>
  some r8
def cs_evening_square_int_rows : Cs ((Int × (List Int)) × Unit) := (csC (cdG2 cdI (cdL 1 cdI) (fun _ => rfl) (fun _ => rfl)) csN)
def er_evening_square_int_rows (r : (List (List Int))) : AV := (cdL 1 (cdL 1 cdI)).enc r
set_option maxHeartbeats 4000000 in
set_option maxRecDepth 100000 in
theorem evening_square_int_rows_1_ok (x0 : (Int × (List Int))) : ∀ (f : Nat) (c1 : (List (List Int))) (c2 : Int) (r : ((List (List Int)))), evening_square_int_rows_1 x0 f c1 c2 = some r → SemN e_evening_square_int_rows ⟨none, false⟩ (pc cb_evening_square_int_rows [1, 1, 0, 1, 0, 0]) f ⟨Fr 28 [(1, .pt 0 0 0), (3, hd 1 (c1.map (cdL 1 cdI).enc)), (6, .v (.int .i64 x0.1)), (7, .v (.int .i64 c2))], [some ⟨2, 94, [.ag [.v (.int .i64 x0.1), .sl 1 (x0.2.map cdI.enc)]], false⟩, mk 1 31 (c1.map (cdL 1 cdI).enc)]⟩ (fun e s => e = (.exit 0) ∧ Wk e_evening_square_int_rows s ⟨Fr 28 [(3, hd 0 (r.map (cdL 1 cdI).enc))], [mk 1 31 (r.map (cdL 1 cdI).enc)]⟩) := by
  intro f
  induction f with
  | zero => intro c1 c2 r h; cases h
  | succ f ih0 =>
    intro c1 c2 r h
    have ih := fun (c1 : (List (List Int))) (c2 : Int) => ih0 c1 c2 r
    unfold evening_square_int_rows_1 at h
    refine SemN.succ ?_
    refine Sem.seq ?_
    refine Sem.runS (s1 := ⟨Fr 28 [(1, .pt 0 0 0), (3, hd 1 (c1.map (cdL 1 cdI).enc)), (6, .v (.int .i64 x0.1)), (7, .v (.int .i64 c2)), (8, .v (.bool (decide (c2 < x0.1))))], [some ⟨2, 94, [.ag [.v (.int .i64 x0.1), .sl 1 (x0.2.map cdI.enc)]], false⟩, mk 1 31 (c1.map (cdL 1 cdI).enc)]⟩) ?_ ?_
    · refine RunS.segF (n := 28) e_evening_square_int_rows_ok 1 [(1, .pt 0 0 0), (3, hd 1 (c1.map (cdL 1 cdI).enc)), (6, .v (.int .i64 x0.1)), (7, .v (.int .i64 c2)), (8, .v (.bool (decide (c2 < x0.1))))] [some ⟨2, 94, [.ag [.v (.int .i64 x0.1), .sl 1 (x0.2.map cdI.enc)]], false⟩, mk 1 31 (c1.map (cdL 1 cdI).enc)] (by kernel_rfl) ?_
      exact RunS.done rfl (Wk.s3 [0, 1] ⟨⟨_, rfl, bu_d⟩, ⟨_, rfl, bu_mk⟩, trivial⟩ ⟨lv, lu_hd (b' := 1) (by kernel_rfl) (by kernel_rfl), lv, lv, lv, trivial⟩)
    refine Sem.seq ?_
    refine Sem.cond (b := (decide (c2 < x0.1))) (by kernel_rfl) (fun hb3 => ?_) (fun hb3 => ?_)
    · rw [if_pos hb3] at h
      refine Sem.skip ?_
      refine Sem.seq ?_
      refine Sem.block ?_
      refine Sem.seq ?_
      refine Sem.runS (s1 := ⟨Fr 28 [(1, .pt 0 0 0), (3, hd 1 (c1.map (cdL 1 cdI).enc)), (4, .v (.int .i64 c2)), (6, .v (.int .i64 x0.1)), (7, .v (.int .i64 c2))], [some ⟨2, 94, [.ag [.v (.int .i64 x0.1), .sl 1 (x0.2.map cdI.enc)]], false⟩, mk 1 31 (c1.map (cdL 1 cdI).enc)]⟩) ?_ ?_
      · refine RunS.segF (n := 28) e_evening_square_int_rows_ok 2 [(1, .pt 0 0 0), (3, hd 1 (c1.map (cdL 1 cdI).enc)), (4, .v (.int .i64 c2)), (6, .v (.int .i64 x0.1)), (7, .v (.int .i64 c2))] [some ⟨2, 94, [.ag [.v (.int .i64 x0.1), .sl 1 (x0.2.map cdI.enc)]], false⟩, mk 1 31 (c1.map (cdL 1 cdI).enc)] (by kernel_rfl) ?_
        exact RunS.done rfl (Wk.s3 [0, 1] ⟨⟨_, rfl, bu_d⟩, ⟨_, rfl, bu_mk⟩, trivial⟩ ⟨lv, lu_hd (b' := 1) (by kernel_rfl) (by kernel_rfl), lv, lv, lv, trivial⟩)
      by_cases hk4 : (cutOk (wr .i64 (c2 * x0.1)) (wr .i64 ((wr .i64 (c2 + 1)) * x0.1)) x0.2.length) = true
      case neg => rw [if_neg hk4] at h; cases h
      rw [if_pos hk4] at h
      obtain ⟨v5, hv5, h⟩ := Option.bind_eq_some_iff.1 h
      by_cases hk6 : (capOk 24 (c1.length + 1)) = true
      case neg => rw [if_neg hk6] at h; cases h
      rw [if_pos hk6] at h
      refine Sem.runS (s1 := ⟨Fr 28 [(1, .pt 0 0 0), (3, hd 1 ((c1 ++ [v5]).map (cdL 1 cdI).enc)), (6, .v (.int .i64 x0.1)), (7, .v (.int .i64 c2))], [some ⟨2, 94, [.ag [.v (.int .i64 x0.1), .sl 1 (x0.2.map cdI.enc)]], false⟩, mk 1 31 ((c1 ++ [v5]).map (cdL 1 cdI).enc)]⟩) ?_ ?_
      · refine RunS.segF (n := 28) e_evening_square_int_rows_ok 12 [(1, .pt 0 0 0), (6, .v (.int .i64 x0.1)), (7, .v (.int .i64 c2)), (10, hd 1 (c1.map (cdL 1 cdI).enc)), (12, .sl 1 (x0.2.map cdI.enc)), (16, .v (.int .i64 (wr .i64 (c2 * x0.1)))), (21, .v (.int .i64 (wr .i64 ((wr .i64 (c2 + 1)) * x0.1))))] [some ⟨2, 94, [.ag [.v (.int .i64 x0.1), .sl 1 (x0.2.map cdI.enc)]], false⟩, mk 1 31 (c1.map (cdL 1 cdI).enc)] (by kernel_rfl) ?_
        refine RunS.one e_evening_square_int_rows_ok 0 rfl (op_q (wantedA_none rfl) rfl (q_slice (a := .sl 1 (x0.2.map cdI.enc)) (l := (some (.v (.int .i64 (wr .i64 (c2 * x0.1)))))) (u := (some (.v (.int .i64 (wr .i64 ((wr .i64 (c2 + 1)) * x0.1)))))) (m := none) (by kernel_rfl) (by kernel_rfl) (by kernel_rfl) rfl (slice_sl (xs := x0.2) (e := cdI.enc) (k := 1) (el := 3) (lo := (wr .i64 (c2 * x0.1))) (hi := (wr .i64 ((wr .i64 (c2 + 1)) * x0.1))) (by kernel_rfl) (by kernel_rfl) (natB_i (cut_lo hk4)) (natB_i (cut_hi hk4)) hk4))) ?_
        refine RunS.call e_evening_square_int_rows_ok (fid := 20) (b := v5) (s := cs_slices_Clone_L_int) (F := fun a => slices_Clone_L_int a.1) (er := er_slices_Clone_L_int) (xs := [.sl 1 (((x0.2.take (wr .i64 ((wr .i64 (c2 + 1)) * x0.1)).toNat).drop (wr .i64 (c2 * x0.1)).toNat).map cdI.enc)]) (a := (((x0.2.take (wr .i64 ((wr .i64 (c2 + 1)) * x0.1)).toNat).drop (wr .i64 (c2 * x0.1)).toNat), ())) rfl (wantedA_none rfl) (by kernel_rfl) (by kernel_rfl) (by kernel_rfl) (by kernel_rfl) (Sns.cons (Sn.enc (c := (cdL 1 cdI)) (v := ((x0.2.take (wr .i64 ((wr .i64 (c2 + 1)) * x0.1)).toNat).drop (wr .i64 (c2 * x0.1)).toNat))) Sns.nil) (.inl (by kernel_rfl)) (by dsimp only; exact hv5) ?_
        refine RunS.segF (n := 28) e_evening_square_int_rows_ok 1 [(1, .pt 0 0 0), (6, .v (.int .i64 x0.1)), (7, .v (.int .i64 c2)), (10, hd 1 (c1.map (cdL 1 cdI).enc)), (24, hd 2 ([v5].map (cdL 1 cdI).enc))] [some ⟨2, 94, [.ag [.v (.int .i64 x0.1), .sl 1 (x0.2.map cdI.enc)]], false⟩, mk 1 31 (c1.map (cdL 1 cdI).enc), mk 1 31 ([v5].map (cdL 1 cdI).enc)] (by kernel_rfl) ?_
        refine RunS.one e_evening_square_int_rows_ok 0 rfl (op_w (wantedA_none rfl) rfl (by kernel_rfl) (by kernel_rfl) (w_append (a := hd 1 (c1.map (cdL 1 cdI).enc)) (b := hd 2 ([v5].map (cdL 1 cdI).enc)) (by kernel_rfl) (by kernel_rfl) (append_B (c := (cdL 1 cdI)) (xs := c1) (vs := [v5]) (k := 1) (bytes := 24) (el := 31) (by kernel_rfl) (by kernel_rfl) (elems_hd (t := 31) (by kernel_rfl)) (List.cons_ne_nil _ _) (by kernel_rfl) hk6))) ?_
        refine RunS.segF (n := 28) e_evening_square_int_rows_ok 1 [(1, .pt 0 0 0), (3, hd 3 ((c1 ++ [v5]).map (cdL 1 cdI).enc)), (6, .v (.int .i64 x0.1)), (7, .v (.int .i64 c2))] [some ⟨2, 94, [.ag [.v (.int .i64 x0.1), .sl 1 (x0.2.map cdI.enc)]], false⟩, none, mk 1 31 ([v5].map (cdL 1 cdI).enc), mk 1 31 ((c1 ++ [v5]).map (cdL 1 cdI).enc)] (by kernel_rfl) ?_
        exact RunS.done rfl (Wk.s3 [0, 3] ⟨⟨_, rfl, bu_d⟩, ⟨_, rfl, bu_mk⟩, trivial⟩ ⟨lv, lu_hd (b' := 3) (by kernel_rfl) (by kernel_rfl), lv, lv, trivial⟩)
      refine Sem.runS (s1 := ⟨Fr 28 [(1, .pt 0 0 0), (3, hd 1 ((c1 ++ [v5]).map (cdL 1 cdI).enc)), (6, .v (.int .i64 x0.1)), (7, .v (.int .i64 (wr .i64 (c2 + 1))))], [some ⟨2, 94, [.ag [.v (.int .i64 x0.1), .sl 1 (x0.2.map cdI.enc)]], false⟩, mk 1 31 ((c1 ++ [v5]).map (cdL 1 cdI).enc)]⟩) ?_ ?_
      · refine RunS.segF (n := 28) e_evening_square_int_rows_ok 2 [(1, .pt 0 0 0), (3, hd 1 ((c1 ++ [v5]).map (cdL 1 cdI).enc)), (6, .v (.int .i64 x0.1)), (7, .v (.int .i64 (wr .i64 (c2 + 1))))] [some ⟨2, 94, [.ag [.v (.int .i64 x0.1), .sl 1 (x0.2.map cdI.enc)]], false⟩, mk 1 31 ((c1 ++ [v5]).map (cdL 1 cdI).enc)] (by kernel_rfl) ?_
        exact RunS.done rfl (Wk.s3 [0, 1] ⟨⟨_, rfl, bu_d⟩, ⟨_, rfl, bu_mk⟩, trivial⟩ ⟨lv, lu_hd (b' := 1) (by kernel_rfl) (by kernel_rfl), lv, lv, trivial⟩)
      exact SemN.wk (s1 := ⟨Fr 28 [(1, .pt 0 0 0), (3, hd 1 ((c1 ++ [v5]).map (cdL 1 cdI).enc)), (6, .v (.int .i64 x0.1)), (7, .v (.int .i64 (wr .i64 (c2 + 1))))], [some ⟨2, 94, [.ag [.v (.int .i64 x0.1), .sl 1 (x0.2.map cdI.enc)]], false⟩, mk 1 31 ((c1 ++ [v5]).map (cdL 1 cdI).enc)]⟩) (Wk.s3 [0, 1] ⟨⟨_, rfl, bu_d⟩, ⟨_, rfl, bu_mk⟩, trivial⟩ ⟨lv, lu_hd (b' := 1) (by kernel_rfl) (by kernel_rfl), lv, lv, trivial⟩) (ih (c1 ++ [v5]) (wr .i64 (c2 + 1)) h)
    · rw [if_f hb3] at h
      refine Sem.exit ?_
      have hq := Option.some.inj h; subst hq
      exact ⟨rfl, (Wk.s3 [1] ⟨⟨_, rfl, bu_mk⟩, trivial⟩ ⟨lu_hd (b' := 1) (by kernel_rfl) (by kernel_rfl), trivial⟩)⟩
set_option maxHeartbeats 4000000 in
set_option maxRecDepth 100000 in
theorem evening_square_int_rows_sem (x0 : (Int × (List Int))) (r : (List (List Int))) (h : evening_square_int_rows x0 = some r) : Sem e_evening_square_int_rows ⟨none, false⟩ cb_evening_square_int_rows ⟨Fr 28 (pairs0 0 (cs_evening_square_int_rows.enc (x0, ()))), []⟩ fun e s' => (e = .normal ∨ e = .ret) ∧ ∃ xs, resA e_evening_square_int_rows.P s'.fr s'.hp Tryd.f84.results.toList = some xs ∧ retA xs = er_evening_square_int_rows r := by
  unfold evening_square_int_rows at h
  refine Sem.wkQ (Sem.wk (s1 := ⟨Fr 28 [(0, .ag [.v (.int .i64 x0.1), .sl 1 (x0.2.map cdI.enc)])], []⟩) Wk.f1 ?_)
  refine Sem.seq ?_
  refine Sem.runS (s1 := ⟨Fr 28 [(1, .pt 0 0 0)], [some ⟨2, 94, [.ag [.v (.int .i64 x0.1), .sl 1 (x0.2.map cdI.enc)]], false⟩]⟩) ?_ ?_
  · refine RunS.segF (n := 28) e_evening_square_int_rows_ok 2 [(1, .pt 0 0 0)] [some ⟨2, 94, [.ag [.v (.int .i64 x0.1), .sl 1 (x0.2.map cdI.enc)]], false⟩] (by kernel_rfl) ?_
    exact RunS.done rfl (Wk.s3 [0] ⟨⟨_, rfl, bu_d⟩, trivial⟩ ⟨lv, trivial⟩)
  refine Sem.seq ?_
  refine Sem.runS (s1 := ⟨Fr 28 [(1, .pt 0 0 0), (3, .e0)], [some ⟨2, 94, [.ag [.v (.int .i64 x0.1), .sl 1 (x0.2.map cdI.enc)]], false⟩]⟩) ?_ ?_
  · refine RunS.segF (n := 28) e_evening_square_int_rows_ok 1 [(1, .pt 0 0 0), (3, .e0)] [some ⟨2, 94, [.ag [.v (.int .i64 x0.1), .sl 1 (x0.2.map cdI.enc)]], false⟩] (by kernel_rfl) ?_
    exact RunS.done rfl (Wk.s3 [0] ⟨⟨_, rfl, bu_d⟩, trivial⟩ ⟨lv, lv, trivial⟩)
  refine Sem.seq ?_
  refine Sem.seq ?_
  refine Sem.runS (s1 := ⟨Fr 28 [(1, .pt 0 0 0), (3, .e0), (6, .v (.int .i64 x0.1)), (7, .v (.int .i64 0))], [some ⟨2, 94, [.ag [.v (.int .i64 x0.1), .sl 1 (x0.2.map cdI.enc)]], false⟩]⟩) ?_ ?_
  · refine RunS.segF (n := 28) e_evening_square_int_rows_ok 3 [(1, .pt 0 0 0), (3, .e0), (6, .v (.int .i64 x0.1)), (7, .v (.int .i64 0))] [some ⟨2, 94, [.ag [.v (.int .i64 x0.1), .sl 1 (x0.2.map cdI.enc)]], false⟩] (by kernel_rfl) ?_
    exact RunS.done rfl (Wk.s3 [0] ⟨⟨_, rfl, bu_d⟩, trivial⟩ ⟨lv, lv, lv, lv, trivial⟩)
  refine Sem.block ?_
  obtain ⟨r8, hr8, h⟩ := Option.bind_eq_some_iff.1 h
  refine Sem.loop (n := 100000) ?_
  refine Sem.cutN (SemN.wk (s1 := ⟨Fr 28 [(1, .pt 0 0 0), (3, hd 1 ([].map (cdL 1 cdI).enc)), (6, .v (.int .i64 x0.1)), (7, .v (.int .i64 0))], [some ⟨2, 94, [.ag [.v (.int .i64 x0.1), .sl 1 (x0.2.map cdI.enc)]], false⟩, mk 1 31 ([].map (cdL 1 cdI).enc)]⟩) (Wk.trans (s1 := ⟨Fr 28 [(1, .pt 0 0 0), (3, hd 1 ([].map (cdL 1 cdI).enc)), (6, .v (.int .i64 x0.1)), (7, .v (.int .i64 0))], [some ⟨2, 94, [.ag [.v (.int .i64 x0.1), .sl 1 (x0.2.map cdI.enc)]], false⟩, mk 1 31 ([].map (cdL 1 cdI).enc)]⟩) Wk.none (Wk.s3 [0, 1] ⟨⟨_, rfl, bu_d⟩, ⟨_, rfl, bu_none⟩, trivial⟩ ⟨lv, lv, lv, lv, trivial⟩)) (evening_square_int_rows_1_ok x0 _ [] 0 _ hr8)) ?_
  refine Sem.seq ?_
  refine Sem.runS (s1 := ⟨Fr 28 [(2, hd 0 (r8.map (cdL 1 cdI).enc))], [mk 1 31 (r8.map (cdL 1 cdI).enc)]⟩) ?_ ?_
  · refine RunS.segF (n := 28) e_evening_square_int_rows_ok 2 [(2, hd 0 (r8.map (cdL 1 cdI).enc))] [mk 1 31 (r8.map (cdL 1 cdI).enc)] (by kernel_rfl) ?_
    exact RunS.done rfl (Wk.s3 [0] ⟨⟨_, rfl, bu_mk⟩, trivial⟩ ⟨lu_hd (b' := 0) (by kernel_rfl) (by kernel_rfl), trivial⟩)
  refine Sem.ret ?_
  have hq := Option.some.inj h; subst hq
  exact ⟨⟨Fr 28 [(2, .sl 1 (r8.map (cdL 1 cdI).enc))], []⟩, (Wk.trans (s1 := ⟨Fr 28 [(2, .sl 1 (r8.map (cdL 1 cdI).enc))], [none]⟩) (Wk.frzG 0 (.inl (by kernel_rfl)) ⟨.inl rfl, trivial⟩ ⟨⟨hd 0 (r8.map (cdL 1 cdI).enc), (by kernel_rfl), fz_hd (t := 31) (by kernel_rfl) enc_ok⟩, trivial⟩) (Wk.s3 [] trivial ⟨lv, trivial⟩)), .inr rfl, [.sl 1 (r8.map (cdL 1 cdI).enc)], (by kernel_rfl), (by kernel_rfl)⟩
def t_evening_square_int_rows : List AV → Option AV := told cs_evening_square_int_rows (fun a => evening_square_int_rows a.1) er_evening_square_int_rows
theorem x_evening_square_int_rows : XOk 84 t_evening_square_int_rows := by
  refine EnvOk.x (E := e_evening_square_int_rows) (contract_ok e_evening_square_int_rows_ok (fn := Tryd.f84) (c := cb_evening_square_int_rows) ?h1 ?h2 ⟨Tryd.call84⟩ cs_evening_square_int_rows (fun a => evening_square_int_rows a.1) er_evening_square_int_rows (fun a => (by show 1 ≤ 28; decide)) ?h3 ?h4) rfl rfl
  case h1 => kernel_rfl
  case h2 => kernel_rfl
  case h3 => intro b; kernel_rfl
  case h4 => exact fun a b h => evening_square_int_rows_sem a.1 b h
/- trestle/evening.Meet -/
noncomputable def e_evening_Meet : Env := (((E0.withX 50 t_evening_valid).withX 80 t_evening_meetings).withX 84 t_evening_square_int_rows)
theorem e_evening_Meet_ok : EnvOk e_evening_Meet := (EnvOk.withX (EnvOk.withX (EnvOk.withX E0_ok x_evening_valid.1 x_evening_valid.2) x_evening_meetings.1 x_evening_meetings.2) x_evening_square_int_rows.1 x_evening_square_int_rows.2)
noncomputable def cb_evening_Meet : Code := codeOf Tryd.f31
def evening_Meet (x0 : Int) (x1 : (List (List (List Int)))) : Option ((List (List Int))) :=
  (evening_valid x0 x1).bind fun v1 =>
  if (!v1) = true then
  some []
  else
  (evening_meetings x0 x1).bind fun v3 =>
  (evening_square_int_rows (v3.1, v3.2)).bind fun v4 =>
  some v4
def cs_evening_Meet : Cs (Int × (List (List (List Int))) × Unit) := (csC cdI (csC (cdL 1 (cdL 1 (cdL 1 cdI))) csN))
def er_evening_Meet (r : (List (List Int))) : AV := (cdL 1 (cdL 1 cdI)).enc r
set_option maxHeartbeats 4000000 in
set_option maxRecDepth 100000 in
theorem evening_Meet_sem (x0 : Int) (x1 : (List (List (List Int)))) (r : (List (List Int))) (h : evening_Meet x0 x1 = some r) : Sem e_evening_Meet ⟨none, false⟩ cb_evening_Meet ⟨Fr 13 (pairs0 0 (cs_evening_Meet.enc (x0, x1, ()))), []⟩ fun e s' => (e = .normal ∨ e = .ret) ∧ ∃ xs, resA e_evening_Meet.P s'.fr s'.hp Tryd.f31.results.toList = some xs ∧ retA xs = er_evening_Meet r := by
  unfold evening_Meet at h
  refine Sem.wkQ (Sem.wk (s1 := ⟨Fr 13 [(0, .v (.int .i64 x0)), (1, .sl 1 (x1.map (cdL 1 (cdL 1 cdI)).enc))], []⟩) Wk.f1 ?_)
  refine Sem.seq ?_
  refine Sem.runS (s1 := ⟨Fr 13 [(0, .v (.int .i64 x0)), (1, .sl 1 (x1.map (cdL 1 (cdL 1 cdI)).enc))], []⟩) ?_ ?_
  · refine RunS.segF (n := 13) e_evening_Meet_ok 1 [(0, .v (.int .i64 x0)), (1, .sl 1 (x1.map (cdL 1 (cdL 1 cdI)).enc))] [] (by kernel_rfl) ?_
    exact RunS.done rfl Wk.f1
  refine Sem.seq ?_
  refine Sem.seq ?_
  obtain ⟨v1, hv1, h⟩ := Option.bind_eq_some_iff.1 h
  refine Sem.runS (s1 := ⟨Fr 13 [(0, .v (.int .i64 x0)), (1, .sl 1 (x1.map (cdL 1 (cdL 1 cdI)).enc)), (8, .v (.bool (!v1)))], []⟩) ?_ ?_
  · refine RunS.segF (n := 13) e_evening_Meet_ok 2 [(0, .v (.int .i64 x0)), (1, .sl 1 (x1.map (cdL 1 (cdL 1 cdI)).enc)), (5, .v (.int .i64 x0)), (6, .sl 1 (x1.map (cdL 1 (cdL 1 cdI)).enc))] [] (by kernel_rfl) ?_
    refine RunS.call e_evening_Meet_ok (fid := 50) (s := cs_evening_valid) (F := fun a => evening_valid a.1 a.2.1) (er := er_evening_valid) (xs := [.v (.int .i64 x0), .sl 1 (x1.map (cdL 1 (cdL 1 cdI)).enc)]) (a := (x0, x1, ())) rfl (wantedA_none rfl) (by kernel_rfl) (by kernel_rfl) (by kernel_rfl) (by kernel_rfl) (Sns.cons (Sn.enc (c := cdI) (v := x0)) (Sns.cons (Sn.enc (c := (cdL 1 (cdL 1 (cdL 1 cdI)))) (v := x1)) Sns.nil)) (.inl (by kernel_rfl)) hv1 ?_
    refine RunS.segF (n := 13) e_evening_Meet_ok 1 [(0, .v (.int .i64 x0)), (1, .sl 1 (x1.map (cdL 1 (cdL 1 cdI)).enc)), (8, .v (.bool (!v1)))] [] (by kernel_rfl) ?_
    exact RunS.done rfl Wk.f1
  refine Sem.cond (b := (!v1)) (by kernel_rfl) (fun hb2 => ?_) (fun hb2 => ?_)
  · rw [if_pos hb2] at h
    refine Sem.seq ?_
    refine Sem.runS (s1 := ⟨Fr 13 [(4, .e0)], []⟩) ?_ ?_
    · refine RunS.segF (n := 13) e_evening_Meet_ok 1 [(4, .e0)] [] (by kernel_rfl) ?_
      exact RunS.done rfl Wk.f1
    refine Sem.ret ?_
    have hq := Option.some.inj h; subst hq
    exact ⟨⟨Fr 13 [(4, .sl 1 ([].map (cdL 1 cdI).enc))], []⟩, (Wk.trans (s1 := ⟨Fr 13 [(4, .e0)], []⟩) Wk.f1 (Wk.trans (s1 := ⟨Fr 13 [(4, .e0)], [none]⟩) Wk.none (Wk.trans (s1 := ⟨Fr 13 [(4, .sl 1 ([].map (cdL 1 cdI).enc))], [none]⟩) (Wk.frzG 0 (.inr (by kernel_rfl)) ⟨.inl rfl, trivial⟩ ⟨⟨.e0, (by kernel_rfl), fz_e0⟩, trivial⟩) (Wk.s3 [] trivial ⟨lv, trivial⟩)))), .inr rfl, [.sl 1 ([].map (cdL 1 cdI).enc)], (by kernel_rfl), (by kernel_rfl)⟩
  · rw [if_f hb2] at h
    refine Sem.skip ?_
    refine Sem.seq ?_
    obtain ⟨v3, hv3, h⟩ := Option.bind_eq_some_iff.1 h
    obtain ⟨v4, hv4, h⟩ := Option.bind_eq_some_iff.1 h
    refine Sem.runS (s1 := ⟨Fr 13 [(4, .sl 1 (v4.map (cdL 1 cdI).enc))], []⟩) ?_ ?_
    · refine RunS.segF (n := 13) e_evening_Meet_ok 2 [(9, .v (.int .i64 x0)), (10, .sl 1 (x1.map (cdL 1 (cdL 1 cdI)).enc))] [] (by kernel_rfl) ?_
      refine RunS.call e_evening_Meet_ok (fid := 80) (s := cs_evening_meetings) (F := fun a => evening_meetings a.1 a.2.1) (er := er_evening_meetings) (xs := [.v (.int .i64 x0), .sl 1 (x1.map (cdL 1 (cdL 1 cdI)).enc)]) (a := (x0, x1, ())) rfl (wantedA_none rfl) (by kernel_rfl) (by kernel_rfl) (by kernel_rfl) (by kernel_rfl) (Sns.cons (Sn.enc (c := cdI) (v := x0)) (Sns.cons (Sn.enc (c := (cdL 1 (cdL 1 (cdL 1 cdI)))) (v := x1)) Sns.nil)) (.inl (by kernel_rfl)) hv3 ?_
      refine RunS.call e_evening_Meet_ok (fid := 84) (s := cs_evening_square_int_rows) (F := fun a => evening_square_int_rows a.1) (er := er_evening_square_int_rows) (xs := [.ag [.v (.int .i64 v3.1), .sl 1 (v3.2.map cdI.enc)]]) (a := ((v3.1, v3.2), ())) rfl (wantedA_none rfl) (by kernel_rfl) (by kernel_rfl) (by kernel_rfl) (by kernel_rfl) (Sns.cons (Sn.enc (c := (cdG2 cdI (cdL 1 cdI) (fun _ => rfl) (fun _ => rfl))) (v := (v3.1, v3.2))) Sns.nil) (.inl (by kernel_rfl)) hv4 ?_
      refine RunS.segF (n := 13) e_evening_Meet_ok 1 [(4, .sl 1 (v4.map (cdL 1 cdI).enc))] [] (by kernel_rfl) ?_
      exact RunS.done rfl Wk.f1
    refine Sem.ret ?_
    have hq := Option.some.inj h; subst hq
    exact ⟨⟨Fr 13 [(4, .sl 1 (v4.map (cdL 1 cdI).enc))], []⟩, Wk.f1, .inr rfl, [.sl 1 (v4.map (cdL 1 cdI).enc)], (by kernel_rfl), (by kernel_rfl)⟩
def t_evening_Meet : List AV → Option AV := told cs_evening_Meet (fun a => evening_Meet a.1 a.2.1) er_evening_Meet
theorem x_evening_Meet : XOk 31 t_evening_Meet := by
  refine EnvOk.x (E := e_evening_Meet) (contract_ok e_evening_Meet_ok (fn := Tryd.f31) (c := cb_evening_Meet) ?h1 ?h2 ⟨Tryd.call31⟩ cs_evening_Meet (fun a => evening_Meet a.1 a.2.1) er_evening_Meet (fun a => (by show 2 ≤ 13; decide)) ?h3 ?h4) rfl rfl
  case h1 => kernel_rfl
  case h2 => kernel_rfl
  case h3 => intro b; kernel_rfl
  case h4 => exact fun a b h => evening_Meet_sem a.1 a.2.1 b h
/- trestle/evening.Beside -/
noncomputable def e_evening_Beside : Env := ((E0.withX 50 t_evening_valid).withX 84 t_evening_square_int_rows)
theorem e_evening_Beside_ok : EnvOk e_evening_Beside := (EnvOk.withX (EnvOk.withX E0_ok x_evening_valid.1 x_evening_valid.2) x_evening_square_int_rows.1 x_evening_square_int_rows.2)
noncomputable def cb_evening_Beside : Code := codeOf Tryd.f32
noncomputable def e_evening_Beside_k1 : Env := E0
theorem e_evening_Beside_k1_ok : EnvOk e_evening_Beside_k1 := E0_ok
noncomputable def cb_evening_Beside_k1 : Code := codeOf Tryd.f68
def evening_Beside_k1 (y0 : Int) : Option (Int × Int × (List Int)) :=
  if (mkOk 8 (wr .i64 (y0 * y0))) = true then
  some (y0, y0, (List.replicate (wr .i64 (y0 * y0)).toNat (0 : Int)))
  else none
set_option maxHeartbeats 4000000 in
set_option maxRecDepth 100000 in
theorem evening_Beside_k1_sem (y0 : Int) (r : Int × Int × (List Int)) (h : evening_Beside_k1 y0 = some r) : SemY e_evening_Beside_k1 ⟨none, false⟩ cb_evening_Beside_k1 ⟨Fr 9 (pairs0 0 [.v (.int .i64 y0)]), []⟩ fun x s' => (x = .normal ∨ x = .ret) ∧ ∃ ys, resA e_evening_Beside_k1.P s'.fr s'.hp Tryd.f68.results.toList = some ys ∧ (retA ys = .ag [.v (.int .i64 r.1), .rf 1 0 r.2.2.length r.2.2.length] ∧ s'.hp = [some ⟨2, 94, [.ag [.v (.int .i64 r.2.1), .rf 1 0 r.2.2.length r.2.2.length]], false⟩, some ⟨1, 3, (r.2.2.map cdI.enc), false⟩]) := by
  unfold evening_Beside_k1 at h
  refine SemY.seq ?_
  refine SemY.region ?_
  refine RunY.segF (n := 9) e_evening_Beside_k1_ok 1 [(0, .v (.int .i64 y0)), (2, .pt 0 0 0)] [some ⟨2, 94, [.ag [.v (.int .i64 0), .e0]], false⟩] (by kernel_rfl) ?_
  refine RunY.done rfl (SemY.fr (l' := [(0, .v (.int .i64 y0)), (2, .pt 0 0 0)]) (by kernel_rfl) ?_)
  refine SemY.seq ?_
  refine SemY.region ?_
  refine RunY.segF (n := 9) e_evening_Beside_k1_ok 4 [(2, .pt 0 0 0), (3, .v (.int .i64 y0)), (6, .v (.int .i64 (wr .i64 (y0 * y0))))] [some ⟨2, 94, [.ag [.v (.int .i64 0), .e0]], false⟩] (by kernel_rfl) ?_
  by_cases hk1 : (mkOk 8 (wr .i64 (y0 * y0))) = true
  case neg => rw [if_neg hk1] at h; cases h
  rw [if_pos hk1] at h
  refine RunY.one e_evening_Beside_k1_ok 0 rfl (op_n (wantedA_none rfl) rfl (by kernel_rfl) (n_make (x := .v (.int .i64 (wr .i64 (y0 * y0)))) (y := .v (.int .i64 (wr .i64 (y0 * y0)))) (by kernel_rfl) (by kernel_rfl) (make_B (c := cdI) (z := (0 : Int)) (k := 1) (bytes := 8) (el := 3) (by kernel_rfl) (by kernel_rfl) hk1))) ?_
  refine RunY.segF (n := 9) e_evening_Beside_k1_ok 2 [(2, .pt 0 0 0)] [some ⟨2, 94, [.ag [.v (.int .i64 y0), .rf 1 0 (List.replicate (wr .i64 (y0 * y0)).toNat (0 : Int)).length (List.replicate (wr .i64 (y0 * y0)).toNat (0 : Int)).length]], false⟩, some ⟨1, 3, ((List.replicate (wr .i64 (y0 * y0)).toNat (0 : Int)).map cdI.enc), false⟩] (by kernel_rfl) ?_
  refine RunY.done rfl (SemY.fr (l' := [(2, .pt 0 0 0)]) (by kernel_rfl) ?_)
  refine SemY.ret ?_
  have hq := Option.some.inj h; subst hq
  exact ⟨.inr rfl, [.ag [.v (.int .i64 y0), .rf 1 0 (List.replicate (wr .i64 (y0 * y0)).toNat (0 : Int)).length (List.replicate (wr .i64 (y0 * y0)).toNat (0 : Int)).length]], (by kernel_rfl), (by kernel_rfl), (by kernel_rfl)⟩
noncomputable def e_evening_Beside_k2 : Env := E0
theorem e_evening_Beside_k2_ok : EnvOk e_evening_Beside_k2 := E0_ok
noncomputable def cb_evening_Beside_k2 : Code := codeOf Tryd.f73
def evening_Beside_k2 (_y0 : Int) (y1 : (List Int)) (y2 : Int) (y3 : Int) (y4 : Int) : Option (Int) :=
  (idx y1 (wr .i64 ((wr .i64 (y3 * y2)) + y4))).bind fun _v1 =>
  some y2
set_option maxHeartbeats 4000000 in
set_option maxRecDepth 100000 in
theorem evening_Beside_k2_sem (y0 : Int) (y1 : (List Int)) (y2 : Int) (y3 : Int) (y4 : Int) (r : Int) (h : evening_Beside_k2 y0 y1 y2 y3 y4 = some r) : SemY e_evening_Beside_k2 ⟨none, false⟩ cb_evening_Beside_k2 ⟨Fr 16 (pairs0 0 [.ag [.v (.int .i64 y2), .rf 1 0 y1.length y1.length], .v (.int .i64 y3), .v (.int .i64 y4)]), [some ⟨2, 94, [.ag [.v (.int .i64 y0), .rf 1 0 y1.length y1.length]], false⟩, some ⟨1, 3, (y1.map cdI.enc), false⟩]⟩ fun x s' => (x = .normal ∨ x = .ret) ∧ ∃ ys, resA e_evening_Beside_k2.P s'.fr s'.hp Tryd.f73.results.toList = some ys ∧ (retA ys = .pt 1 ((wr .i64 ((wr .i64 (y3 * y2)) + y4)).toNat) 0 ∧ s'.hp = [some ⟨2, 94, [.ag [.v (.int .i64 y0), .rf 1 0 y1.length y1.length]], false⟩, some ⟨1, 3, (y1.map cdI.enc), false⟩, some ⟨2, 94, [.ag [.v (.int .i64 r), .rf 1 0 y1.length y1.length]], false⟩]) := by
  unfold evening_Beside_k2 at h
  refine SemY.seq ?_
  refine SemY.region ?_
  refine RunY.segF (n := 16) e_evening_Beside_k2_ok 2 [(1, .v (.int .i64 y3)), (2, .v (.int .i64 y4)), (3, .pt 2 0 0)] [some ⟨2, 94, [.ag [.v (.int .i64 y0), .rf 1 0 y1.length y1.length]], false⟩, some ⟨1, 3, (y1.map cdI.enc), false⟩, some ⟨2, 94, [.ag [.v (.int .i64 y2), .rf 1 0 y1.length y1.length]], false⟩] (by kernel_rfl) ?_
  refine RunY.done rfl (SemY.fr (l' := [(1, .v (.int .i64 y3)), (2, .v (.int .i64 y4)), (3, .pt 2 0 0)]) (by kernel_rfl) ?_)
  refine SemY.seq ?_
  refine SemY.region ?_
  refine RunY.segF (n := 16) e_evening_Beside_k2_ok 8 [(8, .rf 1 0 y1.length y1.length), (14, .v (.int .i64 (wr .i64 ((wr .i64 (y3 * y2)) + y4))))] [some ⟨2, 94, [.ag [.v (.int .i64 y0), .rf 1 0 y1.length y1.length]], false⟩, some ⟨1, 3, (y1.map cdI.enc), false⟩, some ⟨2, 94, [.ag [.v (.int .i64 y2), .rf 1 0 y1.length y1.length]], false⟩] (by kernel_rfl) ?_
  obtain ⟨v1, hv1, h⟩ := Option.bind_eq_some_iff.1 h
  refine RunY.one e_evening_Beside_k2_ok 0 rfl (op_q (wantedA_none rfl) rfl (q_indexAddr (a := .rf 1 0 y1.length y1.length) (b := .v (.int .i64 (wr .i64 ((wr .i64 (y3 * y2)) + y4)))) (by kernel_rfl) (by kernel_rfl) (ix_rl (e := cdI.enc) (xs := y1) (t' := 3) (el := 3) (k := 1) (ki := .i64) (by kernel_rfl) (by kernel_rfl) (by kernel_rfl) hv1))) ?_
  refine RunY.segF (n := 16) e_evening_Beside_k2_ok 1 [(6, .pt 1 ((wr .i64 ((wr .i64 (y3 * y2)) + y4)).toNat) 0)] [some ⟨2, 94, [.ag [.v (.int .i64 y0), .rf 1 0 y1.length y1.length]], false⟩, some ⟨1, 3, (y1.map cdI.enc), false⟩, some ⟨2, 94, [.ag [.v (.int .i64 y2), .rf 1 0 y1.length y1.length]], false⟩] (by kernel_rfl) ?_
  refine RunY.done rfl (SemY.fr (l' := [(6, .pt 1 ((wr .i64 ((wr .i64 (y3 * y2)) + y4)).toNat) 0)]) (by kernel_rfl) ?_)
  refine SemY.ret ?_
  have hq := Option.some.inj h; subst hq
  exact ⟨.inr rfl, [.pt 1 ((wr .i64 ((wr .i64 (y3 * y2)) + y4)).toNat) 0], (by kernel_rfl), (by kernel_rfl), (by kernel_rfl)⟩
def evening_Beside_3 (x1 : (List (List (List Int)))) (c6 : Int) (v8 : (List (List Int))) (c11 : Int) (v13 : (List Int)) : Nat → Int → (List Int) → Int → Option ((Int × (List Int)))
  | 0, _, _, _ => none
  | f + 1, c14, c15, c16 =>
    if (decide (c16 < (v13.length : Int))) = true then
    (idx v13 c16).bind fun v18 =>
    if (v13.length : Int) = (0 : Int) then none else
    (idx v13 ((wr .i64 (c16 + 1)).tmod (v13.length : Int))).bind fun v20 =>
    (if (v18 == v20) = true then some (c14, c15, true) else if ((v13.length : Int) == 2) = true then some (c14, c15, (c16 == 1)) else some (c14, c15, false)).bind fun j24 =>
    if j24.2.2 = true then
    evening_Beside_3 x1 c6 v8 c11 v13 f j24.1 j24.2.1 (wr .i64 (c16 + 1))
    else
    (evening_Beside_k2 j24.1 j24.2.1 j24.1 v18 v20).bind fun _v26 =>
    (idx j24.2.1 (wr .i64 ((wr .i64 (v18 * j24.1)) + v20))).bind fun v27 =>
    (evening_Beside_k2 j24.1 (j24.2.1.set ((wr .i64 ((wr .i64 (v18 * j24.1)) + v20)).toNat) (wr .i64 (v27 + 1))) j24.1 v20 v18).bind fun _v28 =>
    (idx (j24.2.1.set ((wr .i64 ((wr .i64 (v18 * j24.1)) + v20)).toNat) (wr .i64 (v27 + 1))) (wr .i64 ((wr .i64 (v20 * j24.1)) + v18))).bind fun v29 =>
    evening_Beside_3 x1 c6 v8 c11 v13 f j24.1 ((j24.2.1.set ((wr .i64 ((wr .i64 (v18 * j24.1)) + v20)).toNat) (wr .i64 (v27 + 1))).set ((wr .i64 ((wr .i64 (v20 * j24.1)) + v18)).toNat) (wr .i64 (v29 + 1))) (wr .i64 (c16 + 1))
    else
    some (c14, c15)
def evening_Beside_2 (x1 : (List (List (List Int)))) (c6 : Int) (v8 : (List (List Int))) : Nat → Int → (List Int) → Int → Option ((Int × (List Int)))
  | 0, _, _, _ => none
  | f + 1, c9, c10, c11 =>
    if (decide (c11 < (v8.length : Int))) = true then
    (idx v8 c11).bind fun v13 =>
    (evening_Beside_3 x1 c6 v8 c11 v13 100000 c9 c10 0).bind fun r34 =>
    evening_Beside_2 x1 c6 v8 f r34.1 r34.2 (wr .i64 (c11 + 1))
    else
    some (c9, c10)
def evening_Beside_1 (x1 : (List (List (List Int)))) : Nat → Int → (List Int) → Int → Option ((Int × (List Int)))
  | 0, _, _, _ => none
  | f + 1, c4, c5, c6 =>
    if (decide (c6 < (x1.length : Int))) = true then
    (idx x1 c6).bind fun v8 =>
    (evening_Beside_2 x1 c6 v8 100000 c4 c5 0).bind fun r37 =>
    evening_Beside_1 x1 f r37.1 r37.2 (wr .i64 (c6 + 1))
    else
    some (c4, c5)
def evening_Beside (x0 : Int) (x1 : (List (List (List Int)))) : Option ((List (List Int))) :=
  (evening_valid x0 x1).bind fun v1 =>
  if (!v1) = true then
  some []
  else
  (evening_Beside_k1 x0).bind fun v3 =>
  (evening_Beside_1 x1 100000 v3.1 v3.2.2 0).bind fun r40 =>
  (evening_square_int_rows (r40.1, r40.2)).bind fun v41 =>
  some v41
def cs_evening_Beside : Cs (Int × (List (List (List Int))) × Unit) := (csC cdI (csC (cdL 1 (cdL 1 (cdL 1 cdI))) csN))
def er_evening_Beside (r : (List (List Int))) : AV := (cdL 1 (cdL 1 cdI)).enc r
set_option maxHeartbeats 4000000 in
set_option maxRecDepth 100000 in
theorem evening_Beside_3_ok (x1 : (List (List (List Int)))) (c6 : Int) (v8 : (List (List Int))) (c11 : Int) (v13 : (List Int)) : ∀ (f : Nat) (c14 : Int) (c15 : (List Int)) (c16 : Int) (r : (Int × (List Int))), evening_Beside_3 x1 c6 v8 c11 v13 f c14 c15 c16 = some r → SemN e_evening_Beside ⟨none, false⟩ (pc cb_evening_Beside [1, 1, 1, 0, 1, 0, 0, 1, 1, 0, 0, 1, 1, 0, 0, 1, 1, 0, 0, 1, 1, 0, 0]) f ⟨Fr 79 [(5, .pt 0 0 0), (9, .sl 1 (v13.map cdI.enc)), (19, .sl 1 (x1.map (cdL 1 (cdL 1 cdI)).enc)), (20, .v (.int .i64 (x1.length : Int))), (21, .v (.int .i64 c6)), (25, .sl 1 (v8.map (cdL 1 cdI).enc)), (26, .v (.int .i64 (v8.length : Int))), (27, .v (.int .i64 c11)), (31, .sl 1 (v13.map cdI.enc)), (32, .v (.int .i64 (v13.length : Int))), (33, .v (.int .i64 c16))], [some ⟨2, 94, [.ag [.v (.int .i64 c14), .rf 1 0 c15.length c15.length]], false⟩, some ⟨1, 3, (c15.map cdI.enc), false⟩]⟩ (fun e s => e = (.exit 4) ∧ Wk e_evening_Beside s ⟨Fr 79 [(5, .pt 0 0 0), (19, .sl 1 (x1.map (cdL 1 (cdL 1 cdI)).enc)), (20, .v (.int .i64 (x1.length : Int))), (21, .v (.int .i64 c6)), (25, .sl 1 (v8.map (cdL 1 cdI).enc)), (26, .v (.int .i64 (v8.length : Int))), (27, .v (.int .i64 c11))], [some ⟨2, 94, [.ag [.v (.int .i64 r.1), .rf 1 0 r.2.length r.2.length]], false⟩, some ⟨1, 3, (r.2.map cdI.enc), false⟩]⟩) := by
  intro f
  induction f with
  | zero => intro c14 c15 c16 r h; cases h
  | succ f ih0 =>
    intro c14 c15 c16 r h
    have ih := fun (c14 : Int) (c15 : (List Int)) (c16 : Int) => ih0 c14 c15 c16 r
    unfold evening_Beside_3 at h
    refine SemN.succ ?_
    refine Sem.seq ?_
    refine Sem.runS (s1 := ⟨Fr 79 [(5, .pt 0 0 0), (9, .sl 1 (v13.map cdI.enc)), (19, .sl 1 (x1.map (cdL 1 (cdL 1 cdI)).enc)), (20, .v (.int .i64 (x1.length : Int))), (21, .v (.int .i64 c6)), (25, .sl 1 (v8.map (cdL 1 cdI).enc)), (26, .v (.int .i64 (v8.length : Int))), (27, .v (.int .i64 c11)), (31, .sl 1 (v13.map cdI.enc)), (32, .v (.int .i64 (v13.length : Int))), (33, .v (.int .i64 c16)), (34, .v (.bool (decide (c16 < (v13.length : Int)))))], [some ⟨2, 94, [.ag [.v (.int .i64 c14), .rf 1 0 c15.length c15.length]], false⟩, some ⟨1, 3, (c15.map cdI.enc), false⟩]⟩) ?_ ?_
    · refine RunS.segF (n := 79) e_evening_Beside_ok 1 [(5, .pt 0 0 0), (9, .sl 1 (v13.map cdI.enc)), (19, .sl 1 (x1.map (cdL 1 (cdL 1 cdI)).enc)), (20, .v (.int .i64 (x1.length : Int))), (21, .v (.int .i64 c6)), (25, .sl 1 (v8.map (cdL 1 cdI).enc)), (26, .v (.int .i64 (v8.length : Int))), (27, .v (.int .i64 c11)), (31, .sl 1 (v13.map cdI.enc)), (32, .v (.int .i64 (v13.length : Int))), (33, .v (.int .i64 c16)), (34, .v (.bool (decide (c16 < (v13.length : Int)))))] [some ⟨2, 94, [.ag [.v (.int .i64 c14), .rf 1 0 c15.length c15.length]], false⟩, some ⟨1, 3, (c15.map cdI.enc), false⟩] (by kernel_rfl) ?_
      exact RunS.done rfl (Wk.s3 [0, 1] ⟨⟨_, rfl, bu_d⟩, ⟨_, rfl, bu_own⟩, trivial⟩ ⟨lv, lv, lv, lv, lv, lv, lv, lv, lv, lv, lv, lv, trivial⟩)
    refine Sem.seq ?_
    refine Sem.cond (b := (decide (c16 < (v13.length : Int)))) (by kernel_rfl) (fun hb17 => ?_) (fun hb17 => ?_)
    · rw [if_pos hb17] at h
      refine Sem.skip ?_
      refine Sem.seq ?_
      refine Sem.block ?_
      refine Sem.seq ?_
      obtain ⟨v18, hv18, h⟩ := Option.bind_eq_some_iff.1 h
      refine Sem.runS (s1 := ⟨Fr 79 [(5, .pt 0 0 0), (9, .sl 1 (v13.map cdI.enc)), (10, .v (.int .i64 c16)), (11, .v (.int .i64 v18)), (19, .sl 1 (x1.map (cdL 1 (cdL 1 cdI)).enc)), (20, .v (.int .i64 (x1.length : Int))), (21, .v (.int .i64 c6)), (25, .sl 1 (v8.map (cdL 1 cdI).enc)), (26, .v (.int .i64 (v8.length : Int))), (27, .v (.int .i64 c11)), (31, .sl 1 (v13.map cdI.enc)), (32, .v (.int .i64 (v13.length : Int))), (33, .v (.int .i64 c16))], [some ⟨2, 94, [.ag [.v (.int .i64 c14), .rf 1 0 c15.length c15.length]], false⟩, some ⟨1, 3, (c15.map cdI.enc), false⟩]⟩) ?_ ?_
      · refine RunS.segF (n := 79) e_evening_Beside_ok 1 [(5, .pt 0 0 0), (9, .sl 1 (v13.map cdI.enc)), (19, .sl 1 (x1.map (cdL 1 (cdL 1 cdI)).enc)), (20, .v (.int .i64 (x1.length : Int))), (21, .v (.int .i64 c6)), (25, .sl 1 (v8.map (cdL 1 cdI).enc)), (26, .v (.int .i64 (v8.length : Int))), (27, .v (.int .i64 c11)), (31, .sl 1 (v13.map cdI.enc)), (32, .v (.int .i64 (v13.length : Int))), (33, .v (.int .i64 c16)), (35, .v (.int .i64 c16))] [some ⟨2, 94, [.ag [.v (.int .i64 c14), .rf 1 0 c15.length c15.length]], false⟩, some ⟨1, 3, (c15.map cdI.enc), false⟩] (by kernel_rfl) ?_
        refine RunS.one e_evening_Beside_ok 0 rfl (op_q (wantedA_none rfl) rfl (q_indexAddr (a := .sl 1 (v13.map cdI.enc)) (b := .v (.int .i64 c16)) (by kernel_rfl) (by kernel_rfl) (ix_sl (e := cdI.enc) (el := 3) (k := 1) (ki := .i64) (by kernel_rfl) (by kernel_rfl) hv18))) ?_
        refine RunS.segF (n := 79) e_evening_Beside_ok 3 [(5, .pt 0 0 0), (9, .sl 1 (v13.map cdI.enc)), (10, .v (.int .i64 c16)), (11, .v (.int .i64 v18)), (19, .sl 1 (x1.map (cdL 1 (cdL 1 cdI)).enc)), (20, .v (.int .i64 (x1.length : Int))), (21, .v (.int .i64 c6)), (25, .sl 1 (v8.map (cdL 1 cdI).enc)), (26, .v (.int .i64 (v8.length : Int))), (27, .v (.int .i64 c11)), (31, .sl 1 (v13.map cdI.enc)), (32, .v (.int .i64 (v13.length : Int))), (33, .v (.int .i64 c16))] [some ⟨2, 94, [.ag [.v (.int .i64 c14), .rf 1 0 c15.length c15.length]], false⟩, some ⟨1, 3, (c15.map cdI.enc), false⟩] (by kernel_rfl) ?_
        exact RunS.done rfl (Wk.s3 [0, 1] ⟨⟨_, rfl, bu_d⟩, ⟨_, rfl, bu_own⟩, trivial⟩ ⟨lv, lv, lv, lv, lv, lv, lv, lv, lv, lv, lv, lv, lv, trivial⟩)
      refine Sem.seq ?_
      by_cases hz19 : (v13.length : Int) = (0 : Int)
      · rw [if_pos hz19] at h; cases h
      rw [if_neg hz19] at h
      obtain ⟨v20, hv20, h⟩ := Option.bind_eq_some_iff.1 h
      refine Sem.runS (s1 := ⟨Fr 79 [(5, .pt 0 0 0), (9, .sl 1 (v13.map cdI.enc)), (10, .v (.int .i64 c16)), (11, .v (.int .i64 v18)), (12, .v (.int .i64 v20)), (19, .sl 1 (x1.map (cdL 1 (cdL 1 cdI)).enc)), (20, .v (.int .i64 (x1.length : Int))), (21, .v (.int .i64 c6)), (25, .sl 1 (v8.map (cdL 1 cdI).enc)), (26, .v (.int .i64 (v8.length : Int))), (27, .v (.int .i64 c11)), (31, .sl 1 (v13.map cdI.enc)), (32, .v (.int .i64 (v13.length : Int))), (33, .v (.int .i64 c16))], [some ⟨2, 94, [.ag [.v (.int .i64 c14), .rf 1 0 c15.length c15.length]], false⟩, some ⟨1, 3, (c15.map cdI.enc), false⟩]⟩) ?_ ?_
      · refine RunS.segF (n := 79) e_evening_Beside_ok 4 [(5, .pt 0 0 0), (9, .sl 1 (v13.map cdI.enc)), (10, .v (.int .i64 c16)), (11, .v (.int .i64 v18)), (19, .sl 1 (x1.map (cdL 1 (cdL 1 cdI)).enc)), (20, .v (.int .i64 (x1.length : Int))), (21, .v (.int .i64 c6)), (25, .sl 1 (v8.map (cdL 1 cdI).enc)), (26, .v (.int .i64 (v8.length : Int))), (27, .v (.int .i64 c11)), (31, .sl 1 (v13.map cdI.enc)), (32, .v (.int .i64 (v13.length : Int))), (33, .v (.int .i64 c16)), (38, .sl 1 (v13.map cdI.enc)), (40, .v (.int .i64 (wr .i64 (c16 + 1)))), (41, .sl 1 (v13.map cdI.enc))] [some ⟨2, 94, [.ag [.v (.int .i64 c14), .rf 1 0 c15.length c15.length]], false⟩, some ⟨1, 3, (c15.map cdI.enc), false⟩] (by kernel_rfl) ?_
        refine RunS.one e_evening_Beside_ok 0 rfl (op_q (wantedA_none rfl) rfl (q_len (a := .sl 1 (v13.map cdI.enc)) (by kernel_rfl) (len_sl (el := 3) (by kernel_rfl)))) ?_
        refine RunS.one e_evening_Beside_ok 0 rfl (op_q (wantedA_none rfl) rfl (q_bin (a := .v (.int .i64 (wr .i64 (c16 + 1)))) (b := .v (.int .i64 (v13.length : Int))) (by kernel_rfl) (by kernel_rfl) (bin_rem hz19))) ?_
        refine RunS.one e_evening_Beside_ok 0 rfl (op_q (wantedA_none rfl) rfl (q_indexAddr (a := .sl 1 (v13.map cdI.enc)) (b := .v (.int .i64 ((wr .i64 (c16 + 1)).tmod (v13.length : Int)))) (by kernel_rfl) (by kernel_rfl) (ix_sl (e := cdI.enc) (el := 3) (k := 1) (ki := .i64) (by kernel_rfl) (by kernel_rfl) hv20))) ?_
        refine RunS.segF (n := 79) e_evening_Beside_ok 2 [(5, .pt 0 0 0), (9, .sl 1 (v13.map cdI.enc)), (10, .v (.int .i64 c16)), (11, .v (.int .i64 v18)), (12, .v (.int .i64 v20)), (19, .sl 1 (x1.map (cdL 1 (cdL 1 cdI)).enc)), (20, .v (.int .i64 (x1.length : Int))), (21, .v (.int .i64 c6)), (25, .sl 1 (v8.map (cdL 1 cdI).enc)), (26, .v (.int .i64 (v8.length : Int))), (27, .v (.int .i64 c11)), (31, .sl 1 (v13.map cdI.enc)), (32, .v (.int .i64 (v13.length : Int))), (33, .v (.int .i64 c16))] [some ⟨2, 94, [.ag [.v (.int .i64 c14), .rf 1 0 c15.length c15.length]], false⟩, some ⟨1, 3, (c15.map cdI.enc), false⟩] (by kernel_rfl) ?_
        exact RunS.done rfl (Wk.s3 [0, 1] ⟨⟨_, rfl, bu_d⟩, ⟨_, rfl, bu_own⟩, trivial⟩ ⟨lv, lv, lv, lv, lv, lv, lv, lv, lv, lv, lv, lv, lv, lv, trivial⟩)
      refine Sem.seq ?_
      refine Sem.seq ?_
      obtain ⟨j24, hj24, h⟩ := Option.bind_eq_some_iff.1 h
      refine Sem.runS (s1 := ⟨Fr 79 [(5, .pt 0 0 0), (9, .sl 1 (v13.map cdI.enc)), (11, .v (.int .i64 v18)), (12, .v (.int .i64 v20)), (19, .sl 1 (x1.map (cdL 1 (cdL 1 cdI)).enc)), (20, .v (.int .i64 (x1.length : Int))), (21, .v (.int .i64 c6)), (25, .sl 1 (v8.map (cdL 1 cdI).enc)), (26, .v (.int .i64 (v8.length : Int))), (27, .v (.int .i64 c11)), (31, .sl 1 (v13.map cdI.enc)), (32, .v (.int .i64 (v13.length : Int))), (33, .v (.int .i64 c16)), (57, .v (.bool j24.2.2))], [some ⟨2, 94, [.ag [.v (.int .i64 j24.1), .rf 1 0 j24.2.1.length j24.2.1.length]], false⟩, some ⟨1, 3, (j24.2.1.map cdI.enc), false⟩]⟩) ?_ ?_
      · refine RunS.segF (n := 79) e_evening_Beside_ok 4 [(5, .pt 0 0 0), (9, .sl 1 (v13.map cdI.enc)), (10, .v (.int .i64 c16)), (11, .v (.int .i64 v18)), (12, .v (.int .i64 v20)), (19, .sl 1 (x1.map (cdL 1 (cdL 1 cdI)).enc)), (20, .v (.int .i64 (x1.length : Int))), (21, .v (.int .i64 c6)), (25, .sl 1 (v8.map (cdL 1 cdI).enc)), (26, .v (.int .i64 (v8.length : Int))), (27, .v (.int .i64 c11)), (31, .sl 1 (v13.map cdI.enc)), (32, .v (.int .i64 (v13.length : Int))), (33, .v (.int .i64 c16)), (49, .v (.bool (v18 == v20)))] [some ⟨2, 94, [.ag [.v (.int .i64 c14), .rf 1 0 c15.length c15.length]], false⟩, some ⟨1, 3, (c15.map cdI.enc), false⟩] (by kernel_rfl) ?_
        rcases Bool.eq_false_or_eq_true (v18 == v20) with hc30 | hc30
        · rw [if_pos hc30] at hj24
          rw [hc30]
          refine RunS.segF (n := 79) e_evening_Beside_ok 8 [(5, .pt 0 0 0), (9, .sl 1 (v13.map cdI.enc)), (11, .v (.int .i64 v18)), (12, .v (.int .i64 v20)), (19, .sl 1 (x1.map (cdL 1 (cdL 1 cdI)).enc)), (20, .v (.int .i64 (x1.length : Int))), (21, .v (.int .i64 c6)), (25, .sl 1 (v8.map (cdL 1 cdI).enc)), (26, .v (.int .i64 (v8.length : Int))), (27, .v (.int .i64 c11)), (31, .sl 1 (v13.map cdI.enc)), (32, .v (.int .i64 (v13.length : Int))), (33, .v (.int .i64 c16)), (50, .tp []), (51, .tp []), (52, .tp []), (53, .tp []), (54, .tp []), (55, .tp []), (56, .tp []), (57, .v (.bool true))] [some ⟨2, 94, [.ag [.v (.int .i64 c14), .rf 1 0 c15.length c15.length]], false⟩, some ⟨1, 3, (c15.map cdI.enc), false⟩] (by kernel_rfl) ?_
          have hq := Option.some.inj hj24; subst hq
          exact RunS.done rfl (Wk.s3 [0, 1] ⟨⟨_, rfl, bu_d⟩, ⟨_, rfl, bu_own⟩, trivial⟩ ⟨lv, lv, lv, lv, lv, lv, lv, lv, lv, lv, lv, lv, lv, lv, trivial⟩)
        · rw [if_f hc30] at hj24
          rw [hc30]
          refine RunS.segF (n := 79) e_evening_Beside_ok 1 [(5, .pt 0 0 0), (9, .sl 1 (v13.map cdI.enc)), (10, .v (.int .i64 c16)), (11, .v (.int .i64 v18)), (12, .v (.int .i64 v20)), (19, .sl 1 (x1.map (cdL 1 (cdL 1 cdI)).enc)), (20, .v (.int .i64 (x1.length : Int))), (21, .v (.int .i64 c6)), (25, .sl 1 (v8.map (cdL 1 cdI).enc)), (26, .v (.int .i64 (v8.length : Int))), (27, .v (.int .i64 c11)), (31, .sl 1 (v13.map cdI.enc)), (32, .v (.int .i64 (v13.length : Int))), (33, .v (.int .i64 c16)), (49, .v (.bool false)), (50, .sl 1 (v13.map cdI.enc))] [some ⟨2, 94, [.ag [.v (.int .i64 c14), .rf 1 0 c15.length c15.length]], false⟩, some ⟨1, 3, (c15.map cdI.enc), false⟩] (by kernel_rfl) ?_
          refine RunS.one e_evening_Beside_ok 0 rfl (op_q (by kernel_rfl) rfl (q_len (a := .sl 1 (v13.map cdI.enc)) (by kernel_rfl) (len_sl (el := 3) (by kernel_rfl)))) ?_
          refine RunS.segF (n := 79) e_evening_Beside_ok 2 [(5, .pt 0 0 0), (9, .sl 1 (v13.map cdI.enc)), (10, .v (.int .i64 c16)), (11, .v (.int .i64 v18)), (12, .v (.int .i64 v20)), (19, .sl 1 (x1.map (cdL 1 (cdL 1 cdI)).enc)), (20, .v (.int .i64 (x1.length : Int))), (21, .v (.int .i64 c6)), (25, .sl 1 (v8.map (cdL 1 cdI).enc)), (26, .v (.int .i64 (v8.length : Int))), (27, .v (.int .i64 c11)), (31, .sl 1 (v13.map cdI.enc)), (32, .v (.int .i64 (v13.length : Int))), (33, .v (.int .i64 c16)), (49, .v (.bool false)), (50, .sl 1 (v13.map cdI.enc)), (51, .v (.int .i64 (v13.length : Int))), (52, .v (.bool ((v13.length : Int) == 2))), (53, .v (.bool ((v13.length : Int) == 2)))] [some ⟨2, 94, [.ag [.v (.int .i64 c14), .rf 1 0 c15.length c15.length]], false⟩, some ⟨1, 3, (c15.map cdI.enc), false⟩] (by kernel_rfl) ?_
          rcases Bool.eq_false_or_eq_true ((v13.length : Int) == 2) with hc31 | hc31
          · rw [if_pos hc31] at hj24
            rw [hc31]
            refine RunS.segF (n := 79) e_evening_Beside_ok 4 [(5, .pt 0 0 0), (9, .sl 1 (v13.map cdI.enc)), (11, .v (.int .i64 v18)), (12, .v (.int .i64 v20)), (19, .sl 1 (x1.map (cdL 1 (cdL 1 cdI)).enc)), (20, .v (.int .i64 (x1.length : Int))), (21, .v (.int .i64 c6)), (25, .sl 1 (v8.map (cdL 1 cdI).enc)), (26, .v (.int .i64 (v8.length : Int))), (27, .v (.int .i64 c11)), (31, .sl 1 (v13.map cdI.enc)), (32, .v (.int .i64 (v13.length : Int))), (33, .v (.int .i64 c16)), (50, .sl 1 (v13.map cdI.enc)), (51, .v (.int .i64 (v13.length : Int))), (52, .v (.bool true)), (53, .v (.bool true)), (54, .v (.int .i64 c16)), (55, .v (.bool (c16 == 1))), (56, .v (.bool (c16 == 1))), (57, .v (.bool (c16 == 1)))] [some ⟨2, 94, [.ag [.v (.int .i64 c14), .rf 1 0 c15.length c15.length]], false⟩, some ⟨1, 3, (c15.map cdI.enc), false⟩] (by kernel_rfl) ?_
            have hq := Option.some.inj hj24; subst hq
            exact RunS.done rfl (Wk.s3 [0, 1] ⟨⟨_, rfl, bu_d⟩, ⟨_, rfl, bu_own⟩, trivial⟩ ⟨lv, lv, lv, lv, lv, lv, lv, lv, lv, lv, lv, lv, lv, lv, trivial⟩)
          · rw [if_f hc31] at hj24
            rw [hc31]
            refine RunS.segF (n := 79) e_evening_Beside_ok 4 [(5, .pt 0 0 0), (9, .sl 1 (v13.map cdI.enc)), (11, .v (.int .i64 v18)), (12, .v (.int .i64 v20)), (19, .sl 1 (x1.map (cdL 1 (cdL 1 cdI)).enc)), (20, .v (.int .i64 (x1.length : Int))), (21, .v (.int .i64 c6)), (25, .sl 1 (v8.map (cdL 1 cdI).enc)), (26, .v (.int .i64 (v8.length : Int))), (27, .v (.int .i64 c11)), (31, .sl 1 (v13.map cdI.enc)), (32, .v (.int .i64 (v13.length : Int))), (33, .v (.int .i64 c16)), (50, .sl 1 (v13.map cdI.enc)), (51, .v (.int .i64 (v13.length : Int))), (52, .v (.bool false)), (53, .v (.bool false)), (54, .tp []), (55, .tp []), (56, .v (.bool false)), (57, .v (.bool false))] [some ⟨2, 94, [.ag [.v (.int .i64 c14), .rf 1 0 c15.length c15.length]], false⟩, some ⟨1, 3, (c15.map cdI.enc), false⟩] (by kernel_rfl) ?_
            have hq := Option.some.inj hj24; subst hq
            exact RunS.done rfl (Wk.s3 [0, 1] ⟨⟨_, rfl, bu_d⟩, ⟨_, rfl, bu_own⟩, trivial⟩ ⟨lv, lv, lv, lv, lv, lv, lv, lv, lv, lv, lv, lv, lv, lv, trivial⟩)
      refine Sem.cond (b := j24.2.2) (by kernel_rfl) (fun hb25 => ?_) (fun hb25 => ?_)
      · rw [if_pos hb25] at h
        refine Sem.exit ?_
        refine Sem.runS (s1 := ⟨Fr 79 [(5, .pt 0 0 0), (9, .sl 1 (v13.map cdI.enc)), (19, .sl 1 (x1.map (cdL 1 (cdL 1 cdI)).enc)), (20, .v (.int .i64 (x1.length : Int))), (21, .v (.int .i64 c6)), (25, .sl 1 (v8.map (cdL 1 cdI).enc)), (26, .v (.int .i64 (v8.length : Int))), (27, .v (.int .i64 c11)), (31, .sl 1 (v13.map cdI.enc)), (32, .v (.int .i64 (v13.length : Int))), (33, .v (.int .i64 (wr .i64 (c16 + 1))))], [some ⟨2, 94, [.ag [.v (.int .i64 j24.1), .rf 1 0 j24.2.1.length j24.2.1.length]], false⟩, some ⟨1, 3, (j24.2.1.map cdI.enc), false⟩]⟩) ?_ ?_
        · refine RunS.segF (n := 79) e_evening_Beside_ok 2 [(5, .pt 0 0 0), (9, .sl 1 (v13.map cdI.enc)), (19, .sl 1 (x1.map (cdL 1 (cdL 1 cdI)).enc)), (20, .v (.int .i64 (x1.length : Int))), (21, .v (.int .i64 c6)), (25, .sl 1 (v8.map (cdL 1 cdI).enc)), (26, .v (.int .i64 (v8.length : Int))), (27, .v (.int .i64 c11)), (31, .sl 1 (v13.map cdI.enc)), (32, .v (.int .i64 (v13.length : Int))), (33, .v (.int .i64 (wr .i64 (c16 + 1))))] [some ⟨2, 94, [.ag [.v (.int .i64 j24.1), .rf 1 0 j24.2.1.length j24.2.1.length]], false⟩, some ⟨1, 3, (j24.2.1.map cdI.enc), false⟩] (by kernel_rfl) ?_
          exact RunS.done rfl (Wk.s3 [0, 1] ⟨⟨_, rfl, bu_d⟩, ⟨_, rfl, bu_own⟩, trivial⟩ ⟨lv, lv, lv, lv, lv, lv, lv, lv, lv, lv, lv, trivial⟩)
        exact SemN.wk (s1 := ⟨Fr 79 [(5, .pt 0 0 0), (9, .sl 1 (v13.map cdI.enc)), (19, .sl 1 (x1.map (cdL 1 (cdL 1 cdI)).enc)), (20, .v (.int .i64 (x1.length : Int))), (21, .v (.int .i64 c6)), (25, .sl 1 (v8.map (cdL 1 cdI).enc)), (26, .v (.int .i64 (v8.length : Int))), (27, .v (.int .i64 c11)), (31, .sl 1 (v13.map cdI.enc)), (32, .v (.int .i64 (v13.length : Int))), (33, .v (.int .i64 (wr .i64 (c16 + 1))))], [some ⟨2, 94, [.ag [.v (.int .i64 j24.1), .rf 1 0 j24.2.1.length j24.2.1.length]], false⟩, some ⟨1, 3, (j24.2.1.map cdI.enc), false⟩]⟩) (Wk.s3 [0, 1] ⟨⟨_, rfl, bu_d⟩, ⟨_, rfl, bu_own⟩, trivial⟩ ⟨lv, lv, lv, lv, lv, lv, lv, lv, lv, lv, lv, trivial⟩) (ih j24.1 j24.2.1 (wr .i64 (c16 + 1)) h)
      · rw [if_f hb25] at h
        refine Sem.skip ?_
        refine Sem.seq ?_
        obtain ⟨v26, hv26, h⟩ := Option.bind_eq_some_iff.1 h
        obtain ⟨v27, hv27, h⟩ := Option.bind_eq_some_iff.1 h
        refine Sem.runS (s1 := ⟨Fr 79 [(5, .pt 0 0 0), (9, .sl 1 (v13.map cdI.enc)), (11, .v (.int .i64 v18)), (12, .v (.int .i64 v20)), (19, .sl 1 (x1.map (cdL 1 (cdL 1 cdI)).enc)), (20, .v (.int .i64 (x1.length : Int))), (21, .v (.int .i64 c6)), (25, .sl 1 (v8.map (cdL 1 cdI).enc)), (26, .v (.int .i64 (v8.length : Int))), (27, .v (.int .i64 c11)), (31, .sl 1 (v13.map cdI.enc)), (32, .v (.int .i64 (v13.length : Int))), (33, .v (.int .i64 c16))], [some ⟨2, 94, [.ag [.v (.int .i64 j24.1), .rf 1 0 (j24.2.1.set ((wr .i64 ((wr .i64 (v18 * j24.1)) + v20)).toNat) (wr .i64 (v27 + 1))).length (j24.2.1.set ((wr .i64 ((wr .i64 (v18 * j24.1)) + v20)).toNat) (wr .i64 (v27 + 1))).length]], false⟩, some ⟨1, 3, ((j24.2.1.set ((wr .i64 ((wr .i64 (v18 * j24.1)) + v20)).toNat) (wr .i64 (v27 + 1))).map cdI.enc), false⟩]⟩) ?_ ?_
        · refine RunS.segF (n := 79) e_evening_Beside_ok 3 [(5, .pt 0 0 0), (9, .sl 1 (v13.map cdI.enc)), (11, .v (.int .i64 v18)), (12, .v (.int .i64 v20)), (19, .sl 1 (x1.map (cdL 1 (cdL 1 cdI)).enc)), (20, .v (.int .i64 (x1.length : Int))), (21, .v (.int .i64 c6)), (25, .sl 1 (v8.map (cdL 1 cdI).enc)), (26, .v (.int .i64 (v8.length : Int))), (27, .v (.int .i64 c11)), (31, .sl 1 (v13.map cdI.enc)), (32, .v (.int .i64 (v13.length : Int))), (33, .v (.int .i64 c16)), (58, .ag [.v (.int .i64 j24.1), .rf 1 0 j24.2.1.length j24.2.1.length]), (59, .v (.int .i64 v18)), (60, .v (.int .i64 v20))] [some ⟨2, 94, [.ag [.v (.int .i64 j24.1), .rf 1 0 j24.2.1.length j24.2.1.length]], false⟩, some ⟨1, 3, (j24.2.1.map cdI.enc), false⟩] (by kernel_rfl) ?_
          refine RunS.inlY (fid := 73) (caps := []) (xs := [.ag [.v (.int .i64 j24.1), .rf 1 0 j24.2.1.length j24.2.1.length], .v (.int .i64 v18), .v (.int .i64 v20)]) (fn := Tryd.f73) (Out := fun x h' => x = .pt 1 ((wr .i64 ((wr .i64 (v18 * j24.1)) + v20)).toNat) 0 ∧ h' = [some ⟨2, 94, [.ag [.v (.int .i64 j24.1), .rf 1 0 j24.2.1.length j24.2.1.length]], false⟩, some ⟨1, 3, (j24.2.1.map cdI.enc), false⟩, some ⟨2, 94, [.ag [.v (.int .i64 v26), .rf 1 0 j24.2.1.length j24.2.1.length]], false⟩]) rfl rfl e_evening_Beside_k2_ok rfl rfl rfl (wantedA_none rfl) (by kernel_rfl) (by kernel_rfl) (by kernel_rfl) (by kernel_rfl) (by show 3 ≤ 16; decide) (evening_Beside_k2_sem j24.1 j24.2.1 j24.1 v18 v20 _ hv26) ?_
          rintro x h' ⟨rfl, rfl⟩
          refine RunS.segF (n := 79) e_evening_Beside_ok 1 [(5, .pt 0 0 0), (9, .sl 1 (v13.map cdI.enc)), (11, .v (.int .i64 v18)), (12, .v (.int .i64 v20)), (19, .sl 1 (x1.map (cdL 1 (cdL 1 cdI)).enc)), (20, .v (.int .i64 (x1.length : Int))), (21, .v (.int .i64 c6)), (25, .sl 1 (v8.map (cdL 1 cdI).enc)), (26, .v (.int .i64 (v8.length : Int))), (27, .v (.int .i64 c11)), (31, .sl 1 (v13.map cdI.enc)), (32, .v (.int .i64 (v13.length : Int))), (33, .v (.int .i64 c16)), (61, .pt 1 ((wr .i64 ((wr .i64 (v18 * j24.1)) + v20)).toNat) 0), (62, .pt 1 ((wr .i64 ((wr .i64 (v18 * j24.1)) + v20)).toNat) 0)] [some ⟨2, 94, [.ag [.v (.int .i64 j24.1), .rf 1 0 j24.2.1.length j24.2.1.length]], false⟩, some ⟨1, 3, (j24.2.1.map cdI.enc), false⟩, some ⟨2, 94, [.ag [.v (.int .i64 v26), .rf 1 0 j24.2.1.length j24.2.1.length]], false⟩] (by kernel_rfl) ?_
          refine RunS.one e_evening_Beside_ok 0 rfl (op_q (wantedA_none rfl) rfl (q_load (p := .pt 1 ((wr .i64 ((wr .i64 (v18 * j24.1)) + v20)).toNat) 0) (by kernel_rfl) (ld_blk (B := ⟨1, 3, (j24.2.1.map cdI.enc), false⟩) (m := 1) (g := false) (e := cdI.enc) (xs := j24.2.1) (by kernel_rfl) (by kernel_rfl) (by kernel_rfl) rfl (idx_at hv27).2 (by kernel_rfl)))) ?_
          refine RunS.segF (n := 79) e_evening_Beside_ok 2 [(5, .pt 0 0 0), (9, .sl 1 (v13.map cdI.enc)), (11, .v (.int .i64 v18)), (12, .v (.int .i64 v20)), (19, .sl 1 (x1.map (cdL 1 (cdL 1 cdI)).enc)), (20, .v (.int .i64 (x1.length : Int))), (21, .v (.int .i64 c6)), (25, .sl 1 (v8.map (cdL 1 cdI).enc)), (26, .v (.int .i64 (v8.length : Int))), (27, .v (.int .i64 c11)), (31, .sl 1 (v13.map cdI.enc)), (32, .v (.int .i64 (v13.length : Int))), (33, .v (.int .i64 c16)), (64, .v (.int .i64 (wr .i64 (v27 + 1)))), (65, .pt 1 ((wr .i64 ((wr .i64 (v18 * j24.1)) + v20)).toNat) 0)] [some ⟨2, 94, [.ag [.v (.int .i64 j24.1), .rf 1 0 j24.2.1.length j24.2.1.length]], false⟩, some ⟨1, 3, (j24.2.1.map cdI.enc), false⟩, some ⟨2, 94, [.ag [.v (.int .i64 v26), .rf 1 0 j24.2.1.length j24.2.1.length]], false⟩] (by kernel_rfl) ?_
          refine RunS.store e_evening_Beside_ok (y := .pt 1 ((wr .i64 ((wr .i64 (v18 * j24.1)) + v20)).toNat) 0) (z := .v (.int .i64 (wr .i64 (v27 + 1)))) rfl (wantedA_none rfl) (by kernel_rfl) (by kernel_rfl) (st_blk (t' := 3) (k := 1) (e := cdI.enc) (xs := j24.2.1) (v := v27) (v' := (wr .i64 (v27 + 1))) (by kernel_rfl) (idx_at hv27).2 (by kernel_rfl) (by kernel_rfl) (by kernel_rfl)) ?_
          exact RunS.done rfl (Wk.s3 [0, 1] ⟨⟨_, rfl, bu_c (by simp only [List.length_set]; kernel_rfl) (by kernel_rfl)⟩, ⟨_, rfl, bu_own⟩, trivial⟩ ⟨lv, lv, lv, lv, lv, lv, lv, lv, lv, lv, lv, lv, lv, trivial⟩)
        obtain ⟨v28, hv28, h⟩ := Option.bind_eq_some_iff.1 h
        obtain ⟨v29, hv29, h⟩ := Option.bind_eq_some_iff.1 h
        refine Sem.runS (s1 := ⟨Fr 79 [(5, .pt 0 0 0), (9, .sl 1 (v13.map cdI.enc)), (19, .sl 1 (x1.map (cdL 1 (cdL 1 cdI)).enc)), (20, .v (.int .i64 (x1.length : Int))), (21, .v (.int .i64 c6)), (25, .sl 1 (v8.map (cdL 1 cdI).enc)), (26, .v (.int .i64 (v8.length : Int))), (27, .v (.int .i64 c11)), (31, .sl 1 (v13.map cdI.enc)), (32, .v (.int .i64 (v13.length : Int))), (33, .v (.int .i64 c16))], [some ⟨2, 94, [.ag [.v (.int .i64 j24.1), .rf 1 0 ((j24.2.1.set ((wr .i64 ((wr .i64 (v18 * j24.1)) + v20)).toNat) (wr .i64 (v27 + 1))).set ((wr .i64 ((wr .i64 (v20 * j24.1)) + v18)).toNat) (wr .i64 (v29 + 1))).length ((j24.2.1.set ((wr .i64 ((wr .i64 (v18 * j24.1)) + v20)).toNat) (wr .i64 (v27 + 1))).set ((wr .i64 ((wr .i64 (v20 * j24.1)) + v18)).toNat) (wr .i64 (v29 + 1))).length]], false⟩, some ⟨1, 3, (((j24.2.1.set ((wr .i64 ((wr .i64 (v18 * j24.1)) + v20)).toNat) (wr .i64 (v27 + 1))).set ((wr .i64 ((wr .i64 (v20 * j24.1)) + v18)).toNat) (wr .i64 (v29 + 1))).map cdI.enc), false⟩]⟩) ?_ ?_
        · refine RunS.segF (n := 79) e_evening_Beside_ok 3 [(5, .pt 0 0 0), (9, .sl 1 (v13.map cdI.enc)), (19, .sl 1 (x1.map (cdL 1 (cdL 1 cdI)).enc)), (20, .v (.int .i64 (x1.length : Int))), (21, .v (.int .i64 c6)), (25, .sl 1 (v8.map (cdL 1 cdI).enc)), (26, .v (.int .i64 (v8.length : Int))), (27, .v (.int .i64 c11)), (31, .sl 1 (v13.map cdI.enc)), (32, .v (.int .i64 (v13.length : Int))), (33, .v (.int .i64 c16)), (66, .ag [.v (.int .i64 j24.1), .rf 1 0 (j24.2.1.set ((wr .i64 ((wr .i64 (v18 * j24.1)) + v20)).toNat) (wr .i64 (v27 + 1))).length (j24.2.1.set ((wr .i64 ((wr .i64 (v18 * j24.1)) + v20)).toNat) (wr .i64 (v27 + 1))).length]), (67, .v (.int .i64 v20)), (68, .v (.int .i64 v18))] [some ⟨2, 94, [.ag [.v (.int .i64 j24.1), .rf 1 0 (j24.2.1.set ((wr .i64 ((wr .i64 (v18 * j24.1)) + v20)).toNat) (wr .i64 (v27 + 1))).length (j24.2.1.set ((wr .i64 ((wr .i64 (v18 * j24.1)) + v20)).toNat) (wr .i64 (v27 + 1))).length]], false⟩, some ⟨1, 3, ((j24.2.1.set ((wr .i64 ((wr .i64 (v18 * j24.1)) + v20)).toNat) (wr .i64 (v27 + 1))).map cdI.enc), false⟩] (by kernel_rfl) ?_
          refine RunS.inlY (fid := 73) (caps := []) (xs := [.ag [.v (.int .i64 j24.1), .rf 1 0 (j24.2.1.set ((wr .i64 ((wr .i64 (v18 * j24.1)) + v20)).toNat) (wr .i64 (v27 + 1))).length (j24.2.1.set ((wr .i64 ((wr .i64 (v18 * j24.1)) + v20)).toNat) (wr .i64 (v27 + 1))).length], .v (.int .i64 v20), .v (.int .i64 v18)]) (fn := Tryd.f73) (Out := fun x h' => x = .pt 1 ((wr .i64 ((wr .i64 (v20 * j24.1)) + v18)).toNat) 0 ∧ h' = [some ⟨2, 94, [.ag [.v (.int .i64 j24.1), .rf 1 0 (j24.2.1.set ((wr .i64 ((wr .i64 (v18 * j24.1)) + v20)).toNat) (wr .i64 (v27 + 1))).length (j24.2.1.set ((wr .i64 ((wr .i64 (v18 * j24.1)) + v20)).toNat) (wr .i64 (v27 + 1))).length]], false⟩, some ⟨1, 3, ((j24.2.1.set ((wr .i64 ((wr .i64 (v18 * j24.1)) + v20)).toNat) (wr .i64 (v27 + 1))).map cdI.enc), false⟩, some ⟨2, 94, [.ag [.v (.int .i64 v28), .rf 1 0 (j24.2.1.set ((wr .i64 ((wr .i64 (v18 * j24.1)) + v20)).toNat) (wr .i64 (v27 + 1))).length (j24.2.1.set ((wr .i64 ((wr .i64 (v18 * j24.1)) + v20)).toNat) (wr .i64 (v27 + 1))).length]], false⟩]) rfl rfl e_evening_Beside_k2_ok rfl rfl rfl (wantedA_none rfl) (by kernel_rfl) (by kernel_rfl) (by kernel_rfl) (by kernel_rfl) (by show 3 ≤ 16; decide) (evening_Beside_k2_sem j24.1 (j24.2.1.set ((wr .i64 ((wr .i64 (v18 * j24.1)) + v20)).toNat) (wr .i64 (v27 + 1))) j24.1 v20 v18 _ hv28) ?_
          rintro x h' ⟨rfl, rfl⟩
          refine RunS.segF (n := 79) e_evening_Beside_ok 1 [(5, .pt 0 0 0), (9, .sl 1 (v13.map cdI.enc)), (19, .sl 1 (x1.map (cdL 1 (cdL 1 cdI)).enc)), (20, .v (.int .i64 (x1.length : Int))), (21, .v (.int .i64 c6)), (25, .sl 1 (v8.map (cdL 1 cdI).enc)), (26, .v (.int .i64 (v8.length : Int))), (27, .v (.int .i64 c11)), (31, .sl 1 (v13.map cdI.enc)), (32, .v (.int .i64 (v13.length : Int))), (33, .v (.int .i64 c16)), (69, .pt 1 ((wr .i64 ((wr .i64 (v20 * j24.1)) + v18)).toNat) 0), (70, .pt 1 ((wr .i64 ((wr .i64 (v20 * j24.1)) + v18)).toNat) 0)] [some ⟨2, 94, [.ag [.v (.int .i64 j24.1), .rf 1 0 (j24.2.1.set ((wr .i64 ((wr .i64 (v18 * j24.1)) + v20)).toNat) (wr .i64 (v27 + 1))).length (j24.2.1.set ((wr .i64 ((wr .i64 (v18 * j24.1)) + v20)).toNat) (wr .i64 (v27 + 1))).length]], false⟩, some ⟨1, 3, ((j24.2.1.set ((wr .i64 ((wr .i64 (v18 * j24.1)) + v20)).toNat) (wr .i64 (v27 + 1))).map cdI.enc), false⟩, some ⟨2, 94, [.ag [.v (.int .i64 v28), .rf 1 0 (j24.2.1.set ((wr .i64 ((wr .i64 (v18 * j24.1)) + v20)).toNat) (wr .i64 (v27 + 1))).length (j24.2.1.set ((wr .i64 ((wr .i64 (v18 * j24.1)) + v20)).toNat) (wr .i64 (v27 + 1))).length]], false⟩] (by kernel_rfl) ?_
          refine RunS.one e_evening_Beside_ok 0 rfl (op_q (wantedA_none rfl) rfl (q_load (p := .pt 1 ((wr .i64 ((wr .i64 (v20 * j24.1)) + v18)).toNat) 0) (by kernel_rfl) (ld_blk (B := ⟨1, 3, ((j24.2.1.set ((wr .i64 ((wr .i64 (v18 * j24.1)) + v20)).toNat) (wr .i64 (v27 + 1))).map cdI.enc), false⟩) (m := 1) (g := false) (e := cdI.enc) (xs := (j24.2.1.set ((wr .i64 ((wr .i64 (v18 * j24.1)) + v20)).toNat) (wr .i64 (v27 + 1)))) (by kernel_rfl) (by kernel_rfl) (by kernel_rfl) rfl (idx_at hv29).2 (by kernel_rfl)))) ?_
          refine RunS.segF (n := 79) e_evening_Beside_ok 2 [(5, .pt 0 0 0), (9, .sl 1 (v13.map cdI.enc)), (19, .sl 1 (x1.map (cdL 1 (cdL 1 cdI)).enc)), (20, .v (.int .i64 (x1.length : Int))), (21, .v (.int .i64 c6)), (25, .sl 1 (v8.map (cdL 1 cdI).enc)), (26, .v (.int .i64 (v8.length : Int))), (27, .v (.int .i64 c11)), (31, .sl 1 (v13.map cdI.enc)), (32, .v (.int .i64 (v13.length : Int))), (33, .v (.int .i64 c16)), (72, .v (.int .i64 (wr .i64 (v29 + 1)))), (73, .pt 1 ((wr .i64 ((wr .i64 (v20 * j24.1)) + v18)).toNat) 0)] [some ⟨2, 94, [.ag [.v (.int .i64 j24.1), .rf 1 0 (j24.2.1.set ((wr .i64 ((wr .i64 (v18 * j24.1)) + v20)).toNat) (wr .i64 (v27 + 1))).length (j24.2.1.set ((wr .i64 ((wr .i64 (v18 * j24.1)) + v20)).toNat) (wr .i64 (v27 + 1))).length]], false⟩, some ⟨1, 3, ((j24.2.1.set ((wr .i64 ((wr .i64 (v18 * j24.1)) + v20)).toNat) (wr .i64 (v27 + 1))).map cdI.enc), false⟩, some ⟨2, 94, [.ag [.v (.int .i64 v28), .rf 1 0 (j24.2.1.set ((wr .i64 ((wr .i64 (v18 * j24.1)) + v20)).toNat) (wr .i64 (v27 + 1))).length (j24.2.1.set ((wr .i64 ((wr .i64 (v18 * j24.1)) + v20)).toNat) (wr .i64 (v27 + 1))).length]], false⟩] (by kernel_rfl) ?_
          refine RunS.store e_evening_Beside_ok (y := .pt 1 ((wr .i64 ((wr .i64 (v20 * j24.1)) + v18)).toNat) 0) (z := .v (.int .i64 (wr .i64 (v29 + 1)))) rfl (wantedA_none rfl) (by kernel_rfl) (by kernel_rfl) (st_blk (t' := 3) (k := 1) (e := cdI.enc) (xs := (j24.2.1.set ((wr .i64 ((wr .i64 (v18 * j24.1)) + v20)).toNat) (wr .i64 (v27 + 1)))) (v := v29) (v' := (wr .i64 (v29 + 1))) (by kernel_rfl) (idx_at hv29).2 (by kernel_rfl) (by kernel_rfl) (by kernel_rfl)) ?_
          exact RunS.done rfl (Wk.s3 [0, 1] ⟨⟨_, rfl, bu_c (by simp only [List.length_set]; kernel_rfl) (by kernel_rfl)⟩, ⟨_, rfl, bu_own⟩, trivial⟩ ⟨lv, lv, lv, lv, lv, lv, lv, lv, lv, lv, lv, trivial⟩)
        refine Sem.runS (s1 := ⟨Fr 79 [(5, .pt 0 0 0), (9, .sl 1 (v13.map cdI.enc)), (19, .sl 1 (x1.map (cdL 1 (cdL 1 cdI)).enc)), (20, .v (.int .i64 (x1.length : Int))), (21, .v (.int .i64 c6)), (25, .sl 1 (v8.map (cdL 1 cdI).enc)), (26, .v (.int .i64 (v8.length : Int))), (27, .v (.int .i64 c11)), (31, .sl 1 (v13.map cdI.enc)), (32, .v (.int .i64 (v13.length : Int))), (33, .v (.int .i64 (wr .i64 (c16 + 1))))], [some ⟨2, 94, [.ag [.v (.int .i64 j24.1), .rf 1 0 ((j24.2.1.set ((wr .i64 ((wr .i64 (v18 * j24.1)) + v20)).toNat) (wr .i64 (v27 + 1))).set ((wr .i64 ((wr .i64 (v20 * j24.1)) + v18)).toNat) (wr .i64 (v29 + 1))).length ((j24.2.1.set ((wr .i64 ((wr .i64 (v18 * j24.1)) + v20)).toNat) (wr .i64 (v27 + 1))).set ((wr .i64 ((wr .i64 (v20 * j24.1)) + v18)).toNat) (wr .i64 (v29 + 1))).length]], false⟩, some ⟨1, 3, (((j24.2.1.set ((wr .i64 ((wr .i64 (v18 * j24.1)) + v20)).toNat) (wr .i64 (v27 + 1))).set ((wr .i64 ((wr .i64 (v20 * j24.1)) + v18)).toNat) (wr .i64 (v29 + 1))).map cdI.enc), false⟩]⟩) ?_ ?_
        · refine RunS.segF (n := 79) e_evening_Beside_ok 2 [(5, .pt 0 0 0), (9, .sl 1 (v13.map cdI.enc)), (19, .sl 1 (x1.map (cdL 1 (cdL 1 cdI)).enc)), (20, .v (.int .i64 (x1.length : Int))), (21, .v (.int .i64 c6)), (25, .sl 1 (v8.map (cdL 1 cdI).enc)), (26, .v (.int .i64 (v8.length : Int))), (27, .v (.int .i64 c11)), (31, .sl 1 (v13.map cdI.enc)), (32, .v (.int .i64 (v13.length : Int))), (33, .v (.int .i64 (wr .i64 (c16 + 1))))] [some ⟨2, 94, [.ag [.v (.int .i64 j24.1), .rf 1 0 ((j24.2.1.set ((wr .i64 ((wr .i64 (v18 * j24.1)) + v20)).toNat) (wr .i64 (v27 + 1))).set ((wr .i64 ((wr .i64 (v20 * j24.1)) + v18)).toNat) (wr .i64 (v29 + 1))).length ((j24.2.1.set ((wr .i64 ((wr .i64 (v18 * j24.1)) + v20)).toNat) (wr .i64 (v27 + 1))).set ((wr .i64 ((wr .i64 (v20 * j24.1)) + v18)).toNat) (wr .i64 (v29 + 1))).length]], false⟩, some ⟨1, 3, (((j24.2.1.set ((wr .i64 ((wr .i64 (v18 * j24.1)) + v20)).toNat) (wr .i64 (v27 + 1))).set ((wr .i64 ((wr .i64 (v20 * j24.1)) + v18)).toNat) (wr .i64 (v29 + 1))).map cdI.enc), false⟩] (by kernel_rfl) ?_
          exact RunS.done rfl (Wk.s3 [0, 1] ⟨⟨_, rfl, bu_d⟩, ⟨_, rfl, bu_own⟩, trivial⟩ ⟨lv, lv, lv, lv, lv, lv, lv, lv, lv, lv, lv, trivial⟩)
        exact SemN.wk (s1 := ⟨Fr 79 [(5, .pt 0 0 0), (9, .sl 1 (v13.map cdI.enc)), (19, .sl 1 (x1.map (cdL 1 (cdL 1 cdI)).enc)), (20, .v (.int .i64 (x1.length : Int))), (21, .v (.int .i64 c6)), (25, .sl 1 (v8.map (cdL 1 cdI).enc)), (26, .v (.int .i64 (v8.length : Int))), (27, .v (.int .i64 c11)), (31, .sl 1 (v13.map cdI.enc)), (32, .v (.int .i64 (v13.length : Int))), (33, .v (.int .i64 (wr .i64 (c16 + 1))))], [some ⟨2, 94, [.ag [.v (.int .i64 j24.1), .rf 1 0 ((j24.2.1.set ((wr .i64 ((wr .i64 (v18 * j24.1)) + v20)).toNat) (wr .i64 (v27 + 1))).set ((wr .i64 ((wr .i64 (v20 * j24.1)) + v18)).toNat) (wr .i64 (v29 + 1))).length ((j24.2.1.set ((wr .i64 ((wr .i64 (v18 * j24.1)) + v20)).toNat) (wr .i64 (v27 + 1))).set ((wr .i64 ((wr .i64 (v20 * j24.1)) + v18)).toNat) (wr .i64 (v29 + 1))).length]], false⟩, some ⟨1, 3, (((j24.2.1.set ((wr .i64 ((wr .i64 (v18 * j24.1)) + v20)).toNat) (wr .i64 (v27 + 1))).set ((wr .i64 ((wr .i64 (v20 * j24.1)) + v18)).toNat) (wr .i64 (v29 + 1))).map cdI.enc), false⟩]⟩) (Wk.s3 [0, 1] ⟨⟨_, rfl, bu_d⟩, ⟨_, rfl, bu_own⟩, trivial⟩ ⟨lv, lv, lv, lv, lv, lv, lv, lv, lv, lv, lv, trivial⟩) (ih j24.1 ((j24.2.1.set ((wr .i64 ((wr .i64 (v18 * j24.1)) + v20)).toNat) (wr .i64 (v27 + 1))).set ((wr .i64 ((wr .i64 (v20 * j24.1)) + v18)).toNat) (wr .i64 (v29 + 1))) (wr .i64 (c16 + 1)) h)
    · rw [if_f hb17] at h
      refine Sem.exit ?_
      have hq := Option.some.inj h; subst hq
      exact ⟨rfl, (Wk.s3 [0, 1] ⟨⟨_, rfl, bu_d⟩, ⟨_, rfl, bu_own⟩, trivial⟩ ⟨lv, lv, lv, lv, lv, lv, lv, trivial⟩)⟩
set_option maxHeartbeats 4000000 in
set_option maxRecDepth 100000 in
theorem evening_Beside_2_ok (x1 : (List (List (List Int)))) (c6 : Int) (v8 : (List (List Int))) : ∀ (f : Nat) (c9 : Int) (c10 : (List Int)) (c11 : Int) (r : (Int × (List Int))), evening_Beside_2 x1 c6 v8 f c9 c10 c11 = some r → SemN e_evening_Beside ⟨none, false⟩ (pc cb_evening_Beside [1, 1, 1, 0, 1, 0, 0, 1, 1, 0, 0, 1, 1, 0, 0]) f ⟨Fr 79 [(5, .pt 0 0 0), (19, .sl 1 (x1.map (cdL 1 (cdL 1 cdI)).enc)), (20, .v (.int .i64 (x1.length : Int))), (21, .v (.int .i64 c6)), (25, .sl 1 (v8.map (cdL 1 cdI).enc)), (26, .v (.int .i64 (v8.length : Int))), (27, .v (.int .i64 c11))], [some ⟨2, 94, [.ag [.v (.int .i64 c9), .rf 1 0 c10.length c10.length]], false⟩, some ⟨1, 3, (c10.map cdI.enc), false⟩]⟩ (fun e s => e = (.exit 2) ∧ Wk e_evening_Beside s ⟨Fr 79 [(5, .pt 0 0 0), (19, .sl 1 (x1.map (cdL 1 (cdL 1 cdI)).enc)), (20, .v (.int .i64 (x1.length : Int))), (21, .v (.int .i64 c6))], [some ⟨2, 94, [.ag [.v (.int .i64 r.1), .rf 1 0 r.2.length r.2.length]], false⟩, some ⟨1, 3, (r.2.map cdI.enc), false⟩]⟩) := by
  intro f
  induction f with
  | zero => intro c9 c10 c11 r h; cases h
  | succ f ih0 =>
    intro c9 c10 c11 r h
    have ih := fun (c9 : Int) (c10 : (List Int)) (c11 : Int) => ih0 c9 c10 c11 r
    unfold evening_Beside_2 at h
    refine SemN.succ ?_
    refine Sem.seq ?_
    refine Sem.runS (s1 := ⟨Fr 79 [(5, .pt 0 0 0), (19, .sl 1 (x1.map (cdL 1 (cdL 1 cdI)).enc)), (20, .v (.int .i64 (x1.length : Int))), (21, .v (.int .i64 c6)), (25, .sl 1 (v8.map (cdL 1 cdI).enc)), (26, .v (.int .i64 (v8.length : Int))), (27, .v (.int .i64 c11)), (28, .v (.bool (decide (c11 < (v8.length : Int)))))], [some ⟨2, 94, [.ag [.v (.int .i64 c9), .rf 1 0 c10.length c10.length]], false⟩, some ⟨1, 3, (c10.map cdI.enc), false⟩]⟩) ?_ ?_
    · refine RunS.segF (n := 79) e_evening_Beside_ok 1 [(5, .pt 0 0 0), (19, .sl 1 (x1.map (cdL 1 (cdL 1 cdI)).enc)), (20, .v (.int .i64 (x1.length : Int))), (21, .v (.int .i64 c6)), (25, .sl 1 (v8.map (cdL 1 cdI).enc)), (26, .v (.int .i64 (v8.length : Int))), (27, .v (.int .i64 c11)), (28, .v (.bool (decide (c11 < (v8.length : Int)))))] [some ⟨2, 94, [.ag [.v (.int .i64 c9), .rf 1 0 c10.length c10.length]], false⟩, some ⟨1, 3, (c10.map cdI.enc), false⟩] (by kernel_rfl) ?_
      exact RunS.done rfl (Wk.s3 [0, 1] ⟨⟨_, rfl, bu_d⟩, ⟨_, rfl, bu_own⟩, trivial⟩ ⟨lv, lv, lv, lv, lv, lv, lv, lv, trivial⟩)
    refine Sem.seq ?_
    refine Sem.cond (b := (decide (c11 < (v8.length : Int)))) (by kernel_rfl) (fun hb12 => ?_) (fun hb12 => ?_)
    · rw [if_pos hb12] at h
      refine Sem.skip ?_
      refine Sem.seq ?_
      refine Sem.block ?_
      refine Sem.seq ?_
      obtain ⟨v13, hv13, h⟩ := Option.bind_eq_some_iff.1 h
      refine Sem.runS (s1 := ⟨Fr 79 [(5, .pt 0 0 0), (9, .sl 1 (v13.map cdI.enc)), (19, .sl 1 (x1.map (cdL 1 (cdL 1 cdI)).enc)), (20, .v (.int .i64 (x1.length : Int))), (21, .v (.int .i64 c6)), (25, .sl 1 (v8.map (cdL 1 cdI).enc)), (26, .v (.int .i64 (v8.length : Int))), (27, .v (.int .i64 c11))], [some ⟨2, 94, [.ag [.v (.int .i64 c9), .rf 1 0 c10.length c10.length]], false⟩, some ⟨1, 3, (c10.map cdI.enc), false⟩]⟩) ?_ ?_
      · refine RunS.one e_evening_Beside_ok 0 rfl (op_q (wantedA_none rfl) rfl (q_indexAddr (a := .sl 1 (v8.map (cdL 1 cdI).enc)) (b := .v (.int .i64 c11)) (by kernel_rfl) (by kernel_rfl) (ix_sl (e := (cdL 1 cdI).enc) (el := 31) (k := 1) (ki := .i64) (by kernel_rfl) (by kernel_rfl) hv13))) ?_
        refine RunS.segF (n := 79) e_evening_Beside_ok 2 [(5, .pt 0 0 0), (9, .sl 1 (v13.map cdI.enc)), (19, .sl 1 (x1.map (cdL 1 (cdL 1 cdI)).enc)), (20, .v (.int .i64 (x1.length : Int))), (21, .v (.int .i64 c6)), (25, .sl 1 (v8.map (cdL 1 cdI).enc)), (26, .v (.int .i64 (v8.length : Int))), (27, .v (.int .i64 c11))] [some ⟨2, 94, [.ag [.v (.int .i64 c9), .rf 1 0 c10.length c10.length]], false⟩, some ⟨1, 3, (c10.map cdI.enc), false⟩] (by kernel_rfl) ?_
        exact RunS.done rfl (Wk.s3 [0, 1] ⟨⟨_, rfl, bu_d⟩, ⟨_, rfl, bu_own⟩, trivial⟩ ⟨lv, lv, lv, lv, lv, lv, lv, lv, trivial⟩)
      refine Sem.seq ?_
      refine Sem.runS (s1 := ⟨Fr 79 [(5, .pt 0 0 0), (9, .sl 1 (v13.map cdI.enc)), (19, .sl 1 (x1.map (cdL 1 (cdL 1 cdI)).enc)), (20, .v (.int .i64 (x1.length : Int))), (21, .v (.int .i64 c6)), (25, .sl 1 (v8.map (cdL 1 cdI).enc)), (26, .v (.int .i64 (v8.length : Int))), (27, .v (.int .i64 c11)), (31, .sl 1 (v13.map cdI.enc)), (32, .v (.int .i64 (v13.length : Int))), (33, .v (.int .i64 0))], [some ⟨2, 94, [.ag [.v (.int .i64 c9), .rf 1 0 c10.length c10.length]], false⟩, some ⟨1, 3, (c10.map cdI.enc), false⟩]⟩) ?_ ?_
      · refine RunS.segF (n := 79) e_evening_Beside_ok 1 [(5, .pt 0 0 0), (9, .sl 1 (v13.map cdI.enc)), (19, .sl 1 (x1.map (cdL 1 (cdL 1 cdI)).enc)), (20, .v (.int .i64 (x1.length : Int))), (21, .v (.int .i64 c6)), (25, .sl 1 (v8.map (cdL 1 cdI).enc)), (26, .v (.int .i64 (v8.length : Int))), (27, .v (.int .i64 c11)), (31, .sl 1 (v13.map cdI.enc))] [some ⟨2, 94, [.ag [.v (.int .i64 c9), .rf 1 0 c10.length c10.length]], false⟩, some ⟨1, 3, (c10.map cdI.enc), false⟩] (by kernel_rfl) ?_
        refine RunS.one e_evening_Beside_ok 0 rfl (op_q (wantedA_none rfl) rfl (q_len (a := .sl 1 (v13.map cdI.enc)) (by kernel_rfl) (len_sl (el := 3) (by kernel_rfl)))) ?_
        refine RunS.segF (n := 79) e_evening_Beside_ok 1 [(5, .pt 0 0 0), (9, .sl 1 (v13.map cdI.enc)), (19, .sl 1 (x1.map (cdL 1 (cdL 1 cdI)).enc)), (20, .v (.int .i64 (x1.length : Int))), (21, .v (.int .i64 c6)), (25, .sl 1 (v8.map (cdL 1 cdI).enc)), (26, .v (.int .i64 (v8.length : Int))), (27, .v (.int .i64 c11)), (31, .sl 1 (v13.map cdI.enc)), (32, .v (.int .i64 (v13.length : Int))), (33, .v (.int .i64 0))] [some ⟨2, 94, [.ag [.v (.int .i64 c9), .rf 1 0 c10.length c10.length]], false⟩, some ⟨1, 3, (c10.map cdI.enc), false⟩] (by kernel_rfl) ?_
        exact RunS.done rfl (Wk.s3 [0, 1] ⟨⟨_, rfl, bu_d⟩, ⟨_, rfl, bu_own⟩, trivial⟩ ⟨lv, lv, lv, lv, lv, lv, lv, lv, lv, lv, lv, trivial⟩)
      refine Sem.block ?_
      obtain ⟨r34, hr34, h⟩ := Option.bind_eq_some_iff.1 h
      refine Sem.loop (n := 100000) ?_
      refine Sem.cutN (SemN.wk (s1 := ⟨Fr 79 [(5, .pt 0 0 0), (9, .sl 1 (v13.map cdI.enc)), (19, .sl 1 (x1.map (cdL 1 (cdL 1 cdI)).enc)), (20, .v (.int .i64 (x1.length : Int))), (21, .v (.int .i64 c6)), (25, .sl 1 (v8.map (cdL 1 cdI).enc)), (26, .v (.int .i64 (v8.length : Int))), (27, .v (.int .i64 c11)), (31, .sl 1 (v13.map cdI.enc)), (32, .v (.int .i64 (v13.length : Int))), (33, .v (.int .i64 0))], [some ⟨2, 94, [.ag [.v (.int .i64 c9), .rf 1 0 c10.length c10.length]], false⟩, some ⟨1, 3, (c10.map cdI.enc), false⟩]⟩) (Wk.s3 [0, 1] ⟨⟨_, rfl, bu_d⟩, ⟨_, rfl, bu_own⟩, trivial⟩ ⟨lv, lv, lv, lv, lv, lv, lv, lv, lv, lv, lv, trivial⟩) (evening_Beside_3_ok x1 c6 v8 c11 v13 _ c9 c10 0 _ hr34)) ?_
      refine Sem.runS (s1 := ⟨Fr 79 [(5, .pt 0 0 0), (19, .sl 1 (x1.map (cdL 1 (cdL 1 cdI)).enc)), (20, .v (.int .i64 (x1.length : Int))), (21, .v (.int .i64 c6)), (25, .sl 1 (v8.map (cdL 1 cdI).enc)), (26, .v (.int .i64 (v8.length : Int))), (27, .v (.int .i64 (wr .i64 (c11 + 1))))], [some ⟨2, 94, [.ag [.v (.int .i64 r34.1), .rf 1 0 r34.2.length r34.2.length]], false⟩, some ⟨1, 3, (r34.2.map cdI.enc), false⟩]⟩) ?_ ?_
      · refine RunS.segF (n := 79) e_evening_Beside_ok 2 [(5, .pt 0 0 0), (19, .sl 1 (x1.map (cdL 1 (cdL 1 cdI)).enc)), (20, .v (.int .i64 (x1.length : Int))), (21, .v (.int .i64 c6)), (25, .sl 1 (v8.map (cdL 1 cdI).enc)), (26, .v (.int .i64 (v8.length : Int))), (27, .v (.int .i64 (wr .i64 (c11 + 1))))] [some ⟨2, 94, [.ag [.v (.int .i64 r34.1), .rf 1 0 r34.2.length r34.2.length]], false⟩, some ⟨1, 3, (r34.2.map cdI.enc), false⟩] (by kernel_rfl) ?_
        exact RunS.done rfl (Wk.s3 [0, 1] ⟨⟨_, rfl, bu_d⟩, ⟨_, rfl, bu_own⟩, trivial⟩ ⟨lv, lv, lv, lv, lv, lv, lv, trivial⟩)
      exact SemN.wk (s1 := ⟨Fr 79 [(5, .pt 0 0 0), (19, .sl 1 (x1.map (cdL 1 (cdL 1 cdI)).enc)), (20, .v (.int .i64 (x1.length : Int))), (21, .v (.int .i64 c6)), (25, .sl 1 (v8.map (cdL 1 cdI).enc)), (26, .v (.int .i64 (v8.length : Int))), (27, .v (.int .i64 (wr .i64 (c11 + 1))))], [some ⟨2, 94, [.ag [.v (.int .i64 r34.1), .rf 1 0 r34.2.length r34.2.length]], false⟩, some ⟨1, 3, (r34.2.map cdI.enc), false⟩]⟩) (Wk.s3 [0, 1] ⟨⟨_, rfl, bu_d⟩, ⟨_, rfl, bu_own⟩, trivial⟩ ⟨lv, lv, lv, lv, lv, lv, lv, trivial⟩) (ih r34.1 r34.2 (wr .i64 (c11 + 1)) h)
    · rw [if_f hb12] at h
      refine Sem.exit ?_
      have hq := Option.some.inj h; subst hq
      exact ⟨rfl, (Wk.s3 [0, 1] ⟨⟨_, rfl, bu_d⟩, ⟨_, rfl, bu_own⟩, trivial⟩ ⟨lv, lv, lv, lv, trivial⟩)⟩
set_option maxHeartbeats 4000000 in
set_option maxRecDepth 100000 in
theorem evening_Beside_1_ok (x1 : (List (List (List Int)))) : ∀ (f : Nat) (c4 : Int) (c5 : (List Int)) (c6 : Int) (r : (Int × (List Int))), evening_Beside_1 x1 f c4 c5 c6 = some r → SemN e_evening_Beside ⟨none, false⟩ (pc cb_evening_Beside [1, 1, 1, 0, 1, 0, 0]) f ⟨Fr 79 [(5, .pt 0 0 0), (19, .sl 1 (x1.map (cdL 1 (cdL 1 cdI)).enc)), (20, .v (.int .i64 (x1.length : Int))), (21, .v (.int .i64 c6))], [some ⟨2, 94, [.ag [.v (.int .i64 c4), .rf 1 0 c5.length c5.length]], false⟩, some ⟨1, 3, (c5.map cdI.enc), false⟩]⟩ (fun e s => e = (.exit 0) ∧ Wk e_evening_Beside s ⟨Fr 79 [(5, .pt 0 0 0)], [some ⟨2, 94, [.ag [.v (.int .i64 r.1), .rf 1 0 r.2.length r.2.length]], false⟩, some ⟨1, 3, (r.2.map cdI.enc), false⟩]⟩) := by
  intro f
  induction f with
  | zero => intro c4 c5 c6 r h; cases h
  | succ f ih0 =>
    intro c4 c5 c6 r h
    have ih := fun (c4 : Int) (c5 : (List Int)) (c6 : Int) => ih0 c4 c5 c6 r
    unfold evening_Beside_1 at h
    refine SemN.succ ?_
    refine Sem.seq ?_
    refine Sem.runS (s1 := ⟨Fr 79 [(5, .pt 0 0 0), (19, .sl 1 (x1.map (cdL 1 (cdL 1 cdI)).enc)), (20, .v (.int .i64 (x1.length : Int))), (21, .v (.int .i64 c6)), (22, .v (.bool (decide (c6 < (x1.length : Int)))))], [some ⟨2, 94, [.ag [.v (.int .i64 c4), .rf 1 0 c5.length c5.length]], false⟩, some ⟨1, 3, (c5.map cdI.enc), false⟩]⟩) ?_ ?_
    · refine RunS.segF (n := 79) e_evening_Beside_ok 1 [(5, .pt 0 0 0), (19, .sl 1 (x1.map (cdL 1 (cdL 1 cdI)).enc)), (20, .v (.int .i64 (x1.length : Int))), (21, .v (.int .i64 c6)), (22, .v (.bool (decide (c6 < (x1.length : Int)))))] [some ⟨2, 94, [.ag [.v (.int .i64 c4), .rf 1 0 c5.length c5.length]], false⟩, some ⟨1, 3, (c5.map cdI.enc), false⟩] (by kernel_rfl) ?_
      exact RunS.done rfl (Wk.s3 [0, 1] ⟨⟨_, rfl, bu_d⟩, ⟨_, rfl, bu_own⟩, trivial⟩ ⟨lv, lv, lv, lv, lv, trivial⟩)
    refine Sem.seq ?_
    refine Sem.cond (b := (decide (c6 < (x1.length : Int)))) (by kernel_rfl) (fun hb7 => ?_) (fun hb7 => ?_)
    · rw [if_pos hb7] at h
      refine Sem.skip ?_
      refine Sem.seq ?_
      refine Sem.block ?_
      refine Sem.seq ?_
      obtain ⟨v8, hv8, h⟩ := Option.bind_eq_some_iff.1 h
      refine Sem.runS (s1 := ⟨Fr 79 [(5, .pt 0 0 0), (7, .sl 1 (v8.map (cdL 1 cdI).enc)), (19, .sl 1 (x1.map (cdL 1 (cdL 1 cdI)).enc)), (20, .v (.int .i64 (x1.length : Int))), (21, .v (.int .i64 c6))], [some ⟨2, 94, [.ag [.v (.int .i64 c4), .rf 1 0 c5.length c5.length]], false⟩, some ⟨1, 3, (c5.map cdI.enc), false⟩]⟩) ?_ ?_
      · refine RunS.one e_evening_Beside_ok 0 rfl (op_q (wantedA_none rfl) rfl (q_indexAddr (a := .sl 1 (x1.map (cdL 1 (cdL 1 cdI)).enc)) (b := .v (.int .i64 c6)) (by kernel_rfl) (by kernel_rfl) (ix_sl (e := (cdL 1 (cdL 1 cdI)).enc) (el := 50) (k := 1) (ki := .i64) (by kernel_rfl) (by kernel_rfl) hv8))) ?_
        refine RunS.segF (n := 79) e_evening_Beside_ok 2 [(5, .pt 0 0 0), (7, .sl 1 (v8.map (cdL 1 cdI).enc)), (19, .sl 1 (x1.map (cdL 1 (cdL 1 cdI)).enc)), (20, .v (.int .i64 (x1.length : Int))), (21, .v (.int .i64 c6))] [some ⟨2, 94, [.ag [.v (.int .i64 c4), .rf 1 0 c5.length c5.length]], false⟩, some ⟨1, 3, (c5.map cdI.enc), false⟩] (by kernel_rfl) ?_
        exact RunS.done rfl (Wk.s3 [0, 1] ⟨⟨_, rfl, bu_d⟩, ⟨_, rfl, bu_own⟩, trivial⟩ ⟨lv, lv, lv, lv, lv, trivial⟩)
      refine Sem.seq ?_
      refine Sem.runS (s1 := ⟨Fr 79 [(5, .pt 0 0 0), (19, .sl 1 (x1.map (cdL 1 (cdL 1 cdI)).enc)), (20, .v (.int .i64 (x1.length : Int))), (21, .v (.int .i64 c6)), (25, .sl 1 (v8.map (cdL 1 cdI).enc)), (26, .v (.int .i64 (v8.length : Int))), (27, .v (.int .i64 0))], [some ⟨2, 94, [.ag [.v (.int .i64 c4), .rf 1 0 c5.length c5.length]], false⟩, some ⟨1, 3, (c5.map cdI.enc), false⟩]⟩) ?_ ?_
      · refine RunS.segF (n := 79) e_evening_Beside_ok 1 [(5, .pt 0 0 0), (19, .sl 1 (x1.map (cdL 1 (cdL 1 cdI)).enc)), (20, .v (.int .i64 (x1.length : Int))), (21, .v (.int .i64 c6)), (25, .sl 1 (v8.map (cdL 1 cdI).enc))] [some ⟨2, 94, [.ag [.v (.int .i64 c4), .rf 1 0 c5.length c5.length]], false⟩, some ⟨1, 3, (c5.map cdI.enc), false⟩] (by kernel_rfl) ?_
        refine RunS.one e_evening_Beside_ok 0 rfl (op_q (wantedA_none rfl) rfl (q_len (a := .sl 1 (v8.map (cdL 1 cdI).enc)) (by kernel_rfl) (len_sl (el := 31) (by kernel_rfl)))) ?_
        refine RunS.segF (n := 79) e_evening_Beside_ok 1 [(5, .pt 0 0 0), (19, .sl 1 (x1.map (cdL 1 (cdL 1 cdI)).enc)), (20, .v (.int .i64 (x1.length : Int))), (21, .v (.int .i64 c6)), (25, .sl 1 (v8.map (cdL 1 cdI).enc)), (26, .v (.int .i64 (v8.length : Int))), (27, .v (.int .i64 0))] [some ⟨2, 94, [.ag [.v (.int .i64 c4), .rf 1 0 c5.length c5.length]], false⟩, some ⟨1, 3, (c5.map cdI.enc), false⟩] (by kernel_rfl) ?_
        exact RunS.done rfl (Wk.s3 [0, 1] ⟨⟨_, rfl, bu_d⟩, ⟨_, rfl, bu_own⟩, trivial⟩ ⟨lv, lv, lv, lv, lv, lv, lv, trivial⟩)
      refine Sem.block ?_
      obtain ⟨r37, hr37, h⟩ := Option.bind_eq_some_iff.1 h
      refine Sem.loop (n := 100000) ?_
      refine Sem.cutN (SemN.wk (s1 := ⟨Fr 79 [(5, .pt 0 0 0), (19, .sl 1 (x1.map (cdL 1 (cdL 1 cdI)).enc)), (20, .v (.int .i64 (x1.length : Int))), (21, .v (.int .i64 c6)), (25, .sl 1 (v8.map (cdL 1 cdI).enc)), (26, .v (.int .i64 (v8.length : Int))), (27, .v (.int .i64 0))], [some ⟨2, 94, [.ag [.v (.int .i64 c4), .rf 1 0 c5.length c5.length]], false⟩, some ⟨1, 3, (c5.map cdI.enc), false⟩]⟩) (Wk.s3 [0, 1] ⟨⟨_, rfl, bu_d⟩, ⟨_, rfl, bu_own⟩, trivial⟩ ⟨lv, lv, lv, lv, lv, lv, lv, trivial⟩) (evening_Beside_2_ok x1 c6 v8 _ c4 c5 0 _ hr37)) ?_
      refine Sem.runS (s1 := ⟨Fr 79 [(5, .pt 0 0 0), (19, .sl 1 (x1.map (cdL 1 (cdL 1 cdI)).enc)), (20, .v (.int .i64 (x1.length : Int))), (21, .v (.int .i64 (wr .i64 (c6 + 1))))], [some ⟨2, 94, [.ag [.v (.int .i64 r37.1), .rf 1 0 r37.2.length r37.2.length]], false⟩, some ⟨1, 3, (r37.2.map cdI.enc), false⟩]⟩) ?_ ?_
      · refine RunS.segF (n := 79) e_evening_Beside_ok 2 [(5, .pt 0 0 0), (19, .sl 1 (x1.map (cdL 1 (cdL 1 cdI)).enc)), (20, .v (.int .i64 (x1.length : Int))), (21, .v (.int .i64 (wr .i64 (c6 + 1))))] [some ⟨2, 94, [.ag [.v (.int .i64 r37.1), .rf 1 0 r37.2.length r37.2.length]], false⟩, some ⟨1, 3, (r37.2.map cdI.enc), false⟩] (by kernel_rfl) ?_
        exact RunS.done rfl (Wk.s3 [0, 1] ⟨⟨_, rfl, bu_d⟩, ⟨_, rfl, bu_own⟩, trivial⟩ ⟨lv, lv, lv, lv, trivial⟩)
      exact SemN.wk (s1 := ⟨Fr 79 [(5, .pt 0 0 0), (19, .sl 1 (x1.map (cdL 1 (cdL 1 cdI)).enc)), (20, .v (.int .i64 (x1.length : Int))), (21, .v (.int .i64 (wr .i64 (c6 + 1))))], [some ⟨2, 94, [.ag [.v (.int .i64 r37.1), .rf 1 0 r37.2.length r37.2.length]], false⟩, some ⟨1, 3, (r37.2.map cdI.enc), false⟩]⟩) (Wk.s3 [0, 1] ⟨⟨_, rfl, bu_d⟩, ⟨_, rfl, bu_own⟩, trivial⟩ ⟨lv, lv, lv, lv, trivial⟩) (ih r37.1 r37.2 (wr .i64 (c6 + 1)) h)
    · rw [if_f hb7] at h
      refine Sem.exit ?_
      have hq := Option.some.inj h; subst hq
      exact ⟨rfl, (Wk.s3 [0, 1] ⟨⟨_, rfl, bu_d⟩, ⟨_, rfl, bu_own⟩, trivial⟩ ⟨lv, trivial⟩)⟩
set_option maxHeartbeats 4000000 in
set_option maxRecDepth 100000 in
theorem evening_Beside_sem (x0 : Int) (x1 : (List (List (List Int)))) (r : (List (List Int))) (h : evening_Beside x0 x1 = some r) : Sem e_evening_Beside ⟨none, false⟩ cb_evening_Beside ⟨Fr 79 (pairs0 0 (cs_evening_Beside.enc (x0, x1, ()))), []⟩ fun e s' => (e = .normal ∨ e = .ret) ∧ ∃ xs, resA e_evening_Beside.P s'.fr s'.hp Tryd.f32.results.toList = some xs ∧ retA xs = er_evening_Beside r := by
  unfold evening_Beside at h
  refine Sem.wkQ (Sem.wk (s1 := ⟨Fr 79 [(0, .v (.int .i64 x0)), (1, .sl 1 (x1.map (cdL 1 (cdL 1 cdI)).enc))], []⟩) Wk.f1 ?_)
  refine Sem.seq ?_
  refine Sem.runS (s1 := ⟨Fr 79 [(0, .v (.int .i64 x0)), (1, .sl 1 (x1.map (cdL 1 (cdL 1 cdI)).enc))], []⟩) ?_ ?_
  · refine RunS.segF (n := 79) e_evening_Beside_ok 1 [(0, .v (.int .i64 x0)), (1, .sl 1 (x1.map (cdL 1 (cdL 1 cdI)).enc))] [] (by kernel_rfl) ?_
    exact RunS.done rfl Wk.f1
  refine Sem.seq ?_
  refine Sem.seq ?_
  obtain ⟨v1, hv1, h⟩ := Option.bind_eq_some_iff.1 h
  refine Sem.runS (s1 := ⟨Fr 79 [(0, .v (.int .i64 x0)), (1, .sl 1 (x1.map (cdL 1 (cdL 1 cdI)).enc)), (16, .v (.bool (!v1)))], []⟩) ?_ ?_
  · refine RunS.segF (n := 79) e_evening_Beside_ok 2 [(0, .v (.int .i64 x0)), (1, .sl 1 (x1.map (cdL 1 (cdL 1 cdI)).enc)), (13, .v (.int .i64 x0)), (14, .sl 1 (x1.map (cdL 1 (cdL 1 cdI)).enc))] [] (by kernel_rfl) ?_
    refine RunS.call e_evening_Beside_ok (fid := 50) (s := cs_evening_valid) (F := fun a => evening_valid a.1 a.2.1) (er := er_evening_valid) (xs := [.v (.int .i64 x0), .sl 1 (x1.map (cdL 1 (cdL 1 cdI)).enc)]) (a := (x0, x1, ())) rfl (wantedA_none rfl) (by kernel_rfl) (by kernel_rfl) (by kernel_rfl) (by kernel_rfl) (Sns.cons (Sn.enc (c := cdI) (v := x0)) (Sns.cons (Sn.enc (c := (cdL 1 (cdL 1 (cdL 1 cdI)))) (v := x1)) Sns.nil)) (.inl (by kernel_rfl)) hv1 ?_
    refine RunS.segF (n := 79) e_evening_Beside_ok 1 [(0, .v (.int .i64 x0)), (1, .sl 1 (x1.map (cdL 1 (cdL 1 cdI)).enc)), (16, .v (.bool (!v1)))] [] (by kernel_rfl) ?_
    exact RunS.done rfl Wk.f1
  refine Sem.cond (b := (!v1)) (by kernel_rfl) (fun hb2 => ?_) (fun hb2 => ?_)
  · rw [if_pos hb2] at h
    refine Sem.seq ?_
    refine Sem.runS (s1 := ⟨Fr 79 [(4, .e0)], []⟩) ?_ ?_
    · refine RunS.segF (n := 79) e_evening_Beside_ok 1 [(4, .e0)] [] (by kernel_rfl) ?_
      exact RunS.done rfl Wk.f1
    refine Sem.ret ?_
    have hq := Option.some.inj h; subst hq
    exact ⟨⟨Fr 79 [(4, .sl 1 ([].map (cdL 1 cdI).enc))], []⟩, (Wk.trans (s1 := ⟨Fr 79 [(4, .e0)], []⟩) Wk.f1 (Wk.trans (s1 := ⟨Fr 79 [(4, .e0)], [none]⟩) Wk.none (Wk.trans (s1 := ⟨Fr 79 [(4, .sl 1 ([].map (cdL 1 cdI).enc))], [none]⟩) (Wk.frzG 0 (.inr (by kernel_rfl)) ⟨.inl rfl, trivial⟩ ⟨⟨.e0, (by kernel_rfl), fz_e0⟩, trivial⟩) (Wk.s3 [] trivial ⟨lv, trivial⟩)))), .inr rfl, [.sl 1 ([].map (cdL 1 cdI).enc)], (by kernel_rfl), (by kernel_rfl)⟩
  · rw [if_f hb2] at h
    refine Sem.skip ?_
    refine Sem.seq ?_
    obtain ⟨v3, hv3, h⟩ := Option.bind_eq_some_iff.1 h
    refine Sem.runS (s1 := ⟨Fr 79 [(1, .sl 1 (x1.map (cdL 1 (cdL 1 cdI)).enc)), (5, .pt 0 0 0)], [some ⟨2, 94, [.ag [.v (.int .i64 v3.1), .rf 1 0 v3.2.2.length v3.2.2.length]], false⟩, some ⟨1, 3, (v3.2.2.map cdI.enc), false⟩]⟩) ?_ ?_
    · refine RunS.segF (n := 79) e_evening_Beside_ok 1 [(1, .sl 1 (x1.map (cdL 1 (cdL 1 cdI)).enc)), (17, .v (.int .i64 x0))] [] (by kernel_rfl) ?_
      refine RunS.inlY (fid := 68) (caps := []) (xs := [.v (.int .i64 x0)]) (fn := Tryd.f68) (Out := fun x h' => x = .ag [.v (.int .i64 v3.1), .rf 1 0 v3.2.2.length v3.2.2.length] ∧ h' = [some ⟨2, 94, [.ag [.v (.int .i64 v3.2.1), .rf 1 0 v3.2.2.length v3.2.2.length]], false⟩, some ⟨1, 3, (v3.2.2.map cdI.enc), false⟩]) rfl rfl e_evening_Beside_k1_ok rfl rfl rfl (wantedA_none rfl) (by kernel_rfl) (by kernel_rfl) (by kernel_rfl) (by kernel_rfl) (by show 1 ≤ 9; decide) (evening_Beside_k1_sem x0 _ hv3) ?_
      rintro x h' ⟨rfl, rfl⟩
      refine RunS.segF (n := 79) e_evening_Beside_ok 2 [(1, .sl 1 (x1.map (cdL 1 (cdL 1 cdI)).enc)), (5, .pt 2 0 0)] [some ⟨2, 94, [.ag [.v (.int .i64 v3.2.1), .rf 1 0 v3.2.2.length v3.2.2.length]], false⟩, some ⟨1, 3, (v3.2.2.map cdI.enc), false⟩, some ⟨2, 94, [.ag [.v (.int .i64 v3.1), .rf 1 0 v3.2.2.length v3.2.2.length]], false⟩] (by kernel_rfl) ?_
      exact RunS.done rfl (Wk.s3 [2, 1] ⟨⟨_, rfl, bu_d⟩, ⟨_, rfl, bu_own⟩, trivial⟩ ⟨lv, lv, trivial⟩)
    refine Sem.seq ?_
    refine Sem.seq ?_
    refine Sem.runS (s1 := ⟨Fr 79 [(5, .pt 0 0 0), (19, .sl 1 (x1.map (cdL 1 (cdL 1 cdI)).enc)), (20, .v (.int .i64 (x1.length : Int))), (21, .v (.int .i64 0))], [some ⟨2, 94, [.ag [.v (.int .i64 v3.1), .rf 1 0 v3.2.2.length v3.2.2.length]], false⟩, some ⟨1, 3, (v3.2.2.map cdI.enc), false⟩]⟩) ?_ ?_
    · refine RunS.segF (n := 79) e_evening_Beside_ok 1 [(5, .pt 0 0 0), (19, .sl 1 (x1.map (cdL 1 (cdL 1 cdI)).enc))] [some ⟨2, 94, [.ag [.v (.int .i64 v3.1), .rf 1 0 v3.2.2.length v3.2.2.length]], false⟩, some ⟨1, 3, (v3.2.2.map cdI.enc), false⟩] (by kernel_rfl) ?_
      refine RunS.one e_evening_Beside_ok 0 rfl (op_q (wantedA_none rfl) rfl (q_len (a := .sl 1 (x1.map (cdL 1 (cdL 1 cdI)).enc)) (by kernel_rfl) (len_sl (el := 50) (by kernel_rfl)))) ?_
      refine RunS.segF (n := 79) e_evening_Beside_ok 1 [(5, .pt 0 0 0), (19, .sl 1 (x1.map (cdL 1 (cdL 1 cdI)).enc)), (20, .v (.int .i64 (x1.length : Int))), (21, .v (.int .i64 0))] [some ⟨2, 94, [.ag [.v (.int .i64 v3.1), .rf 1 0 v3.2.2.length v3.2.2.length]], false⟩, some ⟨1, 3, (v3.2.2.map cdI.enc), false⟩] (by kernel_rfl) ?_
      exact RunS.done rfl (Wk.s3 [0, 1] ⟨⟨_, rfl, bu_d⟩, ⟨_, rfl, bu_own⟩, trivial⟩ ⟨lv, lv, lv, lv, trivial⟩)
    refine Sem.block ?_
    obtain ⟨r40, hr40, h⟩ := Option.bind_eq_some_iff.1 h
    refine Sem.loop (n := 100000) ?_
    refine Sem.cutN (SemN.wk (s1 := ⟨Fr 79 [(5, .pt 0 0 0), (19, .sl 1 (x1.map (cdL 1 (cdL 1 cdI)).enc)), (20, .v (.int .i64 (x1.length : Int))), (21, .v (.int .i64 0))], [some ⟨2, 94, [.ag [.v (.int .i64 v3.1), .rf 1 0 v3.2.2.length v3.2.2.length]], false⟩, some ⟨1, 3, (v3.2.2.map cdI.enc), false⟩]⟩) (Wk.s3 [0, 1] ⟨⟨_, rfl, bu_d⟩, ⟨_, rfl, bu_own⟩, trivial⟩ ⟨lv, lv, lv, lv, trivial⟩) (evening_Beside_1_ok x1 _ v3.1 v3.2.2 0 _ hr40)) ?_
    refine Sem.seq ?_
    obtain ⟨v41, hv41, h⟩ := Option.bind_eq_some_iff.1 h
    refine Sem.runS (s1 := ⟨Fr 79 [(4, .sl 1 (v41.map (cdL 1 cdI).enc))], []⟩) ?_ ?_
    · refine RunS.segF (n := 79) e_evening_Beside_ok 1 [(77, .ag [.v (.int .i64 r40.1), .rf 1 0 r40.2.length r40.2.length])] [some ⟨2, 94, [.ag [.v (.int .i64 r40.1), .rf 1 0 r40.2.length r40.2.length]], false⟩, some ⟨1, 3, (r40.2.map cdI.enc), false⟩] (by kernel_rfl) ?_
      refine RunS.wk (s1 := ⟨Fr 79 [(77, .ag [.v (.int .i64 r40.1), .sl 1 (r40.2.map cdI.enc)])], [some ⟨2, 94, [.ag [.v (.int .i64 r40.1), .sl 1 (r40.2.map cdI.enc)]], false⟩, none]⟩) (Wk.frzG2 1 (.inl (by kernel_rfl)) ⟨.inr (.inr ⟨_, _, _, _, rfl, rfl, ⟨(.inr ⟨_, _, rfl, rfl, ⟨.inl rfl, fz_rlT (c := cdI) (xs := r40.2) (t := 3) (by kernel_rfl), trivial⟩⟩), trivial⟩⟩), .inl rfl, trivial⟩ ⟨⟨.ag [.v (.int .i64 r40.1), .rf 1 0 r40.2.length r40.2.length], (by kernel_rfl), (.inr ⟨_, _, rfl, rfl, ⟨.inl rfl, fz_rlT (c := cdI) (xs := r40.2) (t := 3) (by kernel_rfl), trivial⟩⟩)⟩, trivial⟩) ?_
      refine RunS.call e_evening_Beside_ok (fid := 84) (s := cs_evening_square_int_rows) (F := fun a => evening_square_int_rows a.1) (er := er_evening_square_int_rows) (xs := [.ag [.v (.int .i64 r40.1), .sl 1 (r40.2.map cdI.enc)]]) (a := ((r40.1, r40.2), ())) rfl (wantedA_none rfl) (by kernel_rfl) (by kernel_rfl) (by kernel_rfl) (by kernel_rfl) (Sns.cons (Sn.enc (c := (cdG2 cdI (cdL 1 cdI) (fun _ => rfl) (fun _ => rfl))) (v := (r40.1, r40.2))) Sns.nil) (.inl (by kernel_rfl)) hv41 ?_
      refine RunS.segF (n := 79) e_evening_Beside_ok 1 [(4, .sl 1 (v41.map (cdL 1 cdI).enc))] [some ⟨2, 94, [.ag [.v (.int .i64 r40.1), .sl 1 (r40.2.map cdI.enc)]], false⟩, none] (by kernel_rfl) ?_
      exact RunS.done rfl (Wk.s3 [] trivial ⟨lv, trivial⟩)
    refine Sem.ret ?_
    have hq := Option.some.inj h; subst hq
    exact ⟨⟨Fr 79 [(4, .sl 1 (v41.map (cdL 1 cdI).enc))], []⟩, Wk.f1, .inr rfl, [.sl 1 (v41.map (cdL 1 cdI).enc)], (by kernel_rfl), (by kernel_rfl)⟩
def t_evening_Beside : List AV → Option AV := told cs_evening_Beside (fun a => evening_Beside a.1 a.2.1) er_evening_Beside
theorem x_evening_Beside : XOk 32 t_evening_Beside := by
  refine EnvOk.x (E := e_evening_Beside) (contract_ok e_evening_Beside_ok (fn := Tryd.f32) (c := cb_evening_Beside) ?h1 ?h2 ⟨Tryd.call32⟩ cs_evening_Beside (fun a => evening_Beside a.1 a.2.1) er_evening_Beside (fun a => (by show 2 ≤ 79; decide)) ?h3 ?h4) rfl rfl
  case h1 => kernel_rfl
  case h2 => kernel_rfl
  case h3 => intro b; kernel_rfl
  case h4 => exact fun a b h => evening_Beside_sem a.1 a.2.1 b h
/- trestle/evening.Strain -/
noncomputable def e_evening_Strain : Env := ((E0.withX 50 t_evening_valid).withX 80 t_evening_meetings)
theorem e_evening_Strain_ok : EnvOk e_evening_Strain := (EnvOk.withX (EnvOk.withX E0_ok x_evening_valid.1 x_evening_valid.2) x_evening_meetings.1 x_evening_meetings.2)
noncomputable def cb_evening_Strain : Code := codeOf Tryd.f28
def evening_Strain_1 (v3 : (Int × (List Int))) : Nat → Int → Int → Option ((Int))
  | 0, _, _ => none
  | f + 1, c4, c5 =>
    if (decide (c5 < (v3.2.length : Int))) = true then
    (idx v3.2 c5).bind fun v7 =>
    evening_Strain_1 v3 f (wr .i64 (c4 + (wr .i64 (v7 * v7)))) (wr .i64 (c5 + 1))
    else
    some c4
def evening_Strain (x0 : Int) (x1 : (List (List (List Int)))) : Option (Int) :=
  (evening_valid x0 x1).bind fun v1 =>
  if (!v1) = true then
  some 0
  else
  (evening_meetings x0 x1).bind fun v3 =>
  (evening_Strain_1 v3 100000 0 0).bind fun r9 =>
  some (wr .i64 (r9.tdiv 2))
def cs_evening_Strain : Cs (Int × (List (List (List Int))) × Unit) := (csC cdI (csC (cdL 1 (cdL 1 (cdL 1 cdI))) csN))
def er_evening_Strain (r : Int) : AV := cdI.enc r
set_option maxHeartbeats 4000000 in
set_option maxRecDepth 100000 in
theorem evening_Strain_1_ok (v3 : (Int × (List Int))) : ∀ (f : Nat) (c4 : Int) (c5 : Int) (r : (Int)), evening_Strain_1 v3 f c4 c5 = some r → SemN e_evening_Strain ⟨none, false⟩ (pc cb_evening_Strain [1, 1, 1, 0, 1, 0, 0]) f ⟨Fr 29 [(5, .v (.int .i64 c4)), (15, .sl 1 (v3.2.map cdI.enc)), (16, .v (.int .i64 (v3.2.length : Int))), (17, .v (.int .i64 c5))], []⟩ (fun e s => e = (.exit 0) ∧ Wk e_evening_Strain s ⟨Fr 29 [(5, .v (.int .i64 r))], []⟩) := by
  intro f
  induction f with
  | zero => intro c4 c5 r h; cases h
  | succ f ih0 =>
    intro c4 c5 r h
    have ih := fun (c4 : Int) (c5 : Int) => ih0 c4 c5 r
    unfold evening_Strain_1 at h
    refine SemN.succ ?_
    refine Sem.seq ?_
    refine Sem.runS (s1 := ⟨Fr 29 [(5, .v (.int .i64 c4)), (15, .sl 1 (v3.2.map cdI.enc)), (16, .v (.int .i64 (v3.2.length : Int))), (17, .v (.int .i64 c5)), (18, .v (.bool (decide (c5 < (v3.2.length : Int)))))], []⟩) ?_ ?_
    · refine RunS.segF (n := 29) e_evening_Strain_ok 1 [(5, .v (.int .i64 c4)), (15, .sl 1 (v3.2.map cdI.enc)), (16, .v (.int .i64 (v3.2.length : Int))), (17, .v (.int .i64 c5)), (18, .v (.bool (decide (c5 < (v3.2.length : Int)))))] [] (by kernel_rfl) ?_
      exact RunS.done rfl Wk.f1
    refine Sem.seq ?_
    refine Sem.cond (b := (decide (c5 < (v3.2.length : Int)))) (by kernel_rfl) (fun hb6 => ?_) (fun hb6 => ?_)
    · rw [if_pos hb6] at h
      refine Sem.skip ?_
      refine Sem.seq ?_
      refine Sem.block ?_
      refine Sem.seq ?_
      obtain ⟨v7, hv7, h⟩ := Option.bind_eq_some_iff.1 h
      refine Sem.runS (s1 := ⟨Fr 29 [(5, .v (.int .i64 c4)), (7, .v (.int .i64 v7)), (15, .sl 1 (v3.2.map cdI.enc)), (16, .v (.int .i64 (v3.2.length : Int))), (17, .v (.int .i64 c5))], []⟩) ?_ ?_
      · refine RunS.one e_evening_Strain_ok 0 rfl (op_q (wantedA_none rfl) rfl (q_indexAddr (a := .sl 1 (v3.2.map cdI.enc)) (b := .v (.int .i64 c5)) (by kernel_rfl) (by kernel_rfl) (ix_sl (e := cdI.enc) (el := 3) (k := 1) (ki := .i64) (by kernel_rfl) (by kernel_rfl) hv7))) ?_
        refine RunS.segF (n := 29) e_evening_Strain_ok 2 [(5, .v (.int .i64 c4)), (7, .v (.int .i64 v7)), (15, .sl 1 (v3.2.map cdI.enc)), (16, .v (.int .i64 (v3.2.length : Int))), (17, .v (.int .i64 c5))] [] (by kernel_rfl) ?_
        exact RunS.done rfl Wk.f1
      refine Sem.runS (s1 := ⟨Fr 29 [(5, .v (.int .i64 (wr .i64 (c4 + (wr .i64 (v7 * v7)))))), (15, .sl 1 (v3.2.map cdI.enc)), (16, .v (.int .i64 (v3.2.length : Int))), (17, .v (.int .i64 c5))], []⟩) ?_ ?_
      · refine RunS.segF (n := 29) e_evening_Strain_ok 6 [(5, .v (.int .i64 (wr .i64 (c4 + (wr .i64 (v7 * v7)))))), (15, .sl 1 (v3.2.map cdI.enc)), (16, .v (.int .i64 (v3.2.length : Int))), (17, .v (.int .i64 c5))] [] (by kernel_rfl) ?_
        exact RunS.done rfl Wk.f1
      refine Sem.runS (s1 := ⟨Fr 29 [(5, .v (.int .i64 (wr .i64 (c4 + (wr .i64 (v7 * v7)))))), (15, .sl 1 (v3.2.map cdI.enc)), (16, .v (.int .i64 (v3.2.length : Int))), (17, .v (.int .i64 (wr .i64 (c5 + 1))))], []⟩) ?_ ?_
      · refine RunS.segF (n := 29) e_evening_Strain_ok 2 [(5, .v (.int .i64 (wr .i64 (c4 + (wr .i64 (v7 * v7)))))), (15, .sl 1 (v3.2.map cdI.enc)), (16, .v (.int .i64 (v3.2.length : Int))), (17, .v (.int .i64 (wr .i64 (c5 + 1))))] [] (by kernel_rfl) ?_
        exact RunS.done rfl Wk.f1
      exact SemN.wk (s1 := ⟨Fr 29 [(5, .v (.int .i64 (wr .i64 (c4 + (wr .i64 (v7 * v7)))))), (15, .sl 1 (v3.2.map cdI.enc)), (16, .v (.int .i64 (v3.2.length : Int))), (17, .v (.int .i64 (wr .i64 (c5 + 1))))], []⟩) Wk.f1 (ih (wr .i64 (c4 + (wr .i64 (v7 * v7)))) (wr .i64 (c5 + 1)) h)
    · rw [if_f hb6] at h
      refine Sem.exit ?_
      have hq := Option.some.inj h; subst hq
      exact ⟨rfl, Wk.f1⟩
set_option maxHeartbeats 4000000 in
set_option maxRecDepth 100000 in
theorem evening_Strain_sem (x0 : Int) (x1 : (List (List (List Int)))) (r : Int) (h : evening_Strain x0 x1 = some r) : Sem e_evening_Strain ⟨none, false⟩ cb_evening_Strain ⟨Fr 29 (pairs0 0 (cs_evening_Strain.enc (x0, x1, ()))), []⟩ fun e s' => (e = .normal ∨ e = .ret) ∧ ∃ xs, resA e_evening_Strain.P s'.fr s'.hp Tryd.f28.results.toList = some xs ∧ retA xs = er_evening_Strain r := by
  unfold evening_Strain at h
  refine Sem.wkQ (Sem.wk (s1 := ⟨Fr 29 [(0, .v (.int .i64 x0)), (1, .sl 1 (x1.map (cdL 1 (cdL 1 cdI)).enc))], []⟩) Wk.f1 ?_)
  refine Sem.seq ?_
  refine Sem.runS (s1 := ⟨Fr 29 [(0, .v (.int .i64 x0)), (1, .sl 1 (x1.map (cdL 1 (cdL 1 cdI)).enc))], []⟩) ?_ ?_
  · refine RunS.segF (n := 29) e_evening_Strain_ok 1 [(0, .v (.int .i64 x0)), (1, .sl 1 (x1.map (cdL 1 (cdL 1 cdI)).enc))] [] (by kernel_rfl) ?_
    exact RunS.done rfl Wk.f1
  refine Sem.seq ?_
  refine Sem.seq ?_
  obtain ⟨v1, hv1, h⟩ := Option.bind_eq_some_iff.1 h
  refine Sem.runS (s1 := ⟨Fr 29 [(0, .v (.int .i64 x0)), (1, .sl 1 (x1.map (cdL 1 (cdL 1 cdI)).enc)), (11, .v (.bool (!v1)))], []⟩) ?_ ?_
  · refine RunS.segF (n := 29) e_evening_Strain_ok 2 [(0, .v (.int .i64 x0)), (1, .sl 1 (x1.map (cdL 1 (cdL 1 cdI)).enc)), (8, .v (.int .i64 x0)), (9, .sl 1 (x1.map (cdL 1 (cdL 1 cdI)).enc))] [] (by kernel_rfl) ?_
    refine RunS.call e_evening_Strain_ok (fid := 50) (s := cs_evening_valid) (F := fun a => evening_valid a.1 a.2.1) (er := er_evening_valid) (xs := [.v (.int .i64 x0), .sl 1 (x1.map (cdL 1 (cdL 1 cdI)).enc)]) (a := (x0, x1, ())) rfl (wantedA_none rfl) (by kernel_rfl) (by kernel_rfl) (by kernel_rfl) (by kernel_rfl) (Sns.cons (Sn.enc (c := cdI) (v := x0)) (Sns.cons (Sn.enc (c := (cdL 1 (cdL 1 (cdL 1 cdI)))) (v := x1)) Sns.nil)) (.inl (by kernel_rfl)) hv1 ?_
    refine RunS.segF (n := 29) e_evening_Strain_ok 1 [(0, .v (.int .i64 x0)), (1, .sl 1 (x1.map (cdL 1 (cdL 1 cdI)).enc)), (11, .v (.bool (!v1)))] [] (by kernel_rfl) ?_
    exact RunS.done rfl Wk.f1
  refine Sem.cond (b := (!v1)) (by kernel_rfl) (fun hb2 => ?_) (fun hb2 => ?_)
  · rw [if_pos hb2] at h
    refine Sem.seq ?_
    refine Sem.runS (s1 := ⟨Fr 29 [(4, .v (.int .i64 0))], []⟩) ?_ ?_
    · refine RunS.segF (n := 29) e_evening_Strain_ok 1 [(4, .v (.int .i64 0))] [] (by kernel_rfl) ?_
      exact RunS.done rfl Wk.f1
    refine Sem.ret ?_
    have hq := Option.some.inj h; subst hq
    exact ⟨⟨Fr 29 [(4, .v (.int .i64 0))], []⟩, Wk.f1, .inr rfl, [.v (.int .i64 0)], (by kernel_rfl), (by kernel_rfl)⟩
  · rw [if_f hb2] at h
    refine Sem.skip ?_
    refine Sem.seq ?_
    refine Sem.runS (s1 := ⟨Fr 29 [(0, .v (.int .i64 x0)), (1, .sl 1 (x1.map (cdL 1 (cdL 1 cdI)).enc)), (5, .v (.int .i64 0))], []⟩) ?_ ?_
    · refine RunS.segF (n := 29) e_evening_Strain_ok 1 [(0, .v (.int .i64 x0)), (1, .sl 1 (x1.map (cdL 1 (cdL 1 cdI)).enc)), (5, .v (.int .i64 0))] [] (by kernel_rfl) ?_
      exact RunS.done rfl Wk.f1
    refine Sem.seq ?_
    refine Sem.seq ?_
    obtain ⟨v3, hv3, h⟩ := Option.bind_eq_some_iff.1 h
    refine Sem.runS (s1 := ⟨Fr 29 [(5, .v (.int .i64 0)), (15, .sl 1 (v3.2.map cdI.enc)), (16, .v (.int .i64 (v3.2.length : Int))), (17, .v (.int .i64 0))], []⟩) ?_ ?_
    · refine RunS.segF (n := 29) e_evening_Strain_ok 2 [(5, .v (.int .i64 0)), (12, .v (.int .i64 x0)), (13, .sl 1 (x1.map (cdL 1 (cdL 1 cdI)).enc))] [] (by kernel_rfl) ?_
      refine RunS.call e_evening_Strain_ok (fid := 80) (s := cs_evening_meetings) (F := fun a => evening_meetings a.1 a.2.1) (er := er_evening_meetings) (xs := [.v (.int .i64 x0), .sl 1 (x1.map (cdL 1 (cdL 1 cdI)).enc)]) (a := (x0, x1, ())) rfl (wantedA_none rfl) (by kernel_rfl) (by kernel_rfl) (by kernel_rfl) (by kernel_rfl) (Sns.cons (Sn.enc (c := cdI) (v := x0)) (Sns.cons (Sn.enc (c := (cdL 1 (cdL 1 (cdL 1 cdI)))) (v := x1)) Sns.nil)) (.inl (by kernel_rfl)) hv3 ?_
      refine RunS.segF (n := 29) e_evening_Strain_ok 1 [(5, .v (.int .i64 0)), (15, .sl 1 (v3.2.map cdI.enc))] [] (by kernel_rfl) ?_
      refine RunS.one e_evening_Strain_ok 0 rfl (op_q (wantedA_none rfl) rfl (q_len (a := .sl 1 (v3.2.map cdI.enc)) (by kernel_rfl) (len_sl (el := 3) (by kernel_rfl)))) ?_
      refine RunS.segF (n := 29) e_evening_Strain_ok 1 [(5, .v (.int .i64 0)), (15, .sl 1 (v3.2.map cdI.enc)), (16, .v (.int .i64 (v3.2.length : Int))), (17, .v (.int .i64 0))] [] (by kernel_rfl) ?_
      exact RunS.done rfl Wk.f1
    refine Sem.block ?_
    obtain ⟨r9, hr9, h⟩ := Option.bind_eq_some_iff.1 h
    refine Sem.loop (n := 100000) ?_
    refine Sem.cutN (SemN.wk (s1 := ⟨Fr 29 [(5, .v (.int .i64 0)), (15, .sl 1 (v3.2.map cdI.enc)), (16, .v (.int .i64 (v3.2.length : Int))), (17, .v (.int .i64 0))], []⟩) Wk.f1 (evening_Strain_1_ok v3 _ 0 0 _ hr9)) ?_
    refine Sem.seq ?_
    refine Sem.runS (s1 := ⟨Fr 29 [(4, .v (.int .i64 (wr .i64 (r9.tdiv 2))))], []⟩) ?_ ?_
    · refine RunS.segF (n := 29) e_evening_Strain_ok 3 [(4, .v (.int .i64 (wr .i64 (r9.tdiv 2))))] [] (by kernel_rfl) ?_
      exact RunS.done rfl Wk.f1
    refine Sem.ret ?_
    have hq := Option.some.inj h; subst hq
    exact ⟨⟨Fr 29 [(4, .v (.int .i64 (wr .i64 (r9.tdiv 2))))], []⟩, Wk.f1, .inr rfl, [.v (.int .i64 (wr .i64 (r9.tdiv 2)))], (by kernel_rfl), (by kernel_rfl)⟩
def t_evening_Strain : List AV → Option AV := told cs_evening_Strain (fun a => evening_Strain a.1 a.2.1) er_evening_Strain
theorem x_evening_Strain : XOk 28 t_evening_Strain := by
  refine EnvOk.x (E := e_evening_Strain) (contract_ok e_evening_Strain_ok (fn := Tryd.f28) (c := cb_evening_Strain) ?h1 ?h2 ⟨Tryd.call28⟩ cs_evening_Strain (fun a => evening_Strain a.1 a.2.1) er_evening_Strain (fun a => (by show 2 ≤ 29; decide)) ?h3 ?h4) rfl rfl
  case h1 => kernel_rfl
  case h2 => kernel_rfl
  case h3 => intro b; kernel_rfl
  case h4 => exact fun a b h => evening_Strain_sem a.1 a.2.1 b h
theorem ty2 : Ty Tryd.prog 2 (.int .i64) 1 8 (.int .i64 0) := ⟨by kernel_rfl, by kernel_rfl⟩
theorem ty3 : Ty Tryd.prog 3 (.int .i64) 1 8 (.int .i64 0) := ⟨by kernel_rfl, by kernel_rfl⟩
noncomputable def fs7 : Array Field := match Tryd.prog.underlying 7 with | some (.struct fs) => fs | _ => #[]
theorem ty31 : Ty Tryd.prog 31 (.slice 3) 1 24 (.slice none 0 0) := ⟨by kernel_rfl, by kernel_rfl⟩
noncomputable def fs94 : Array Field := match Tryd.prog.underlying 94 with | some (.struct fs) => fs | _ => #[]
theorem ty94 : Ty Tryd.prog 94 (.struct fs94) 2 32 (.agg #[.int .i64 0, .slice none 0 0]) := ⟨by kernel_rfl, by kernel_rfl⟩
end Go.Proofs.YtcmgmkepodbpkaaDoor
namespace Go.Proofs.YtcmgmkepodbpkaaDoor
/-! ## Fields -/
theorem mul_bd {a b A B : Int} (h0 : 0 ≤ a) (h1 : a ≤ A) (h2 : 0 ≤ b) (h3 : b ≤ B) : 0 ≤ a * b ∧ a * b ≤ A * B :=
  ⟨Int.mul_nonneg h0 h2, Int.mul_le_mul h1 h3 h2 (by omega)⟩
/-! ## Products -/
/-! ## The reference's fields -/
section guards
variable {P : Program} {Q : Exit → Act → World → Prop} {F : Frm} {l : List (Nat × Value)} {w : World} {ops : Array Oper} {rest : List Oper}
end guards
section rules
variable {P : Program} {Q : Exit → Act → World → Prop} {F : Frm} {l : List (Nat × Value)} {w : World} {ops : Array Oper} {rest : List Oper}
variable {X : List Oper → Frm → List (Nat × Value) → World → Prop} [inst : Runs P X]
variable {d : Nat} {ty t T e : TypeId} {pos : String} {af : Array Edge} {x y : Operand} {ds dT : TypeDesc} {sz by_ sT bT : Nat} {z zT : Value}
end rules
set_option linter.unusedSimpArgs false
set_option linter.unusedVariables false
set_option linter.unusedSimpArgs false
set_option linter.unusedVariables false
set_option linter.unusedSimpArgs false
set_option linter.unusedVariables false
set_option maxRecDepth 100000 in
theorem atZ_ok (n x y : Int) (a0 : Addr) (L c : Nat) (w : World) (hn : 0 ≤ n ∧ n ≤ 64) (hx : 0 ≤ x ∧ x < n) (hy : 0 ≤ y ∧ y < n) (hl : x * n + y < (L : Int)) : Ret Tryd.prog 73 #[.agg #[.int .i64 n, .slice (some a0) L c], .int .i64 x, .int .i64 y] w fun v w' => w.grownBy w' none ∧ v = .pointer (some (Addr.add a0 ((x * n + y).toNat * 1))) := by
  refine ret_in Tryd.func73 rfl rfl rfl ?_
  have pw := pu_refl w
  have h1 := mul_bd hx.1 (show x ≤ n - 1 by omega) hn.1 (Int.le_refl n)
  rw [Int.sub_mul, Int.one_mul] at h1
  have h2 := mul_bd hn.1 hn.2 hn.1 hn.2
  refine wc_seq ?_
  refine wc_region ?_
  refine wl_boxG (cs := [.int .i64 (n), .slice (some a0) L c]) rfl rfl ?_
  intro w2 g1 hg3 hs4 hb5 hn6
  have pw := pu_trans pw hn6
  refine wl_v (st_assign (v := .pointer none) rfl) rfl rfl rfl ?_
  refine wl_nil ?_
  refine wq_then ?_
  refine wc_seq ?_
  refine wc_region ?_
  refine wl_v (st_fieldAddr ty94 (ft := 31) (off := 1) (by kernel_rfl) ty31 rfl) rfl rfl rfl ?_
  refine wl_v (st_load (v := .slice (some a0) L c) ty31 rfl rfl (Bk.cell hb5 (i := 1) rfl)) rfl rfl rfl ?_
  refine wl_v (st_move (v := .int .i64 (x)) rfl) rfl rfl rfl ?_
  refine wl_v (st_fieldAddr ty94 (ft := 3) (off := 0) (by kernel_rfl) ty3 rfl) rfl rfl rfl ?_
  refine wl_v (st_load (v := .int .i64 (n)) ty3 rfl rfl (Bk.cell hb5 (i := 0) rfl)) rfl rfl rfl ?_
  refine wl_v (st_mul rfl rfl (by omega) (by omega)) rfl rfl rfl ?_
  refine wl_v (st_move (v := .int .i64 (y)) rfl) rfl rfl rfl ?_
  refine wl_v (st_add rfl rfl (by omega) (by omega)) rfl rfl rfl ?_
  refine wl_v (st_indexAddr ((x * n) + y).toNat ty31 ty3 rfl rfl (by omega) (by omega)) rfl rfl rfl ?_
  refine wl_v (st_assign (v := .pointer (some (Addr.add a0 (((x * n) + y).toNat * 1)))) rfl) rfl rfl rfl ?_
  refine wl_nil ?_
  refine wq_then ?_
  refine wc_ret ?_
  refine wq_ret1 (v := .pointer (some (Addr.add a0 (((x * n) + y).toNat * 1)))) rfl rfl rfl ?_
  exact ⟨pw, rfl⟩
end Go.Proofs.YtcmgmkepodbpkaaDoor
