/- Lemmas for the proof. -/
import Derived.Test.YtcmgmkepodbpkaaDoorEveningRelabelsM1
import Derived.Test.YtcmgmkepodbpkaaDoorEveningRelabelsM2
import Derived.Test.YtcmgmkepodbpkaaDoorEveningRelabelsM3
namespace Go.Proofs.YtcmgmkepodbpkaaDoor
open Go.RowKit
/- trestle/trestlelaw09.Made -/
noncomputable def e_law09_Made : Env := (E0.withX 35 t_law09_Sizes)
theorem e_law09_Made_ok : EnvOk e_law09_Made := (EnvOk.withX E0_ok x_law09_Sizes.1 x_law09_Sizes.2)
noncomputable def cb_law09_Made : Code := codeOf Tryd.f25
def law09_Made_1 (x1 : (List (List (Int × Int)))) (v1 : (List Int) × Int) : Nat → (List Int) → Int → Option (((List Int)))
  | 0, _, _ => none
  | f + 1, c3, c4 =>
    if (decide (c4 < ((List.replicate v1.2.toNat (0 : Int)).length : Int))) = true then
    (idx c3 c4).bind fun _v6 =>
    law09_Made_1 x1 v1 f (c3.set c4.toNat c4) (wr .i64 (c4 + 1))
    else
    some c3
def law09_Made_3 (x1 : (List (List (Int × Int)))) (v1 : (List Int) × Int) (c12 : Int) (v14 : (List (Int × Int))) : Nat → (List Int) → (List (List (List Int))) → Int → Option (((List Int) × (List (List (List Int)))))
  | 0, _, _, _ => none
  | f + 1, c16, c17, c18 =>
    if (decide (c18 < (((v14.take (mnI (v14.length : Int) 20).toNat).drop (0 : Int).toNat).length : Int))) = true then
    (idx ((v14.take (mnI (v14.length : Int) 20).toNat).drop (0 : Int).toNat) c18).bind fun v20 =>
    if v1.2 = (0 : Int) then none else
    if v1.2 = (0 : Int) then none else
    (idx c16 ((wr .i64 v20.2).tmod v1.2)).bind fun v23 =>
    (idx c16 ((wr .i64 v20.1).tmod v1.2)).bind fun v24 =>
    (idx c16 ((wr .i64 v20.1).tmod v1.2)).bind fun _v25 =>
    (idx (c16.set (((wr .i64 v20.1).tmod v1.2).toNat) v23) ((wr .i64 v20.2).tmod v1.2)).bind fun _v26 =>
    law09_Made_3 x1 v1 c12 v14 f ((c16.set (((wr .i64 v20.1).tmod v1.2).toNat) v23).set (((wr .i64 v20.2).tmod v1.2).toNat) v24) c17 (wr .i64 (c18 + 1))
    else
    some (c16, c17)
def law09_Made_4 (x1 : (List (List (Int × Int)))) (v1 : (List Int) × Int) (c12 : Int) (r29 : (List Int) × (List (List (List Int)))) : Nat → (List (List Int)) → Int → Int → Option (((List (List Int))))
  | 0, _, _, _ => none
  | f + 1, c30, c31, c32 =>
    if (decide (c32 < (v1.1.length : Int))) = true then
    (idx v1.1 c32).bind fun v34 =>
    if (partOk c31 (wr .i64 (c31 + v34)) r29.1.length) = true then
    if (capOk 8 ((r29.1.take (wr .i64 (c31 + v34)).toNat).drop c31.toNat).length) = true then
    if (capOk 24 (c30.length + 1)) = true then
    law09_Made_4 x1 v1 c12 r29 f (c30 ++ [((r29.1.take (wr .i64 (c31 + v34)).toNat).drop c31.toNat)]) (wr .i64 (c31 + v34)) (wr .i64 (c32 + 1))
    else none
    else none
    else none
    else
    some c30
def law09_Made_2 (x1 : (List (List (Int × Int)))) (v1 : (List Int) × Int) : Nat → (List Int) → (List (List (List Int))) → Int → Option (((List (List (List Int)))))
  | 0, _, _, _ => none
  | f + 1, c10, c11, c12 =>
    if (decide (c12 < (((x1.take (mnI (x1.length : Int) 10).toNat).drop (0 : Int).toNat).length : Int))) = true then
    (idx ((x1.take (mnI (x1.length : Int) 10).toNat).drop (0 : Int).toNat) c12).bind fun v14 =>
    if (cutOk 0 (mnI (v14.length : Int) 20) v14.length) = true then
    (law09_Made_3 x1 v1 c12 v14 100000 c10 c11 0).bind fun r29 =>
    (law09_Made_4 x1 v1 c12 r29 100000 [] 0 0).bind fun r39 =>
    if (capOk 24 (r29.2.length + 1)) = true then
    law09_Made_2 x1 v1 f r29.1 (r29.2 ++ [r39]) (wr .i64 (c12 + 1))
    else none
    else none
    else
    some c11
def law09_Made (x0 : (List Int)) (x1 : (List (List (Int × Int)))) : Option ((List (List (List Int))) × (List Int) × Int) :=
  (law09_Sizes x0).bind fun v1 =>
  if (mkOk 8 v1.2) = true then
  (law09_Made_1 x1 v1 100000 (List.replicate v1.2.toNat (0 : Int)) 0).bind fun r8 =>
  if (cutOk 0 (mnI (x1.length : Int) 10) x1.length) = true then
  (law09_Made_2 x1 v1 100000 r8 [] 0).bind fun r42 =>
  some (r42, v1.1, v1.2)
  else none
  else none
def cs_law09_Made : Cs ((List Int) × (List (List (Int × Int))) × Unit) := (csC (cdL 1 (cdK .u8)) (csC (cdL 1 (cdL 2 (cdG2 (cdK .u8) (cdK .u8) (fun _ => rfl) (fun _ => rfl)))) csN))
def er_law09_Made (r : (List (List (List Int))) × (List Int) × Int) : AV := .tp [(cdL 1 (cdL 1 (cdL 1 cdI))).enc r.1, (cdL 1 cdI).enc r.2.1, cdI.enc r.2.2]
set_option maxHeartbeats 4000000 in
set_option maxRecDepth 100000 in
theorem law09_Made_1_ok (x1 : (List (List (Int × Int)))) (v1 : (List Int) × Int) : ∀ (f : Nat) (c3 : (List Int)) (c4 : Int) (r : ((List Int))), law09_Made_1 x1 v1 f c3 c4 = some r → SemN e_law09_Made ⟨none, false⟩ (pc cb_law09_Made [1, 1, 1, 0, 1, 0, 0]) f ⟨Fr 112 [(1, .sl 1 (x1.map (cdL 2 (cdG2 (cdK .u8) (cdK .u8) (fun _ => rfl) (fun _ => rfl))).enc)), (7, .sl 1 (v1.1.map cdI.enc)), (8, .v (.int .i64 v1.2)), (9, .rf 0 0 c3.length c3.length), (30, .v (.int .i64 ((List.replicate v1.2.toNat (0 : Int)).length : Int))), (31, .v (.int .i64 c4))], [some ⟨1, 3, (c3.map cdI.enc), false⟩]⟩ (fun e s => e = (.exit 0) ∧ Wk e_law09_Made s ⟨Fr 112 [(1, .sl 1 (x1.map (cdL 2 (cdG2 (cdK .u8) (cdK .u8) (fun _ => rfl) (fun _ => rfl))).enc)), (7, .sl 1 (v1.1.map cdI.enc)), (8, .v (.int .i64 v1.2)), (9, .rf 0 0 r.length r.length)], [some ⟨1, 3, (r.map cdI.enc), false⟩]⟩) := by
  intro f
  induction f with
  | zero => intro c3 c4 r h; cases h
  | succ f ih0 =>
    intro c3 c4 r h
    have ih := fun (c3 : (List Int)) (c4 : Int) => ih0 c3 c4 r
    unfold law09_Made_1 at h
    refine SemN.succ ?_
    refine Sem.seq ?_
    refine Sem.runS (s1 := ⟨Fr 112 [(1, .sl 1 (x1.map (cdL 2 (cdG2 (cdK .u8) (cdK .u8) (fun _ => rfl) (fun _ => rfl))).enc)), (7, .sl 1 (v1.1.map cdI.enc)), (8, .v (.int .i64 v1.2)), (9, .rf 0 0 c3.length c3.length), (30, .v (.int .i64 ((List.replicate v1.2.toNat (0 : Int)).length : Int))), (31, .v (.int .i64 c4)), (32, .v (.bool (decide (c4 < ((List.replicate v1.2.toNat (0 : Int)).length : Int)))))], [some ⟨1, 3, (c3.map cdI.enc), false⟩]⟩) ?_ ?_
    · refine RunS.segF (n := 112) e_law09_Made_ok 1 [(1, .sl 1 (x1.map (cdL 2 (cdG2 (cdK .u8) (cdK .u8) (fun _ => rfl) (fun _ => rfl))).enc)), (7, .sl 1 (v1.1.map cdI.enc)), (8, .v (.int .i64 v1.2)), (9, .rf 0 0 c3.length c3.length), (30, .v (.int .i64 ((List.replicate v1.2.toNat (0 : Int)).length : Int))), (31, .v (.int .i64 c4)), (32, .v (.bool (decide (c4 < ((List.replicate v1.2.toNat (0 : Int)).length : Int)))))] [some ⟨1, 3, (c3.map cdI.enc), false⟩] (by kernel_rfl) ?_
      exact RunS.done rfl (Wk.s3 [0] ⟨⟨_, rfl, bu_own⟩, trivial⟩ ⟨lv, lv, lv, lv, lv, lv, lv, trivial⟩)
    refine Sem.seq ?_
    refine Sem.cond (b := (decide (c4 < ((List.replicate v1.2.toNat (0 : Int)).length : Int)))) (by kernel_rfl) (fun hb5 => ?_) (fun hb5 => ?_)
    · rw [if_pos hb5] at h
      refine Sem.skip ?_
      refine Sem.seq ?_
      refine Sem.block ?_
      refine Sem.seq ?_
      refine Sem.runS (s1 := ⟨Fr 112 [(1, .sl 1 (x1.map (cdL 2 (cdG2 (cdK .u8) (cdK .u8) (fun _ => rfl) (fun _ => rfl))).enc)), (7, .sl 1 (v1.1.map cdI.enc)), (8, .v (.int .i64 v1.2)), (9, .rf 0 0 c3.length c3.length), (10, .v (.int .i64 c4)), (30, .v (.int .i64 ((List.replicate v1.2.toNat (0 : Int)).length : Int))), (31, .v (.int .i64 c4))], [some ⟨1, 3, (c3.map cdI.enc), false⟩]⟩) ?_ ?_
      · refine RunS.segF (n := 112) e_law09_Made_ok 2 [(1, .sl 1 (x1.map (cdL 2 (cdG2 (cdK .u8) (cdK .u8) (fun _ => rfl) (fun _ => rfl))).enc)), (7, .sl 1 (v1.1.map cdI.enc)), (8, .v (.int .i64 v1.2)), (9, .rf 0 0 c3.length c3.length), (10, .v (.int .i64 c4)), (30, .v (.int .i64 ((List.replicate v1.2.toNat (0 : Int)).length : Int))), (31, .v (.int .i64 c4))] [some ⟨1, 3, (c3.map cdI.enc), false⟩] (by kernel_rfl) ?_
        exact RunS.done rfl (Wk.s3 [0] ⟨⟨_, rfl, bu_own⟩, trivial⟩ ⟨lv, lv, lv, lv, lv, lv, lv, trivial⟩)
      obtain ⟨v6, hv6, h⟩ := Option.bind_eq_some_iff.1 h
      refine Sem.runS (s1 := ⟨Fr 112 [(1, .sl 1 (x1.map (cdL 2 (cdG2 (cdK .u8) (cdK .u8) (fun _ => rfl) (fun _ => rfl))).enc)), (7, .sl 1 (v1.1.map cdI.enc)), (8, .v (.int .i64 v1.2)), (9, .rf 0 0 (c3.set c4.toNat c4).length (c3.set c4.toNat c4).length), (30, .v (.int .i64 ((List.replicate v1.2.toNat (0 : Int)).length : Int))), (31, .v (.int .i64 c4))], [some ⟨1, 3, ((c3.set c4.toNat c4).map cdI.enc), false⟩]⟩) ?_ ?_
      · refine RunS.segF (n := 112) e_law09_Made_ok 3 [(1, .sl 1 (x1.map (cdL 2 (cdG2 (cdK .u8) (cdK .u8) (fun _ => rfl) (fun _ => rfl))).enc)), (7, .sl 1 (v1.1.map cdI.enc)), (8, .v (.int .i64 v1.2)), (9, .rf 0 0 c3.length c3.length), (30, .v (.int .i64 ((List.replicate v1.2.toNat (0 : Int)).length : Int))), (31, .v (.int .i64 c4)), (34, .rf 0 0 c3.length c3.length), (35, .v (.int .i64 c4)), (36, .v (.int .i64 c4))] [some ⟨1, 3, (c3.map cdI.enc), false⟩] (by kernel_rfl) ?_
        refine RunS.one e_law09_Made_ok 0 rfl (op_q (wantedA_none rfl) rfl (q_indexAddr (a := .rf 0 0 c3.length c3.length) (b := .v (.int .i64 c4)) (by kernel_rfl) (by kernel_rfl) (ix_rl (e := cdI.enc) (xs := c3) (t' := 3) (el := 3) (k := 1) (ki := .i64) (by kernel_rfl) (by kernel_rfl) (by kernel_rfl) hv6))) ?_
        refine RunS.store e_law09_Made_ok (y := .pt 0 c4.toNat 0) (z := .v (.int .i64 c4)) rfl (wantedA_none rfl) (by kernel_rfl) (by kernel_rfl) (st_blk (t' := 3) (k := 1) (e := cdI.enc) (xs := c3) (v := v6) (v' := c4) (by kernel_rfl) (idx_at hv6).2 (by kernel_rfl) (by kernel_rfl) (by kernel_rfl)) ?_
        exact RunS.done rfl (Wk.s3 [0] ⟨⟨_, rfl, bu_own⟩, trivial⟩ ⟨lv, lv, lv, lu_rl (b' := 0) (n := c3.length) (by kernel_rfl) (by simp) (by kernel_rfl), lv, lv, trivial⟩)
      refine Sem.runS (s1 := ⟨Fr 112 [(1, .sl 1 (x1.map (cdL 2 (cdG2 (cdK .u8) (cdK .u8) (fun _ => rfl) (fun _ => rfl))).enc)), (7, .sl 1 (v1.1.map cdI.enc)), (8, .v (.int .i64 v1.2)), (9, .rf 0 0 (c3.set c4.toNat c4).length (c3.set c4.toNat c4).length), (30, .v (.int .i64 ((List.replicate v1.2.toNat (0 : Int)).length : Int))), (31, .v (.int .i64 (wr .i64 (c4 + 1))))], [some ⟨1, 3, ((c3.set c4.toNat c4).map cdI.enc), false⟩]⟩) ?_ ?_
      · refine RunS.segF (n := 112) e_law09_Made_ok 2 [(1, .sl 1 (x1.map (cdL 2 (cdG2 (cdK .u8) (cdK .u8) (fun _ => rfl) (fun _ => rfl))).enc)), (7, .sl 1 (v1.1.map cdI.enc)), (8, .v (.int .i64 v1.2)), (9, .rf 0 0 (c3.set c4.toNat c4).length (c3.set c4.toNat c4).length), (30, .v (.int .i64 ((List.replicate v1.2.toNat (0 : Int)).length : Int))), (31, .v (.int .i64 (wr .i64 (c4 + 1))))] [some ⟨1, 3, ((c3.set c4.toNat c4).map cdI.enc), false⟩] (by kernel_rfl) ?_
        exact RunS.done rfl (Wk.s3 [0] ⟨⟨_, rfl, bu_own⟩, trivial⟩ ⟨lv, lv, lv, lv, lv, lv, trivial⟩)
      exact SemN.wk (s1 := ⟨Fr 112 [(1, .sl 1 (x1.map (cdL 2 (cdG2 (cdK .u8) (cdK .u8) (fun _ => rfl) (fun _ => rfl))).enc)), (7, .sl 1 (v1.1.map cdI.enc)), (8, .v (.int .i64 v1.2)), (9, .rf 0 0 (c3.set c4.toNat c4).length (c3.set c4.toNat c4).length), (30, .v (.int .i64 ((List.replicate v1.2.toNat (0 : Int)).length : Int))), (31, .v (.int .i64 (wr .i64 (c4 + 1))))], [some ⟨1, 3, ((c3.set c4.toNat c4).map cdI.enc), false⟩]⟩) (Wk.s3 [0] ⟨⟨_, rfl, bu_own⟩, trivial⟩ ⟨lv, lv, lv, lv, lv, lv, trivial⟩) (ih (c3.set c4.toNat c4) (wr .i64 (c4 + 1)) h)
    · rw [if_f hb5] at h
      refine Sem.exit ?_
      have hq := Option.some.inj h; subst hq
      exact ⟨rfl, (Wk.s3 [0] ⟨⟨_, rfl, bu_own⟩, trivial⟩ ⟨lv, lv, lv, lv, trivial⟩)⟩
set_option maxHeartbeats 4000000 in
set_option maxRecDepth 100000 in
theorem law09_Made_3_ok (x1 : (List (List (Int × Int)))) (v1 : (List Int) × Int) (c12 : Int) (v14 : (List (Int × Int))) : ∀ (f : Nat) (c16 : (List Int)) (c17 : (List (List (List Int)))) (c18 : Int) (r : ((List Int) × (List (List (List Int))))), law09_Made_3 x1 v1 c12 v14 f c16 c17 c18 = some r → SemN e_law09_Made ⟨none, false⟩ (pc cb_law09_Made [1, 1, 1, 1, 1, 0, 1, 0, 0, 1, 1, 0, 0, 1, 0, 1, 0, 0]) f ⟨Fr 112 [(7, .sl 1 (v1.1.map cdI.enc)), (8, .v (.int .i64 v1.2)), (9, .rf 0 0 c16.length c16.length), (11, hd 1 (c17.map (cdL 1 (cdL 1 cdI)).enc)), (43, .sl 1 (((x1.take (mnI (x1.length : Int) 10).toNat).drop (0 : Int).toNat).map (cdL 2 (cdG2 (cdK .u8) (cdK .u8) (fun _ => rfl) (fun _ => rfl))).enc)), (44, .v (.int .i64 (((x1.take (mnI (x1.length : Int) 10).toNat).drop (0 : Int).toNat).length : Int))), (45, .v (.int .i64 c12)), (53, .sl 2 (((v14.take (mnI (v14.length : Int) 20).toNat).drop (0 : Int).toNat).map (cdG2 (cdK .u8) (cdK .u8) (fun _ => rfl) (fun _ => rfl)).enc)), (54, .v (.int .i64 (((v14.take (mnI (v14.length : Int) 20).toNat).drop (0 : Int).toNat).length : Int))), (55, .v (.int .i64 c18))], [some ⟨1, 3, (c16.map cdI.enc), false⟩, mk 1 50 (c17.map (cdL 1 (cdL 1 cdI)).enc)]⟩ (fun e s => e = (.exit 4) ∧ Wk e_law09_Made s ⟨Fr 112 [(7, .sl 1 (v1.1.map cdI.enc)), (8, .v (.int .i64 v1.2)), (9, .rf 0 0 r.1.length r.1.length), (11, hd 1 (r.2.map (cdL 1 (cdL 1 cdI)).enc)), (43, .sl 1 (((x1.take (mnI (x1.length : Int) 10).toNat).drop (0 : Int).toNat).map (cdL 2 (cdG2 (cdK .u8) (cdK .u8) (fun _ => rfl) (fun _ => rfl))).enc)), (44, .v (.int .i64 (((x1.take (mnI (x1.length : Int) 10).toNat).drop (0 : Int).toNat).length : Int))), (45, .v (.int .i64 c12))], [some ⟨1, 3, (r.1.map cdI.enc), false⟩, mk 1 50 (r.2.map (cdL 1 (cdL 1 cdI)).enc)]⟩) := by
  intro f
  induction f with
  | zero => intro c16 c17 c18 r h; cases h
  | succ f ih0 =>
    intro c16 c17 c18 r h
    have ih := fun (c16 : (List Int)) (c17 : (List (List (List Int)))) (c18 : Int) => ih0 c16 c17 c18 r
    unfold law09_Made_3 at h
    refine SemN.succ ?_
    refine Sem.seq ?_
    refine Sem.runS (s1 := ⟨Fr 112 [(7, .sl 1 (v1.1.map cdI.enc)), (8, .v (.int .i64 v1.2)), (9, .rf 0 0 c16.length c16.length), (11, hd 1 (c17.map (cdL 1 (cdL 1 cdI)).enc)), (43, .sl 1 (((x1.take (mnI (x1.length : Int) 10).toNat).drop (0 : Int).toNat).map (cdL 2 (cdG2 (cdK .u8) (cdK .u8) (fun _ => rfl) (fun _ => rfl))).enc)), (44, .v (.int .i64 (((x1.take (mnI (x1.length : Int) 10).toNat).drop (0 : Int).toNat).length : Int))), (45, .v (.int .i64 c12)), (53, .sl 2 (((v14.take (mnI (v14.length : Int) 20).toNat).drop (0 : Int).toNat).map (cdG2 (cdK .u8) (cdK .u8) (fun _ => rfl) (fun _ => rfl)).enc)), (54, .v (.int .i64 (((v14.take (mnI (v14.length : Int) 20).toNat).drop (0 : Int).toNat).length : Int))), (55, .v (.int .i64 c18)), (56, .v (.bool (decide (c18 < (((v14.take (mnI (v14.length : Int) 20).toNat).drop (0 : Int).toNat).length : Int)))))], [some ⟨1, 3, (c16.map cdI.enc), false⟩, mk 1 50 (c17.map (cdL 1 (cdL 1 cdI)).enc)]⟩) ?_ ?_
    · refine RunS.segF (n := 112) e_law09_Made_ok 1 [(7, .sl 1 (v1.1.map cdI.enc)), (8, .v (.int .i64 v1.2)), (9, .rf 0 0 c16.length c16.length), (11, hd 1 (c17.map (cdL 1 (cdL 1 cdI)).enc)), (43, .sl 1 (((x1.take (mnI (x1.length : Int) 10).toNat).drop (0 : Int).toNat).map (cdL 2 (cdG2 (cdK .u8) (cdK .u8) (fun _ => rfl) (fun _ => rfl))).enc)), (44, .v (.int .i64 (((x1.take (mnI (x1.length : Int) 10).toNat).drop (0 : Int).toNat).length : Int))), (45, .v (.int .i64 c12)), (53, .sl 2 (((v14.take (mnI (v14.length : Int) 20).toNat).drop (0 : Int).toNat).map (cdG2 (cdK .u8) (cdK .u8) (fun _ => rfl) (fun _ => rfl)).enc)), (54, .v (.int .i64 (((v14.take (mnI (v14.length : Int) 20).toNat).drop (0 : Int).toNat).length : Int))), (55, .v (.int .i64 c18)), (56, .v (.bool (decide (c18 < (((v14.take (mnI (v14.length : Int) 20).toNat).drop (0 : Int).toNat).length : Int)))))] [some ⟨1, 3, (c16.map cdI.enc), false⟩, mk 1 50 (c17.map (cdL 1 (cdL 1 cdI)).enc)] (by kernel_rfl) ?_
      exact RunS.done rfl (Wk.s3 [0, 1] ⟨⟨_, rfl, bu_own⟩, ⟨_, rfl, bu_mk⟩, trivial⟩ ⟨lv, lv, lv, lu_hd (b' := 1) (by kernel_rfl) (by kernel_rfl), lv, lv, lv, lv, lv, lv, lv, trivial⟩)
    refine Sem.seq ?_
    refine Sem.cond (b := (decide (c18 < (((v14.take (mnI (v14.length : Int) 20).toNat).drop (0 : Int).toNat).length : Int)))) (by kernel_rfl) (fun hb19 => ?_) (fun hb19 => ?_)
    · rw [if_pos hb19] at h
      refine Sem.skip ?_
      refine Sem.seq ?_
      refine Sem.block ?_
      refine Sem.seq ?_
      obtain ⟨v20, hv20, h⟩ := Option.bind_eq_some_iff.1 h
      refine Sem.runS (s1 := ⟨Fr 112 [(7, .sl 1 (v1.1.map cdI.enc)), (8, .v (.int .i64 v1.2)), (9, .rf 0 0 c16.length c16.length), (11, hd 1 (c17.map (cdL 1 (cdL 1 cdI)).enc)), (15, .pt 2 0 0), (43, .sl 1 (((x1.take (mnI (x1.length : Int) 10).toNat).drop (0 : Int).toNat).map (cdL 2 (cdG2 (cdK .u8) (cdK .u8) (fun _ => rfl) (fun _ => rfl))).enc)), (44, .v (.int .i64 (((x1.take (mnI (x1.length : Int) 10).toNat).drop (0 : Int).toNat).length : Int))), (45, .v (.int .i64 c12)), (53, .sl 2 (((v14.take (mnI (v14.length : Int) 20).toNat).drop (0 : Int).toNat).map (cdG2 (cdK .u8) (cdK .u8) (fun _ => rfl) (fun _ => rfl)).enc)), (54, .v (.int .i64 (((v14.take (mnI (v14.length : Int) 20).toNat).drop (0 : Int).toNat).length : Int))), (55, .v (.int .i64 c18))], [some ⟨1, 3, (c16.map cdI.enc), false⟩, mk 1 50 (c17.map (cdL 1 (cdL 1 cdI)).enc), some ⟨2, 53, [.ag [.v (.int .u8 v20.1), .v (.int .u8 v20.2)]], false⟩]⟩) ?_ ?_
      · refine RunS.one e_law09_Made_ok 0 rfl (op_q (wantedA_none rfl) rfl (q_indexAddr (a := .sl 2 (((v14.take (mnI (v14.length : Int) 20).toNat).drop (0 : Int).toNat).map (cdG2 (cdK .u8) (cdK .u8) (fun _ => rfl) (fun _ => rfl)).enc)) (b := .v (.int .i64 c18)) (by kernel_rfl) (by kernel_rfl) (ix_sl (e := (cdG2 (cdK .u8) (cdK .u8) (fun _ => rfl) (fun _ => rfl)).enc) (el := 53) (k := 2) (ki := .i64) (by kernel_rfl) (by kernel_rfl) hv20))) ?_
        refine RunS.segF (n := 112) e_law09_Made_ok 3 [(7, .sl 1 (v1.1.map cdI.enc)), (8, .v (.int .i64 v1.2)), (9, .rf 0 0 c16.length c16.length), (11, hd 1 (c17.map (cdL 1 (cdL 1 cdI)).enc)), (15, .pt 2 0 0), (43, .sl 1 (((x1.take (mnI (x1.length : Int) 10).toNat).drop (0 : Int).toNat).map (cdL 2 (cdG2 (cdK .u8) (cdK .u8) (fun _ => rfl) (fun _ => rfl))).enc)), (44, .v (.int .i64 (((x1.take (mnI (x1.length : Int) 10).toNat).drop (0 : Int).toNat).length : Int))), (45, .v (.int .i64 c12)), (53, .sl 2 (((v14.take (mnI (v14.length : Int) 20).toNat).drop (0 : Int).toNat).map (cdG2 (cdK .u8) (cdK .u8) (fun _ => rfl) (fun _ => rfl)).enc)), (54, .v (.int .i64 (((v14.take (mnI (v14.length : Int) 20).toNat).drop (0 : Int).toNat).length : Int))), (55, .v (.int .i64 c18))] [some ⟨1, 3, (c16.map cdI.enc), false⟩, mk 1 50 (c17.map (cdL 1 (cdL 1 cdI)).enc), some ⟨2, 53, [.ag [.v (.int .u8 v20.1), .v (.int .u8 v20.2)]], false⟩] (by kernel_rfl) ?_
        exact RunS.done rfl (Wk.s3 [0, 1, 2] ⟨⟨_, rfl, bu_own⟩, ⟨_, rfl, bu_mk⟩, ⟨_, rfl, bu_d⟩, trivial⟩ ⟨lv, lv, lv, lu_hd (b' := 1) (by kernel_rfl) (by kernel_rfl), lv, lv, lv, lv, lv, lv, lv, trivial⟩)
      refine Sem.seq ?_
      by_cases hz21 : v1.2 = (0 : Int)
      · rw [if_pos hz21] at h; cases h
      rw [if_neg hz21] at h
      by_cases hz22 : v1.2 = (0 : Int)
      · rw [if_pos hz22] at h; cases h
      rw [if_neg hz22] at h
      refine Sem.runDS e_law09_Made_ok (s1 := ⟨Fr 112 [(7, .sl 1 (v1.1.map cdI.enc)), (8, .v (.int .i64 v1.2)), (9, .rf 0 0 c16.length c16.length), (11, hd 1 (c17.map (cdL 1 (cdL 1 cdI)).enc)), (16, .v (.int .i64 ((wr .i64 v20.1).tmod v1.2))), (17, .v (.int .i64 ((wr .i64 v20.2).tmod v1.2))), (43, .sl 1 (((x1.take (mnI (x1.length : Int) 10).toNat).drop (0 : Int).toNat).map (cdL 2 (cdG2 (cdK .u8) (cdK .u8) (fun _ => rfl) (fun _ => rfl))).enc)), (44, .v (.int .i64 (((x1.take (mnI (x1.length : Int) 10).toNat).drop (0 : Int).toNat).length : Int))), (45, .v (.int .i64 c12)), (53, .sl 2 (((v14.take (mnI (v14.length : Int) 20).toNat).drop (0 : Int).toNat).map (cdG2 (cdK .u8) (cdK .u8) (fun _ => rfl) (fun _ => rfl)).enc)), (54, .v (.int .i64 (((v14.take (mnI (v14.length : Int) 20).toNat).drop (0 : Int).toNat).length : Int))), (55, .v (.int .i64 c18))], [some ⟨1, 3, (c16.map cdI.enc), false⟩, mk 1 50 (c17.map (cdL 1 (cdL 1 cdI)).enc)]⟩) (by kernel_rfl) ?_ ?_
      · refine RunDS.segF (n := 112) e_law09_Made_ok 4 [(7, .sl 1 (v1.1.map cdI.enc)), (8, .v (.int .i64 v1.2)), (9, .rf 0 0 c16.length c16.length), (11, hd 1 (c17.map (cdL 1 (cdL 1 cdI)).enc)), (15, .pt 2 0 0), (43, .sl 1 (((x1.take (mnI (x1.length : Int) 10).toNat).drop (0 : Int).toNat).map (cdL 2 (cdG2 (cdK .u8) (cdK .u8) (fun _ => rfl) (fun _ => rfl))).enc)), (44, .v (.int .i64 (((x1.take (mnI (x1.length : Int) 10).toNat).drop (0 : Int).toNat).length : Int))), (45, .v (.int .i64 c12)), (53, .sl 2 (((v14.take (mnI (v14.length : Int) 20).toNat).drop (0 : Int).toNat).map (cdG2 (cdK .u8) (cdK .u8) (fun _ => rfl) (fun _ => rfl)).enc)), (54, .v (.int .i64 (((v14.take (mnI (v14.length : Int) 20).toNat).drop (0 : Int).toNat).length : Int))), (55, .v (.int .i64 c18)), (61, .v (.int .i64 (wr .i64 v20.1))), (62, .v (.int .i64 v1.2))] [some ⟨1, 3, (c16.map cdI.enc), false⟩, mk 1 50 (c17.map (cdL 1 (cdL 1 cdI)).enc), some ⟨2, 53, [.ag [.v (.int .u8 v20.1), .v (.int .u8 v20.2)]], false⟩] (by kernel_rfl) (by kernel_rfl) ?_
        refine RunDS.one e_law09_Made_ok rfl (by kernel_rfl) (opd_q (by kernel_rfl) (wantedA_none rfl) rfl (q_bin (a := .v (.int .i64 (wr .i64 v20.1))) (b := .v (.int .i64 v1.2)) (by kernel_rfl) (by kernel_rfl) (bin_rem hz21)) (by kernel_rfl)) ?_
        refine RunDS.segF (n := 112) e_law09_Made_ok 4 [(7, .sl 1 (v1.1.map cdI.enc)), (8, .v (.int .i64 v1.2)), (9, .rf 0 0 c16.length c16.length), (11, hd 1 (c17.map (cdL 1 (cdL 1 cdI)).enc)), (43, .sl 1 (((x1.take (mnI (x1.length : Int) 10).toNat).drop (0 : Int).toNat).map (cdL 2 (cdG2 (cdK .u8) (cdK .u8) (fun _ => rfl) (fun _ => rfl))).enc)), (44, .v (.int .i64 (((x1.take (mnI (x1.length : Int) 10).toNat).drop (0 : Int).toNat).length : Int))), (45, .v (.int .i64 c12)), (53, .sl 2 (((v14.take (mnI (v14.length : Int) 20).toNat).drop (0 : Int).toNat).map (cdG2 (cdK .u8) (cdK .u8) (fun _ => rfl) (fun _ => rfl)).enc)), (54, .v (.int .i64 (((v14.take (mnI (v14.length : Int) 20).toNat).drop (0 : Int).toNat).length : Int))), (55, .v (.int .i64 c18)), (63, .v (.int .i64 ((wr .i64 v20.1).tmod v1.2))), (66, .v (.int .i64 (wr .i64 v20.2))), (67, .v (.int .i64 v1.2))] [some ⟨1, 3, (c16.map cdI.enc), false⟩, mk 1 50 (c17.map (cdL 1 (cdL 1 cdI)).enc), some ⟨2, 53, [.ag [.v (.int .u8 v20.1), .v (.int .u8 v20.2)]], false⟩] (by kernel_rfl) (by kernel_rfl) ?_
        refine RunDS.one e_law09_Made_ok rfl (by kernel_rfl) (opd_q (by kernel_rfl) (wantedA_none rfl) rfl (q_bin (a := .v (.int .i64 (wr .i64 v20.2))) (b := .v (.int .i64 v1.2)) (by kernel_rfl) (by kernel_rfl) (bin_rem hz22)) (by kernel_rfl)) ?_
        refine RunDS.segF (n := 112) e_law09_Made_ok 2 [(7, .sl 1 (v1.1.map cdI.enc)), (8, .v (.int .i64 v1.2)), (9, .rf 0 0 c16.length c16.length), (11, hd 1 (c17.map (cdL 1 (cdL 1 cdI)).enc)), (16, .v (.int .i64 ((wr .i64 v20.1).tmod v1.2))), (17, .v (.int .i64 ((wr .i64 v20.2).tmod v1.2))), (43, .sl 1 (((x1.take (mnI (x1.length : Int) 10).toNat).drop (0 : Int).toNat).map (cdL 2 (cdG2 (cdK .u8) (cdK .u8) (fun _ => rfl) (fun _ => rfl))).enc)), (44, .v (.int .i64 (((x1.take (mnI (x1.length : Int) 10).toNat).drop (0 : Int).toNat).length : Int))), (45, .v (.int .i64 c12)), (53, .sl 2 (((v14.take (mnI (v14.length : Int) 20).toNat).drop (0 : Int).toNat).map (cdG2 (cdK .u8) (cdK .u8) (fun _ => rfl) (fun _ => rfl)).enc)), (54, .v (.int .i64 (((v14.take (mnI (v14.length : Int) 20).toNat).drop (0 : Int).toNat).length : Int))), (55, .v (.int .i64 c18))] [some ⟨1, 3, (c16.map cdI.enc), false⟩, mk 1 50 (c17.map (cdL 1 (cdL 1 cdI)).enc), some ⟨2, 53, [.ag [.v (.int .u8 v20.1), .v (.int .u8 v20.2)]], false⟩] (by kernel_rfl) (by kernel_rfl) ?_
        exact RunDS.done rfl (Wk.s3 [0, 1] ⟨⟨_, rfl, bu_own⟩, ⟨_, rfl, bu_mk⟩, trivial⟩ ⟨lv, lv, lv, lu_hd (b' := 1) (by kernel_rfl) (by kernel_rfl), lv, lv, lv, lv, lv, lv, lv, lv, trivial⟩)
      obtain ⟨v23, hv23, h⟩ := Option.bind_eq_some_iff.1 h
      obtain ⟨v24, hv24, h⟩ := Option.bind_eq_some_iff.1 h
      obtain ⟨v25, hv25, h⟩ := Option.bind_eq_some_iff.1 h
      obtain ⟨v26, hv26, h⟩ := Option.bind_eq_some_iff.1 h
      refine Sem.runDS e_law09_Made_ok (s1 := ⟨Fr 112 [(7, .sl 1 (v1.1.map cdI.enc)), (8, .v (.int .i64 v1.2)), (9, .rf 0 0 ((c16.set (((wr .i64 v20.1).tmod v1.2).toNat) v23).set (((wr .i64 v20.2).tmod v1.2).toNat) v24).length ((c16.set (((wr .i64 v20.1).tmod v1.2).toNat) v23).set (((wr .i64 v20.2).tmod v1.2).toNat) v24).length), (11, hd 1 (c17.map (cdL 1 (cdL 1 cdI)).enc)), (43, .sl 1 (((x1.take (mnI (x1.length : Int) 10).toNat).drop (0 : Int).toNat).map (cdL 2 (cdG2 (cdK .u8) (cdK .u8) (fun _ => rfl) (fun _ => rfl))).enc)), (44, .v (.int .i64 (((x1.take (mnI (x1.length : Int) 10).toNat).drop (0 : Int).toNat).length : Int))), (45, .v (.int .i64 c12)), (53, .sl 2 (((v14.take (mnI (v14.length : Int) 20).toNat).drop (0 : Int).toNat).map (cdG2 (cdK .u8) (cdK .u8) (fun _ => rfl) (fun _ => rfl)).enc)), (54, .v (.int .i64 (((v14.take (mnI (v14.length : Int) 20).toNat).drop (0 : Int).toNat).length : Int))), (55, .v (.int .i64 c18))], [some ⟨1, 3, (((c16.set (((wr .i64 v20.1).tmod v1.2).toNat) v23).set (((wr .i64 v20.2).tmod v1.2).toNat) v24).map cdI.enc), false⟩, mk 1 50 (c17.map (cdL 1 (cdL 1 cdI)).enc)]⟩) (by kernel_rfl) ?_ ?_
      · refine RunDS.segF (n := 112) e_law09_Made_ok 6 [(7, .sl 1 (v1.1.map cdI.enc)), (8, .v (.int .i64 v1.2)), (9, .rf 0 0 c16.length c16.length), (11, hd 1 (c17.map (cdL 1 (cdL 1 cdI)).enc)), (16, .v (.int .i64 ((wr .i64 v20.1).tmod v1.2))), (43, .sl 1 (((x1.take (mnI (x1.length : Int) 10).toNat).drop (0 : Int).toNat).map (cdL 2 (cdG2 (cdK .u8) (cdK .u8) (fun _ => rfl) (fun _ => rfl))).enc)), (44, .v (.int .i64 (((x1.take (mnI (x1.length : Int) 10).toNat).drop (0 : Int).toNat).length : Int))), (45, .v (.int .i64 c12)), (53, .sl 2 (((v14.take (mnI (v14.length : Int) 20).toNat).drop (0 : Int).toNat).map (cdG2 (cdK .u8) (cdK .u8) (fun _ => rfl) (fun _ => rfl)).enc)), (54, .v (.int .i64 (((v14.take (mnI (v14.length : Int) 20).toNat).drop (0 : Int).toNat).length : Int))), (55, .v (.int .i64 c18)), (69, .rf 0 0 c16.length c16.length), (70, .v (.int .i64 ((wr .i64 v20.1).tmod v1.2))), (71, .rf 0 0 c16.length c16.length), (72, .v (.int .i64 ((wr .i64 v20.2).tmod v1.2))), (73, .rf 0 0 c16.length c16.length), (74, .v (.int .i64 ((wr .i64 v20.2).tmod v1.2)))] [some ⟨1, 3, (c16.map cdI.enc), false⟩, mk 1 50 (c17.map (cdL 1 (cdL 1 cdI)).enc)] (by kernel_rfl) (by kernel_rfl) ?_
        refine RunDS.one e_law09_Made_ok rfl (by kernel_rfl) (opd_q (by kernel_rfl) (wantedA_none rfl) rfl (q_indexAddr (a := .rf 0 0 c16.length c16.length) (b := .v (.int .i64 ((wr .i64 v20.2).tmod v1.2))) (by kernel_rfl) (by kernel_rfl) (ix_rl (e := cdI.enc) (xs := c16) (t' := 3) (el := 3) (k := 1) (ki := .i64) (by kernel_rfl) (by kernel_rfl) (by kernel_rfl) hv23)) (by kernel_rfl)) ?_
        refine RunDS.one e_law09_Made_ok rfl (by kernel_rfl) (opd_q (by kernel_rfl) (wantedA_none rfl) rfl (q_load (p := .pt 0 (((wr .i64 v20.2).tmod v1.2).toNat) 0) (by kernel_rfl) (ld_blk (B := ⟨1, 3, (c16.map cdI.enc), false⟩) (m := 1) (g := false) (e := cdI.enc) (xs := c16) (by kernel_rfl) (by kernel_rfl) (by kernel_rfl) rfl (idx_at hv23).2 (by kernel_rfl))) (by kernel_rfl)) ?_
        refine RunDS.segF (n := 112) e_law09_Made_ok 2 [(7, .sl 1 (v1.1.map cdI.enc)), (8, .v (.int .i64 v1.2)), (9, .rf 0 0 c16.length c16.length), (11, hd 1 (c17.map (cdL 1 (cdL 1 cdI)).enc)), (43, .sl 1 (((x1.take (mnI (x1.length : Int) 10).toNat).drop (0 : Int).toNat).map (cdL 2 (cdG2 (cdK .u8) (cdK .u8) (fun _ => rfl) (fun _ => rfl))).enc)), (44, .v (.int .i64 (((x1.take (mnI (x1.length : Int) 10).toNat).drop (0 : Int).toNat).length : Int))), (45, .v (.int .i64 c12)), (53, .sl 2 (((v14.take (mnI (v14.length : Int) 20).toNat).drop (0 : Int).toNat).map (cdG2 (cdK .u8) (cdK .u8) (fun _ => rfl) (fun _ => rfl)).enc)), (54, .v (.int .i64 (((v14.take (mnI (v14.length : Int) 20).toNat).drop (0 : Int).toNat).length : Int))), (55, .v (.int .i64 c18)), (69, .rf 0 0 c16.length c16.length), (70, .v (.int .i64 ((wr .i64 v20.1).tmod v1.2))), (71, .rf 0 0 c16.length c16.length), (72, .v (.int .i64 ((wr .i64 v20.2).tmod v1.2))), (76, .v (.int .i64 v23)), (77, .rf 0 0 c16.length c16.length), (78, .v (.int .i64 ((wr .i64 v20.1).tmod v1.2)))] [some ⟨1, 3, (c16.map cdI.enc), false⟩, mk 1 50 (c17.map (cdL 1 (cdL 1 cdI)).enc)] (by kernel_rfl) (by kernel_rfl) ?_
        refine RunDS.one e_law09_Made_ok rfl (by kernel_rfl) (opd_q (by kernel_rfl) (wantedA_none rfl) rfl (q_indexAddr (a := .rf 0 0 c16.length c16.length) (b := .v (.int .i64 ((wr .i64 v20.1).tmod v1.2))) (by kernel_rfl) (by kernel_rfl) (ix_rl (e := cdI.enc) (xs := c16) (t' := 3) (el := 3) (k := 1) (ki := .i64) (by kernel_rfl) (by kernel_rfl) (by kernel_rfl) hv24)) (by kernel_rfl)) ?_
        refine RunDS.one e_law09_Made_ok rfl (by kernel_rfl) (opd_q (by kernel_rfl) (wantedA_none rfl) rfl (q_load (p := .pt 0 (((wr .i64 v20.1).tmod v1.2).toNat) 0) (by kernel_rfl) (ld_blk (B := ⟨1, 3, (c16.map cdI.enc), false⟩) (m := 1) (g := false) (e := cdI.enc) (xs := c16) (by kernel_rfl) (by kernel_rfl) (by kernel_rfl) rfl (idx_at hv24).2 (by kernel_rfl))) (by kernel_rfl)) ?_
        refine RunDS.one e_law09_Made_ok rfl (by kernel_rfl) (opd_q (by kernel_rfl) (wantedA_none rfl) rfl (q_indexAddr (a := .rf 0 0 c16.length c16.length) (b := .v (.int .i64 ((wr .i64 v20.1).tmod v1.2))) (by kernel_rfl) (by kernel_rfl) (ix_rl (e := cdI.enc) (xs := c16) (t' := 3) (el := 3) (k := 1) (ki := .i64) (by kernel_rfl) (by kernel_rfl) (by kernel_rfl) hv25)) (by kernel_rfl)) ?_
        refine RunDS.tail rfl rfl ?_
        refine RunS.store e_law09_Made_ok (y := .pt 0 (((wr .i64 v20.1).tmod v1.2).toNat) 0) (z := .v (.int .i64 v23)) rfl (wantedA_none rfl) (by kernel_rfl) (by kernel_rfl) (st_blk (t' := 3) (k := 1) (e := cdI.enc) (xs := c16) (v := v25) (v' := v23) (by kernel_rfl) (idx_at hv25).2 (by kernel_rfl) (by kernel_rfl) (by kernel_rfl)) ?_
        refine RunS.one e_law09_Made_ok 0 rfl (op_q (wantedA_none rfl) rfl (q_indexAddr (a := .rf 0 0 c16.length c16.length) (b := .v (.int .i64 ((wr .i64 v20.2).tmod v1.2))) (by kernel_rfl) (by kernel_rfl) (ix_rlN (e := cdI.enc) (xs := (c16.set (((wr .i64 v20.1).tmod v1.2).toNat) v23)) (n := c16.length) (t' := 3) (el := 3) (k := 1) (ki := .i64) (by simp only [List.length_set]) (by kernel_rfl) (by kernel_rfl) (by kernel_rfl) hv26))) ?_
        refine RunS.store e_law09_Made_ok (y := .pt 0 (((wr .i64 v20.2).tmod v1.2).toNat) 0) (z := .v (.int .i64 v24)) rfl (wantedA_none rfl) (by kernel_rfl) (by kernel_rfl) (st_blk (t' := 3) (k := 1) (e := cdI.enc) (xs := (c16.set (((wr .i64 v20.1).tmod v1.2).toNat) v23)) (v := v26) (v' := v24) (by kernel_rfl) (idx_at hv26).2 (by kernel_rfl) (by kernel_rfl) (by kernel_rfl)) ?_
        exact RunS.done rfl (Wk.s3 [0, 1] ⟨⟨_, rfl, bu_own⟩, ⟨_, rfl, bu_mk⟩, trivial⟩ ⟨lv, lv, lu_rl (b' := 0) (n := c16.length) (by kernel_rfl) (by simp) (by kernel_rfl), lu_hd (b' := 1) (by kernel_rfl) (by kernel_rfl), lv, lv, lv, lv, lv, lv, trivial⟩)
      refine Sem.runS (s1 := ⟨Fr 112 [(7, .sl 1 (v1.1.map cdI.enc)), (8, .v (.int .i64 v1.2)), (9, .rf 0 0 ((c16.set (((wr .i64 v20.1).tmod v1.2).toNat) v23).set (((wr .i64 v20.2).tmod v1.2).toNat) v24).length ((c16.set (((wr .i64 v20.1).tmod v1.2).toNat) v23).set (((wr .i64 v20.2).tmod v1.2).toNat) v24).length), (11, hd 1 (c17.map (cdL 1 (cdL 1 cdI)).enc)), (43, .sl 1 (((x1.take (mnI (x1.length : Int) 10).toNat).drop (0 : Int).toNat).map (cdL 2 (cdG2 (cdK .u8) (cdK .u8) (fun _ => rfl) (fun _ => rfl))).enc)), (44, .v (.int .i64 (((x1.take (mnI (x1.length : Int) 10).toNat).drop (0 : Int).toNat).length : Int))), (45, .v (.int .i64 c12)), (53, .sl 2 (((v14.take (mnI (v14.length : Int) 20).toNat).drop (0 : Int).toNat).map (cdG2 (cdK .u8) (cdK .u8) (fun _ => rfl) (fun _ => rfl)).enc)), (54, .v (.int .i64 (((v14.take (mnI (v14.length : Int) 20).toNat).drop (0 : Int).toNat).length : Int))), (55, .v (.int .i64 (wr .i64 (c18 + 1))))], [some ⟨1, 3, (((c16.set (((wr .i64 v20.1).tmod v1.2).toNat) v23).set (((wr .i64 v20.2).tmod v1.2).toNat) v24).map cdI.enc), false⟩, mk 1 50 (c17.map (cdL 1 (cdL 1 cdI)).enc)]⟩) ?_ ?_
      · refine RunS.segF (n := 112) e_law09_Made_ok 2 [(7, .sl 1 (v1.1.map cdI.enc)), (8, .v (.int .i64 v1.2)), (9, .rf 0 0 ((c16.set (((wr .i64 v20.1).tmod v1.2).toNat) v23).set (((wr .i64 v20.2).tmod v1.2).toNat) v24).length ((c16.set (((wr .i64 v20.1).tmod v1.2).toNat) v23).set (((wr .i64 v20.2).tmod v1.2).toNat) v24).length), (11, hd 1 (c17.map (cdL 1 (cdL 1 cdI)).enc)), (43, .sl 1 (((x1.take (mnI (x1.length : Int) 10).toNat).drop (0 : Int).toNat).map (cdL 2 (cdG2 (cdK .u8) (cdK .u8) (fun _ => rfl) (fun _ => rfl))).enc)), (44, .v (.int .i64 (((x1.take (mnI (x1.length : Int) 10).toNat).drop (0 : Int).toNat).length : Int))), (45, .v (.int .i64 c12)), (53, .sl 2 (((v14.take (mnI (v14.length : Int) 20).toNat).drop (0 : Int).toNat).map (cdG2 (cdK .u8) (cdK .u8) (fun _ => rfl) (fun _ => rfl)).enc)), (54, .v (.int .i64 (((v14.take (mnI (v14.length : Int) 20).toNat).drop (0 : Int).toNat).length : Int))), (55, .v (.int .i64 (wr .i64 (c18 + 1))))] [some ⟨1, 3, (((c16.set (((wr .i64 v20.1).tmod v1.2).toNat) v23).set (((wr .i64 v20.2).tmod v1.2).toNat) v24).map cdI.enc), false⟩, mk 1 50 (c17.map (cdL 1 (cdL 1 cdI)).enc)] (by kernel_rfl) ?_
        exact RunS.done rfl (Wk.s3 [0, 1] ⟨⟨_, rfl, bu_own⟩, ⟨_, rfl, bu_mk⟩, trivial⟩ ⟨lv, lv, lv, lu_hd (b' := 1) (by kernel_rfl) (by kernel_rfl), lv, lv, lv, lv, lv, lv, trivial⟩)
      exact SemN.wk (s1 := ⟨Fr 112 [(7, .sl 1 (v1.1.map cdI.enc)), (8, .v (.int .i64 v1.2)), (9, .rf 0 0 ((c16.set (((wr .i64 v20.1).tmod v1.2).toNat) v23).set (((wr .i64 v20.2).tmod v1.2).toNat) v24).length ((c16.set (((wr .i64 v20.1).tmod v1.2).toNat) v23).set (((wr .i64 v20.2).tmod v1.2).toNat) v24).length), (11, hd 1 (c17.map (cdL 1 (cdL 1 cdI)).enc)), (43, .sl 1 (((x1.take (mnI (x1.length : Int) 10).toNat).drop (0 : Int).toNat).map (cdL 2 (cdG2 (cdK .u8) (cdK .u8) (fun _ => rfl) (fun _ => rfl))).enc)), (44, .v (.int .i64 (((x1.take (mnI (x1.length : Int) 10).toNat).drop (0 : Int).toNat).length : Int))), (45, .v (.int .i64 c12)), (53, .sl 2 (((v14.take (mnI (v14.length : Int) 20).toNat).drop (0 : Int).toNat).map (cdG2 (cdK .u8) (cdK .u8) (fun _ => rfl) (fun _ => rfl)).enc)), (54, .v (.int .i64 (((v14.take (mnI (v14.length : Int) 20).toNat).drop (0 : Int).toNat).length : Int))), (55, .v (.int .i64 (wr .i64 (c18 + 1))))], [some ⟨1, 3, (((c16.set (((wr .i64 v20.1).tmod v1.2).toNat) v23).set (((wr .i64 v20.2).tmod v1.2).toNat) v24).map cdI.enc), false⟩, mk 1 50 (c17.map (cdL 1 (cdL 1 cdI)).enc)]⟩) (Wk.s3 [0, 1] ⟨⟨_, rfl, bu_own⟩, ⟨_, rfl, bu_mk⟩, trivial⟩ ⟨lv, lv, lv, lu_hd (b' := 1) (by kernel_rfl) (by kernel_rfl), lv, lv, lv, lv, lv, lv, trivial⟩) (ih ((c16.set (((wr .i64 v20.1).tmod v1.2).toNat) v23).set (((wr .i64 v20.2).tmod v1.2).toNat) v24) c17 (wr .i64 (c18 + 1)) h)
    · rw [if_f hb19] at h
      refine Sem.exit ?_
      have hq := Option.some.inj h; subst hq
      exact ⟨rfl, (Wk.s3 [0, 1] ⟨⟨_, rfl, bu_own⟩, ⟨_, rfl, bu_mk⟩, trivial⟩ ⟨lv, lv, lv, lu_hd (b' := 1) (by kernel_rfl) (by kernel_rfl), lv, lv, lv, trivial⟩)⟩
set_option maxHeartbeats 4000000 in
set_option maxRecDepth 100000 in
theorem law09_Made_4_ok (x1 : (List (List (Int × Int)))) (v1 : (List Int) × Int) (c12 : Int) (r29 : (List Int) × (List (List (List Int)))) : ∀ (f : Nat) (c30 : (List (List Int))) (c31 : Int) (c32 : Int) (r : ((List (List Int)))), law09_Made_4 x1 v1 c12 r29 f c30 c31 c32 = some r → SemN e_law09_Made ⟨none, false⟩ (pc cb_law09_Made [1, 1, 1, 1, 1, 0, 1, 0, 0, 1, 1, 0, 0, 1, 1, 1, 1, 0, 1, 0, 0]) f ⟨Fr 112 [(7, .sl 1 (v1.1.map cdI.enc)), (8, .v (.int .i64 v1.2)), (9, .rf 0 0 r29.1.length r29.1.length), (11, hd 1 (r29.2.map (cdL 1 (cdL 1 cdI)).enc)), (18, hd 2 (c30.map (cdL 1 cdI).enc)), (19, .v (.int .i64 c31)), (43, .sl 1 (((x1.take (mnI (x1.length : Int) 10).toNat).drop (0 : Int).toNat).map (cdL 2 (cdG2 (cdK .u8) (cdK .u8) (fun _ => rfl) (fun _ => rfl))).enc)), (44, .v (.int .i64 (((x1.take (mnI (x1.length : Int) 10).toNat).drop (0 : Int).toNat).length : Int))), (45, .v (.int .i64 c12)), (84, .sl 1 (v1.1.map cdI.enc)), (85, .v (.int .i64 (v1.1.length : Int))), (86, .v (.int .i64 c32))], [some ⟨1, 3, (r29.1.map cdI.enc), false⟩, mk 1 50 (r29.2.map (cdL 1 (cdL 1 cdI)).enc), mk 1 31 (c30.map (cdL 1 cdI).enc)]⟩ (fun e s => e = (.exit 6) ∧ Wk e_law09_Made s ⟨Fr 112 [(7, .sl 1 (v1.1.map cdI.enc)), (8, .v (.int .i64 v1.2)), (9, .rf 0 0 r29.1.length r29.1.length), (11, hd 1 (r29.2.map (cdL 1 (cdL 1 cdI)).enc)), (18, hd 2 (r.map (cdL 1 cdI).enc)), (43, .sl 1 (((x1.take (mnI (x1.length : Int) 10).toNat).drop (0 : Int).toNat).map (cdL 2 (cdG2 (cdK .u8) (cdK .u8) (fun _ => rfl) (fun _ => rfl))).enc)), (44, .v (.int .i64 (((x1.take (mnI (x1.length : Int) 10).toNat).drop (0 : Int).toNat).length : Int))), (45, .v (.int .i64 c12))], [some ⟨1, 3, (r29.1.map cdI.enc), false⟩, mk 1 50 (r29.2.map (cdL 1 (cdL 1 cdI)).enc), mk 1 31 (r.map (cdL 1 cdI).enc)]⟩) := by
  intro f
  induction f with
  | zero => intro c30 c31 c32 r h; cases h
  | succ f ih0 =>
    intro c30 c31 c32 r h
    have ih := fun (c30 : (List (List Int))) (c31 : Int) (c32 : Int) => ih0 c30 c31 c32 r
    unfold law09_Made_4 at h
    refine SemN.succ ?_
    refine Sem.seq ?_
    refine Sem.runS (s1 := ⟨Fr 112 [(7, .sl 1 (v1.1.map cdI.enc)), (8, .v (.int .i64 v1.2)), (9, .rf 0 0 r29.1.length r29.1.length), (11, hd 1 (r29.2.map (cdL 1 (cdL 1 cdI)).enc)), (18, hd 2 (c30.map (cdL 1 cdI).enc)), (19, .v (.int .i64 c31)), (43, .sl 1 (((x1.take (mnI (x1.length : Int) 10).toNat).drop (0 : Int).toNat).map (cdL 2 (cdG2 (cdK .u8) (cdK .u8) (fun _ => rfl) (fun _ => rfl))).enc)), (44, .v (.int .i64 (((x1.take (mnI (x1.length : Int) 10).toNat).drop (0 : Int).toNat).length : Int))), (45, .v (.int .i64 c12)), (84, .sl 1 (v1.1.map cdI.enc)), (85, .v (.int .i64 (v1.1.length : Int))), (86, .v (.int .i64 c32)), (87, .v (.bool (decide (c32 < (v1.1.length : Int)))))], [some ⟨1, 3, (r29.1.map cdI.enc), false⟩, mk 1 50 (r29.2.map (cdL 1 (cdL 1 cdI)).enc), mk 1 31 (c30.map (cdL 1 cdI).enc)]⟩) ?_ ?_
    · refine RunS.segF (n := 112) e_law09_Made_ok 1 [(7, .sl 1 (v1.1.map cdI.enc)), (8, .v (.int .i64 v1.2)), (9, .rf 0 0 r29.1.length r29.1.length), (11, hd 1 (r29.2.map (cdL 1 (cdL 1 cdI)).enc)), (18, hd 2 (c30.map (cdL 1 cdI).enc)), (19, .v (.int .i64 c31)), (43, .sl 1 (((x1.take (mnI (x1.length : Int) 10).toNat).drop (0 : Int).toNat).map (cdL 2 (cdG2 (cdK .u8) (cdK .u8) (fun _ => rfl) (fun _ => rfl))).enc)), (44, .v (.int .i64 (((x1.take (mnI (x1.length : Int) 10).toNat).drop (0 : Int).toNat).length : Int))), (45, .v (.int .i64 c12)), (84, .sl 1 (v1.1.map cdI.enc)), (85, .v (.int .i64 (v1.1.length : Int))), (86, .v (.int .i64 c32)), (87, .v (.bool (decide (c32 < (v1.1.length : Int)))))] [some ⟨1, 3, (r29.1.map cdI.enc), false⟩, mk 1 50 (r29.2.map (cdL 1 (cdL 1 cdI)).enc), mk 1 31 (c30.map (cdL 1 cdI).enc)] (by kernel_rfl) ?_
      exact RunS.done rfl (Wk.s3 [0, 1, 2] ⟨⟨_, rfl, bu_own⟩, ⟨_, rfl, bu_mk⟩, ⟨_, rfl, bu_mk⟩, trivial⟩ ⟨lv, lv, lv, lu_hd (b' := 1) (by kernel_rfl) (by kernel_rfl), lu_hd (b' := 2) (by kernel_rfl) (by kernel_rfl), lv, lv, lv, lv, lv, lv, lv, lv, trivial⟩)
    refine Sem.seq ?_
    refine Sem.cond (b := (decide (c32 < (v1.1.length : Int)))) (by kernel_rfl) (fun hb33 => ?_) (fun hb33 => ?_)
    · rw [if_pos hb33] at h
      refine Sem.skip ?_
      refine Sem.seq ?_
      refine Sem.block ?_
      refine Sem.seq ?_
      obtain ⟨v34, hv34, h⟩ := Option.bind_eq_some_iff.1 h
      refine Sem.runS (s1 := ⟨Fr 112 [(7, .sl 1 (v1.1.map cdI.enc)), (8, .v (.int .i64 v1.2)), (9, .rf 0 0 r29.1.length r29.1.length), (11, hd 1 (r29.2.map (cdL 1 (cdL 1 cdI)).enc)), (18, hd 2 (c30.map (cdL 1 cdI).enc)), (19, .v (.int .i64 c31)), (21, .v (.int .i64 v34)), (43, .sl 1 (((x1.take (mnI (x1.length : Int) 10).toNat).drop (0 : Int).toNat).map (cdL 2 (cdG2 (cdK .u8) (cdK .u8) (fun _ => rfl) (fun _ => rfl))).enc)), (44, .v (.int .i64 (((x1.take (mnI (x1.length : Int) 10).toNat).drop (0 : Int).toNat).length : Int))), (45, .v (.int .i64 c12)), (84, .sl 1 (v1.1.map cdI.enc)), (85, .v (.int .i64 (v1.1.length : Int))), (86, .v (.int .i64 c32))], [some ⟨1, 3, (r29.1.map cdI.enc), false⟩, mk 1 50 (r29.2.map (cdL 1 (cdL 1 cdI)).enc), mk 1 31 (c30.map (cdL 1 cdI).enc)]⟩) ?_ ?_
      · refine RunS.one e_law09_Made_ok 0 rfl (op_q (wantedA_none rfl) rfl (q_indexAddr (a := .sl 1 (v1.1.map cdI.enc)) (b := .v (.int .i64 c32)) (by kernel_rfl) (by kernel_rfl) (ix_sl (e := cdI.enc) (el := 3) (k := 1) (ki := .i64) (by kernel_rfl) (by kernel_rfl) hv34))) ?_
        refine RunS.segF (n := 112) e_law09_Made_ok 2 [(7, .sl 1 (v1.1.map cdI.enc)), (8, .v (.int .i64 v1.2)), (9, .rf 0 0 r29.1.length r29.1.length), (11, hd 1 (r29.2.map (cdL 1 (cdL 1 cdI)).enc)), (18, hd 2 (c30.map (cdL 1 cdI).enc)), (19, .v (.int .i64 c31)), (21, .v (.int .i64 v34)), (43, .sl 1 (((x1.take (mnI (x1.length : Int) 10).toNat).drop (0 : Int).toNat).map (cdL 2 (cdG2 (cdK .u8) (cdK .u8) (fun _ => rfl) (fun _ => rfl))).enc)), (44, .v (.int .i64 (((x1.take (mnI (x1.length : Int) 10).toNat).drop (0 : Int).toNat).length : Int))), (45, .v (.int .i64 c12)), (84, .sl 1 (v1.1.map cdI.enc)), (85, .v (.int .i64 (v1.1.length : Int))), (86, .v (.int .i64 c32))] [some ⟨1, 3, (r29.1.map cdI.enc), false⟩, mk 1 50 (r29.2.map (cdL 1 (cdL 1 cdI)).enc), mk 1 31 (c30.map (cdL 1 cdI).enc)] (by kernel_rfl) ?_
        exact RunS.done rfl (Wk.s3 [0, 1, 2] ⟨⟨_, rfl, bu_own⟩, ⟨_, rfl, bu_mk⟩, ⟨_, rfl, bu_mk⟩, trivial⟩ ⟨lv, lv, lv, lu_hd (b' := 1) (by kernel_rfl) (by kernel_rfl), lu_hd (b' := 2) (by kernel_rfl) (by kernel_rfl), lv, lv, lv, lv, lv, lv, lv, lv, trivial⟩)
      refine Sem.seq ?_
      by_cases hk35 : (partOk c31 (wr .i64 (c31 + v34)) r29.1.length) = true
      case neg => rw [if_neg hk35] at h; cases h
      rw [if_pos hk35] at h
      by_cases hk36 : (capOk 8 ((r29.1.take (wr .i64 (c31 + v34)).toNat).drop c31.toNat).length) = true
      case neg => rw [if_neg hk36] at h; cases h
      rw [if_pos hk36] at h
      by_cases hk37 : (capOk 24 (c30.length + 1)) = true
      case neg => rw [if_neg hk37] at h; cases h
      rw [if_pos hk37] at h
      refine Sem.runS (s1 := ⟨Fr 112 [(7, .sl 1 (v1.1.map cdI.enc)), (8, .v (.int .i64 v1.2)), (9, .rf 0 0 r29.1.length r29.1.length), (11, hd 1 (r29.2.map (cdL 1 (cdL 1 cdI)).enc)), (18, hd 2 ((c30 ++ [((r29.1.take (wr .i64 (c31 + v34)).toNat).drop c31.toNat)]).map (cdL 1 cdI).enc)), (19, .v (.int .i64 c31)), (21, .v (.int .i64 v34)), (43, .sl 1 (((x1.take (mnI (x1.length : Int) 10).toNat).drop (0 : Int).toNat).map (cdL 2 (cdG2 (cdK .u8) (cdK .u8) (fun _ => rfl) (fun _ => rfl))).enc)), (44, .v (.int .i64 (((x1.take (mnI (x1.length : Int) 10).toNat).drop (0 : Int).toNat).length : Int))), (45, .v (.int .i64 c12)), (84, .sl 1 (v1.1.map cdI.enc)), (85, .v (.int .i64 (v1.1.length : Int))), (86, .v (.int .i64 c32))], [some ⟨1, 3, (r29.1.map cdI.enc), false⟩, mk 1 50 (r29.2.map (cdL 1 (cdL 1 cdI)).enc), mk 1 31 ((c30 ++ [((r29.1.take (wr .i64 (c31 + v34)).toNat).drop c31.toNat)]).map (cdL 1 cdI).enc)]⟩) ?_ ?_
      · refine RunS.segF (n := 112) e_law09_Made_ok 6 [(7, .sl 1 (v1.1.map cdI.enc)), (8, .v (.int .i64 v1.2)), (9, .rf 0 0 r29.1.length r29.1.length), (11, hd 1 (r29.2.map (cdL 1 (cdL 1 cdI)).enc)), (19, .v (.int .i64 c31)), (21, .v (.int .i64 v34)), (43, .sl 1 (((x1.take (mnI (x1.length : Int) 10).toNat).drop (0 : Int).toNat).map (cdL 2 (cdG2 (cdK .u8) (cdK .u8) (fun _ => rfl) (fun _ => rfl))).enc)), (44, .v (.int .i64 (((x1.take (mnI (x1.length : Int) 10).toNat).drop (0 : Int).toNat).length : Int))), (45, .v (.int .i64 c12)), (84, .sl 1 (v1.1.map cdI.enc)), (85, .v (.int .i64 (v1.1.length : Int))), (86, .v (.int .i64 c32)), (90, hd 2 (c30.map (cdL 1 cdI).enc)), (91, .rf 0 0 r29.1.length r29.1.length), (92, .v (.int .i64 c31)), (95, .v (.int .i64 (wr .i64 (c31 + v34))))] [some ⟨1, 3, (r29.1.map cdI.enc), false⟩, mk 1 50 (r29.2.map (cdL 1 (cdL 1 cdI)).enc), mk 1 31 (c30.map (cdL 1 cdI).enc)] (by kernel_rfl) ?_
        refine RunS.one e_law09_Made_ok 0 rfl (op_q (wantedA_none rfl) rfl (q_slice (a := .rf 0 0 r29.1.length r29.1.length) (l := (some (.v (.int .i64 c31)))) (u := (some (.v (.int .i64 (wr .i64 (c31 + v34)))))) (m := none) (by kernel_rfl) (by kernel_rfl) (by kernel_rfl) rfl (slice_rp (xs := r29.1) (e := cdI.enc) (t' := 3) (k := 1) (el := 3) (lo := c31) (hi := (wr .i64 (c31 + v34))) (by kernel_rfl) (by kernel_rfl) (by kernel_rfl) (natB_i (cut_lo (part_cut hk35))) (natB_i (cut_hi (part_cut hk35))) hk35))) ?_
        refine RunS.callS rfl rfl (s_clone ((r29.1.take (wr .i64 (c31 + v34)).toNat).drop c31.toNat) hk36) rfl (wantedA_none rfl) (by kernel_rfl) (xs := [.rf 0 (0 + c31.toNat) ((wr .i64 (c31 + v34)).toNat - c31.toNat) (r29.1.length - c31.toNat)]) (by kernel_rfl) (viewsF_rp (c := cdI) (xs := r29.1) (t' := 3) (k := 1) n1_I (by kernel_rfl) hk35) clone_flat ?_
        rintro x h' (⟨hx, rfl, rfl⟩ | ⟨rfl, rfl⟩)
        · exact absurd hx (part_ne hk35)
        refine RunS.wk (s1 := ⟨Fr 112 [(7, .sl 1 (v1.1.map cdI.enc)), (8, .v (.int .i64 v1.2)), (9, .rf 0 0 r29.1.length r29.1.length), (11, hd 1 (r29.2.map (cdL 1 (cdL 1 cdI)).enc)), (19, .v (.int .i64 c31)), (21, .v (.int .i64 v34)), (43, .sl 1 (((x1.take (mnI (x1.length : Int) 10).toNat).drop (0 : Int).toNat).map (cdL 2 (cdG2 (cdK .u8) (cdK .u8) (fun _ => rfl) (fun _ => rfl))).enc)), (44, .v (.int .i64 (((x1.take (mnI (x1.length : Int) 10).toNat).drop (0 : Int).toNat).length : Int))), (45, .v (.int .i64 c12)), (84, .sl 1 (v1.1.map cdI.enc)), (85, .v (.int .i64 (v1.1.length : Int))), (86, .v (.int .i64 c32)), (90, hd 2 (c30.map (cdL 1 cdI).enc)), (91, .rf 0 0 r29.1.length r29.1.length), (92, .v (.int .i64 c31)), (95, .v (.int .i64 (wr .i64 (c31 + v34)))), (96, .rf 0 (0 + c31.toNat) ((wr .i64 (c31 + v34)).toNat - c31.toNat) (r29.1.length - c31.toNat)), (97, .sl 1 (((r29.1.take (wr .i64 (c31 + v34)).toNat).drop c31.toNat).map cdI.enc))], [some ⟨1, 3, (r29.1.map cdI.enc), false⟩, mk 1 50 (r29.2.map (cdL 1 (cdL 1 cdI)).enc), mk 1 31 (c30.map (cdL 1 cdI).enc), none]⟩) (Wk.frzG 3 (.inl (by kernel_rfl)) ⟨.inr (.inl rfl), .inr (.inl rfl), .inr (.inl rfl), .inl rfl, trivial⟩ ⟨⟨.sl 1 (v1.1.map cdI.enc), (by kernel_rfl), .inl rfl⟩, ⟨.v (.int .i64 v1.2), (by kernel_rfl), .inl rfl⟩, ⟨.rf 0 0 r29.1.length r29.1.length, (by kernel_rfl), .inl rfl⟩, ⟨hd 1 (r29.2.map (cdL 1 (cdL 1 cdI)).enc), (by kernel_rfl), .inl rfl⟩, ⟨.v (.int .i64 c31), (by kernel_rfl), .inl rfl⟩, ⟨.v (.int .i64 v34), (by kernel_rfl), .inl rfl⟩, ⟨.sl 1 (((x1.take (mnI (x1.length : Int) 10).toNat).drop (0 : Int).toNat).map (cdL 2 (cdG2 (cdK .u8) (cdK .u8) (fun _ => rfl) (fun _ => rfl))).enc), (by kernel_rfl), .inl rfl⟩, ⟨.v (.int .i64 (((x1.take (mnI (x1.length : Int) 10).toNat).drop (0 : Int).toNat).length : Int)), (by kernel_rfl), .inl rfl⟩, ⟨.v (.int .i64 c12), (by kernel_rfl), .inl rfl⟩, ⟨.sl 1 (v1.1.map cdI.enc), (by kernel_rfl), .inl rfl⟩, ⟨.v (.int .i64 (v1.1.length : Int)), (by kernel_rfl), .inl rfl⟩, ⟨.v (.int .i64 c32), (by kernel_rfl), .inl rfl⟩, ⟨hd 2 (c30.map (cdL 1 cdI).enc), (by kernel_rfl), .inl rfl⟩, ⟨.rf 0 0 r29.1.length r29.1.length, (by kernel_rfl), .inl rfl⟩, ⟨.v (.int .i64 c31), (by kernel_rfl), .inl rfl⟩, ⟨.v (.int .i64 (wr .i64 (c31 + v34))), (by kernel_rfl), .inl rfl⟩, ⟨.rf 0 (0 + c31.toNat) ((wr .i64 (c31 + v34)).toNat - c31.toNat) (r29.1.length - c31.toNat), (by kernel_rfl), .inl rfl⟩, ⟨.rf 3 0 ((r29.1.take (wr .i64 (c31 + v34)).toNat).drop c31.toNat).length ((r29.1.take (wr .i64 (c31 + v34)).toNat).drop c31.toNat).length, (by kernel_rfl), fz_rlT (c := cdI) (xs := ((r29.1.take (wr .i64 (c31 + v34)).toNat).drop c31.toNat)) (t := 3) (by kernel_rfl)⟩, trivial⟩) ?_
        refine RunS.segF (n := 112) e_law09_Made_ok 1 [(7, .sl 1 (v1.1.map cdI.enc)), (8, .v (.int .i64 v1.2)), (9, .rf 0 0 r29.1.length r29.1.length), (11, hd 1 (r29.2.map (cdL 1 (cdL 1 cdI)).enc)), (19, .v (.int .i64 c31)), (21, .v (.int .i64 v34)), (43, .sl 1 (((x1.take (mnI (x1.length : Int) 10).toNat).drop (0 : Int).toNat).map (cdL 2 (cdG2 (cdK .u8) (cdK .u8) (fun _ => rfl) (fun _ => rfl))).enc)), (44, .v (.int .i64 (((x1.take (mnI (x1.length : Int) 10).toNat).drop (0 : Int).toNat).length : Int))), (45, .v (.int .i64 c12)), (84, .sl 1 (v1.1.map cdI.enc)), (85, .v (.int .i64 (v1.1.length : Int))), (86, .v (.int .i64 c32)), (90, hd 2 (c30.map (cdL 1 cdI).enc)), (98, hd 4 ([((r29.1.take (wr .i64 (c31 + v34)).toNat).drop c31.toNat)].map (cdL 1 cdI).enc))] [some ⟨1, 3, (r29.1.map cdI.enc), false⟩, mk 1 50 (r29.2.map (cdL 1 (cdL 1 cdI)).enc), mk 1 31 (c30.map (cdL 1 cdI).enc), none, mk 1 31 ([((r29.1.take (wr .i64 (c31 + v34)).toNat).drop c31.toNat)].map (cdL 1 cdI).enc)] (by kernel_rfl) ?_
        refine RunS.one e_law09_Made_ok 0 rfl (op_w (wantedA_none rfl) rfl (by kernel_rfl) (by kernel_rfl) (w_append (a := hd 2 (c30.map (cdL 1 cdI).enc)) (b := hd 4 ([((r29.1.take (wr .i64 (c31 + v34)).toNat).drop c31.toNat)].map (cdL 1 cdI).enc)) (by kernel_rfl) (by kernel_rfl) (append_B (c := (cdL 1 cdI)) (xs := c30) (vs := [((r29.1.take (wr .i64 (c31 + v34)).toNat).drop c31.toNat)]) (k := 1) (bytes := 24) (el := 31) (by kernel_rfl) (by kernel_rfl) (elems_hd (t := 31) (by kernel_rfl)) (List.cons_ne_nil _ _) (by kernel_rfl) hk37))) ?_
        refine RunS.segF (n := 112) e_law09_Made_ok 1 [(7, .sl 1 (v1.1.map cdI.enc)), (8, .v (.int .i64 v1.2)), (9, .rf 0 0 r29.1.length r29.1.length), (11, hd 1 (r29.2.map (cdL 1 (cdL 1 cdI)).enc)), (18, hd 5 ((c30 ++ [((r29.1.take (wr .i64 (c31 + v34)).toNat).drop c31.toNat)]).map (cdL 1 cdI).enc)), (19, .v (.int .i64 c31)), (21, .v (.int .i64 v34)), (43, .sl 1 (((x1.take (mnI (x1.length : Int) 10).toNat).drop (0 : Int).toNat).map (cdL 2 (cdG2 (cdK .u8) (cdK .u8) (fun _ => rfl) (fun _ => rfl))).enc)), (44, .v (.int .i64 (((x1.take (mnI (x1.length : Int) 10).toNat).drop (0 : Int).toNat).length : Int))), (45, .v (.int .i64 c12)), (84, .sl 1 (v1.1.map cdI.enc)), (85, .v (.int .i64 (v1.1.length : Int))), (86, .v (.int .i64 c32))] [some ⟨1, 3, (r29.1.map cdI.enc), false⟩, mk 1 50 (r29.2.map (cdL 1 (cdL 1 cdI)).enc), none, none, mk 1 31 ([((r29.1.take (wr .i64 (c31 + v34)).toNat).drop c31.toNat)].map (cdL 1 cdI).enc), mk 1 31 ((c30 ++ [((r29.1.take (wr .i64 (c31 + v34)).toNat).drop c31.toNat)]).map (cdL 1 cdI).enc)] (by kernel_rfl) ?_
        exact RunS.done rfl (Wk.s3 [0, 1, 5] ⟨⟨_, rfl, bu_own⟩, ⟨_, rfl, bu_mk⟩, ⟨_, rfl, bu_mk⟩, trivial⟩ ⟨lv, lv, lv, lu_hd (b' := 1) (by kernel_rfl) (by kernel_rfl), lu_hd (b' := 5) (by kernel_rfl) (by kernel_rfl), lv, lv, lv, lv, lv, lv, lv, lv, trivial⟩)
      refine Sem.runS (s1 := ⟨Fr 112 [(7, .sl 1 (v1.1.map cdI.enc)), (8, .v (.int .i64 v1.2)), (9, .rf 0 0 r29.1.length r29.1.length), (11, hd 1 (r29.2.map (cdL 1 (cdL 1 cdI)).enc)), (18, hd 2 ((c30 ++ [((r29.1.take (wr .i64 (c31 + v34)).toNat).drop c31.toNat)]).map (cdL 1 cdI).enc)), (19, .v (.int .i64 (wr .i64 (c31 + v34)))), (43, .sl 1 (((x1.take (mnI (x1.length : Int) 10).toNat).drop (0 : Int).toNat).map (cdL 2 (cdG2 (cdK .u8) (cdK .u8) (fun _ => rfl) (fun _ => rfl))).enc)), (44, .v (.int .i64 (((x1.take (mnI (x1.length : Int) 10).toNat).drop (0 : Int).toNat).length : Int))), (45, .v (.int .i64 c12)), (84, .sl 1 (v1.1.map cdI.enc)), (85, .v (.int .i64 (v1.1.length : Int))), (86, .v (.int .i64 c32))], [some ⟨1, 3, (r29.1.map cdI.enc), false⟩, mk 1 50 (r29.2.map (cdL 1 (cdL 1 cdI)).enc), mk 1 31 ((c30 ++ [((r29.1.take (wr .i64 (c31 + v34)).toNat).drop c31.toNat)]).map (cdL 1 cdI).enc)]⟩) ?_ ?_
      · refine RunS.segF (n := 112) e_law09_Made_ok 4 [(7, .sl 1 (v1.1.map cdI.enc)), (8, .v (.int .i64 v1.2)), (9, .rf 0 0 r29.1.length r29.1.length), (11, hd 1 (r29.2.map (cdL 1 (cdL 1 cdI)).enc)), (18, hd 2 ((c30 ++ [((r29.1.take (wr .i64 (c31 + v34)).toNat).drop c31.toNat)]).map (cdL 1 cdI).enc)), (19, .v (.int .i64 (wr .i64 (c31 + v34)))), (43, .sl 1 (((x1.take (mnI (x1.length : Int) 10).toNat).drop (0 : Int).toNat).map (cdL 2 (cdG2 (cdK .u8) (cdK .u8) (fun _ => rfl) (fun _ => rfl))).enc)), (44, .v (.int .i64 (((x1.take (mnI (x1.length : Int) 10).toNat).drop (0 : Int).toNat).length : Int))), (45, .v (.int .i64 c12)), (84, .sl 1 (v1.1.map cdI.enc)), (85, .v (.int .i64 (v1.1.length : Int))), (86, .v (.int .i64 c32))] [some ⟨1, 3, (r29.1.map cdI.enc), false⟩, mk 1 50 (r29.2.map (cdL 1 (cdL 1 cdI)).enc), mk 1 31 ((c30 ++ [((r29.1.take (wr .i64 (c31 + v34)).toNat).drop c31.toNat)]).map (cdL 1 cdI).enc)] (by kernel_rfl) ?_
        exact RunS.done rfl (Wk.s3 [0, 1, 2] ⟨⟨_, rfl, bu_own⟩, ⟨_, rfl, bu_mk⟩, ⟨_, rfl, bu_mk⟩, trivial⟩ ⟨lv, lv, lv, lu_hd (b' := 1) (by kernel_rfl) (by kernel_rfl), lu_hd (b' := 2) (by kernel_rfl) (by kernel_rfl), lv, lv, lv, lv, lv, lv, lv, trivial⟩)
      refine Sem.runS (s1 := ⟨Fr 112 [(7, .sl 1 (v1.1.map cdI.enc)), (8, .v (.int .i64 v1.2)), (9, .rf 0 0 r29.1.length r29.1.length), (11, hd 1 (r29.2.map (cdL 1 (cdL 1 cdI)).enc)), (18, hd 2 ((c30 ++ [((r29.1.take (wr .i64 (c31 + v34)).toNat).drop c31.toNat)]).map (cdL 1 cdI).enc)), (19, .v (.int .i64 (wr .i64 (c31 + v34)))), (43, .sl 1 (((x1.take (mnI (x1.length : Int) 10).toNat).drop (0 : Int).toNat).map (cdL 2 (cdG2 (cdK .u8) (cdK .u8) (fun _ => rfl) (fun _ => rfl))).enc)), (44, .v (.int .i64 (((x1.take (mnI (x1.length : Int) 10).toNat).drop (0 : Int).toNat).length : Int))), (45, .v (.int .i64 c12)), (84, .sl 1 (v1.1.map cdI.enc)), (85, .v (.int .i64 (v1.1.length : Int))), (86, .v (.int .i64 (wr .i64 (c32 + 1))))], [some ⟨1, 3, (r29.1.map cdI.enc), false⟩, mk 1 50 (r29.2.map (cdL 1 (cdL 1 cdI)).enc), mk 1 31 ((c30 ++ [((r29.1.take (wr .i64 (c31 + v34)).toNat).drop c31.toNat)]).map (cdL 1 cdI).enc)]⟩) ?_ ?_
      · refine RunS.segF (n := 112) e_law09_Made_ok 2 [(7, .sl 1 (v1.1.map cdI.enc)), (8, .v (.int .i64 v1.2)), (9, .rf 0 0 r29.1.length r29.1.length), (11, hd 1 (r29.2.map (cdL 1 (cdL 1 cdI)).enc)), (18, hd 2 ((c30 ++ [((r29.1.take (wr .i64 (c31 + v34)).toNat).drop c31.toNat)]).map (cdL 1 cdI).enc)), (19, .v (.int .i64 (wr .i64 (c31 + v34)))), (43, .sl 1 (((x1.take (mnI (x1.length : Int) 10).toNat).drop (0 : Int).toNat).map (cdL 2 (cdG2 (cdK .u8) (cdK .u8) (fun _ => rfl) (fun _ => rfl))).enc)), (44, .v (.int .i64 (((x1.take (mnI (x1.length : Int) 10).toNat).drop (0 : Int).toNat).length : Int))), (45, .v (.int .i64 c12)), (84, .sl 1 (v1.1.map cdI.enc)), (85, .v (.int .i64 (v1.1.length : Int))), (86, .v (.int .i64 (wr .i64 (c32 + 1))))] [some ⟨1, 3, (r29.1.map cdI.enc), false⟩, mk 1 50 (r29.2.map (cdL 1 (cdL 1 cdI)).enc), mk 1 31 ((c30 ++ [((r29.1.take (wr .i64 (c31 + v34)).toNat).drop c31.toNat)]).map (cdL 1 cdI).enc)] (by kernel_rfl) ?_
        exact RunS.done rfl (Wk.s3 [0, 1, 2] ⟨⟨_, rfl, bu_own⟩, ⟨_, rfl, bu_mk⟩, ⟨_, rfl, bu_mk⟩, trivial⟩ ⟨lv, lv, lv, lu_hd (b' := 1) (by kernel_rfl) (by kernel_rfl), lu_hd (b' := 2) (by kernel_rfl) (by kernel_rfl), lv, lv, lv, lv, lv, lv, lv, trivial⟩)
      exact SemN.wk (s1 := ⟨Fr 112 [(7, .sl 1 (v1.1.map cdI.enc)), (8, .v (.int .i64 v1.2)), (9, .rf 0 0 r29.1.length r29.1.length), (11, hd 1 (r29.2.map (cdL 1 (cdL 1 cdI)).enc)), (18, hd 2 ((c30 ++ [((r29.1.take (wr .i64 (c31 + v34)).toNat).drop c31.toNat)]).map (cdL 1 cdI).enc)), (19, .v (.int .i64 (wr .i64 (c31 + v34)))), (43, .sl 1 (((x1.take (mnI (x1.length : Int) 10).toNat).drop (0 : Int).toNat).map (cdL 2 (cdG2 (cdK .u8) (cdK .u8) (fun _ => rfl) (fun _ => rfl))).enc)), (44, .v (.int .i64 (((x1.take (mnI (x1.length : Int) 10).toNat).drop (0 : Int).toNat).length : Int))), (45, .v (.int .i64 c12)), (84, .sl 1 (v1.1.map cdI.enc)), (85, .v (.int .i64 (v1.1.length : Int))), (86, .v (.int .i64 (wr .i64 (c32 + 1))))], [some ⟨1, 3, (r29.1.map cdI.enc), false⟩, mk 1 50 (r29.2.map (cdL 1 (cdL 1 cdI)).enc), mk 1 31 ((c30 ++ [((r29.1.take (wr .i64 (c31 + v34)).toNat).drop c31.toNat)]).map (cdL 1 cdI).enc)]⟩) (Wk.s3 [0, 1, 2] ⟨⟨_, rfl, bu_own⟩, ⟨_, rfl, bu_mk⟩, ⟨_, rfl, bu_mk⟩, trivial⟩ ⟨lv, lv, lv, lu_hd (b' := 1) (by kernel_rfl) (by kernel_rfl), lu_hd (b' := 2) (by kernel_rfl) (by kernel_rfl), lv, lv, lv, lv, lv, lv, lv, trivial⟩) (ih (c30 ++ [((r29.1.take (wr .i64 (c31 + v34)).toNat).drop c31.toNat)]) (wr .i64 (c31 + v34)) (wr .i64 (c32 + 1)) h)
    · rw [if_f hb33] at h
      refine Sem.exit ?_
      have hq := Option.some.inj h; subst hq
      exact ⟨rfl, (Wk.s3 [0, 1, 2] ⟨⟨_, rfl, bu_own⟩, ⟨_, rfl, bu_mk⟩, ⟨_, rfl, bu_mk⟩, trivial⟩ ⟨lv, lv, lv, lu_hd (b' := 1) (by kernel_rfl) (by kernel_rfl), lu_hd (b' := 2) (by kernel_rfl) (by kernel_rfl), lv, lv, lv, trivial⟩)⟩
set_option maxHeartbeats 4000000 in
set_option maxRecDepth 100000 in
theorem law09_Made_2_ok (x1 : (List (List (Int × Int)))) (v1 : (List Int) × Int) : ∀ (f : Nat) (c10 : (List Int)) (c11 : (List (List (List Int)))) (c12 : Int) (r : ((List (List (List Int))))), law09_Made_2 x1 v1 f c10 c11 c12 = some r → SemN e_law09_Made ⟨none, false⟩ (pc cb_law09_Made [1, 1, 1, 1, 1, 0, 1, 0, 0]) f ⟨Fr 112 [(7, .sl 1 (v1.1.map cdI.enc)), (8, .v (.int .i64 v1.2)), (9, .rf 0 0 c10.length c10.length), (11, hd 1 (c11.map (cdL 1 (cdL 1 cdI)).enc)), (43, .sl 1 (((x1.take (mnI (x1.length : Int) 10).toNat).drop (0 : Int).toNat).map (cdL 2 (cdG2 (cdK .u8) (cdK .u8) (fun _ => rfl) (fun _ => rfl))).enc)), (44, .v (.int .i64 (((x1.take (mnI (x1.length : Int) 10).toNat).drop (0 : Int).toNat).length : Int))), (45, .v (.int .i64 c12))], [some ⟨1, 3, (c10.map cdI.enc), false⟩, mk 1 50 (c11.map (cdL 1 (cdL 1 cdI)).enc)]⟩ (fun e s => e = (.exit 2) ∧ Wk e_law09_Made s ⟨Fr 112 [(7, .sl 1 (v1.1.map cdI.enc)), (8, .v (.int .i64 v1.2)), (11, hd 0 (r.map (cdL 1 (cdL 1 cdI)).enc))], [mk 1 50 (r.map (cdL 1 (cdL 1 cdI)).enc)]⟩) := by
  intro f
  induction f with
  | zero => intro c10 c11 c12 r h; cases h
  | succ f ih0 =>
    intro c10 c11 c12 r h
    have ih := fun (c10 : (List Int)) (c11 : (List (List (List Int)))) (c12 : Int) => ih0 c10 c11 c12 r
    unfold law09_Made_2 at h
    refine SemN.succ ?_
    refine Sem.seq ?_
    refine Sem.runS (s1 := ⟨Fr 112 [(7, .sl 1 (v1.1.map cdI.enc)), (8, .v (.int .i64 v1.2)), (9, .rf 0 0 c10.length c10.length), (11, hd 1 (c11.map (cdL 1 (cdL 1 cdI)).enc)), (43, .sl 1 (((x1.take (mnI (x1.length : Int) 10).toNat).drop (0 : Int).toNat).map (cdL 2 (cdG2 (cdK .u8) (cdK .u8) (fun _ => rfl) (fun _ => rfl))).enc)), (44, .v (.int .i64 (((x1.take (mnI (x1.length : Int) 10).toNat).drop (0 : Int).toNat).length : Int))), (45, .v (.int .i64 c12)), (46, .v (.bool (decide (c12 < (((x1.take (mnI (x1.length : Int) 10).toNat).drop (0 : Int).toNat).length : Int)))))], [some ⟨1, 3, (c10.map cdI.enc), false⟩, mk 1 50 (c11.map (cdL 1 (cdL 1 cdI)).enc)]⟩) ?_ ?_
    · refine RunS.segF (n := 112) e_law09_Made_ok 1 [(7, .sl 1 (v1.1.map cdI.enc)), (8, .v (.int .i64 v1.2)), (9, .rf 0 0 c10.length c10.length), (11, hd 1 (c11.map (cdL 1 (cdL 1 cdI)).enc)), (43, .sl 1 (((x1.take (mnI (x1.length : Int) 10).toNat).drop (0 : Int).toNat).map (cdL 2 (cdG2 (cdK .u8) (cdK .u8) (fun _ => rfl) (fun _ => rfl))).enc)), (44, .v (.int .i64 (((x1.take (mnI (x1.length : Int) 10).toNat).drop (0 : Int).toNat).length : Int))), (45, .v (.int .i64 c12)), (46, .v (.bool (decide (c12 < (((x1.take (mnI (x1.length : Int) 10).toNat).drop (0 : Int).toNat).length : Int)))))] [some ⟨1, 3, (c10.map cdI.enc), false⟩, mk 1 50 (c11.map (cdL 1 (cdL 1 cdI)).enc)] (by kernel_rfl) ?_
      exact RunS.done rfl (Wk.s3 [0, 1] ⟨⟨_, rfl, bu_own⟩, ⟨_, rfl, bu_mk⟩, trivial⟩ ⟨lv, lv, lv, lu_hd (b' := 1) (by kernel_rfl) (by kernel_rfl), lv, lv, lv, lv, trivial⟩)
    refine Sem.seq ?_
    refine Sem.cond (b := (decide (c12 < (((x1.take (mnI (x1.length : Int) 10).toNat).drop (0 : Int).toNat).length : Int)))) (by kernel_rfl) (fun hb13 => ?_) (fun hb13 => ?_)
    · rw [if_pos hb13] at h
      refine Sem.skip ?_
      refine Sem.seq ?_
      refine Sem.block ?_
      refine Sem.seq ?_
      obtain ⟨v14, hv14, h⟩ := Option.bind_eq_some_iff.1 h
      refine Sem.runS (s1 := ⟨Fr 112 [(7, .sl 1 (v1.1.map cdI.enc)), (8, .v (.int .i64 v1.2)), (9, .rf 0 0 c10.length c10.length), (11, hd 1 (c11.map (cdL 1 (cdL 1 cdI)).enc)), (13, .sl 2 (v14.map (cdG2 (cdK .u8) (cdK .u8) (fun _ => rfl) (fun _ => rfl)).enc)), (43, .sl 1 (((x1.take (mnI (x1.length : Int) 10).toNat).drop (0 : Int).toNat).map (cdL 2 (cdG2 (cdK .u8) (cdK .u8) (fun _ => rfl) (fun _ => rfl))).enc)), (44, .v (.int .i64 (((x1.take (mnI (x1.length : Int) 10).toNat).drop (0 : Int).toNat).length : Int))), (45, .v (.int .i64 c12))], [some ⟨1, 3, (c10.map cdI.enc), false⟩, mk 1 50 (c11.map (cdL 1 (cdL 1 cdI)).enc)]⟩) ?_ ?_
      · refine RunS.one e_law09_Made_ok 0 rfl (op_q (wantedA_none rfl) rfl (q_indexAddr (a := .sl 1 (((x1.take (mnI (x1.length : Int) 10).toNat).drop (0 : Int).toNat).map (cdL 2 (cdG2 (cdK .u8) (cdK .u8) (fun _ => rfl) (fun _ => rfl))).enc)) (b := .v (.int .i64 c12)) (by kernel_rfl) (by kernel_rfl) (ix_sl (e := (cdL 2 (cdG2 (cdK .u8) (cdK .u8) (fun _ => rfl) (fun _ => rfl))).enc) (el := 52) (k := 1) (ki := .i64) (by kernel_rfl) (by kernel_rfl) hv14))) ?_
        refine RunS.segF (n := 112) e_law09_Made_ok 2 [(7, .sl 1 (v1.1.map cdI.enc)), (8, .v (.int .i64 v1.2)), (9, .rf 0 0 c10.length c10.length), (11, hd 1 (c11.map (cdL 1 (cdL 1 cdI)).enc)), (13, .sl 2 (v14.map (cdG2 (cdK .u8) (cdK .u8) (fun _ => rfl) (fun _ => rfl)).enc)), (43, .sl 1 (((x1.take (mnI (x1.length : Int) 10).toNat).drop (0 : Int).toNat).map (cdL 2 (cdG2 (cdK .u8) (cdK .u8) (fun _ => rfl) (fun _ => rfl))).enc)), (44, .v (.int .i64 (((x1.take (mnI (x1.length : Int) 10).toNat).drop (0 : Int).toNat).length : Int))), (45, .v (.int .i64 c12))] [some ⟨1, 3, (c10.map cdI.enc), false⟩, mk 1 50 (c11.map (cdL 1 (cdL 1 cdI)).enc)] (by kernel_rfl) ?_
        exact RunS.done rfl (Wk.s3 [0, 1] ⟨⟨_, rfl, bu_own⟩, ⟨_, rfl, bu_mk⟩, trivial⟩ ⟨lv, lv, lv, lu_hd (b' := 1) (by kernel_rfl) (by kernel_rfl), lv, lv, lv, lv, trivial⟩)
      refine Sem.seq ?_
      refine Sem.seq ?_
      by_cases hk15 : (cutOk 0 (mnI (v14.length : Int) 20) v14.length) = true
      case neg => rw [if_neg hk15] at h; cases h
      rw [if_pos hk15] at h
      refine Sem.runS (s1 := ⟨Fr 112 [(7, .sl 1 (v1.1.map cdI.enc)), (8, .v (.int .i64 v1.2)), (9, .rf 0 0 c10.length c10.length), (11, hd 1 (c11.map (cdL 1 (cdL 1 cdI)).enc)), (43, .sl 1 (((x1.take (mnI (x1.length : Int) 10).toNat).drop (0 : Int).toNat).map (cdL 2 (cdG2 (cdK .u8) (cdK .u8) (fun _ => rfl) (fun _ => rfl))).enc)), (44, .v (.int .i64 (((x1.take (mnI (x1.length : Int) 10).toNat).drop (0 : Int).toNat).length : Int))), (45, .v (.int .i64 c12)), (53, .sl 2 (((v14.take (mnI (v14.length : Int) 20).toNat).drop (0 : Int).toNat).map (cdG2 (cdK .u8) (cdK .u8) (fun _ => rfl) (fun _ => rfl)).enc)), (54, .v (.int .i64 (((v14.take (mnI (v14.length : Int) 20).toNat).drop (0 : Int).toNat).length : Int))), (55, .v (.int .i64 0))], [some ⟨1, 3, (c10.map cdI.enc), false⟩, mk 1 50 (c11.map (cdL 1 (cdL 1 cdI)).enc)]⟩) ?_ ?_
      · refine RunS.segF (n := 112) e_law09_Made_ok 2 [(7, .sl 1 (v1.1.map cdI.enc)), (8, .v (.int .i64 v1.2)), (9, .rf 0 0 c10.length c10.length), (11, hd 1 (c11.map (cdL 1 (cdL 1 cdI)).enc)), (43, .sl 1 (((x1.take (mnI (x1.length : Int) 10).toNat).drop (0 : Int).toNat).map (cdL 2 (cdG2 (cdK .u8) (cdK .u8) (fun _ => rfl) (fun _ => rfl))).enc)), (44, .v (.int .i64 (((x1.take (mnI (x1.length : Int) 10).toNat).drop (0 : Int).toNat).length : Int))), (45, .v (.int .i64 c12)), (49, .sl 2 (v14.map (cdG2 (cdK .u8) (cdK .u8) (fun _ => rfl) (fun _ => rfl)).enc)), (50, .sl 2 (v14.map (cdG2 (cdK .u8) (cdK .u8) (fun _ => rfl) (fun _ => rfl)).enc))] [some ⟨1, 3, (c10.map cdI.enc), false⟩, mk 1 50 (c11.map (cdL 1 (cdL 1 cdI)).enc)] (by kernel_rfl) ?_
        refine RunS.one e_law09_Made_ok 0 rfl (op_q (wantedA_none rfl) rfl (q_len (a := .sl 2 (v14.map (cdG2 (cdK .u8) (cdK .u8) (fun _ => rfl) (fun _ => rfl)).enc)) (by kernel_rfl) (len_sl (el := 53) (by kernel_rfl)))) ?_
        refine RunS.segF (n := 112) e_law09_Made_ok 1 [(7, .sl 1 (v1.1.map cdI.enc)), (8, .v (.int .i64 v1.2)), (9, .rf 0 0 c10.length c10.length), (11, hd 1 (c11.map (cdL 1 (cdL 1 cdI)).enc)), (43, .sl 1 (((x1.take (mnI (x1.length : Int) 10).toNat).drop (0 : Int).toNat).map (cdL 2 (cdG2 (cdK .u8) (cdK .u8) (fun _ => rfl) (fun _ => rfl))).enc)), (44, .v (.int .i64 (((x1.take (mnI (x1.length : Int) 10).toNat).drop (0 : Int).toNat).length : Int))), (45, .v (.int .i64 c12)), (49, .sl 2 (v14.map (cdG2 (cdK .u8) (cdK .u8) (fun _ => rfl) (fun _ => rfl)).enc)), (52, .v (.int .i64 (mnI (v14.length : Int) 20)))] [some ⟨1, 3, (c10.map cdI.enc), false⟩, mk 1 50 (c11.map (cdL 1 (cdL 1 cdI)).enc)] (by kernel_rfl) ?_
        refine RunS.one e_law09_Made_ok 0 rfl (op_q (wantedA_none rfl) rfl (q_slice (a := .sl 2 (v14.map (cdG2 (cdK .u8) (cdK .u8) (fun _ => rfl) (fun _ => rfl)).enc)) (l := none) (u := (some (.v (.int .i64 (mnI (v14.length : Int) 20))))) (m := none) (by kernel_rfl) (by kernel_rfl) (by kernel_rfl) rfl (slice_sl (xs := v14) (e := (cdG2 (cdK .u8) (cdK .u8) (fun _ => rfl) (fun _ => rfl)).enc) (k := 2) (el := 53) (lo := 0) (hi := (mnI (v14.length : Int) 20)) (by kernel_rfl) (by kernel_rfl) rfl (natB_i (cut_hi hk15)) hk15))) ?_
        refine RunS.one e_law09_Made_ok 0 rfl (op_q (wantedA_none rfl) rfl (q_len (a := .sl 2 (((v14.take (mnI (v14.length : Int) 20).toNat).drop (0 : Int).toNat).map (cdG2 (cdK .u8) (cdK .u8) (fun _ => rfl) (fun _ => rfl)).enc)) (by kernel_rfl) (len_sl (el := 53) (by kernel_rfl)))) ?_
        refine RunS.segF (n := 112) e_law09_Made_ok 1 [(7, .sl 1 (v1.1.map cdI.enc)), (8, .v (.int .i64 v1.2)), (9, .rf 0 0 c10.length c10.length), (11, hd 1 (c11.map (cdL 1 (cdL 1 cdI)).enc)), (43, .sl 1 (((x1.take (mnI (x1.length : Int) 10).toNat).drop (0 : Int).toNat).map (cdL 2 (cdG2 (cdK .u8) (cdK .u8) (fun _ => rfl) (fun _ => rfl))).enc)), (44, .v (.int .i64 (((x1.take (mnI (x1.length : Int) 10).toNat).drop (0 : Int).toNat).length : Int))), (45, .v (.int .i64 c12)), (53, .sl 2 (((v14.take (mnI (v14.length : Int) 20).toNat).drop (0 : Int).toNat).map (cdG2 (cdK .u8) (cdK .u8) (fun _ => rfl) (fun _ => rfl)).enc)), (54, .v (.int .i64 (((v14.take (mnI (v14.length : Int) 20).toNat).drop (0 : Int).toNat).length : Int))), (55, .v (.int .i64 0))] [some ⟨1, 3, (c10.map cdI.enc), false⟩, mk 1 50 (c11.map (cdL 1 (cdL 1 cdI)).enc)] (by kernel_rfl) ?_
        exact RunS.done rfl (Wk.s3 [0, 1] ⟨⟨_, rfl, bu_own⟩, ⟨_, rfl, bu_mk⟩, trivial⟩ ⟨lv, lv, lv, lu_hd (b' := 1) (by kernel_rfl) (by kernel_rfl), lv, lv, lv, lv, lv, lv, trivial⟩)
      refine Sem.block ?_
      obtain ⟨r29, hr29, h⟩ := Option.bind_eq_some_iff.1 h
      refine Sem.loop (n := 100000) ?_
      refine Sem.cutN (SemN.wk (s1 := ⟨Fr 112 [(7, .sl 1 (v1.1.map cdI.enc)), (8, .v (.int .i64 v1.2)), (9, .rf 0 0 c10.length c10.length), (11, hd 1 (c11.map (cdL 1 (cdL 1 cdI)).enc)), (43, .sl 1 (((x1.take (mnI (x1.length : Int) 10).toNat).drop (0 : Int).toNat).map (cdL 2 (cdG2 (cdK .u8) (cdK .u8) (fun _ => rfl) (fun _ => rfl))).enc)), (44, .v (.int .i64 (((x1.take (mnI (x1.length : Int) 10).toNat).drop (0 : Int).toNat).length : Int))), (45, .v (.int .i64 c12)), (53, .sl 2 (((v14.take (mnI (v14.length : Int) 20).toNat).drop (0 : Int).toNat).map (cdG2 (cdK .u8) (cdK .u8) (fun _ => rfl) (fun _ => rfl)).enc)), (54, .v (.int .i64 (((v14.take (mnI (v14.length : Int) 20).toNat).drop (0 : Int).toNat).length : Int))), (55, .v (.int .i64 0))], [some ⟨1, 3, (c10.map cdI.enc), false⟩, mk 1 50 (c11.map (cdL 1 (cdL 1 cdI)).enc)]⟩) (Wk.s3 [0, 1] ⟨⟨_, rfl, bu_own⟩, ⟨_, rfl, bu_mk⟩, trivial⟩ ⟨lv, lv, lv, lu_hd (b' := 1) (by kernel_rfl) (by kernel_rfl), lv, lv, lv, lv, lv, lv, trivial⟩) (law09_Made_3_ok x1 v1 c12 v14 _ c10 c11 0 _ hr29)) ?_
      refine Sem.seq ?_
      refine Sem.runS (s1 := ⟨Fr 112 [(7, .sl 1 (v1.1.map cdI.enc)), (8, .v (.int .i64 v1.2)), (9, .rf 0 0 r29.1.length r29.1.length), (11, hd 1 (r29.2.map (cdL 1 (cdL 1 cdI)).enc)), (18, .e0), (43, .sl 1 (((x1.take (mnI (x1.length : Int) 10).toNat).drop (0 : Int).toNat).map (cdL 2 (cdG2 (cdK .u8) (cdK .u8) (fun _ => rfl) (fun _ => rfl))).enc)), (44, .v (.int .i64 (((x1.take (mnI (x1.length : Int) 10).toNat).drop (0 : Int).toNat).length : Int))), (45, .v (.int .i64 c12))], [some ⟨1, 3, (r29.1.map cdI.enc), false⟩, mk 1 50 (r29.2.map (cdL 1 (cdL 1 cdI)).enc)]⟩) ?_ ?_
      · refine RunS.segF (n := 112) e_law09_Made_ok 1 [(7, .sl 1 (v1.1.map cdI.enc)), (8, .v (.int .i64 v1.2)), (9, .rf 0 0 r29.1.length r29.1.length), (11, hd 1 (r29.2.map (cdL 1 (cdL 1 cdI)).enc)), (18, .e0), (43, .sl 1 (((x1.take (mnI (x1.length : Int) 10).toNat).drop (0 : Int).toNat).map (cdL 2 (cdG2 (cdK .u8) (cdK .u8) (fun _ => rfl) (fun _ => rfl))).enc)), (44, .v (.int .i64 (((x1.take (mnI (x1.length : Int) 10).toNat).drop (0 : Int).toNat).length : Int))), (45, .v (.int .i64 c12))] [some ⟨1, 3, (r29.1.map cdI.enc), false⟩, mk 1 50 (r29.2.map (cdL 1 (cdL 1 cdI)).enc)] (by kernel_rfl) ?_
        exact RunS.done rfl (Wk.s3 [0, 1] ⟨⟨_, rfl, bu_own⟩, ⟨_, rfl, bu_mk⟩, trivial⟩ ⟨lv, lv, lv, lu_hd (b' := 1) (by kernel_rfl) (by kernel_rfl), lv, lv, lv, lv, trivial⟩)
      refine Sem.seq ?_
      refine Sem.runS (s1 := ⟨Fr 112 [(7, .sl 1 (v1.1.map cdI.enc)), (8, .v (.int .i64 v1.2)), (9, .rf 0 0 r29.1.length r29.1.length), (11, hd 1 (r29.2.map (cdL 1 (cdL 1 cdI)).enc)), (18, .e0), (19, .v (.int .i64 0)), (43, .sl 1 (((x1.take (mnI (x1.length : Int) 10).toNat).drop (0 : Int).toNat).map (cdL 2 (cdG2 (cdK .u8) (cdK .u8) (fun _ => rfl) (fun _ => rfl))).enc)), (44, .v (.int .i64 (((x1.take (mnI (x1.length : Int) 10).toNat).drop (0 : Int).toNat).length : Int))), (45, .v (.int .i64 c12))], [some ⟨1, 3, (r29.1.map cdI.enc), false⟩, mk 1 50 (r29.2.map (cdL 1 (cdL 1 cdI)).enc)]⟩) ?_ ?_
      · refine RunS.segF (n := 112) e_law09_Made_ok 1 [(7, .sl 1 (v1.1.map cdI.enc)), (8, .v (.int .i64 v1.2)), (9, .rf 0 0 r29.1.length r29.1.length), (11, hd 1 (r29.2.map (cdL 1 (cdL 1 cdI)).enc)), (18, .e0), (19, .v (.int .i64 0)), (43, .sl 1 (((x1.take (mnI (x1.length : Int) 10).toNat).drop (0 : Int).toNat).map (cdL 2 (cdG2 (cdK .u8) (cdK .u8) (fun _ => rfl) (fun _ => rfl))).enc)), (44, .v (.int .i64 (((x1.take (mnI (x1.length : Int) 10).toNat).drop (0 : Int).toNat).length : Int))), (45, .v (.int .i64 c12))] [some ⟨1, 3, (r29.1.map cdI.enc), false⟩, mk 1 50 (r29.2.map (cdL 1 (cdL 1 cdI)).enc)] (by kernel_rfl) ?_
        exact RunS.done rfl (Wk.s3 [0, 1] ⟨⟨_, rfl, bu_own⟩, ⟨_, rfl, bu_mk⟩, trivial⟩ ⟨lv, lv, lv, lu_hd (b' := 1) (by kernel_rfl) (by kernel_rfl), lv, lv, lv, lv, lv, trivial⟩)
      refine Sem.seq ?_
      refine Sem.seq ?_
      refine Sem.runS (s1 := ⟨Fr 112 [(7, .sl 1 (v1.1.map cdI.enc)), (8, .v (.int .i64 v1.2)), (9, .rf 0 0 r29.1.length r29.1.length), (11, hd 1 (r29.2.map (cdL 1 (cdL 1 cdI)).enc)), (18, .e0), (19, .v (.int .i64 0)), (43, .sl 1 (((x1.take (mnI (x1.length : Int) 10).toNat).drop (0 : Int).toNat).map (cdL 2 (cdG2 (cdK .u8) (cdK .u8) (fun _ => rfl) (fun _ => rfl))).enc)), (44, .v (.int .i64 (((x1.take (mnI (x1.length : Int) 10).toNat).drop (0 : Int).toNat).length : Int))), (45, .v (.int .i64 c12)), (84, .sl 1 (v1.1.map cdI.enc)), (85, .v (.int .i64 (v1.1.length : Int))), (86, .v (.int .i64 0))], [some ⟨1, 3, (r29.1.map cdI.enc), false⟩, mk 1 50 (r29.2.map (cdL 1 (cdL 1 cdI)).enc)]⟩) ?_ ?_
      · refine RunS.segF (n := 112) e_law09_Made_ok 1 [(7, .sl 1 (v1.1.map cdI.enc)), (8, .v (.int .i64 v1.2)), (9, .rf 0 0 r29.1.length r29.1.length), (11, hd 1 (r29.2.map (cdL 1 (cdL 1 cdI)).enc)), (18, .e0), (19, .v (.int .i64 0)), (43, .sl 1 (((x1.take (mnI (x1.length : Int) 10).toNat).drop (0 : Int).toNat).map (cdL 2 (cdG2 (cdK .u8) (cdK .u8) (fun _ => rfl) (fun _ => rfl))).enc)), (44, .v (.int .i64 (((x1.take (mnI (x1.length : Int) 10).toNat).drop (0 : Int).toNat).length : Int))), (45, .v (.int .i64 c12)), (84, .sl 1 (v1.1.map cdI.enc))] [some ⟨1, 3, (r29.1.map cdI.enc), false⟩, mk 1 50 (r29.2.map (cdL 1 (cdL 1 cdI)).enc)] (by kernel_rfl) ?_
        refine RunS.one e_law09_Made_ok 0 rfl (op_q (wantedA_none rfl) rfl (q_len (a := .sl 1 (v1.1.map cdI.enc)) (by kernel_rfl) (len_sl (el := 3) (by kernel_rfl)))) ?_
        refine RunS.segF (n := 112) e_law09_Made_ok 1 [(7, .sl 1 (v1.1.map cdI.enc)), (8, .v (.int .i64 v1.2)), (9, .rf 0 0 r29.1.length r29.1.length), (11, hd 1 (r29.2.map (cdL 1 (cdL 1 cdI)).enc)), (18, .e0), (19, .v (.int .i64 0)), (43, .sl 1 (((x1.take (mnI (x1.length : Int) 10).toNat).drop (0 : Int).toNat).map (cdL 2 (cdG2 (cdK .u8) (cdK .u8) (fun _ => rfl) (fun _ => rfl))).enc)), (44, .v (.int .i64 (((x1.take (mnI (x1.length : Int) 10).toNat).drop (0 : Int).toNat).length : Int))), (45, .v (.int .i64 c12)), (84, .sl 1 (v1.1.map cdI.enc)), (85, .v (.int .i64 (v1.1.length : Int))), (86, .v (.int .i64 0))] [some ⟨1, 3, (r29.1.map cdI.enc), false⟩, mk 1 50 (r29.2.map (cdL 1 (cdL 1 cdI)).enc)] (by kernel_rfl) ?_
        exact RunS.done rfl (Wk.s3 [0, 1] ⟨⟨_, rfl, bu_own⟩, ⟨_, rfl, bu_mk⟩, trivial⟩ ⟨lv, lv, lv, lu_hd (b' := 1) (by kernel_rfl) (by kernel_rfl), lv, lv, lv, lv, lv, lv, lv, lv, trivial⟩)
      refine Sem.block ?_
      obtain ⟨r39, hr39, h⟩ := Option.bind_eq_some_iff.1 h
      refine Sem.loop (n := 100000) ?_
      refine Sem.cutN (SemN.wk (s1 := ⟨Fr 112 [(7, .sl 1 (v1.1.map cdI.enc)), (8, .v (.int .i64 v1.2)), (9, .rf 0 0 r29.1.length r29.1.length), (11, hd 1 (r29.2.map (cdL 1 (cdL 1 cdI)).enc)), (18, hd 2 ([].map (cdL 1 cdI).enc)), (19, .v (.int .i64 0)), (43, .sl 1 (((x1.take (mnI (x1.length : Int) 10).toNat).drop (0 : Int).toNat).map (cdL 2 (cdG2 (cdK .u8) (cdK .u8) (fun _ => rfl) (fun _ => rfl))).enc)), (44, .v (.int .i64 (((x1.take (mnI (x1.length : Int) 10).toNat).drop (0 : Int).toNat).length : Int))), (45, .v (.int .i64 c12)), (84, .sl 1 (v1.1.map cdI.enc)), (85, .v (.int .i64 (v1.1.length : Int))), (86, .v (.int .i64 0))], [some ⟨1, 3, (r29.1.map cdI.enc), false⟩, mk 1 50 (r29.2.map (cdL 1 (cdL 1 cdI)).enc), mk 1 31 ([].map (cdL 1 cdI).enc)]⟩) (Wk.trans (s1 := ⟨Fr 112 [(7, .sl 1 (v1.1.map cdI.enc)), (8, .v (.int .i64 v1.2)), (9, .rf 0 0 r29.1.length r29.1.length), (11, hd 1 (r29.2.map (cdL 1 (cdL 1 cdI)).enc)), (18, hd 2 ([].map (cdL 1 cdI).enc)), (19, .v (.int .i64 0)), (43, .sl 1 (((x1.take (mnI (x1.length : Int) 10).toNat).drop (0 : Int).toNat).map (cdL 2 (cdG2 (cdK .u8) (cdK .u8) (fun _ => rfl) (fun _ => rfl))).enc)), (44, .v (.int .i64 (((x1.take (mnI (x1.length : Int) 10).toNat).drop (0 : Int).toNat).length : Int))), (45, .v (.int .i64 c12)), (84, .sl 1 (v1.1.map cdI.enc)), (85, .v (.int .i64 (v1.1.length : Int))), (86, .v (.int .i64 0))], [some ⟨1, 3, (r29.1.map cdI.enc), false⟩, mk 1 50 (r29.2.map (cdL 1 (cdL 1 cdI)).enc), mk 1 31 ([].map (cdL 1 cdI).enc)]⟩) Wk.none (Wk.s3 [0, 1, 2] ⟨⟨_, rfl, bu_own⟩, ⟨_, rfl, bu_mk⟩, ⟨_, rfl, bu_none⟩, trivial⟩ ⟨lv, lv, lv, lu_hd (b' := 1) (by kernel_rfl) (by kernel_rfl), lv, lv, lv, lv, lv, lv, lv, lv, trivial⟩)) (law09_Made_4_ok x1 v1 c12 r29 _ [] 0 0 _ hr39)) ?_
      by_cases hk40 : (capOk 24 (r29.2.length + 1)) = true
      case neg => rw [if_neg hk40] at h; cases h
      rw [if_pos hk40] at h
      refine Sem.runS (s1 := ⟨Fr 112 [(7, .sl 1 (v1.1.map cdI.enc)), (8, .v (.int .i64 v1.2)), (9, .rf 0 0 r29.1.length r29.1.length), (11, hd 1 ((r29.2 ++ [r39]).map (cdL 1 (cdL 1 cdI)).enc)), (43, .sl 1 (((x1.take (mnI (x1.length : Int) 10).toNat).drop (0 : Int).toNat).map (cdL 2 (cdG2 (cdK .u8) (cdK .u8) (fun _ => rfl) (fun _ => rfl))).enc)), (44, .v (.int .i64 (((x1.take (mnI (x1.length : Int) 10).toNat).drop (0 : Int).toNat).length : Int))), (45, .v (.int .i64 c12))], [some ⟨1, 3, (r29.1.map cdI.enc), false⟩, mk 1 50 ((r29.2 ++ [r39]).map (cdL 1 (cdL 1 cdI)).enc)]⟩) ?_ ?_
      · refine RunS.segF (n := 112) e_law09_Made_ok 2 [(7, .sl 1 (v1.1.map cdI.enc)), (8, .v (.int .i64 v1.2)), (9, .rf 0 0 r29.1.length r29.1.length), (43, .sl 1 (((x1.take (mnI (x1.length : Int) 10).toNat).drop (0 : Int).toNat).map (cdL 2 (cdG2 (cdK .u8) (cdK .u8) (fun _ => rfl) (fun _ => rfl))).enc)), (44, .v (.int .i64 (((x1.take (mnI (x1.length : Int) 10).toNat).drop (0 : Int).toNat).length : Int))), (45, .v (.int .i64 c12)), (104, hd 1 (r29.2.map (cdL 1 (cdL 1 cdI)).enc)), (105, hd 2 (r39.map (cdL 1 cdI).enc))] [some ⟨1, 3, (r29.1.map cdI.enc), false⟩, mk 1 50 (r29.2.map (cdL 1 (cdL 1 cdI)).enc), mk 1 31 (r39.map (cdL 1 cdI).enc)] (by kernel_rfl) ?_
        refine RunS.wk (s1 := ⟨Fr 112 [(7, .sl 1 (v1.1.map cdI.enc)), (8, .v (.int .i64 v1.2)), (9, .rf 0 0 r29.1.length r29.1.length), (43, .sl 1 (((x1.take (mnI (x1.length : Int) 10).toNat).drop (0 : Int).toNat).map (cdL 2 (cdG2 (cdK .u8) (cdK .u8) (fun _ => rfl) (fun _ => rfl))).enc)), (44, .v (.int .i64 (((x1.take (mnI (x1.length : Int) 10).toNat).drop (0 : Int).toNat).length : Int))), (45, .v (.int .i64 c12)), (104, hd 1 (r29.2.map (cdL 1 (cdL 1 cdI)).enc)), (105, .sl 1 (r39.map (cdL 1 cdI).enc))], [some ⟨1, 3, (r29.1.map cdI.enc), false⟩, mk 1 50 (r29.2.map (cdL 1 (cdL 1 cdI)).enc), none]⟩) (Wk.frzG 2 (.inl (by kernel_rfl)) ⟨.inr (.inl rfl), .inr (.inl rfl), .inl rfl, trivial⟩ ⟨⟨.sl 1 (v1.1.map cdI.enc), (by kernel_rfl), .inl rfl⟩, ⟨.v (.int .i64 v1.2), (by kernel_rfl), .inl rfl⟩, ⟨.rf 0 0 r29.1.length r29.1.length, (by kernel_rfl), .inl rfl⟩, ⟨.sl 1 (((x1.take (mnI (x1.length : Int) 10).toNat).drop (0 : Int).toNat).map (cdL 2 (cdG2 (cdK .u8) (cdK .u8) (fun _ => rfl) (fun _ => rfl))).enc), (by kernel_rfl), .inl rfl⟩, ⟨.v (.int .i64 (((x1.take (mnI (x1.length : Int) 10).toNat).drop (0 : Int).toNat).length : Int)), (by kernel_rfl), .inl rfl⟩, ⟨.v (.int .i64 c12), (by kernel_rfl), .inl rfl⟩, ⟨hd 1 (r29.2.map (cdL 1 (cdL 1 cdI)).enc), (by kernel_rfl), .inl rfl⟩, ⟨hd 2 (r39.map (cdL 1 cdI).enc), (by kernel_rfl), fz_hd (t := 31) (by kernel_rfl) enc_ok⟩, trivial⟩) ?_
        refine RunS.segF (n := 112) e_law09_Made_ok 1 [(7, .sl 1 (v1.1.map cdI.enc)), (8, .v (.int .i64 v1.2)), (9, .rf 0 0 r29.1.length r29.1.length), (43, .sl 1 (((x1.take (mnI (x1.length : Int) 10).toNat).drop (0 : Int).toNat).map (cdL 2 (cdG2 (cdK .u8) (cdK .u8) (fun _ => rfl) (fun _ => rfl))).enc)), (44, .v (.int .i64 (((x1.take (mnI (x1.length : Int) 10).toNat).drop (0 : Int).toNat).length : Int))), (45, .v (.int .i64 c12)), (104, hd 1 (r29.2.map (cdL 1 (cdL 1 cdI)).enc)), (106, hd 3 ([r39].map (cdL 1 (cdL 1 cdI)).enc))] [some ⟨1, 3, (r29.1.map cdI.enc), false⟩, mk 1 50 (r29.2.map (cdL 1 (cdL 1 cdI)).enc), none, mk 1 50 ([r39].map (cdL 1 (cdL 1 cdI)).enc)] (by kernel_rfl) ?_
        refine RunS.one e_law09_Made_ok 0 rfl (op_w (wantedA_none rfl) rfl (by kernel_rfl) (by kernel_rfl) (w_append (a := hd 1 (r29.2.map (cdL 1 (cdL 1 cdI)).enc)) (b := hd 3 ([r39].map (cdL 1 (cdL 1 cdI)).enc)) (by kernel_rfl) (by kernel_rfl) (append_B (c := (cdL 1 (cdL 1 cdI))) (xs := r29.2) (vs := [r39]) (k := 1) (bytes := 24) (el := 50) (by kernel_rfl) (by kernel_rfl) (elems_hd (t := 50) (by kernel_rfl)) (List.cons_ne_nil _ _) (by kernel_rfl) hk40))) ?_
        refine RunS.segF (n := 112) e_law09_Made_ok 1 [(7, .sl 1 (v1.1.map cdI.enc)), (8, .v (.int .i64 v1.2)), (9, .rf 0 0 r29.1.length r29.1.length), (11, hd 4 ((r29.2 ++ [r39]).map (cdL 1 (cdL 1 cdI)).enc)), (43, .sl 1 (((x1.take (mnI (x1.length : Int) 10).toNat).drop (0 : Int).toNat).map (cdL 2 (cdG2 (cdK .u8) (cdK .u8) (fun _ => rfl) (fun _ => rfl))).enc)), (44, .v (.int .i64 (((x1.take (mnI (x1.length : Int) 10).toNat).drop (0 : Int).toNat).length : Int))), (45, .v (.int .i64 c12))] [some ⟨1, 3, (r29.1.map cdI.enc), false⟩, none, none, mk 1 50 ([r39].map (cdL 1 (cdL 1 cdI)).enc), mk 1 50 ((r29.2 ++ [r39]).map (cdL 1 (cdL 1 cdI)).enc)] (by kernel_rfl) ?_
        exact RunS.done rfl (Wk.s3 [0, 4] ⟨⟨_, rfl, bu_own⟩, ⟨_, rfl, bu_mk⟩, trivial⟩ ⟨lv, lv, lv, lu_hd (b' := 4) (by kernel_rfl) (by kernel_rfl), lv, lv, lv, trivial⟩)
      refine Sem.runS (s1 := ⟨Fr 112 [(7, .sl 1 (v1.1.map cdI.enc)), (8, .v (.int .i64 v1.2)), (9, .rf 0 0 r29.1.length r29.1.length), (11, hd 1 ((r29.2 ++ [r39]).map (cdL 1 (cdL 1 cdI)).enc)), (43, .sl 1 (((x1.take (mnI (x1.length : Int) 10).toNat).drop (0 : Int).toNat).map (cdL 2 (cdG2 (cdK .u8) (cdK .u8) (fun _ => rfl) (fun _ => rfl))).enc)), (44, .v (.int .i64 (((x1.take (mnI (x1.length : Int) 10).toNat).drop (0 : Int).toNat).length : Int))), (45, .v (.int .i64 (wr .i64 (c12 + 1))))], [some ⟨1, 3, (r29.1.map cdI.enc), false⟩, mk 1 50 ((r29.2 ++ [r39]).map (cdL 1 (cdL 1 cdI)).enc)]⟩) ?_ ?_
      · refine RunS.segF (n := 112) e_law09_Made_ok 2 [(7, .sl 1 (v1.1.map cdI.enc)), (8, .v (.int .i64 v1.2)), (9, .rf 0 0 r29.1.length r29.1.length), (11, hd 1 ((r29.2 ++ [r39]).map (cdL 1 (cdL 1 cdI)).enc)), (43, .sl 1 (((x1.take (mnI (x1.length : Int) 10).toNat).drop (0 : Int).toNat).map (cdL 2 (cdG2 (cdK .u8) (cdK .u8) (fun _ => rfl) (fun _ => rfl))).enc)), (44, .v (.int .i64 (((x1.take (mnI (x1.length : Int) 10).toNat).drop (0 : Int).toNat).length : Int))), (45, .v (.int .i64 (wr .i64 (c12 + 1))))] [some ⟨1, 3, (r29.1.map cdI.enc), false⟩, mk 1 50 ((r29.2 ++ [r39]).map (cdL 1 (cdL 1 cdI)).enc)] (by kernel_rfl) ?_
        exact RunS.done rfl (Wk.s3 [0, 1] ⟨⟨_, rfl, bu_own⟩, ⟨_, rfl, bu_mk⟩, trivial⟩ ⟨lv, lv, lv, lu_hd (b' := 1) (by kernel_rfl) (by kernel_rfl), lv, lv, lv, trivial⟩)
      exact SemN.wk (s1 := ⟨Fr 112 [(7, .sl 1 (v1.1.map cdI.enc)), (8, .v (.int .i64 v1.2)), (9, .rf 0 0 r29.1.length r29.1.length), (11, hd 1 ((r29.2 ++ [r39]).map (cdL 1 (cdL 1 cdI)).enc)), (43, .sl 1 (((x1.take (mnI (x1.length : Int) 10).toNat).drop (0 : Int).toNat).map (cdL 2 (cdG2 (cdK .u8) (cdK .u8) (fun _ => rfl) (fun _ => rfl))).enc)), (44, .v (.int .i64 (((x1.take (mnI (x1.length : Int) 10).toNat).drop (0 : Int).toNat).length : Int))), (45, .v (.int .i64 (wr .i64 (c12 + 1))))], [some ⟨1, 3, (r29.1.map cdI.enc), false⟩, mk 1 50 ((r29.2 ++ [r39]).map (cdL 1 (cdL 1 cdI)).enc)]⟩) (Wk.s3 [0, 1] ⟨⟨_, rfl, bu_own⟩, ⟨_, rfl, bu_mk⟩, trivial⟩ ⟨lv, lv, lv, lu_hd (b' := 1) (by kernel_rfl) (by kernel_rfl), lv, lv, lv, trivial⟩) (ih r29.1 (r29.2 ++ [r39]) (wr .i64 (c12 + 1)) h)
    · rw [if_f hb13] at h
      refine Sem.exit ?_
      have hq := Option.some.inj h; subst hq
      exact ⟨rfl, (Wk.s3 [1] ⟨⟨_, rfl, bu_mk⟩, trivial⟩ ⟨lv, lv, lu_hd (b' := 1) (by kernel_rfl) (by kernel_rfl), trivial⟩)⟩
set_option maxHeartbeats 4000000 in
set_option maxRecDepth 100000 in
theorem law09_Made_sem (x0 : (List Int)) (x1 : (List (List (Int × Int)))) (r : (List (List (List Int))) × (List Int) × Int) (h : law09_Made x0 x1 = some r) : Sem e_law09_Made ⟨none, false⟩ cb_law09_Made ⟨Fr 112 (pairs0 0 (cs_law09_Made.enc (x0, x1, ()))), []⟩ fun e s' => (e = .normal ∨ e = .ret) ∧ ∃ xs, resA e_law09_Made.P s'.fr s'.hp Tryd.f25.results.toList = some xs ∧ retA xs = er_law09_Made r := by
  unfold law09_Made at h
  refine Sem.wkQ (Sem.wk (s1 := ⟨Fr 112 [(0, .sl 1 (x0.map (cdK .u8).enc)), (1, .sl 1 (x1.map (cdL 2 (cdG2 (cdK .u8) (cdK .u8) (fun _ => rfl) (fun _ => rfl))).enc))], []⟩) Wk.f1 ?_)
  refine Sem.seq ?_
  refine Sem.runS (s1 := ⟨Fr 112 [(0, .sl 1 (x0.map (cdK .u8).enc)), (1, .sl 1 (x1.map (cdL 2 (cdG2 (cdK .u8) (cdK .u8) (fun _ => rfl) (fun _ => rfl))).enc))], []⟩) ?_ ?_
  · refine RunS.segF (n := 112) e_law09_Made_ok 3 [(0, .sl 1 (x0.map (cdK .u8).enc)), (1, .sl 1 (x1.map (cdL 2 (cdG2 (cdK .u8) (cdK .u8) (fun _ => rfl) (fun _ => rfl))).enc))] [] (by kernel_rfl) ?_
    exact RunS.done rfl Wk.f1
  refine Sem.seq ?_
  obtain ⟨v1, hv1, h⟩ := Option.bind_eq_some_iff.1 h
  refine Sem.runS (s1 := ⟨Fr 112 [(1, .sl 1 (x1.map (cdL 2 (cdG2 (cdK .u8) (cdK .u8) (fun _ => rfl) (fun _ => rfl))).enc)), (7, .sl 1 (v1.1.map cdI.enc)), (8, .v (.int .i64 v1.2))], []⟩) ?_ ?_
  · refine RunS.segF (n := 112) e_law09_Made_ok 1 [(1, .sl 1 (x1.map (cdL 2 (cdG2 (cdK .u8) (cdK .u8) (fun _ => rfl) (fun _ => rfl))).enc)), (23, .sl 1 (x0.map (cdK .u8).enc))] [] (by kernel_rfl) ?_
    refine RunS.call e_law09_Made_ok (fid := 35) (s := cs_law09_Sizes) (F := fun a => law09_Sizes a.1) (er := er_law09_Sizes) (xs := [.sl 1 (x0.map (cdK .u8).enc)]) (a := (x0, ())) rfl (wantedA_none rfl) (by kernel_rfl) (by kernel_rfl) (by kernel_rfl) (by kernel_rfl) (Sns.cons (Sn.enc (c := (cdL 1 (cdK .u8))) (v := x0)) Sns.nil) (.inl (by kernel_rfl)) hv1 ?_
    refine RunS.segF (n := 112) e_law09_Made_ok 5 [(1, .sl 1 (x1.map (cdL 2 (cdG2 (cdK .u8) (cdK .u8) (fun _ => rfl) (fun _ => rfl))).enc)), (7, .sl 1 (v1.1.map cdI.enc)), (8, .v (.int .i64 v1.2))] [] (by kernel_rfl) ?_
    exact RunS.done rfl Wk.f1
  refine Sem.seq ?_
  by_cases hk2 : (mkOk 8 v1.2) = true
  case neg => rw [if_neg hk2] at h; cases h
  rw [if_pos hk2] at h
  refine Sem.runS (s1 := ⟨Fr 112 [(1, .sl 1 (x1.map (cdL 2 (cdG2 (cdK .u8) (cdK .u8) (fun _ => rfl) (fun _ => rfl))).enc)), (7, .sl 1 (v1.1.map cdI.enc)), (8, .v (.int .i64 v1.2)), (9, .rf 0 0 (List.replicate v1.2.toNat (0 : Int)).length (List.replicate v1.2.toNat (0 : Int)).length)], [some ⟨1, 3, ((List.replicate v1.2.toNat (0 : Int)).map cdI.enc), false⟩]⟩) ?_ ?_
  · refine RunS.segF (n := 112) e_law09_Made_ok 1 [(1, .sl 1 (x1.map (cdL 2 (cdG2 (cdK .u8) (cdK .u8) (fun _ => rfl) (fun _ => rfl))).enc)), (7, .sl 1 (v1.1.map cdI.enc)), (8, .v (.int .i64 v1.2)), (27, .v (.int .i64 v1.2))] [] (by kernel_rfl) ?_
    refine RunS.one e_law09_Made_ok 0 rfl (op_n (wantedA_none rfl) rfl (by kernel_rfl) (n_make (x := .v (.int .i64 v1.2)) (y := .v (.int .i64 v1.2)) (by kernel_rfl) (by kernel_rfl) (make_B (c := cdI) (z := (0 : Int)) (k := 1) (bytes := 8) (el := 3) (by kernel_rfl) (by kernel_rfl) hk2))) ?_
    refine RunS.segF (n := 112) e_law09_Made_ok 1 [(1, .sl 1 (x1.map (cdL 2 (cdG2 (cdK .u8) (cdK .u8) (fun _ => rfl) (fun _ => rfl))).enc)), (7, .sl 1 (v1.1.map cdI.enc)), (8, .v (.int .i64 v1.2)), (9, .rf 0 0 (List.replicate v1.2.toNat (0 : Int)).length (List.replicate v1.2.toNat (0 : Int)).length)] [some ⟨1, 3, ((List.replicate v1.2.toNat (0 : Int)).map cdI.enc), false⟩] (by kernel_rfl) ?_
    exact RunS.done rfl (Wk.s3 [0] ⟨⟨_, rfl, bu_own⟩, trivial⟩ ⟨lv, lv, lv, lv, trivial⟩)
  refine Sem.seq ?_
  refine Sem.seq ?_
  refine Sem.runS (s1 := ⟨Fr 112 [(1, .sl 1 (x1.map (cdL 2 (cdG2 (cdK .u8) (cdK .u8) (fun _ => rfl) (fun _ => rfl))).enc)), (7, .sl 1 (v1.1.map cdI.enc)), (8, .v (.int .i64 v1.2)), (9, .rf 0 0 (List.replicate v1.2.toNat (0 : Int)).length (List.replicate v1.2.toNat (0 : Int)).length), (30, .v (.int .i64 ((List.replicate v1.2.toNat (0 : Int)).length : Int))), (31, .v (.int .i64 0))], [some ⟨1, 3, ((List.replicate v1.2.toNat (0 : Int)).map cdI.enc), false⟩]⟩) ?_ ?_
  · refine RunS.segF (n := 112) e_law09_Made_ok 1 [(1, .sl 1 (x1.map (cdL 2 (cdG2 (cdK .u8) (cdK .u8) (fun _ => rfl) (fun _ => rfl))).enc)), (7, .sl 1 (v1.1.map cdI.enc)), (8, .v (.int .i64 v1.2)), (9, .rf 0 0 (List.replicate v1.2.toNat (0 : Int)).length (List.replicate v1.2.toNat (0 : Int)).length), (29, .rf 0 0 (List.replicate v1.2.toNat (0 : Int)).length (List.replicate v1.2.toNat (0 : Int)).length)] [some ⟨1, 3, ((List.replicate v1.2.toNat (0 : Int)).map cdI.enc), false⟩] (by kernel_rfl) ?_
    refine RunS.one e_law09_Made_ok 0 rfl (op_q (wantedA_none rfl) rfl (q_len (a := .rf 0 0 (List.replicate v1.2.toNat (0 : Int)).length (List.replicate v1.2.toNat (0 : Int)).length) (by kernel_rfl) (len_rl (xs := (List.replicate v1.2.toNat (0 : Int))) (el := 3) (by kernel_rfl)))) ?_
    refine RunS.segF (n := 112) e_law09_Made_ok 1 [(1, .sl 1 (x1.map (cdL 2 (cdG2 (cdK .u8) (cdK .u8) (fun _ => rfl) (fun _ => rfl))).enc)), (7, .sl 1 (v1.1.map cdI.enc)), (8, .v (.int .i64 v1.2)), (9, .rf 0 0 (List.replicate v1.2.toNat (0 : Int)).length (List.replicate v1.2.toNat (0 : Int)).length), (30, .v (.int .i64 ((List.replicate v1.2.toNat (0 : Int)).length : Int))), (31, .v (.int .i64 0))] [some ⟨1, 3, ((List.replicate v1.2.toNat (0 : Int)).map cdI.enc), false⟩] (by kernel_rfl) ?_
    exact RunS.done rfl (Wk.s3 [0] ⟨⟨_, rfl, bu_own⟩, trivial⟩ ⟨lv, lv, lv, lv, lv, lv, trivial⟩)
  refine Sem.block ?_
  obtain ⟨r8, hr8, h⟩ := Option.bind_eq_some_iff.1 h
  refine Sem.loop (n := 100000) ?_
  refine Sem.cutN (SemN.wk (s1 := ⟨Fr 112 [(1, .sl 1 (x1.map (cdL 2 (cdG2 (cdK .u8) (cdK .u8) (fun _ => rfl) (fun _ => rfl))).enc)), (7, .sl 1 (v1.1.map cdI.enc)), (8, .v (.int .i64 v1.2)), (9, .rf 0 0 (List.replicate v1.2.toNat (0 : Int)).length (List.replicate v1.2.toNat (0 : Int)).length), (30, .v (.int .i64 ((List.replicate v1.2.toNat (0 : Int)).length : Int))), (31, .v (.int .i64 0))], [some ⟨1, 3, ((List.replicate v1.2.toNat (0 : Int)).map cdI.enc), false⟩]⟩) (Wk.s3 [0] ⟨⟨_, rfl, bu_own⟩, trivial⟩ ⟨lv, lv, lv, lv, lv, lv, trivial⟩) (law09_Made_1_ok x1 v1 _ (List.replicate v1.2.toNat (0 : Int)) 0 _ hr8)) ?_
  refine Sem.seq ?_
  refine Sem.runS (s1 := ⟨Fr 112 [(1, .sl 1 (x1.map (cdL 2 (cdG2 (cdK .u8) (cdK .u8) (fun _ => rfl) (fun _ => rfl))).enc)), (7, .sl 1 (v1.1.map cdI.enc)), (8, .v (.int .i64 v1.2)), (9, .rf 0 0 r8.length r8.length), (11, .e0)], [some ⟨1, 3, (r8.map cdI.enc), false⟩]⟩) ?_ ?_
  · refine RunS.segF (n := 112) e_law09_Made_ok 1 [(1, .sl 1 (x1.map (cdL 2 (cdG2 (cdK .u8) (cdK .u8) (fun _ => rfl) (fun _ => rfl))).enc)), (7, .sl 1 (v1.1.map cdI.enc)), (8, .v (.int .i64 v1.2)), (9, .rf 0 0 r8.length r8.length), (11, .e0)] [some ⟨1, 3, (r8.map cdI.enc), false⟩] (by kernel_rfl) ?_
    exact RunS.done rfl (Wk.s3 [0] ⟨⟨_, rfl, bu_own⟩, trivial⟩ ⟨lv, lv, lv, lv, lv, trivial⟩)
  refine Sem.seq ?_
  refine Sem.seq ?_
  by_cases hk9 : (cutOk 0 (mnI (x1.length : Int) 10) x1.length) = true
  case neg => rw [if_neg hk9] at h; cases h
  rw [if_pos hk9] at h
  refine Sem.runS (s1 := ⟨Fr 112 [(7, .sl 1 (v1.1.map cdI.enc)), (8, .v (.int .i64 v1.2)), (9, .rf 0 0 r8.length r8.length), (11, .e0), (43, .sl 1 (((x1.take (mnI (x1.length : Int) 10).toNat).drop (0 : Int).toNat).map (cdL 2 (cdG2 (cdK .u8) (cdK .u8) (fun _ => rfl) (fun _ => rfl))).enc)), (44, .v (.int .i64 (((x1.take (mnI (x1.length : Int) 10).toNat).drop (0 : Int).toNat).length : Int))), (45, .v (.int .i64 0))], [some ⟨1, 3, (r8.map cdI.enc), false⟩]⟩) ?_ ?_
  · refine RunS.segF (n := 112) e_law09_Made_ok 2 [(7, .sl 1 (v1.1.map cdI.enc)), (8, .v (.int .i64 v1.2)), (9, .rf 0 0 r8.length r8.length), (11, .e0), (39, .sl 1 (x1.map (cdL 2 (cdG2 (cdK .u8) (cdK .u8) (fun _ => rfl) (fun _ => rfl))).enc)), (40, .sl 1 (x1.map (cdL 2 (cdG2 (cdK .u8) (cdK .u8) (fun _ => rfl) (fun _ => rfl))).enc))] [some ⟨1, 3, (r8.map cdI.enc), false⟩] (by kernel_rfl) ?_
    refine RunS.one e_law09_Made_ok 0 rfl (op_q (wantedA_none rfl) rfl (q_len (a := .sl 1 (x1.map (cdL 2 (cdG2 (cdK .u8) (cdK .u8) (fun _ => rfl) (fun _ => rfl))).enc)) (by kernel_rfl) (len_sl (el := 52) (by kernel_rfl)))) ?_
    refine RunS.segF (n := 112) e_law09_Made_ok 1 [(7, .sl 1 (v1.1.map cdI.enc)), (8, .v (.int .i64 v1.2)), (9, .rf 0 0 r8.length r8.length), (11, .e0), (39, .sl 1 (x1.map (cdL 2 (cdG2 (cdK .u8) (cdK .u8) (fun _ => rfl) (fun _ => rfl))).enc)), (42, .v (.int .i64 (mnI (x1.length : Int) 10)))] [some ⟨1, 3, (r8.map cdI.enc), false⟩] (by kernel_rfl) ?_
    refine RunS.one e_law09_Made_ok 0 rfl (op_q (wantedA_none rfl) rfl (q_slice (a := .sl 1 (x1.map (cdL 2 (cdG2 (cdK .u8) (cdK .u8) (fun _ => rfl) (fun _ => rfl))).enc)) (l := none) (u := (some (.v (.int .i64 (mnI (x1.length : Int) 10))))) (m := none) (by kernel_rfl) (by kernel_rfl) (by kernel_rfl) rfl (slice_sl (xs := x1) (e := (cdL 2 (cdG2 (cdK .u8) (cdK .u8) (fun _ => rfl) (fun _ => rfl))).enc) (k := 1) (el := 52) (lo := 0) (hi := (mnI (x1.length : Int) 10)) (by kernel_rfl) (by kernel_rfl) rfl (natB_i (cut_hi hk9)) hk9))) ?_
    refine RunS.one e_law09_Made_ok 0 rfl (op_q (wantedA_none rfl) rfl (q_len (a := .sl 1 (((x1.take (mnI (x1.length : Int) 10).toNat).drop (0 : Int).toNat).map (cdL 2 (cdG2 (cdK .u8) (cdK .u8) (fun _ => rfl) (fun _ => rfl))).enc)) (by kernel_rfl) (len_sl (el := 52) (by kernel_rfl)))) ?_
    refine RunS.segF (n := 112) e_law09_Made_ok 1 [(7, .sl 1 (v1.1.map cdI.enc)), (8, .v (.int .i64 v1.2)), (9, .rf 0 0 r8.length r8.length), (11, .e0), (43, .sl 1 (((x1.take (mnI (x1.length : Int) 10).toNat).drop (0 : Int).toNat).map (cdL 2 (cdG2 (cdK .u8) (cdK .u8) (fun _ => rfl) (fun _ => rfl))).enc)), (44, .v (.int .i64 (((x1.take (mnI (x1.length : Int) 10).toNat).drop (0 : Int).toNat).length : Int))), (45, .v (.int .i64 0))] [some ⟨1, 3, (r8.map cdI.enc), false⟩] (by kernel_rfl) ?_
    exact RunS.done rfl (Wk.s3 [0] ⟨⟨_, rfl, bu_own⟩, trivial⟩ ⟨lv, lv, lv, lv, lv, lv, lv, trivial⟩)
  refine Sem.block ?_
  obtain ⟨r42, hr42, h⟩ := Option.bind_eq_some_iff.1 h
  refine Sem.loop (n := 100000) ?_
  refine Sem.cutN (SemN.wk (s1 := ⟨Fr 112 [(7, .sl 1 (v1.1.map cdI.enc)), (8, .v (.int .i64 v1.2)), (9, .rf 0 0 r8.length r8.length), (11, hd 1 ([].map (cdL 1 (cdL 1 cdI)).enc)), (43, .sl 1 (((x1.take (mnI (x1.length : Int) 10).toNat).drop (0 : Int).toNat).map (cdL 2 (cdG2 (cdK .u8) (cdK .u8) (fun _ => rfl) (fun _ => rfl))).enc)), (44, .v (.int .i64 (((x1.take (mnI (x1.length : Int) 10).toNat).drop (0 : Int).toNat).length : Int))), (45, .v (.int .i64 0))], [some ⟨1, 3, (r8.map cdI.enc), false⟩, mk 1 50 ([].map (cdL 1 (cdL 1 cdI)).enc)]⟩) (Wk.trans (s1 := ⟨Fr 112 [(7, .sl 1 (v1.1.map cdI.enc)), (8, .v (.int .i64 v1.2)), (9, .rf 0 0 r8.length r8.length), (11, hd 1 ([].map (cdL 1 (cdL 1 cdI)).enc)), (43, .sl 1 (((x1.take (mnI (x1.length : Int) 10).toNat).drop (0 : Int).toNat).map (cdL 2 (cdG2 (cdK .u8) (cdK .u8) (fun _ => rfl) (fun _ => rfl))).enc)), (44, .v (.int .i64 (((x1.take (mnI (x1.length : Int) 10).toNat).drop (0 : Int).toNat).length : Int))), (45, .v (.int .i64 0))], [some ⟨1, 3, (r8.map cdI.enc), false⟩, mk 1 50 ([].map (cdL 1 (cdL 1 cdI)).enc)]⟩) Wk.none (Wk.s3 [0, 1] ⟨⟨_, rfl, bu_own⟩, ⟨_, rfl, bu_none⟩, trivial⟩ ⟨lv, lv, lv, lv, lv, lv, lv, trivial⟩)) (law09_Made_2_ok x1 v1 _ r8 [] 0 _ hr42)) ?_
  refine Sem.seq ?_
  refine Sem.runS (s1 := ⟨Fr 112 [(4, hd 0 (r42.map (cdL 1 (cdL 1 cdI)).enc)), (5, .sl 1 (v1.1.map cdI.enc)), (6, .v (.int .i64 v1.2))], [mk 1 50 (r42.map (cdL 1 (cdL 1 cdI)).enc)]⟩) ?_ ?_
  · refine RunS.segF (n := 112) e_law09_Made_ok 6 [(4, hd 0 (r42.map (cdL 1 (cdL 1 cdI)).enc)), (5, .sl 1 (v1.1.map cdI.enc)), (6, .v (.int .i64 v1.2))] [mk 1 50 (r42.map (cdL 1 (cdL 1 cdI)).enc)] (by kernel_rfl) ?_
    exact RunS.done rfl (Wk.s3 [0] ⟨⟨_, rfl, bu_mk⟩, trivial⟩ ⟨lu_hd (b' := 0) (by kernel_rfl) (by kernel_rfl), lv, lv, trivial⟩)
  refine Sem.ret ?_
  have hq := Option.some.inj h; subst hq
  exact ⟨⟨Fr 112 [(4, .sl 1 (r42.map (cdL 1 (cdL 1 cdI)).enc)), (5, .sl 1 (v1.1.map cdI.enc)), (6, .v (.int .i64 v1.2))], []⟩, (Wk.trans (s1 := ⟨Fr 112 [(4, .sl 1 (r42.map (cdL 1 (cdL 1 cdI)).enc)), (5, .sl 1 (v1.1.map cdI.enc)), (6, .v (.int .i64 v1.2))], [none]⟩) (Wk.frzG 0 (.inl (by kernel_rfl)) ⟨.inl rfl, trivial⟩ ⟨⟨hd 0 (r42.map (cdL 1 (cdL 1 cdI)).enc), (by kernel_rfl), fz_hd (t := 50) (by kernel_rfl) enc_ok⟩, ⟨.sl 1 (v1.1.map cdI.enc), (by kernel_rfl), .inl rfl⟩, ⟨.v (.int .i64 v1.2), (by kernel_rfl), .inl rfl⟩, trivial⟩) (Wk.s3 [] trivial ⟨lv, lv, lv, trivial⟩)), .inr rfl, [.sl 1 (r42.map (cdL 1 (cdL 1 cdI)).enc), .sl 1 (v1.1.map cdI.enc), .v (.int .i64 v1.2)], (by kernel_rfl), (by kernel_rfl)⟩
def t_law09_Made : List AV → Option AV := told cs_law09_Made (fun a => law09_Made a.1 a.2.1) er_law09_Made
theorem x_law09_Made : XOk 25 t_law09_Made := by
  refine EnvOk.x (E := e_law09_Made) (contract_ok e_law09_Made_ok (fn := Tryd.f25) (c := cb_law09_Made) ?h1 ?h2 ⟨Tryd.call25⟩ cs_law09_Made (fun a => law09_Made a.1 a.2.1) er_law09_Made (fun a => (by show 2 ≤ 112; decide)) ?h3 ?h4) rfl rfl
  case h1 => kernel_rfl
  case h2 => kernel_rfl
  case h3 => intro b; kernel_rfl
  case h4 => exact fun a b h => law09_Made_sem a.1 a.2.1 b h
/- trestle/evening.guests -/
noncomputable def e_evening_guests : Env := E0
theorem e_evening_guests_ok : EnvOk e_evening_guests := E0_ok
noncomputable def cb_evening_guests : Code := codeOf Tryd.f82
def evening_guests (x0 : Int) : Option (Bool) :=
  (if (decide (x0 ≥ 1)) = true then some (decide (x0 ≤ 64)) else some false).bind fun j2 =>
  some j2
def cs_evening_guests : Cs (Int × Unit) := (csC cdI csN)
def er_evening_guests (r : Bool) : AV := cdB.enc r
set_option maxHeartbeats 4000000 in
set_option maxRecDepth 100000 in
theorem evening_guests_sem (x0 : Int) (r : Bool) (h : evening_guests x0 = some r) : Sem e_evening_guests ⟨none, false⟩ cb_evening_guests ⟨Fr 9 (pairs0 0 (cs_evening_guests.enc (x0, ()))), []⟩ fun e s' => (e = .normal ∨ e = .ret) ∧ ∃ xs, resA e_evening_guests.P s'.fr s'.hp Tryd.f82.results.toList = some xs ∧ retA xs = er_evening_guests r := by
  unfold evening_guests at h
  refine Sem.wkQ (Sem.wk (s1 := ⟨Fr 9 [(0, .v (.int .i64 x0))], []⟩) Wk.f1 ?_)
  refine Sem.seq ?_
  refine Sem.runS (s1 := ⟨Fr 9 [(0, .v (.int .i64 x0))], []⟩) ?_ ?_
  · refine RunS.segF (n := 9) e_evening_guests_ok 1 [(0, .v (.int .i64 x0))] [] (by kernel_rfl) ?_
    exact RunS.done rfl Wk.f1
  refine Sem.seq ?_
  obtain ⟨j2, hj2, h⟩ := Option.bind_eq_some_iff.1 h
  refine Sem.runS (s1 := ⟨Fr 9 [(2, .v (.bool j2))], []⟩) ?_ ?_
  · refine RunS.segF (n := 9) e_evening_guests_ok 3 [(0, .v (.int .i64 x0)), (5, .v (.bool (decide (x0 ≥ 1))))] [] (by kernel_rfl) ?_
    rcases Bool.eq_false_or_eq_true (decide (x0 ≥ 1)) with hc3 | hc3
    · rw [if_pos hc3] at hj2
      rw [hc3]
      refine RunS.segF (n := 9) e_evening_guests_ok 4 [(2, .v (.bool (decide (x0 ≤ 64))))] [] (by kernel_rfl) ?_
      have hq := Option.some.inj hj2; subst hq
      exact RunS.done rfl Wk.f1
    · rw [if_f hc3] at hj2
      rw [hc3]
      refine RunS.segF (n := 9) e_evening_guests_ok 4 [(2, .v (.bool false))] [] (by kernel_rfl) ?_
      have hq := Option.some.inj hj2; subst hq
      exact RunS.done rfl Wk.f1
  refine Sem.ret ?_
  have hq := Option.some.inj h; subst hq
  exact ⟨⟨Fr 9 [(2, .v (.bool j2))], []⟩, Wk.f1, .inr rfl, [.v (.bool j2)], (by kernel_rfl), (by kernel_rfl)⟩
def t_evening_guests : List AV → Option AV := told cs_evening_guests (fun a => evening_guests a.1) er_evening_guests
theorem x_evening_guests : XOk 82 t_evening_guests := by
  refine EnvOk.x (E := e_evening_guests) (contract_ok e_evening_guests_ok (fn := Tryd.f82) (c := cb_evening_guests) ?h1 ?h2 ⟨Tryd.call82⟩ cs_evening_guests (fun a => evening_guests a.1) er_evening_guests (fun a => (by show 1 ≤ 9; decide)) ?h3 ?h4) rfl rfl
  case h1 => kernel_rfl
  case h2 => kernel_rfl
  case h3 => intro b; kernel_rfl
  case h4 => exact fun a b h => evening_guests_sem a.1 b h
/- trestle/evening.fit -/
noncomputable def e_evening_fit : Env := (E0.withX 82 t_evening_guests)
theorem e_evening_fit_ok : EnvOk e_evening_fit := (EnvOk.withX E0_ok x_evening_guests.1 x_evening_guests.2)
noncomputable def cb_evening_fit : Code := codeOf Tryd.f67
def evening_fit_1 (x0 : Int) (x1 : (List Int)) : Nat → Int → Int → Option ((Int) ⊕ (Bool))
  | 0, _, _ => none
  | f + 1, c1, c2 =>
    if (decide (c2 < (x1.length : Int))) = true then
    (idx x1 c2).bind fun v4 =>
    (if (decide (v4 < 1)) = true then some true else some (decide (v4 > c1))).bind fun j6 =>
    if j6 = true then
    some (.inr false)
    else
    evening_fit_1 x0 x1 f (wr .i64 (c1 - v4)) (wr .i64 (c2 + 1))
    else
    some (.inl c1)
def evening_fit (x0 : Int) (x1 : (List Int)) : Option (Bool) :=
  (evening_fit_1 x0 x1 100000 x0 0).bind fun r11 =>
  match r11 with
  | (.inl w12) =>
    (evening_guests x0).bind fun v13 =>
    (if v13 = true then some (w12 == 0) else some false).bind fun j15 =>
    some j15
  | (.inr w17) =>
    some w17
def cs_evening_fit : Cs (Int × (List Int) × Unit) := (csC cdI (csC (cdL 1 cdI) csN))
def er_evening_fit (r : Bool) : AV := cdB.enc r
set_option maxHeartbeats 4000000 in
set_option maxRecDepth 100000 in
theorem evening_fit_1_ok (x0 : Int) (x1 : (List Int)) : ∀ (f : Nat) (c1 : Int) (c2 : Int) (r : (Int) ⊕ (Bool)), evening_fit_1 x0 x1 f c1 c2 = some r → SemN e_evening_fit ⟨none, false⟩ (pc cb_evening_fit [1, 1, 0, 1, 0, 0]) f ⟨Fr 32 [(0, .v (.int .i64 x0)), (5, .v (.int .i64 c1)), (9, .sl 1 (x1.map cdI.enc)), (10, .v (.int .i64 (x1.length : Int))), (11, .v (.int .i64 c2))], []⟩ (fun e s => match r with
  | (.inl w) => e = (.exit 0) ∧ Wk e_evening_fit s ⟨Fr 32 [(0, .v (.int .i64 x0)), (5, .v (.int .i64 w))], []⟩
  | (.inr w) => e = .ret ∧ Wk e_evening_fit s ⟨Fr 32 [(4, .v (.bool w))], []⟩) := by
  intro f
  induction f with
  | zero => intro c1 c2 r h; cases h
  | succ f ih0 =>
    intro c1 c2 r h
    have ih := fun (c1 : Int) (c2 : Int) => ih0 c1 c2 r
    unfold evening_fit_1 at h
    refine SemN.succ ?_
    refine Sem.seq ?_
    refine Sem.runS (s1 := ⟨Fr 32 [(0, .v (.int .i64 x0)), (5, .v (.int .i64 c1)), (9, .sl 1 (x1.map cdI.enc)), (10, .v (.int .i64 (x1.length : Int))), (11, .v (.int .i64 c2)), (12, .v (.bool (decide (c2 < (x1.length : Int)))))], []⟩) ?_ ?_
    · refine RunS.segF (n := 32) e_evening_fit_ok 1 [(0, .v (.int .i64 x0)), (5, .v (.int .i64 c1)), (9, .sl 1 (x1.map cdI.enc)), (10, .v (.int .i64 (x1.length : Int))), (11, .v (.int .i64 c2)), (12, .v (.bool (decide (c2 < (x1.length : Int)))))] [] (by kernel_rfl) ?_
      exact RunS.done rfl Wk.f1
    refine Sem.seq ?_
    refine Sem.cond (b := (decide (c2 < (x1.length : Int)))) (by kernel_rfl) (fun hb3 => ?_) (fun hb3 => ?_)
    · rw [if_pos hb3] at h
      refine Sem.skip ?_
      refine Sem.seq ?_
      refine Sem.block ?_
      refine Sem.seq ?_
      obtain ⟨v4, hv4, h⟩ := Option.bind_eq_some_iff.1 h
      refine Sem.runS (s1 := ⟨Fr 32 [(0, .v (.int .i64 x0)), (5, .v (.int .i64 c1)), (7, .v (.int .i64 v4)), (9, .sl 1 (x1.map cdI.enc)), (10, .v (.int .i64 (x1.length : Int))), (11, .v (.int .i64 c2))], []⟩) ?_ ?_
      · refine RunS.one e_evening_fit_ok 0 rfl (op_q (wantedA_none rfl) rfl (q_indexAddr (a := .sl 1 (x1.map cdI.enc)) (b := .v (.int .i64 c2)) (by kernel_rfl) (by kernel_rfl) (ix_sl (e := cdI.enc) (el := 3) (k := 1) (ki := .i64) (by kernel_rfl) (by kernel_rfl) hv4))) ?_
        refine RunS.segF (n := 32) e_evening_fit_ok 2 [(0, .v (.int .i64 x0)), (5, .v (.int .i64 c1)), (7, .v (.int .i64 v4)), (9, .sl 1 (x1.map cdI.enc)), (10, .v (.int .i64 (x1.length : Int))), (11, .v (.int .i64 c2))] [] (by kernel_rfl) ?_
        exact RunS.done rfl Wk.f1
      refine Sem.seq ?_
      refine Sem.seq ?_
      obtain ⟨j6, hj6, h⟩ := Option.bind_eq_some_iff.1 h
      refine Sem.runS (s1 := ⟨Fr 32 [(0, .v (.int .i64 x0)), (5, .v (.int .i64 c1)), (7, .v (.int .i64 v4)), (9, .sl 1 (x1.map cdI.enc)), (10, .v (.int .i64 (x1.length : Int))), (11, .v (.int .i64 c2)), (21, .v (.bool j6))], []⟩) ?_ ?_
      · refine RunS.segF (n := 32) e_evening_fit_ok 3 [(0, .v (.int .i64 x0)), (5, .v (.int .i64 c1)), (7, .v (.int .i64 v4)), (9, .sl 1 (x1.map cdI.enc)), (10, .v (.int .i64 (x1.length : Int))), (11, .v (.int .i64 c2)), (17, .v (.bool (decide (v4 < 1))))] [] (by kernel_rfl) ?_
        rcases Bool.eq_false_or_eq_true (decide (v4 < 1)) with hc9 | hc9
        · rw [if_pos hc9] at hj6
          rw [hc9]
          refine RunS.segF (n := 32) e_evening_fit_ok 4 [(0, .v (.int .i64 x0)), (5, .v (.int .i64 c1)), (7, .v (.int .i64 v4)), (9, .sl 1 (x1.map cdI.enc)), (10, .v (.int .i64 (x1.length : Int))), (11, .v (.int .i64 c2)), (18, .tp []), (19, .tp []), (20, .tp []), (21, .v (.bool true))] [] (by kernel_rfl) ?_
          have hq := Option.some.inj hj6; subst hq
          exact RunS.done rfl Wk.f1
        · rw [if_f hc9] at hj6
          rw [hc9]
          refine RunS.segF (n := 32) e_evening_fit_ok 4 [(0, .v (.int .i64 x0)), (5, .v (.int .i64 c1)), (7, .v (.int .i64 v4)), (9, .sl 1 (x1.map cdI.enc)), (10, .v (.int .i64 (x1.length : Int))), (11, .v (.int .i64 c2)), (18, .v (.int .i64 v4)), (19, .v (.int .i64 c1)), (20, .v (.bool (decide (v4 > c1)))), (21, .v (.bool (decide (v4 > c1))))] [] (by kernel_rfl) ?_
          have hq := Option.some.inj hj6; subst hq
          exact RunS.done rfl Wk.f1
      refine Sem.cond (b := j6) (by kernel_rfl) (fun hb7 => ?_) (fun hb7 => ?_)
      · rw [if_pos hb7] at h
        refine Sem.seq ?_
        refine Sem.runS (s1 := ⟨Fr 32 [(4, .v (.bool false))], []⟩) ?_ ?_
        · refine RunS.segF (n := 32) e_evening_fit_ok 1 [(4, .v (.bool false))] [] (by kernel_rfl) ?_
          exact RunS.done rfl Wk.f1
        refine Sem.ret ?_
        have hq := Option.some.inj h; subst hq
        exact ⟨rfl, Wk.f1⟩
      · rw [if_f hb7] at h
        refine Sem.skip ?_
        refine Sem.runS (s1 := ⟨Fr 32 [(0, .v (.int .i64 x0)), (5, .v (.int .i64 (wr .i64 (c1 - v4)))), (9, .sl 1 (x1.map cdI.enc)), (10, .v (.int .i64 (x1.length : Int))), (11, .v (.int .i64 c2))], []⟩) ?_ ?_
        · refine RunS.segF (n := 32) e_evening_fit_ok 4 [(0, .v (.int .i64 x0)), (5, .v (.int .i64 (wr .i64 (c1 - v4)))), (9, .sl 1 (x1.map cdI.enc)), (10, .v (.int .i64 (x1.length : Int))), (11, .v (.int .i64 c2))] [] (by kernel_rfl) ?_
          exact RunS.done rfl Wk.f1
        refine Sem.runS (s1 := ⟨Fr 32 [(0, .v (.int .i64 x0)), (5, .v (.int .i64 (wr .i64 (c1 - v4)))), (9, .sl 1 (x1.map cdI.enc)), (10, .v (.int .i64 (x1.length : Int))), (11, .v (.int .i64 (wr .i64 (c2 + 1))))], []⟩) ?_ ?_
        · refine RunS.segF (n := 32) e_evening_fit_ok 2 [(0, .v (.int .i64 x0)), (5, .v (.int .i64 (wr .i64 (c1 - v4)))), (9, .sl 1 (x1.map cdI.enc)), (10, .v (.int .i64 (x1.length : Int))), (11, .v (.int .i64 (wr .i64 (c2 + 1))))] [] (by kernel_rfl) ?_
          exact RunS.done rfl Wk.f1
        exact SemN.wk (s1 := ⟨Fr 32 [(0, .v (.int .i64 x0)), (5, .v (.int .i64 (wr .i64 (c1 - v4)))), (9, .sl 1 (x1.map cdI.enc)), (10, .v (.int .i64 (x1.length : Int))), (11, .v (.int .i64 (wr .i64 (c2 + 1))))], []⟩) Wk.f1 (ih (wr .i64 (c1 - v4)) (wr .i64 (c2 + 1)) h)
    · rw [if_f hb3] at h
      refine Sem.exit ?_
      have hq := Option.some.inj h; subst hq
      exact ⟨rfl, Wk.f1⟩
set_option maxHeartbeats 4000000 in
set_option maxRecDepth 100000 in
theorem evening_fit_sem (x0 : Int) (x1 : (List Int)) (r : Bool) (h : evening_fit x0 x1 = some r) : Sem e_evening_fit ⟨none, false⟩ cb_evening_fit ⟨Fr 32 (pairs0 0 (cs_evening_fit.enc (x0, x1, ()))), []⟩ fun e s' => (e = .normal ∨ e = .ret) ∧ ∃ xs, resA e_evening_fit.P s'.fr s'.hp Tryd.f67.results.toList = some xs ∧ retA xs = er_evening_fit r := by
  unfold evening_fit at h
  refine Sem.wkQ (Sem.wk (s1 := ⟨Fr 32 [(0, .v (.int .i64 x0)), (1, .sl 1 (x1.map cdI.enc))], []⟩) Wk.f1 ?_)
  refine Sem.seq ?_
  refine Sem.runS (s1 := ⟨Fr 32 [(0, .v (.int .i64 x0)), (1, .sl 1 (x1.map cdI.enc))], []⟩) ?_ ?_
  · refine RunS.segF (n := 32) e_evening_fit_ok 1 [(0, .v (.int .i64 x0)), (1, .sl 1 (x1.map cdI.enc))] [] (by kernel_rfl) ?_
    exact RunS.done rfl Wk.f1
  refine Sem.seq ?_
  refine Sem.runS (s1 := ⟨Fr 32 [(0, .v (.int .i64 x0)), (1, .sl 1 (x1.map cdI.enc)), (5, .v (.int .i64 x0))], []⟩) ?_ ?_
  · refine RunS.segF (n := 32) e_evening_fit_ok 2 [(0, .v (.int .i64 x0)), (1, .sl 1 (x1.map cdI.enc)), (5, .v (.int .i64 x0))] [] (by kernel_rfl) ?_
    exact RunS.done rfl Wk.f1
  refine Sem.seq ?_
  refine Sem.seq ?_
  refine Sem.runS (s1 := ⟨Fr 32 [(0, .v (.int .i64 x0)), (5, .v (.int .i64 x0)), (9, .sl 1 (x1.map cdI.enc)), (10, .v (.int .i64 (x1.length : Int))), (11, .v (.int .i64 0))], []⟩) ?_ ?_
  · refine RunS.segF (n := 32) e_evening_fit_ok 1 [(0, .v (.int .i64 x0)), (5, .v (.int .i64 x0)), (9, .sl 1 (x1.map cdI.enc))] [] (by kernel_rfl) ?_
    refine RunS.one e_evening_fit_ok 0 rfl (op_q (wantedA_none rfl) rfl (q_len (a := .sl 1 (x1.map cdI.enc)) (by kernel_rfl) (len_sl (el := 3) (by kernel_rfl)))) ?_
    refine RunS.segF (n := 32) e_evening_fit_ok 1 [(0, .v (.int .i64 x0)), (5, .v (.int .i64 x0)), (9, .sl 1 (x1.map cdI.enc)), (10, .v (.int .i64 (x1.length : Int))), (11, .v (.int .i64 0))] [] (by kernel_rfl) ?_
    exact RunS.done rfl Wk.f1
  refine Sem.block ?_
  obtain ⟨r11, hr11, h⟩ := Option.bind_eq_some_iff.1 h
  refine Sem.loop (n := 100000) ?_
  rcases r11 with w12 | w17
  · try dsimp only at h
    refine Sem.cutN (SemN.wk (s1 := ⟨Fr 32 [(0, .v (.int .i64 x0)), (5, .v (.int .i64 x0)), (9, .sl 1 (x1.map cdI.enc)), (10, .v (.int .i64 (x1.length : Int))), (11, .v (.int .i64 0))], []⟩) Wk.f1 (evening_fit_1_ok x0 x1 _ x0 0 _ hr11)) ?_
    refine Sem.seq ?_
    obtain ⟨v13, hv13, h⟩ := Option.bind_eq_some_iff.1 h
    obtain ⟨j15, hj15, h⟩ := Option.bind_eq_some_iff.1 h
    refine Sem.runS (s1 := ⟨Fr 32 [(4, .v (.bool j15))], []⟩) ?_ ?_
    · refine RunS.segF (n := 32) e_evening_fit_ok 1 [(5, .v (.int .i64 w12)), (26, .v (.int .i64 x0))] [] (by kernel_rfl) ?_
      refine RunS.call e_evening_fit_ok (fid := 82) (s := cs_evening_guests) (F := fun a => evening_guests a.1) (er := er_evening_guests) (xs := [.v (.int .i64 x0)]) (a := (x0, ())) rfl (wantedA_none rfl) (by kernel_rfl) (by kernel_rfl) (by kernel_rfl) (by kernel_rfl) (Sns.cons (Sn.enc (c := cdI) (v := x0)) Sns.nil) (.inl (by kernel_rfl)) hv13 ?_
      refine RunS.segF (n := 32) e_evening_fit_ok 1 [(5, .v (.int .i64 w12)), (28, .v (.bool v13))] [] (by kernel_rfl) ?_
      rcases Bool.eq_false_or_eq_true v13 with hc16 | hc16
      · rw [if_pos hc16] at hj15
        rw [hc16]
        refine RunS.segF (n := 32) e_evening_fit_ok 4 [(4, .v (.bool (w12 == 0)))] [] (by kernel_rfl) ?_
        have hq := Option.some.inj hj15; subst hq
        exact RunS.done rfl Wk.f1
      · rw [if_f hc16] at hj15
        rw [hc16]
        refine RunS.segF (n := 32) e_evening_fit_ok 4 [(4, .v (.bool false))] [] (by kernel_rfl) ?_
        have hq := Option.some.inj hj15; subst hq
        exact RunS.done rfl Wk.f1
    refine Sem.ret ?_
    have hq := Option.some.inj h; subst hq
    exact ⟨⟨Fr 32 [(4, .v (.bool j15))], []⟩, Wk.f1, .inr rfl, [.v (.bool j15)], (by kernel_rfl), (by kernel_rfl)⟩
  · try dsimp only at h
    refine Sem.cutN (SemN.wk (s1 := ⟨Fr 32 [(0, .v (.int .i64 x0)), (5, .v (.int .i64 x0)), (9, .sl 1 (x1.map cdI.enc)), (10, .v (.int .i64 (x1.length : Int))), (11, .v (.int .i64 0))], []⟩) Wk.f1 (evening_fit_1_ok x0 x1 _ x0 0 _ hr11)) ?_
    have hq := Option.some.inj h; subst hq
    exact ⟨⟨Fr 32 [(4, .v (.bool w17))], []⟩, Wk.f1, .inr rfl, [.v (.bool w17)], (by kernel_rfl), (by kernel_rfl)⟩
def t_evening_fit : List AV → Option AV := told cs_evening_fit (fun a => evening_fit a.1 a.2.1) er_evening_fit
theorem x_evening_fit : XOk 67 t_evening_fit := by
  refine EnvOk.x (E := e_evening_fit) (contract_ok e_evening_fit_ok (fn := Tryd.f67) (c := cb_evening_fit) ?h1 ?h2 ⟨Tryd.call67⟩ cs_evening_fit (fun a => evening_fit a.1 a.2.1) er_evening_fit (fun a => (by show 2 ≤ 32; decide)) ?h3 ?h4) rfl rfl
  case h1 => kernel_rfl
  case h2 => kernel_rfl
  case h3 => intro b; kernel_rfl
  case h4 => exact fun a b h => evening_fit_sem a.1 a.2.1 b h
/- trestle/evening.check -/
noncomputable def e_evening_check : Env := E0
theorem e_evening_check_ok : EnvOk e_evening_check := E0_ok
noncomputable def cb_evening_check : Code := codeOf Tryd.f83
def evening_check_j3 (_x0 : Int) (_x1 : (List Int)) (_x2 : (List (List Int))) (_c9 : Int) (_v11 : (List Int)) (c18 : Int) (_c20 : Bool) (_c22 : Int) (_v24 : Int) (_j32 : Bool × (List Bool)) (v33 : Bool) : Option ((Int)) :=
  if (!v33) = true then
  some (wr .i64 (c18 + 1))
  else
  some c18
def evening_check_2 (x0 : Int) (x1 : (List Int)) (x2 : (List (List Int))) (c9 : Int) (v11 : (List Int)) : Nat → Int → Bool → Bool → (List Bool) → Int → Option ((Int × Bool × Bool × (List Bool)))
  | 0, _, _, _, _, _ => none
  | f + 1, c18, c19, c20, c21, c22 =>
    if (decide (c22 < (v11.length : Int))) = true then
    (idx v11 c22).bind fun v24 =>
    (if (decide (v24 < 0)) = true then some (c21, true) else some (c21, (decide (v24 ≥ x0)))).bind fun j27 =>
    if j27.2 = true then
    evening_check_2 x0 x1 x2 c9 v11 f c18 c19 true j27.1 (wr .i64 (c22 + 1))
    else
    (if c19 = true then some (true, j27.1) else (idx j27.1 v24).bind fun v29 =>
    some (v29, j27.1)).bind fun j32 =>
    (idx j32.2 v24).bind fun v33 =>
    (evening_check_j3 x0 x1 x2 c9 v11 c18 c20 c22 v24 j32 v33).bind fun r36 =>
    (idx j32.2 v24).bind fun _v37 =>
    evening_check_2 x0 x1 x2 c9 v11 f r36 j32.1 c20 (j32.2.set v24.toNat true) (wr .i64 (c22 + 1))
    else
    some (c18, c19, c20, c21)
def evening_check_1 (x0 : Int) (x1 : (List Int)) (x2 : (List (List Int))) : Nat → Int → Bool → Bool → (List Bool) → Int → Option ((Int × Bool × Bool) ⊕ (Int))
  | 0, _, _, _, _, _ => none
  | f + 1, c5, c6, c7, c8, c9 =>
    if (decide (c9 < (x2.length : Int))) = true then
    (idx x2 c9).bind fun v11 =>
    (if ((v11.length : Int) == 0) = true then some (c8, true) else if (decide ((x1.length : Int) > 0)) = true then (idx x1 c9).bind fun v12 =>
    some (c8, ((v11.length : Int) != v12)) else some (c8, false)).bind fun j15 =>
    if j15.2 = true then
    some (.inr 2)
    else
    (evening_check_2 x0 x1 x2 c9 v11 100000 c5 c6 c7 j15.1 0).bind fun r44 =>
    evening_check_1 x0 x1 x2 f r44.1 r44.2.1 r44.2.2.1 r44.2.2.2 (wr .i64 (c9 + 1))
    else
    some (.inl (c5, c6, c7))
def evening_check (x0 : Int) (x1 : (List Int)) (x2 : (List (List Int))) : Option (Int) :=
  (if (decide ((x1.length : Int) > 0)) = true then some ((x1.length : Int) != (x2.length : Int)) else some false).bind fun j2 =>
  if j2 = true then
  some 2
  else
  if (mkOk 1 x0) = true then
  (evening_check_1 x0 x1 x2 100000 0 false false (List.replicate x0.toNat false) 0).bind fun r50 =>
  match r50 with
  | (.inl w51) =>
    if w51.2.2 = true then
    some 6
    else
    if w51.2.1 = true then
    some 5
    else
    if (decide (w51.1 < x0)) = true then
    some 2
    else
    some 0
  | (.inr w55) =>
    some w55
  else none
def cs_evening_check : Cs (Int × (List Int) × (List (List Int)) × Unit) := (csC cdI (csC (cdL 1 cdI) (csC (cdL 1 (cdL 1 cdI)) csN)))
def er_evening_check (r : Int) : AV := cdI.enc r
set_option maxHeartbeats 4000000 in
set_option maxRecDepth 100000 in
theorem evening_check_j3_ok (x0 : Int) (x1 : (List Int)) (x2 : (List (List Int))) (c9 : Int) (v11 : (List Int)) (c18 : Int) (c20 : Bool) (c22 : Int) (v24 : Int) (j32 : Bool × (List Bool)) (v33 : Bool) (r : (Int)) (h : evening_check_j3 x0 x1 x2 c9 v11 c18 c20 c22 v24 j32 v33 = some r) : Sem e_evening_check ⟨none, false⟩ (pc cb_evening_check [1, 1, 1, 1, 0, 1, 0, 0, 1, 1, 0, 0, 1, 1, 1, 0, 0, 1, 1, 0, 0, 1, 1, 1, 0, 1]) ⟨Fr 91 [(0, .v (.int .i64 x0)), (1, .sl 1 (x1.map cdI.enc)), (7, .v (.int .i64 c18)), (8, .v (.bool j32.1)), (9, .v (.bool c20)), (10, .rf 0 0 j32.2.length j32.2.length), (14, .v (.int .i64 v24)), (27, .sl 1 (x2.map (cdL 1 cdI).enc)), (28, .v (.int .i64 (x2.length : Int))), (29, .v (.int .i64 c9)), (51, .sl 1 (v11.map cdI.enc)), (52, .v (.int .i64 (v11.length : Int))), (53, .v (.int .i64 c22)), (75, .v (.bool (!v33)))], [some ⟨1, 4, (j32.2.map cdB.enc), false⟩]⟩ (fun e s => e = .normal ∧ Wk e_evening_check s ⟨Fr 91 [(0, .v (.int .i64 x0)), (1, .sl 1 (x1.map cdI.enc)), (7, .v (.int .i64 r)), (8, .v (.bool j32.1)), (9, .v (.bool c20)), (10, .rf 0 0 j32.2.length j32.2.length), (14, .v (.int .i64 v24)), (27, .sl 1 (x2.map (cdL 1 cdI).enc)), (28, .v (.int .i64 (x2.length : Int))), (29, .v (.int .i64 c9)), (51, .sl 1 (v11.map cdI.enc)), (52, .v (.int .i64 (v11.length : Int))), (53, .v (.int .i64 c22))], [some ⟨1, 4, (j32.2.map cdB.enc), false⟩]⟩) := by
  unfold evening_check_j3 at h
  refine Sem.cond (b := (!v33)) (by kernel_rfl) (fun hb34 => ?_) (fun hb34 => ?_)
  · rw [if_pos hb34] at h
    refine Sem.runS (s1 := ⟨Fr 91 [(0, .v (.int .i64 x0)), (1, .sl 1 (x1.map cdI.enc)), (7, .v (.int .i64 (wr .i64 (c18 + 1)))), (8, .v (.bool j32.1)), (9, .v (.bool c20)), (10, .rf 0 0 j32.2.length j32.2.length), (14, .v (.int .i64 v24)), (27, .sl 1 (x2.map (cdL 1 cdI).enc)), (28, .v (.int .i64 (x2.length : Int))), (29, .v (.int .i64 c9)), (51, .sl 1 (v11.map cdI.enc)), (52, .v (.int .i64 (v11.length : Int))), (53, .v (.int .i64 c22))], [some ⟨1, 4, (j32.2.map cdB.enc), false⟩]⟩) ?_ ?_
    · refine RunS.segF (n := 91) e_evening_check_ok 3 [(0, .v (.int .i64 x0)), (1, .sl 1 (x1.map cdI.enc)), (7, .v (.int .i64 (wr .i64 (c18 + 1)))), (8, .v (.bool j32.1)), (9, .v (.bool c20)), (10, .rf 0 0 j32.2.length j32.2.length), (14, .v (.int .i64 v24)), (27, .sl 1 (x2.map (cdL 1 cdI).enc)), (28, .v (.int .i64 (x2.length : Int))), (29, .v (.int .i64 c9)), (51, .sl 1 (v11.map cdI.enc)), (52, .v (.int .i64 (v11.length : Int))), (53, .v (.int .i64 c22))] [some ⟨1, 4, (j32.2.map cdB.enc), false⟩] (by kernel_rfl) ?_
      exact RunS.done rfl (Wk.s3 [0] ⟨⟨_, rfl, bu_own⟩, trivial⟩ ⟨lv, lv, lv, lv, lv, lv, lv, lv, lv, lv, lv, lv, lv, trivial⟩)
    have hq := Option.some.inj h; subst hq
    exact ⟨rfl, (Wk.s3 [0] ⟨⟨_, rfl, bu_own⟩, trivial⟩ ⟨lv, lv, lv, lv, lv, lv, lv, lv, lv, lv, lv, lv, lv, trivial⟩)⟩
  · rw [if_f hb34] at h
    refine Sem.skip ?_
    have hq := Option.some.inj h; subst hq
    exact ⟨rfl, (Wk.s3 [0] ⟨⟨_, rfl, bu_own⟩, trivial⟩ ⟨lv, lv, lv, lv, lv, lv, lv, lv, lv, lv, lv, lv, lv, trivial⟩)⟩
set_option maxHeartbeats 4000000 in
set_option maxRecDepth 100000 in
theorem evening_check_2_ok (x0 : Int) (x1 : (List Int)) (x2 : (List (List Int))) (c9 : Int) (v11 : (List Int)) : ∀ (f : Nat) (c18 : Int) (c19 : Bool) (c20 : Bool) (c21 : (List Bool)) (c22 : Int) (r : (Int × Bool × Bool × (List Bool))), evening_check_2 x0 x1 x2 c9 v11 f c18 c19 c20 c21 c22 = some r → SemN e_evening_check ⟨none, false⟩ (pc cb_evening_check [1, 1, 1, 1, 0, 1, 0, 0, 1, 1, 0, 0, 1, 1, 1, 0, 0]) f ⟨Fr 91 [(0, .v (.int .i64 x0)), (1, .sl 1 (x1.map cdI.enc)), (7, .v (.int .i64 c18)), (8, .v (.bool c19)), (9, .v (.bool c20)), (10, .rf 0 0 c21.length c21.length), (27, .sl 1 (x2.map (cdL 1 cdI).enc)), (28, .v (.int .i64 (x2.length : Int))), (29, .v (.int .i64 c9)), (51, .sl 1 (v11.map cdI.enc)), (52, .v (.int .i64 (v11.length : Int))), (53, .v (.int .i64 c22))], [some ⟨1, 4, (c21.map cdB.enc), false⟩]⟩ (fun e s => e = (.exit 2) ∧ Wk e_evening_check s ⟨Fr 91 [(0, .v (.int .i64 x0)), (1, .sl 1 (x1.map cdI.enc)), (7, .v (.int .i64 r.1)), (8, .v (.bool r.2.1)), (9, .v (.bool r.2.2.1)), (10, .rf 0 0 r.2.2.2.length r.2.2.2.length), (27, .sl 1 (x2.map (cdL 1 cdI).enc)), (28, .v (.int .i64 (x2.length : Int))), (29, .v (.int .i64 c9))], [some ⟨1, 4, (r.2.2.2.map cdB.enc), false⟩]⟩) := by
  intro f
  induction f with
  | zero => intro c18 c19 c20 c21 c22 r h; cases h
  | succ f ih0 =>
    intro c18 c19 c20 c21 c22 r h
    have ih := fun (c18 : Int) (c19 : Bool) (c20 : Bool) (c21 : (List Bool)) (c22 : Int) => ih0 c18 c19 c20 c21 c22 r
    unfold evening_check_2 at h
    refine SemN.succ ?_
    refine Sem.seq ?_
    refine Sem.runS (s1 := ⟨Fr 91 [(0, .v (.int .i64 x0)), (1, .sl 1 (x1.map cdI.enc)), (7, .v (.int .i64 c18)), (8, .v (.bool c19)), (9, .v (.bool c20)), (10, .rf 0 0 c21.length c21.length), (27, .sl 1 (x2.map (cdL 1 cdI).enc)), (28, .v (.int .i64 (x2.length : Int))), (29, .v (.int .i64 c9)), (51, .sl 1 (v11.map cdI.enc)), (52, .v (.int .i64 (v11.length : Int))), (53, .v (.int .i64 c22)), (54, .v (.bool (decide (c22 < (v11.length : Int)))))], [some ⟨1, 4, (c21.map cdB.enc), false⟩]⟩) ?_ ?_
    · refine RunS.segF (n := 91) e_evening_check_ok 1 [(0, .v (.int .i64 x0)), (1, .sl 1 (x1.map cdI.enc)), (7, .v (.int .i64 c18)), (8, .v (.bool c19)), (9, .v (.bool c20)), (10, .rf 0 0 c21.length c21.length), (27, .sl 1 (x2.map (cdL 1 cdI).enc)), (28, .v (.int .i64 (x2.length : Int))), (29, .v (.int .i64 c9)), (51, .sl 1 (v11.map cdI.enc)), (52, .v (.int .i64 (v11.length : Int))), (53, .v (.int .i64 c22)), (54, .v (.bool (decide (c22 < (v11.length : Int)))))] [some ⟨1, 4, (c21.map cdB.enc), false⟩] (by kernel_rfl) ?_
      exact RunS.done rfl (Wk.s3 [0] ⟨⟨_, rfl, bu_own⟩, trivial⟩ ⟨lv, lv, lv, lv, lv, lv, lv, lv, lv, lv, lv, lv, lv, trivial⟩)
    refine Sem.seq ?_
    refine Sem.cond (b := (decide (c22 < (v11.length : Int)))) (by kernel_rfl) (fun hb23 => ?_) (fun hb23 => ?_)
    · rw [if_pos hb23] at h
      refine Sem.skip ?_
      refine Sem.seq ?_
      refine Sem.block ?_
      refine Sem.seq ?_
      obtain ⟨v24, hv24, h⟩ := Option.bind_eq_some_iff.1 h
      refine Sem.runS (s1 := ⟨Fr 91 [(0, .v (.int .i64 x0)), (1, .sl 1 (x1.map cdI.enc)), (7, .v (.int .i64 c18)), (8, .v (.bool c19)), (9, .v (.bool c20)), (10, .rf 0 0 c21.length c21.length), (14, .v (.int .i64 v24)), (27, .sl 1 (x2.map (cdL 1 cdI).enc)), (28, .v (.int .i64 (x2.length : Int))), (29, .v (.int .i64 c9)), (51, .sl 1 (v11.map cdI.enc)), (52, .v (.int .i64 (v11.length : Int))), (53, .v (.int .i64 c22))], [some ⟨1, 4, (c21.map cdB.enc), false⟩]⟩) ?_ ?_
      · refine RunS.one e_evening_check_ok 0 rfl (op_q (wantedA_none rfl) rfl (q_indexAddr (a := .sl 1 (v11.map cdI.enc)) (b := .v (.int .i64 c22)) (by kernel_rfl) (by kernel_rfl) (ix_sl (e := cdI.enc) (el := 3) (k := 1) (ki := .i64) (by kernel_rfl) (by kernel_rfl) hv24))) ?_
        refine RunS.segF (n := 91) e_evening_check_ok 2 [(0, .v (.int .i64 x0)), (1, .sl 1 (x1.map cdI.enc)), (7, .v (.int .i64 c18)), (8, .v (.bool c19)), (9, .v (.bool c20)), (10, .rf 0 0 c21.length c21.length), (14, .v (.int .i64 v24)), (27, .sl 1 (x2.map (cdL 1 cdI).enc)), (28, .v (.int .i64 (x2.length : Int))), (29, .v (.int .i64 c9)), (51, .sl 1 (v11.map cdI.enc)), (52, .v (.int .i64 (v11.length : Int))), (53, .v (.int .i64 c22))] [some ⟨1, 4, (c21.map cdB.enc), false⟩] (by kernel_rfl) ?_
        exact RunS.done rfl (Wk.s3 [0] ⟨⟨_, rfl, bu_own⟩, trivial⟩ ⟨lv, lv, lv, lv, lv, lv, lv, lv, lv, lv, lv, lv, lv, trivial⟩)
      refine Sem.seq ?_
      refine Sem.seq ?_
      obtain ⟨j27, hj27, h⟩ := Option.bind_eq_some_iff.1 h
      refine Sem.runS (s1 := ⟨Fr 91 [(0, .v (.int .i64 x0)), (1, .sl 1 (x1.map cdI.enc)), (7, .v (.int .i64 c18)), (8, .v (.bool c19)), (9, .v (.bool c20)), (10, .rf 0 0 j27.1.length j27.1.length), (14, .v (.int .i64 v24)), (27, .sl 1 (x2.map (cdL 1 cdI).enc)), (28, .v (.int .i64 (x2.length : Int))), (29, .v (.int .i64 c9)), (51, .sl 1 (v11.map cdI.enc)), (52, .v (.int .i64 (v11.length : Int))), (53, .v (.int .i64 c22)), (63, .v (.bool j27.2))], [some ⟨1, 4, (j27.1.map cdB.enc), false⟩]⟩) ?_ ?_
      · refine RunS.segF (n := 91) e_evening_check_ok 3 [(0, .v (.int .i64 x0)), (1, .sl 1 (x1.map cdI.enc)), (7, .v (.int .i64 c18)), (8, .v (.bool c19)), (9, .v (.bool c20)), (10, .rf 0 0 c21.length c21.length), (14, .v (.int .i64 v24)), (27, .sl 1 (x2.map (cdL 1 cdI).enc)), (28, .v (.int .i64 (x2.length : Int))), (29, .v (.int .i64 c9)), (51, .sl 1 (v11.map cdI.enc)), (52, .v (.int .i64 (v11.length : Int))), (53, .v (.int .i64 c22)), (59, .v (.bool (decide (v24 < 0))))] [some ⟨1, 4, (c21.map cdB.enc), false⟩] (by kernel_rfl) ?_
        rcases Bool.eq_false_or_eq_true (decide (v24 < 0)) with hc39 | hc39
        · rw [if_pos hc39] at hj27
          rw [hc39]
          refine RunS.segF (n := 91) e_evening_check_ok 4 [(0, .v (.int .i64 x0)), (1, .sl 1 (x1.map cdI.enc)), (7, .v (.int .i64 c18)), (8, .v (.bool c19)), (9, .v (.bool c20)), (10, .rf 0 0 c21.length c21.length), (14, .v (.int .i64 v24)), (27, .sl 1 (x2.map (cdL 1 cdI).enc)), (28, .v (.int .i64 (x2.length : Int))), (29, .v (.int .i64 c9)), (51, .sl 1 (v11.map cdI.enc)), (52, .v (.int .i64 (v11.length : Int))), (53, .v (.int .i64 c22)), (60, .tp []), (61, .tp []), (62, .tp []), (63, .v (.bool true))] [some ⟨1, 4, (c21.map cdB.enc), false⟩] (by kernel_rfl) ?_
          have hq := Option.some.inj hj27; subst hq
          exact RunS.done rfl (Wk.s3 [0] ⟨⟨_, rfl, bu_own⟩, trivial⟩ ⟨lv, lv, lv, lv, lv, lv, lv, lv, lv, lv, lv, lv, lv, lv, trivial⟩)
        · rw [if_f hc39] at hj27
          rw [hc39]
          refine RunS.segF (n := 91) e_evening_check_ok 4 [(0, .v (.int .i64 x0)), (1, .sl 1 (x1.map cdI.enc)), (7, .v (.int .i64 c18)), (8, .v (.bool c19)), (9, .v (.bool c20)), (10, .rf 0 0 c21.length c21.length), (14, .v (.int .i64 v24)), (27, .sl 1 (x2.map (cdL 1 cdI).enc)), (28, .v (.int .i64 (x2.length : Int))), (29, .v (.int .i64 c9)), (51, .sl 1 (v11.map cdI.enc)), (52, .v (.int .i64 (v11.length : Int))), (53, .v (.int .i64 c22)), (60, .v (.int .i64 v24)), (61, .v (.int .i64 x0)), (62, .v (.bool (decide (v24 ≥ x0)))), (63, .v (.bool (decide (v24 ≥ x0))))] [some ⟨1, 4, (c21.map cdB.enc), false⟩] (by kernel_rfl) ?_
          have hq := Option.some.inj hj27; subst hq
          exact RunS.done rfl (Wk.s3 [0] ⟨⟨_, rfl, bu_own⟩, trivial⟩ ⟨lv, lv, lv, lv, lv, lv, lv, lv, lv, lv, lv, lv, lv, lv, trivial⟩)
      refine Sem.cond (b := j27.2) (by kernel_rfl) (fun hb28 => ?_) (fun hb28 => ?_)
      · rw [if_pos hb28] at h
        refine Sem.seq ?_
        refine Sem.runS (s1 := ⟨Fr 91 [(0, .v (.int .i64 x0)), (1, .sl 1 (x1.map cdI.enc)), (7, .v (.int .i64 c18)), (8, .v (.bool c19)), (9, .v (.bool true)), (10, .rf 0 0 j27.1.length j27.1.length), (27, .sl 1 (x2.map (cdL 1 cdI).enc)), (28, .v (.int .i64 (x2.length : Int))), (29, .v (.int .i64 c9)), (51, .sl 1 (v11.map cdI.enc)), (52, .v (.int .i64 (v11.length : Int))), (53, .v (.int .i64 c22))], [some ⟨1, 4, (j27.1.map cdB.enc), false⟩]⟩) ?_ ?_
        · refine RunS.segF (n := 91) e_evening_check_ok 1 [(0, .v (.int .i64 x0)), (1, .sl 1 (x1.map cdI.enc)), (7, .v (.int .i64 c18)), (8, .v (.bool c19)), (9, .v (.bool true)), (10, .rf 0 0 j27.1.length j27.1.length), (27, .sl 1 (x2.map (cdL 1 cdI).enc)), (28, .v (.int .i64 (x2.length : Int))), (29, .v (.int .i64 c9)), (51, .sl 1 (v11.map cdI.enc)), (52, .v (.int .i64 (v11.length : Int))), (53, .v (.int .i64 c22))] [some ⟨1, 4, (j27.1.map cdB.enc), false⟩] (by kernel_rfl) ?_
          exact RunS.done rfl (Wk.s3 [0] ⟨⟨_, rfl, bu_own⟩, trivial⟩ ⟨lv, lv, lv, lv, lv, lv, lv, lv, lv, lv, lv, lv, trivial⟩)
        refine Sem.exit ?_
        refine Sem.runS (s1 := ⟨Fr 91 [(0, .v (.int .i64 x0)), (1, .sl 1 (x1.map cdI.enc)), (7, .v (.int .i64 c18)), (8, .v (.bool c19)), (9, .v (.bool true)), (10, .rf 0 0 j27.1.length j27.1.length), (27, .sl 1 (x2.map (cdL 1 cdI).enc)), (28, .v (.int .i64 (x2.length : Int))), (29, .v (.int .i64 c9)), (51, .sl 1 (v11.map cdI.enc)), (52, .v (.int .i64 (v11.length : Int))), (53, .v (.int .i64 (wr .i64 (c22 + 1))))], [some ⟨1, 4, (j27.1.map cdB.enc), false⟩]⟩) ?_ ?_
        · refine RunS.segF (n := 91) e_evening_check_ok 2 [(0, .v (.int .i64 x0)), (1, .sl 1 (x1.map cdI.enc)), (7, .v (.int .i64 c18)), (8, .v (.bool c19)), (9, .v (.bool true)), (10, .rf 0 0 j27.1.length j27.1.length), (27, .sl 1 (x2.map (cdL 1 cdI).enc)), (28, .v (.int .i64 (x2.length : Int))), (29, .v (.int .i64 c9)), (51, .sl 1 (v11.map cdI.enc)), (52, .v (.int .i64 (v11.length : Int))), (53, .v (.int .i64 (wr .i64 (c22 + 1))))] [some ⟨1, 4, (j27.1.map cdB.enc), false⟩] (by kernel_rfl) ?_
          exact RunS.done rfl (Wk.s3 [0] ⟨⟨_, rfl, bu_own⟩, trivial⟩ ⟨lv, lv, lv, lv, lv, lv, lv, lv, lv, lv, lv, lv, trivial⟩)
        exact SemN.wk (s1 := ⟨Fr 91 [(0, .v (.int .i64 x0)), (1, .sl 1 (x1.map cdI.enc)), (7, .v (.int .i64 c18)), (8, .v (.bool c19)), (9, .v (.bool true)), (10, .rf 0 0 j27.1.length j27.1.length), (27, .sl 1 (x2.map (cdL 1 cdI).enc)), (28, .v (.int .i64 (x2.length : Int))), (29, .v (.int .i64 c9)), (51, .sl 1 (v11.map cdI.enc)), (52, .v (.int .i64 (v11.length : Int))), (53, .v (.int .i64 (wr .i64 (c22 + 1))))], [some ⟨1, 4, (j27.1.map cdB.enc), false⟩]⟩) (Wk.s3 [0] ⟨⟨_, rfl, bu_own⟩, trivial⟩ ⟨lv, lv, lv, lv, lv, lv, lv, lv, lv, lv, lv, lv, trivial⟩) (ih c18 c19 true j27.1 (wr .i64 (c22 + 1)) h)
      · rw [if_f hb28] at h
        refine Sem.skip ?_
        refine Sem.seq ?_
        obtain ⟨j32, hj32, h⟩ := Option.bind_eq_some_iff.1 h
        refine Sem.runS (s1 := ⟨Fr 91 [(0, .v (.int .i64 x0)), (1, .sl 1 (x1.map cdI.enc)), (7, .v (.int .i64 c18)), (8, .v (.bool j32.1)), (9, .v (.bool c20)), (10, .rf 0 0 j32.2.length j32.2.length), (14, .v (.int .i64 v24)), (27, .sl 1 (x2.map (cdL 1 cdI).enc)), (28, .v (.int .i64 (x2.length : Int))), (29, .v (.int .i64 c9)), (51, .sl 1 (v11.map cdI.enc)), (52, .v (.int .i64 (v11.length : Int))), (53, .v (.int .i64 c22))], [some ⟨1, 4, (j32.2.map cdB.enc), false⟩]⟩) ?_ ?_
        · refine RunS.segF (n := 91) e_evening_check_ok 2 [(0, .v (.int .i64 x0)), (1, .sl 1 (x1.map cdI.enc)), (7, .v (.int .i64 c18)), (9, .v (.bool c20)), (10, .rf 0 0 j27.1.length j27.1.length), (14, .v (.int .i64 v24)), (27, .sl 1 (x2.map (cdL 1 cdI).enc)), (28, .v (.int .i64 (x2.length : Int))), (29, .v (.int .i64 c9)), (51, .sl 1 (v11.map cdI.enc)), (52, .v (.int .i64 (v11.length : Int))), (53, .v (.int .i64 c22)), (65, .v (.bool c19))] [some ⟨1, 4, (j27.1.map cdB.enc), false⟩] (by kernel_rfl) ?_
          rcases Bool.eq_false_or_eq_true c19 with hc38 | hc38
          · rw [if_pos hc38] at hj32
            rw [hc38]
            refine RunS.segF (n := 91) e_evening_check_ok 6 [(0, .v (.int .i64 x0)), (1, .sl 1 (x1.map cdI.enc)), (7, .v (.int .i64 c18)), (8, .v (.bool true)), (9, .v (.bool c20)), (10, .rf 0 0 j27.1.length j27.1.length), (14, .v (.int .i64 v24)), (27, .sl 1 (x2.map (cdL 1 cdI).enc)), (28, .v (.int .i64 (x2.length : Int))), (29, .v (.int .i64 c9)), (51, .sl 1 (v11.map cdI.enc)), (52, .v (.int .i64 (v11.length : Int))), (53, .v (.int .i64 c22)), (66, .tp []), (67, .tp []), (68, .tp []), (69, .tp [])] [some ⟨1, 4, (j27.1.map cdB.enc), false⟩] (by kernel_rfl) ?_
            have hq := Option.some.inj hj32; subst hq
            exact RunS.done rfl (Wk.s3 [0] ⟨⟨_, rfl, bu_own⟩, trivial⟩ ⟨lv, lv, lv, lv, lv, lv, lv, lv, lv, lv, lv, lv, lv, trivial⟩)
          · rw [if_f hc38] at hj32
            rw [hc38]
            refine RunS.segF (n := 91) e_evening_check_ok 2 [(0, .v (.int .i64 x0)), (1, .sl 1 (x1.map cdI.enc)), (7, .v (.int .i64 c18)), (9, .v (.bool c20)), (10, .rf 0 0 j27.1.length j27.1.length), (14, .v (.int .i64 v24)), (27, .sl 1 (x2.map (cdL 1 cdI).enc)), (28, .v (.int .i64 (x2.length : Int))), (29, .v (.int .i64 c9)), (51, .sl 1 (v11.map cdI.enc)), (52, .v (.int .i64 (v11.length : Int))), (53, .v (.int .i64 c22)), (65, .v (.bool false)), (66, .rf 0 0 j27.1.length j27.1.length), (67, .v (.int .i64 v24))] [some ⟨1, 4, (j27.1.map cdB.enc), false⟩] (by kernel_rfl) ?_
            obtain ⟨v29, hv29, hj32⟩ := Option.bind_eq_some_iff.1 hj32
            refine RunS.one e_evening_check_ok 0 rfl (op_q (by kernel_rfl) rfl (q_indexAddr (a := .rf 0 0 j27.1.length j27.1.length) (b := .v (.int .i64 v24)) (by kernel_rfl) (by kernel_rfl) (ix_rl (e := cdB.enc) (xs := j27.1) (t' := 4) (el := 4) (k := 1) (ki := .i64) (by kernel_rfl) (by kernel_rfl) (by kernel_rfl) hv29))) ?_
            refine RunS.one e_evening_check_ok 0 rfl (op_q (by kernel_rfl) rfl (q_load (p := .pt 0 v24.toNat 0) (by kernel_rfl) (ld_blk (B := ⟨1, 4, (j27.1.map cdB.enc), false⟩) (m := 1) (g := false) (e := cdB.enc) (xs := j27.1) (by kernel_rfl) (by kernel_rfl) (by kernel_rfl) rfl (idx_at hv29).2 (by kernel_rfl)))) ?_
            refine RunS.segF (n := 91) e_evening_check_ok 2 [(0, .v (.int .i64 x0)), (1, .sl 1 (x1.map cdI.enc)), (7, .v (.int .i64 c18)), (8, .v (.bool v29)), (9, .v (.bool c20)), (10, .rf 0 0 j27.1.length j27.1.length), (14, .v (.int .i64 v24)), (27, .sl 1 (x2.map (cdL 1 cdI).enc)), (28, .v (.int .i64 (x2.length : Int))), (29, .v (.int .i64 c9)), (51, .sl 1 (v11.map cdI.enc)), (52, .v (.int .i64 (v11.length : Int))), (53, .v (.int .i64 c22)), (66, .rf 0 0 j27.1.length j27.1.length), (67, .v (.int .i64 v24)), (68, .pt 0 v24.toNat 0), (69, .v (.bool v29))] [some ⟨1, 4, (j27.1.map cdB.enc), false⟩] (by kernel_rfl) ?_
            have hq := Option.some.inj hj32; subst hq
            exact RunS.done rfl (Wk.s3 [0] ⟨⟨_, rfl, bu_own⟩, trivial⟩ ⟨lv, lv, lv, lv, lv, lv, lv, lv, lv, lv, lv, lv, lv, trivial⟩)
        refine Sem.seq ?_
        refine Sem.seq ?_
        obtain ⟨v33, hv33, h⟩ := Option.bind_eq_some_iff.1 h
        refine Sem.runS (s1 := ⟨Fr 91 [(0, .v (.int .i64 x0)), (1, .sl 1 (x1.map cdI.enc)), (7, .v (.int .i64 c18)), (8, .v (.bool j32.1)), (9, .v (.bool c20)), (10, .rf 0 0 j32.2.length j32.2.length), (14, .v (.int .i64 v24)), (27, .sl 1 (x2.map (cdL 1 cdI).enc)), (28, .v (.int .i64 (x2.length : Int))), (29, .v (.int .i64 c9)), (51, .sl 1 (v11.map cdI.enc)), (52, .v (.int .i64 (v11.length : Int))), (53, .v (.int .i64 c22)), (75, .v (.bool (!v33)))], [some ⟨1, 4, (j32.2.map cdB.enc), false⟩]⟩) ?_ ?_
        · refine RunS.segF (n := 91) e_evening_check_ok 2 [(0, .v (.int .i64 x0)), (1, .sl 1 (x1.map cdI.enc)), (7, .v (.int .i64 c18)), (8, .v (.bool j32.1)), (9, .v (.bool c20)), (10, .rf 0 0 j32.2.length j32.2.length), (14, .v (.int .i64 v24)), (27, .sl 1 (x2.map (cdL 1 cdI).enc)), (28, .v (.int .i64 (x2.length : Int))), (29, .v (.int .i64 c9)), (51, .sl 1 (v11.map cdI.enc)), (52, .v (.int .i64 (v11.length : Int))), (53, .v (.int .i64 c22)), (71, .rf 0 0 j32.2.length j32.2.length), (72, .v (.int .i64 v24))] [some ⟨1, 4, (j32.2.map cdB.enc), false⟩] (by kernel_rfl) ?_
          refine RunS.one e_evening_check_ok 0 rfl (op_q (wantedA_none rfl) rfl (q_indexAddr (a := .rf 0 0 j32.2.length j32.2.length) (b := .v (.int .i64 v24)) (by kernel_rfl) (by kernel_rfl) (ix_rl (e := cdB.enc) (xs := j32.2) (t' := 4) (el := 4) (k := 1) (ki := .i64) (by kernel_rfl) (by kernel_rfl) (by kernel_rfl) hv33))) ?_
          refine RunS.one e_evening_check_ok 0 rfl (op_q (wantedA_none rfl) rfl (q_load (p := .pt 0 v24.toNat 0) (by kernel_rfl) (ld_blk (B := ⟨1, 4, (j32.2.map cdB.enc), false⟩) (m := 1) (g := false) (e := cdB.enc) (xs := j32.2) (by kernel_rfl) (by kernel_rfl) (by kernel_rfl) rfl (idx_at hv33).2 (by kernel_rfl)))) ?_
          refine RunS.segF (n := 91) e_evening_check_ok 1 [(0, .v (.int .i64 x0)), (1, .sl 1 (x1.map cdI.enc)), (7, .v (.int .i64 c18)), (8, .v (.bool j32.1)), (9, .v (.bool c20)), (10, .rf 0 0 j32.2.length j32.2.length), (14, .v (.int .i64 v24)), (27, .sl 1 (x2.map (cdL 1 cdI).enc)), (28, .v (.int .i64 (x2.length : Int))), (29, .v (.int .i64 c9)), (51, .sl 1 (v11.map cdI.enc)), (52, .v (.int .i64 (v11.length : Int))), (53, .v (.int .i64 c22)), (75, .v (.bool (!v33)))] [some ⟨1, 4, (j32.2.map cdB.enc), false⟩] (by kernel_rfl) ?_
          exact RunS.done rfl (Wk.s3 [0] ⟨⟨_, rfl, bu_own⟩, trivial⟩ ⟨lv, lv, lv, lv, lv, lv, lv, lv, lv, lv, lv, lv, lv, lv, trivial⟩)
        obtain ⟨r36, hr36, h⟩ := Option.bind_eq_some_iff.1 h
        refine Sem.cut (evening_check_j3_ok x0 x1 x2 c9 v11 c18 c20 c22 v24 j32 v33 _ hr36) ?_
        obtain ⟨v37, hv37, h⟩ := Option.bind_eq_some_iff.1 h
        refine Sem.runS (s1 := ⟨Fr 91 [(0, .v (.int .i64 x0)), (1, .sl 1 (x1.map cdI.enc)), (7, .v (.int .i64 r36)), (8, .v (.bool j32.1)), (9, .v (.bool c20)), (10, .rf 0 0 (j32.2.set v24.toNat true).length (j32.2.set v24.toNat true).length), (27, .sl 1 (x2.map (cdL 1 cdI).enc)), (28, .v (.int .i64 (x2.length : Int))), (29, .v (.int .i64 c9)), (51, .sl 1 (v11.map cdI.enc)), (52, .v (.int .i64 (v11.length : Int))), (53, .v (.int .i64 c22))], [some ⟨1, 4, ((j32.2.set v24.toNat true).map cdB.enc), false⟩]⟩) ?_ ?_
        · refine RunS.segF (n := 91) e_evening_check_ok 2 [(0, .v (.int .i64 x0)), (1, .sl 1 (x1.map cdI.enc)), (7, .v (.int .i64 r36)), (8, .v (.bool j32.1)), (9, .v (.bool c20)), (10, .rf 0 0 j32.2.length j32.2.length), (27, .sl 1 (x2.map (cdL 1 cdI).enc)), (28, .v (.int .i64 (x2.length : Int))), (29, .v (.int .i64 c9)), (51, .sl 1 (v11.map cdI.enc)), (52, .v (.int .i64 (v11.length : Int))), (53, .v (.int .i64 c22)), (78, .rf 0 0 j32.2.length j32.2.length), (79, .v (.int .i64 v24))] [some ⟨1, 4, (j32.2.map cdB.enc), false⟩] (by kernel_rfl) ?_
          refine RunS.one e_evening_check_ok 0 rfl (op_q (wantedA_none rfl) rfl (q_indexAddr (a := .rf 0 0 j32.2.length j32.2.length) (b := .v (.int .i64 v24)) (by kernel_rfl) (by kernel_rfl) (ix_rl (e := cdB.enc) (xs := j32.2) (t' := 4) (el := 4) (k := 1) (ki := .i64) (by kernel_rfl) (by kernel_rfl) (by kernel_rfl) hv37))) ?_
          refine RunS.store e_evening_check_ok (y := .pt 0 v24.toNat 0) (z := .v (.bool true)) rfl (wantedA_none rfl) (by kernel_rfl) (by kernel_rfl) (st_blk (t' := 4) (k := 1) (e := cdB.enc) (xs := j32.2) (v := v37) (v' := true) (by kernel_rfl) (idx_at hv37).2 (by kernel_rfl) (by kernel_rfl) (by kernel_rfl)) ?_
          exact RunS.done rfl (Wk.s3 [0] ⟨⟨_, rfl, bu_own⟩, trivial⟩ ⟨lv, lv, lv, lv, lv, lu_rl (b' := 0) (n := j32.2.length) (by kernel_rfl) (by simp) (by kernel_rfl), lv, lv, lv, lv, lv, lv, trivial⟩)
        refine Sem.runS (s1 := ⟨Fr 91 [(0, .v (.int .i64 x0)), (1, .sl 1 (x1.map cdI.enc)), (7, .v (.int .i64 r36)), (8, .v (.bool j32.1)), (9, .v (.bool c20)), (10, .rf 0 0 (j32.2.set v24.toNat true).length (j32.2.set v24.toNat true).length), (27, .sl 1 (x2.map (cdL 1 cdI).enc)), (28, .v (.int .i64 (x2.length : Int))), (29, .v (.int .i64 c9)), (51, .sl 1 (v11.map cdI.enc)), (52, .v (.int .i64 (v11.length : Int))), (53, .v (.int .i64 (wr .i64 (c22 + 1))))], [some ⟨1, 4, ((j32.2.set v24.toNat true).map cdB.enc), false⟩]⟩) ?_ ?_
        · refine RunS.segF (n := 91) e_evening_check_ok 2 [(0, .v (.int .i64 x0)), (1, .sl 1 (x1.map cdI.enc)), (7, .v (.int .i64 r36)), (8, .v (.bool j32.1)), (9, .v (.bool c20)), (10, .rf 0 0 (j32.2.set v24.toNat true).length (j32.2.set v24.toNat true).length), (27, .sl 1 (x2.map (cdL 1 cdI).enc)), (28, .v (.int .i64 (x2.length : Int))), (29, .v (.int .i64 c9)), (51, .sl 1 (v11.map cdI.enc)), (52, .v (.int .i64 (v11.length : Int))), (53, .v (.int .i64 (wr .i64 (c22 + 1))))] [some ⟨1, 4, ((j32.2.set v24.toNat true).map cdB.enc), false⟩] (by kernel_rfl) ?_
          exact RunS.done rfl (Wk.s3 [0] ⟨⟨_, rfl, bu_own⟩, trivial⟩ ⟨lv, lv, lv, lv, lv, lv, lv, lv, lv, lv, lv, lv, trivial⟩)
        exact SemN.wk (s1 := ⟨Fr 91 [(0, .v (.int .i64 x0)), (1, .sl 1 (x1.map cdI.enc)), (7, .v (.int .i64 r36)), (8, .v (.bool j32.1)), (9, .v (.bool c20)), (10, .rf 0 0 (j32.2.set v24.toNat true).length (j32.2.set v24.toNat true).length), (27, .sl 1 (x2.map (cdL 1 cdI).enc)), (28, .v (.int .i64 (x2.length : Int))), (29, .v (.int .i64 c9)), (51, .sl 1 (v11.map cdI.enc)), (52, .v (.int .i64 (v11.length : Int))), (53, .v (.int .i64 (wr .i64 (c22 + 1))))], [some ⟨1, 4, ((j32.2.set v24.toNat true).map cdB.enc), false⟩]⟩) (Wk.s3 [0] ⟨⟨_, rfl, bu_own⟩, trivial⟩ ⟨lv, lv, lv, lv, lv, lv, lv, lv, lv, lv, lv, lv, trivial⟩) (ih r36 j32.1 c20 (j32.2.set v24.toNat true) (wr .i64 (c22 + 1)) h)
    · rw [if_f hb23] at h
      refine Sem.exit ?_
      have hq := Option.some.inj h; subst hq
      exact ⟨rfl, (Wk.s3 [0] ⟨⟨_, rfl, bu_own⟩, trivial⟩ ⟨lv, lv, lv, lv, lv, lv, lv, lv, lv, trivial⟩)⟩
set_option maxHeartbeats 4000000 in
set_option maxRecDepth 100000 in
theorem evening_check_1_ok (x0 : Int) (x1 : (List Int)) (x2 : (List (List Int))) : ∀ (f : Nat) (c5 : Int) (c6 : Bool) (c7 : Bool) (c8 : (List Bool)) (c9 : Int) (r : (Int × Bool × Bool) ⊕ (Int)), evening_check_1 x0 x1 x2 f c5 c6 c7 c8 c9 = some r → SemN e_evening_check ⟨none, false⟩ (pc cb_evening_check [1, 1, 1, 1, 0, 1, 0, 0]) f ⟨Fr 91 [(0, .v (.int .i64 x0)), (1, .sl 1 (x1.map cdI.enc)), (7, .v (.int .i64 c5)), (8, .v (.bool c6)), (9, .v (.bool c7)), (10, .rf 0 0 c8.length c8.length), (27, .sl 1 (x2.map (cdL 1 cdI).enc)), (28, .v (.int .i64 (x2.length : Int))), (29, .v (.int .i64 c9))], [some ⟨1, 4, (c8.map cdB.enc), false⟩]⟩ (fun e s => match r with
  | (.inl w) => e = (.exit 0) ∧ Wk e_evening_check s ⟨Fr 91 [(0, .v (.int .i64 x0)), (7, .v (.int .i64 w.1)), (8, .v (.bool w.2.1)), (9, .v (.bool w.2.2))], []⟩
  | (.inr w) => e = .ret ∧ Wk e_evening_check s ⟨Fr 91 [(6, .v (.int .i64 w))], []⟩) := by
  intro f
  induction f with
  | zero => intro c5 c6 c7 c8 c9 r h; cases h
  | succ f ih0 =>
    intro c5 c6 c7 c8 c9 r h
    have ih := fun (c5 : Int) (c6 : Bool) (c7 : Bool) (c8 : (List Bool)) (c9 : Int) => ih0 c5 c6 c7 c8 c9 r
    unfold evening_check_1 at h
    refine SemN.succ ?_
    refine Sem.seq ?_
    refine Sem.runS (s1 := ⟨Fr 91 [(0, .v (.int .i64 x0)), (1, .sl 1 (x1.map cdI.enc)), (7, .v (.int .i64 c5)), (8, .v (.bool c6)), (9, .v (.bool c7)), (10, .rf 0 0 c8.length c8.length), (27, .sl 1 (x2.map (cdL 1 cdI).enc)), (28, .v (.int .i64 (x2.length : Int))), (29, .v (.int .i64 c9)), (30, .v (.bool (decide (c9 < (x2.length : Int)))))], [some ⟨1, 4, (c8.map cdB.enc), false⟩]⟩) ?_ ?_
    · refine RunS.segF (n := 91) e_evening_check_ok 1 [(0, .v (.int .i64 x0)), (1, .sl 1 (x1.map cdI.enc)), (7, .v (.int .i64 c5)), (8, .v (.bool c6)), (9, .v (.bool c7)), (10, .rf 0 0 c8.length c8.length), (27, .sl 1 (x2.map (cdL 1 cdI).enc)), (28, .v (.int .i64 (x2.length : Int))), (29, .v (.int .i64 c9)), (30, .v (.bool (decide (c9 < (x2.length : Int)))))] [some ⟨1, 4, (c8.map cdB.enc), false⟩] (by kernel_rfl) ?_
      exact RunS.done rfl (Wk.s3 [0] ⟨⟨_, rfl, bu_own⟩, trivial⟩ ⟨lv, lv, lv, lv, lv, lv, lv, lv, lv, lv, trivial⟩)
    refine Sem.seq ?_
    refine Sem.cond (b := (decide (c9 < (x2.length : Int)))) (by kernel_rfl) (fun hb10 => ?_) (fun hb10 => ?_)
    · rw [if_pos hb10] at h
      refine Sem.skip ?_
      refine Sem.seq ?_
      refine Sem.block ?_
      refine Sem.seq ?_
      obtain ⟨v11, hv11, h⟩ := Option.bind_eq_some_iff.1 h
      refine Sem.runS (s1 := ⟨Fr 91 [(0, .v (.int .i64 x0)), (1, .sl 1 (x1.map cdI.enc)), (7, .v (.int .i64 c5)), (8, .v (.bool c6)), (9, .v (.bool c7)), (10, .rf 0 0 c8.length c8.length), (11, .v (.int .i64 c9)), (12, .sl 1 (v11.map cdI.enc)), (27, .sl 1 (x2.map (cdL 1 cdI).enc)), (28, .v (.int .i64 (x2.length : Int))), (29, .v (.int .i64 c9))], [some ⟨1, 4, (c8.map cdB.enc), false⟩]⟩) ?_ ?_
      · refine RunS.segF (n := 91) e_evening_check_ok 1 [(0, .v (.int .i64 x0)), (1, .sl 1 (x1.map cdI.enc)), (7, .v (.int .i64 c5)), (8, .v (.bool c6)), (9, .v (.bool c7)), (10, .rf 0 0 c8.length c8.length), (27, .sl 1 (x2.map (cdL 1 cdI).enc)), (28, .v (.int .i64 (x2.length : Int))), (29, .v (.int .i64 c9)), (31, .v (.int .i64 c9))] [some ⟨1, 4, (c8.map cdB.enc), false⟩] (by kernel_rfl) ?_
        refine RunS.one e_evening_check_ok 0 rfl (op_q (wantedA_none rfl) rfl (q_indexAddr (a := .sl 1 (x2.map (cdL 1 cdI).enc)) (b := .v (.int .i64 c9)) (by kernel_rfl) (by kernel_rfl) (ix_sl (e := (cdL 1 cdI).enc) (el := 31) (k := 1) (ki := .i64) (by kernel_rfl) (by kernel_rfl) hv11))) ?_
        refine RunS.segF (n := 91) e_evening_check_ok 3 [(0, .v (.int .i64 x0)), (1, .sl 1 (x1.map cdI.enc)), (7, .v (.int .i64 c5)), (8, .v (.bool c6)), (9, .v (.bool c7)), (10, .rf 0 0 c8.length c8.length), (11, .v (.int .i64 c9)), (12, .sl 1 (v11.map cdI.enc)), (27, .sl 1 (x2.map (cdL 1 cdI).enc)), (28, .v (.int .i64 (x2.length : Int))), (29, .v (.int .i64 c9))] [some ⟨1, 4, (c8.map cdB.enc), false⟩] (by kernel_rfl) ?_
        exact RunS.done rfl (Wk.s3 [0] ⟨⟨_, rfl, bu_own⟩, trivial⟩ ⟨lv, lv, lv, lv, lv, lv, lv, lv, lv, lv, lv, trivial⟩)
      refine Sem.seq ?_
      refine Sem.seq ?_
      obtain ⟨j15, hj15, h⟩ := Option.bind_eq_some_iff.1 h
      refine Sem.runS (s1 := ⟨Fr 91 [(0, .v (.int .i64 x0)), (1, .sl 1 (x1.map cdI.enc)), (7, .v (.int .i64 c5)), (8, .v (.bool c6)), (9, .v (.bool c7)), (10, .rf 0 0 j15.1.length j15.1.length), (12, .sl 1 (v11.map cdI.enc)), (27, .sl 1 (x2.map (cdL 1 cdI).enc)), (28, .v (.int .i64 (x2.length : Int))), (29, .v (.int .i64 c9)), (50, .v (.bool j15.2))], [some ⟨1, 4, (j15.1.map cdB.enc), false⟩]⟩) ?_ ?_
      · refine RunS.segF (n := 91) e_evening_check_ok 1 [(0, .v (.int .i64 x0)), (1, .sl 1 (x1.map cdI.enc)), (7, .v (.int .i64 c5)), (8, .v (.bool c6)), (9, .v (.bool c7)), (10, .rf 0 0 c8.length c8.length), (11, .v (.int .i64 c9)), (12, .sl 1 (v11.map cdI.enc)), (27, .sl 1 (x2.map (cdL 1 cdI).enc)), (28, .v (.int .i64 (x2.length : Int))), (29, .v (.int .i64 c9)), (34, .sl 1 (v11.map cdI.enc))] [some ⟨1, 4, (c8.map cdB.enc), false⟩] (by kernel_rfl) ?_
        refine RunS.one e_evening_check_ok 0 rfl (op_q (wantedA_none rfl) rfl (q_len (a := .sl 1 (v11.map cdI.enc)) (by kernel_rfl) (len_sl (el := 3) (by kernel_rfl)))) ?_
        refine RunS.segF (n := 91) e_evening_check_ok 2 [(0, .v (.int .i64 x0)), (1, .sl 1 (x1.map cdI.enc)), (7, .v (.int .i64 c5)), (8, .v (.bool c6)), (9, .v (.bool c7)), (10, .rf 0 0 c8.length c8.length), (11, .v (.int .i64 c9)), (12, .sl 1 (v11.map cdI.enc)), (27, .sl 1 (x2.map (cdL 1 cdI).enc)), (28, .v (.int .i64 (x2.length : Int))), (29, .v (.int .i64 c9)), (37, .v (.bool ((v11.length : Int) == 0)))] [some ⟨1, 4, (c8.map cdB.enc), false⟩] (by kernel_rfl) ?_
        rcases Bool.eq_false_or_eq_true ((v11.length : Int) == 0) with hc45 | hc45
        · rw [if_pos hc45] at hj15
          rw [hc45]
          refine RunS.segF (n := 91) e_evening_check_ok 13 [(0, .v (.int .i64 x0)), (1, .sl 1 (x1.map cdI.enc)), (7, .v (.int .i64 c5)), (8, .v (.bool c6)), (9, .v (.bool c7)), (10, .rf 0 0 c8.length c8.length), (12, .sl 1 (v11.map cdI.enc)), (27, .sl 1 (x2.map (cdL 1 cdI).enc)), (28, .v (.int .i64 (x2.length : Int))), (29, .v (.int .i64 c9)), (38, .tp []), (39, .tp []), (40, .tp []), (41, .tp []), (42, .tp []), (43, .tp []), (44, .tp []), (45, .tp []), (46, .tp []), (47, .tp []), (48, .tp []), (49, .tp []), (50, .v (.bool true))] [some ⟨1, 4, (c8.map cdB.enc), false⟩] (by kernel_rfl) ?_
          have hq := Option.some.inj hj15; subst hq
          exact RunS.done rfl (Wk.s3 [0] ⟨⟨_, rfl, bu_own⟩, trivial⟩ ⟨lv, lv, lv, lv, lv, lv, lv, lv, lv, lv, lv, trivial⟩)
        · rw [if_f hc45] at hj15
          rw [hc45]
          refine RunS.segF (n := 91) e_evening_check_ok 1 [(0, .v (.int .i64 x0)), (1, .sl 1 (x1.map cdI.enc)), (7, .v (.int .i64 c5)), (8, .v (.bool c6)), (9, .v (.bool c7)), (10, .rf 0 0 c8.length c8.length), (11, .v (.int .i64 c9)), (12, .sl 1 (v11.map cdI.enc)), (27, .sl 1 (x2.map (cdL 1 cdI).enc)), (28, .v (.int .i64 (x2.length : Int))), (29, .v (.int .i64 c9)), (37, .v (.bool false)), (38, .sl 1 (x1.map cdI.enc))] [some ⟨1, 4, (c8.map cdB.enc), false⟩] (by kernel_rfl) ?_
          refine RunS.one e_evening_check_ok 0 rfl (op_q (by kernel_rfl) rfl (q_len (a := .sl 1 (x1.map cdI.enc)) (by kernel_rfl) (len_sl (el := 3) (by kernel_rfl)))) ?_
          refine RunS.segF (n := 91) e_evening_check_ok 2 [(0, .v (.int .i64 x0)), (1, .sl 1 (x1.map cdI.enc)), (7, .v (.int .i64 c5)), (8, .v (.bool c6)), (9, .v (.bool c7)), (10, .rf 0 0 c8.length c8.length), (11, .v (.int .i64 c9)), (12, .sl 1 (v11.map cdI.enc)), (27, .sl 1 (x2.map (cdL 1 cdI).enc)), (28, .v (.int .i64 (x2.length : Int))), (29, .v (.int .i64 c9)), (37, .v (.bool false)), (38, .sl 1 (x1.map cdI.enc)), (39, .v (.int .i64 (x1.length : Int))), (40, .v (.bool (decide ((x1.length : Int) > 0)))), (41, .v (.bool (decide ((x1.length : Int) > 0))))] [some ⟨1, 4, (c8.map cdB.enc), false⟩] (by kernel_rfl) ?_
          rcases Bool.eq_false_or_eq_true (decide ((x1.length : Int) > 0)) with hc46 | hc46
          · rw [if_pos hc46] at hj15
            rw [hc46]
            refine RunS.segF (n := 91) e_evening_check_ok 1 [(0, .v (.int .i64 x0)), (1, .sl 1 (x1.map cdI.enc)), (7, .v (.int .i64 c5)), (8, .v (.bool c6)), (9, .v (.bool c7)), (10, .rf 0 0 c8.length c8.length), (11, .v (.int .i64 c9)), (12, .sl 1 (v11.map cdI.enc)), (27, .sl 1 (x2.map (cdL 1 cdI).enc)), (28, .v (.int .i64 (x2.length : Int))), (29, .v (.int .i64 c9)), (37, .v (.bool false)), (38, .sl 1 (x1.map cdI.enc)), (39, .v (.int .i64 (x1.length : Int))), (40, .v (.bool true)), (41, .v (.bool true)), (42, .sl 1 (v11.map cdI.enc))] [some ⟨1, 4, (c8.map cdB.enc), false⟩] (by kernel_rfl) ?_
            refine RunS.one e_evening_check_ok 0 rfl (op_q (by kernel_rfl) rfl (q_len (a := .sl 1 (v11.map cdI.enc)) (by kernel_rfl) (len_sl (el := 3) (by kernel_rfl)))) ?_
            refine RunS.segF (n := 91) e_evening_check_ok 2 [(0, .v (.int .i64 x0)), (1, .sl 1 (x1.map cdI.enc)), (7, .v (.int .i64 c5)), (8, .v (.bool c6)), (9, .v (.bool c7)), (10, .rf 0 0 c8.length c8.length), (12, .sl 1 (v11.map cdI.enc)), (27, .sl 1 (x2.map (cdL 1 cdI).enc)), (28, .v (.int .i64 (x2.length : Int))), (29, .v (.int .i64 c9)), (37, .v (.bool false)), (38, .sl 1 (x1.map cdI.enc)), (39, .v (.int .i64 (x1.length : Int))), (40, .v (.bool true)), (41, .v (.bool true)), (42, .sl 1 (v11.map cdI.enc)), (43, .v (.int .i64 (v11.length : Int))), (44, .sl 1 (x1.map cdI.enc)), (45, .v (.int .i64 c9))] [some ⟨1, 4, (c8.map cdB.enc), false⟩] (by kernel_rfl) ?_
            obtain ⟨v12, hv12, hj15⟩ := Option.bind_eq_some_iff.1 hj15
            refine RunS.one e_evening_check_ok 0 rfl (op_q (by kernel_rfl) rfl (q_indexAddr (a := .sl 1 (x1.map cdI.enc)) (b := .v (.int .i64 c9)) (by kernel_rfl) (by kernel_rfl) (ix_sl (e := cdI.enc) (el := 3) (k := 1) (ki := .i64) (by kernel_rfl) (by kernel_rfl) hv12))) ?_
            refine RunS.segF (n := 91) e_evening_check_ok 4 [(0, .v (.int .i64 x0)), (1, .sl 1 (x1.map cdI.enc)), (7, .v (.int .i64 c5)), (8, .v (.bool c6)), (9, .v (.bool c7)), (10, .rf 0 0 c8.length c8.length), (12, .sl 1 (v11.map cdI.enc)), (27, .sl 1 (x2.map (cdL 1 cdI).enc)), (28, .v (.int .i64 (x2.length : Int))), (29, .v (.int .i64 c9)), (38, .sl 1 (x1.map cdI.enc)), (39, .v (.int .i64 (x1.length : Int))), (40, .v (.bool true)), (41, .v (.bool true)), (42, .sl 1 (v11.map cdI.enc)), (43, .v (.int .i64 (v11.length : Int))), (44, .sl 1 (x1.map cdI.enc)), (45, .v (.int .i64 c9)), (46, .pe (.v (.int .i64 v12)) 0), (47, .v (.int .i64 v12)), (48, .v (.bool ((v11.length : Int) != v12))), (49, .v (.bool ((v11.length : Int) != v12))), (50, .v (.bool ((v11.length : Int) != v12)))] [some ⟨1, 4, (c8.map cdB.enc), false⟩] (by kernel_rfl) ?_
            have hq := Option.some.inj hj15; subst hq
            exact RunS.done rfl (Wk.s3 [0] ⟨⟨_, rfl, bu_own⟩, trivial⟩ ⟨lv, lv, lv, lv, lv, lv, lv, lv, lv, lv, lv, trivial⟩)
          · rw [if_f hc46] at hj15
            rw [hc46]
            refine RunS.segF (n := 91) e_evening_check_ok 9 [(0, .v (.int .i64 x0)), (1, .sl 1 (x1.map cdI.enc)), (7, .v (.int .i64 c5)), (8, .v (.bool c6)), (9, .v (.bool c7)), (10, .rf 0 0 c8.length c8.length), (12, .sl 1 (v11.map cdI.enc)), (27, .sl 1 (x2.map (cdL 1 cdI).enc)), (28, .v (.int .i64 (x2.length : Int))), (29, .v (.int .i64 c9)), (38, .sl 1 (x1.map cdI.enc)), (39, .v (.int .i64 (x1.length : Int))), (40, .v (.bool false)), (41, .v (.bool false)), (42, .tp []), (43, .tp []), (44, .tp []), (45, .tp []), (46, .tp []), (47, .tp []), (48, .tp []), (49, .v (.bool false)), (50, .v (.bool false))] [some ⟨1, 4, (c8.map cdB.enc), false⟩] (by kernel_rfl) ?_
            have hq := Option.some.inj hj15; subst hq
            exact RunS.done rfl (Wk.s3 [0] ⟨⟨_, rfl, bu_own⟩, trivial⟩ ⟨lv, lv, lv, lv, lv, lv, lv, lv, lv, lv, lv, trivial⟩)
      refine Sem.cond (b := j15.2) (by kernel_rfl) (fun hb16 => ?_) (fun hb16 => ?_)
      · rw [if_pos hb16] at h
        refine Sem.seq ?_
        refine Sem.runS (s1 := ⟨Fr 91 [(6, .v (.int .i64 2))], []⟩) ?_ ?_
        · refine RunS.segF (n := 91) e_evening_check_ok 1 [(6, .v (.int .i64 2))] [some ⟨1, 4, (j15.1.map cdB.enc), false⟩] (by kernel_rfl) ?_
          exact RunS.done rfl (Wk.s3 [] trivial ⟨lv, trivial⟩)
        refine Sem.ret ?_
        have hq := Option.some.inj h; subst hq
        exact ⟨rfl, Wk.f1⟩
      · rw [if_f hb16] at h
        refine Sem.skip ?_
        refine Sem.seq ?_
        refine Sem.runS (s1 := ⟨Fr 91 [(0, .v (.int .i64 x0)), (1, .sl 1 (x1.map cdI.enc)), (7, .v (.int .i64 c5)), (8, .v (.bool c6)), (9, .v (.bool c7)), (10, .rf 0 0 j15.1.length j15.1.length), (27, .sl 1 (x2.map (cdL 1 cdI).enc)), (28, .v (.int .i64 (x2.length : Int))), (29, .v (.int .i64 c9)), (51, .sl 1 (v11.map cdI.enc)), (52, .v (.int .i64 (v11.length : Int))), (53, .v (.int .i64 0))], [some ⟨1, 4, (j15.1.map cdB.enc), false⟩]⟩) ?_ ?_
        · refine RunS.segF (n := 91) e_evening_check_ok 1 [(0, .v (.int .i64 x0)), (1, .sl 1 (x1.map cdI.enc)), (7, .v (.int .i64 c5)), (8, .v (.bool c6)), (9, .v (.bool c7)), (10, .rf 0 0 j15.1.length j15.1.length), (27, .sl 1 (x2.map (cdL 1 cdI).enc)), (28, .v (.int .i64 (x2.length : Int))), (29, .v (.int .i64 c9)), (51, .sl 1 (v11.map cdI.enc))] [some ⟨1, 4, (j15.1.map cdB.enc), false⟩] (by kernel_rfl) ?_
          refine RunS.one e_evening_check_ok 0 rfl (op_q (wantedA_none rfl) rfl (q_len (a := .sl 1 (v11.map cdI.enc)) (by kernel_rfl) (len_sl (el := 3) (by kernel_rfl)))) ?_
          refine RunS.segF (n := 91) e_evening_check_ok 1 [(0, .v (.int .i64 x0)), (1, .sl 1 (x1.map cdI.enc)), (7, .v (.int .i64 c5)), (8, .v (.bool c6)), (9, .v (.bool c7)), (10, .rf 0 0 j15.1.length j15.1.length), (27, .sl 1 (x2.map (cdL 1 cdI).enc)), (28, .v (.int .i64 (x2.length : Int))), (29, .v (.int .i64 c9)), (51, .sl 1 (v11.map cdI.enc)), (52, .v (.int .i64 (v11.length : Int))), (53, .v (.int .i64 0))] [some ⟨1, 4, (j15.1.map cdB.enc), false⟩] (by kernel_rfl) ?_
          exact RunS.done rfl (Wk.s3 [0] ⟨⟨_, rfl, bu_own⟩, trivial⟩ ⟨lv, lv, lv, lv, lv, lv, lv, lv, lv, lv, lv, lv, trivial⟩)
        refine Sem.block ?_
        obtain ⟨r44, hr44, h⟩ := Option.bind_eq_some_iff.1 h
        refine Sem.loop (n := 100000) ?_
        refine Sem.cutN (SemN.wk (s1 := ⟨Fr 91 [(0, .v (.int .i64 x0)), (1, .sl 1 (x1.map cdI.enc)), (7, .v (.int .i64 c5)), (8, .v (.bool c6)), (9, .v (.bool c7)), (10, .rf 0 0 j15.1.length j15.1.length), (27, .sl 1 (x2.map (cdL 1 cdI).enc)), (28, .v (.int .i64 (x2.length : Int))), (29, .v (.int .i64 c9)), (51, .sl 1 (v11.map cdI.enc)), (52, .v (.int .i64 (v11.length : Int))), (53, .v (.int .i64 0))], [some ⟨1, 4, (j15.1.map cdB.enc), false⟩]⟩) (Wk.s3 [0] ⟨⟨_, rfl, bu_own⟩, trivial⟩ ⟨lv, lv, lv, lv, lv, lv, lv, lv, lv, lv, lv, lv, trivial⟩) (evening_check_2_ok x0 x1 x2 c9 v11 _ c5 c6 c7 j15.1 0 _ hr44)) ?_
        refine Sem.runS (s1 := ⟨Fr 91 [(0, .v (.int .i64 x0)), (1, .sl 1 (x1.map cdI.enc)), (7, .v (.int .i64 r44.1)), (8, .v (.bool r44.2.1)), (9, .v (.bool r44.2.2.1)), (10, .rf 0 0 r44.2.2.2.length r44.2.2.2.length), (27, .sl 1 (x2.map (cdL 1 cdI).enc)), (28, .v (.int .i64 (x2.length : Int))), (29, .v (.int .i64 (wr .i64 (c9 + 1))))], [some ⟨1, 4, (r44.2.2.2.map cdB.enc), false⟩]⟩) ?_ ?_
        · refine RunS.segF (n := 91) e_evening_check_ok 2 [(0, .v (.int .i64 x0)), (1, .sl 1 (x1.map cdI.enc)), (7, .v (.int .i64 r44.1)), (8, .v (.bool r44.2.1)), (9, .v (.bool r44.2.2.1)), (10, .rf 0 0 r44.2.2.2.length r44.2.2.2.length), (27, .sl 1 (x2.map (cdL 1 cdI).enc)), (28, .v (.int .i64 (x2.length : Int))), (29, .v (.int .i64 (wr .i64 (c9 + 1))))] [some ⟨1, 4, (r44.2.2.2.map cdB.enc), false⟩] (by kernel_rfl) ?_
          exact RunS.done rfl (Wk.s3 [0] ⟨⟨_, rfl, bu_own⟩, trivial⟩ ⟨lv, lv, lv, lv, lv, lv, lv, lv, lv, trivial⟩)
        exact SemN.wk (s1 := ⟨Fr 91 [(0, .v (.int .i64 x0)), (1, .sl 1 (x1.map cdI.enc)), (7, .v (.int .i64 r44.1)), (8, .v (.bool r44.2.1)), (9, .v (.bool r44.2.2.1)), (10, .rf 0 0 r44.2.2.2.length r44.2.2.2.length), (27, .sl 1 (x2.map (cdL 1 cdI).enc)), (28, .v (.int .i64 (x2.length : Int))), (29, .v (.int .i64 (wr .i64 (c9 + 1))))], [some ⟨1, 4, (r44.2.2.2.map cdB.enc), false⟩]⟩) (Wk.s3 [0] ⟨⟨_, rfl, bu_own⟩, trivial⟩ ⟨lv, lv, lv, lv, lv, lv, lv, lv, lv, trivial⟩) (ih r44.1 r44.2.1 r44.2.2.1 r44.2.2.2 (wr .i64 (c9 + 1)) h)
    · rw [if_f hb10] at h
      refine Sem.exit ?_
      have hq := Option.some.inj h; subst hq
      exact ⟨rfl, (Wk.s3 [] trivial ⟨lv, lv, lv, lv, trivial⟩)⟩
set_option maxHeartbeats 4000000 in
set_option maxRecDepth 100000 in
theorem evening_check_sem (x0 : Int) (x1 : (List Int)) (x2 : (List (List Int))) (r : Int) (h : evening_check x0 x1 x2 = some r) : Sem e_evening_check ⟨none, false⟩ cb_evening_check ⟨Fr 91 (pairs0 0 (cs_evening_check.enc (x0, x1, x2, ()))), []⟩ fun e s' => (e = .normal ∨ e = .ret) ∧ ∃ xs, resA e_evening_check.P s'.fr s'.hp Tryd.f83.results.toList = some xs ∧ retA xs = er_evening_check r := by
  unfold evening_check at h
  refine Sem.wkQ (Sem.wk (s1 := ⟨Fr 91 [(0, .v (.int .i64 x0)), (1, .sl 1 (x1.map cdI.enc)), (2, .sl 1 (x2.map (cdL 1 cdI).enc))], []⟩) Wk.f1 ?_)
  refine Sem.seq ?_
  refine Sem.runS (s1 := ⟨Fr 91 [(0, .v (.int .i64 x0)), (1, .sl 1 (x1.map cdI.enc)), (2, .sl 1 (x2.map (cdL 1 cdI).enc))], []⟩) ?_ ?_
  · refine RunS.segF (n := 91) e_evening_check_ok 1 [(0, .v (.int .i64 x0)), (1, .sl 1 (x1.map cdI.enc)), (2, .sl 1 (x2.map (cdL 1 cdI).enc))] [] (by kernel_rfl) ?_
    exact RunS.done rfl Wk.f1
  refine Sem.seq ?_
  refine Sem.seq ?_
  obtain ⟨j2, hj2, h⟩ := Option.bind_eq_some_iff.1 h
  refine Sem.runS (s1 := ⟨Fr 91 [(0, .v (.int .i64 x0)), (1, .sl 1 (x1.map cdI.enc)), (2, .sl 1 (x2.map (cdL 1 cdI).enc)), (24, .v (.bool j2))], []⟩) ?_ ?_
  · refine RunS.segF (n := 91) e_evening_check_ok 1 [(0, .v (.int .i64 x0)), (1, .sl 1 (x1.map cdI.enc)), (2, .sl 1 (x2.map (cdL 1 cdI).enc)), (15, .sl 1 (x1.map cdI.enc))] [] (by kernel_rfl) ?_
    refine RunS.one e_evening_check_ok 0 rfl (op_q (wantedA_none rfl) rfl (q_len (a := .sl 1 (x1.map cdI.enc)) (by kernel_rfl) (len_sl (el := 3) (by kernel_rfl)))) ?_
    refine RunS.segF (n := 91) e_evening_check_ok 2 [(0, .v (.int .i64 x0)), (1, .sl 1 (x1.map cdI.enc)), (2, .sl 1 (x2.map (cdL 1 cdI).enc)), (18, .v (.bool (decide ((x1.length : Int) > 0))))] [] (by kernel_rfl) ?_
    rcases Bool.eq_false_or_eq_true (decide ((x1.length : Int) > 0)) with hc56 | hc56
    · rw [if_pos hc56] at hj2
      rw [hc56]
      refine RunS.segF (n := 91) e_evening_check_ok 1 [(0, .v (.int .i64 x0)), (1, .sl 1 (x1.map cdI.enc)), (2, .sl 1 (x2.map (cdL 1 cdI).enc)), (18, .v (.bool true)), (19, .sl 1 (x1.map cdI.enc))] [] (by kernel_rfl) ?_
      refine RunS.one e_evening_check_ok 0 rfl (op_q (by kernel_rfl) rfl (q_len (a := .sl 1 (x1.map cdI.enc)) (by kernel_rfl) (len_sl (el := 3) (by kernel_rfl)))) ?_
      refine RunS.segF (n := 91) e_evening_check_ok 1 [(0, .v (.int .i64 x0)), (1, .sl 1 (x1.map cdI.enc)), (2, .sl 1 (x2.map (cdL 1 cdI).enc)), (18, .v (.bool true)), (20, .v (.int .i64 (x1.length : Int))), (21, .sl 1 (x2.map (cdL 1 cdI).enc))] [] (by kernel_rfl) ?_
      refine RunS.one e_evening_check_ok 0 rfl (op_q (by kernel_rfl) rfl (q_len (a := .sl 1 (x2.map (cdL 1 cdI).enc)) (by kernel_rfl) (len_sl (el := 31) (by kernel_rfl)))) ?_
      refine RunS.segF (n := 91) e_evening_check_ok 2 [(0, .v (.int .i64 x0)), (1, .sl 1 (x1.map cdI.enc)), (2, .sl 1 (x2.map (cdL 1 cdI).enc)), (24, .v (.bool ((x1.length : Int) != (x2.length : Int))))] [] (by kernel_rfl) ?_
      have hq := Option.some.inj hj2; subst hq
      exact RunS.done rfl Wk.f1
    · rw [if_f hc56] at hj2
      rw [hc56]
      refine RunS.segF (n := 91) e_evening_check_ok 6 [(0, .v (.int .i64 x0)), (1, .sl 1 (x1.map cdI.enc)), (2, .sl 1 (x2.map (cdL 1 cdI).enc)), (24, .v (.bool false))] [] (by kernel_rfl) ?_
      have hq := Option.some.inj hj2; subst hq
      exact RunS.done rfl Wk.f1
  refine Sem.cond (b := j2) (by kernel_rfl) (fun hb3 => ?_) (fun hb3 => ?_)
  · rw [if_pos hb3] at h
    refine Sem.seq ?_
    refine Sem.runS (s1 := ⟨Fr 91 [(6, .v (.int .i64 2))], []⟩) ?_ ?_
    · refine RunS.segF (n := 91) e_evening_check_ok 1 [(6, .v (.int .i64 2))] [] (by kernel_rfl) ?_
      exact RunS.done rfl Wk.f1
    refine Sem.ret ?_
    have hq := Option.some.inj h; subst hq
    exact ⟨⟨Fr 91 [(6, .v (.int .i64 2))], []⟩, Wk.f1, .inr rfl, [.v (.int .i64 2)], (by kernel_rfl), (by kernel_rfl)⟩
  · rw [if_f hb3] at h
    refine Sem.skip ?_
    refine Sem.seq ?_
    refine Sem.runS (s1 := ⟨Fr 91 [(0, .v (.int .i64 x0)), (1, .sl 1 (x1.map cdI.enc)), (2, .sl 1 (x2.map (cdL 1 cdI).enc)), (7, .v (.int .i64 0)), (8, .v (.bool false)), (9, .v (.bool false))], []⟩) ?_ ?_
    · refine RunS.segF (n := 91) e_evening_check_ok 3 [(0, .v (.int .i64 x0)), (1, .sl 1 (x1.map cdI.enc)), (2, .sl 1 (x2.map (cdL 1 cdI).enc)), (7, .v (.int .i64 0)), (8, .v (.bool false)), (9, .v (.bool false))] [] (by kernel_rfl) ?_
      exact RunS.done rfl Wk.f1
    refine Sem.seq ?_
    by_cases hk4 : (mkOk 1 x0) = true
    case neg => rw [if_neg hk4] at h; cases h
    rw [if_pos hk4] at h
    refine Sem.runS (s1 := ⟨Fr 91 [(0, .v (.int .i64 x0)), (1, .sl 1 (x1.map cdI.enc)), (2, .sl 1 (x2.map (cdL 1 cdI).enc)), (7, .v (.int .i64 0)), (8, .v (.bool false)), (9, .v (.bool false)), (10, .rf 0 0 (List.replicate x0.toNat false).length (List.replicate x0.toNat false).length)], [some ⟨1, 4, ((List.replicate x0.toNat false).map cdB.enc), false⟩]⟩) ?_ ?_
    · refine RunS.segF (n := 91) e_evening_check_ok 1 [(0, .v (.int .i64 x0)), (1, .sl 1 (x1.map cdI.enc)), (2, .sl 1 (x2.map (cdL 1 cdI).enc)), (7, .v (.int .i64 0)), (8, .v (.bool false)), (9, .v (.bool false)), (25, .v (.int .i64 x0))] [] (by kernel_rfl) ?_
      refine RunS.one e_evening_check_ok 0 rfl (op_n (wantedA_none rfl) rfl (by kernel_rfl) (n_make (x := .v (.int .i64 x0)) (y := .v (.int .i64 x0)) (by kernel_rfl) (by kernel_rfl) (make_B (c := cdB) (z := false) (k := 1) (bytes := 1) (el := 4) (by kernel_rfl) (by kernel_rfl) hk4))) ?_
      refine RunS.segF (n := 91) e_evening_check_ok 1 [(0, .v (.int .i64 x0)), (1, .sl 1 (x1.map cdI.enc)), (2, .sl 1 (x2.map (cdL 1 cdI).enc)), (7, .v (.int .i64 0)), (8, .v (.bool false)), (9, .v (.bool false)), (10, .rf 0 0 (List.replicate x0.toNat false).length (List.replicate x0.toNat false).length)] [some ⟨1, 4, ((List.replicate x0.toNat false).map cdB.enc), false⟩] (by kernel_rfl) ?_
      exact RunS.done rfl (Wk.s3 [0] ⟨⟨_, rfl, bu_own⟩, trivial⟩ ⟨lv, lv, lv, lv, lv, lv, lv, trivial⟩)
    refine Sem.seq ?_
    refine Sem.seq ?_
    refine Sem.runS (s1 := ⟨Fr 91 [(0, .v (.int .i64 x0)), (1, .sl 1 (x1.map cdI.enc)), (7, .v (.int .i64 0)), (8, .v (.bool false)), (9, .v (.bool false)), (10, .rf 0 0 (List.replicate x0.toNat false).length (List.replicate x0.toNat false).length), (27, .sl 1 (x2.map (cdL 1 cdI).enc)), (28, .v (.int .i64 (x2.length : Int))), (29, .v (.int .i64 0))], [some ⟨1, 4, ((List.replicate x0.toNat false).map cdB.enc), false⟩]⟩) ?_ ?_
    · refine RunS.segF (n := 91) e_evening_check_ok 1 [(0, .v (.int .i64 x0)), (1, .sl 1 (x1.map cdI.enc)), (7, .v (.int .i64 0)), (8, .v (.bool false)), (9, .v (.bool false)), (10, .rf 0 0 (List.replicate x0.toNat false).length (List.replicate x0.toNat false).length), (27, .sl 1 (x2.map (cdL 1 cdI).enc))] [some ⟨1, 4, ((List.replicate x0.toNat false).map cdB.enc), false⟩] (by kernel_rfl) ?_
      refine RunS.one e_evening_check_ok 0 rfl (op_q (wantedA_none rfl) rfl (q_len (a := .sl 1 (x2.map (cdL 1 cdI).enc)) (by kernel_rfl) (len_sl (el := 31) (by kernel_rfl)))) ?_
      refine RunS.segF (n := 91) e_evening_check_ok 1 [(0, .v (.int .i64 x0)), (1, .sl 1 (x1.map cdI.enc)), (7, .v (.int .i64 0)), (8, .v (.bool false)), (9, .v (.bool false)), (10, .rf 0 0 (List.replicate x0.toNat false).length (List.replicate x0.toNat false).length), (27, .sl 1 (x2.map (cdL 1 cdI).enc)), (28, .v (.int .i64 (x2.length : Int))), (29, .v (.int .i64 0))] [some ⟨1, 4, ((List.replicate x0.toNat false).map cdB.enc), false⟩] (by kernel_rfl) ?_
      exact RunS.done rfl (Wk.s3 [0] ⟨⟨_, rfl, bu_own⟩, trivial⟩ ⟨lv, lv, lv, lv, lv, lv, lv, lv, lv, trivial⟩)
    refine Sem.block ?_
    obtain ⟨r50, hr50, h⟩ := Option.bind_eq_some_iff.1 h
    refine Sem.loop (n := 100000) ?_
    rcases r50 with w51 | w55
    · try dsimp only at h
      refine Sem.cutN (SemN.wk (s1 := ⟨Fr 91 [(0, .v (.int .i64 x0)), (1, .sl 1 (x1.map cdI.enc)), (7, .v (.int .i64 0)), (8, .v (.bool false)), (9, .v (.bool false)), (10, .rf 0 0 (List.replicate x0.toNat false).length (List.replicate x0.toNat false).length), (27, .sl 1 (x2.map (cdL 1 cdI).enc)), (28, .v (.int .i64 (x2.length : Int))), (29, .v (.int .i64 0))], [some ⟨1, 4, ((List.replicate x0.toNat false).map cdB.enc), false⟩]⟩) (Wk.s3 [0] ⟨⟨_, rfl, bu_own⟩, trivial⟩ ⟨lv, lv, lv, lv, lv, lv, lv, lv, lv, trivial⟩) (evening_check_1_ok x0 x1 x2 _ 0 false false (List.replicate x0.toNat false) 0 _ hr50)) ?_
      refine Sem.seq ?_
      refine Sem.block ?_
      refine Sem.seq ?_
      refine Sem.runS (s1 := ⟨Fr 91 [(0, .v (.int .i64 x0)), (7, .v (.int .i64 w51.1)), (8, .v (.bool w51.2.1)), (83, .v (.bool w51.2.2))], []⟩) ?_ ?_
      · refine RunS.segF (n := 91) e_evening_check_ok 2 [(0, .v (.int .i64 x0)), (7, .v (.int .i64 w51.1)), (8, .v (.bool w51.2.1)), (83, .v (.bool w51.2.2))] [] (by kernel_rfl) ?_
        exact RunS.done rfl Wk.f1
      refine Sem.cond (b := w51.2.2) (by kernel_rfl) (fun hb52 => ?_) (fun hb52 => ?_)
      · rw [if_pos hb52] at h
        refine Sem.seq ?_
        refine Sem.runS (s1 := ⟨Fr 91 [(6, .v (.int .i64 6))], []⟩) ?_ ?_
        · refine RunS.segF (n := 91) e_evening_check_ok 1 [(6, .v (.int .i64 6))] [] (by kernel_rfl) ?_
          exact RunS.done rfl Wk.f1
        refine Sem.ret ?_
        have hq := Option.some.inj h; subst hq
        exact ⟨⟨Fr 91 [(6, .v (.int .i64 6))], []⟩, Wk.f1, .inr rfl, [.v (.int .i64 6)], (by kernel_rfl), (by kernel_rfl)⟩
      · rw [if_f hb52] at h
        refine Sem.seq ?_
        refine Sem.runS (s1 := ⟨Fr 91 [(0, .v (.int .i64 x0)), (7, .v (.int .i64 w51.1)), (85, .v (.bool w51.2.1))], []⟩) ?_ ?_
        · refine RunS.segF (n := 91) e_evening_check_ok 2 [(0, .v (.int .i64 x0)), (7, .v (.int .i64 w51.1)), (85, .v (.bool w51.2.1))] [] (by kernel_rfl) ?_
          exact RunS.done rfl Wk.f1
        refine Sem.cond (b := w51.2.1) (by kernel_rfl) (fun hb53 => ?_) (fun hb53 => ?_)
        · rw [if_pos hb53] at h
          refine Sem.seq ?_
          refine Sem.runS (s1 := ⟨Fr 91 [(6, .v (.int .i64 5))], []⟩) ?_ ?_
          · refine RunS.segF (n := 91) e_evening_check_ok 1 [(6, .v (.int .i64 5))] [] (by kernel_rfl) ?_
            exact RunS.done rfl Wk.f1
          refine Sem.ret ?_
          have hq := Option.some.inj h; subst hq
          exact ⟨⟨Fr 91 [(6, .v (.int .i64 5))], []⟩, Wk.f1, .inr rfl, [.v (.int .i64 5)], (by kernel_rfl), (by kernel_rfl)⟩
        · rw [if_f hb53] at h
          refine Sem.seq ?_
          refine Sem.runS (s1 := ⟨Fr 91 [(87, .v (.bool (decide (w51.1 < x0))))], []⟩) ?_ ?_
          · refine RunS.segF (n := 91) e_evening_check_ok 4 [(87, .v (.bool (decide (w51.1 < x0))))] [] (by kernel_rfl) ?_
            exact RunS.done rfl Wk.f1
          refine Sem.cond (b := (decide (w51.1 < x0))) (by kernel_rfl) (fun hb54 => ?_) (fun hb54 => ?_)
          · rw [if_pos hb54] at h
            refine Sem.seq ?_
            refine Sem.runS (s1 := ⟨Fr 91 [(6, .v (.int .i64 2))], []⟩) ?_ ?_
            · refine RunS.segF (n := 91) e_evening_check_ok 1 [(6, .v (.int .i64 2))] [] (by kernel_rfl) ?_
              exact RunS.done rfl Wk.f1
            refine Sem.ret ?_
            have hq := Option.some.inj h; subst hq
            exact ⟨⟨Fr 91 [(6, .v (.int .i64 2))], []⟩, Wk.f1, .inr rfl, [.v (.int .i64 2)], (by kernel_rfl), (by kernel_rfl)⟩
          · rw [if_f hb54] at h
            refine Sem.skip ?_
            refine Sem.seq ?_
            refine Sem.runS (s1 := ⟨Fr 91 [(6, .v (.int .i64 0))], []⟩) ?_ ?_
            · refine RunS.segF (n := 91) e_evening_check_ok 1 [(6, .v (.int .i64 0))] [] (by kernel_rfl) ?_
              exact RunS.done rfl Wk.f1
            refine Sem.ret ?_
            have hq := Option.some.inj h; subst hq
            exact ⟨⟨Fr 91 [(6, .v (.int .i64 0))], []⟩, Wk.f1, .inr rfl, [.v (.int .i64 0)], (by kernel_rfl), (by kernel_rfl)⟩
    · try dsimp only at h
      refine Sem.cutN (SemN.wk (s1 := ⟨Fr 91 [(0, .v (.int .i64 x0)), (1, .sl 1 (x1.map cdI.enc)), (7, .v (.int .i64 0)), (8, .v (.bool false)), (9, .v (.bool false)), (10, .rf 0 0 (List.replicate x0.toNat false).length (List.replicate x0.toNat false).length), (27, .sl 1 (x2.map (cdL 1 cdI).enc)), (28, .v (.int .i64 (x2.length : Int))), (29, .v (.int .i64 0))], [some ⟨1, 4, ((List.replicate x0.toNat false).map cdB.enc), false⟩]⟩) (Wk.s3 [0] ⟨⟨_, rfl, bu_own⟩, trivial⟩ ⟨lv, lv, lv, lv, lv, lv, lv, lv, lv, trivial⟩) (evening_check_1_ok x0 x1 x2 _ 0 false false (List.replicate x0.toNat false) 0 _ hr50)) ?_
      have hq := Option.some.inj h; subst hq
      exact ⟨⟨Fr 91 [(6, .v (.int .i64 w55))], []⟩, Wk.f1, .inr rfl, [.v (.int .i64 w55)], (by kernel_rfl), (by kernel_rfl)⟩
def t_evening_check : List AV → Option AV := told cs_evening_check (fun a => evening_check a.1 a.2.1 a.2.2.1) er_evening_check
theorem x_evening_check : XOk 83 t_evening_check := by
  refine EnvOk.x (E := e_evening_check) (contract_ok e_evening_check_ok (fn := Tryd.f83) (c := cb_evening_check) ?h1 ?h2 ⟨Tryd.call83⟩ cs_evening_check (fun a => evening_check a.1 a.2.1 a.2.2.1) er_evening_check (fun a => (by show 3 ≤ 91; decide)) ?h3 ?h4) rfl rfl
  case h1 => kernel_rfl
  case h2 => kernel_rfl
  case h3 => intro b; kernel_rfl
  case h4 => exact fun a b h => evening_check_sem a.1 a.2.1 a.2.2.1 b h
/- trestle/evening.Check -/
noncomputable def e_evening_Check : Env := (((E0.withX 82 t_evening_guests).withX 67 t_evening_fit).withX 83 t_evening_check)
theorem e_evening_Check_ok : EnvOk e_evening_Check := (EnvOk.withX (EnvOk.withX (EnvOk.withX E0_ok x_evening_guests.1 x_evening_guests.2) x_evening_fit.1 x_evening_fit.2) x_evening_check.1 x_evening_check.2)
noncomputable def cb_evening_Check : Code := codeOf Tryd.f27
def evening_Check_1 (x0 : Int) (x1 : (List Int)) (x2 : (List (List (List Int)))) : Nat → Int → Option ((Unit) ⊕ (Int × Int))
  | 0, _ => none
  | f + 1, c7 =>
    if (decide (c7 < (x2.length : Int))) = true then
    (idx x2 c7).bind fun v9 =>
    (evening_check x0 x1 v9).bind fun v10 =>
    if (v10 != 0) = true then
    some (.inr (c7, v10))
    else
    evening_Check_1 x0 x1 x2 f (wr .i64 (c7 + 1))
    else
    some (.inl ())
def evening_Check (x0 : Int) (x1 : (List Int)) (x2 : (List (List (List Int)))) : Option (Int × Int) :=
  (evening_guests x0).bind fun v1 =>
  (if (!v1) = true then some true else if (decide ((x1.length : Int) > 0)) = true then (evening_fit x0 x1).bind fun v2 =>
  some (!v2) else some false).bind fun j4 =>
  if j4 = true then
  some (0, 90)
  else
  if (decide ((x2.length : Int) > 64)) = true then
  some (0, 7)
  else
  (evening_Check_1 x0 x1 x2 100000 0).bind fun r14 =>
  match r14 with
  | (.inl _w15) =>
    some (0, 0)
  | (.inr w16) =>
    some (w16.1, w16.2)
def cs_evening_Check : Cs (Int × (List Int) × (List (List (List Int))) × Unit) := (csC cdI (csC (cdL 1 cdI) (csC (cdL 1 (cdL 1 (cdL 1 cdI))) csN)))
def er_evening_Check (r : Int × Int) : AV := .tp [cdI.enc r.1, cdI.enc r.2]
set_option maxHeartbeats 4000000 in
set_option maxRecDepth 100000 in
theorem evening_Check_1_ok (x0 : Int) (x1 : (List Int)) (x2 : (List (List (List Int)))) : ∀ (f : Nat) (c7 : Int) (r : (Unit) ⊕ (Int × Int)), evening_Check_1 x0 x1 x2 f c7 = some r → SemN e_evening_Check ⟨none, false⟩ (pc cb_evening_Check [1, 1, 0, 1, 0, 0]) f ⟨Fr 46 [(0, .v (.int .i64 x0)), (1, .sl 1 (x1.map cdI.enc)), (30, .sl 1 (x2.map (cdL 1 (cdL 1 cdI)).enc)), (31, .v (.int .i64 (x2.length : Int))), (32, .v (.int .i64 c7))], []⟩ (fun e s => match r with
  | (.inl _w) => e = (.exit 1) ∧ Wk e_evening_Check s ⟨Fr 46 [], []⟩
  | (.inr w) => e = .ret ∧ Wk e_evening_Check s ⟨Fr 46 [(6, .v (.int .i64 w.1)), (7, .v (.int .i64 w.2))], []⟩) := by
  intro f
  induction f with
  | zero => intro c7 r h; cases h
  | succ f ih0 =>
    intro c7 r h
    have ih := fun (c7 : Int) => ih0 c7 r
    unfold evening_Check_1 at h
    refine SemN.succ ?_
    refine Sem.seq ?_
    refine Sem.runS (s1 := ⟨Fr 46 [(0, .v (.int .i64 x0)), (1, .sl 1 (x1.map cdI.enc)), (30, .sl 1 (x2.map (cdL 1 (cdL 1 cdI)).enc)), (31, .v (.int .i64 (x2.length : Int))), (32, .v (.int .i64 c7)), (33, .v (.bool (decide (c7 < (x2.length : Int)))))], []⟩) ?_ ?_
    · refine RunS.segF (n := 46) e_evening_Check_ok 1 [(0, .v (.int .i64 x0)), (1, .sl 1 (x1.map cdI.enc)), (30, .sl 1 (x2.map (cdL 1 (cdL 1 cdI)).enc)), (31, .v (.int .i64 (x2.length : Int))), (32, .v (.int .i64 c7)), (33, .v (.bool (decide (c7 < (x2.length : Int)))))] [] (by kernel_rfl) ?_
      exact RunS.done rfl Wk.f1
    refine Sem.seq ?_
    refine Sem.cond (b := (decide (c7 < (x2.length : Int)))) (by kernel_rfl) (fun hb8 => ?_) (fun hb8 => ?_)
    · rw [if_pos hb8] at h
      refine Sem.skip ?_
      refine Sem.seq ?_
      refine Sem.block ?_
      refine Sem.seq ?_
      obtain ⟨v9, hv9, h⟩ := Option.bind_eq_some_iff.1 h
      refine Sem.runS (s1 := ⟨Fr 46 [(0, .v (.int .i64 x0)), (1, .sl 1 (x1.map cdI.enc)), (8, .v (.int .i64 c7)), (9, .sl 1 (v9.map (cdL 1 cdI).enc)), (30, .sl 1 (x2.map (cdL 1 (cdL 1 cdI)).enc)), (31, .v (.int .i64 (x2.length : Int))), (32, .v (.int .i64 c7))], []⟩) ?_ ?_
      · refine RunS.segF (n := 46) e_evening_Check_ok 1 [(0, .v (.int .i64 x0)), (1, .sl 1 (x1.map cdI.enc)), (30, .sl 1 (x2.map (cdL 1 (cdL 1 cdI)).enc)), (31, .v (.int .i64 (x2.length : Int))), (32, .v (.int .i64 c7)), (34, .v (.int .i64 c7))] [] (by kernel_rfl) ?_
        refine RunS.one e_evening_Check_ok 0 rfl (op_q (wantedA_none rfl) rfl (q_indexAddr (a := .sl 1 (x2.map (cdL 1 (cdL 1 cdI)).enc)) (b := .v (.int .i64 c7)) (by kernel_rfl) (by kernel_rfl) (ix_sl (e := (cdL 1 (cdL 1 cdI)).enc) (el := 50) (k := 1) (ki := .i64) (by kernel_rfl) (by kernel_rfl) hv9))) ?_
        refine RunS.segF (n := 46) e_evening_Check_ok 3 [(0, .v (.int .i64 x0)), (1, .sl 1 (x1.map cdI.enc)), (8, .v (.int .i64 c7)), (9, .sl 1 (v9.map (cdL 1 cdI).enc)), (30, .sl 1 (x2.map (cdL 1 (cdL 1 cdI)).enc)), (31, .v (.int .i64 (x2.length : Int))), (32, .v (.int .i64 c7))] [] (by kernel_rfl) ?_
        exact RunS.done rfl Wk.f1
      refine Sem.seq ?_
      obtain ⟨v10, hv10, h⟩ := Option.bind_eq_some_iff.1 h
      refine Sem.runS (s1 := ⟨Fr 46 [(0, .v (.int .i64 x0)), (1, .sl 1 (x1.map cdI.enc)), (8, .v (.int .i64 c7)), (10, .v (.int .i64 v10)), (30, .sl 1 (x2.map (cdL 1 (cdL 1 cdI)).enc)), (31, .v (.int .i64 (x2.length : Int))), (32, .v (.int .i64 c7))], []⟩) ?_ ?_
      · refine RunS.segF (n := 46) e_evening_Check_ok 3 [(0, .v (.int .i64 x0)), (1, .sl 1 (x1.map cdI.enc)), (8, .v (.int .i64 c7)), (30, .sl 1 (x2.map (cdL 1 (cdL 1 cdI)).enc)), (31, .v (.int .i64 (x2.length : Int))), (32, .v (.int .i64 c7)), (37, .v (.int .i64 x0)), (38, .sl 1 (x1.map cdI.enc)), (39, .sl 1 (v9.map (cdL 1 cdI).enc))] [] (by kernel_rfl) ?_
        refine RunS.call e_evening_Check_ok (fid := 83) (s := cs_evening_check) (F := fun a => evening_check a.1 a.2.1 a.2.2.1) (er := er_evening_check) (xs := [.v (.int .i64 x0), .sl 1 (x1.map cdI.enc), .sl 1 (v9.map (cdL 1 cdI).enc)]) (a := (x0, x1, v9, ())) rfl (wantedA_none rfl) (by kernel_rfl) (by kernel_rfl) (by kernel_rfl) (by kernel_rfl) (Sns.cons (Sn.enc (c := cdI) (v := x0)) (Sns.cons (Sn.enc (c := (cdL 1 cdI)) (v := x1)) (Sns.cons (Sn.enc (c := (cdL 1 (cdL 1 cdI))) (v := v9)) Sns.nil))) (.inl (by kernel_rfl)) hv10 ?_
        refine RunS.segF (n := 46) e_evening_Check_ok 1 [(0, .v (.int .i64 x0)), (1, .sl 1 (x1.map cdI.enc)), (8, .v (.int .i64 c7)), (10, .v (.int .i64 v10)), (30, .sl 1 (x2.map (cdL 1 (cdL 1 cdI)).enc)), (31, .v (.int .i64 (x2.length : Int))), (32, .v (.int .i64 c7))] [] (by kernel_rfl) ?_
        exact RunS.done rfl Wk.f1
      refine Sem.seq ?_
      refine Sem.runS (s1 := ⟨Fr 46 [(0, .v (.int .i64 x0)), (1, .sl 1 (x1.map cdI.enc)), (8, .v (.int .i64 c7)), (10, .v (.int .i64 v10)), (30, .sl 1 (x2.map (cdL 1 (cdL 1 cdI)).enc)), (31, .v (.int .i64 (x2.length : Int))), (32, .v (.int .i64 c7)), (42, .v (.bool (v10 != 0)))], []⟩) ?_ ?_
      · refine RunS.segF (n := 46) e_evening_Check_ok 2 [(0, .v (.int .i64 x0)), (1, .sl 1 (x1.map cdI.enc)), (8, .v (.int .i64 c7)), (10, .v (.int .i64 v10)), (30, .sl 1 (x2.map (cdL 1 (cdL 1 cdI)).enc)), (31, .v (.int .i64 (x2.length : Int))), (32, .v (.int .i64 c7)), (42, .v (.bool (v10 != 0)))] [] (by kernel_rfl) ?_
        exact RunS.done rfl Wk.f1
      refine Sem.cond (b := (v10 != 0)) (by kernel_rfl) (fun hb11 => ?_) (fun hb11 => ?_)
      · rw [if_pos hb11] at h
        refine Sem.seq ?_
        refine Sem.runS (s1 := ⟨Fr 46 [(6, .v (.int .i64 c7)), (7, .v (.int .i64 v10))], []⟩) ?_ ?_
        · refine RunS.segF (n := 46) e_evening_Check_ok 4 [(6, .v (.int .i64 c7)), (7, .v (.int .i64 v10))] [] (by kernel_rfl) ?_
          exact RunS.done rfl Wk.f1
        refine Sem.ret ?_
        have hq := Option.some.inj h; subst hq
        exact ⟨rfl, Wk.f1⟩
      · rw [if_f hb11] at h
        refine Sem.skip ?_
        refine Sem.runS (s1 := ⟨Fr 46 [(0, .v (.int .i64 x0)), (1, .sl 1 (x1.map cdI.enc)), (30, .sl 1 (x2.map (cdL 1 (cdL 1 cdI)).enc)), (31, .v (.int .i64 (x2.length : Int))), (32, .v (.int .i64 (wr .i64 (c7 + 1))))], []⟩) ?_ ?_
        · refine RunS.segF (n := 46) e_evening_Check_ok 2 [(0, .v (.int .i64 x0)), (1, .sl 1 (x1.map cdI.enc)), (30, .sl 1 (x2.map (cdL 1 (cdL 1 cdI)).enc)), (31, .v (.int .i64 (x2.length : Int))), (32, .v (.int .i64 (wr .i64 (c7 + 1))))] [] (by kernel_rfl) ?_
          exact RunS.done rfl Wk.f1
        exact SemN.wk (s1 := ⟨Fr 46 [(0, .v (.int .i64 x0)), (1, .sl 1 (x1.map cdI.enc)), (30, .sl 1 (x2.map (cdL 1 (cdL 1 cdI)).enc)), (31, .v (.int .i64 (x2.length : Int))), (32, .v (.int .i64 (wr .i64 (c7 + 1))))], []⟩) Wk.f1 (ih (wr .i64 (c7 + 1)) h)
    · rw [if_f hb8] at h
      refine Sem.exit ?_
      have hq := Option.some.inj h; subst hq
      exact ⟨rfl, Wk.f1⟩
set_option maxHeartbeats 4000000 in
set_option maxRecDepth 100000 in
theorem evening_Check_sem (x0 : Int) (x1 : (List Int)) (x2 : (List (List (List Int)))) (r : Int × Int) (h : evening_Check x0 x1 x2 = some r) : Sem e_evening_Check ⟨none, false⟩ cb_evening_Check ⟨Fr 46 (pairs0 0 (cs_evening_Check.enc (x0, x1, x2, ()))), []⟩ fun e s' => (e = .normal ∨ e = .ret) ∧ ∃ xs, resA e_evening_Check.P s'.fr s'.hp Tryd.f27.results.toList = some xs ∧ retA xs = er_evening_Check r := by
  unfold evening_Check at h
  refine Sem.wkQ (Sem.wk (s1 := ⟨Fr 46 [(0, .v (.int .i64 x0)), (1, .sl 1 (x1.map cdI.enc)), (2, .sl 1 (x2.map (cdL 1 (cdL 1 cdI)).enc))], []⟩) Wk.f1 ?_)
  refine Sem.seq ?_
  refine Sem.runS (s1 := ⟨Fr 46 [(0, .v (.int .i64 x0)), (1, .sl 1 (x1.map cdI.enc)), (2, .sl 1 (x2.map (cdL 1 (cdL 1 cdI)).enc))], []⟩) ?_ ?_
  · refine RunS.segF (n := 46) e_evening_Check_ok 2 [(0, .v (.int .i64 x0)), (1, .sl 1 (x1.map cdI.enc)), (2, .sl 1 (x2.map (cdL 1 (cdL 1 cdI)).enc))] [] (by kernel_rfl) ?_
    exact RunS.done rfl Wk.f1
  refine Sem.seq ?_
  refine Sem.block ?_
  refine Sem.seq ?_
  obtain ⟨v1, hv1, h⟩ := Option.bind_eq_some_iff.1 h
  obtain ⟨j4, hj4, h⟩ := Option.bind_eq_some_iff.1 h
  refine Sem.runS (s1 := ⟨Fr 46 [(0, .v (.int .i64 x0)), (1, .sl 1 (x1.map cdI.enc)), (2, .sl 1 (x2.map (cdL 1 (cdL 1 cdI)).enc)), (11, .v (.bool j4))], []⟩) ?_ ?_
  · refine RunS.segF (n := 46) e_evening_Check_ok 1 [(0, .v (.int .i64 x0)), (1, .sl 1 (x1.map cdI.enc)), (2, .sl 1 (x2.map (cdL 1 (cdL 1 cdI)).enc)), (12, .v (.int .i64 x0))] [] (by kernel_rfl) ?_
    refine RunS.call e_evening_Check_ok (fid := 82) (s := cs_evening_guests) (F := fun a => evening_guests a.1) (er := er_evening_guests) (xs := [.v (.int .i64 x0)]) (a := (x0, ())) rfl (wantedA_none rfl) (by kernel_rfl) (by kernel_rfl) (by kernel_rfl) (by kernel_rfl) (Sns.cons (Sn.enc (c := cdI) (v := x0)) Sns.nil) (.inl (by kernel_rfl)) hv1 ?_
    refine RunS.segF (n := 46) e_evening_Check_ok 2 [(0, .v (.int .i64 x0)), (1, .sl 1 (x1.map cdI.enc)), (2, .sl 1 (x2.map (cdL 1 (cdL 1 cdI)).enc)), (15, .v (.bool (!v1)))] [] (by kernel_rfl) ?_
    rcases Bool.eq_false_or_eq_true (!v1) with hc17 | hc17
    · rw [if_pos hc17] at hj4
      rw [hc17]
      refine RunS.segF (n := 46) e_evening_Check_ok 11 [(0, .v (.int .i64 x0)), (1, .sl 1 (x1.map cdI.enc)), (2, .sl 1 (x2.map (cdL 1 (cdL 1 cdI)).enc)), (11, .v (.bool true))] [] (by kernel_rfl) ?_
      have hq := Option.some.inj hj4; subst hq
      exact RunS.done rfl Wk.f1
    · rw [if_f hc17] at hj4
      rw [hc17]
      refine RunS.segF (n := 46) e_evening_Check_ok 1 [(0, .v (.int .i64 x0)), (1, .sl 1 (x1.map cdI.enc)), (2, .sl 1 (x2.map (cdL 1 (cdL 1 cdI)).enc)), (15, .v (.bool false)), (16, .sl 1 (x1.map cdI.enc))] [] (by kernel_rfl) ?_
      refine RunS.one e_evening_Check_ok 0 rfl (op_q (by kernel_rfl) rfl (q_len (a := .sl 1 (x1.map cdI.enc)) (by kernel_rfl) (len_sl (el := 3) (by kernel_rfl)))) ?_
      refine RunS.segF (n := 46) e_evening_Check_ok 2 [(0, .v (.int .i64 x0)), (1, .sl 1 (x1.map cdI.enc)), (2, .sl 1 (x2.map (cdL 1 (cdL 1 cdI)).enc)), (15, .v (.bool false)), (19, .v (.bool (decide ((x1.length : Int) > 0))))] [] (by kernel_rfl) ?_
      rcases Bool.eq_false_or_eq_true (decide ((x1.length : Int) > 0)) with hc18 | hc18
      · rw [if_pos hc18] at hj4
        rw [hc18]
        refine RunS.segF (n := 46) e_evening_Check_ok 2 [(0, .v (.int .i64 x0)), (1, .sl 1 (x1.map cdI.enc)), (2, .sl 1 (x2.map (cdL 1 (cdL 1 cdI)).enc)), (15, .v (.bool false)), (19, .v (.bool true)), (20, .v (.int .i64 x0)), (21, .sl 1 (x1.map cdI.enc))] [] (by kernel_rfl) ?_
        obtain ⟨v2, hv2, hj4⟩ := Option.bind_eq_some_iff.1 hj4
        refine RunS.call e_evening_Check_ok (fid := 67) (s := cs_evening_fit) (F := fun a => evening_fit a.1 a.2.1) (er := er_evening_fit) (xs := [.v (.int .i64 x0), .sl 1 (x1.map cdI.enc)]) (a := (x0, x1, ())) rfl (by kernel_rfl) (by kernel_rfl) (by kernel_rfl) (by kernel_rfl) (by kernel_rfl) (Sns.cons (Sn.enc (c := cdI) (v := x0)) (Sns.cons (Sn.enc (c := (cdL 1 cdI)) (v := x1)) Sns.nil)) (.inl (by kernel_rfl)) hv2 ?_
        refine RunS.segF (n := 46) e_evening_Check_ok 4 [(0, .v (.int .i64 x0)), (1, .sl 1 (x1.map cdI.enc)), (2, .sl 1 (x2.map (cdL 1 (cdL 1 cdI)).enc)), (11, .v (.bool (!v2)))] [] (by kernel_rfl) ?_
        have hq := Option.some.inj hj4; subst hq
        exact RunS.done rfl Wk.f1
      · rw [if_f hc18] at hj4
        rw [hc18]
        refine RunS.segF (n := 46) e_evening_Check_ok 7 [(0, .v (.int .i64 x0)), (1, .sl 1 (x1.map cdI.enc)), (2, .sl 1 (x2.map (cdL 1 (cdL 1 cdI)).enc)), (11, .v (.bool false))] [] (by kernel_rfl) ?_
        have hq := Option.some.inj hj4; subst hq
        exact RunS.done rfl Wk.f1
  refine Sem.cond (b := j4) (by kernel_rfl) (fun hb5 => ?_) (fun hb5 => ?_)
  · rw [if_pos hb5] at h
    refine Sem.seq ?_
    refine Sem.runS (s1 := ⟨Fr 46 [(6, .v (.int .i64 0)), (7, .v (.int .i64 90))], []⟩) ?_ ?_
    · refine RunS.segF (n := 46) e_evening_Check_ok 2 [(6, .v (.int .i64 0)), (7, .v (.int .i64 90))] [] (by kernel_rfl) ?_
      exact RunS.done rfl Wk.f1
    refine Sem.ret ?_
    have hq := Option.some.inj h; subst hq
    exact ⟨⟨Fr 46 [(6, .v (.int .i64 0)), (7, .v (.int .i64 90))], []⟩, Wk.f1, .inr rfl, [.v (.int .i64 0), .v (.int .i64 90)], (by kernel_rfl), (by kernel_rfl)⟩
  · rw [if_f hb5] at h
    refine Sem.seq ?_
    refine Sem.runS (s1 := ⟨Fr 46 [(0, .v (.int .i64 x0)), (1, .sl 1 (x1.map cdI.enc)), (2, .sl 1 (x2.map (cdL 1 (cdL 1 cdI)).enc)), (26, .v (.bool (decide ((x2.length : Int) > 64))))], []⟩) ?_ ?_
    · refine RunS.segF (n := 46) e_evening_Check_ok 1 [(0, .v (.int .i64 x0)), (1, .sl 1 (x1.map cdI.enc)), (2, .sl 1 (x2.map (cdL 1 (cdL 1 cdI)).enc)), (27, .sl 1 (x2.map (cdL 1 (cdL 1 cdI)).enc))] [] (by kernel_rfl) ?_
      refine RunS.one e_evening_Check_ok 0 rfl (op_q (wantedA_none rfl) rfl (q_len (a := .sl 1 (x2.map (cdL 1 (cdL 1 cdI)).enc)) (by kernel_rfl) (len_sl (el := 50) (by kernel_rfl)))) ?_
      refine RunS.segF (n := 46) e_evening_Check_ok 2 [(0, .v (.int .i64 x0)), (1, .sl 1 (x1.map cdI.enc)), (2, .sl 1 (x2.map (cdL 1 (cdL 1 cdI)).enc)), (26, .v (.bool (decide ((x2.length : Int) > 64))))] [] (by kernel_rfl) ?_
      exact RunS.done rfl Wk.f1
    refine Sem.cond (b := (decide ((x2.length : Int) > 64))) (by kernel_rfl) (fun hb6 => ?_) (fun hb6 => ?_)
    · rw [if_pos hb6] at h
      refine Sem.seq ?_
      refine Sem.runS (s1 := ⟨Fr 46 [(6, .v (.int .i64 0)), (7, .v (.int .i64 7))], []⟩) ?_ ?_
      · refine RunS.segF (n := 46) e_evening_Check_ok 2 [(6, .v (.int .i64 0)), (7, .v (.int .i64 7))] [] (by kernel_rfl) ?_
        exact RunS.done rfl Wk.f1
      refine Sem.ret ?_
      have hq := Option.some.inj h; subst hq
      exact ⟨⟨Fr 46 [(6, .v (.int .i64 0)), (7, .v (.int .i64 7))], []⟩, Wk.f1, .inr rfl, [.v (.int .i64 0), .v (.int .i64 7)], (by kernel_rfl), (by kernel_rfl)⟩
    · rw [if_f hb6] at h
      refine Sem.skip ?_
      refine Sem.seq ?_
      refine Sem.seq ?_
      refine Sem.runS (s1 := ⟨Fr 46 [(0, .v (.int .i64 x0)), (1, .sl 1 (x1.map cdI.enc)), (30, .sl 1 (x2.map (cdL 1 (cdL 1 cdI)).enc)), (31, .v (.int .i64 (x2.length : Int))), (32, .v (.int .i64 0))], []⟩) ?_ ?_
      · refine RunS.segF (n := 46) e_evening_Check_ok 1 [(0, .v (.int .i64 x0)), (1, .sl 1 (x1.map cdI.enc)), (30, .sl 1 (x2.map (cdL 1 (cdL 1 cdI)).enc))] [] (by kernel_rfl) ?_
        refine RunS.one e_evening_Check_ok 0 rfl (op_q (wantedA_none rfl) rfl (q_len (a := .sl 1 (x2.map (cdL 1 (cdL 1 cdI)).enc)) (by kernel_rfl) (len_sl (el := 50) (by kernel_rfl)))) ?_
        refine RunS.segF (n := 46) e_evening_Check_ok 1 [(0, .v (.int .i64 x0)), (1, .sl 1 (x1.map cdI.enc)), (30, .sl 1 (x2.map (cdL 1 (cdL 1 cdI)).enc)), (31, .v (.int .i64 (x2.length : Int))), (32, .v (.int .i64 0))] [] (by kernel_rfl) ?_
        exact RunS.done rfl Wk.f1
      refine Sem.block ?_
      obtain ⟨r14, hr14, h⟩ := Option.bind_eq_some_iff.1 h
      refine Sem.loop (n := 100000) ?_
      rcases r14 with w15 | w16
      · try dsimp only at h
        refine Sem.cutN (SemN.wk (s1 := ⟨Fr 46 [(0, .v (.int .i64 x0)), (1, .sl 1 (x1.map cdI.enc)), (30, .sl 1 (x2.map (cdL 1 (cdL 1 cdI)).enc)), (31, .v (.int .i64 (x2.length : Int))), (32, .v (.int .i64 0))], []⟩) Wk.f1 (evening_Check_1_ok x0 x1 x2 _ 0 _ hr14)) ?_
        refine Sem.seq ?_
        refine Sem.runS (s1 := ⟨Fr 46 [(6, .v (.int .i64 0)), (7, .v (.int .i64 0))], []⟩) ?_ ?_
        · refine RunS.segF (n := 46) e_evening_Check_ok 2 [(6, .v (.int .i64 0)), (7, .v (.int .i64 0))] [] (by kernel_rfl) ?_
          exact RunS.done rfl Wk.f1
        refine Sem.ret ?_
        have hq := Option.some.inj h; subst hq
        exact ⟨⟨Fr 46 [(6, .v (.int .i64 0)), (7, .v (.int .i64 0))], []⟩, Wk.f1, .inr rfl, [.v (.int .i64 0), .v (.int .i64 0)], (by kernel_rfl), (by kernel_rfl)⟩
      · try dsimp only at h
        refine Sem.cutN (SemN.wk (s1 := ⟨Fr 46 [(0, .v (.int .i64 x0)), (1, .sl 1 (x1.map cdI.enc)), (30, .sl 1 (x2.map (cdL 1 (cdL 1 cdI)).enc)), (31, .v (.int .i64 (x2.length : Int))), (32, .v (.int .i64 0))], []⟩) Wk.f1 (evening_Check_1_ok x0 x1 x2 _ 0 _ hr14)) ?_
        have hq := Option.some.inj h; subst hq
        exact ⟨⟨Fr 46 [(6, .v (.int .i64 w16.1)), (7, .v (.int .i64 w16.2))], []⟩, Wk.f1, .inr rfl, [.v (.int .i64 w16.1), .v (.int .i64 w16.2)], (by kernel_rfl), (by kernel_rfl)⟩
def t_evening_Check : List AV → Option AV := told cs_evening_Check (fun a => evening_Check a.1 a.2.1 a.2.2.1) er_evening_Check
theorem x_evening_Check : XOk 27 t_evening_Check := by
  refine EnvOk.x (E := e_evening_Check) (contract_ok e_evening_Check_ok (fn := Tryd.f27) (c := cb_evening_Check) ?h1 ?h2 ⟨Tryd.call27⟩ cs_evening_Check (fun a => evening_Check a.1 a.2.1 a.2.2.1) er_evening_Check (fun a => (by show 3 ≤ 46; decide)) ?h3 ?h4) rfl rfl
  case h1 => kernel_rfl
  case h2 => kernel_rfl
  case h3 => intro b; kernel_rfl
  case h4 => exact fun a b h => evening_Check_sem a.1 a.2.1 a.2.2.1 b h
/- trestle/evening.clone -/
noncomputable def e_evening_clone_d : Env := E0
theorem e_evening_clone_d_ok : EnvOk e_evening_clone_d := E0_ok
noncomputable def cb_evening_clone_d : Code := codeOf Tryd.f79
def evening_clone_d_2 (v6 : (List (List Int))) : Nat → Int → (List (List Int)) → Option (((List (List Int))))
  | 0, _, _ => none
  | f + 1, c8, c10 =>
    if (decide (c8 < (v6.length : Int))) = true then
    (idx v6 c8).bind fun v12 =>
    if (capOk 8 v12.length) = true then
    if (capOk 24 (c10.length + ([v12] : List (List Int)).length)) = true then
    evening_clone_d_2 v6 f (wr .i64 (c8 + 1)) (c10 ++ ([v12] : List (List Int)))
    else none
    else none
    else
    some c10
def evening_clone_d_1 (x0 : (List (List (List Int)))) : Nat → Int → (List (List (List Int))) → Option (((List (List (List Int)))))
  | 0, _, _ => none
  | f + 1, c2, c4 =>
    if (decide (c2 < (x0.length : Int))) = true then
    (idx x0 c2).bind fun v6 =>
    (evening_clone_d_2 v6 100000 0 ([] : (List (List Int)))).bind fun r31 =>
    if (capOk 24 (c4.length + ([r31] : List (List (List Int))).length)) = true then
    evening_clone_d_1 x0 f (wr .i64 (c2 + 1)) (c4 ++ ([r31] : List (List (List Int))))
    else none
    else
    some c4
def evening_clone_d (x0 : (List (List (List Int)))) : Option ((List (List (List Int)))) :=
  (evening_clone_d_1 x0 100000 0 ([] : (List (List (List Int))))).bind fun r48 =>
  some r48
set_option maxHeartbeats 4000000 in
set_option maxRecDepth 100000 in
theorem evening_clone_d_2_ok {L : List Asn} (v6 : (List (List Int))) (x0 : (List (List (List Int)))) (c2 : Int) (e3 : AV) (c4 : (List (List (List Int)))) : ∀ (f : Nat) (c8 : Int) (c10 : (List (List Int))) (r : ((List (List Int)))), evening_clone_d_2 v6 f c8 c10 = some r → ∀ (e9 : AV) (hp : Hp), T hp ((own_ (ocL 1 50 (ocL 1 31 (ocL 1 3 (ocV cdI)))) e3 c4) :: (own_ (ocL 1 31 (ocL 1 3 (ocV cdI))) e9 c10) :: L) → SemYN e_evening_clone_d ⟨none, false⟩ (pc cb_evening_clone_d [1, 1, 0, 1, 0, 0, 1, 1, 0, 0, 1, 1, 0, 1, 0, 0]) f ⟨Fr 33 [(3, e3), (6, e9), (9, .sl 1 (x0.map (cdL 1 (cdL 1 cdI)).enc)), (10, .v (.int .i64 (x0.length : Int))), (11, .v (.int .i64 c2)), (15, .sl 1 (v6.map (cdL 1 cdI).enc)), (16, .v (.int .i64 (v6.length : Int))), (17, .v (.int .i64 c8))], hp⟩ (fun e s => e = (.exit 2) ∧ ∃ s2, (∃ (e28 : AV) (h' : Hp), T h' ((own_ (ocL 1 50 (ocL 1 31 (ocL 1 3 (ocV cdI)))) e3 c4) :: (own_ (ocL 1 31 (ocL 1 3 (ocV cdI))) e28 r) :: L) ∧ s2 = ⟨Fr 33 [(3, e3), (6, e28), (9, .sl 1 (x0.map (cdL 1 (cdL 1 cdI)).enc)), (10, .v (.int .i64 (x0.length : Int))), (11, .v (.int .i64 c2))], h'⟩) ∧ WkY e_evening_clone_d s s2) := by
  intro f
  induction f with
  | zero => intro c8 c10 r h; cases h
  | succ f ih0 =>
    intro c8 c10 r h e9 hp hT
    unfold evening_clone_d_2 at h
    refine SemYN.succ ?_
    refine SemY.seq ?_
    refine SemY.regionL ?_
    refine RunL.segF (n := 33) e_evening_clone_d_ok 1 [(3, e3), (6, e9), (9, .sl 1 (x0.map (cdL 1 (cdL 1 cdI)).enc)), (10, .v (.int .i64 (x0.length : Int))), (11, .v (.int .i64 c2)), (15, .sl 1 (v6.map (cdL 1 cdI).enc)), (16, .v (.int .i64 (v6.length : Int))), (17, .v (.int .i64 c8)), (18, .v (.bool (decide (c8 < (v6.length : Int)))))] hp (by kernel_rfl) ?_
    refine RunL.done rfl (SemY.fr (l' := [(3, e3), (6, e9), (9, .sl 1 (x0.map (cdL 1 (cdL 1 cdI)).enc)), (10, .v (.int .i64 (x0.length : Int))), (11, .v (.int .i64 c2)), (15, .sl 1 (v6.map (cdL 1 cdI).enc)), (16, .v (.int .i64 (v6.length : Int))), (17, .v (.int .i64 c8)), (18, .v (.bool (decide (c8 < (v6.length : Int)))))]) (by kernel_rfl) ?_)
    refine SemY.seq ?_
    refine SemY.cond (b := (decide (c8 < (v6.length : Int)))) (by kernel_rfl) (fun hb11 => ?_) (fun hb11 => ?_)
    · rw [if_pos hb11] at h
      refine SemY.skip ?_
      refine SemY.seq ?_
      refine SemY.block ?_
      refine SemY.seq ?_
      refine SemY.regionL ?_
      obtain ⟨v12, hv12, h⟩ := Option.bind_eq_some_iff.1 h
      refine RunL.one e_evening_clone_d_ok 0 rfl (op_q (wantedA_none rfl) rfl (q_indexAddr (a := .sl 1 (v6.map (cdL 1 cdI).enc)) (b := .v (.int .i64 c8)) (by kernel_rfl) (by kernel_rfl) (ix_sl (e := (cdL 1 cdI).enc) (el := 31) (k := 1) (ki := .i64) (by kernel_rfl) (by kernel_rfl) hv12))) ?_
      refine RunL.segF (n := 33) e_evening_clone_d_ok 2 [(3, e3), (6, e9), (8, .sl 1 (v12.map cdI.enc)), (9, .sl 1 (x0.map (cdL 1 (cdL 1 cdI)).enc)), (10, .v (.int .i64 (x0.length : Int))), (11, .v (.int .i64 c2)), (15, .sl 1 (v6.map (cdL 1 cdI).enc)), (16, .v (.int .i64 (v6.length : Int))), (17, .v (.int .i64 c8))] hp (by kernel_rfl) ?_
      refine RunL.done rfl (SemY.fr (l' := [(3, e3), (6, e9), (8, .sl 1 (v12.map cdI.enc)), (9, .sl 1 (x0.map (cdL 1 (cdL 1 cdI)).enc)), (10, .v (.int .i64 (x0.length : Int))), (11, .v (.int .i64 c2)), (15, .sl 1 (v6.map (cdL 1 cdI).enc)), (16, .v (.int .i64 (v6.length : Int))), (17, .v (.int .i64 c8))]) (by kernel_rfl) ?_)
      refine SemY.regionL ?_
      refine RunL.segF (n := 33) e_evening_clone_d_ok 2 [(3, e3), (9, .sl 1 (x0.map (cdL 1 (cdL 1 cdI)).enc)), (10, .v (.int .i64 (x0.length : Int))), (11, .v (.int .i64 c2)), (15, .sl 1 (v6.map (cdL 1 cdI).enc)), (16, .v (.int .i64 (v6.length : Int))), (17, .v (.int .i64 c8)), (21, e9), (22, .sl 1 (v12.map cdI.enc))] hp (by kernel_rfl) ?_
      by_cases hk13 : (capOk 8 v12.length) = true
      case neg => rw [if_neg hk13] at h; cases h
      rw [if_pos hk13] at h
      refine RunL.callS rfl rfl (s_clone v12 hk13) rfl (wantedA_none rfl) (by kernel_rfl) (xs := [.sl 1 (v12.map cdI.enc)]) (by kernel_rfl) (Sees.cons (SeeV.enc (c := cdL 1 cdI)) Sees.nil) clone_flat ?_
      intro x h' hO; obtain ⟨e14, hp15, e14q, hp15q, hT160⟩ := clone_own hT hO; rw [← e14q, ← hp15q]
      have hT16 : T hp15 ((own_ (ocL 1 3 (ocV cdI)) e14 v12) :: (own_ (ocL 1 50 (ocL 1 31 (ocL 1 3 (ocV cdI)))) e3 c4) :: (own_ (ocL 1 31 (ocL 1 3 (ocV cdI))) e9 c10) :: L) := hT160
      obtain ⟨e20, hp17, hb18, hT190⟩ := lit_ownB (P := Tryd.prog) (bytes := 24) (k := 1) (t := 31) (ty := 50) (xs := ([v12] : List (List Int))) (n := 1) fit_L (els_cons ((els_nil (o := (ocL 1 3 (ocV cdI))) hT16).front 1 rfl)) rfl (by kernel_rfl) (by kernel_rfl) (by kernel_rfl)
      have hT19 : T hp17 ((own_ (ocL 1 31 (ocL 1 3 (ocV cdI))) e20 ([v12] : List (List Int))) :: (own_ (ocL 1 50 (ocL 1 31 (ocL 1 3 (ocV cdI)))) e3 c4) :: (own_ (ocL 1 31 (ocL 1 3 (ocV cdI))) e9 c10) :: L) := hT190
      refine RunL.one e_evening_clone_d_ok 0 rfl (op_n (wantedA_none rfl) rfl (by kernel_rfl) (n_lit (xs := enumA 0 [e14]) (by kernel_rfl) hb18)) ?_
      by_cases hk25 : (capOk 24 (c10.length + ([v12] : List (List Int)).length)) = true
      case neg => rw [if_neg hk25] at h; cases h
      rw [if_pos hk25] at h
      have hT26 : T hp17 ((own_ (ocL 1 31 (ocL 1 3 (ocV cdI))) e9 c10) :: (own_ (ocL 1 31 (ocL 1 3 (ocV cdI))) e20 ([v12] : List (List Int))) :: (own_ (ocL 1 50 (ocL 1 31 (ocL 1 3 (ocV cdI)))) e3 c4) :: L) := ((hT19.front 0 rfl).front 2 rfl)
      obtain ⟨e24, hp21, hb22, hT230⟩ := app_ownB (P := Tryd.prog) (ty := 50) (ty2 := 50) (bytes := 24) hT26 (by kernel_rfl) (by kernel_rfl) hk25
      have hT23 : T hp21 ((own_ (ocL 1 31 (ocL 1 3 (ocV cdI))) e24 (c10 ++ ([v12] : List (List Int)))) :: (own_ (ocL 1 50 (ocL 1 31 (ocL 1 3 (ocV cdI)))) e3 c4) :: L) := hT230
      refine RunL.one e_evening_clone_d_ok 0 rfl (op_w (wantedA_none rfl) rfl (by kernel_rfl) (by kernel_rfl) (w_append (a := e9) (b := e20) (by kernel_rfl) (by kernel_rfl) hb22)) ?_
      refine RunL.segF (n := 33) e_evening_clone_d_ok 1 [(3, e3), (6, e24), (9, .sl 1 (x0.map (cdL 1 (cdL 1 cdI)).enc)), (10, .v (.int .i64 (x0.length : Int))), (11, .v (.int .i64 c2)), (15, .sl 1 (v6.map (cdL 1 cdI).enc)), (16, .v (.int .i64 (v6.length : Int))), (17, .v (.int .i64 c8))] hp21 (by kernel_rfl) ?_
      refine RunL.done rfl (SemY.fr (l' := [(3, e3), (6, e24), (9, .sl 1 (x0.map (cdL 1 (cdL 1 cdI)).enc)), (10, .v (.int .i64 (x0.length : Int))), (11, .v (.int .i64 c2)), (15, .sl 1 (v6.map (cdL 1 cdI).enc)), (16, .v (.int .i64 (v6.length : Int))), (17, .v (.int .i64 c8))]) (by kernel_rfl) ?_)
      refine SemY.regionL ?_
      refine RunL.segF (n := 33) e_evening_clone_d_ok 2 [(3, e3), (6, e24), (9, .sl 1 (x0.map (cdL 1 (cdL 1 cdI)).enc)), (10, .v (.int .i64 (x0.length : Int))), (11, .v (.int .i64 c2)), (15, .sl 1 (v6.map (cdL 1 cdI).enc)), (16, .v (.int .i64 (v6.length : Int))), (17, .v (.int .i64 (wr .i64 (c8 + 1))))] hp21 (by kernel_rfl) ?_
      refine RunL.done rfl ?_
      have hT27 : T hp21 ((own_ (ocL 1 50 (ocL 1 31 (ocL 1 3 (ocV cdI)))) e3 c4) :: (own_ (ocL 1 31 (ocL 1 3 (ocV cdI))) e24 (c10 ++ ([v12] : List (List Int)))) :: L) := (hT23.front 1 rfl)
      exact SemYN.wk WkY.f1 (ih0 (wr .i64 (c8 + 1)) (c10 ++ ([v12] : List (List Int))) _ h e24 hp21 hT27)
    · rw [if_f hb11] at h
      refine SemY.exit ?_
      have hq := Option.some.inj h; subst hq
      exact ⟨rfl, _, ⟨e9, hp, hT, rfl⟩, WkY.f1⟩
set_option maxHeartbeats 4000000 in
set_option maxRecDepth 100000 in
theorem evening_clone_d_1_ok {L : List Asn} (x0 : (List (List (List Int)))) : ∀ (f : Nat) (c2 : Int) (c4 : (List (List (List Int)))) (r : ((List (List (List Int))))), evening_clone_d_1 x0 f c2 c4 = some r → ∀ (e3 : AV) (hp : Hp), T hp ((own_ (ocL 1 50 (ocL 1 31 (ocL 1 3 (ocV cdI)))) e3 c4) :: L) → SemYN e_evening_clone_d ⟨none, false⟩ (pc cb_evening_clone_d [1, 1, 0, 1, 0, 0]) f ⟨Fr 33 [(3, e3), (9, .sl 1 (x0.map (cdL 1 (cdL 1 cdI)).enc)), (10, .v (.int .i64 (x0.length : Int))), (11, .v (.int .i64 c2))], hp⟩ (fun e s => e = (.exit 0) ∧ ∃ s2, (∃ (e46 : AV) (h' : Hp), T h' ((own_ (ocL 1 50 (ocL 1 31 (ocL 1 3 (ocV cdI)))) e46 r) :: L) ∧ s2 = ⟨Fr 33 [(3, e46)], h'⟩) ∧ WkY e_evening_clone_d s s2) := by
  intro f
  induction f with
  | zero => intro c2 c4 r h; cases h
  | succ f ih0 =>
    intro c2 c4 r h e3 hp hT
    unfold evening_clone_d_1 at h
    refine SemYN.succ ?_
    refine SemY.seq ?_
    refine SemY.regionL ?_
    refine RunL.segF (n := 33) e_evening_clone_d_ok 1 [(3, e3), (9, .sl 1 (x0.map (cdL 1 (cdL 1 cdI)).enc)), (10, .v (.int .i64 (x0.length : Int))), (11, .v (.int .i64 c2)), (12, .v (.bool (decide (c2 < (x0.length : Int)))))] hp (by kernel_rfl) ?_
    refine RunL.done rfl (SemY.fr (l' := [(3, e3), (9, .sl 1 (x0.map (cdL 1 (cdL 1 cdI)).enc)), (10, .v (.int .i64 (x0.length : Int))), (11, .v (.int .i64 c2)), (12, .v (.bool (decide (c2 < (x0.length : Int)))))]) (by kernel_rfl) ?_)
    refine SemY.seq ?_
    refine SemY.cond (b := (decide (c2 < (x0.length : Int)))) (by kernel_rfl) (fun hb5 => ?_) (fun hb5 => ?_)
    · rw [if_pos hb5] at h
      refine SemY.skip ?_
      refine SemY.seq ?_
      refine SemY.block ?_
      refine SemY.seq ?_
      refine SemY.regionL ?_
      obtain ⟨v6, hv6, h⟩ := Option.bind_eq_some_iff.1 h
      refine RunL.one e_evening_clone_d_ok 0 rfl (op_q (wantedA_none rfl) rfl (q_indexAddr (a := .sl 1 (x0.map (cdL 1 (cdL 1 cdI)).enc)) (b := .v (.int .i64 c2)) (by kernel_rfl) (by kernel_rfl) (ix_sl (e := (cdL 1 (cdL 1 cdI)).enc) (el := 50) (k := 1) (ki := .i64) (by kernel_rfl) (by kernel_rfl) hv6))) ?_
      refine RunL.segF (n := 33) e_evening_clone_d_ok 2 [(3, e3), (5, .sl 1 (v6.map (cdL 1 cdI).enc)), (9, .sl 1 (x0.map (cdL 1 (cdL 1 cdI)).enc)), (10, .v (.int .i64 (x0.length : Int))), (11, .v (.int .i64 c2))] hp (by kernel_rfl) ?_
      refine RunL.done rfl (SemY.fr (l' := [(3, e3), (5, .sl 1 (v6.map (cdL 1 cdI).enc)), (9, .sl 1 (x0.map (cdL 1 (cdL 1 cdI)).enc)), (10, .v (.int .i64 (x0.length : Int))), (11, .v (.int .i64 c2))]) (by kernel_rfl) ?_)
      refine SemY.seq ?_
      refine SemY.regionL ?_
      refine RunL.segF (n := 33) e_evening_clone_d_ok 1 [(3, e3), (5, .sl 1 (v6.map (cdL 1 cdI).enc)), (6, .e0), (9, .sl 1 (x0.map (cdL 1 (cdL 1 cdI)).enc)), (10, .v (.int .i64 (x0.length : Int))), (11, .v (.int .i64 c2))] hp (by kernel_rfl) ?_
      refine RunL.done rfl (SemY.fr (l' := [(3, e3), (5, .sl 1 (v6.map (cdL 1 cdI).enc)), (6, .e0), (9, .sl 1 (x0.map (cdL 1 (cdL 1 cdI)).enc)), (10, .v (.int .i64 (x0.length : Int))), (11, .v (.int .i64 c2))]) (by kernel_rfl) ?_)
      refine SemY.seq ?_
      refine SemY.seq ?_
      refine SemY.regionL ?_
      refine RunL.segF (n := 33) e_evening_clone_d_ok 1 [(3, e3), (6, .e0), (9, .sl 1 (x0.map (cdL 1 (cdL 1 cdI)).enc)), (10, .v (.int .i64 (x0.length : Int))), (11, .v (.int .i64 c2)), (15, .sl 1 (v6.map (cdL 1 cdI).enc))] hp (by kernel_rfl) ?_
      refine RunL.one e_evening_clone_d_ok 0 rfl (op_q (wantedA_none rfl) rfl (q_len (a := .sl 1 (v6.map (cdL 1 cdI).enc)) (by kernel_rfl) (len_sl (el := 31) (by kernel_rfl)))) ?_
      refine RunL.segF (n := 33) e_evening_clone_d_ok 1 [(3, e3), (6, .e0), (9, .sl 1 (x0.map (cdL 1 (cdL 1 cdI)).enc)), (10, .v (.int .i64 (x0.length : Int))), (11, .v (.int .i64 c2)), (15, .sl 1 (v6.map (cdL 1 cdI).enc)), (16, .v (.int .i64 (v6.length : Int))), (17, .v (.int .i64 0))] hp (by kernel_rfl) ?_
      refine RunL.done rfl (SemY.fr (l' := [(3, e3), (6, .e0), (9, .sl 1 (x0.map (cdL 1 (cdL 1 cdI)).enc)), (10, .v (.int .i64 (x0.length : Int))), (11, .v (.int .i64 c2)), (15, .sl 1 (v6.map (cdL 1 cdI).enc)), (16, .v (.int .i64 (v6.length : Int))), (17, .v (.int .i64 0))]) (by kernel_rfl) ?_)
      refine SemY.block ?_
      have hT7 : T hp ((own_ (ocL 1 31 (ocL 1 3 (ocV cdI))) .e0 ([] : (List (List Int)))) :: (own_ (ocL 1 50 (ocL 1 31 (ocL 1 3 (ocV cdI)))) e3 c4) :: L) := (T.e0 (o := (ocL 1 3 (ocV cdI))) hT)
      have hT30 : T hp ((own_ (ocL 1 50 (ocL 1 31 (ocL 1 3 (ocV cdI)))) e3 c4) :: (own_ (ocL 1 31 (ocL 1 3 (ocV cdI))) .e0 ([] : (List (List Int)))) :: L) := (hT7.front 1 rfl)
      refine SemY.loop (n := 100000) ?_
      obtain ⟨r31, hr31, h⟩ := Option.bind_eq_some_iff.1 h
      refine SemYN.cutT (SemYN.wk WkY.f1 (evening_clone_d_2_ok v6 x0 c2 e3 c4 _ 0 ([] : (List (List Int))) _ hr31 .e0 hp hT30)) ?_
      rintro _ ⟨e32, hp33, hT34, rfl⟩
      refine SemY.regionL ?_
      refine RunL.segF (n := 33) e_evening_clone_d_ok 2 [(9, .sl 1 (x0.map (cdL 1 (cdL 1 cdI)).enc)), (10, .v (.int .i64 (x0.length : Int))), (11, .v (.int .i64 c2)), (27, e3), (28, e32)] hp33 (by kernel_rfl) ?_
      have hT39 : T hp33 ((own_ (ocL 1 31 (ocL 1 3 (ocV cdI))) e32 r31) :: (own_ (ocL 1 50 (ocL 1 31 (ocL 1 3 (ocV cdI)))) e3 c4) :: L) := (hT34.front 1 rfl)
      obtain ⟨e38, hp35, hb36, hT370⟩ := lit_ownB (P := Tryd.prog) (bytes := 24) (k := 1) (t := 50) (ty := 22) (xs := ([r31] : List (List (List Int)))) (n := 1) fit_L (els_cons ((els_nil (o := (ocL 1 31 (ocL 1 3 (ocV cdI)))) hT39).front 1 rfl)) rfl (by kernel_rfl) (by kernel_rfl) (by kernel_rfl)
      have hT37 : T hp35 ((own_ (ocL 1 50 (ocL 1 31 (ocL 1 3 (ocV cdI)))) e38 ([r31] : List (List (List Int)))) :: (own_ (ocL 1 50 (ocL 1 31 (ocL 1 3 (ocV cdI)))) e3 c4) :: L) := hT370
      refine RunL.one e_evening_clone_d_ok 0 rfl (op_n (wantedA_none rfl) rfl (by kernel_rfl) (n_lit (xs := enumA 0 [e32]) (by kernel_rfl) hb36)) ?_
      by_cases hk44 : (capOk 24 (c4.length + ([r31] : List (List (List Int))).length)) = true
      case neg => rw [if_neg hk44] at h; cases h
      rw [if_pos hk44] at h
      have hT45 : T hp35 ((own_ (ocL 1 50 (ocL 1 31 (ocL 1 3 (ocV cdI)))) e3 c4) :: (own_ (ocL 1 50 (ocL 1 31 (ocL 1 3 (ocV cdI)))) e38 ([r31] : List (List (List Int)))) :: L) := ((hT37.front 0 rfl).front 1 rfl)
      obtain ⟨e43, hp40, hb41, hT420⟩ := app_ownB (P := Tryd.prog) (ty := 22) (ty2 := 22) (bytes := 24) hT45 (by kernel_rfl) (by kernel_rfl) hk44
      have hT42 : T hp40 ((own_ (ocL 1 50 (ocL 1 31 (ocL 1 3 (ocV cdI)))) e43 (c4 ++ ([r31] : List (List (List Int))))) :: L) := hT420
      refine RunL.one e_evening_clone_d_ok 0 rfl (op_w (wantedA_none rfl) rfl (by kernel_rfl) (by kernel_rfl) (w_append (a := e3) (b := e38) (by kernel_rfl) (by kernel_rfl) hb41)) ?_
      refine RunL.segF (n := 33) e_evening_clone_d_ok 1 [(3, e43), (9, .sl 1 (x0.map (cdL 1 (cdL 1 cdI)).enc)), (10, .v (.int .i64 (x0.length : Int))), (11, .v (.int .i64 c2))] hp40 (by kernel_rfl) ?_
      refine RunL.done rfl (SemY.fr (l' := [(3, e43), (9, .sl 1 (x0.map (cdL 1 (cdL 1 cdI)).enc)), (10, .v (.int .i64 (x0.length : Int))), (11, .v (.int .i64 c2))]) (by kernel_rfl) ?_)
      refine SemY.regionL ?_
      refine RunL.segF (n := 33) e_evening_clone_d_ok 2 [(3, e43), (9, .sl 1 (x0.map (cdL 1 (cdL 1 cdI)).enc)), (10, .v (.int .i64 (x0.length : Int))), (11, .v (.int .i64 (wr .i64 (c2 + 1))))] hp40 (by kernel_rfl) ?_
      refine RunL.done rfl ?_
      exact SemYN.wk WkY.f1 (ih0 (wr .i64 (c2 + 1)) (c4 ++ ([r31] : List (List (List Int)))) _ h e43 hp40 hT42)
    · rw [if_f hb5] at h
      refine SemY.exit ?_
      have hq := Option.some.inj h; subst hq
      exact ⟨rfl, _, ⟨e3, hp, hT, rfl⟩, WkY.f1⟩
set_option maxHeartbeats 4000000 in
set_option maxRecDepth 100000 in
theorem evening_clone_d_sem {L : List Asn} {hp : Hp} (x0 : (List (List (List Int)))) (r : (List (List (List Int)))) (h : evening_clone_d x0 = some r) (hT : T hp (L)) : SemY e_evening_clone_d ⟨none, false⟩ cb_evening_clone_d ⟨Fr 33 (pairs0 0 [.sl 1 (x0.map (cdL 1 (cdL 1 cdI)).enc)]), hp⟩ fun x s' => (x = .normal ∨ x = .ret) ∧ ∃ ys, resA e_evening_clone_d.P s'.fr s'.hp Tryd.f79.results.toList = some ys ∧ (fun v h' => ∃ (z0 : AV), v = z0 ∧ T h' ((own_ (ocL 1 50 (ocL 1 31 (ocL 1 3 (ocV cdI)))) z0 r) :: L)) (retA ys) s'.hp := by
  unfold evening_clone_d at h
  refine SemY.wkQ (SemY.wk (s1 := ⟨Fr 33 [(0, .sl 1 (x0.map (cdL 1 (cdL 1 cdI)).enc))], hp⟩) WkY.f1 ?_)
  refine SemY.seq ?_
  refine SemY.regionL ?_
  refine RunL.segF (n := 33) e_evening_clone_d_ok 1 [(0, .sl 1 (x0.map (cdL 1 (cdL 1 cdI)).enc))] hp (by kernel_rfl) ?_
  refine RunL.done rfl (SemY.fr (l' := [(0, .sl 1 (x0.map (cdL 1 (cdL 1 cdI)).enc))]) (by kernel_rfl) ?_)
  refine SemY.seq ?_
  refine SemY.regionL ?_
  refine RunL.segF (n := 33) e_evening_clone_d_ok 1 [(0, .sl 1 (x0.map (cdL 1 (cdL 1 cdI)).enc)), (3, .e0)] hp (by kernel_rfl) ?_
  refine RunL.done rfl (SemY.fr (l' := [(0, .sl 1 (x0.map (cdL 1 (cdL 1 cdI)).enc)), (3, .e0)]) (by kernel_rfl) ?_)
  refine SemY.seq ?_
  refine SemY.seq ?_
  refine SemY.regionL ?_
  refine RunL.segF (n := 33) e_evening_clone_d_ok 1 [(3, .e0), (9, .sl 1 (x0.map (cdL 1 (cdL 1 cdI)).enc))] hp (by kernel_rfl) ?_
  refine RunL.one e_evening_clone_d_ok 0 rfl (op_q (wantedA_none rfl) rfl (q_len (a := .sl 1 (x0.map (cdL 1 (cdL 1 cdI)).enc)) (by kernel_rfl) (len_sl (el := 50) (by kernel_rfl)))) ?_
  refine RunL.segF (n := 33) e_evening_clone_d_ok 1 [(3, .e0), (9, .sl 1 (x0.map (cdL 1 (cdL 1 cdI)).enc)), (10, .v (.int .i64 (x0.length : Int))), (11, .v (.int .i64 0))] hp (by kernel_rfl) ?_
  refine RunL.done rfl (SemY.fr (l' := [(3, .e0), (9, .sl 1 (x0.map (cdL 1 (cdL 1 cdI)).enc)), (10, .v (.int .i64 (x0.length : Int))), (11, .v (.int .i64 0))]) (by kernel_rfl) ?_)
  refine SemY.block ?_
  have hT1 : T hp ((own_ (ocL 1 50 (ocL 1 31 (ocL 1 3 (ocV cdI)))) .e0 ([] : (List (List (List Int))))) :: L) := (T.e0 (o := (ocL 1 31 (ocL 1 3 (ocV cdI)))) hT)
  refine SemY.loop (n := 100000) ?_
  obtain ⟨r48, hr48, h⟩ := Option.bind_eq_some_iff.1 h
  refine SemYN.cutT (SemYN.wk WkY.f1 (evening_clone_d_1_ok x0 _ 0 ([] : (List (List (List Int)))) _ hr48 .e0 hp hT1)) ?_
  rintro _ ⟨e49, hp50, hT51, rfl⟩
  refine SemY.seq ?_
  refine SemY.regionL ?_
  refine RunL.segF (n := 33) e_evening_clone_d_ok 2 [(2, e49)] hp50 (by kernel_rfl) ?_
  refine RunL.done rfl (SemY.fr (l' := [(2, e49)]) (by kernel_rfl) ?_)
  refine SemY.ret ?_
  have hq := Option.some.inj h; subst hq
  exact ⟨⟨Fr 33 [(2, e49)], hp50⟩, WkY.f1, .inr rfl, [e49], (by kernel_rfl), ⟨e49, rfl, hT51⟩⟩
end Go.Proofs.YtcmgmkepodbpkaaDoor
