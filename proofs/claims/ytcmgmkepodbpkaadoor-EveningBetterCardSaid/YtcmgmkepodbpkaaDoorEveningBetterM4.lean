/- Lemmas for the proof. -/
import Derived.Test.YtcmgmkepodbpkaaDoorEveningBetterM1
import Derived.Test.YtcmgmkepodbpkaaDoorEveningBetterM2
import Derived.Test.YtcmgmkepodbpkaaDoorEveningBetterM3
import Derived.Test.YtcmgmkepodbpkaaDoorProg
import Derived.Laws.CopyOwn
import Derived.Laws.Slices
import Derived.Laws.StructEq
namespace Go.Proofs.YtcmgmkepodbpkaaDoor
open Go.RowKit
/- trestle/trestlelaw09.Made -/
noncomputable def e_law09_Made : Env := (E0.withX 35 t_law09_Sizes)
theorem e_law09_Made_ok : EnvOk e_law09_Made := (EnvOk.withX E0_ok x_law09_Sizes.1 x_law09_Sizes.2)
noncomputable def cb_law09_Made : Code := codeOf Tryd.f25
def law09_Made_1 (x1 : (List (List (Int × Int)))) (v1 : (List Int) × Int) : Nat → (List Int) → Int → Option (((List Int)))
 | 0, _, _ => none
 | f + 1, c3, c4 =>
  if (decide (c4 < ((List.replicate v1.2.toNat (0 : Int)).length : Int))) = true then
  (idx c3 c4).bind fun v6 =>
  law09_Made_1 x1 v1 f (c3.set c4.toNat c4) (wr .i64 (c4 + 1))
  else
  some c3
def law09_Made_3 (x1 : (List (List (Int × Int)))) (v1 : (List Int) × Int) (c12 : Int) (v14 : (List (Int × Int))) : Nat → (List Int) → (List (List (List Int))) → Int → Option (((List Int) × (List (List (List Int)))))
 | 0, _, _, _ => none
 | f + 1, c16, c17, c18 =>
  if (decide (c18 < (((v14.take (mnI (v14.length : Int) 20).toNat).drop (0 : Int).toNat).length : Int))) = true then
  (idx ((v14.take (mnI (v14.length : Int) 20).toNat).drop (0 : Int).toNat) c18).bind fun v20 =>
  if v1.2 = (0 : Int) then none else
  if v1.2 = (0 : Int) then none else
  (idx c16 ((wr .i64 v20.2).tmod v1.2)).bind fun v23 =>
  (idx c16 ((wr .i64 v20.1).tmod v1.2)).bind fun v24 =>
  (idx c16 ((wr .i64 v20.1).tmod v1.2)).bind fun v25 =>
  (idx (c16.set (((wr .i64 v20.1).tmod v1.2).toNat) v23) ((wr .i64 v20.2).tmod v1.2)).bind fun v26 =>
  law09_Made_3 x1 v1 c12 v14 f ((c16.set (((wr .i64 v20.1).tmod v1.2).toNat) v23).set (((wr .i64 v20.2).tmod v1.2).toNat) v24) c17 (wr .i64 (c18 + 1))
  else
  some (c16, c17)
def law09_Made_4 (x1 : (List (List (Int × Int)))) (v1 : (List Int) × Int) (c12 : Int) (r29 : (List Int) × (List (List (List Int)))) : Nat → (List (List Int)) → Int → Int → Option (((List (List Int))))
 | 0, _, _, _ => none
 | f + 1, c30, c31, c32 =>
  if (decide (c32 < (v1.1.length : Int))) = true then
  (idx v1.1 c32).bind fun v34 =>
  if (partOk c31 (wr .i64 (c31 + v34)) r29.1.length) = true then
  if (capOk 8 ((r29.1.take (wr .i64 (c31 + v34)).toNat).drop c31.toNat).length) = true then
  if (capOk 24 (c30.length + 1)) = true then
  law09_Made_4 x1 v1 c12 r29 f (c30 ++ [((r29.1.take (wr .i64 (c31 + v34)).toNat).drop c31.toNat)]) (wr .i64 (c31 + v34)) (wr .i64 (c32 + 1))
  else none
  else none
  else none
  else
  some c30
def law09_Made_2 (x1 : (List (List (Int × Int)))) (v1 : (List Int) × Int) : Nat → (List Int) → (List (List (List Int))) → Int → Option (((List (List (List Int)))))
 | 0, _, _, _ => none
 | f + 1, c10, c11, c12 =>
  if (decide (c12 < (((x1.take (mnI (x1.length : Int) 10).toNat).drop (0 : Int).toNat).length : Int))) = true then
  (idx ((x1.take (mnI (x1.length : Int) 10).toNat).drop (0 : Int).toNat) c12).bind fun v14 =>
  if (cutOk 0 (mnI (v14.length : Int) 20) v14.length) = true then
  (law09_Made_3 x1 v1 c12 v14 100000 c10 c11 0).bind fun r29 =>
  (law09_Made_4 x1 v1 c12 r29 100000 [] 0 0).bind fun r39 =>
  if (capOk 24 (r29.2.length + 1)) = true then
  law09_Made_2 x1 v1 f r29.1 (r29.2 ++ [r39]) (wr .i64 (c12 + 1))
  else none
  else none
  else
  some c11
def law09_Made (x0 : (List Int)) (x1 : (List (List (Int × Int)))) : Option ((List (List (List Int))) × (List Int) × Int) :=
 (law09_Sizes x0).bind fun v1 =>
 if (mkOk 8 v1.2) = true then
 (law09_Made_1 x1 v1 100000 (List.replicate v1.2.toNat (0 : Int)) 0).bind fun r8 =>
 if (cutOk 0 (mnI (x1.length : Int) 10) x1.length) = true then
 (law09_Made_2 x1 v1 100000 r8 [] 0).bind fun r42 =>
 some (r42, v1.1, v1.2)
 else none
 else none
def cs_law09_Made : Cs ((List Int) × (List (List (Int × Int))) × Unit) := (csC (cdL 1 (cdK .u8)) (csC (cdL 1 (cdL 2 (cdG2 (cdK .u8) (cdK .u8) (fun _ => rfl) (fun _ => rfl)))) csN))
def er_law09_Made (r : (List (List (List Int))) × (List Int) × Int) : AV := .tp [(cdL 1 (cdL 1 (cdL 1 cdI))).enc r.1, (cdL 1 cdI).enc r.2.1, cdI.enc r.2.2]
set_option maxHeartbeats 4000000 in
set_option maxRecDepth 100000 in
theorem law09_Made_1_ok (x1 : (List (List (Int × Int)))) (v1 : (List Int) × Int) : ∀ (f : Nat) (c3 : (List Int)) (c4 : Int) (r : ((List Int))), law09_Made_1 x1 v1 f c3 c4 = some r → SemN e_law09_Made ⟨none, false⟩ (pc cb_law09_Made [1, 1, 1, 0, 1, 0, 0]) f ⟨Fr 112 [(1, .sl 1 (x1.map (cdL 2 (cdG2 (cdK .u8) (cdK .u8) (fun _ => rfl) (fun _ => rfl))).enc)), (7, .sl 1 (v1.1.map cdI.enc)), (8, .v (.int .i64 v1.2)), (9, .rf 0 0 c3.length c3.length), (30, .v (.int .i64 ((List.replicate v1.2.toNat (0 : Int)).length : Int))), (31, .v (.int .i64 c4))], [some ⟨1, 3, (c3.map cdI.enc), false⟩]⟩ (fun e s => e = (.exit 0) ∧ Wk e_law09_Made s ⟨Fr 112 [(1, .sl 1 (x1.map (cdL 2 (cdG2 (cdK .u8) (cdK .u8) (fun _ => rfl) (fun _ => rfl))).enc)), (7, .sl 1 (v1.1.map cdI.enc)), (8, .v (.int .i64 v1.2)), (9, .rf 0 0 r.length r.length)], [some ⟨1, 3, (r.map cdI.enc), false⟩]⟩) := by
 have he := e_law09_Made_ok
 intro f
 induction f with
 | zero => intro c3 c4 r h; cases h
 | succ f ih0 =>
  intro c3 c4 r h
  have ih := fun (c3 : (List Int)) (c4 : Int) => ih0 c3 c4 r
  unfold law09_Made_1 at h
  refine SemN.succ ?_
  let p1 : Option Blk := some ⟨1, 3, (c3.map cdI.enc), false⟩
  let p2 : Nat × AV := (31, .v (.int .i64 c4))
  let p3 : Nat × AV := (30, .v (.int .i64 ((List.replicate v1.2.toNat (0 : Int)).length : Int)))
  let p4 : Nat × AV := (9, .rf 0 0 c3.length c3.length)
  let p5 : Nat × AV := (8, .v (.int .i64 v1.2))
  let p6 : Nat × AV := (7, .sl 1 (v1.1.map cdI.enc))
  let p7 : Nat × AV := (1, .sl 1 (x1.map (cdL 2 (cdG2 (cdK .u8) (cdK .u8) (fun _ => rfl) (fun _ => rfl))).enc))
  refine Sem.sq he [p7, p6, p5, p4, p3, p2, (32, .v (.bool (decide (c4 < ((List.replicate v1.2.toNat (0 : Int)).length : Int)))))] [p1] ?_
  refine Sem.seq ?_
  refine Sem.cond (b := (decide (c4 < ((List.replicate v1.2.toNat (0 : Int)).length : Int)))) kr (fun hb5 => ?_) (fun hb5 => ?_)
  ·rw [if_pos hb5] at h
   refine Sem.skip ?_
   refine Sem.seq ?_
   refine Sem.block ?_
   refine Sem.sq he [p7, p6, p5, p4, (10, .v (.int .i64 c4)), p3, p2] [p1] ?_
   obtain ⟨v6, hv6, h⟩ := Option.bind_eq_some_iff.1 h
   let p8 : Option Blk := some ⟨1, 3, ((c3.set c4.toNat c4).map cdI.enc), false⟩
   let p9 : Nat × AV := (9, .rf 0 0 (c3.set c4.toNat c4).length (c3.set c4.toNat c4).length)
   refine Sem.runS (s1 := ⟨Fr 112 [p7, p6, p5, p9, p3, p2], [p8]⟩) ?_ ?_
   ·refine RunS.segF (n := 112) he 3 [p7, p6, p5, p4, p3, p2, (34, .rf 0 0 c3.length c3.length), (35, .v (.int .i64 c4)), (36, .v (.int .i64 c4))] [p1] kr ?_
    refine RunS.one he 0 rfl (op_q (wantedA_none rfl) rfl (q_indexAddr (a := .rf 0 0 c3.length c3.length) (b := .v (.int .i64 c4)) kr kr (ix_rl (e := cdI.enc) (xs := c3) (t' := 3) (el := 3) (k := 1) (ki := .i64) kr kr kr hv6))) ?_
    refine RunS.store he (y := .pt 0 c4.toNat 0) (z := .v (.int .i64 c4)) rfl (wantedA_none rfl) kr kr (st_blk (t' := 3) (k := 1) (e := cdI.enc) (xs := c3) (v := v6) (v' := c4) kr (idx_at hv6).2 kr kr kr) ?_
    exact RunS.done rfl (Wk.sel2 [0] kr kr kr ⟨⟨_, rfl, bu_own⟩, trivial⟩ ⟨lu kr kr, lu kr kr, lu kr kr, lu_rl (b' := 0) (n := c3.length) kr (by simp) kr, lu kr kr, lu kr kr, trivial⟩)
   let p10 : Nat × AV := (31, .v (.int .i64 (wr .i64 (c4 + 1))))
   refine Sem.rg he [p7, p6, p5, p9, p3, p10] [p8] ?_
   exact SemN.wk (s1 := ⟨Fr 112 [p7, p6, p5, p9, p3, p10], [p8]⟩) (Wk.sel2 [0] kr kr kr ⟨⟨_, rfl, bu_own⟩, trivial⟩ ⟨lu kr kr, lu kr kr, lu kr kr, lu kr kr, lu kr kr, lu kr kr, trivial⟩) (ih (c3.set c4.toNat c4) (wr .i64 (c4 + 1)) h)
  ·rw [if_f hb5] at h
   refine Sem.exit ?_
   have hq := Option.some.inj h; subst hq
   exact ⟨rfl, (Wk.sel2 [0] kr kr kr ⟨⟨_, rfl, bu_own⟩, trivial⟩ ⟨lu kr kr, lu kr kr, lu kr kr, lu kr kr, trivial⟩)⟩
set_option maxHeartbeats 4000000 in
set_option maxRecDepth 100000 in
theorem law09_Made_3_ok (x1 : (List (List (Int × Int)))) (v1 : (List Int) × Int) (c12 : Int) (v14 : (List (Int × Int))) : ∀ (f : Nat) (c16 : (List Int)) (c17 : (List (List (List Int)))) (c18 : Int) (r : ((List Int) × (List (List (List Int))))), law09_Made_3 x1 v1 c12 v14 f c16 c17 c18 = some r → SemN e_law09_Made ⟨none, false⟩ (pc cb_law09_Made [1, 1, 1, 1, 1, 0, 1, 0, 0, 1, 1, 0, 0, 1, 0, 1, 0, 0]) f ⟨Fr 112 [(7, .sl 1 (v1.1.map cdI.enc)), (8, .v (.int .i64 v1.2)), (9, .rf 0 0 c16.length c16.length), (11, hd 1 (c17.map (cdL 1 (cdL 1 cdI)).enc)), (43, .sl 1 (((x1.take (mnI (x1.length : Int) 10).toNat).drop (0 : Int).toNat).map (cdL 2 (cdG2 (cdK .u8) (cdK .u8) (fun _ => rfl) (fun _ => rfl))).enc)), (44, .v (.int .i64 (((x1.take (mnI (x1.length : Int) 10).toNat).drop (0 : Int).toNat).length : Int))), (45, .v (.int .i64 c12)), (53, .sl 2 (((v14.take (mnI (v14.length : Int) 20).toNat).drop (0 : Int).toNat).map (cdG2 (cdK .u8) (cdK .u8) (fun _ => rfl) (fun _ => rfl)).enc)), (54, .v (.int .i64 (((v14.take (mnI (v14.length : Int) 20).toNat).drop (0 : Int).toNat).length : Int))), (55, .v (.int .i64 c18))], [some ⟨1, 3, (c16.map cdI.enc), false⟩, mk 1 50 (c17.map (cdL 1 (cdL 1 cdI)).enc)]⟩ (fun e s => e = (.exit 4) ∧ Wk e_law09_Made s ⟨Fr 112 [(7, .sl 1 (v1.1.map cdI.enc)), (8, .v (.int .i64 v1.2)), (9, .rf 0 0 r.1.length r.1.length), (11, hd 1 (r.2.map (cdL 1 (cdL 1 cdI)).enc)), (43, .sl 1 (((x1.take (mnI (x1.length : Int) 10).toNat).drop (0 : Int).toNat).map (cdL 2 (cdG2 (cdK .u8) (cdK .u8) (fun _ => rfl) (fun _ => rfl))).enc)), (44, .v (.int .i64 (((x1.take (mnI (x1.length : Int) 10).toNat).drop (0 : Int).toNat).length : Int))), (45, .v (.int .i64 c12))], [some ⟨1, 3, (r.1.map cdI.enc), false⟩, mk 1 50 (r.2.map (cdL 1 (cdL 1 cdI)).enc)]⟩) := by
 have he := e_law09_Made_ok
 intro f
 induction f with
 | zero => intro c16 c17 c18 r h; cases h
 | succ f ih0 =>
  intro c16 c17 c18 r h
  have ih := fun (c16 : (List Int)) (c17 : (List (List (List Int)))) (c18 : Int) => ih0 c16 c17 c18 r
  unfold law09_Made_3 at h
  refine SemN.succ ?_
  refine Sem.sq he [(7, .sl 1 (v1.1.map cdI.enc)), (8, .v (.int .i64 v1.2)), (9, .rf 0 0 c16.length c16.length), (11, hd 1 (c17.map (cdL 1 (cdL 1 cdI)).enc)), (43, .sl 1 (((x1.take (mnI (x1.length : Int) 10).toNat).drop (0 : Int).toNat).map (cdL 2 (cdG2 (cdK .u8) (cdK .u8) (fun _ => rfl) (fun _ => rfl))).enc)), (44, .v (.int .i64 (((x1.take (mnI (x1.length : Int) 10).toNat).drop (0 : Int).toNat).length : Int))), (45, .v (.int .i64 c12)), (53, .sl 2 (((v14.take (mnI (v14.length : Int) 20).toNat).drop (0 : Int).toNat).map (cdG2 (cdK .u8) (cdK .u8) (fun _ => rfl) (fun _ => rfl)).enc)), (54, .v (.int .i64 (((v14.take (mnI (v14.length : Int) 20).toNat).drop (0 : Int).toNat).length : Int))), (55, .v (.int .i64 c18)), (56, .v (.bool (decide (c18 < (((v14.take (mnI (v14.length : Int) 20).toNat).drop (0 : Int).toNat).length : Int)))))] [some ⟨1, 3, (c16.map cdI.enc), false⟩, mk 1 50 (c17.map (cdL 1 (cdL 1 cdI)).enc)] ?_
  refine Sem.seq ?_
  refine Sem.cond (b := (decide (c18 < (((v14.take (mnI (v14.length : Int) 20).toNat).drop (0 : Int).toNat).length : Int)))) kr (fun hb19 => ?_) (fun hb19 => ?_)
  ·rw [if_pos hb19] at h
   refine Sem.skip ?_
   refine Sem.seq ?_
   refine Sem.block ?_
   refine Sem.seq ?_
   obtain ⟨v20, hv20, h⟩ := Option.bind_eq_some_iff.1 h
   refine Sem.runS (s1 := ⟨Fr 112 [(7, .sl 1 (v1.1.map cdI.enc)), (8, .v (.int .i64 v1.2)), (9, .rf 0 0 c16.length c16.length), (11, hd 1 (c17.map (cdL 1 (cdL 1 cdI)).enc)), (15, .pt 2 0 0), (43, .sl 1 (((x1.take (mnI (x1.length : Int) 10).toNat).drop (0 : Int).toNat).map (cdL 2 (cdG2 (cdK .u8) (cdK .u8) (fun _ => rfl) (fun _ => rfl))).enc)), (44, .v (.int .i64 (((x1.take (mnI (x1.length : Int) 10).toNat).drop (0 : Int).toNat).length : Int))), (45, .v (.int .i64 c12)), (53, .sl 2 (((v14.take (mnI (v14.length : Int) 20).toNat).drop (0 : Int).toNat).map (cdG2 (cdK .u8) (cdK .u8) (fun _ => rfl) (fun _ => rfl)).enc)), (54, .v (.int .i64 (((v14.take (mnI (v14.length : Int) 20).toNat).drop (0 : Int).toNat).length : Int))), (55, .v (.int .i64 c18))], [some ⟨1, 3, (c16.map cdI.enc), false⟩, mk 1 50 (c17.map (cdL 1 (cdL 1 cdI)).enc), some ⟨2, 53, [.ag [.v (.int .u8 v20.1), .v (.int .u8 v20.2)]], false⟩]⟩) ?_ ?_
   ·refine RunS.one he 0 rfl (op_q (wantedA_none rfl) rfl (q_indexAddr (a := .sl 2 (((v14.take (mnI (v14.length : Int) 20).toNat).drop (0 : Int).toNat).map (cdG2 (cdK .u8) (cdK .u8) (fun _ => rfl) (fun _ => rfl)).enc)) (b := .v (.int .i64 c18)) kr kr (ix_sl (e := (cdG2 (cdK .u8) (cdK .u8) (fun _ => rfl) (fun _ => rfl)).enc) (el := 53) (k := 2) (ki := .i64) kr kr hv20))) ?_
    exact RunS.last he
   refine Sem.seq ?_
   by_cases hz21 : v1.2 = (0 : Int)
   ·rw [if_pos hz21] at h; cases h
   rw [if_neg hz21] at h
   by_cases hz22 : v1.2 = (0 : Int)
   ·rw [if_pos hz22] at h; cases h
   rw [if_neg hz22] at h
   refine Sem.runDS he (s1 := ⟨Fr 112 [(7, .sl 1 (v1.1.map cdI.enc)), (8, .v (.int .i64 v1.2)), (9, .rf 0 0 c16.length c16.length), (11, hd 1 (c17.map (cdL 1 (cdL 1 cdI)).enc)), (16, .v (.int .i64 ((wr .i64 v20.1).tmod v1.2))), (17, .v (.int .i64 ((wr .i64 v20.2).tmod v1.2))), (43, .sl 1 (((x1.take (mnI (x1.length : Int) 10).toNat).drop (0 : Int).toNat).map (cdL 2 (cdG2 (cdK .u8) (cdK .u8) (fun _ => rfl) (fun _ => rfl))).enc)), (44, .v (.int .i64 (((x1.take (mnI (x1.length : Int) 10).toNat).drop (0 : Int).toNat).length : Int))), (45, .v (.int .i64 c12)), (53, .sl 2 (((v14.take (mnI (v14.length : Int) 20).toNat).drop (0 : Int).toNat).map (cdG2 (cdK .u8) (cdK .u8) (fun _ => rfl) (fun _ => rfl)).enc)), (54, .v (.int .i64 (((v14.take (mnI (v14.length : Int) 20).toNat).drop (0 : Int).toNat).length : Int))), (55, .v (.int .i64 c18))], [some ⟨1, 3, (c16.map cdI.enc), false⟩, mk 1 50 (c17.map (cdL 1 (cdL 1 cdI)).enc)]⟩) kr ?_ ?_
   ·refine RunDS.segF (n := 112) he 4 [(7, .sl 1 (v1.1.map cdI.enc)), (8, .v (.int .i64 v1.2)), (9, .rf 0 0 c16.length c16.length), (11, hd 1 (c17.map (cdL 1 (cdL 1 cdI)).enc)), (15, .pt 2 0 0), (43, .sl 1 (((x1.take (mnI (x1.length : Int) 10).toNat).drop (0 : Int).toNat).map (cdL 2 (cdG2 (cdK .u8) (cdK .u8) (fun _ => rfl) (fun _ => rfl))).enc)), (44, .v (.int .i64 (((x1.take (mnI (x1.length : Int) 10).toNat).drop (0 : Int).toNat).length : Int))), (45, .v (.int .i64 c12)), (53, .sl 2 (((v14.take (mnI (v14.length : Int) 20).toNat).drop (0 : Int).toNat).map (cdG2 (cdK .u8) (cdK .u8) (fun _ => rfl) (fun _ => rfl)).enc)), (54, .v (.int .i64 (((v14.take (mnI (v14.length : Int) 20).toNat).drop (0 : Int).toNat).length : Int))), (55, .v (.int .i64 c18)), (61, .v (.int .i64 (wr .i64 v20.1))), (62, .v (.int .i64 v1.2))] [some ⟨1, 3, (c16.map cdI.enc), false⟩, mk 1 50 (c17.map (cdL 1 (cdL 1 cdI)).enc), some ⟨2, 53, [.ag [.v (.int .u8 v20.1), .v (.int .u8 v20.2)]], false⟩] kr kr ?_
    refine RunDS.one he rfl kr (opd_q kr (wantedA_none rfl) rfl (q_bin (a := .v (.int .i64 (wr .i64 v20.1))) (b := .v (.int .i64 v1.2)) kr kr (bin_rem hz21)) kr) ?_
    refine RunDS.segF (n := 112) he 4 [(7, .sl 1 (v1.1.map cdI.enc)), (8, .v (.int .i64 v1.2)), (9, .rf 0 0 c16.length c16.length), (11, hd 1 (c17.map (cdL 1 (cdL 1 cdI)).enc)), (43, .sl 1 (((x1.take (mnI (x1.length : Int) 10).toNat).drop (0 : Int).toNat).map (cdL 2 (cdG2 (cdK .u8) (cdK .u8) (fun _ => rfl) (fun _ => rfl))).enc)), (44, .v (.int .i64 (((x1.take (mnI (x1.length : Int) 10).toNat).drop (0 : Int).toNat).length : Int))), (45, .v (.int .i64 c12)), (53, .sl 2 (((v14.take (mnI (v14.length : Int) 20).toNat).drop (0 : Int).toNat).map (cdG2 (cdK .u8) (cdK .u8) (fun _ => rfl) (fun _ => rfl)).enc)), (54, .v (.int .i64 (((v14.take (mnI (v14.length : Int) 20).toNat).drop (0 : Int).toNat).length : Int))), (55, .v (.int .i64 c18)), (63, .v (.int .i64 ((wr .i64 v20.1).tmod v1.2))), (66, .v (.int .i64 (wr .i64 v20.2))), (67, .v (.int .i64 v1.2))] [some ⟨1, 3, (c16.map cdI.enc), false⟩, mk 1 50 (c17.map (cdL 1 (cdL 1 cdI)).enc), some ⟨2, 53, [.ag [.v (.int .u8 v20.1), .v (.int .u8 v20.2)]], false⟩] kr kr ?_
    refine RunDS.one he rfl kr (opd_q kr (wantedA_none rfl) rfl (q_bin (a := .v (.int .i64 (wr .i64 v20.2))) (b := .v (.int .i64 v1.2)) kr kr (bin_rem hz22)) kr) ?_
    refine RunDS.segF (n := 112) he 2 [(7, .sl 1 (v1.1.map cdI.enc)), (8, .v (.int .i64 v1.2)), (9, .rf 0 0 c16.length c16.length), (11, hd 1 (c17.map (cdL 1 (cdL 1 cdI)).enc)), (16, .v (.int .i64 ((wr .i64 v20.1).tmod v1.2))), (17, .v (.int .i64 ((wr .i64 v20.2).tmod v1.2))), (43, .sl 1 (((x1.take (mnI (x1.length : Int) 10).toNat).drop (0 : Int).toNat).map (cdL 2 (cdG2 (cdK .u8) (cdK .u8) (fun _ => rfl) (fun _ => rfl))).enc)), (44, .v (.int .i64 (((x1.take (mnI (x1.length : Int) 10).toNat).drop (0 : Int).toNat).length : Int))), (45, .v (.int .i64 c12)), (53, .sl 2 (((v14.take (mnI (v14.length : Int) 20).toNat).drop (0 : Int).toNat).map (cdG2 (cdK .u8) (cdK .u8) (fun _ => rfl) (fun _ => rfl)).enc)), (54, .v (.int .i64 (((v14.take (mnI (v14.length : Int) 20).toNat).drop (0 : Int).toNat).length : Int))), (55, .v (.int .i64 c18))] [some ⟨1, 3, (c16.map cdI.enc), false⟩, mk 1 50 (c17.map (cdL 1 (cdL 1 cdI)).enc), some ⟨2, 53, [.ag [.v (.int .u8 v20.1), .v (.int .u8 v20.2)]], false⟩] kr kr ?_
    exact RunDS.done rfl (Wk.sel2 [0, 1] kr kr kr ⟨⟨_, rfl, bu_own⟩, ⟨_, rfl, bu_mk⟩, trivial⟩ ⟨lu kr kr, lu kr kr, lu kr kr, lu_hd (b' := 1) kr kr, lu kr kr, lu kr kr, lu kr kr, lu kr kr, lu kr kr, lu kr kr, lu kr kr, lu kr kr, trivial⟩)
   obtain ⟨v23, hv23, h⟩ := Option.bind_eq_some_iff.1 h
   obtain ⟨v24, hv24, h⟩ := Option.bind_eq_some_iff.1 h
   obtain ⟨v25, hv25, h⟩ := Option.bind_eq_some_iff.1 h
   obtain ⟨v26, hv26, h⟩ := Option.bind_eq_some_iff.1 h
   refine Sem.runDS he (s1 := ⟨Fr 112 [(7, .sl 1 (v1.1.map cdI.enc)), (8, .v (.int .i64 v1.2)), (9, .rf 0 0 ((c16.set (((wr .i64 v20.1).tmod v1.2).toNat) v23).set (((wr .i64 v20.2).tmod v1.2).toNat) v24).length ((c16.set (((wr .i64 v20.1).tmod v1.2).toNat) v23).set (((wr .i64 v20.2).tmod v1.2).toNat) v24).length), (11, hd 1 (c17.map (cdL 1 (cdL 1 cdI)).enc)), (43, .sl 1 (((x1.take (mnI (x1.length : Int) 10).toNat).drop (0 : Int).toNat).map (cdL 2 (cdG2 (cdK .u8) (cdK .u8) (fun _ => rfl) (fun _ => rfl))).enc)), (44, .v (.int .i64 (((x1.take (mnI (x1.length : Int) 10).toNat).drop (0 : Int).toNat).length : Int))), (45, .v (.int .i64 c12)), (53, .sl 2 (((v14.take (mnI (v14.length : Int) 20).toNat).drop (0 : Int).toNat).map (cdG2 (cdK .u8) (cdK .u8) (fun _ => rfl) (fun _ => rfl)).enc)), (54, .v (.int .i64 (((v14.take (mnI (v14.length : Int) 20).toNat).drop (0 : Int).toNat).length : Int))), (55, .v (.int .i64 c18))], [some ⟨1, 3, (((c16.set (((wr .i64 v20.1).tmod v1.2).toNat) v23).set (((wr .i64 v20.2).tmod v1.2).toNat) v24).map cdI.enc), false⟩, mk 1 50 (c17.map (cdL 1 (cdL 1 cdI)).enc)]⟩) kr ?_ ?_
   ·refine RunDS.segF (n := 112) he 6 [(7, .sl 1 (v1.1.map cdI.enc)), (8, .v (.int .i64 v1.2)), (9, .rf 0 0 c16.length c16.length), (11, hd 1 (c17.map (cdL 1 (cdL 1 cdI)).enc)), (16, .v (.int .i64 ((wr .i64 v20.1).tmod v1.2))), (43, .sl 1 (((x1.take (mnI (x1.length : Int) 10).toNat).drop (0 : Int).toNat).map (cdL 2 (cdG2 (cdK .u8) (cdK .u8) (fun _ => rfl) (fun _ => rfl))).enc)), (44, .v (.int .i64 (((x1.take (mnI (x1.length : Int) 10).toNat).drop (0 : Int).toNat).length : Int))), (45, .v (.int .i64 c12)), (53, .sl 2 (((v14.take (mnI (v14.length : Int) 20).toNat).drop (0 : Int).toNat).map (cdG2 (cdK .u8) (cdK .u8) (fun _ => rfl) (fun _ => rfl)).enc)), (54, .v (.int .i64 (((v14.take (mnI (v14.length : Int) 20).toNat).drop (0 : Int).toNat).length : Int))), (55, .v (.int .i64 c18)), (69, .rf 0 0 c16.length c16.length), (70, .v (.int .i64 ((wr .i64 v20.1).tmod v1.2))), (71, .rf 0 0 c16.length c16.length), (72, .v (.int .i64 ((wr .i64 v20.2).tmod v1.2))), (73, .rf 0 0 c16.length c16.length), (74, .v (.int .i64 ((wr .i64 v20.2).tmod v1.2)))] [some ⟨1, 3, (c16.map cdI.enc), false⟩, mk 1 50 (c17.map (cdL 1 (cdL 1 cdI)).enc)] kr kr ?_
    refine RunDS.one he rfl kr (opd_q kr (wantedA_none rfl) rfl (q_indexAddr (a := .rf 0 0 c16.length c16.length) (b := .v (.int .i64 ((wr .i64 v20.2).tmod v1.2))) kr kr (ix_rl (e := cdI.enc) (xs := c16) (t' := 3) (el := 3) (k := 1) (ki := .i64) kr kr kr hv23)) kr) ?_
    refine RunDS.one he rfl kr (opd_q kr (wantedA_none rfl) rfl (q_load (p := .pt 0 (((wr .i64 v20.2).tmod v1.2).toNat) 0) kr (ld_blk (B := ⟨1, 3, (c16.map cdI.enc), false⟩) (m := 1) (g := false) (e := cdI.enc) (xs := c16) kr kr kr rfl (idx_at hv23).2 kr)) kr) ?_
    refine RunDS.segF (n := 112) he 2 [(7, .sl 1 (v1.1.map cdI.enc)), (8, .v (.int .i64 v1.2)), (9, .rf 0 0 c16.length c16.length), (11, hd 1 (c17.map (cdL 1 (cdL 1 cdI)).enc)), (43, .sl 1 (((x1.take (mnI (x1.length : Int) 10).toNat).drop (0 : Int).toNat).map (cdL 2 (cdG2 (cdK .u8) (cdK .u8) (fun _ => rfl) (fun _ => rfl))).enc)), (44, .v (.int .i64 (((x1.take (mnI (x1.length : Int) 10).toNat).drop (0 : Int).toNat).length : Int))), (45, .v (.int .i64 c12)), (53, .sl 2 (((v14.take (mnI (v14.length : Int) 20).toNat).drop (0 : Int).toNat).map (cdG2 (cdK .u8) (cdK .u8) (fun _ => rfl) (fun _ => rfl)).enc)), (54, .v (.int .i64 (((v14.take (mnI (v14.length : Int) 20).toNat).drop (0 : Int).toNat).length : Int))), (55, .v (.int .i64 c18)), (69, .rf 0 0 c16.length c16.length), (70, .v (.int .i64 ((wr .i64 v20.1).tmod v1.2))), (71, .rf 0 0 c16.length c16.length), (72, .v (.int .i64 ((wr .i64 v20.2).tmod v1.2))), (76, .v (.int .i64 v23)), (77, .rf 0 0 c16.length c16.length), (78, .v (.int .i64 ((wr .i64 v20.1).tmod v1.2)))] [some ⟨1, 3, (c16.map cdI.enc), false⟩, mk 1 50 (c17.map (cdL 1 (cdL 1 cdI)).enc)] kr kr ?_
    refine RunDS.one he rfl kr (opd_q kr (wantedA_none rfl) rfl (q_indexAddr (a := .rf 0 0 c16.length c16.length) (b := .v (.int .i64 ((wr .i64 v20.1).tmod v1.2))) kr kr (ix_rl (e := cdI.enc) (xs := c16) (t' := 3) (el := 3) (k := 1) (ki := .i64) kr kr kr hv24)) kr) ?_
    refine RunDS.one he rfl kr (opd_q kr (wantedA_none rfl) rfl (q_load (p := .pt 0 (((wr .i64 v20.1).tmod v1.2).toNat) 0) kr (ld_blk (B := ⟨1, 3, (c16.map cdI.enc), false⟩) (m := 1) (g := false) (e := cdI.enc) (xs := c16) kr kr kr rfl (idx_at hv24).2 kr)) kr) ?_
    refine RunDS.one he rfl kr (opd_q kr (wantedA_none rfl) rfl (q_indexAddr (a := .rf 0 0 c16.length c16.length) (b := .v (.int .i64 ((wr .i64 v20.1).tmod v1.2))) kr kr (ix_rl (e := cdI.enc) (xs := c16) (t' := 3) (el := 3) (k := 1) (ki := .i64) kr kr kr hv25)) kr) ?_
    refine RunDS.tail rfl rfl ?_
    refine RunS.store he (y := .pt 0 (((wr .i64 v20.1).tmod v1.2).toNat) 0) (z := .v (.int .i64 v23)) rfl (wantedA_none rfl) kr kr (st_blk (t' := 3) (k := 1) (e := cdI.enc) (xs := c16) (v := v25) (v' := v23) kr (idx_at hv25).2 kr kr kr) ?_
    refine RunS.one he 0 rfl (op_q (wantedA_none rfl) rfl (q_indexAddr (a := .rf 0 0 c16.length c16.length) (b := .v (.int .i64 ((wr .i64 v20.2).tmod v1.2))) kr kr (ix_rlN (e := cdI.enc) (xs := (c16.set (((wr .i64 v20.1).tmod v1.2).toNat) v23)) (n := c16.length) (t' := 3) (el := 3) (k := 1) (ki := .i64) (by simp only [List.length_set]) kr kr kr hv26))) ?_
    refine RunS.store he (y := .pt 0 (((wr .i64 v20.2).tmod v1.2).toNat) 0) (z := .v (.int .i64 v24)) rfl (wantedA_none rfl) kr kr (st_blk (t' := 3) (k := 1) (e := cdI.enc) (xs := (c16.set (((wr .i64 v20.1).tmod v1.2).toNat) v23)) (v := v26) (v' := v24) kr (idx_at hv26).2 kr kr kr) ?_
    exact RunS.done rfl (Wk.sel2 [0, 1] kr kr kr ⟨⟨_, rfl, bu_own⟩, ⟨_, rfl, bu_mk⟩, trivial⟩ ⟨lu kr kr, lu kr kr, lu_rl (b' := 0) (n := c16.length) kr (by simp) kr, lu_hd (b' := 1) kr kr, lu kr kr, lu kr kr, lu kr kr, lu kr kr, lu kr kr, lu kr kr, trivial⟩)
   refine Sem.rg he [(7, .sl 1 (v1.1.map cdI.enc)), (8, .v (.int .i64 v1.2)), (9, .rf 0 0 ((c16.set (((wr .i64 v20.1).tmod v1.2).toNat) v23).set (((wr .i64 v20.2).tmod v1.2).toNat) v24).length ((c16.set (((wr .i64 v20.1).tmod v1.2).toNat) v23).set (((wr .i64 v20.2).tmod v1.2).toNat) v24).length), (11, hd 1 (c17.map (cdL 1 (cdL 1 cdI)).enc)), (43, .sl 1 (((x1.take (mnI (x1.length : Int) 10).toNat).drop (0 : Int).toNat).map (cdL 2 (cdG2 (cdK .u8) (cdK .u8) (fun _ => rfl) (fun _ => rfl))).enc)), (44, .v (.int .i64 (((x1.take (mnI (x1.length : Int) 10).toNat).drop (0 : Int).toNat).length : Int))), (45, .v (.int .i64 c12)), (53, .sl 2 (((v14.take (mnI (v14.length : Int) 20).toNat).drop (0 : Int).toNat).map (cdG2 (cdK .u8) (cdK .u8) (fun _ => rfl) (fun _ => rfl)).enc)), (54, .v (.int .i64 (((v14.take (mnI (v14.length : Int) 20).toNat).drop (0 : Int).toNat).length : Int))), (55, .v (.int .i64 (wr .i64 (c18 + 1))))] [some ⟨1, 3, (((c16.set (((wr .i64 v20.1).tmod v1.2).toNat) v23).set (((wr .i64 v20.2).tmod v1.2).toNat) v24).map cdI.enc), false⟩, mk 1 50 (c17.map (cdL 1 (cdL 1 cdI)).enc)] ?_
   exact SemN.wk (s1 := ⟨Fr 112 [(7, .sl 1 (v1.1.map cdI.enc)), (8, .v (.int .i64 v1.2)), (9, .rf 0 0 ((c16.set (((wr .i64 v20.1).tmod v1.2).toNat) v23).set (((wr .i64 v20.2).tmod v1.2).toNat) v24).length ((c16.set (((wr .i64 v20.1).tmod v1.2).toNat) v23).set (((wr .i64 v20.2).tmod v1.2).toNat) v24).length), (11, hd 1 (c17.map (cdL 1 (cdL 1 cdI)).enc)), (43, .sl 1 (((x1.take (mnI (x1.length : Int) 10).toNat).drop (0 : Int).toNat).map (cdL 2 (cdG2 (cdK .u8) (cdK .u8) (fun _ => rfl) (fun _ => rfl))).enc)), (44, .v (.int .i64 (((x1.take (mnI (x1.length : Int) 10).toNat).drop (0 : Int).toNat).length : Int))), (45, .v (.int .i64 c12)), (53, .sl 2 (((v14.take (mnI (v14.length : Int) 20).toNat).drop (0 : Int).toNat).map (cdG2 (cdK .u8) (cdK .u8) (fun _ => rfl) (fun _ => rfl)).enc)), (54, .v (.int .i64 (((v14.take (mnI (v14.length : Int) 20).toNat).drop (0 : Int).toNat).length : Int))), (55, .v (.int .i64 (wr .i64 (c18 + 1))))], [some ⟨1, 3, (((c16.set (((wr .i64 v20.1).tmod v1.2).toNat) v23).set (((wr .i64 v20.2).tmod v1.2).toNat) v24).map cdI.enc), false⟩, mk 1 50 (c17.map (cdL 1 (cdL 1 cdI)).enc)]⟩) (Wk.sel2 [0, 1] kr kr kr ⟨⟨_, rfl, bu_own⟩, ⟨_, rfl, bu_mk⟩, trivial⟩ ⟨lu kr kr, lu kr kr, lu kr kr, lu_hd (b' := 1) kr kr, lu kr kr, lu kr kr, lu kr kr, lu kr kr, lu kr kr, lu kr kr, trivial⟩) (ih ((c16.set (((wr .i64 v20.1).tmod v1.2).toNat) v23).set (((wr .i64 v20.2).tmod v1.2).toNat) v24) c17 (wr .i64 (c18 + 1)) h)
  ·rw [if_f hb19] at h
   refine Sem.exit ?_
   have hq := Option.some.inj h; subst hq
   exact ⟨rfl, (Wk.sel2 [0, 1] kr kr kr ⟨⟨_, rfl, bu_own⟩, ⟨_, rfl, bu_mk⟩, trivial⟩ ⟨lu kr kr, lu kr kr, lu kr kr, lu_hd (b' := 1) kr kr, lu kr kr, lu kr kr, lu kr kr, trivial⟩)⟩
set_option maxHeartbeats 4000000 in
set_option maxRecDepth 100000 in
theorem law09_Made_4_ok (x1 : (List (List (Int × Int)))) (v1 : (List Int) × Int) (c12 : Int) (r29 : (List Int) × (List (List (List Int)))) : ∀ (f : Nat) (c30 : (List (List Int))) (c31 : Int) (c32 : Int) (r : ((List (List Int)))), law09_Made_4 x1 v1 c12 r29 f c30 c31 c32 = some r → SemN e_law09_Made ⟨none, false⟩ (pc cb_law09_Made [1, 1, 1, 1, 1, 0, 1, 0, 0, 1, 1, 0, 0, 1, 1, 1, 1, 0, 1, 0, 0]) f ⟨Fr 112 [(7, .sl 1 (v1.1.map cdI.enc)), (8, .v (.int .i64 v1.2)), (9, .rf 0 0 r29.1.length r29.1.length), (11, hd 1 (r29.2.map (cdL 1 (cdL 1 cdI)).enc)), (18, hd 2 (c30.map (cdL 1 cdI).enc)), (19, .v (.int .i64 c31)), (43, .sl 1 (((x1.take (mnI (x1.length : Int) 10).toNat).drop (0 : Int).toNat).map (cdL 2 (cdG2 (cdK .u8) (cdK .u8) (fun _ => rfl) (fun _ => rfl))).enc)), (44, .v (.int .i64 (((x1.take (mnI (x1.length : Int) 10).toNat).drop (0 : Int).toNat).length : Int))), (45, .v (.int .i64 c12)), (84, .sl 1 (v1.1.map cdI.enc)), (85, .v (.int .i64 (v1.1.length : Int))), (86, .v (.int .i64 c32))], [some ⟨1, 3, (r29.1.map cdI.enc), false⟩, mk 1 50 (r29.2.map (cdL 1 (cdL 1 cdI)).enc), mk 1 31 (c30.map (cdL 1 cdI).enc)]⟩ (fun e s => e = (.exit 6) ∧ Wk e_law09_Made s ⟨Fr 112 [(7, .sl 1 (v1.1.map cdI.enc)), (8, .v (.int .i64 v1.2)), (9, .rf 0 0 r29.1.length r29.1.length), (11, hd 1 (r29.2.map (cdL 1 (cdL 1 cdI)).enc)), (18, hd 2 (r.map (cdL 1 cdI).enc)), (43, .sl 1 (((x1.take (mnI (x1.length : Int) 10).toNat).drop (0 : Int).toNat).map (cdL 2 (cdG2 (cdK .u8) (cdK .u8) (fun _ => rfl) (fun _ => rfl))).enc)), (44, .v (.int .i64 (((x1.take (mnI (x1.length : Int) 10).toNat).drop (0 : Int).toNat).length : Int))), (45, .v (.int .i64 c12))], [some ⟨1, 3, (r29.1.map cdI.enc), false⟩, mk 1 50 (r29.2.map (cdL 1 (cdL 1 cdI)).enc), mk 1 31 (r.map (cdL 1 cdI).enc)]⟩) := by
 have he := e_law09_Made_ok
 intro f
 induction f with
 | zero => intro c30 c31 c32 r h; cases h
 | succ f ih0 =>
  intro c30 c31 c32 r h
  have ih := fun (c30 : (List (List Int))) (c31 : Int) (c32 : Int) => ih0 c30 c31 c32 r
  unfold law09_Made_4 at h
  refine SemN.succ ?_
  let p1 : Option Blk := mk 1 31 (c30.map (cdL 1 cdI).enc)
  let p2 : Option Blk := mk 1 50 (r29.2.map (cdL 1 (cdL 1 cdI)).enc)
  let p3 : Option Blk := some ⟨1, 3, (r29.1.map cdI.enc), false⟩
  let p4 : Nat × AV := (86, .v (.int .i64 c32))
  let p5 : Nat × AV := (85, .v (.int .i64 (v1.1.length : Int)))
  let p6 : Nat × AV := (84, .sl 1 (v1.1.map cdI.enc))
  let p7 : Nat × AV := (45, .v (.int .i64 c12))
  let p8 : Nat × AV := (44, .v (.int .i64 (((x1.take (mnI (x1.length : Int) 10).toNat).drop (0 : Int).toNat).length : Int)))
  let p9 : Nat × AV := (43, .sl 1 (((x1.take (mnI (x1.length : Int) 10).toNat).drop (0 : Int).toNat).map (cdL 2 (cdG2 (cdK .u8) (cdK .u8) (fun _ => rfl) (fun _ => rfl))).enc))
  let p10 : Nat × AV := (19, .v (.int .i64 c31))
  let p11 : Nat × AV := (18, hd 2 (c30.map (cdL 1 cdI).enc))
  let p12 : Nat × AV := (11, hd 1 (r29.2.map (cdL 1 (cdL 1 cdI)).enc))
  let p13 : Nat × AV := (9, .rf 0 0 r29.1.length r29.1.length)
  let p14 : Nat × AV := (8, .v (.int .i64 v1.2))
  let p15 : Nat × AV := (7, .sl 1 (v1.1.map cdI.enc))
  refine Sem.sq he [p15, p14, p13, p12, p11, p10, p9, p8, p7, p6, p5, p4, (87, .v (.bool (decide (c32 < (v1.1.length : Int)))))] [p3, p2, p1] ?_
  refine Sem.seq ?_
  refine Sem.cond (b := (decide (c32 < (v1.1.length : Int)))) kr (fun hb33 => ?_) (fun hb33 => ?_)
  ·rw [if_pos hb33] at h
   refine Sem.skip ?_
   refine Sem.seq ?_
   refine Sem.block ?_
   refine Sem.seq ?_
   obtain ⟨v34, hv34, h⟩ := Option.bind_eq_some_iff.1 h
   let p16 : Nat × AV := (21, .v (.int .i64 v34))
   refine Sem.runS (s1 := ⟨Fr 112 [p15, p14, p13, p12, p11, p10, p16, p9, p8, p7, p6, p5, p4], [p3, p2, p1]⟩) ?_ ?_
   ·refine RunS.one he 0 rfl (op_q (wantedA_none rfl) rfl (q_indexAddr (a := .sl 1 (v1.1.map cdI.enc)) (b := .v (.int .i64 c32)) kr kr (ix_sl (e := cdI.enc) (el := 3) (k := 1) (ki := .i64) kr kr hv34))) ?_
    exact RunS.last he
   refine Sem.seq ?_
   by_cases hk35 : (partOk c31 (wr .i64 (c31 + v34)) r29.1.length) = true
   case neg => rw [if_neg hk35] at h; cases h
   rw [if_pos hk35] at h
   by_cases hk36 : (capOk 8 ((r29.1.take (wr .i64 (c31 + v34)).toNat).drop c31.toNat).length) = true
   case neg => rw [if_neg hk36] at h; cases h
   rw [if_pos hk36] at h
   by_cases hk37 : (capOk 24 (c30.length + 1)) = true
   case neg => rw [if_neg hk37] at h; cases h
   rw [if_pos hk37] at h
   let p17 : Option Blk := mk 1 31 ((c30 ++ [((r29.1.take (wr .i64 (c31 + v34)).toNat).drop c31.toNat)]).map (cdL 1 cdI).enc)
   let p18 : Nat × AV := (18, hd 2 ((c30 ++ [((r29.1.take (wr .i64 (c31 + v34)).toNat).drop c31.toNat)]).map (cdL 1 cdI).enc))
   refine Sem.runS (s1 := ⟨Fr 112 [p15, p14, p13, p12, p18, p10, p16, p9, p8, p7, p6, p5, p4], [p3, p2, p17]⟩) ?_ ?_
   ·let p19 : Nat × AV := (95, .v (.int .i64 (wr .i64 (c31 + v34))))
    let p20 : Nat × AV := (91, .rf 0 0 r29.1.length r29.1.length)
    let p21 : Nat × AV := (90, hd 2 (c30.map (cdL 1 cdI).enc))
    refine RunS.segF (n := 112) he 6 [p15, p14, p13, p12, p10, p16, p9, p8, p7, p6, p5, p4, p21, p20, (92, .v (.int .i64 c31)), p19] [p3, p2, p1] kr ?_
    refine RunS.one he 0 rfl (op_q (wantedA_none rfl) rfl (q_slice (a := .rf 0 0 r29.1.length r29.1.length) (l := (some (.v (.int .i64 c31)))) (u := (some (.v (.int .i64 (wr .i64 (c31 + v34)))))) (m := none) kr kr kr rfl (slice_rp (xs := r29.1) (e := cdI.enc) (t' := 3) (k := 1) (el := 3) (lo := c31) (hi := (wr .i64 (c31 + v34))) kr kr kr (natB_i (cut_lo (part_cut hk35))) (natB_i (cut_hi (part_cut hk35))) hk35))) ?_
    refine RunS.callS rfl rfl (s_clone ((r29.1.take (wr .i64 (c31 + v34)).toNat).drop c31.toNat) hk36) rfl (wantedA_none rfl) kr (xs := [.rf 0 (0 + c31.toNat) ((wr .i64 (c31 + v34)).toNat - c31.toNat) (r29.1.length - c31.toNat)]) kr (viewsF_rp (c := cdI) (xs := r29.1) (t' := 3) (k := 1) n1_I kr hk35) clone_flat ?_
    rintro x h' (⟨hx, rfl, rfl⟩ | ⟨rfl, rfl⟩)
    ·exact absurd hx (part_ne hk35)
    refine RunS.wk (s1 := ⟨Fr 112 [p15, p14, p13, p12, p10, p16, p9, p8, p7, p6, p5, p4, p21, p20, (92, .v (.int .i64 c31)), p19, (96, .rf 0 (0 + c31.toNat) ((wr .i64 (c31 + v34)).toNat - c31.toNat) (r29.1.length - c31.toNat)), (97, .sl 1 (((r29.1.take (wr .i64 (c31 + v34)).toNat).drop c31.toNat).map cdI.enc))], [p3, p2, p1, none]⟩) (Wk.frzG 3 (.inl kr) ⟨.inr (.inl rfl), .inr (.inl rfl), .inr (.inl rfl), .inl rfl, trivial⟩ ⟨⟨.sl 1 (v1.1.map cdI.enc), kr, .inl rfl⟩, ⟨.v (.int .i64 v1.2), kr, .inl rfl⟩, ⟨.rf 0 0 r29.1.length r29.1.length, kr, .inl rfl⟩, ⟨hd 1 (r29.2.map (cdL 1 (cdL 1 cdI)).enc), kr, .inl rfl⟩, ⟨.v (.int .i64 c31), kr, .inl rfl⟩, ⟨.v (.int .i64 v34), kr, .inl rfl⟩, ⟨.sl 1 (((x1.take (mnI (x1.length : Int) 10).toNat).drop (0 : Int).toNat).map (cdL 2 (cdG2 (cdK .u8) (cdK .u8) (fun _ => rfl) (fun _ => rfl))).enc), kr, .inl rfl⟩, ⟨.v (.int .i64 (((x1.take (mnI (x1.length : Int) 10).toNat).drop (0 : Int).toNat).length : Int)), kr, .inl rfl⟩, ⟨.v (.int .i64 c12), kr, .inl rfl⟩, ⟨.sl 1 (v1.1.map cdI.enc), kr, .inl rfl⟩, ⟨.v (.int .i64 (v1.1.length : Int)), kr, .inl rfl⟩, ⟨.v (.int .i64 c32), kr, .inl rfl⟩, ⟨hd 2 (c30.map (cdL 1 cdI).enc), kr, .inl rfl⟩, ⟨.rf 0 0 r29.1.length r29.1.length, kr, .inl rfl⟩, ⟨.v (.int .i64 c31), kr, .inl rfl⟩, ⟨.v (.int .i64 (wr .i64 (c31 + v34))), kr, .inl rfl⟩, ⟨.rf 0 (0 + c31.toNat) ((wr .i64 (c31 + v34)).toNat - c31.toNat) (r29.1.length - c31.toNat), kr, .inl rfl⟩, ⟨.rf 3 0 ((r29.1.take (wr .i64 (c31 + v34)).toNat).drop c31.toNat).length ((r29.1.take (wr .i64 (c31 + v34)).toNat).drop c31.toNat).length, kr, fz_rlT (c := cdI) (xs := ((r29.1.take (wr .i64 (c31 + v34)).toNat).drop c31.toNat)) (t := 3) kr⟩, trivial⟩) ?_
    let p22 : Option Blk := mk 1 31 ([((r29.1.take (wr .i64 (c31 + v34)).toNat).drop c31.toNat)].map (cdL 1 cdI).enc)
    refine RunS.segF (n := 112) he 1 [p15, p14, p13, p12, p10, p16, p9, p8, p7, p6, p5, p4, p21, (98, hd 4 ([((r29.1.take (wr .i64 (c31 + v34)).toNat).drop c31.toNat)].map (cdL 1 cdI).enc))] [p3, p2, p1, none, p22] kr ?_
    refine RunS.one he 0 rfl (op_w (wantedA_none rfl) rfl kr kr (w_append (a := hd 2 (c30.map (cdL 1 cdI).enc)) (b := hd 4 ([((r29.1.take (wr .i64 (c31 + v34)).toNat).drop c31.toNat)].map (cdL 1 cdI).enc)) kr kr (append_B (c := (cdL 1 cdI)) (xs := c30) (vs := [((r29.1.take (wr .i64 (c31 + v34)).toNat).drop c31.toNat)]) (k := 1) (bytes := 24) (el := 31) kr kr (elems_hd (t := 31) kr) (List.cons_ne_nil _ _) kr hk37))) ?_
    refine RunS.segF (n := 112) he 1 [p15, p14, p13, p12, (18, hd 5 ((c30 ++ [((r29.1.take (wr .i64 (c31 + v34)).toNat).drop c31.toNat)]).map (cdL 1 cdI).enc)), p10, p16, p9, p8, p7, p6, p5, p4] [p3, p2, none, none, p22, p17] kr ?_
    exact RunS.done rfl (Wk.sel2 [0, 1, 5] kr kr kr ⟨⟨_, rfl, bu_own⟩, ⟨_, rfl, bu_mk⟩, ⟨_, rfl, bu_mk⟩, trivial⟩ ⟨lu kr kr, lu kr kr, lu kr kr, lu_hd (b' := 1) kr kr, lu_hd (b' := 5) kr kr, lu kr kr, lu kr kr, lu kr kr, lu kr kr, lu kr kr, lu kr kr, lu kr kr, lu kr kr, trivial⟩)
   let p23 : Nat × AV := (19, .v (.int .i64 (wr .i64 (c31 + v34))))
   refine Sem.rg he [p15, p14, p13, p12, p18, p23, p9, p8, p7, p6, p5, p4] [p3, p2, p17] ?_
   let p24 : Nat × AV := (86, .v (.int .i64 (wr .i64 (c32 + 1))))
   refine Sem.rg he [p15, p14, p13, p12, p18, p23, p9, p8, p7, p6, p5, p24] [p3, p2, p17] ?_
   exact SemN.wk (s1 := ⟨Fr 112 [p15, p14, p13, p12, p18, p23, p9, p8, p7, p6, p5, p24], [p3, p2, p17]⟩) (Wk.sel2 [0, 1, 2] kr kr kr ⟨⟨_, rfl, bu_own⟩, ⟨_, rfl, bu_mk⟩, ⟨_, rfl, bu_mk⟩, trivial⟩ ⟨lu kr kr, lu kr kr, lu kr kr, lu_hd (b' := 1) kr kr, lu_hd (b' := 2) kr kr, lu kr kr, lu kr kr, lu kr kr, lu kr kr, lu kr kr, lu kr kr, lu kr kr, trivial⟩) (ih (c30 ++ [((r29.1.take (wr .i64 (c31 + v34)).toNat).drop c31.toNat)]) (wr .i64 (c31 + v34)) (wr .i64 (c32 + 1)) h)
  ·rw [if_f hb33] at h
   refine Sem.exit ?_
   have hq := Option.some.inj h; subst hq
   exact ⟨rfl, (Wk.sel2 [0, 1, 2] kr kr kr ⟨⟨_, rfl, bu_own⟩, ⟨_, rfl, bu_mk⟩, ⟨_, rfl, bu_mk⟩, trivial⟩ ⟨lu kr kr, lu kr kr, lu kr kr, lu_hd (b' := 1) kr kr, lu_hd (b' := 2) kr kr, lu kr kr, lu kr kr, lu kr kr, trivial⟩)⟩
set_option maxHeartbeats 4000000 in
set_option maxRecDepth 100000 in
theorem law09_Made_2_ok (x1 : (List (List (Int × Int)))) (v1 : (List Int) × Int) : ∀ (f : Nat) (c10 : (List Int)) (c11 : (List (List (List Int)))) (c12 : Int) (r : ((List (List (List Int))))), law09_Made_2 x1 v1 f c10 c11 c12 = some r → SemN e_law09_Made ⟨none, false⟩ (pc cb_law09_Made [1, 1, 1, 1, 1, 0, 1, 0, 0]) f ⟨Fr 112 [(7, .sl 1 (v1.1.map cdI.enc)), (8, .v (.int .i64 v1.2)), (9, .rf 0 0 c10.length c10.length), (11, hd 1 (c11.map (cdL 1 (cdL 1 cdI)).enc)), (43, .sl 1 (((x1.take (mnI (x1.length : Int) 10).toNat).drop (0 : Int).toNat).map (cdL 2 (cdG2 (cdK .u8) (cdK .u8) (fun _ => rfl) (fun _ => rfl))).enc)), (44, .v (.int .i64 (((x1.take (mnI (x1.length : Int) 10).toNat).drop (0 : Int).toNat).length : Int))), (45, .v (.int .i64 c12))], [some ⟨1, 3, (c10.map cdI.enc), false⟩, mk 1 50 (c11.map (cdL 1 (cdL 1 cdI)).enc)]⟩ (fun e s => e = (.exit 2) ∧ Wk e_law09_Made s ⟨Fr 112 [(7, .sl 1 (v1.1.map cdI.enc)), (8, .v (.int .i64 v1.2)), (11, hd 0 (r.map (cdL 1 (cdL 1 cdI)).enc))], [mk 1 50 (r.map (cdL 1 (cdL 1 cdI)).enc)]⟩) := by
 have he := e_law09_Made_ok
 intro f
 induction f with
 | zero => intro c10 c11 c12 r h; cases h
 | succ f ih0 =>
  intro c10 c11 c12 r h
  have ih := fun (c10 : (List Int)) (c11 : (List (List (List Int)))) (c12 : Int) => ih0 c10 c11 c12 r
  unfold law09_Made_2 at h
  refine SemN.succ ?_
  let p1 : Option Blk := mk 1 50 (c11.map (cdL 1 (cdL 1 cdI)).enc)
  let p2 : Option Blk := some ⟨1, 3, (c10.map cdI.enc), false⟩
  let p3 : Nat × AV := (45, .v (.int .i64 c12))
  let p4 : Nat × AV := (44, .v (.int .i64 (((x1.take (mnI (x1.length : Int) 10).toNat).drop (0 : Int).toNat).length : Int)))
  let p5 : Nat × AV := (43, .sl 1 (((x1.take (mnI (x1.length : Int) 10).toNat).drop (0 : Int).toNat).map (cdL 2 (cdG2 (cdK .u8) (cdK .u8) (fun _ => rfl) (fun _ => rfl))).enc))
  let p6 : Nat × AV := (11, hd 1 (c11.map (cdL 1 (cdL 1 cdI)).enc))
  let p7 : Nat × AV := (9, .rf 0 0 c10.length c10.length)
  let p8 : Nat × AV := (8, .v (.int .i64 v1.2))
  let p9 : Nat × AV := (7, .sl 1 (v1.1.map cdI.enc))
  refine Sem.sq he [p9, p8, p7, p6, p5, p4, p3, (46, .v (.bool (decide (c12 < (((x1.take (mnI (x1.length : Int) 10).toNat).drop (0 : Int).toNat).length : Int)))))] [p2, p1] ?_
  refine Sem.seq ?_
  refine Sem.cond (b := (decide (c12 < (((x1.take (mnI (x1.length : Int) 10).toNat).drop (0 : Int).toNat).length : Int)))) kr (fun hb13 => ?_) (fun hb13 => ?_)
  ·rw [if_pos hb13] at h
   refine Sem.skip ?_
   refine Sem.seq ?_
   refine Sem.block ?_
   refine Sem.seq ?_
   obtain ⟨v14, hv14, h⟩ := Option.bind_eq_some_iff.1 h
   refine Sem.runS (s1 := ⟨Fr 112 [p9, p8, p7, p6, (13, .sl 2 (v14.map (cdG2 (cdK .u8) (cdK .u8) (fun _ => rfl) (fun _ => rfl)).enc)), p5, p4, p3], [p2, p1]⟩) ?_ ?_
   ·refine RunS.one he 0 rfl (op_q (wantedA_none rfl) rfl (q_indexAddr (a := .sl 1 (((x1.take (mnI (x1.length : Int) 10).toNat).drop (0 : Int).toNat).map (cdL 2 (cdG2 (cdK .u8) (cdK .u8) (fun _ => rfl) (fun _ => rfl))).enc)) (b := .v (.int .i64 c12)) kr kr (ix_sl (e := (cdL 2 (cdG2 (cdK .u8) (cdK .u8) (fun _ => rfl) (fun _ => rfl))).enc) (el := 52) (k := 1) (ki := .i64) kr kr hv14))) ?_
    exact RunS.last he
   refine Sem.seq ?_
   refine Sem.seq ?_
   by_cases hk15 : (cutOk 0 (mnI (v14.length : Int) 20) v14.length) = true
   case neg => rw [if_neg hk15] at h; cases h
   rw [if_pos hk15] at h
   let p10 : Nat × AV := (54, .v (.int .i64 (((v14.take (mnI (v14.length : Int) 20).toNat).drop (0 : Int).toNat).length : Int)))
   let p11 : Nat × AV := (53, .sl 2 (((v14.take (mnI (v14.length : Int) 20).toNat).drop (0 : Int).toNat).map (cdG2 (cdK .u8) (cdK .u8) (fun _ => rfl) (fun _ => rfl)).enc))
   refine Sem.runS (s1 := ⟨Fr 112 [p9, p8, p7, p6, p5, p4, p3, p11, p10, (55, .v (.int .i64 0))], [p2, p1]⟩) ?_ ?_
   ·let p12 : Nat × AV := (49, .sl 2 (v14.map (cdG2 (cdK .u8) (cdK .u8) (fun _ => rfl) (fun _ => rfl)).enc))
    refine RunS.segF (n := 112) he 2 [p9, p8, p7, p6, p5, p4, p3, p12, (50, .sl 2 (v14.map (cdG2 (cdK .u8) (cdK .u8) (fun _ => rfl) (fun _ => rfl)).enc))] [p2, p1] kr ?_
    refine RunS.one he 0 rfl (op_q (wantedA_none rfl) rfl (q_len (a := .sl 2 (v14.map (cdG2 (cdK .u8) (cdK .u8) (fun _ => rfl) (fun _ => rfl)).enc)) kr (len_sl (el := 53) kr))) ?_
    refine RunS.segF (n := 112) he 1 [p9, p8, p7, p6, p5, p4, p3, p12, (52, .v (.int .i64 (mnI (v14.length : Int) 20)))] [p2, p1] kr ?_
    refine RunS.one he 0 rfl (op_q (wantedA_none rfl) rfl (q_slice (a := .sl 2 (v14.map (cdG2 (cdK .u8) (cdK .u8) (fun _ => rfl) (fun _ => rfl)).enc)) (l := none) (u := (some (.v (.int .i64 (mnI (v14.length : Int) 20))))) (m := none) kr kr kr rfl (slice_sl (xs := v14) (e := (cdG2 (cdK .u8) (cdK .u8) (fun _ => rfl) (fun _ => rfl)).enc) (k := 2) (el := 53) (lo := 0) (hi := (mnI (v14.length : Int) 20)) kr kr rfl (natB_i (cut_hi hk15)) hk15))) ?_
    refine RunS.one he 0 rfl (op_q (wantedA_none rfl) rfl (q_len (a := .sl 2 (((v14.take (mnI (v14.length : Int) 20).toNat).drop (0 : Int).toNat).map (cdG2 (cdK .u8) (cdK .u8) (fun _ => rfl) (fun _ => rfl)).enc)) kr (len_sl (el := 53) kr))) ?_
    exact RunS.last he
   refine Sem.block ?_
   obtain ⟨r29, hr29, h⟩ := Option.bind_eq_some_iff.1 h
   refine Sem.loop (n := 100000) ?_
   refine Sem.cutN (SemN.wk (s1 := ⟨Fr 112 [p9, p8, p7, p6, p5, p4, p3, p11, p10, (55, .v (.int .i64 0))], [p2, p1]⟩) (Wk.sel2 [0, 1] kr kr kr ⟨⟨_, rfl, bu_own⟩, ⟨_, rfl, bu_mk⟩, trivial⟩ ⟨lu kr kr, lu kr kr, lu kr kr, lu_hd (b' := 1) kr kr, lu kr kr, lu kr kr, lu kr kr, lu kr kr, lu kr kr, lu kr kr, trivial⟩) (law09_Made_3_ok x1 v1 c12 v14 _ c10 c11 0 _ hr29)) ?_
   let p13 : Option Blk := mk 1 50 (r29.2.map (cdL 1 (cdL 1 cdI)).enc)
   let p14 : Option Blk := some ⟨1, 3, (r29.1.map cdI.enc), false⟩
   let p15 : Nat × AV := (11, hd 1 (r29.2.map (cdL 1 (cdL 1 cdI)).enc))
   let p16 : Nat × AV := (9, .rf 0 0 r29.1.length r29.1.length)
   refine Sem.sq he [p9, p8, p16, p15, (18, .e0), p5, p4, p3] [p14, p13] ?_
   let p17 : Nat × AV := (19, .v (.int .i64 0))
   refine Sem.sq he [p9, p8, p16, p15, (18, .e0), p17, p5, p4, p3] [p14, p13] ?_
   refine Sem.seq ?_
   refine Sem.seq ?_
   let p18 : Nat × AV := (86, .v (.int .i64 0))
   let p19 : Nat × AV := (85, .v (.int .i64 (v1.1.length : Int)))
   let p20 : Nat × AV := (84, .sl 1 (v1.1.map cdI.enc))
   refine Sem.runS (s1 := ⟨Fr 112 [p9, p8, p16, p15, (18, .e0), p17, p5, p4, p3, p20, p19, p18], [p14, p13]⟩) ?_ ?_
   ·refine RunS.segF (n := 112) he 1 [p9, p8, p16, p15, (18, .e0), p17, p5, p4, p3, p20] [p14, p13] kr ?_
    refine RunS.one he 0 rfl (op_q (wantedA_none rfl) rfl (q_len (a := .sl 1 (v1.1.map cdI.enc)) kr (len_sl (el := 3) kr))) ?_
    exact RunS.last he
   refine Sem.block ?_
   obtain ⟨r39, hr39, h⟩ := Option.bind_eq_some_iff.1 h
   refine Sem.loop (n := 100000) ?_
   let p21 : Nat × AV := (18, hd 2 ([].map (cdL 1 cdI).enc))
   refine Sem.cutN (SemN.wk (s1 := ⟨Fr 112 [p9, p8, p16, p15, p21, p17, p5, p4, p3, p20, p19, p18], [p14, p13, mk 1 31 ([].map (cdL 1 cdI).enc)]⟩) (Wk.trans (s1 := ⟨Fr 112 [p9, p8, p16, p15, p21, p17, p5, p4, p3, p20, p19, p18], [p14, p13, mk 1 31 ([].map (cdL 1 cdI).enc)]⟩) Wk.none (Wk.sel2 [0, 1, 2] kr kr kr ⟨⟨_, rfl, bu_own⟩, ⟨_, rfl, bu_mk⟩, ⟨_, rfl, bu_none⟩, trivial⟩ ⟨lu kr kr, lu kr kr, lu kr kr, lu_hd (b' := 1) kr kr, lu kr kr, lu kr kr, lu kr kr, lu kr kr, lu kr kr, lu kr kr, lu kr kr, lu kr kr, trivial⟩)) (law09_Made_4_ok x1 v1 c12 r29 _ [] 0 0 _ hr39)) ?_
   by_cases hk40 : (capOk 24 (r29.2.length + 1)) = true
   case neg => rw [if_neg hk40] at h; cases h
   rw [if_pos hk40] at h
   let p22 : Option Blk := mk 1 50 ((r29.2 ++ [r39]).map (cdL 1 (cdL 1 cdI)).enc)
   let p23 : Nat × AV := (11, hd 1 ((r29.2 ++ [r39]).map (cdL 1 (cdL 1 cdI)).enc))
   refine Sem.runS (s1 := ⟨Fr 112 [p9, p8, p16, p23, p5, p4, p3], [p14, p22]⟩) ?_ ?_
   ·let p24 : Nat × AV := (104, hd 1 (r29.2.map (cdL 1 (cdL 1 cdI)).enc))
    refine RunS.segF (n := 112) he 2 [p9, p8, p16, p5, p4, p3, p24, (105, hd 2 (r39.map (cdL 1 cdI).enc))] [p14, p13, mk 1 31 (r39.map (cdL 1 cdI).enc)] kr ?_
    refine RunS.wk (s1 := ⟨Fr 112 [p9, p8, p16, p5, p4, p3, p24, (105, .sl 1 (r39.map (cdL 1 cdI).enc))], [p14, p13, none]⟩) (Wk.frzG 2 (.inl kr) ⟨.inr (.inl rfl), .inr (.inl rfl), .inl rfl, trivial⟩ ⟨⟨.sl 1 (v1.1.map cdI.enc), kr, .inl rfl⟩, ⟨.v (.int .i64 v1.2), kr, .inl rfl⟩, ⟨.rf 0 0 r29.1.length r29.1.length, kr, .inl rfl⟩, ⟨.sl 1 (((x1.take (mnI (x1.length : Int) 10).toNat).drop (0 : Int).toNat).map (cdL 2 (cdG2 (cdK .u8) (cdK .u8) (fun _ => rfl) (fun _ => rfl))).enc), kr, .inl rfl⟩, ⟨.v (.int .i64 (((x1.take (mnI (x1.length : Int) 10).toNat).drop (0 : Int).toNat).length : Int)), kr, .inl rfl⟩, ⟨.v (.int .i64 c12), kr, .inl rfl⟩, ⟨hd 1 (r29.2.map (cdL 1 (cdL 1 cdI)).enc), kr, .inl rfl⟩, ⟨hd 2 (r39.map (cdL 1 cdI).enc), kr, fz_hd (t := 31) kr enc_ok⟩, trivial⟩) ?_
    let p25 : Option Blk := mk 1 50 ([r39].map (cdL 1 (cdL 1 cdI)).enc)
    refine RunS.segF (n := 112) he 1 [p9, p8, p16, p5, p4, p3, p24, (106, hd 3 ([r39].map (cdL 1 (cdL 1 cdI)).enc))] [p14, p13, none, p25] kr ?_
    refine RunS.one he 0 rfl (op_w (wantedA_none rfl) rfl kr kr (w_append (a := hd 1 (r29.2.map (cdL 1 (cdL 1 cdI)).enc)) (b := hd 3 ([r39].map (cdL 1 (cdL 1 cdI)).enc)) kr kr (append_B (c := (cdL 1 (cdL 1 cdI))) (xs := r29.2) (vs := [r39]) (k := 1) (bytes := 24) (el := 50) kr kr (elems_hd (t := 50) kr) (List.cons_ne_nil _ _) kr hk40))) ?_
    refine RunS.segF (n := 112) he 1 [p9, p8, p16, (11, hd 4 ((r29.2 ++ [r39]).map (cdL 1 (cdL 1 cdI)).enc)), p5, p4, p3] [p14, none, none, p25, p22] kr ?_
    exact RunS.done rfl (Wk.sel2 [0, 4] kr kr kr ⟨⟨_, rfl, bu_own⟩, ⟨_, rfl, bu_mk⟩, trivial⟩ ⟨lu kr kr, lu kr kr, lu kr kr, lu_hd (b' := 4) kr kr, lu kr kr, lu kr kr, lu kr kr, trivial⟩)
   let p26 : Nat × AV := (45, .v (.int .i64 (wr .i64 (c12 + 1))))
   refine Sem.rg he [p9, p8, p16, p23, p5, p4, p26] [p14, p22] ?_
   exact SemN.wk (s1 := ⟨Fr 112 [p9, p8, p16, p23, p5, p4, p26], [p14, p22]⟩) (Wk.sel2 [0, 1] kr kr kr ⟨⟨_, rfl, bu_own⟩, ⟨_, rfl, bu_mk⟩, trivial⟩ ⟨lu kr kr, lu kr kr, lu kr kr, lu_hd (b' := 1) kr kr, lu kr kr, lu kr kr, lu kr kr, trivial⟩) (ih r29.1 (r29.2 ++ [r39]) (wr .i64 (c12 + 1)) h)
  ·rw [if_f hb13] at h
   refine Sem.exit ?_
   have hq := Option.some.inj h; subst hq
   exact ⟨rfl, (Wk.sel2 [1] kr kr kr ⟨⟨_, rfl, bu_mk⟩, trivial⟩ ⟨lu kr kr, lu kr kr, lu_hd (b' := 1) kr kr, trivial⟩)⟩
set_option maxHeartbeats 4000000 in
set_option maxRecDepth 100000 in
theorem law09_Made_sem (x0 : (List Int)) (x1 : (List (List (Int × Int)))) (r : (List (List (List Int))) × (List Int) × Int) (h : law09_Made x0 x1 = some r) : Sem e_law09_Made ⟨none, false⟩ cb_law09_Made ⟨Fr 112 (pairs0 0 (cs_law09_Made.enc (x0, x1, ()))), []⟩ fun e s' => (e = .normal ∨ e = .ret) ∧ ∃ xs, resA e_law09_Made.P s'.fr s'.hp Tryd.f25.results.toList = some xs ∧ retA xs = er_law09_Made r := by
 have he := e_law09_Made_ok
 unfold law09_Made at h
 let p1 : Nat × AV := (1, .sl 1 (x1.map (cdL 2 (cdG2 (cdK .u8) (cdK .u8) (fun _ => rfl) (fun _ => rfl))).enc))
 let p2 : Nat × AV := (0, .sl 1 (x0.map (cdK .u8).enc))
 refine Sem.wkQ (Sem.wk (s1 := ⟨Fr 112 [p2, p1], []⟩) (Wk.fr kr) ?_)
 refine Sem.sq he [p2, p1] [] ?_
 refine Sem.seq ?_
 obtain ⟨v1, hv1, h⟩ := Option.bind_eq_some_iff.1 h
 let p3 : Nat × AV := (8, .v (.int .i64 v1.2))
 let p4 : Nat × AV := (7, .sl 1 (v1.1.map cdI.enc))
 refine Sem.runS (s1 := ⟨Fr 112 [p1, p4, p3], []⟩) ?_ ?_
 ·refine RunS.segF (n := 112) he 1 [p1, (23, .sl 1 (x0.map (cdK .u8).enc))] [] kr ?_
  refine RunS.call he (fid := 35) (s := cs_law09_Sizes) (F := fun a => law09_Sizes a.1) (er := er_law09_Sizes) (xs := [.sl 1 (x0.map (cdK .u8).enc)]) (a := (x0, ())) rfl (wantedA_none rfl) kr kr kr kr (Sns.cons (Sn.enc (c := (cdL 1 (cdK .u8))) (v := x0)) Sns.nil) (.inl kr) hv1 ?_
  exact RunS.last he
 refine Sem.seq ?_
 by_cases hk2 : (mkOk 8 v1.2) = true
 case neg => rw [if_neg hk2] at h; cases h
 rw [if_pos hk2] at h
 let p5 : Option Blk := some ⟨1, 3, ((List.replicate v1.2.toNat (0 : Int)).map cdI.enc), false⟩
 let p6 : Nat × AV := (9, .rf 0 0 (List.replicate v1.2.toNat (0 : Int)).length (List.replicate v1.2.toNat (0 : Int)).length)
 refine Sem.runS (s1 := ⟨Fr 112 [p1, p4, p3, p6], [p5]⟩) ?_ ?_
 ·refine RunS.segF (n := 112) he 1 [p1, p4, p3, (27, .v (.int .i64 v1.2))] [] kr ?_
  refine RunS.one he 0 rfl (op_n (wantedA_none rfl) rfl kr (n_make (x := .v (.int .i64 v1.2)) (y := .v (.int .i64 v1.2)) kr kr (make_B (c := cdI) (z := (0 : Int)) (k := 1) (bytes := 8) (el := 3) kr kr hk2))) ?_
  exact RunS.last he
 refine Sem.seq ?_
 refine Sem.seq ?_
 let p7 : Nat × AV := (30, .v (.int .i64 ((List.replicate v1.2.toNat (0 : Int)).length : Int)))
 refine Sem.runS (s1 := ⟨Fr 112 [p1, p4, p3, p6, p7, (31, .v (.int .i64 0))], [p5]⟩) ?_ ?_
 ·refine RunS.segF (n := 112) he 1 [p1, p4, p3, p6, (29, .rf 0 0 (List.replicate v1.2.toNat (0 : Int)).length (List.replicate v1.2.toNat (0 : Int)).length)] [p5] kr ?_
  refine RunS.one he 0 rfl (op_q (wantedA_none rfl) rfl (q_len (a := .rf 0 0 (List.replicate v1.2.toNat (0 : Int)).length (List.replicate v1.2.toNat (0 : Int)).length) kr (len_rl (xs := (List.replicate v1.2.toNat (0 : Int))) (el := 3) kr))) ?_
  exact RunS.last he
 refine Sem.block ?_
 obtain ⟨r8, hr8, h⟩ := Option.bind_eq_some_iff.1 h
 refine Sem.loop (n := 100000) ?_
 refine Sem.cutN (SemN.wk (s1 := ⟨Fr 112 [p1, p4, p3, p6, p7, (31, .v (.int .i64 0))], [p5]⟩) (Wk.sel2 [0] kr kr kr ⟨⟨_, rfl, bu_own⟩, trivial⟩ ⟨lu kr kr, lu kr kr, lu kr kr, lu kr kr, lu kr kr, lu kr kr, trivial⟩) (law09_Made_1_ok x1 v1 _ (List.replicate v1.2.toNat (0 : Int)) 0 _ hr8)) ?_
 let p8 : Option Blk := some ⟨1, 3, (r8.map cdI.enc), false⟩
 let p9 : Nat × AV := (9, .rf 0 0 r8.length r8.length)
 refine Sem.sq he [p1, p4, p3, p9, (11, .e0)] [p8] ?_
 refine Sem.seq ?_
 refine Sem.seq ?_
 by_cases hk9 : (cutOk 0 (mnI (x1.length : Int) 10) x1.length) = true
 case neg => rw [if_neg hk9] at h; cases h
 rw [if_pos hk9] at h
 let p10 : Nat × AV := (45, .v (.int .i64 0))
 let p11 : Nat × AV := (44, .v (.int .i64 (((x1.take (mnI (x1.length : Int) 10).toNat).drop (0 : Int).toNat).length : Int)))
 let p12 : Nat × AV := (43, .sl 1 (((x1.take (mnI (x1.length : Int) 10).toNat).drop (0 : Int).toNat).map (cdL 2 (cdG2 (cdK .u8) (cdK .u8) (fun _ => rfl) (fun _ => rfl))).enc))
 refine Sem.runS (s1 := ⟨Fr 112 [p4, p3, p9, (11, .e0), p12, p11, p10], [p8]⟩) ?_ ?_
 ·let p13 : Nat × AV := (39, .sl 1 (x1.map (cdL 2 (cdG2 (cdK .u8) (cdK .u8) (fun _ => rfl) (fun _ => rfl))).enc))
  refine RunS.segF (n := 112) he 2 [p4, p3, p9, (11, .e0), p13, (40, .sl 1 (x1.map (cdL 2 (cdG2 (cdK .u8) (cdK .u8) (fun _ => rfl) (fun _ => rfl))).enc))] [p8] kr ?_
  refine RunS.one he 0 rfl (op_q (wantedA_none rfl) rfl (q_len (a := .sl 1 (x1.map (cdL 2 (cdG2 (cdK .u8) (cdK .u8) (fun _ => rfl) (fun _ => rfl))).enc)) kr (len_sl (el := 52) kr))) ?_
  refine RunS.segF (n := 112) he 1 [p4, p3, p9, (11, .e0), p13, (42, .v (.int .i64 (mnI (x1.length : Int) 10)))] [p8] kr ?_
  refine RunS.one he 0 rfl (op_q (wantedA_none rfl) rfl (q_slice (a := .sl 1 (x1.map (cdL 2 (cdG2 (cdK .u8) (cdK .u8) (fun _ => rfl) (fun _ => rfl))).enc)) (l := none) (u := (some (.v (.int .i64 (mnI (x1.length : Int) 10))))) (m := none) kr kr kr rfl (slice_sl (xs := x1) (e := (cdL 2 (cdG2 (cdK .u8) (cdK .u8) (fun _ => rfl) (fun _ => rfl))).enc) (k := 1) (el := 52) (lo := 0) (hi := (mnI (x1.length : Int) 10)) kr kr rfl (natB_i (cut_hi hk9)) hk9))) ?_
  refine RunS.one he 0 rfl (op_q (wantedA_none rfl) rfl (q_len (a := .sl 1 (((x1.take (mnI (x1.length : Int) 10).toNat).drop (0 : Int).toNat).map (cdL 2 (cdG2 (cdK .u8) (cdK .u8) (fun _ => rfl) (fun _ => rfl))).enc)) kr (len_sl (el := 52) kr))) ?_
  exact RunS.last he
 refine Sem.block ?_
 obtain ⟨r42, hr42, h⟩ := Option.bind_eq_some_iff.1 h
 refine Sem.loop (n := 100000) ?_
 let p14 : Option Blk := mk 1 50 ([].map (cdL 1 (cdL 1 cdI)).enc)
 let p15 : Nat × AV := (11, hd 1 ([].map (cdL 1 (cdL 1 cdI)).enc))
 refine Sem.cutN (SemN.wk (s1 := ⟨Fr 112 [p4, p3, p9, p15, p12, p11, p10], [p8, p14]⟩) (Wk.trans (s1 := ⟨Fr 112 [p4, p3, p9, p15, p12, p11, p10], [p8, p14]⟩) Wk.none (Wk.sel2 [0, 1] kr kr kr ⟨⟨_, rfl, bu_own⟩, ⟨_, rfl, bu_none⟩, trivial⟩ ⟨lu kr kr, lu kr kr, lu kr kr, lu kr kr, lu kr kr, lu kr kr, lu kr kr, trivial⟩)) (law09_Made_2_ok x1 v1 _ r8 [] 0 _ hr42)) ?_
 let p16 : Nat × AV := (6, .v (.int .i64 v1.2))
 let p17 : Nat × AV := (5, .sl 1 (v1.1.map cdI.enc))
 refine Sem.sq he [(4, hd 0 (r42.map (cdL 1 (cdL 1 cdI)).enc)), p17, p16] [mk 1 50 (r42.map (cdL 1 (cdL 1 cdI)).enc)] ?_
 refine Sem.ret ?_
 have hq := Option.some.inj h; subst hq
 let p18 : Nat × AV := (4, .sl 1 (r42.map (cdL 1 (cdL 1 cdI)).enc))
 exact ⟨⟨Fr 112 [p18, p17, p16], []⟩, (Wk.trans (s1 := ⟨Fr 112 [p18, p17, p16], [none]⟩) (Wk.frzG 0 (.inl kr) ⟨.inl rfl, trivial⟩ ⟨⟨hd 0 (r42.map (cdL 1 (cdL 1 cdI)).enc), kr, fz_hd (t := 50) kr enc_ok⟩, ⟨.sl 1 (v1.1.map cdI.enc), kr, .inl rfl⟩, ⟨.v (.int .i64 v1.2), kr, .inl rfl⟩, trivial⟩) (Wk.sel2 [] kr kr kr trivial ⟨lu kr kr, lu kr kr, lu kr kr, trivial⟩)), .inr rfl, [.sl 1 (r42.map (cdL 1 (cdL 1 cdI)).enc), .sl 1 (v1.1.map cdI.enc), .v (.int .i64 v1.2)], kr, kr⟩
def t_law09_Made : List AV → Option AV := told cs_law09_Made (fun a => law09_Made a.1 a.2.1) er_law09_Made
theorem x_law09_Made : XOk 25 t_law09_Made := by
 refine EnvOk.x (E := e_law09_Made) (contract_ok e_law09_Made_ok (fn := Tryd.f25) (c := cb_law09_Made) ?h1 ?h2 ⟨Tryd.call25⟩ cs_law09_Made (fun a => law09_Made a.1 a.2.1) er_law09_Made (fun a => (by show 2 ≤ 112; decide)) ?h3 ?h4) rfl rfl
 case h1 => kernel_rfl
 case h2 => kernel_rfl
 case h3 => intro b; kernel_rfl
 case h4 => exact fun a b h => law09_Made_sem a.1 a.2.1 b h
/- trestle/evening.guests -/
noncomputable def e_evening_guests : Env := E0
theorem e_evening_guests_ok : EnvOk e_evening_guests := E0_ok
noncomputable def cb_evening_guests : Code := codeOf Tryd.f82
def evening_guests (x0 : Int) : Option (Bool) :=
 (if (decide (x0 ≥ 1)) = true then some (decide (x0 ≤ 64)) else some false).bind fun j2 =>
 some j2
def cs_evening_guests : Cs (Int × Unit) := (csC cdI csN)
def er_evening_guests (r : Bool) : AV := cdB.enc r
set_option maxHeartbeats 4000000 in
set_option maxRecDepth 100000 in
theorem evening_guests_sem (x0 : Int) (r : Bool) (h : evening_guests x0 = some r) : Sem e_evening_guests ⟨none, false⟩ cb_evening_guests ⟨Fr 9 (pairs0 0 (cs_evening_guests.enc (x0, ()))), []⟩ fun e s' => (e = .normal ∨ e = .ret) ∧ ∃ xs, resA e_evening_guests.P s'.fr s'.hp Tryd.f82.results.toList = some xs ∧ retA xs = er_evening_guests r := by
 have he := e_evening_guests_ok
 unfold evening_guests at h
 let p1 : Nat × AV := (0, .v (.int .i64 x0))
 refine Sem.wkQ (Sem.wk (s1 := ⟨Fr 9 [p1], []⟩) (Wk.fr kr) ?_)
 refine Sem.sq he [p1] [] ?_
 refine Sem.seq ?_
 obtain ⟨j2, hj2, h⟩ := Option.bind_eq_some_iff.1 h
 refine Sem.runS (s1 := ⟨Fr 9 [(2, .v (.bool j2))], []⟩) ?_ ?_
 ·refine RunS.segF (n := 9) he 3 [p1, (5, .v (.bool (decide (x0 ≥ 1))))] [] kr ?_
  rcases Bool.eq_false_or_eq_true (decide (x0 ≥ 1)) with hc3 | hc3
  ·rw [if_pos hc3] at hj2
   rw [hc3]
   refine RunS.segF (n := 9) he 4 [(2, .v (.bool (decide (x0 ≤ 64))))] [] kr ?_
   have hq := Option.some.inj hj2; subst hq
   exact RunS.done rfl (Wk.fr kr)
  ·rw [if_f hc3] at hj2
   rw [hc3]
   refine RunS.segF (n := 9) he 4 [(2, .v (.bool false))] [] kr ?_
   have hq := Option.some.inj hj2; subst hq
   exact RunS.done rfl (Wk.fr kr)
 refine Sem.ret ?_
 have hq := Option.some.inj h; subst hq
 exact ⟨⟨Fr 9 [(2, .v (.bool j2))], []⟩, (Wk.fr kr), .inr rfl, [.v (.bool j2)], kr, kr⟩
def t_evening_guests : List AV → Option AV := told cs_evening_guests (fun a => evening_guests a.1) er_evening_guests
theorem x_evening_guests : XOk 82 t_evening_guests := by
 refine EnvOk.x (E := e_evening_guests) (contract_ok e_evening_guests_ok (fn := Tryd.f82) (c := cb_evening_guests) ?h1 ?h2 ⟨Tryd.call82⟩ cs_evening_guests (fun a => evening_guests a.1) er_evening_guests (fun a => (by show 1 ≤ 9; decide)) ?h3 ?h4) rfl rfl
 case h1 => kernel_rfl
 case h2 => kernel_rfl
 case h3 => intro b; kernel_rfl
 case h4 => exact fun a b h => evening_guests_sem a.1 b h
/- trestle/evening.fit -/
noncomputable def e_evening_fit : Env := (E0.withX 82 t_evening_guests)
theorem e_evening_fit_ok : EnvOk e_evening_fit := (EnvOk.withX E0_ok x_evening_guests.1 x_evening_guests.2)
noncomputable def cb_evening_fit : Code := codeOf Tryd.f67
def evening_fit_1 (x0 : Int) (x1 : (List Int)) : Nat → Int → Int → Option ((Int) ⊕ (Bool))
 | 0, _, _ => none
 | f + 1, c1, c2 =>
  if (decide (c2 < (x1.length : Int))) = true then
  (idx x1 c2).bind fun v4 =>
  (if (decide (v4 < 1)) = true then some true else some (decide (v4 > c1))).bind fun j6 =>
  if j6 = true then
  some (.inr false)
  else
  evening_fit_1 x0 x1 f (wr .i64 (c1 - v4)) (wr .i64 (c2 + 1))
  else
  some (.inl c1)
def evening_fit (x0 : Int) (x1 : (List Int)) : Option (Bool) :=
 (evening_fit_1 x0 x1 100000 x0 0).bind fun r11 =>
 match r11 with
 | (.inl w12) =>
  (evening_guests x0).bind fun v13 =>
  (if v13 = true then some (w12 == 0) else some false).bind fun j15 =>
  some j15
 | (.inr w17) =>
  some w17
def cs_evening_fit : Cs (Int × (List Int) × Unit) := (csC cdI (csC (cdL 1 cdI) csN))
def er_evening_fit (r : Bool) : AV := cdB.enc r
set_option maxHeartbeats 4000000 in
set_option maxRecDepth 100000 in
theorem evening_fit_1_ok (x0 : Int) (x1 : (List Int)) : ∀ (f : Nat) (c1 : Int) (c2 : Int) (r : (Int) ⊕ (Bool)), evening_fit_1 x0 x1 f c1 c2 = some r → SemN e_evening_fit ⟨none, false⟩ (pc cb_evening_fit [1, 1, 0, 1, 0, 0]) f ⟨Fr 32 [(0, .v (.int .i64 x0)), (5, .v (.int .i64 c1)), (9, .sl 1 (x1.map cdI.enc)), (10, .v (.int .i64 (x1.length : Int))), (11, .v (.int .i64 c2))], []⟩ (fun e s => match r with
 | (.inl w) => e = (.exit 0) ∧ Wk e_evening_fit s ⟨Fr 32 [(0, .v (.int .i64 x0)), (5, .v (.int .i64 w))], []⟩
 | (.inr w) => e = .ret ∧ Wk e_evening_fit s ⟨Fr 32 [(4, .v (.bool w))], []⟩) := by
 have he := e_evening_fit_ok
 intro f
 induction f with
 | zero => intro c1 c2 r h; cases h
 | succ f ih0 =>
  intro c1 c2 r h
  have ih := fun (c1 : Int) (c2 : Int) => ih0 c1 c2 r
  unfold evening_fit_1 at h
  refine SemN.succ ?_
  let p1 : Nat × AV := (11, .v (.int .i64 c2))
  let p2 : Nat × AV := (10, .v (.int .i64 (x1.length : Int)))
  let p3 : Nat × AV := (9, .sl 1 (x1.map cdI.enc))
  let p4 : Nat × AV := (5, .v (.int .i64 c1))
  let p5 : Nat × AV := (0, .v (.int .i64 x0))
  refine Sem.sq he [p5, p4, p3, p2, p1, (12, .v (.bool (decide (c2 < (x1.length : Int)))))] [] ?_
  refine Sem.seq ?_
  refine Sem.cond (b := (decide (c2 < (x1.length : Int)))) kr (fun hb3 => ?_) (fun hb3 => ?_)
  ·rw [if_pos hb3] at h
   refine Sem.skip ?_
   refine Sem.seq ?_
   refine Sem.block ?_
   refine Sem.seq ?_
   obtain ⟨v4, hv4, h⟩ := Option.bind_eq_some_iff.1 h
   let p6 : Nat × AV := (7, .v (.int .i64 v4))
   refine Sem.runS (s1 := ⟨Fr 32 [p5, p4, p6, p3, p2, p1], []⟩) ?_ ?_
   ·refine RunS.one he 0 rfl (op_q (wantedA_none rfl) rfl (q_indexAddr (a := .sl 1 (x1.map cdI.enc)) (b := .v (.int .i64 c2)) kr kr (ix_sl (e := cdI.enc) (el := 3) (k := 1) (ki := .i64) kr kr hv4))) ?_
    exact RunS.last he
   refine Sem.seq ?_
   refine Sem.seq ?_
   obtain ⟨j6, hj6, h⟩ := Option.bind_eq_some_iff.1 h
   refine Sem.runS (s1 := ⟨Fr 32 [p5, p4, p6, p3, p2, p1, (21, .v (.bool j6))], []⟩) ?_ ?_
   ·refine RunS.segF (n := 32) he 3 [p5, p4, p6, p3, p2, p1, (17, .v (.bool (decide (v4 < 1))))] [] kr ?_
    rcases Bool.eq_false_or_eq_true (decide (v4 < 1)) with hc9 | hc9
    ·rw [if_pos hc9] at hj6
     rw [hc9]
     refine RunS.segF (n := 32) he 4 [p5, p4, p6, p3, p2, p1, (18, .tp []), (19, .tp []), (20, .tp []), (21, .v (.bool true))] [] kr ?_
     have hq := Option.some.inj hj6; subst hq
     exact RunS.done rfl (Wk.fr kr)
    ·rw [if_f hc9] at hj6
     rw [hc9]
     refine RunS.segF (n := 32) he 4 [p5, p4, p6, p3, p2, p1, (18, .v (.int .i64 v4)), (19, .v (.int .i64 c1)), (20, .v (.bool (decide (v4 > c1)))), (21, .v (.bool (decide (v4 > c1))))] [] kr ?_
     have hq := Option.some.inj hj6; subst hq
     exact RunS.done rfl (Wk.fr kr)
   refine Sem.cond (b := j6) kr (fun hb7 => ?_) (fun hb7 => ?_)
   ·rw [if_pos hb7] at h
    refine Sem.sq he [(4, .v (.bool false))] [] ?_
    refine Sem.ret ?_
    have hq := Option.some.inj h; subst hq
    exact ⟨rfl, (Wk.fr kr)⟩
   ·rw [if_f hb7] at h
    refine Sem.skip ?_
    let p7 : Nat × AV := (5, .v (.int .i64 (wr .i64 (c1 - v4))))
    refine Sem.rg he [p5, p7, p3, p2, p1] [] ?_
    let p8 : Nat × AV := (11, .v (.int .i64 (wr .i64 (c2 + 1))))
    refine Sem.rg he [p5, p7, p3, p2, p8] [] ?_
    exact SemN.wk (s1 := ⟨Fr 32 [p5, p7, p3, p2, p8], []⟩) (Wk.fr kr) (ih (wr .i64 (c1 - v4)) (wr .i64 (c2 + 1)) h)
  ·rw [if_f hb3] at h
   refine Sem.exit ?_
   have hq := Option.some.inj h; subst hq
   exact ⟨rfl, (Wk.fr kr)⟩
set_option maxHeartbeats 4000000 in
set_option maxRecDepth 100000 in
theorem evening_fit_sem (x0 : Int) (x1 : (List Int)) (r : Bool) (h : evening_fit x0 x1 = some r) : Sem e_evening_fit ⟨none, false⟩ cb_evening_fit ⟨Fr 32 (pairs0 0 (cs_evening_fit.enc (x0, x1, ()))), []⟩ fun e s' => (e = .normal ∨ e = .ret) ∧ ∃ xs, resA e_evening_fit.P s'.fr s'.hp Tryd.f67.results.toList = some xs ∧ retA xs = er_evening_fit r := by
 have he := e_evening_fit_ok
 unfold evening_fit at h
 let p1 : Nat × AV := (1, .sl 1 (x1.map cdI.enc))
 let p2 : Nat × AV := (0, .v (.int .i64 x0))
 refine Sem.wkQ (Sem.wk (s1 := ⟨Fr 32 [p2, p1], []⟩) (Wk.fr kr) ?_)
 refine Sem.sq he [p2, p1] [] ?_
 let p3 : Nat × AV := (5, .v (.int .i64 x0))
 refine Sem.sq he [p2, p1, p3] [] ?_
 refine Sem.seq ?_
 refine Sem.seq ?_
 let p4 : Nat × AV := (11, .v (.int .i64 0))
 let p5 : Nat × AV := (10, .v (.int .i64 (x1.length : Int)))
 let p6 : Nat × AV := (9, .sl 1 (x1.map cdI.enc))
 refine Sem.runS (s1 := ⟨Fr 32 [p2, p3, p6, p5, p4], []⟩) ?_ ?_
 ·refine RunS.segF (n := 32) he 1 [p2, p3, p6] [] kr ?_
  refine RunS.one he 0 rfl (op_q (wantedA_none rfl) rfl (q_len (a := .sl 1 (x1.map cdI.enc)) kr (len_sl (el := 3) kr))) ?_
  exact RunS.last he
 refine Sem.block ?_
 obtain ⟨r11, hr11, h⟩ := Option.bind_eq_some_iff.1 h
 refine Sem.loop (n := 100000) ?_
 rcases r11 with w12 | w17
 ·try dsimp only at h
  refine Sem.cutN (SemN.wk (s1 := ⟨Fr 32 [p2, p3, p6, p5, p4], []⟩) (Wk.fr kr) (evening_fit_1_ok x0 x1 _ x0 0 _ hr11)) ?_
  refine Sem.seq ?_
  obtain ⟨v13, hv13, h⟩ := Option.bind_eq_some_iff.1 h
  obtain ⟨j15, hj15, h⟩ := Option.bind_eq_some_iff.1 h
  refine Sem.runS (s1 := ⟨Fr 32 [(4, .v (.bool j15))], []⟩) ?_ ?_
  ·refine RunS.segF (n := 32) he 1 [(5, .v (.int .i64 w12)), (26, .v (.int .i64 x0))] [] kr ?_
   refine RunS.call he (fid := 82) (s := cs_evening_guests) (F := fun a => evening_guests a.1) (er := er_evening_guests) (xs := [.v (.int .i64 x0)]) (a := (x0, ())) rfl (wantedA_none rfl) kr kr kr kr (Sns.cons (Sn.enc (c := cdI) (v := x0)) Sns.nil) (.inl kr) hv13 ?_
   refine RunS.segF (n := 32) he 1 [(5, .v (.int .i64 w12)), (28, .v (.bool v13))] [] kr ?_
   rcases Bool.eq_false_or_eq_true v13 with hc16 | hc16
   ·rw [if_pos hc16] at hj15
    rw [hc16]
    refine RunS.segF (n := 32) he 4 [(4, .v (.bool (w12 == 0)))] [] kr ?_
    have hq := Option.some.inj hj15; subst hq
    exact RunS.done rfl (Wk.fr kr)
   ·rw [if_f hc16] at hj15
    rw [hc16]
    refine RunS.segF (n := 32) he 4 [(4, .v (.bool false))] [] kr ?_
    have hq := Option.some.inj hj15; subst hq
    exact RunS.done rfl (Wk.fr kr)
  refine Sem.ret ?_
  have hq := Option.some.inj h; subst hq
  exact ⟨⟨Fr 32 [(4, .v (.bool j15))], []⟩, (Wk.fr kr), .inr rfl, [.v (.bool j15)], kr, kr⟩
 ·try dsimp only at h
  refine Sem.cutN (SemN.wk (s1 := ⟨Fr 32 [p2, p3, p6, p5, p4], []⟩) (Wk.fr kr) (evening_fit_1_ok x0 x1 _ x0 0 _ hr11)) ?_
  have hq := Option.some.inj h; subst hq
  exact ⟨⟨Fr 32 [(4, .v (.bool w17))], []⟩, (Wk.fr kr), .inr rfl, [.v (.bool w17)], kr, kr⟩
def t_evening_fit : List AV → Option AV := told cs_evening_fit (fun a => evening_fit a.1 a.2.1) er_evening_fit
theorem x_evening_fit : XOk 67 t_evening_fit := by
 refine EnvOk.x (E := e_evening_fit) (contract_ok e_evening_fit_ok (fn := Tryd.f67) (c := cb_evening_fit) ?h1 ?h2 ⟨Tryd.call67⟩ cs_evening_fit (fun a => evening_fit a.1 a.2.1) er_evening_fit (fun a => (by show 2 ≤ 32; decide)) ?h3 ?h4) rfl rfl
 case h1 => kernel_rfl
 case h2 => kernel_rfl
 case h3 => intro b; kernel_rfl
 case h4 => exact fun a b h => evening_fit_sem a.1 a.2.1 b h
/- trestle/evening.check -/
noncomputable def e_evening_check : Env := E0
theorem e_evening_check_ok : EnvOk e_evening_check := E0_ok
noncomputable def cb_evening_check : Code := codeOf Tryd.f83
def evening_check_j3 (x0 : Int) (x1 : (List Int)) (x2 : (List (List Int))) (c9 : Int) (v11 : (List Int)) (c18 : Int) (c20 : Bool) (c22 : Int) (v24 : Int) (j32 : Bool × (List Bool)) (v33 : Bool) : Option ((Int)) :=
 if (!v33) = true then
 some (wr .i64 (c18 + 1))
 else
 some c18
def evening_check_2 (x0 : Int) (x1 : (List Int)) (x2 : (List (List Int))) (c9 : Int) (v11 : (List Int)) : Nat → Int → Bool → Bool → (List Bool) → Int → Option ((Int × Bool × Bool × (List Bool)))
 | 0, _, _, _, _, _ => none
 | f + 1, c18, c19, c20, c21, c22 =>
  if (decide (c22 < (v11.length : Int))) = true then
  (idx v11 c22).bind fun v24 =>
  (if (decide (v24 < 0)) = true then some (c21, true) else some (c21, (decide (v24 ≥ x0)))).bind fun j27 =>
  if j27.2 = true then
  evening_check_2 x0 x1 x2 c9 v11 f c18 c19 true j27.1 (wr .i64 (c22 + 1))
  else
  (if c19 = true then some (true, j27.1) else (idx j27.1 v24).bind fun v29 =>
  some (v29, j27.1)).bind fun j32 =>
  (idx j32.2 v24).bind fun v33 =>
  (evening_check_j3 x0 x1 x2 c9 v11 c18 c20 c22 v24 j32 v33).bind fun r36 =>
  (idx j32.2 v24).bind fun v37 =>
  evening_check_2 x0 x1 x2 c9 v11 f r36 j32.1 c20 (j32.2.set v24.toNat true) (wr .i64 (c22 + 1))
  else
  some (c18, c19, c20, c21)
def evening_check_1 (x0 : Int) (x1 : (List Int)) (x2 : (List (List Int))) : Nat → Int → Bool → Bool → (List Bool) → Int → Option ((Int × Bool × Bool) ⊕ (Int))
 | 0, _, _, _, _, _ => none
 | f + 1, c5, c6, c7, c8, c9 =>
  if (decide (c9 < (x2.length : Int))) = true then
  (idx x2 c9).bind fun v11 =>
  (if ((v11.length : Int) == 0) = true then some (c8, true) else if (decide ((x1.length : Int) > 0)) = true then (idx x1 c9).bind fun v12 =>
  some (c8, ((v11.length : Int) != v12)) else some (c8, false)).bind fun j15 =>
  if j15.2 = true then
  some (.inr 2)
  else
  (evening_check_2 x0 x1 x2 c9 v11 100000 c5 c6 c7 j15.1 0).bind fun r44 =>
  evening_check_1 x0 x1 x2 f r44.1 r44.2.1 r44.2.2.1 r44.2.2.2 (wr .i64 (c9 + 1))
  else
  some (.inl (c5, c6, c7))
def evening_check (x0 : Int) (x1 : (List Int)) (x2 : (List (List Int))) : Option (Int) :=
 (if (decide ((x1.length : Int) > 0)) = true then some ((x1.length : Int) != (x2.length : Int)) else some false).bind fun j2 =>
 if j2 = true then
 some 2
 else
 if (mkOk 1 x0) = true then
 (evening_check_1 x0 x1 x2 100000 0 false false (List.replicate x0.toNat false) 0).bind fun r50 =>
 match r50 with
 | (.inl w51) =>
  if w51.2.2 = true then
  some 6
  else
  if w51.2.1 = true then
  some 5
  else
  if (decide (w51.1 < x0)) = true then
  some 2
  else
  some 0
 | (.inr w55) =>
  some w55
 else none
def cs_evening_check : Cs (Int × (List Int) × (List (List Int)) × Unit) := (csC cdI (csC (cdL 1 cdI) (csC (cdL 1 (cdL 1 cdI)) csN)))
def er_evening_check (r : Int) : AV := cdI.enc r
set_option maxHeartbeats 4000000 in
set_option maxRecDepth 100000 in
theorem evening_check_j3_ok (x0 : Int) (x1 : (List Int)) (x2 : (List (List Int))) (c9 : Int) (v11 : (List Int)) (c18 : Int) (c20 : Bool) (c22 : Int) (v24 : Int) (j32 : Bool × (List Bool)) (v33 : Bool) (r : (Int)) (h : evening_check_j3 x0 x1 x2 c9 v11 c18 c20 c22 v24 j32 v33 = some r) : Sem e_evening_check ⟨none, false⟩ (pc cb_evening_check [1, 1, 1, 1, 0, 1, 0, 0, 1, 1, 0, 0, 1, 1, 1, 0, 0, 1, 1, 0, 0, 1, 1, 1, 0, 1]) ⟨Fr 91 [(0, .v (.int .i64 x0)), (1, .sl 1 (x1.map cdI.enc)), (7, .v (.int .i64 c18)), (8, .v (.bool j32.1)), (9, .v (.bool c20)), (10, .rf 0 0 j32.2.length j32.2.length), (14, .v (.int .i64 v24)), (27, .sl 1 (x2.map (cdL 1 cdI).enc)), (28, .v (.int .i64 (x2.length : Int))), (29, .v (.int .i64 c9)), (51, .sl 1 (v11.map cdI.enc)), (52, .v (.int .i64 (v11.length : Int))), (53, .v (.int .i64 c22)), (75, .v (.bool (!v33)))], [some ⟨1, 4, (j32.2.map cdB.enc), false⟩]⟩ (fun e s => e = .normal ∧ Wk e_evening_check s ⟨Fr 91 [(0, .v (.int .i64 x0)), (1, .sl 1 (x1.map cdI.enc)), (7, .v (.int .i64 r)), (8, .v (.bool j32.1)), (9, .v (.bool c20)), (10, .rf 0 0 j32.2.length j32.2.length), (14, .v (.int .i64 v24)), (27, .sl 1 (x2.map (cdL 1 cdI).enc)), (28, .v (.int .i64 (x2.length : Int))), (29, .v (.int .i64 c9)), (51, .sl 1 (v11.map cdI.enc)), (52, .v (.int .i64 (v11.length : Int))), (53, .v (.int .i64 c22))], [some ⟨1, 4, (j32.2.map cdB.enc), false⟩]⟩) := by
 unfold evening_check_j3 at h
 refine Sem.cond (b := (!v33)) kr (fun hb34 => ?_) (fun hb34 => ?_)
 ·rw [if_pos hb34] at h
  refine Sem.rg e_evening_check_ok [(0, .v (.int .i64 x0)), (1, .sl 1 (x1.map cdI.enc)), (7, .v (.int .i64 (wr .i64 (c18 + 1)))), (8, .v (.bool j32.1)), (9, .v (.bool c20)), (10, .rf 0 0 j32.2.length j32.2.length), (14, .v (.int .i64 v24)), (27, .sl 1 (x2.map (cdL 1 cdI).enc)), (28, .v (.int .i64 (x2.length : Int))), (29, .v (.int .i64 c9)), (51, .sl 1 (v11.map cdI.enc)), (52, .v (.int .i64 (v11.length : Int))), (53, .v (.int .i64 c22))] [some ⟨1, 4, (j32.2.map cdB.enc), false⟩] ?_
  have hq := Option.some.inj h; subst hq
  exact ⟨rfl, (Wk.sel2 [0] kr kr kr ⟨⟨_, rfl, bu_own⟩, trivial⟩ ⟨lu kr kr, lu kr kr, lu kr kr, lu kr kr, lu kr kr, lu kr kr, lu kr kr, lu kr kr, lu kr kr, lu kr kr, lu kr kr, lu kr kr, lu kr kr, trivial⟩)⟩
 ·rw [if_f hb34] at h
  refine Sem.skip ?_
  have hq := Option.some.inj h; subst hq
  exact ⟨rfl, (Wk.sel2 [0] kr kr kr ⟨⟨_, rfl, bu_own⟩, trivial⟩ ⟨lu kr kr, lu kr kr, lu kr kr, lu kr kr, lu kr kr, lu kr kr, lu kr kr, lu kr kr, lu kr kr, lu kr kr, lu kr kr, lu kr kr, lu kr kr, trivial⟩)⟩
set_option maxHeartbeats 4000000 in
set_option maxRecDepth 100000 in
theorem evening_check_2_ok (x0 : Int) (x1 : (List Int)) (x2 : (List (List Int))) (c9 : Int) (v11 : (List Int)) : ∀ (f : Nat) (c18 : Int) (c19 : Bool) (c20 : Bool) (c21 : (List Bool)) (c22 : Int) (r : (Int × Bool × Bool × (List Bool))), evening_check_2 x0 x1 x2 c9 v11 f c18 c19 c20 c21 c22 = some r → SemN e_evening_check ⟨none, false⟩ (pc cb_evening_check [1, 1, 1, 1, 0, 1, 0, 0, 1, 1, 0, 0, 1, 1, 1, 0, 0]) f ⟨Fr 91 [(0, .v (.int .i64 x0)), (1, .sl 1 (x1.map cdI.enc)), (7, .v (.int .i64 c18)), (8, .v (.bool c19)), (9, .v (.bool c20)), (10, .rf 0 0 c21.length c21.length), (27, .sl 1 (x2.map (cdL 1 cdI).enc)), (28, .v (.int .i64 (x2.length : Int))), (29, .v (.int .i64 c9)), (51, .sl 1 (v11.map cdI.enc)), (52, .v (.int .i64 (v11.length : Int))), (53, .v (.int .i64 c22))], [some ⟨1, 4, (c21.map cdB.enc), false⟩]⟩ (fun e s => e = (.exit 2) ∧ Wk e_evening_check s ⟨Fr 91 [(0, .v (.int .i64 x0)), (1, .sl 1 (x1.map cdI.enc)), (7, .v (.int .i64 r.1)), (8, .v (.bool r.2.1)), (9, .v (.bool r.2.2.1)), (10, .rf 0 0 r.2.2.2.length r.2.2.2.length), (27, .sl 1 (x2.map (cdL 1 cdI).enc)), (28, .v (.int .i64 (x2.length : Int))), (29, .v (.int .i64 c9))], [some ⟨1, 4, (r.2.2.2.map cdB.enc), false⟩]⟩) := by
 have he := e_evening_check_ok
 intro f
 induction f with
 | zero => intro c18 c19 c20 c21 c22 r h; cases h
 | succ f ih0 =>
  intro c18 c19 c20 c21 c22 r h
  have ih := fun (c18 : Int) (c19 : Bool) (c20 : Bool) (c21 : (List Bool)) (c22 : Int) => ih0 c18 c19 c20 c21 c22 r
  unfold evening_check_2 at h
  refine SemN.succ ?_
  let p1 : Option Blk := some ⟨1, 4, (c21.map cdB.enc), false⟩
  let p2 : Nat × AV := (53, .v (.int .i64 c22))
  let p3 : Nat × AV := (52, .v (.int .i64 (v11.length : Int)))
  let p4 : Nat × AV := (51, .sl 1 (v11.map cdI.enc))
  let p5 : Nat × AV := (29, .v (.int .i64 c9))
  let p6 : Nat × AV := (28, .v (.int .i64 (x2.length : Int)))
  let p7 : Nat × AV := (27, .sl 1 (x2.map (cdL 1 cdI).enc))
  let p8 : Nat × AV := (10, .rf 0 0 c21.length c21.length)
  let p9 : Nat × AV := (9, .v (.bool c20))
  let p10 : Nat × AV := (8, .v (.bool c19))
  let p11 : Nat × AV := (7, .v (.int .i64 c18))
  let p12 : Nat × AV := (1, .sl 1 (x1.map cdI.enc))
  let p13 : Nat × AV := (0, .v (.int .i64 x0))
  refine Sem.sq he [p13, p12, p11, p10, p9, p8, p7, p6, p5, p4, p3, p2, (54, .v (.bool (decide (c22 < (v11.length : Int)))))] [p1] ?_
  refine Sem.seq ?_
  refine Sem.cond (b := (decide (c22 < (v11.length : Int)))) kr (fun hb23 => ?_) (fun hb23 => ?_)
  ·rw [if_pos hb23] at h
   refine Sem.skip ?_
   refine Sem.seq ?_
   refine Sem.block ?_
   refine Sem.seq ?_
   obtain ⟨v24, hv24, h⟩ := Option.bind_eq_some_iff.1 h
   let p14 : Nat × AV := (14, .v (.int .i64 v24))
   refine Sem.runS (s1 := ⟨Fr 91 [p13, p12, p11, p10, p9, p8, p14, p7, p6, p5, p4, p3, p2], [p1]⟩) ?_ ?_
   ·refine RunS.one he 0 rfl (op_q (wantedA_none rfl) rfl (q_indexAddr (a := .sl 1 (v11.map cdI.enc)) (b := .v (.int .i64 c22)) kr kr (ix_sl (e := cdI.enc) (el := 3) (k := 1) (ki := .i64) kr kr hv24))) ?_
    exact RunS.last he
   refine Sem.seq ?_
   refine Sem.seq ?_
   obtain ⟨j27, hj27, h⟩ := Option.bind_eq_some_iff.1 h
   let p15 : Option Blk := some ⟨1, 4, (j27.1.map cdB.enc), false⟩
   let p16 : Nat × AV := (10, .rf 0 0 j27.1.length j27.1.length)
   refine Sem.runS (s1 := ⟨Fr 91 [p13, p12, p11, p10, p9, p16, p14, p7, p6, p5, p4, p3, p2, (63, .v (.bool j27.2))], [p15]⟩) ?_ ?_
   ·refine RunS.segF (n := 91) he 3 [p13, p12, p11, p10, p9, p8, p14, p7, p6, p5, p4, p3, p2, (59, .v (.bool (decide (v24 < 0))))] [p1] kr ?_
    rcases Bool.eq_false_or_eq_true (decide (v24 < 0)) with hc39 | hc39
    ·rw [if_pos hc39] at hj27
     rw [hc39]
     refine RunS.segF (n := 91) he 4 [p13, p12, p11, p10, p9, p8, p14, p7, p6, p5, p4, p3, p2, (60, .tp []), (61, .tp []), (62, .tp []), (63, .v (.bool true))] [p1] kr ?_
     have hq := Option.some.inj hj27; subst hq
     exact RunS.done rfl (Wk.sel2 [0] kr kr kr ⟨⟨_, rfl, bu_own⟩, trivial⟩ ⟨lu kr kr, lu kr kr, lu kr kr, lu kr kr, lu kr kr, lu kr kr, lu kr kr, lu kr kr, lu kr kr, lu kr kr, lu kr kr, lu kr kr, lu kr kr, lu kr kr, trivial⟩)
    ·rw [if_f hc39] at hj27
     rw [hc39]
     refine RunS.segF (n := 91) he 4 [p13, p12, p11, p10, p9, p8, p14, p7, p6, p5, p4, p3, p2, (60, .v (.int .i64 v24)), (61, .v (.int .i64 x0)), (62, .v (.bool (decide (v24 ≥ x0)))), (63, .v (.bool (decide (v24 ≥ x0))))] [p1] kr ?_
     have hq := Option.some.inj hj27; subst hq
     exact RunS.done rfl (Wk.sel2 [0] kr kr kr ⟨⟨_, rfl, bu_own⟩, trivial⟩ ⟨lu kr kr, lu kr kr, lu kr kr, lu kr kr, lu kr kr, lu kr kr, lu kr kr, lu kr kr, lu kr kr, lu kr kr, lu kr kr, lu kr kr, lu kr kr, lu kr kr, trivial⟩)
   refine Sem.cond (b := j27.2) kr (fun hb28 => ?_) (fun hb28 => ?_)
   ·rw [if_pos hb28] at h
    refine Sem.sq he [p13, p12, p11, p10, (9, .v (.bool true)), p16, p7, p6, p5, p4, p3, p2] [p15] ?_
    refine Sem.exit ?_
    let p17 : Nat × AV := (53, .v (.int .i64 (wr .i64 (c22 + 1))))
    refine Sem.rg he [p13, p12, p11, p10, (9, .v (.bool true)), p16, p7, p6, p5, p4, p3, p17] [p15] ?_
    exact SemN.wk (s1 := ⟨Fr 91 [p13, p12, p11, p10, (9, .v (.bool true)), p16, p7, p6, p5, p4, p3, p17], [p15]⟩) (Wk.sel2 [0] kr kr kr ⟨⟨_, rfl, bu_own⟩, trivial⟩ ⟨lu kr kr, lu kr kr, lu kr kr, lu kr kr, lu kr kr, lu kr kr, lu kr kr, lu kr kr, lu kr kr, lu kr kr, lu kr kr, lu kr kr, trivial⟩) (ih c18 c19 true j27.1 (wr .i64 (c22 + 1)) h)
   ·rw [if_f hb28] at h
    refine Sem.skip ?_
    refine Sem.seq ?_
    obtain ⟨j32, hj32, h⟩ := Option.bind_eq_some_iff.1 h
    let p18 : Option Blk := some ⟨1, 4, (j32.2.map cdB.enc), false⟩
    let p19 : Nat × AV := (10, .rf 0 0 j32.2.length j32.2.length)
    let p20 : Nat × AV := (8, .v (.bool j32.1))
    refine Sem.runS (s1 := ⟨Fr 91 [p13, p12, p11, p20, p9, p19, p14, p7, p6, p5, p4, p3, p2], [p18]⟩) ?_ ?_
    ·refine RunS.segF (n := 91) he 2 [p13, p12, p11, p9, p16, p14, p7, p6, p5, p4, p3, p2, (65, .v (.bool c19))] [p15] kr ?_
     rcases Bool.eq_false_or_eq_true c19 with hc38 | hc38
     ·rw [if_pos hc38] at hj32
      rw [hc38]
      refine RunS.segF (n := 91) he 6 [p13, p12, p11, (8, .v (.bool true)), p9, p16, p14, p7, p6, p5, p4, p3, p2, (66, .tp []), (67, .tp []), (68, .tp []), (69, .tp [])] [p15] kr ?_
      have hq := Option.some.inj hj32; subst hq
      exact RunS.done rfl (Wk.sel2 [0] kr kr kr ⟨⟨_, rfl, bu_own⟩, trivial⟩ ⟨lu kr kr, lu kr kr, lu kr kr, lu kr kr, lu kr kr, lu kr kr, lu kr kr, lu kr kr, lu kr kr, lu kr kr, lu kr kr, lu kr kr, lu kr kr, trivial⟩)
     ·rw [if_f hc38] at hj32
      rw [hc38]
      refine RunS.segF (n := 91) he 2 [p13, p12, p11, p9, p16, p14, p7, p6, p5, p4, p3, p2, (65, .v (.bool false)), (66, .rf 0 0 j27.1.length j27.1.length), (67, .v (.int .i64 v24))] [p15] kr ?_
      obtain ⟨v29, hv29, hj32⟩ := Option.bind_eq_some_iff.1 hj32
      refine RunS.one he 0 rfl (op_q kr rfl (q_indexAddr (a := .rf 0 0 j27.1.length j27.1.length) (b := .v (.int .i64 v24)) kr kr (ix_rl (e := cdB.enc) (xs := j27.1) (t' := 4) (el := 4) (k := 1) (ki := .i64) kr kr kr hv29))) ?_
      refine RunS.one he 0 rfl (op_q kr rfl (q_load (p := .pt 0 v24.toNat 0) kr (ld_blk (B := ⟨1, 4, (j27.1.map cdB.enc), false⟩) (m := 1) (g := false) (e := cdB.enc) (xs := j27.1) kr kr kr rfl (idx_at hv29).2 kr))) ?_
      refine RunS.segF (n := 91) he 2 [p13, p12, p11, (8, .v (.bool v29)), p9, p16, p14, p7, p6, p5, p4, p3, p2, (66, .rf 0 0 j27.1.length j27.1.length), (67, .v (.int .i64 v24)), (68, .pt 0 v24.toNat 0), (69, .v (.bool v29))] [p15] kr ?_
      have hq := Option.some.inj hj32; subst hq
      exact RunS.done rfl (Wk.sel2 [0] kr kr kr ⟨⟨_, rfl, bu_own⟩, trivial⟩ ⟨lu kr kr, lu kr kr, lu kr kr, lu kr kr, lu kr kr, lu kr kr, lu kr kr, lu kr kr, lu kr kr, lu kr kr, lu kr kr, lu kr kr, lu kr kr, trivial⟩)
    refine Sem.seq ?_
    refine Sem.seq ?_
    obtain ⟨v33, hv33, h⟩ := Option.bind_eq_some_iff.1 h
    refine Sem.runS (s1 := ⟨Fr 91 [p13, p12, p11, p20, p9, p19, p14, p7, p6, p5, p4, p3, p2, (75, .v (.bool (!v33)))], [p18]⟩) ?_ ?_
    ·refine RunS.segF (n := 91) he 2 [p13, p12, p11, p20, p9, p19, p14, p7, p6, p5, p4, p3, p2, (71, .rf 0 0 j32.2.length j32.2.length), (72, .v (.int .i64 v24))] [p18] kr ?_
     refine RunS.one he 0 rfl (op_q (wantedA_none rfl) rfl (q_indexAddr (a := .rf 0 0 j32.2.length j32.2.length) (b := .v (.int .i64 v24)) kr kr (ix_rl (e := cdB.enc) (xs := j32.2) (t' := 4) (el := 4) (k := 1) (ki := .i64) kr kr kr hv33))) ?_
     refine RunS.one he 0 rfl (op_q (wantedA_none rfl) rfl (q_load (p := .pt 0 v24.toNat 0) kr (ld_blk (B := ⟨1, 4, (j32.2.map cdB.enc), false⟩) (m := 1) (g := false) (e := cdB.enc) (xs := j32.2) kr kr kr rfl (idx_at hv33).2 kr))) ?_
     exact RunS.last he
    obtain ⟨r36, hr36, h⟩ := Option.bind_eq_some_iff.1 h
    refine Sem.cut (evening_check_j3_ok x0 x1 x2 c9 v11 c18 c20 c22 v24 j32 v33 _ hr36) ?_
    obtain ⟨v37, hv37, h⟩ := Option.bind_eq_some_iff.1 h
    let p21 : Option Blk := some ⟨1, 4, ((j32.2.set v24.toNat true).map cdB.enc), false⟩
    let p22 : Nat × AV := (10, .rf 0 0 (j32.2.set v24.toNat true).length (j32.2.set v24.toNat true).length)
    let p23 : Nat × AV := (7, .v (.int .i64 r36))
    refine Sem.runS (s1 := ⟨Fr 91 [p13, p12, p23, p20, p9, p22, p7, p6, p5, p4, p3, p2], [p21]⟩) ?_ ?_
    ·refine RunS.segF (n := 91) he 2 [p13, p12, p23, p20, p9, p19, p7, p6, p5, p4, p3, p2, (78, .rf 0 0 j32.2.length j32.2.length), (79, .v (.int .i64 v24))] [p18] kr ?_
     refine RunS.one he 0 rfl (op_q (wantedA_none rfl) rfl (q_indexAddr (a := .rf 0 0 j32.2.length j32.2.length) (b := .v (.int .i64 v24)) kr kr (ix_rl (e := cdB.enc) (xs := j32.2) (t' := 4) (el := 4) (k := 1) (ki := .i64) kr kr kr hv37))) ?_
     refine RunS.store he (y := .pt 0 v24.toNat 0) (z := .v (.bool true)) rfl (wantedA_none rfl) kr kr (st_blk (t' := 4) (k := 1) (e := cdB.enc) (xs := j32.2) (v := v37) (v' := true) kr (idx_at hv37).2 kr kr kr) ?_
     exact RunS.done rfl (Wk.sel2 [0] kr kr kr ⟨⟨_, rfl, bu_own⟩, trivial⟩ ⟨lu kr kr, lu kr kr, lu kr kr, lu kr kr, lu kr kr, lu_rl (b' := 0) (n := j32.2.length) kr (by simp) kr, lu kr kr, lu kr kr, lu kr kr, lu kr kr, lu kr kr, lu kr kr, trivial⟩)
    let p24 : Nat × AV := (53, .v (.int .i64 (wr .i64 (c22 + 1))))
    refine Sem.rg he [p13, p12, p23, p20, p9, p22, p7, p6, p5, p4, p3, p24] [p21] ?_
    exact SemN.wk (s1 := ⟨Fr 91 [p13, p12, p23, p20, p9, p22, p7, p6, p5, p4, p3, p24], [p21]⟩) (Wk.sel2 [0] kr kr kr ⟨⟨_, rfl, bu_own⟩, trivial⟩ ⟨lu kr kr, lu kr kr, lu kr kr, lu kr kr, lu kr kr, lu kr kr, lu kr kr, lu kr kr, lu kr kr, lu kr kr, lu kr kr, lu kr kr, trivial⟩) (ih r36 j32.1 c20 (j32.2.set v24.toNat true) (wr .i64 (c22 + 1)) h)
  ·rw [if_f hb23] at h
   refine Sem.exit ?_
   have hq := Option.some.inj h; subst hq
   exact ⟨rfl, (Wk.sel2 [0] kr kr kr ⟨⟨_, rfl, bu_own⟩, trivial⟩ ⟨lu kr kr, lu kr kr, lu kr kr, lu kr kr, lu kr kr, lu kr kr, lu kr kr, lu kr kr, lu kr kr, trivial⟩)⟩
set_option maxHeartbeats 4000000 in
set_option maxRecDepth 100000 in
theorem evening_check_1_ok (x0 : Int) (x1 : (List Int)) (x2 : (List (List Int))) : ∀ (f : Nat) (c5 : Int) (c6 : Bool) (c7 : Bool) (c8 : (List Bool)) (c9 : Int) (r : (Int × Bool × Bool) ⊕ (Int)), evening_check_1 x0 x1 x2 f c5 c6 c7 c8 c9 = some r → SemN e_evening_check ⟨none, false⟩ (pc cb_evening_check [1, 1, 1, 1, 0, 1, 0, 0]) f ⟨Fr 91 [(0, .v (.int .i64 x0)), (1, .sl 1 (x1.map cdI.enc)), (7, .v (.int .i64 c5)), (8, .v (.bool c6)), (9, .v (.bool c7)), (10, .rf 0 0 c8.length c8.length), (27, .sl 1 (x2.map (cdL 1 cdI).enc)), (28, .v (.int .i64 (x2.length : Int))), (29, .v (.int .i64 c9))], [some ⟨1, 4, (c8.map cdB.enc), false⟩]⟩ (fun e s => match r with
 | (.inl w) => e = (.exit 0) ∧ Wk e_evening_check s ⟨Fr 91 [(0, .v (.int .i64 x0)), (7, .v (.int .i64 w.1)), (8, .v (.bool w.2.1)), (9, .v (.bool w.2.2))], []⟩
 | (.inr w) => e = .ret ∧ Wk e_evening_check s ⟨Fr 91 [(6, .v (.int .i64 w))], []⟩) := by
 have he := e_evening_check_ok
 intro f
 induction f with
 | zero => intro c5 c6 c7 c8 c9 r h; cases h
 | succ f ih0 =>
  intro c5 c6 c7 c8 c9 r h
  have ih := fun (c5 : Int) (c6 : Bool) (c7 : Bool) (c8 : (List Bool)) (c9 : Int) => ih0 c5 c6 c7 c8 c9 r
  unfold evening_check_1 at h
  refine SemN.succ ?_
  let p1 : Option Blk := some ⟨1, 4, (c8.map cdB.enc), false⟩
  let p2 : Nat × AV := (29, .v (.int .i64 c9))
  let p3 : Nat × AV := (28, .v (.int .i64 (x2.length : Int)))
  let p4 : Nat × AV := (27, .sl 1 (x2.map (cdL 1 cdI).enc))
  let p5 : Nat × AV := (10, .rf 0 0 c8.length c8.length)
  let p6 : Nat × AV := (9, .v (.bool c7))
  let p7 : Nat × AV := (8, .v (.bool c6))
  let p8 : Nat × AV := (7, .v (.int .i64 c5))
  let p9 : Nat × AV := (1, .sl 1 (x1.map cdI.enc))
  let p10 : Nat × AV := (0, .v (.int .i64 x0))
  refine Sem.sq he [p10, p9, p8, p7, p6, p5, p4, p3, p2, (30, .v (.bool (decide (c9 < (x2.length : Int)))))] [p1] ?_
  refine Sem.seq ?_
  refine Sem.cond (b := (decide (c9 < (x2.length : Int)))) kr (fun hb10 => ?_) (fun hb10 => ?_)
  ·rw [if_pos hb10] at h
   refine Sem.skip ?_
   refine Sem.seq ?_
   refine Sem.block ?_
   refine Sem.seq ?_
   obtain ⟨v11, hv11, h⟩ := Option.bind_eq_some_iff.1 h
   let p11 : Nat × AV := (12, .sl 1 (v11.map cdI.enc))
   let p12 : Nat × AV := (11, .v (.int .i64 c9))
   refine Sem.runS (s1 := ⟨Fr 91 [p10, p9, p8, p7, p6, p5, p12, p11, p4, p3, p2], [p1]⟩) ?_ ?_
   ·refine RunS.segF (n := 91) he 1 [p10, p9, p8, p7, p6, p5, p4, p3, p2, (31, .v (.int .i64 c9))] [p1] kr ?_
    refine RunS.one he 0 rfl (op_q (wantedA_none rfl) rfl (q_indexAddr (a := .sl 1 (x2.map (cdL 1 cdI).enc)) (b := .v (.int .i64 c9)) kr kr (ix_sl (e := (cdL 1 cdI).enc) (el := 31) (k := 1) (ki := .i64) kr kr hv11))) ?_
    exact RunS.last he
   refine Sem.seq ?_
   refine Sem.seq ?_
   obtain ⟨j15, hj15, h⟩ := Option.bind_eq_some_iff.1 h
   let p13 : Option Blk := some ⟨1, 4, (j15.1.map cdB.enc), false⟩
   let p14 : Nat × AV := (10, .rf 0 0 j15.1.length j15.1.length)
   refine Sem.runS (s1 := ⟨Fr 91 [p10, p9, p8, p7, p6, p14, p11, p4, p3, p2, (50, .v (.bool j15.2))], [p13]⟩) ?_ ?_
   ·refine RunS.segF (n := 91) he 1 [p10, p9, p8, p7, p6, p5, p12, p11, p4, p3, p2, (34, .sl 1 (v11.map cdI.enc))] [p1] kr ?_
    refine RunS.one he 0 rfl (op_q (wantedA_none rfl) rfl (q_len (a := .sl 1 (v11.map cdI.enc)) kr (len_sl (el := 3) kr))) ?_
    refine RunS.segF (n := 91) he 2 [p10, p9, p8, p7, p6, p5, p12, p11, p4, p3, p2, (37, .v (.bool ((v11.length : Int) == 0)))] [p1] kr ?_
    rcases Bool.eq_false_or_eq_true ((v11.length : Int) == 0) with hc45 | hc45
    ·rw [if_pos hc45] at hj15
     rw [hc45]
     refine RunS.segF (n := 91) he 13 [p10, p9, p8, p7, p6, p5, p11, p4, p3, p2, (38, .tp []), (39, .tp []), (40, .tp []), (41, .tp []), (42, .tp []), (43, .tp []), (44, .tp []), (45, .tp []), (46, .tp []), (47, .tp []), (48, .tp []), (49, .tp []), (50, .v (.bool true))] [p1] kr ?_
     have hq := Option.some.inj hj15; subst hq
     exact RunS.done rfl (Wk.sel2 [0] kr kr kr ⟨⟨_, rfl, bu_own⟩, trivial⟩ ⟨lu kr kr, lu kr kr, lu kr kr, lu kr kr, lu kr kr, lu kr kr, lu kr kr, lu kr kr, lu kr kr, lu kr kr, lu kr kr, trivial⟩)
    ·rw [if_f hc45] at hj15
     rw [hc45]
     let p15 : Nat × AV := (38, .sl 1 (x1.map cdI.enc))
     let p16 : Nat × AV := (37, .v (.bool false))
     refine RunS.segF (n := 91) he 1 [p10, p9, p8, p7, p6, p5, p12, p11, p4, p3, p2, p16, p15] [p1] kr ?_
     refine RunS.one he 0 rfl (op_q kr rfl (q_len (a := .sl 1 (x1.map cdI.enc)) kr (len_sl (el := 3) kr))) ?_
     let p17 : Nat × AV := (39, .v (.int .i64 (x1.length : Int)))
     refine RunS.segF (n := 91) he 2 [p10, p9, p8, p7, p6, p5, p12, p11, p4, p3, p2, p16, p15, p17, (40, .v (.bool (decide ((x1.length : Int) > 0)))), (41, .v (.bool (decide ((x1.length : Int) > 0))))] [p1] kr ?_
     rcases Bool.eq_false_or_eq_true (decide ((x1.length : Int) > 0)) with hc46 | hc46
     ·rw [if_pos hc46] at hj15
      rw [hc46]
      let p18 : Nat × AV := (42, .sl 1 (v11.map cdI.enc))
      refine RunS.segF (n := 91) he 1 [p10, p9, p8, p7, p6, p5, p12, p11, p4, p3, p2, p16, p15, p17, (40, .v (.bool true)), (41, .v (.bool true)), p18] [p1] kr ?_
      refine RunS.one he 0 rfl (op_q kr rfl (q_len (a := .sl 1 (v11.map cdI.enc)) kr (len_sl (el := 3) kr))) ?_
      refine RunS.segF (n := 91) he 2 [p10, p9, p8, p7, p6, p5, p11, p4, p3, p2, p16, p15, p17, (40, .v (.bool true)), (41, .v (.bool true)), p18, (43, .v (.int .i64 (v11.length : Int))), (44, .sl 1 (x1.map cdI.enc)), (45, .v (.int .i64 c9))] [p1] kr ?_
      obtain ⟨v12, hv12, hj15⟩ := Option.bind_eq_some_iff.1 hj15
      refine RunS.one he 0 rfl (op_q kr rfl (q_indexAddr (a := .sl 1 (x1.map cdI.enc)) (b := .v (.int .i64 c9)) kr kr (ix_sl (e := cdI.enc) (el := 3) (k := 1) (ki := .i64) kr kr hv12))) ?_
      refine RunS.segF (n := 91) he 4 [p10, p9, p8, p7, p6, p5, p11, p4, p3, p2, p15, p17, (40, .v (.bool true)), (41, .v (.bool true)), p18, (43, .v (.int .i64 (v11.length : Int))), (44, .sl 1 (x1.map cdI.enc)), (45, .v (.int .i64 c9)), (46, .pe (.v (.int .i64 v12)) 0), (47, .v (.int .i64 v12)), (48, .v (.bool ((v11.length : Int) != v12))), (49, .v (.bool ((v11.length : Int) != v12))), (50, .v (.bool ((v11.length : Int) != v12)))] [p1] kr ?_
      have hq := Option.some.inj hj15; subst hq
      exact RunS.done rfl (Wk.sel2 [0] kr kr kr ⟨⟨_, rfl, bu_own⟩, trivial⟩ ⟨lu kr kr, lu kr kr, lu kr kr, lu kr kr, lu kr kr, lu kr kr, lu kr kr, lu kr kr, lu kr kr, lu kr kr, lu kr kr, trivial⟩)
     ·rw [if_f hc46] at hj15
      rw [hc46]
      refine RunS.segF (n := 91) he 9 [p10, p9, p8, p7, p6, p5, p11, p4, p3, p2, p15, p17, (40, .v (.bool false)), (41, .v (.bool false)), (42, .tp []), (43, .tp []), (44, .tp []), (45, .tp []), (46, .tp []), (47, .tp []), (48, .tp []), (49, .v (.bool false)), (50, .v (.bool false))] [p1] kr ?_
      have hq := Option.some.inj hj15; subst hq
      exact RunS.done rfl (Wk.sel2 [0] kr kr kr ⟨⟨_, rfl, bu_own⟩, trivial⟩ ⟨lu kr kr, lu kr kr, lu kr kr, lu kr kr, lu kr kr, lu kr kr, lu kr kr, lu kr kr, lu kr kr, lu kr kr, lu kr kr, trivial⟩)
   refine Sem.cond (b := j15.2) kr (fun hb16 => ?_) (fun hb16 => ?_)
   ·rw [if_pos hb16] at h
    refine Sem.seq ?_
    refine Sem.runS (s1 := ⟨Fr 91 [(6, .v (.int .i64 2))], []⟩) ?_ ?_
    ·refine RunS.segF (n := 91) he 1 [(6, .v (.int .i64 2))] [p13] kr ?_
     exact RunS.done rfl (Wk.sel2 [] kr kr kr trivial ⟨lu kr kr, trivial⟩)
    refine Sem.ret ?_
    have hq := Option.some.inj h; subst hq
    exact ⟨rfl, (Wk.fr kr)⟩
   ·rw [if_f hb16] at h
    refine Sem.skip ?_
    refine Sem.seq ?_
    let p19 : Nat × AV := (52, .v (.int .i64 (v11.length : Int)))
    let p20 : Nat × AV := (51, .sl 1 (v11.map cdI.enc))
    refine Sem.runS (s1 := ⟨Fr 91 [p10, p9, p8, p7, p6, p14, p4, p3, p2, p20, p19, (53, .v (.int .i64 0))], [p13]⟩) ?_ ?_
    ·refine RunS.segF (n := 91) he 1 [p10, p9, p8, p7, p6, p14, p4, p3, p2, p20] [p13] kr ?_
     refine RunS.one he 0 rfl (op_q (wantedA_none rfl) rfl (q_len (a := .sl 1 (v11.map cdI.enc)) kr (len_sl (el := 3) kr))) ?_
     exact RunS.last he
    refine Sem.block ?_
    obtain ⟨r44, hr44, h⟩ := Option.bind_eq_some_iff.1 h
    refine Sem.loop (n := 100000) ?_
    refine Sem.cutN (SemN.wk (s1 := ⟨Fr 91 [p10, p9, p8, p7, p6, p14, p4, p3, p2, p20, p19, (53, .v (.int .i64 0))], [p13]⟩) (Wk.sel2 [0] kr kr kr ⟨⟨_, rfl, bu_own⟩, trivial⟩ ⟨lu kr kr, lu kr kr, lu kr kr, lu kr kr, lu kr kr, lu kr kr, lu kr kr, lu kr kr, lu kr kr, lu kr kr, lu kr kr, lu kr kr, trivial⟩) (evening_check_2_ok x0 x1 x2 c9 v11 _ c5 c6 c7 j15.1 0 _ hr44)) ?_
    let p21 : Option Blk := some ⟨1, 4, (r44.2.2.2.map cdB.enc), false⟩
    let p22 : Nat × AV := (29, .v (.int .i64 (wr .i64 (c9 + 1))))
    let p23 : Nat × AV := (10, .rf 0 0 r44.2.2.2.length r44.2.2.2.length)
    refine Sem.rg he [p10, p9, (7, .v (.int .i64 r44.1)), (8, .v (.bool r44.2.1)), (9, .v (.bool r44.2.2.1)), p23, p4, p3, p22] [p21] ?_
    exact SemN.wk (s1 := ⟨Fr 91 [p10, p9, (7, .v (.int .i64 r44.1)), (8, .v (.bool r44.2.1)), (9, .v (.bool r44.2.2.1)), p23, p4, p3, p22], [p21]⟩) (Wk.sel2 [0] kr kr kr ⟨⟨_, rfl, bu_own⟩, trivial⟩ ⟨lu kr kr, lu kr kr, lu kr kr, lu kr kr, lu kr kr, lu kr kr, lu kr kr, lu kr kr, lu kr kr, trivial⟩) (ih r44.1 r44.2.1 r44.2.2.1 r44.2.2.2 (wr .i64 (c9 + 1)) h)
  ·rw [if_f hb10] at h
   refine Sem.exit ?_
   have hq := Option.some.inj h; subst hq
   exact ⟨rfl, (Wk.sel2 [] kr kr kr trivial ⟨lu kr kr, lu kr kr, lu kr kr, lu kr kr, trivial⟩)⟩
set_option maxHeartbeats 4000000 in
set_option maxRecDepth 100000 in
theorem evening_check_sem (x0 : Int) (x1 : (List Int)) (x2 : (List (List Int))) (r : Int) (h : evening_check x0 x1 x2 = some r) : Sem e_evening_check ⟨none, false⟩ cb_evening_check ⟨Fr 91 (pairs0 0 (cs_evening_check.enc (x0, x1, x2, ()))), []⟩ fun e s' => (e = .normal ∨ e = .ret) ∧ ∃ xs, resA e_evening_check.P s'.fr s'.hp Tryd.f83.results.toList = some xs ∧ retA xs = er_evening_check r := by
 have he := e_evening_check_ok
 unfold evening_check at h
 let p1 : Nat × AV := (2, .sl 1 (x2.map (cdL 1 cdI).enc))
 let p2 : Nat × AV := (1, .sl 1 (x1.map cdI.enc))
 let p3 : Nat × AV := (0, .v (.int .i64 x0))
 refine Sem.wkQ (Sem.wk (s1 := ⟨Fr 91 [p3, p2, p1], []⟩) (Wk.fr kr) ?_)
 refine Sem.sq he [p3, p2, p1] [] ?_
 refine Sem.seq ?_
 refine Sem.seq ?_
 obtain ⟨j2, hj2, h⟩ := Option.bind_eq_some_iff.1 h
 refine Sem.runS (s1 := ⟨Fr 91 [p3, p2, p1, (24, .v (.bool j2))], []⟩) ?_ ?_
 ·refine RunS.segF (n := 91) he 1 [p3, p2, p1, (15, .sl 1 (x1.map cdI.enc))] [] kr ?_
  refine RunS.one he 0 rfl (op_q (wantedA_none rfl) rfl (q_len (a := .sl 1 (x1.map cdI.enc)) kr (len_sl (el := 3) kr))) ?_
  refine RunS.segF (n := 91) he 2 [p3, p2, p1, (18, .v (.bool (decide ((x1.length : Int) > 0))))] [] kr ?_
  rcases Bool.eq_false_or_eq_true (decide ((x1.length : Int) > 0)) with hc56 | hc56
  ·rw [if_pos hc56] at hj2
   rw [hc56]
   refine RunS.segF (n := 91) he 1 [p3, p2, p1, (18, .v (.bool true)), (19, .sl 1 (x1.map cdI.enc))] [] kr ?_
   refine RunS.one he 0 rfl (op_q kr rfl (q_len (a := .sl 1 (x1.map cdI.enc)) kr (len_sl (el := 3) kr))) ?_
   refine RunS.segF (n := 91) he 1 [p3, p2, p1, (18, .v (.bool true)), (20, .v (.int .i64 (x1.length : Int))), (21, .sl 1 (x2.map (cdL 1 cdI).enc))] [] kr ?_
   refine RunS.one he 0 rfl (op_q kr rfl (q_len (a := .sl 1 (x2.map (cdL 1 cdI).enc)) kr (len_sl (el := 31) kr))) ?_
   refine RunS.segF (n := 91) he 2 [p3, p2, p1, (24, .v (.bool ((x1.length : Int) != (x2.length : Int))))] [] kr ?_
   have hq := Option.some.inj hj2; subst hq
   exact RunS.done rfl (Wk.fr kr)
  ·rw [if_f hc56] at hj2
   rw [hc56]
   refine RunS.segF (n := 91) he 6 [p3, p2, p1, (24, .v (.bool false))] [] kr ?_
   have hq := Option.some.inj hj2; subst hq
   exact RunS.done rfl (Wk.fr kr)
 refine Sem.cond (b := j2) kr (fun hb3 => ?_) (fun hb3 => ?_)
 ·rw [if_pos hb3] at h
  refine Sem.sq he [(6, .v (.int .i64 2))] [] ?_
  refine Sem.ret ?_
  have hq := Option.some.inj h; subst hq
  exact ⟨⟨Fr 91 [(6, .v (.int .i64 2))], []⟩, (Wk.fr kr), .inr rfl, [.v (.int .i64 2)], kr, kr⟩
 ·rw [if_f hb3] at h
  refine Sem.skip ?_
  let p4 : Nat × AV := (9, .v (.bool false))
  let p5 : Nat × AV := (8, .v (.bool false))
  let p6 : Nat × AV := (7, .v (.int .i64 0))
  refine Sem.sq he [p3, p2, p1, p6, p5, p4] [] ?_
  refine Sem.seq ?_
  by_cases hk4 : (mkOk 1 x0) = true
  case neg => rw [if_neg hk4] at h; cases h
  rw [if_pos hk4] at h
  let p7 : Option Blk := some ⟨1, 4, ((List.replicate x0.toNat false).map cdB.enc), false⟩
  let p8 : Nat × AV := (10, .rf 0 0 (List.replicate x0.toNat false).length (List.replicate x0.toNat false).length)
  refine Sem.runS (s1 := ⟨Fr 91 [p3, p2, p1, p6, p5, p4, p8], [p7]⟩) ?_ ?_
  ·refine RunS.segF (n := 91) he 1 [p3, p2, p1, p6, p5, p4, (25, .v (.int .i64 x0))] [] kr ?_
   refine RunS.one he 0 rfl (op_n (wantedA_none rfl) rfl kr (n_make (x := .v (.int .i64 x0)) (y := .v (.int .i64 x0)) kr kr (make_B (c := cdB) (z := false) (k := 1) (bytes := 1) (el := 4) kr kr hk4))) ?_
   exact RunS.last he
  refine Sem.seq ?_
  refine Sem.seq ?_
  let p9 : Nat × AV := (29, .v (.int .i64 0))
  let p10 : Nat × AV := (28, .v (.int .i64 (x2.length : Int)))
  let p11 : Nat × AV := (27, .sl 1 (x2.map (cdL 1 cdI).enc))
  refine Sem.runS (s1 := ⟨Fr 91 [p3, p2, p6, p5, p4, p8, p11, p10, p9], [p7]⟩) ?_ ?_
  ·refine RunS.segF (n := 91) he 1 [p3, p2, p6, p5, p4, p8, p11] [p7] kr ?_
   refine RunS.one he 0 rfl (op_q (wantedA_none rfl) rfl (q_len (a := .sl 1 (x2.map (cdL 1 cdI).enc)) kr (len_sl (el := 31) kr))) ?_
   exact RunS.last he
  refine Sem.block ?_
  obtain ⟨r50, hr50, h⟩ := Option.bind_eq_some_iff.1 h
  refine Sem.loop (n := 100000) ?_
  rcases r50 with w51 | w55
  ·try dsimp only at h
   refine Sem.cutN (SemN.wk (s1 := ⟨Fr 91 [p3, p2, p6, p5, p4, p8, p11, p10, p9], [p7]⟩) (Wk.sel2 [0] kr kr kr ⟨⟨_, rfl, bu_own⟩, trivial⟩ ⟨lu kr kr, lu kr kr, lu kr kr, lu kr kr, lu kr kr, lu kr kr, lu kr kr, lu kr kr, lu kr kr, trivial⟩) (evening_check_1_ok x0 x1 x2 _ 0 false false (List.replicate x0.toNat false) 0 _ hr50)) ?_
   refine Sem.seq ?_
   refine Sem.block ?_
   refine Sem.sq he [p3, (7, .v (.int .i64 w51.1)), (8, .v (.bool w51.2.1)), (83, .v (.bool w51.2.2))] [] ?_
   refine Sem.cond (b := w51.2.2) kr (fun hb52 => ?_) (fun hb52 => ?_)
   ·rw [if_pos hb52] at h
    refine Sem.sq he [(6, .v (.int .i64 6))] [] ?_
    refine Sem.ret ?_
    have hq := Option.some.inj h; subst hq
    exact ⟨⟨Fr 91 [(6, .v (.int .i64 6))], []⟩, (Wk.fr kr), .inr rfl, [.v (.int .i64 6)], kr, kr⟩
   ·rw [if_f hb52] at h
    refine Sem.sq he [p3, (7, .v (.int .i64 w51.1)), (85, .v (.bool w51.2.1))] [] ?_
    refine Sem.cond (b := w51.2.1) kr (fun hb53 => ?_) (fun hb53 => ?_)
    ·rw [if_pos hb53] at h
     refine Sem.sq he [(6, .v (.int .i64 5))] [] ?_
     refine Sem.ret ?_
     have hq := Option.some.inj h; subst hq
     exact ⟨⟨Fr 91 [(6, .v (.int .i64 5))], []⟩, (Wk.fr kr), .inr rfl, [.v (.int .i64 5)], kr, kr⟩
    ·rw [if_f hb53] at h
     refine Sem.sq he [(87, .v (.bool (decide (w51.1 < x0))))] [] ?_
     refine Sem.cond (b := (decide (w51.1 < x0))) kr (fun hb54 => ?_) (fun hb54 => ?_)
     ·rw [if_pos hb54] at h
      refine Sem.sq he [(6, .v (.int .i64 2))] [] ?_
      refine Sem.ret ?_
      have hq := Option.some.inj h; subst hq
      exact ⟨⟨Fr 91 [(6, .v (.int .i64 2))], []⟩, (Wk.fr kr), .inr rfl, [.v (.int .i64 2)], kr, kr⟩
     ·rw [if_f hb54] at h
      refine Sem.skip ?_
      refine Sem.sq he [(6, .v (.int .i64 0))] [] ?_
      refine Sem.ret ?_
      have hq := Option.some.inj h; subst hq
      exact ⟨⟨Fr 91 [(6, .v (.int .i64 0))], []⟩, (Wk.fr kr), .inr rfl, [.v (.int .i64 0)], kr, kr⟩
  ·try dsimp only at h
   refine Sem.cutN (SemN.wk (s1 := ⟨Fr 91 [p3, p2, p6, p5, p4, p8, p11, p10, p9], [p7]⟩) (Wk.sel2 [0] kr kr kr ⟨⟨_, rfl, bu_own⟩, trivial⟩ ⟨lu kr kr, lu kr kr, lu kr kr, lu kr kr, lu kr kr, lu kr kr, lu kr kr, lu kr kr, lu kr kr, trivial⟩) (evening_check_1_ok x0 x1 x2 _ 0 false false (List.replicate x0.toNat false) 0 _ hr50)) ?_
   have hq := Option.some.inj h; subst hq
   exact ⟨⟨Fr 91 [(6, .v (.int .i64 w55))], []⟩, (Wk.fr kr), .inr rfl, [.v (.int .i64 w55)], kr, kr⟩
def t_evening_check : List AV → Option AV := told cs_evening_check (fun a => evening_check a.1 a.2.1 a.2.2.1) er_evening_check
theorem x_evening_check : XOk 83 t_evening_check := by
 refine EnvOk.x (E := e_evening_check) (contract_ok e_evening_check_ok (fn := Tryd.f83) (c := cb_evening_check) ?h1 ?h2 ⟨Tryd.call83⟩ cs_evening_check (fun a => evening_check a.1 a.2.1 a.2.2.1) er_evening_check (fun a => (by show 3 ≤ 91; decide)) ?h3 ?h4) rfl rfl
 case h1 => kernel_rfl
 case h2 => kernel_rfl
 case h3 => intro b; kernel_rfl
 case h4 => exact fun a b h => evening_check_sem a.1 a.2.1 a.2.2.1 b h
/- trestle/evening.Check -/
noncomputable def e_evening_Check : Env := (((E0.withX 82 t_evening_guests).withX 67 t_evening_fit).withX 83 t_evening_check)
theorem e_evening_Check_ok : EnvOk e_evening_Check := (EnvOk.withX (EnvOk.withX (EnvOk.withX E0_ok x_evening_guests.1 x_evening_guests.2) x_evening_fit.1 x_evening_fit.2) x_evening_check.1 x_evening_check.2)
noncomputable def cb_evening_Check : Code := codeOf Tryd.f27
def evening_Check_1 (x0 : Int) (x1 : (List Int)) (x2 : (List (List (List Int)))) : Nat → Int → Option ((Unit) ⊕ (Int × Int))
 | 0, _ => none
 | f + 1, c7 =>
  if (decide (c7 < (x2.length : Int))) = true then
  (idx x2 c7).bind fun v9 =>
  (evening_check x0 x1 v9).bind fun v10 =>
  if (v10 != 0) = true then
  some (.inr (c7, v10))
  else
  evening_Check_1 x0 x1 x2 f (wr .i64 (c7 + 1))
  else
  some (.inl ())
def evening_Check (x0 : Int) (x1 : (List Int)) (x2 : (List (List (List Int)))) : Option (Int × Int) :=
 (evening_guests x0).bind fun v1 =>
 (if (!v1) = true then some true else if (decide ((x1.length : Int) > 0)) = true then (evening_fit x0 x1).bind fun v2 =>
 some (!v2) else some false).bind fun j4 =>
 if j4 = true then
 some (0, 90)
 else
 if (decide ((x2.length : Int) > 64)) = true then
 some (0, 7)
 else
 (evening_Check_1 x0 x1 x2 100000 0).bind fun r14 =>
 match r14 with
 | (.inl w15) =>
  some (0, 0)
 | (.inr w16) =>
  some (w16.1, w16.2)
def cs_evening_Check : Cs (Int × (List Int) × (List (List (List Int))) × Unit) := (csC cdI (csC (cdL 1 cdI) (csC (cdL 1 (cdL 1 (cdL 1 cdI))) csN)))
def er_evening_Check (r : Int × Int) : AV := .tp [cdI.enc r.1, cdI.enc r.2]
set_option maxHeartbeats 4000000 in
set_option maxRecDepth 100000 in
theorem evening_Check_1_ok (x0 : Int) (x1 : (List Int)) (x2 : (List (List (List Int)))) : ∀ (f : Nat) (c7 : Int) (r : (Unit) ⊕ (Int × Int)), evening_Check_1 x0 x1 x2 f c7 = some r → SemN e_evening_Check ⟨none, false⟩ (pc cb_evening_Check [1, 1, 0, 1, 0, 0]) f ⟨Fr 46 [(0, .v (.int .i64 x0)), (1, .sl 1 (x1.map cdI.enc)), (30, .sl 1 (x2.map (cdL 1 (cdL 1 cdI)).enc)), (31, .v (.int .i64 (x2.length : Int))), (32, .v (.int .i64 c7))], []⟩ (fun e s => match r with
 | (.inl w) => e = (.exit 1) ∧ Wk e_evening_Check s ⟨Fr 46 [], []⟩
 | (.inr w) => e = .ret ∧ Wk e_evening_Check s ⟨Fr 46 [(6, .v (.int .i64 w.1)), (7, .v (.int .i64 w.2))], []⟩) := by
 have he := e_evening_Check_ok
 intro f
 induction f with
 | zero => intro c7 r h; cases h
 | succ f ih0 =>
  intro c7 r h
  have ih := fun (c7 : Int) => ih0 c7 r
  unfold evening_Check_1 at h
  refine SemN.succ ?_
  let p1 : Nat × AV := (32, .v (.int .i64 c7))
  let p2 : Nat × AV := (31, .v (.int .i64 (x2.length : Int)))
  let p3 : Nat × AV := (30, .sl 1 (x2.map (cdL 1 (cdL 1 cdI)).enc))
  let p4 : Nat × AV := (1, .sl 1 (x1.map cdI.enc))
  let p5 : Nat × AV := (0, .v (.int .i64 x0))
  refine Sem.sq he [p5, p4, p3, p2, p1, (33, .v (.bool (decide (c7 < (x2.length : Int)))))] [] ?_
  refine Sem.seq ?_
  refine Sem.cond (b := (decide (c7 < (x2.length : Int)))) kr (fun hb8 => ?_) (fun hb8 => ?_)
  ·rw [if_pos hb8] at h
   refine Sem.skip ?_
   refine Sem.seq ?_
   refine Sem.block ?_
   refine Sem.seq ?_
   obtain ⟨v9, hv9, h⟩ := Option.bind_eq_some_iff.1 h
   let p6 : Nat × AV := (8, .v (.int .i64 c7))
   refine Sem.runS (s1 := ⟨Fr 46 [p5, p4, p6, (9, .sl 1 (v9.map (cdL 1 cdI).enc)), p3, p2, p1], []⟩) ?_ ?_
   ·refine RunS.segF (n := 46) he 1 [p5, p4, p3, p2, p1, (34, .v (.int .i64 c7))] [] kr ?_
    refine RunS.one he 0 rfl (op_q (wantedA_none rfl) rfl (q_indexAddr (a := .sl 1 (x2.map (cdL 1 (cdL 1 cdI)).enc)) (b := .v (.int .i64 c7)) kr kr (ix_sl (e := (cdL 1 (cdL 1 cdI)).enc) (el := 50) (k := 1) (ki := .i64) kr kr hv9))) ?_
    exact RunS.last he
   refine Sem.seq ?_
   obtain ⟨v10, hv10, h⟩ := Option.bind_eq_some_iff.1 h
   refine Sem.runS (s1 := ⟨Fr 46 [p5, p4, p6, (10, .v (.int .i64 v10)), p3, p2, p1], []⟩) ?_ ?_
   ·refine RunS.segF (n := 46) he 3 [p5, p4, p6, p3, p2, p1, (37, .v (.int .i64 x0)), (38, .sl 1 (x1.map cdI.enc)), (39, .sl 1 (v9.map (cdL 1 cdI).enc))] [] kr ?_
    refine RunS.call he (fid := 83) (s := cs_evening_check) (F := fun a => evening_check a.1 a.2.1 a.2.2.1) (er := er_evening_check) (xs := [.v (.int .i64 x0), .sl 1 (x1.map cdI.enc), .sl 1 (v9.map (cdL 1 cdI).enc)]) (a := (x0, x1, v9, ())) rfl (wantedA_none rfl) kr kr kr kr (Sns.cons (Sn.enc (c := cdI) (v := x0)) (Sns.cons (Sn.enc (c := (cdL 1 cdI)) (v := x1)) (Sns.cons (Sn.enc (c := (cdL 1 (cdL 1 cdI))) (v := v9)) Sns.nil))) (.inl kr) hv10 ?_
    exact RunS.last he
   refine Sem.sq he [p5, p4, p6, (10, .v (.int .i64 v10)), p3, p2, p1, (42, .v (.bool (v10 != 0)))] [] ?_
   refine Sem.cond (b := (v10 != 0)) kr (fun hb11 => ?_) (fun hb11 => ?_)
   ·rw [if_pos hb11] at h
    refine Sem.sq he [(6, .v (.int .i64 c7)), (7, .v (.int .i64 v10))] [] ?_
    refine Sem.ret ?_
    have hq := Option.some.inj h; subst hq
    exact ⟨rfl, (Wk.fr kr)⟩
   ·rw [if_f hb11] at h
    refine Sem.skip ?_
    let p7 : Nat × AV := (32, .v (.int .i64 (wr .i64 (c7 + 1))))
    refine Sem.rg he [p5, p4, p3, p2, p7] [] ?_
    exact SemN.wk (s1 := ⟨Fr 46 [p5, p4, p3, p2, p7], []⟩) (Wk.fr kr) (ih (wr .i64 (c7 + 1)) h)
  ·rw [if_f hb8] at h
   refine Sem.exit ?_
   have hq := Option.some.inj h; subst hq
   exact ⟨rfl, (Wk.fr kr)⟩
set_option maxHeartbeats 4000000 in
set_option maxRecDepth 100000 in
theorem evening_Check_sem (x0 : Int) (x1 : (List Int)) (x2 : (List (List (List Int)))) (r : Int × Int) (h : evening_Check x0 x1 x2 = some r) : Sem e_evening_Check ⟨none, false⟩ cb_evening_Check ⟨Fr 46 (pairs0 0 (cs_evening_Check.enc (x0, x1, x2, ()))), []⟩ fun e s' => (e = .normal ∨ e = .ret) ∧ ∃ xs, resA e_evening_Check.P s'.fr s'.hp Tryd.f27.results.toList = some xs ∧ retA xs = er_evening_Check r := by
 have he := e_evening_Check_ok
 unfold evening_Check at h
 let p1 : Nat × AV := (2, .sl 1 (x2.map (cdL 1 (cdL 1 cdI)).enc))
 let p2 : Nat × AV := (1, .sl 1 (x1.map cdI.enc))
 let p3 : Nat × AV := (0, .v (.int .i64 x0))
 refine Sem.wkQ (Sem.wk (s1 := ⟨Fr 46 [p3, p2, p1], []⟩) (Wk.fr kr) ?_)
 refine Sem.sq he [p3, p2, p1] [] ?_
 refine Sem.seq ?_
 refine Sem.block ?_
 refine Sem.seq ?_
 obtain ⟨v1, hv1, h⟩ := Option.bind_eq_some_iff.1 h
 obtain ⟨j4, hj4, h⟩ := Option.bind_eq_some_iff.1 h
 refine Sem.runS (s1 := ⟨Fr 46 [p3, p2, p1, (11, .v (.bool j4))], []⟩) ?_ ?_
 ·refine RunS.segF (n := 46) he 1 [p3, p2, p1, (12, .v (.int .i64 x0))] [] kr ?_
  refine RunS.call he (fid := 82) (s := cs_evening_guests) (F := fun a => evening_guests a.1) (er := er_evening_guests) (xs := [.v (.int .i64 x0)]) (a := (x0, ())) rfl (wantedA_none rfl) kr kr kr kr (Sns.cons (Sn.enc (c := cdI) (v := x0)) Sns.nil) (.inl kr) hv1 ?_
  refine RunS.segF (n := 46) he 2 [p3, p2, p1, (15, .v (.bool (!v1)))] [] kr ?_
  rcases Bool.eq_false_or_eq_true (!v1) with hc17 | hc17
  ·rw [if_pos hc17] at hj4
   rw [hc17]
   refine RunS.segF (n := 46) he 11 [p3, p2, p1, (11, .v (.bool true))] [] kr ?_
   have hq := Option.some.inj hj4; subst hq
   exact RunS.done rfl (Wk.fr kr)
  ·rw [if_f hc17] at hj4
   rw [hc17]
   let p4 : Nat × AV := (15, .v (.bool false))
   refine RunS.segF (n := 46) he 1 [p3, p2, p1, p4, (16, .sl 1 (x1.map cdI.enc))] [] kr ?_
   refine RunS.one he 0 rfl (op_q kr rfl (q_len (a := .sl 1 (x1.map cdI.enc)) kr (len_sl (el := 3) kr))) ?_
   refine RunS.segF (n := 46) he 2 [p3, p2, p1, p4, (19, .v (.bool (decide ((x1.length : Int) > 0))))] [] kr ?_
   rcases Bool.eq_false_or_eq_true (decide ((x1.length : Int) > 0)) with hc18 | hc18
   ·rw [if_pos hc18] at hj4
    rw [hc18]
    refine RunS.segF (n := 46) he 2 [p3, p2, p1, p4, (19, .v (.bool true)), (20, .v (.int .i64 x0)), (21, .sl 1 (x1.map cdI.enc))] [] kr ?_
    obtain ⟨v2, hv2, hj4⟩ := Option.bind_eq_some_iff.1 hj4
    refine RunS.call he (fid := 67) (s := cs_evening_fit) (F := fun a => evening_fit a.1 a.2.1) (er := er_evening_fit) (xs := [.v (.int .i64 x0), .sl 1 (x1.map cdI.enc)]) (a := (x0, x1, ())) rfl kr kr kr kr kr (Sns.cons (Sn.enc (c := cdI) (v := x0)) (Sns.cons (Sn.enc (c := (cdL 1 cdI)) (v := x1)) Sns.nil)) (.inl kr) hv2 ?_
    refine RunS.segF (n := 46) he 4 [p3, p2, p1, (11, .v (.bool (!v2)))] [] kr ?_
    have hq := Option.some.inj hj4; subst hq
    exact RunS.done rfl (Wk.fr kr)
   ·rw [if_f hc18] at hj4
    rw [hc18]
    refine RunS.segF (n := 46) he 7 [p3, p2, p1, (11, .v (.bool false))] [] kr ?_
    have hq := Option.some.inj hj4; subst hq
    exact RunS.done rfl (Wk.fr kr)
 refine Sem.cond (b := j4) kr (fun hb5 => ?_) (fun hb5 => ?_)
 ·rw [if_pos hb5] at h
  refine Sem.sq he [(6, .v (.int .i64 0)), (7, .v (.int .i64 90))] [] ?_
  refine Sem.ret ?_
  have hq := Option.some.inj h; subst hq
  exact ⟨⟨Fr 46 [(6, .v (.int .i64 0)), (7, .v (.int .i64 90))], []⟩, (Wk.fr kr), .inr rfl, [.v (.int .i64 0), .v (.int .i64 90)], kr, kr⟩
 ·rw [if_f hb5] at h
  refine Sem.seq ?_
  refine Sem.runS (s1 := ⟨Fr 46 [p3, p2, p1, (26, .v (.bool (decide ((x2.length : Int) > 64))))], []⟩) ?_ ?_
  ·refine RunS.segF (n := 46) he 1 [p3, p2, p1, (27, .sl 1 (x2.map (cdL 1 (cdL 1 cdI)).enc))] [] kr ?_
   refine RunS.one he 0 rfl (op_q (wantedA_none rfl) rfl (q_len (a := .sl 1 (x2.map (cdL 1 (cdL 1 cdI)).enc)) kr (len_sl (el := 50) kr))) ?_
   exact RunS.last he
  refine Sem.cond (b := (decide ((x2.length : Int) > 64))) kr (fun hb6 => ?_) (fun hb6 => ?_)
  ·rw [if_pos hb6] at h
   refine Sem.sq he [(6, .v (.int .i64 0)), (7, .v (.int .i64 7))] [] ?_
   refine Sem.ret ?_
   have hq := Option.some.inj h; subst hq
   exact ⟨⟨Fr 46 [(6, .v (.int .i64 0)), (7, .v (.int .i64 7))], []⟩, (Wk.fr kr), .inr rfl, [.v (.int .i64 0), .v (.int .i64 7)], kr, kr⟩
  ·rw [if_f hb6] at h
   refine Sem.skip ?_
   refine Sem.seq ?_
   refine Sem.seq ?_
   let p5 : Nat × AV := (32, .v (.int .i64 0))
   let p6 : Nat × AV := (31, .v (.int .i64 (x2.length : Int)))
   let p7 : Nat × AV := (30, .sl 1 (x2.map (cdL 1 (cdL 1 cdI)).enc))
   refine Sem.runS (s1 := ⟨Fr 46 [p3, p2, p7, p6, p5], []⟩) ?_ ?_
   ·refine RunS.segF (n := 46) he 1 [p3, p2, p7] [] kr ?_
    refine RunS.one he 0 rfl (op_q (wantedA_none rfl) rfl (q_len (a := .sl 1 (x2.map (cdL 1 (cdL 1 cdI)).enc)) kr (len_sl (el := 50) kr))) ?_
    exact RunS.last he
   refine Sem.block ?_
   obtain ⟨r14, hr14, h⟩ := Option.bind_eq_some_iff.1 h
   refine Sem.loop (n := 100000) ?_
   rcases r14 with w15 | w16
   ·try dsimp only at h
    refine Sem.cutN (SemN.wk (s1 := ⟨Fr 46 [p3, p2, p7, p6, p5], []⟩) (Wk.fr kr) (evening_Check_1_ok x0 x1 x2 _ 0 _ hr14)) ?_
    refine Sem.sq he [(6, .v (.int .i64 0)), (7, .v (.int .i64 0))] [] ?_
    refine Sem.ret ?_
    have hq := Option.some.inj h; subst hq
    exact ⟨⟨Fr 46 [(6, .v (.int .i64 0)), (7, .v (.int .i64 0))], []⟩, (Wk.fr kr), .inr rfl, [.v (.int .i64 0), .v (.int .i64 0)], kr, kr⟩
   ·try dsimp only at h
    refine Sem.cutN (SemN.wk (s1 := ⟨Fr 46 [p3, p2, p7, p6, p5], []⟩) (Wk.fr kr) (evening_Check_1_ok x0 x1 x2 _ 0 _ hr14)) ?_
    have hq := Option.some.inj h; subst hq
    exact ⟨⟨Fr 46 [(6, .v (.int .i64 w16.1)), (7, .v (.int .i64 w16.2))], []⟩, (Wk.fr kr), .inr rfl, [.v (.int .i64 w16.1), .v (.int .i64 w16.2)], kr, kr⟩
def t_evening_Check : List AV → Option AV := told cs_evening_Check (fun a => evening_Check a.1 a.2.1 a.2.2.1) er_evening_Check
theorem x_evening_Check : XOk 27 t_evening_Check := by
 refine EnvOk.x (E := e_evening_Check) (contract_ok e_evening_Check_ok (fn := Tryd.f27) (c := cb_evening_Check) ?h1 ?h2 ⟨Tryd.call27⟩ cs_evening_Check (fun a => evening_Check a.1 a.2.1 a.2.2.1) er_evening_Check (fun a => (by show 3 ≤ 46; decide)) ?h3 ?h4) rfl rfl
 case h1 => kernel_rfl
 case h2 => kernel_rfl
 case h3 => intro b; kernel_rfl
 case h4 => exact fun a b h => evening_Check_sem a.1 a.2.1 a.2.2.1 b h
/- trestle/evening.meetings -/
noncomputable def e_evening_meetings : Env := E0
theorem e_evening_meetings_ok : EnvOk e_evening_meetings := E0_ok
noncomputable def cb_evening_meetings : Code := codeOf Tryd.f80
noncomputable def e_evening_meetings_k1 : Env := E0
theorem e_evening_meetings_k1_ok : EnvOk e_evening_meetings_k1 := E0_ok
noncomputable def cb_evening_meetings_k1 : Code := codeOf Tryd.f68
def evening_meetings_k1 (y0 : Int) (y1 : Int) : Option (Int × Int × (List Int)) :=
 if (mkOk 8 (wr .i64 (y1 * y1))) = true then
 some (y1, y1, (List.replicate (wr .i64 (y1 * y1)).toNat (0 : Int)))
 else none
set_option maxHeartbeats 4000000 in
set_option maxRecDepth 100000 in
theorem evening_meetings_k1_sem (y0 : Int) (y1 : Int) (r : Int × Int × (List Int)) (h : evening_meetings_k1 y0 y1 = some r) : SemY e_evening_meetings_k1 ⟨none, false⟩ cb_evening_meetings_k1 ⟨Fr 9 (pairs0 0 [.v (.int .i64 y1)]), [some ⟨2, 94, [.ag [.v (.int .i64 y0), .e0]], false⟩]⟩ fun x s' => (x = .normal ∨ x = .ret) ∧ ∃ ys, resA e_evening_meetings_k1.P s'.fr s'.hp Tryd.f68.results.toList = some ys ∧ (retA ys = .ag [.v (.int .i64 r.1), .rf 2 0 r.2.2.length r.2.2.length] ∧ s'.hp = [some ⟨2, 94, [.ag [.v (.int .i64 y0), .e0]], false⟩, some ⟨2, 94, [.ag [.v (.int .i64 r.2.1), .rf 2 0 r.2.2.length r.2.2.length]], false⟩, some ⟨1, 3, (r.2.2.map cdI.enc), false⟩]) := by
 have he := e_evening_meetings_k1_ok
 unfold evening_meetings_k1 at h
 refine SemY.seq ?_
 refine SemY.region ?_
 let p1 : Option Blk := some ⟨2, 94, [.ag [.v (.int .i64 0), .e0]], false⟩
 let p2 : Option Blk := some ⟨2, 94, [.ag [.v (.int .i64 y0), .e0]], false⟩
 refine RunY.fin he [(0, .v (.int .i64 y1)), (2, .pt 1 0 0)] [p2, p1] ?_
 refine SemY.seq ?_
 refine SemY.region ?_
 refine RunY.sg he 4 [p2, p1] ?_
 by_cases hk1 : (mkOk 8 (wr .i64 (y1 * y1))) = true
 case neg => rw [if_neg hk1] at h; cases h
 rw [if_pos hk1] at h
 refine RunY.one he 0 rfl (op_n (wantedA_none rfl) rfl kr (n_make (x := .v (.int .i64 (wr .i64 (y1 * y1)))) (y := .v (.int .i64 (wr .i64 (y1 * y1)))) kr kr (make_B (c := cdI) (z := (0 : Int)) (k := 1) (bytes := 8) (el := 3) kr kr hk1))) ?_
 refine RunY.fin he [(2, .pt 1 0 0)] [p2, some ⟨2, 94, [.ag [.v (.int .i64 y1), .rf 2 0 (List.replicate (wr .i64 (y1 * y1)).toNat (0 : Int)).length (List.replicate (wr .i64 (y1 * y1)).toNat (0 : Int)).length]], false⟩, some ⟨1, 3, ((List.replicate (wr .i64 (y1 * y1)).toNat (0 : Int)).map cdI.enc), false⟩] ?_
 refine SemY.ret ?_
 have hq := Option.some.inj h; subst hq
 exact ⟨.inr rfl, [.ag [.v (.int .i64 y1), .rf 2 0 (List.replicate (wr .i64 (y1 * y1)).toNat (0 : Int)).length (List.replicate (wr .i64 (y1 * y1)).toNat (0 : Int)).length]], kr, kr, kr⟩
noncomputable def e_evening_meetings_k2 : Env := E0
theorem e_evening_meetings_k2_ok : EnvOk e_evening_meetings_k2 := E0_ok
noncomputable def cb_evening_meetings_k2 : Code := codeOf Tryd.f72
def evening_meetings_k2 (y0 : Int) (y1 : Int) (y2 : (List Int)) (y3 : (List (List Int))) : Option ((List (List Int))) :=
 some y3
set_option maxHeartbeats 4000000 in
set_option maxRecDepth 100000 in
theorem evening_meetings_k2_sem (y0 : Int) (y1 : Int) (y2 : (List Int)) (y3 : (List (List Int))) (r : (List (List Int))) (h : evening_meetings_k2 y0 y1 y2 y3 = some r) : SemY e_evening_meetings_k2 ⟨none, false⟩ cb_evening_meetings_k2 ⟨Fr 4 (pairs0 0 [.sl 1 (y3.map (cdL 1 cdI).enc)]), [some ⟨2, 94, [.ag [.v (.int .i64 y0), .e0]], false⟩, some ⟨2, 94, [.ag [.v (.int .i64 y1), .rf 2 0 y2.length y2.length]], false⟩, some ⟨1, 3, (y2.map cdI.enc), false⟩]⟩ fun x s' => (x = .normal ∨ x = .ret) ∧ ∃ ys, resA e_evening_meetings_k2.P s'.fr s'.hp Tryd.f72.results.toList = some ys ∧ (retA ys = .fn 108 [] [.pt 3 0 0] ∧ s'.hp = [some ⟨2, 94, [.ag [.v (.int .i64 y0), .e0]], false⟩, some ⟨2, 94, [.ag [.v (.int .i64 y1), .rf 2 0 y2.length y2.length]], false⟩, some ⟨1, 3, (y2.map cdI.enc), false⟩, some ⟨1, 50, [.sl 1 (r.map (cdL 1 cdI).enc)], false⟩]) := by
 have he := e_evening_meetings_k2_ok
 unfold evening_meetings_k2 at h
 refine SemY.seq ?_
 refine SemY.region ?_
 let p1 : Option Blk := some ⟨1, 50, [.sl 1 (y3.map (cdL 1 cdI).enc)], false⟩
 let p2 : Option Blk := some ⟨1, 3, (y2.map cdI.enc), false⟩
 let p3 : Option Blk := some ⟨2, 94, [.ag [.v (.int .i64 y1), .rf 2 0 y2.length y2.length]], false⟩
 let p4 : Option Blk := some ⟨2, 94, [.ag [.v (.int .i64 y0), .e0]], false⟩
 refine RunY.fin he [(1, .pt 3 0 0)] [p4, p3, p2, p1] ?_
 refine SemY.seq ?_
 refine SemY.region ?_
 refine RunY.fin he [(2, .fn 108 [] [.pt 3 0 0])] [p4, p3, p2, p1] ?_
 refine SemY.ret ?_
 have hq := Option.some.inj h; subst hq
 exact ⟨.inr rfl, [.fn 108 [] [.pt 3 0 0]], kr, kr, kr⟩
noncomputable def e_evening_meetings_k3 : Env := E0
theorem e_evening_meetings_k3_ok : EnvOk e_evening_meetings_k3 := E0_ok
noncomputable def cb_evening_meetings_k3 : Code := codeOf Tryd.f108
noncomputable def cx_evening_meetings_k3 (y4 : (List (List (List Int)))) (y5 : Int) (y6 : Int) : Cx := ⟨some ⟨4, Fr 32 [(4, .pt 0 0 0), (5, .pt 1 0 0), (12, .sl 1 (y4.map (cdL 1 (cdL 1 cdI)).enc)), (13, .v (.int .i64 y5)), (14, .v (.int .i64 y6)), (19, .fn 108 [] [.pt 3 0 0])], [20, 21], asgOf (pc cb_evening_meetings [1, 1, 0, 1, 0, 0, 1, 1, 0, 0, 1, 1, 0]), bdyOf (pc cb_evening_meetings [1, 1, 0, 1, 0, 0, 1, 1, 0, 0, 1, 1, 0])⟩, false⟩
noncomputable def e_evening_meetings_k3_y_k1 : Env := E0
theorem e_evening_meetings_k3_y_k1_ok : EnvOk e_evening_meetings_k3_y_k1 := E0_ok
noncomputable def cb_evening_meetings_k3_y_k1 : Code := codeOf Tryd.f73
def evening_meetings_k3_y_k1 (y0 : Int) (y1 : Int) (y2 : (List Int)) (y3 : (List (List Int))) (y4 : Int) (y5 : Int) (y6 : Int) : Option (Int) :=
 (idx y2 (wr .i64 ((wr .i64 (y5 * y4)) + y6))).bind fun v1 =>
 some y4
set_option maxHeartbeats 4000000 in
set_option maxRecDepth 100000 in
theorem evening_meetings_k3_y_k1_sem (y0 : Int) (y1 : Int) (y2 : (List Int)) (y3 : (List (List Int))) (y4 : Int) (y5 : Int) (y6 : Int) (r : Int) (h : evening_meetings_k3_y_k1 y0 y1 y2 y3 y4 y5 y6 = some r) : SemY e_evening_meetings_k3_y_k1 ⟨none, false⟩ cb_evening_meetings_k3_y_k1 ⟨Fr 16 (pairs0 0 [.ag [.v (.int .i64 y4), .rf 2 0 y2.length y2.length], .v (.int .i64 y5), .v (.int .i64 y6)]), [some ⟨2, 94, [.ag [.v (.int .i64 y0), .e0]], false⟩, some ⟨2, 94, [.ag [.v (.int .i64 y1), .rf 2 0 y2.length y2.length]], false⟩, some ⟨1, 3, (y2.map cdI.enc), false⟩, some ⟨1, 50, [.sl 1 (y3.map (cdL 1 cdI).enc)], false⟩, none]⟩ fun x s' => (x = .normal ∨ x = .ret) ∧ ∃ ys, resA e_evening_meetings_k3_y_k1.P s'.fr s'.hp Tryd.f73.results.toList = some ys ∧ (retA ys = .pt 2 ((wr .i64 ((wr .i64 (y5 * y4)) + y6)).toNat) 0 ∧ s'.hp = [some ⟨2, 94, [.ag [.v (.int .i64 y0), .e0]], false⟩, some ⟨2, 94, [.ag [.v (.int .i64 y1), .rf 2 0 y2.length y2.length]], false⟩, some ⟨1, 3, (y2.map cdI.enc), false⟩, some ⟨1, 50, [.sl 1 (y3.map (cdL 1 cdI).enc)], false⟩, none, some ⟨2, 94, [.ag [.v (.int .i64 r), .rf 2 0 y2.length y2.length]], false⟩]) := by
 have he := e_evening_meetings_k3_y_k1_ok
 unfold evening_meetings_k3_y_k1 at h
 refine SemY.seq ?_
 refine SemY.region ?_
 let p1 : Option Blk := some ⟨2, 94, [.ag [.v (.int .i64 y4), .rf 2 0 y2.length y2.length]], false⟩
 let p2 : Option Blk := some ⟨1, 50, [.sl 1 (y3.map (cdL 1 cdI).enc)], false⟩
 let p3 : Option Blk := some ⟨1, 3, (y2.map cdI.enc), false⟩
 let p4 : Option Blk := some ⟨2, 94, [.ag [.v (.int .i64 y1), .rf 2 0 y2.length y2.length]], false⟩
 let p5 : Option Blk := some ⟨2, 94, [.ag [.v (.int .i64 y0), .e0]], false⟩
 refine RunY.fin he [(1, .v (.int .i64 y5)), (2, .v (.int .i64 y6)), (3, .pt 5 0 0)] [p5, p4, p3, p2, none, p1] ?_
 refine SemY.seq ?_
 refine SemY.region ?_
 refine RunY.sg he 8 [p5, p4, p3, p2, none, p1] ?_
 obtain ⟨v1, hv1, h⟩ := Option.bind_eq_some_iff.1 h
 refine RunY.one he 0 rfl (op_q (wantedA_none rfl) rfl (q_indexAddr (a := .rf 2 0 y2.length y2.length) (b := .v (.int .i64 (wr .i64 ((wr .i64 (y5 * y4)) + y6)))) kr kr (ix_rl (e := cdI.enc) (xs := y2) (t' := 3) (el := 3) (k := 1) (ki := .i64) kr kr kr hv1))) ?_
 refine RunY.fin he [(6, .pt 2 ((wr .i64 ((wr .i64 (y5 * y4)) + y6)).toNat) 0)] [p5, p4, p3, p2, none, p1] ?_
 refine SemY.ret ?_
 have hq := Option.some.inj h; subst hq
 exact ⟨.inr rfl, [.pt 2 ((wr .i64 ((wr .i64 (y5 * y4)) + y6)).toNat) 0], kr, kr, kr⟩
def evening_meetings_k3_y (y0 : Int) (y1 : Int) (y2 : (List Int)) (y3 : (List (List Int))) (y4 : (List (List (List Int)))) (y5 : Int) (y6 : Int) (y7 : Int) (y8 : Int) : Option ((List Int)) :=
 (evening_meetings_k3_y_k1 y0 y1 y2 y3 y1 y7 y8).bind fun v1 =>
 (idx y2 (wr .i64 ((wr .i64 (y7 * y1)) + y8))).bind fun v2 =>
 some (y2.set ((wr .i64 ((wr .i64 (y7 * y1)) + y8)).toNat) (wr .i64 (v2 + 1)))
set_option maxHeartbeats 4000000 in
set_option maxRecDepth 100000 in
theorem evening_meetings_k3_y_sem (y0 : Int) (y1 : Int) (y2 : (List Int)) (y3 : (List (List Int))) (y4 : (List (List (List Int)))) (y5 : Int) (y6 : Int) (y7 : Int) (y8 : Int) (r : (List Int)) (h : evening_meetings_k3_y y0 y1 y2 y3 y4 y5 y6 y7 y8 = some r) : SemY e_evening_meetings ⟨none, true⟩ (asgOf (pc cb_evening_meetings [1, 1, 0, 1, 0, 0, 1, 1, 0, 0, 1, 1, 0])) ⟨Fr 32 [(21, .v (.int .i64 y8)), (20, .v (.int .i64 y7)), (4, .pt 0 0 0), (5, .pt 1 0 0), (12, .sl 1 (y4.map (cdL 1 (cdL 1 cdI)).enc)), (13, .v (.int .i64 y5)), (14, .v (.int .i64 y6)), (19, .fn 108 [] [.pt 3 0 0])], [some ⟨2, 94, [.ag [.v (.int .i64 y0), .e0]], false⟩, some ⟨2, 94, [.ag [.v (.int .i64 y1), .rf 2 0 y2.length y2.length]], false⟩, some ⟨1, 3, (y2.map cdI.enc), false⟩, some ⟨1, 50, [.sl 1 (y3.map (cdL 1 cdI).enc)], false⟩, none]⟩ fun e s1 => e = .normal ∧ SemY e_evening_meetings ⟨none, true⟩ (bdyOf (pc cb_evening_meetings [1, 1, 0, 1, 0, 0, 1, 1, 0, 0, 1, 1, 0])) s1 fun e s2 => e = .normal ∧ s2.hp = [some ⟨2, 94, [.ag [.v (.int .i64 y0), .e0]], false⟩, some ⟨2, 94, [.ag [.v (.int .i64 y1), .rf 2 0 r.length r.length]], false⟩, some ⟨1, 3, (r.map cdI.enc), false⟩, some ⟨1, 50, [.sl 1 (y3.map (cdL 1 cdI).enc)], false⟩, none] := by
 have he := e_evening_meetings_ok
 unfold evening_meetings_k3_y at h
 refine SemY.seq ?_
 refine SemY.region ?_
 refine RunY.fin he [(5, .pt 1 0 0), (8, .v (.int .i64 y7)), (21, .v (.int .i64 y8))] [some ⟨2, 94, [.ag [.v (.int .i64 y0), .e0]], false⟩, some ⟨2, 94, [.ag [.v (.int .i64 y1), .rf 2 0 y2.length y2.length]], false⟩, some ⟨1, 3, (y2.map cdI.enc), false⟩, some ⟨1, 50, [.sl 1 (y3.map (cdL 1 cdI).enc)], false⟩, none] ?_
 refine SemY.region ?_
 refine RunY.sg he 1 [some ⟨2, 94, [.ag [.v (.int .i64 y0), .e0]], false⟩, some ⟨2, 94, [.ag [.v (.int .i64 y1), .rf 2 0 y2.length y2.length]], false⟩, some ⟨1, 3, (y2.map cdI.enc), false⟩, some ⟨1, 50, [.sl 1 (y3.map (cdL 1 cdI).enc)], false⟩, none] ?_
 refine RunY.done rfl ?_
 refine ⟨rfl, ?_⟩
 refine SemY.block ?_
 refine SemY.region ?_
 refine RunY.sg he 3 [some ⟨2, 94, [.ag [.v (.int .i64 y0), .e0]], false⟩, some ⟨2, 94, [.ag [.v (.int .i64 y1), .rf 2 0 y2.length y2.length]], false⟩, some ⟨1, 3, (y2.map cdI.enc), false⟩, some ⟨1, 50, [.sl 1 (y3.map (cdL 1 cdI).enc)], false⟩, none] ?_
 obtain ⟨v1, hv1, h⟩ := Option.bind_eq_some_iff.1 h
 obtain ⟨v2, hv2, h⟩ := Option.bind_eq_some_iff.1 h
 refine RunY.inl (fid := 73) (caps := []) (xs := [.ag [.v (.int .i64 y1), .rf 2 0 y2.length y2.length], .v (.int .i64 y7), .v (.int .i64 y8)]) (fn := Tryd.f73) (Out := fun x h' => x = .pt 2 ((wr .i64 ((wr .i64 (y7 * y1)) + y8)).toNat) 0 ∧ h' = [some ⟨2, 94, [.ag [.v (.int .i64 y0), .e0]], false⟩, some ⟨2, 94, [.ag [.v (.int .i64 y1), .rf 2 0 y2.length y2.length]], false⟩, some ⟨1, 3, (y2.map cdI.enc), false⟩, some ⟨1, 50, [.sl 1 (y3.map (cdL 1 cdI).enc)], false⟩, none, some ⟨2, 94, [.ag [.v (.int .i64 v1), .rf 2 0 y2.length y2.length]], false⟩]) rfl rfl e_evening_meetings_k3_y_k1_ok rfl rfl 5 kr rfl (wantedA_none rfl) kr kr kr kr (by show 3 ≤ 16; decide) (evening_meetings_k3_y_k1_sem y0 y1 y2 y3 y1 y7 y8 _ hv1) ?_
 rintro x h' ⟨rfl, rfl⟩
 refine ⟨[some ⟨2, 94, [.ag [.v (.int .i64 y0), .e0]], false⟩, some ⟨2, 94, [.ag [.v (.int .i64 y1), .rf 2 0 y2.length y2.length]], false⟩, some ⟨1, 3, (y2.map cdI.enc), false⟩, some ⟨1, 50, [.sl 1 (y3.map (cdL 1 cdI).enc)], false⟩, none], by kernel_rfl, ⟨⟨_, rfl, bu_c kr kr⟩, ⟨_, rfl, bu_c kr kr⟩, ⟨_, rfl, bu_own⟩, ⟨_, rfl, bu_c kr kr⟩, ⟨_, rfl, bu_none⟩, trivial⟩, ⟨by kernel_rfl, by kernel_rfl⟩, ?_⟩
 refine RunY.sg he 1 [some ⟨2, 94, [.ag [.v (.int .i64 y0), .e0]], false⟩, some ⟨2, 94, [.ag [.v (.int .i64 y1), .rf 2 0 y2.length y2.length]], false⟩, some ⟨1, 3, (y2.map cdI.enc), false⟩, some ⟨1, 50, [.sl 1 (y3.map (cdL 1 cdI).enc)], false⟩, none] ?_
 refine RunY.one he 0 rfl (op_q (wantedA_none rfl) rfl (q_load (p := .pt 2 ((wr .i64 ((wr .i64 (y7 * y1)) + y8)).toNat) 0) kr (ld_blk (B := ⟨1, 3, (y2.map cdI.enc), false⟩) (m := 1) (g := false) (e := cdI.enc) (xs := y2) kr kr kr rfl (idx_at hv2).2 kr))) ?_
 refine RunY.sg he 2 [some ⟨2, 94, [.ag [.v (.int .i64 y0), .e0]], false⟩, some ⟨2, 94, [.ag [.v (.int .i64 y1), .rf 2 0 y2.length y2.length]], false⟩, some ⟨1, 3, (y2.map cdI.enc), false⟩, some ⟨1, 50, [.sl 1 (y3.map (cdL 1 cdI).enc)], false⟩, none] ?_
 refine RunY.store he (y := .pt 2 ((wr .i64 ((wr .i64 (y7 * y1)) + y8)).toNat) 0) (z := .v (.int .i64 (wr .i64 (v2 + 1)))) rfl (wantedA_none rfl) kr kr (st_blk (t' := 3) (k := 1) (e := cdI.enc) (xs := y2) (v := v2) (v' := (wr .i64 (v2 + 1))) kr (idx_at hv2).2 kr kr kr) ?_
 refine RunY.done rfl ?_
 have hq := Option.some.inj h; subst hq
 exact ⟨rfl, Eq.trans (b := [some ⟨2, 94, [.ag [.v (.int .i64 y0), .e0]], false⟩, some ⟨2, 94, [.ag [.v (.int .i64 y1), .rf 2 0 y2.length y2.length]], false⟩, some ⟨1, 3, ((y2.set ((wr .i64 ((wr .i64 (y7 * y1)) + y8)).toNat) (wr .i64 (v2 + 1))).map cdI.enc), false⟩, some ⟨1, 50, [.sl 1 (y3.map (cdL 1 cdI).enc)], false⟩, none]) kr (by simp only [List.length_set])⟩
def evening_meetings_k3_3 (y0 : Int) (y1 : Int) (y3 : (List (List Int))) (y4 : (List (List (List Int)))) (y5 : Int) (y6 : Int) (c186 : Int) (v189 : (List Int)) (c222 : Int) (v225 : Int) : Nat → Int → (List Int) → Option (((List Int)))
 | 0, _, _ => none
 | f + 1, c239, c240 =>
  if (decide (c239 < (v189.length : Int))) = true then
  (idx v189 c239).bind fun v242 =>
  if (c222 != c239) = true then
  (evening_meetings_k3_y y0 y1 c240 y3 y4 y5 y6 v225 v242).bind fun v243 =>
  evening_meetings_k3_3 y0 y1 y3 y4 y5 y6 c186 v189 c222 v225 f (wr .i64 (c239 + 1)) v243
  else
  evening_meetings_k3_3 y0 y1 y3 y4 y5 y6 c186 v189 c222 v225 f (wr .i64 (c239 + 1)) c240
  else
  some c240
def evening_meetings_k3_2 (y0 : Int) (y1 : Int) (y3 : (List (List Int))) (y4 : (List (List (List Int)))) (y5 : Int) (y6 : Int) (c186 : Int) (v189 : (List Int)) : Nat → Int → (List Int) → Option (((List Int)))
 | 0, _, _ => none
 | f + 1, c222, c223 =>
  if (decide (c222 < (v189.length : Int))) = true then
  (idx v189 c222).bind fun v225 =>
  (evening_meetings_k3_3 y0 y1 y3 y4 y5 y6 c186 v189 c222 v225 100000 0 c223).bind fun r246 =>
  evening_meetings_k3_2 y0 y1 y3 y4 y5 y6 c186 v189 f (wr .i64 (c222 + 1)) r246
  else
  some c223
def evening_meetings_k3_1 (y0 : Int) (y1 : Int) (y3 : (List (List Int))) (y4 : (List (List (List Int)))) (y5 : Int) (y6 : Int) : Nat → Int → (List Int) → Option (((List Int)))
 | 0, _, _ => none
 | f + 1, c186, c187 =>
  if (decide (c186 < (y3.length : Int))) = true then
  (idx y3 c186).bind fun v189 =>
  (evening_meetings_k3_2 y0 y1 y3 y4 y5 y6 c186 v189 100000 0 c187).bind fun r248 =>
  evening_meetings_k3_1 y0 y1 y3 y4 y5 y6 f (wr .i64 (c186 + 1)) r248
  else
  some c187
def evening_meetings_k3 (y0 : Int) (y1 : Int) (y2 : (List Int)) (y3 : (List (List Int))) (y4 : (List (List (List Int)))) (y5 : Int) (y6 : Int) : Option ((List Int)) :=
 (evening_meetings_k3_1 y0 y1 y3 y4 y5 y6 100000 0 y2).bind fun r250 =>
 some r250
set_option maxHeartbeats 4000000 in
set_option maxRecDepth 100000 in
theorem evening_meetings_k3_3_ok (y0 : Int) (y1 : Int) (y3 : (List (List Int))) (y4 : (List (List (List Int)))) (y5 : Int) (y6 : Int) (c186 : Int) (v189 : (List Int)) (c222 : Int) (v225 : Int) : ∀ (f : Nat) (c239 : Int) (c240 : (List Int)) (r : ((List Int))), evening_meetings_k3_3 y0 y1 y3 y4 y5 y6 c186 v189 c222 v225 f c239 c240 = some r → SemYN e_evening_meetings_k3 (cx_evening_meetings_k3 y4 y5 y6) (pc cb_evening_meetings_k3 [1, 0, 0, 1, 1, 0, 0, 1, 1, 0, 0, 1, 1, 0, 0, 1, 1, 0, 0]) f ⟨Fr 42 [(0, .yl 4), (4, .sl 1 (v189.map cdI.enc)), (5, .v (.int .i64 c222)), (6, .v (.int .i64 v225)), (9, .sl 1 (y3.map (cdL 1 cdI).enc)), (10, .v (.int .i64 (y3.length : Int))), (11, .v (.int .i64 c186)), (15, .sl 1 (v189.map cdI.enc)), (16, .v (.int .i64 (v189.length : Int))), (17, .v (.int .i64 c222)), (22, .sl 1 (v189.map cdI.enc)), (23, .v (.int .i64 (v189.length : Int))), (24, .v (.int .i64 c239))], [some ⟨2, 94, [.ag [.v (.int .i64 y0), .e0]], false⟩, some ⟨2, 94, [.ag [.v (.int .i64 y1), .rf 2 0 c240.length c240.length]], false⟩, some ⟨1, 3, (c240.map cdI.enc), false⟩, some ⟨1, 50, [.sl 1 (y3.map (cdL 1 cdI).enc)], false⟩, none]⟩ (fun e s => e = (.exit 4) ∧ WkY e_evening_meetings_k3 s ⟨Fr 42 [(0, .yl 4), (4, .sl 1 (v189.map cdI.enc)), (9, .sl 1 (y3.map (cdL 1 cdI).enc)), (10, .v (.int .i64 (y3.length : Int))), (11, .v (.int .i64 c186)), (15, .sl 1 (v189.map cdI.enc)), (16, .v (.int .i64 (v189.length : Int))), (17, .v (.int .i64 c222))], [some ⟨2, 94, [.ag [.v (.int .i64 y0), .e0]], false⟩, some ⟨2, 94, [.ag [.v (.int .i64 y1), .rf 2 0 r.length r.length]], false⟩, some ⟨1, 3, (r.map cdI.enc), false⟩, some ⟨1, 50, [.sl 1 (y3.map (cdL 1 cdI).enc)], false⟩, none]⟩) := by
 have he := e_evening_meetings_k3_ok
 intro f
 induction f with
 | zero => intro c239 c240 r h; cases h
 | succ f ih0 =>
  intro c239 c240 r h
  have ih := fun (c239 : Int) (c240 : (List Int)) => ih0 c239 c240 r
  unfold evening_meetings_k3_3 at h
  refine SemYN.succ ?_
  refine SemY.seq ?_
  refine SemY.region ?_
  let p1 : Option Blk := some ⟨1, 50, [.sl 1 (y3.map (cdL 1 cdI).enc)], false⟩
  let p2 : Option Blk := some ⟨1, 3, (c240.map cdI.enc), false⟩
  let p3 : Option Blk := some ⟨2, 94, [.ag [.v (.int .i64 y1), .rf 2 0 c240.length c240.length]], false⟩
  let p4 : Option Blk := some ⟨2, 94, [.ag [.v (.int .i64 y0), .e0]], false⟩
  let p5 : Nat × AV := (24, .v (.int .i64 c239))
  let p6 : Nat × AV := (23, .v (.int .i64 (v189.length : Int)))
  let p7 : Nat × AV := (22, .sl 1 (v189.map cdI.enc))
  let p8 : Nat × AV := (17, .v (.int .i64 c222))
  let p9 : Nat × AV := (16, .v (.int .i64 (v189.length : Int)))
  let p10 : Nat × AV := (15, .sl 1 (v189.map cdI.enc))
  let p11 : Nat × AV := (11, .v (.int .i64 c186))
  let p12 : Nat × AV := (10, .v (.int .i64 (y3.length : Int)))
  let p13 : Nat × AV := (9, .sl 1 (y3.map (cdL 1 cdI).enc))
  let p14 : Nat × AV := (6, .v (.int .i64 v225))
  let p15 : Nat × AV := (5, .v (.int .i64 c222))
  let p16 : Nat × AV := (4, .sl 1 (v189.map cdI.enc))
  refine RunY.fin he [(0, .yl 4), p16, p15, p14, p13, p12, p11, p10, p9, p8, p7, p6, p5, (25, .v (.bool (decide (c239 < (v189.length : Int)))))] [p4, p3, p2, p1, none] ?_
  refine SemY.seq ?_
  refine SemY.cond (b := (decide (c239 < (v189.length : Int)))) kr (fun hb241 => ?_) (fun hb241 => ?_)
  ·rw [if_pos hb241] at h
   refine SemY.skip ?_
   refine SemY.seq ?_
   refine SemY.block ?_
   refine SemY.seq ?_
   refine SemY.region ?_
   refine RunY.sg he 1 [p4, p3, p2, p1, none] ?_
   obtain ⟨v242, hv242, h⟩ := Option.bind_eq_some_iff.1 h
   refine RunY.one he 0 rfl (op_q (wantedA_none rfl) rfl (q_indexAddr (a := .sl 1 (v189.map cdI.enc)) (b := .v (.int .i64 c239)) kr kr (ix_sl (e := cdI.enc) (el := 3) (k := 1) (ki := .i64) kr kr hv242))) ?_
   refine RunY.fin he [(0, .yl 4), p16, p15, p14, (7, .v (.int .i64 c239)), (8, .v (.int .i64 v242)), p13, p12, p11, p10, p9, p8, p7, p6, p5] [p4, p3, p2, p1, none] ?_
   refine SemY.seq ?_
   refine SemY.region ?_
   refine RunY.segF (n := 42) he 4 [(0, .yl 4), p16, p15, p14, (8, .v (.int .i64 v242)), p13, p12, p11, p10, p9, p8, p7, p6, p5, (32, .v (.bool (c222 != c239)))] [p4, p3, p2, p1, none] kr ?_
   rcases Bool.eq_false_or_eq_true (c222 != c239) with hc244 | hc244
   ·rw [if_pos hc244] at h
    rw [hc244]
    refine RunY.sg he 3 [p4, p3, p2, p1, none] ?_
    obtain ⟨v243, hv243, h⟩ := Option.bind_eq_some_iff.1 h
    let p17 : Option Blk := some ⟨1, 3, (v243.map cdI.enc), false⟩
    let p18 : Option Blk := some ⟨2, 94, [.ag [.v (.int .i64 y1), .rf 2 0 v243.length v243.length]], false⟩
    refine RunY.yield (K1 := fun h' => h' = [p4, p18, p17, p1, none]) rfl rfl (eb := e_evening_meetings) rfl rfl rfl rfl rfl kr kr (xs := [.v (.int .i64 v225), .v (.int .i64 v242)]) kr rfl rfl (evening_meetings_k3_y_sem y0 y1 c240 y3 y4 y5 y6 v225 v242 _ hv243) ?_
    rintro h' rfl
    refine RunY.fin he [(0, .yl 4), p16, p15, p14, p13, p12, p11, p10, p9, p8, p7, p6, p5, (33, .yl 4), (34, .v (.int .i64 v225)), (35, .v (.int .i64 v242)), (36, .v (.bool true)), (37, .v (.bool false)), (38, .v (.bool false))] [p4, p18, p17, p1, none] ?_
    refine SemY.cond_false kr ?_
    refine SemY.skip ?_
    refine SemY.region ?_
    refine RunY.sg he 2 [p4, p18, p17, p1, none] ?_
    refine RunY.done rfl ?_
    exact SemYN.wk (s1 := ⟨Fr 42 [(0, .yl 4), p16, p15, p14, p13, p12, p11, p10, p9, p8, p7, p6, (24, .v (.int .i64 (wr .i64 (c239 + 1))))], [p4, p18, p17, p1, none]⟩) (WkY.fr kr) (ih (wr .i64 (c239 + 1)) v243 h)
   ·rw [if_f hc244] at h
    rw [hc244]
    refine RunY.fin he [(0, .yl 4), p16, p15, p14, p13, p12, p11, p10, p9, p8, p7, p6, p5, (33, .tp []), (34, .tp []), (35, .tp []), (36, .tp []), (37, .tp []), (38, .v (.bool false))] [p4, p3, p2, p1, none] ?_
    refine SemY.cond_false kr ?_
    refine SemY.skip ?_
    refine SemY.region ?_
    refine RunY.sg he 2 [p4, p3, p2, p1, none] ?_
    refine RunY.done rfl ?_
    exact SemYN.wk (s1 := ⟨Fr 42 [(0, .yl 4), p16, p15, p14, p13, p12, p11, p10, p9, p8, p7, p6, (24, .v (.int .i64 (wr .i64 (c239 + 1))))], [p4, p3, p2, p1, none]⟩) (WkY.fr kr) (ih (wr .i64 (c239 + 1)) c240 h)
  ·rw [if_f hb241] at h
   refine SemY.exit ?_
   have hq := Option.some.inj h; subst hq
   exact ⟨rfl, (WkY.fr kr)⟩
set_option maxHeartbeats 4000000 in
set_option maxRecDepth 100000 in
theorem evening_meetings_k3_2_ok (y0 : Int) (y1 : Int) (y3 : (List (List Int))) (y4 : (List (List (List Int)))) (y5 : Int) (y6 : Int) (c186 : Int) (v189 : (List Int)) : ∀ (f : Nat) (c222 : Int) (c223 : (List Int)) (r : ((List Int))), evening_meetings_k3_2 y0 y1 y3 y4 y5 y6 c186 v189 f c222 c223 = some r → SemYN e_evening_meetings_k3 (cx_evening_meetings_k3 y4 y5 y6) (pc cb_evening_meetings_k3 [1, 0, 0, 1, 1, 0, 0, 1, 1, 0, 0]) f ⟨Fr 42 [(0, .yl 4), (4, .sl 1 (v189.map cdI.enc)), (9, .sl 1 (y3.map (cdL 1 cdI).enc)), (10, .v (.int .i64 (y3.length : Int))), (11, .v (.int .i64 c186)), (15, .sl 1 (v189.map cdI.enc)), (16, .v (.int .i64 (v189.length : Int))), (17, .v (.int .i64 c222))], [some ⟨2, 94, [.ag [.v (.int .i64 y0), .e0]], false⟩, some ⟨2, 94, [.ag [.v (.int .i64 y1), .rf 2 0 c223.length c223.length]], false⟩, some ⟨1, 3, (c223.map cdI.enc), false⟩, some ⟨1, 50, [.sl 1 (y3.map (cdL 1 cdI).enc)], false⟩, none]⟩ (fun e s => e = (.exit 2) ∧ WkY e_evening_meetings_k3 s ⟨Fr 42 [(0, .yl 4), (9, .sl 1 (y3.map (cdL 1 cdI).enc)), (10, .v (.int .i64 (y3.length : Int))), (11, .v (.int .i64 c186))], [some ⟨2, 94, [.ag [.v (.int .i64 y0), .e0]], false⟩, some ⟨2, 94, [.ag [.v (.int .i64 y1), .rf 2 0 r.length r.length]], false⟩, some ⟨1, 3, (r.map cdI.enc), false⟩, some ⟨1, 50, [.sl 1 (y3.map (cdL 1 cdI).enc)], false⟩, none]⟩) := by
 have he := e_evening_meetings_k3_ok
 intro f
 induction f with
 | zero => intro c222 c223 r h; cases h
 | succ f ih0 =>
  intro c222 c223 r h
  have ih := fun (c222 : Int) (c223 : (List Int)) => ih0 c222 c223 r
  unfold evening_meetings_k3_2 at h
  refine SemYN.succ ?_
  refine SemY.seq ?_
  refine SemY.region ?_
  let p1 : Option Blk := some ⟨1, 50, [.sl 1 (y3.map (cdL 1 cdI).enc)], false⟩
  let p2 : Option Blk := some ⟨1, 3, (c223.map cdI.enc), false⟩
  let p3 : Option Blk := some ⟨2, 94, [.ag [.v (.int .i64 y1), .rf 2 0 c223.length c223.length]], false⟩
  let p4 : Option Blk := some ⟨2, 94, [.ag [.v (.int .i64 y0), .e0]], false⟩
  let p5 : Nat × AV := (17, .v (.int .i64 c222))
  let p6 : Nat × AV := (16, .v (.int .i64 (v189.length : Int)))
  let p7 : Nat × AV := (15, .sl 1 (v189.map cdI.enc))
  let p8 : Nat × AV := (11, .v (.int .i64 c186))
  let p9 : Nat × AV := (10, .v (.int .i64 (y3.length : Int)))
  let p10 : Nat × AV := (9, .sl 1 (y3.map (cdL 1 cdI).enc))
  let p11 : Nat × AV := (4, .sl 1 (v189.map cdI.enc))
  refine RunY.fin he [(0, .yl 4), p11, p10, p9, p8, p7, p6, p5, (18, .v (.bool (decide (c222 < (v189.length : Int)))))] [p4, p3, p2, p1, none] ?_
  refine SemY.seq ?_
  refine SemY.cond (b := (decide (c222 < (v189.length : Int)))) kr (fun hb224 => ?_) (fun hb224 => ?_)
  ·rw [if_pos hb224] at h
   refine SemY.skip ?_
   refine SemY.seq ?_
   refine SemY.block ?_
   refine SemY.seq ?_
   refine SemY.region ?_
   refine RunY.sg he 1 [p4, p3, p2, p1, none] ?_
   obtain ⟨v225, hv225, h⟩ := Option.bind_eq_some_iff.1 h
   refine RunY.one he 0 rfl (op_q (wantedA_none rfl) rfl (q_indexAddr (a := .sl 1 (v189.map cdI.enc)) (b := .v (.int .i64 c222)) kr kr (ix_sl (e := cdI.enc) (el := 3) (k := 1) (ki := .i64) kr kr hv225))) ?_
   let p12 : Nat × AV := (6, .v (.int .i64 v225))
   let p13 : Nat × AV := (5, .v (.int .i64 c222))
   refine RunY.fin he [(0, .yl 4), p11, p13, p12, p10, p9, p8, p7, p6, p5] [p4, p3, p2, p1, none] ?_
   refine SemY.seq ?_
   refine SemY.region ?_
   refine RunY.sg he 1 [p4, p3, p2, p1, none] ?_
   refine RunY.one he 0 rfl (op_q (wantedA_none rfl) rfl (q_len (a := .sl 1 (v189.map cdI.enc)) kr (len_sl (el := 3) kr))) ?_
   let p14 : Nat × AV := (23, .v (.int .i64 (v189.length : Int)))
   refine RunY.fin he [(0, .yl 4), p11, p13, p12, p10, p9, p8, p7, p6, p5, (22, .sl 1 (v189.map cdI.enc)), p14, (24, .v (.int .i64 0))] [p4, p3, p2, p1, none] ?_
   refine SemY.block ?_
   obtain ⟨r246, hr246, h⟩ := Option.bind_eq_some_iff.1 h
   refine SemY.loop (n := 100000) ?_
   refine SemY.cutN (SemYN.wk (s1 := ⟨Fr 42 [(0, .yl 4), p11, p13, p12, p10, p9, p8, p7, p6, p5, (22, .sl 1 (v189.map cdI.enc)), p14, (24, .v (.int .i64 0))], [p4, p3, p2, p1, none]⟩) (WkY.fr kr) (evening_meetings_k3_3_ok y0 y1 y3 y4 y5 y6 c186 v189 c222 v225 _ 0 c223 _ hr246)) ?_
   refine SemY.region ?_
   let p15 : Option Blk := some ⟨1, 3, (r246.map cdI.enc), false⟩
   let p16 : Option Blk := some ⟨2, 94, [.ag [.v (.int .i64 y1), .rf 2 0 r246.length r246.length]], false⟩
   refine RunY.sg he 2 [p4, p16, p15, p1, none] ?_
   refine RunY.done rfl ?_
   exact SemYN.wk (s1 := ⟨Fr 42 [(0, .yl 4), p11, p10, p9, p8, p7, p6, (17, .v (.int .i64 (wr .i64 (c222 + 1))))], [p4, p16, p15, p1, none]⟩) (WkY.fr kr) (ih (wr .i64 (c222 + 1)) r246 h)
  ·rw [if_f hb224] at h
   refine SemY.exit ?_
   have hq := Option.some.inj h; subst hq
   exact ⟨rfl, (WkY.fr kr)⟩
set_option maxHeartbeats 4000000 in
set_option maxRecDepth 100000 in
theorem evening_meetings_k3_1_ok (y0 : Int) (y1 : Int) (y3 : (List (List Int))) (y4 : (List (List (List Int)))) (y5 : Int) (y6 : Int) : ∀ (f : Nat) (c186 : Int) (c187 : (List Int)) (r : ((List Int))), evening_meetings_k3_1 y0 y1 y3 y4 y5 y6 f c186 c187 = some r → SemYN e_evening_meetings_k3 (cx_evening_meetings_k3 y4 y5 y6) (pc cb_evening_meetings_k3 [1, 0, 0]) f ⟨Fr 42 [(0, .yl 4), (9, .sl 1 (y3.map (cdL 1 cdI).enc)), (10, .v (.int .i64 (y3.length : Int))), (11, .v (.int .i64 c186))], [some ⟨2, 94, [.ag [.v (.int .i64 y0), .e0]], false⟩, some ⟨2, 94, [.ag [.v (.int .i64 y1), .rf 2 0 c187.length c187.length]], false⟩, some ⟨1, 3, (c187.map cdI.enc), false⟩, some ⟨1, 50, [.sl 1 (y3.map (cdL 1 cdI).enc)], false⟩, none]⟩ (fun e s => e = (.exit 0) ∧ WkY e_evening_meetings_k3 s ⟨Fr 42 [], [some ⟨2, 94, [.ag [.v (.int .i64 y0), .e0]], false⟩, some ⟨2, 94, [.ag [.v (.int .i64 y1), .rf 2 0 r.length r.length]], false⟩, some ⟨1, 3, (r.map cdI.enc), false⟩, some ⟨1, 50, [.sl 1 (y3.map (cdL 1 cdI).enc)], false⟩, none]⟩) := by
 have he := e_evening_meetings_k3_ok
 intro f
 induction f with
 | zero => intro c186 c187 r h; cases h
 | succ f ih0 =>
  intro c186 c187 r h
  have ih := fun (c186 : Int) (c187 : (List Int)) => ih0 c186 c187 r
  unfold evening_meetings_k3_1 at h
  refine SemYN.succ ?_
  refine SemY.seq ?_
  refine SemY.region ?_
  let p1 : Option Blk := some ⟨1, 50, [.sl 1 (y3.map (cdL 1 cdI).enc)], false⟩
  let p2 : Option Blk := some ⟨1, 3, (c187.map cdI.enc), false⟩
  let p3 : Option Blk := some ⟨2, 94, [.ag [.v (.int .i64 y1), .rf 2 0 c187.length c187.length]], false⟩
  let p4 : Option Blk := some ⟨2, 94, [.ag [.v (.int .i64 y0), .e0]], false⟩
  let p5 : Nat × AV := (11, .v (.int .i64 c186))
  let p6 : Nat × AV := (10, .v (.int .i64 (y3.length : Int)))
  let p7 : Nat × AV := (9, .sl 1 (y3.map (cdL 1 cdI).enc))
  refine RunY.fin he [(0, .yl 4), p7, p6, p5, (12, .v (.bool (decide (c186 < (y3.length : Int)))))] [p4, p3, p2, p1, none] ?_
  refine SemY.seq ?_
  refine SemY.cond (b := (decide (c186 < (y3.length : Int)))) kr (fun hb188 => ?_) (fun hb188 => ?_)
  ·rw [if_pos hb188] at h
   refine SemY.skip ?_
   refine SemY.seq ?_
   refine SemY.block ?_
   refine SemY.seq ?_
   refine SemY.region ?_
   obtain ⟨v189, hv189, h⟩ := Option.bind_eq_some_iff.1 h
   refine RunY.one he 0 rfl (op_q (wantedA_none rfl) rfl (q_indexAddr (a := .sl 1 (y3.map (cdL 1 cdI).enc)) (b := .v (.int .i64 c186)) kr kr (ix_sl (e := (cdL 1 cdI).enc) (el := 31) (k := 1) (ki := .i64) kr kr hv189))) ?_
   let p8 : Nat × AV := (4, .sl 1 (v189.map cdI.enc))
   refine RunY.fin he [(0, .yl 4), p8, p7, p6, p5] [p4, p3, p2, p1, none] ?_
   refine SemY.seq ?_
   refine SemY.region ?_
   refine RunY.sg he 1 [p4, p3, p2, p1, none] ?_
   refine RunY.one he 0 rfl (op_q (wantedA_none rfl) rfl (q_len (a := .sl 1 (v189.map cdI.enc)) kr (len_sl (el := 3) kr))) ?_
   let p9 : Nat × AV := (16, .v (.int .i64 (v189.length : Int)))
   refine RunY.fin he [(0, .yl 4), p8, p7, p6, p5, (15, .sl 1 (v189.map cdI.enc)), p9, (17, .v (.int .i64 0))] [p4, p3, p2, p1, none] ?_
   refine SemY.block ?_
   obtain ⟨r248, hr248, h⟩ := Option.bind_eq_some_iff.1 h
   refine SemY.loop (n := 100000) ?_
   refine SemY.cutN (SemYN.wk (s1 := ⟨Fr 42 [(0, .yl 4), p8, p7, p6, p5, (15, .sl 1 (v189.map cdI.enc)), p9, (17, .v (.int .i64 0))], [p4, p3, p2, p1, none]⟩) (WkY.fr kr) (evening_meetings_k3_2_ok y0 y1 y3 y4 y5 y6 c186 v189 _ 0 c187 _ hr248)) ?_
   refine SemY.region ?_
   let p10 : Option Blk := some ⟨1, 3, (r248.map cdI.enc), false⟩
   let p11 : Option Blk := some ⟨2, 94, [.ag [.v (.int .i64 y1), .rf 2 0 r248.length r248.length]], false⟩
   refine RunY.sg he 2 [p4, p11, p10, p1, none] ?_
   refine RunY.done rfl ?_
   exact SemYN.wk (s1 := ⟨Fr 42 [(0, .yl 4), p7, p6, (11, .v (.int .i64 (wr .i64 (c186 + 1))))], [p4, p11, p10, p1, none]⟩) (WkY.fr kr) (ih (wr .i64 (c186 + 1)) r248 h)
  ·rw [if_f hb188] at h
   refine SemY.exit ?_
   have hq := Option.some.inj h; subst hq
   exact ⟨rfl, (WkY.fr kr)⟩
set_option maxHeartbeats 4000000 in
set_option maxRecDepth 100000 in
theorem evening_meetings_k3_sem (y0 : Int) (y1 : Int) (y2 : (List Int)) (y3 : (List (List Int))) (y4 : (List (List (List Int)))) (y5 : Int) (y6 : Int) (r : (List Int)) (h : evening_meetings_k3 y0 y1 y2 y3 y4 y5 y6 = some r) : SemY e_evening_meetings_k3 (cx_evening_meetings_k3 y4 y5 y6) cb_evening_meetings_k3 ⟨Fr 42 (pairs0 0 [.yl 4, .pt 3 0 0]), [some ⟨2, 94, [.ag [.v (.int .i64 y0), .e0]], false⟩, some ⟨2, 94, [.ag [.v (.int .i64 y1), .rf 2 0 y2.length y2.length]], false⟩, some ⟨1, 3, (y2.map cdI.enc), false⟩, some ⟨1, 50, [.sl 1 (y3.map (cdL 1 cdI).enc)], false⟩, none]⟩ fun x s' => (x = .normal ∨ x = .ret) ∧ ∃ ys, resA e_evening_meetings_k3.P s'.fr s'.hp Tryd.f108.results.toList = some ys ∧ (retA ys = .tp [] ∧ s'.hp = [some ⟨2, 94, [.ag [.v (.int .i64 y0), .e0]], false⟩, some ⟨2, 94, [.ag [.v (.int .i64 y1), .rf 2 0 r.length r.length]], false⟩, some ⟨1, 3, (r.map cdI.enc), false⟩, some ⟨1, 50, [.sl 1 (y3.map (cdL 1 cdI).enc)], false⟩, none]) := by
 have he := e_evening_meetings_k3_ok
 unfold evening_meetings_k3 at h
 refine SemY.seq ?_
 refine SemY.region ?_
 let p1 : Option Blk := some ⟨1, 50, [.sl 1 (y3.map (cdL 1 cdI).enc)], false⟩
 let p2 : Option Blk := some ⟨1, 3, (y2.map cdI.enc), false⟩
 let p3 : Option Blk := some ⟨2, 94, [.ag [.v (.int .i64 y1), .rf 2 0 y2.length y2.length]], false⟩
 let p4 : Option Blk := some ⟨2, 94, [.ag [.v (.int .i64 y0), .e0]], false⟩
 refine RunY.sg he 1 [p4, p3, p2, p1, none] ?_
 refine RunY.one he 0 rfl (op_q (wantedA_none rfl) rfl (q_len (a := .sl 1 (y3.map (cdL 1 cdI).enc)) kr (len_sl (el := 31) kr))) ?_
 let p5 : Nat × AV := (10, .v (.int .i64 (y3.length : Int)))
 let p6 : Nat × AV := (9, .sl 1 (y3.map (cdL 1 cdI).enc))
 refine RunY.fin he [(0, .yl 4), p6, p5, (11, .v (.int .i64 0))] [p4, p3, p2, p1, none] ?_
 refine SemY.block ?_
 obtain ⟨r250, hr250, h⟩ := Option.bind_eq_some_iff.1 h
 refine SemY.loop (n := 100000) ?_
 refine SemY.cutN (SemYN.wk (s1 := ⟨Fr 42 [(0, .yl 4), p6, p5, (11, .v (.int .i64 0))], [p4, p3, p2, p1, none]⟩) (WkY.fr kr) (evening_meetings_k3_1_ok y0 y1 y3 y4 y5 y6 _ 0 y2 _ hr250)) ?_
 have hq := Option.some.inj h; subst hq
 exact ⟨.inl rfl, [], kr, kr, kr⟩
def evening_meetings_1 (x1 : (List (List (List Int)))) (v1 : Int × Int × (List Int)) : Nat → (List Int) → Int → Option (((List Int)))
 | 0, _, _ => none
 | f + 1, c13, c14 =>
  if (decide (c14 < (x1.length : Int))) = true then
  (idx x1 c14).bind fun v16 =>
  (evening_meetings_k2 0 v1.1 c13 v16).bind fun v17 =>
  (evening_meetings_k3 0 v1.1 c13 v17 x1 (x1.length : Int) c14).bind fun v18 =>
  evening_meetings_1 x1 v1 f v18 (wr .i64 (c14 + 1))
  else
  some c13
def evening_meetings (x0 : Int) (x1 : (List (List (List Int)))) : Option ((Int × (List Int))) :=
 (evening_meetings_k1 0 x0).bind fun v1 =>
 (evening_meetings_1 x1 v1 100000 v1.2.2 0).bind fun r20 =>
 some (v1.1, r20)
def cs_evening_meetings : Cs (Int × (List (List (List Int))) × Unit) := (csC cdI (csC (cdL 1 (cdL 1 (cdL 1 cdI))) csN))
def er_evening_meetings (r : (Int × (List Int))) : AV := (cdG2 cdI (cdL 1 cdI) (fun _ => rfl) (fun _ => rfl)).enc r
set_option maxHeartbeats 4000000 in
set_option maxRecDepth 100000 in
theorem evening_meetings_1_ok (x1 : (List (List (List Int)))) (v1 : Int × Int × (List Int)) : ∀ (f : Nat) (c13 : (List Int)) (c14 : Int) (r : ((List Int))), evening_meetings_1 x1 v1 f c13 c14 = some r → SemN e_evening_meetings ⟨none, false⟩ (pc cb_evening_meetings [1, 1, 0, 1, 0, 0]) f ⟨Fr 32 [(4, .pt 0 0 0), (5, .pt 1 0 0), (12, .sl 1 (x1.map (cdL 1 (cdL 1 cdI)).enc)), (13, .v (.int .i64 (x1.length : Int))), (14, .v (.int .i64 c14))], [some ⟨2, 94, [.ag [.v (.int .i64 0), .e0]], false⟩, some ⟨2, 94, [.ag [.v (.int .i64 v1.1), .rf 2 0 c13.length c13.length]], false⟩, some ⟨1, 3, (c13.map cdI.enc), false⟩]⟩ (fun e s => e = (.exit 0) ∧ Wk e_evening_meetings s ⟨Fr 32 [(4, .pt 0 0 0), (5, .pt 1 0 0)], [some ⟨2, 94, [.ag [.v (.int .i64 0), .e0]], false⟩, some ⟨2, 94, [.ag [.v (.int .i64 v1.1), .rf 2 0 r.length r.length]], false⟩, some ⟨1, 3, (r.map cdI.enc), false⟩]⟩) := by
 have he := e_evening_meetings_ok
 intro f
 induction f with
 | zero => intro c13 c14 r h; cases h
 | succ f ih0 =>
  intro c13 c14 r h
  have ih := fun (c13 : (List Int)) (c14 : Int) => ih0 c13 c14 r
  unfold evening_meetings_1 at h
  refine SemN.succ ?_
  let p1 : Option Blk := some ⟨1, 3, (c13.map cdI.enc), false⟩
  let p2 : Option Blk := some ⟨2, 94, [.ag [.v (.int .i64 v1.1), .rf 2 0 c13.length c13.length]], false⟩
  let p3 : Option Blk := some ⟨2, 94, [.ag [.v (.int .i64 0), .e0]], false⟩
  let p4 : Nat × AV := (14, .v (.int .i64 c14))
  let p5 : Nat × AV := (13, .v (.int .i64 (x1.length : Int)))
  let p6 : Nat × AV := (12, .sl 1 (x1.map (cdL 1 (cdL 1 cdI)).enc))
  let p7 : Nat × AV := (5, .pt 1 0 0)
  let p8 : Nat × AV := (4, .pt 0 0 0)
  refine Sem.sq he [p8, p7, p6, p5, p4, (15, .v (.bool (decide (c14 < (x1.length : Int)))))] [p3, p2, p1] ?_
  refine Sem.seq ?_
  refine Sem.cond (b := (decide (c14 < (x1.length : Int)))) kr (fun hb15 => ?_) (fun hb15 => ?_)
  ·rw [if_pos hb15] at h
   refine Sem.skip ?_
   refine Sem.seq ?_
   refine Sem.block ?_
   refine Sem.seq ?_
   obtain ⟨v16, hv16, h⟩ := Option.bind_eq_some_iff.1 h
   refine Sem.runS (s1 := ⟨Fr 32 [p8, p7, (7, .sl 1 (v16.map (cdL 1 cdI).enc)), p6, p5, p4], [p3, p2, p1]⟩) ?_ ?_
   ·refine RunS.one he 0 rfl (op_q (wantedA_none rfl) rfl (q_indexAddr (a := .sl 1 (x1.map (cdL 1 (cdL 1 cdI)).enc)) (b := .v (.int .i64 c14)) kr kr (ix_sl (e := (cdL 1 (cdL 1 cdI)).enc) (el := 50) (k := 1) (ki := .i64) kr kr hv16))) ?_
    exact RunS.last he
   refine Sem.seq ?_
   obtain ⟨v17, hv17, h⟩ := Option.bind_eq_some_iff.1 h
   let p9 : Option Blk := some ⟨1, 50, [.sl 1 (v17.map (cdL 1 cdI).enc)], false⟩
   refine Sem.runS (s1 := ⟨Fr 32 [p8, p7, p6, p5, p4, (19, .fn 108 [] [.pt 3 0 0])], [p3, p2, p1, p9]⟩) ?_ ?_
   ·refine RunS.segF (n := 32) he 1 [p8, p7, p6, p5, p4, (18, .sl 1 (v16.map (cdL 1 cdI).enc))] [p3, p2, p1] kr ?_
    refine RunS.inlY (fid := 72) (caps := []) (xs := [.sl 1 (v16.map (cdL 1 cdI).enc)]) (fn := Tryd.f72) (Out := fun x h' => x = .fn 108 [] [.pt 3 0 0] ∧ h' = [p3, p2, p1, p9]) rfl rfl e_evening_meetings_k2_ok rfl rfl rfl (wantedA_none rfl) kr kr kr kr (by show 1 ≤ 4; decide) (evening_meetings_k2_sem 0 v1.1 c13 v16 _ hv17) ?_
    rintro x h' ⟨rfl, rfl⟩
    exact RunS.done rfl (Wk.sel2 [0, 1, 2, 3] kr kr kr ⟨⟨_, rfl, bu_c kr kr⟩, ⟨_, rfl, bu_c kr kr⟩, ⟨_, rfl, bu_own⟩, ⟨_, rfl, bu_c kr kr⟩, trivial⟩ ⟨lu kr kr, lu kr kr, lu kr kr, lu kr kr, lu kr kr, lu kr kr, trivial⟩)
   refine Sem.block ?_
   obtain ⟨v18, hv18, h⟩ := Option.bind_eq_some_iff.1 h
   let p10 : Option Blk := some ⟨1, 3, (v18.map cdI.enc), false⟩
   let p11 : Option Blk := some ⟨2, 94, [.ag [.v (.int .i64 v1.1), .rf 2 0 v18.length v18.length]], false⟩
   refine Sem.range (E := e_evening_meetings) (gid := 108) (caps := [.pt 3 0 0]) (fn := Tryd.f108) (Out := fun x h' => x = .tp [] ∧ h' = [p3, p11, p10, p9, none]) rfl rfl e_evening_meetings_k3_ok rfl rfl rfl kr kr kr kr kr (by show 2 ≤ 42; decide) (evening_meetings_k3_sem 0 v1.1 c13 v17 x1 (x1.length : Int) c14 _ hv18) ?_
   rintro x h' ⟨-, rfl⟩
   let p12 : Nat × AV := (14, .v (.int .i64 (wr .i64 (c14 + 1))))
   refine Sem.runS (s1 := ⟨Fr 32 [p8, p7, p6, p5, p12], [p3, p11, p10]⟩) ?_ ?_
   ·refine RunS.segF (n := 32) he 2 [p8, p7, p6, p5, p12] [p3, p11, p10, p9, none] kr ?_
    exact RunS.done rfl (Wk.sel2 [0, 1, 2] kr kr kr ⟨⟨_, rfl, bu_c kr kr⟩, ⟨_, rfl, bu_c kr kr⟩, ⟨_, rfl, bu_own⟩, trivial⟩ ⟨lu kr kr, lu kr kr, lu kr kr, lu kr kr, lu kr kr, trivial⟩)
   exact SemN.wk (s1 := ⟨Fr 32 [p8, p7, p6, p5, p12], [p3, p11, p10]⟩) (Wk.sel2 [0, 1, 2] kr kr kr ⟨⟨_, rfl, bu_c kr kr⟩, ⟨_, rfl, bu_c kr kr⟩, ⟨_, rfl, bu_own⟩, trivial⟩ ⟨lu kr kr, lu kr kr, lu kr kr, lu kr kr, lu kr kr, trivial⟩) (ih v18 (wr .i64 (c14 + 1)) h)
  ·rw [if_f hb15] at h
   refine Sem.exit ?_
   have hq := Option.some.inj h; subst hq
   exact ⟨rfl, (Wk.sel2 [0, 1, 2] kr kr kr ⟨⟨_, rfl, bu_c kr kr⟩, ⟨_, rfl, bu_c kr kr⟩, ⟨_, rfl, bu_own⟩, trivial⟩ ⟨lu kr kr, lu kr kr, trivial⟩)⟩
set_option maxHeartbeats 4000000 in
set_option maxRecDepth 100000 in
theorem evening_meetings_sem (x0 : Int) (x1 : (List (List (List Int)))) (r : (Int × (List Int))) (h : evening_meetings x0 x1 = some r) : Sem e_evening_meetings ⟨none, false⟩ cb_evening_meetings ⟨Fr 32 (pairs0 0 (cs_evening_meetings.enc (x0, x1, ()))), []⟩ fun e s' => (e = .normal ∨ e = .ret) ∧ ∃ xs, resA e_evening_meetings.P s'.fr s'.hp Tryd.f80.results.toList = some xs ∧ retA xs = er_evening_meetings r := by
 have he := e_evening_meetings_ok
 unfold evening_meetings at h
 let p1 : Nat × AV := (1, .sl 1 (x1.map (cdL 1 (cdL 1 cdI)).enc))
 refine Sem.wkQ (Sem.wk (s1 := ⟨Fr 32 [(0, .v (.int .i64 x0)), p1], []⟩) (Wk.fr kr) ?_)
 let p2 : Option Blk := some ⟨2, 94, [.ag [.v (.int .i64 0), .e0]], false⟩
 let p3 : Nat × AV := (4, .pt 0 0 0)
 refine Sem.sq he [(0, .v (.int .i64 x0)), p1, p3] [p2] ?_
 refine Sem.seq ?_
 obtain ⟨v1, hv1, h⟩ := Option.bind_eq_some_iff.1 h
 let p4 : Option Blk := some ⟨1, 3, (v1.2.2.map cdI.enc), false⟩
 let p5 : Option Blk := some ⟨2, 94, [.ag [.v (.int .i64 v1.1), .rf 2 0 v1.2.2.length v1.2.2.length]], false⟩
 let p6 : Nat × AV := (5, .pt 1 0 0)
 refine Sem.runS (s1 := ⟨Fr 32 [p1, p3, p6], [p2, p5, p4]⟩) ?_ ?_
 ·refine RunS.segF (n := 32) he 1 [p1, p3, (10, .v (.int .i64 x0))] [p2] kr ?_
  let p7 : Option Blk := some ⟨2, 94, [.ag [.v (.int .i64 v1.2.1), .rf 2 0 v1.2.2.length v1.2.2.length]], false⟩
  refine RunS.inlY (fid := 68) (caps := []) (xs := [.v (.int .i64 x0)]) (fn := Tryd.f68) (Out := fun x h' => x = .ag [.v (.int .i64 v1.1), .rf 2 0 v1.2.2.length v1.2.2.length] ∧ h' = [p2, p7, p4]) rfl rfl e_evening_meetings_k1_ok rfl rfl rfl (wantedA_none rfl) kr kr kr kr (by show 1 ≤ 9; decide) (evening_meetings_k1_sem 0 x0 _ hv1) ?_
  rintro x h' ⟨rfl, rfl⟩
  refine RunS.segF (n := 32) he 2 [p1, p3, (5, .pt 3 0 0)] [p2, p7, p4, p5] kr ?_
  exact RunS.done rfl (Wk.sel2 [0, 3, 2] kr kr kr ⟨⟨_, rfl, bu_c kr kr⟩, ⟨_, rfl, bu_c kr kr⟩, ⟨_, rfl, bu_own⟩, trivial⟩ ⟨lu kr kr, lu kr kr, lu kr kr, trivial⟩)
 refine Sem.seq ?_
 refine Sem.seq ?_
 let p8 : Nat × AV := (13, .v (.int .i64 (x1.length : Int)))
 let p9 : Nat × AV := (12, .sl 1 (x1.map (cdL 1 (cdL 1 cdI)).enc))
 refine Sem.runS (s1 := ⟨Fr 32 [p3, p6, p9, p8, (14, .v (.int .i64 0))], [p2, p5, p4]⟩) ?_ ?_
 ·refine RunS.segF (n := 32) he 1 [p3, p6, p9] [p2, p5, p4] kr ?_
  refine RunS.one he 0 rfl (op_q (wantedA_none rfl) rfl (q_len (a := .sl 1 (x1.map (cdL 1 (cdL 1 cdI)).enc)) kr (len_sl (el := 50) kr))) ?_
  exact RunS.last he
 refine Sem.block ?_
 obtain ⟨r20, hr20, h⟩ := Option.bind_eq_some_iff.1 h
 refine Sem.loop (n := 100000) ?_
 refine Sem.cutN (SemN.wk (s1 := ⟨Fr 32 [p3, p6, p9, p8, (14, .v (.int .i64 0))], [p2, p5, p4]⟩) (Wk.sel2 [0, 1, 2] kr kr kr ⟨⟨_, rfl, bu_c kr kr⟩, ⟨_, rfl, bu_c kr kr⟩, ⟨_, rfl, bu_own⟩, trivial⟩ ⟨lu kr kr, lu kr kr, lu kr kr, lu kr kr, lu kr kr, trivial⟩) (evening_meetings_1_ok x1 v1 _ v1.2.2 0 _ hr20)) ?_
 refine Sem.seq ?_
 let p10 : Option Blk := some ⟨1, 3, (r20.map cdI.enc), false⟩
 refine Sem.runS (s1 := ⟨Fr 32 [p3], [some ⟨2, 94, [.ag [.v (.int .i64 v1.1), .rf 1 0 r20.length r20.length]], false⟩, p10]⟩) ?_ ?_
 ·let p11 : Option Blk := some ⟨2, 94, [.ag [.v (.int .i64 v1.1), .rf 2 0 r20.length r20.length]], false⟩
  refine RunS.segF (n := 32) he 2 [p3] [p11, p11, p10] kr ?_
  exact RunS.done rfl (Wk.sel2 [0, 2] kr kr kr ⟨⟨_, rfl, bu_c kr kr⟩, ⟨_, rfl, bu_own⟩, trivial⟩ ⟨lu kr kr, trivial⟩)
 refine Sem.ret ?_
 have hq := Option.some.inj h; subst hq
 let p12 : Option Blk := some ⟨2, 94, [.ag [.v (.int .i64 v1.1), .sl 1 (r20.map cdI.enc)]], false⟩
 exact ⟨⟨Fr 32 [p3], [p12]⟩, (Wk.trans (s1 := ⟨Fr 32 [p3], [p12, none]⟩) (Wk.frzG2 1 (.inl kr) ⟨.inr (.inr ⟨_, _, _, _, rfl, rfl, ⟨(.inr ⟨_, _, rfl, rfl, ⟨.inl rfl, fz_rlT (c := cdI) (xs := r20) (t := 3) kr, trivial⟩⟩), trivial⟩⟩), .inl rfl, trivial⟩ ⟨⟨.pt 0 0 0, kr, (.inl (.inl rfl))⟩, trivial⟩) (Wk.sel2 [0] kr kr kr ⟨⟨_, rfl, bu_c kr kr⟩, trivial⟩ ⟨lu kr kr, trivial⟩)), .inr rfl, [.ag [.v (.int .i64 v1.1), .sl 1 (r20.map cdI.enc)]], kr, kr⟩
def t_evening_meetings : List AV → Option AV := told cs_evening_meetings (fun a => evening_meetings a.1 a.2.1) er_evening_meetings
theorem x_evening_meetings : XOk 80 t_evening_meetings := by
 refine EnvOk.x (E := e_evening_meetings) (contract_ok e_evening_meetings_ok (fn := Tryd.f80) (c := cb_evening_meetings) ?h1 ?h2 ⟨Tryd.call80⟩ cs_evening_meetings (fun a => evening_meetings a.1 a.2.1) er_evening_meetings (fun a => (by show 2 ≤ 32; decide)) ?h3 ?h4) rfl rfl
 case h1 => kernel_rfl
 case h2 => kernel_rfl
 case h3 => intro b; kernel_rfl
 case h4 => exact fun a b h => evening_meetings_sem a.1 a.2.1 b h
section
variable {w w' : World} {Z Z' : Nat → Prop} {R R' : List RI} {h h' : Hp}
end
section
variable {E : Env} {ops : Array Oper} {rest rest' : List Oper} {K : St → Prop} {n : Nat} {l : List (Nat × AV)} {hp : Hp} {xs : List AV} {Out : AV → Hp → Prop}
end
set_option maxHeartbeats 4000000 in
set_option maxRecDepth 100000 in
theorem evening_meetings_semO (x0 : Int) (x1 : (List (List (List Int)))) (r : (Int × (List Int))) (h : evening_meetings x0 x1 = some r) : Sem e_evening_meetings ⟨none, false⟩ cb_evening_meetings ⟨Fr 32 (pairs0 0 (cs_evening_meetings.enc (x0, x1, ()))), []⟩ fun e s' => (e = .normal ∨ e = .ret) ∧ ∃ xs, resA e_evening_meetings.P s'.fr s'.hp Tryd.f80.results.toList = some xs ∧ (fun x h' => x = .ag [.v (.int .i64 r.1), .rf 0 0 r.2.length r.2.length] ∧ h' = [some ⟨1, 3, r.2.map cdI.enc, false⟩, some ⟨2, 94, [.ag [.v (.int .i64 r.1), .rf 0 0 r.2.length r.2.length]], false⟩]) (retA xs) s'.hp := by
 have he := e_evening_meetings_ok
 unfold evening_meetings at h
 let p1 : Nat × AV := (1, .sl 1 (x1.map (cdL 1 (cdL 1 cdI)).enc))
 refine Sem.wkQ (Sem.wk (s1 := ⟨Fr 32 [(0, .v (.int .i64 x0)), p1], []⟩) (Wk.fr kr) ?_)
 let p2 : Option Blk := some ⟨2, 94, [.ag [.v (.int .i64 0), .e0]], false⟩
 let p3 : Nat × AV := (4, .pt 0 0 0)
 refine Sem.sq he [(0, .v (.int .i64 x0)), p1, p3] [p2] ?_
 refine Sem.seq ?_
 obtain ⟨v1, hv1, h⟩ := Option.bind_eq_some_iff.1 h
 let p4 : Option Blk := some ⟨1, 3, (v1.2.2.map cdI.enc), false⟩
 let p5 : Option Blk := some ⟨2, 94, [.ag [.v (.int .i64 v1.1), .rf 2 0 v1.2.2.length v1.2.2.length]], false⟩
 let p6 : Nat × AV := (5, .pt 1 0 0)
 refine Sem.runS (s1 := ⟨Fr 32 [p1, p3, p6], [p2, p5, p4]⟩) ?_ ?_
 ·refine RunS.segF (n := 32) he 1 [p1, p3, (10, .v (.int .i64 x0))] [p2] kr ?_
  let p7 : Option Blk := some ⟨2, 94, [.ag [.v (.int .i64 v1.2.1), .rf 2 0 v1.2.2.length v1.2.2.length]], false⟩
  refine RunS.inlY (fid := 68) (caps := []) (xs := [.v (.int .i64 x0)]) (fn := Tryd.f68) (Out := fun x h' => x = .ag [.v (.int .i64 v1.1), .rf 2 0 v1.2.2.length v1.2.2.length] ∧ h' = [p2, p7, p4]) rfl rfl e_evening_meetings_k1_ok rfl rfl rfl (wantedA_none rfl) kr kr kr kr (by show 1 ≤ 9; decide) (evening_meetings_k1_sem 0 x0 _ hv1) ?_
  rintro x h' ⟨rfl, rfl⟩
  refine RunS.segF (n := 32) he 2 [p1, p3, (5, .pt 3 0 0)] [p2, p7, p4, p5] kr ?_
  exact RunS.done rfl (Wk.sel2 [0, 3, 2] kr kr kr ⟨⟨_, rfl, bu_c kr kr⟩, ⟨_, rfl, bu_c kr kr⟩, ⟨_, rfl, bu_own⟩, trivial⟩ ⟨lu kr kr, lu kr kr, lu kr kr, trivial⟩)
 refine Sem.seq ?_
 refine Sem.seq ?_
 let p8 : Nat × AV := (13, .v (.int .i64 (x1.length : Int)))
 let p9 : Nat × AV := (12, .sl 1 (x1.map (cdL 1 (cdL 1 cdI)).enc))
 refine Sem.runS (s1 := ⟨Fr 32 [p3, p6, p9, p8, (14, .v (.int .i64 0))], [p2, p5, p4]⟩) ?_ ?_
 ·refine RunS.segF (n := 32) he 1 [p3, p6, p9] [p2, p5, p4] kr ?_
  refine RunS.one he 0 rfl (op_q (wantedA_none rfl) rfl (q_len (a := .sl 1 (x1.map (cdL 1 (cdL 1 cdI)).enc)) kr (len_sl (el := 50) kr))) ?_
  exact RunS.last he
 refine Sem.block ?_
 obtain ⟨r20, hr20, h⟩ := Option.bind_eq_some_iff.1 h
 refine Sem.loop (n := 100000) ?_
 refine Sem.cutN (SemN.wk (s1 := ⟨Fr 32 [p3, p6, p9, p8, (14, .v (.int .i64 0))], [p2, p5, p4]⟩) (Wk.sel2 [0, 1, 2] kr kr kr ⟨⟨_, rfl, bu_c kr kr⟩, ⟨_, rfl, bu_c kr kr⟩, ⟨_, rfl, bu_own⟩, trivial⟩ ⟨lu kr kr, lu kr kr, lu kr kr, lu kr kr, lu kr kr, trivial⟩) (evening_meetings_1_ok x1 v1 _ v1.2.2 0 _ hr20)) ?_
 refine Sem.seq ?_
 let p10 : Option Blk := some ⟨1, 3, (r20.map cdI.enc), false⟩
 refine Sem.runS (s1 := ⟨Fr 32 [p3], [some ⟨2, 94, [.ag [.v (.int .i64 v1.1), .rf 1 0 r20.length r20.length]], false⟩, p10]⟩) ?_ ?_
 ·let p11 : Option Blk := some ⟨2, 94, [.ag [.v (.int .i64 v1.1), .rf 2 0 r20.length r20.length]], false⟩
  refine RunS.segF (n := 32) he 2 [p3] [p11, p11, p10] kr ?_
  exact RunS.done rfl (Wk.sel2 [0, 2] kr kr kr ⟨⟨_, rfl, bu_c kr kr⟩, ⟨_, rfl, bu_own⟩, trivial⟩ ⟨lu kr kr, trivial⟩)
 refine Sem.ret ?_
 have hq := Option.some.inj h; subst hq
 exact ⟨⟨Fr 32 [(4, .pt 1 0 0)], [p10, some ⟨2, 94, [.ag [.v (.int .i64 v1.1), .rf 0 0 r20.length r20.length]], false⟩]⟩, (Wk.sel2 [1, 0] kr kr kr ⟨⟨_, rfl, bu_own⟩, ⟨_, rfl, bu_c kr kr⟩, trivial⟩ ⟨lu kr kr, trivial⟩), .inr rfl, [.ag [.v (.int .i64 v1.1), .rf 0 0 r20.length r20.length]], kr, ⟨kr, kr⟩⟩
theorem s1_evening_meetings (x0 : Int) (x1 : (List (List (List Int)))) (r : (Int × (List Int))) (h : evening_meetings x0 x1 = some r) : SOk 80 (cs_evening_meetings.enc (x0, x1, ())) ((fun x h' => x = .ag [.v (.int .i64 r.1), .rf 0 0 r.2.length r.2.length] ∧ h' = [some ⟨1, 3, r.2.map cdI.enc, false⟩, some ⟨2, 94, [.ag [.v (.int .i64 r.1), .rf 0 0 r.2.length r.2.length]], false⟩])) :=
 sok_of_sem e_evening_meetings_ok rfl rfl (fn := Tryd.f80) (c := cb_evening_meetings) kr kr ⟨Tryd.call80⟩ (by show 2 ≤ 32; decide) (evening_meetings_semO x0 x1 r h)
theorem s_evening_meetings (x0 : Int) (x1 : (List (List (List Int)))) (r : (Int × (List Int))) (h : evening_meetings x0 x1 = some r) : SOk 80 (cs_evening_meetings.enc (x0, x1, ())) (fun x h' => x = .ag [.v (.int .i64 r.1), .rf 0 0 r.2.length r.2.length] ∧ h' = [some ⟨1, 3, r.2.map cdI.enc, false⟩, none]) :=
 SOk.kill 1 (s1_evening_meetings x0 x1 r h) fun x h' ⟨h1, h2⟩ => ⟨h1, by rw [h2]; rfl⟩
/- trestle/evening.clone -/
noncomputable def e_evening_clone_d : Env := E0
theorem e_evening_clone_d_ok : EnvOk e_evening_clone_d := E0_ok
noncomputable def cb_evening_clone_d : Code := codeOf Tryd.f79
def evening_clone_d_2 (v6 : (List (List Int))) : Nat → Int → (List (List Int)) → Option (((List (List Int))))
 | 0, _, _ => none
 | f + 1, c8, c10 =>
  if (decide (c8 < (v6.length : Int))) = true then
  (idx v6 c8).bind fun v12 =>
  if (capOk 8 v12.length) = true then
  if (capOk 24 (c10.length + ([v12] : List (List Int)).length)) = true then
  evening_clone_d_2 v6 f (wr .i64 (c8 + 1)) (c10 ++ ([v12] : List (List Int)))
  else none
  else none
  else
  some c10
def evening_clone_d_1 (x0 : (List (List (List Int)))) : Nat → Int → (List (List (List Int))) → Option (((List (List (List Int)))))
 | 0, _, _ => none
 | f + 1, c2, c4 =>
  if (decide (c2 < (x0.length : Int))) = true then
  (idx x0 c2).bind fun v6 =>
  (evening_clone_d_2 v6 100000 0 ([] : (List (List Int)))).bind fun r32 =>
  if (capOk 24 (c4.length + ([r32] : List (List (List Int))).length)) = true then
  evening_clone_d_1 x0 f (wr .i64 (c2 + 1)) (c4 ++ ([r32] : List (List (List Int))))
  else none
  else
  some c4
def evening_clone_d (x0 : (List (List (List Int)))) : Option ((List (List (List Int)))) :=
 (evening_clone_d_1 x0 100000 0 ([] : (List (List (List Int))))).bind fun r50 =>
 some r50
set_option maxHeartbeats 4000000 in
set_option maxRecDepth 100000 in
theorem evening_clone_d_2_ok {L : List Asn} (v6 : (List (List Int))) (x0 : (List (List (List Int)))) (c2 : Int) (e3 : AV) (c4 : (List (List (List Int)))) : ∀ (f : Nat) (c8 : Int) (c10 : (List (List Int))) (r : ((List (List Int)))), evening_clone_d_2 v6 f c8 c10 = some r → ∀ (e9 : AV) (hp : Hp), T hp ((own_ (ocL 1 50 (ocL 1 31 (ocL 1 3 (ocV cdI)))) e3 c4) :: (own_ (ocL 1 31 (ocL 1 3 (ocV cdI))) e9 c10) :: L) → SemYN e_evening_clone_d ⟨none, false⟩ (pc cb_evening_clone_d [1, 1, 0, 1, 0, 0, 1, 1, 0, 0, 1, 1, 0, 1, 0, 0]) f ⟨Fr 33 [(3, e3), (6, e9), (9, .sl 1 (x0.map (cdL 1 (cdL 1 cdI)).enc)), (10, .v (.int .i64 (x0.length : Int))), (11, .v (.int .i64 c2)), (15, .sl 1 (v6.map (cdL 1 cdI).enc)), (16, .v (.int .i64 (v6.length : Int))), (17, .v (.int .i64 c8))], hp⟩ (fun e s => e = (.exit 2) ∧ ∃ s2, (∃ (e29 : AV) (h' : Hp), T h' ((own_ (ocL 1 50 (ocL 1 31 (ocL 1 3 (ocV cdI)))) e3 c4) :: (own_ (ocL 1 31 (ocL 1 3 (ocV cdI))) e29 r) :: L) ∧ s2 = ⟨Fr 33 [(3, e3), (6, e29), (9, .sl 1 (x0.map (cdL 1 (cdL 1 cdI)).enc)), (10, .v (.int .i64 (x0.length : Int))), (11, .v (.int .i64 c2))], h'⟩) ∧ WkY e_evening_clone_d s s2) := by
 have he := e_evening_clone_d_ok
 intro f
 induction f with
 | zero => intro c8 c10 r h; cases h
 | succ f ih0 =>
  intro c8 c10 r h e9 hp hT
  unfold evening_clone_d_2 at h
  refine SemYN.succ ?_
  let p1 : Nat × AV := (17, .v (.int .i64 c8))
  let p2 : Nat × AV := (16, .v (.int .i64 (v6.length : Int)))
  let p3 : Nat × AV := (15, .sl 1 (v6.map (cdL 1 cdI).enc))
  let p4 : Nat × AV := (11, .v (.int .i64 c2))
  let p5 : Nat × AV := (10, .v (.int .i64 (x0.length : Int)))
  let p6 : Nat × AV := (9, .sl 1 (x0.map (cdL 1 (cdL 1 cdI)).enc))
  refine SemY.sq he [(3, e3), (6, e9), p6, p5, p4, p3, p2, p1, (18, .v (.bool (decide (c8 < (v6.length : Int)))))] ?_
  refine SemY.seq ?_
  refine SemY.cond (b := (decide (c8 < (v6.length : Int)))) kr (fun hb11 => ?_) (fun hb11 => ?_)
  ·rw [if_pos hb11] at h
   refine SemY.skip ?_
   refine SemY.seq ?_
   refine SemY.block ?_
   refine SemY.seq ?_
   refine SemY.regionL ?_
   obtain ⟨v12, hv12, h⟩ := Option.bind_eq_some_iff.1 h
   refine RunL.one he 0 rfl (op_q (wantedA_none rfl) rfl (q_indexAddr (a := .sl 1 (v6.map (cdL 1 cdI).enc)) (b := .v (.int .i64 c8)) kr kr (ix_sl (e := (cdL 1 cdI).enc) (el := 31) (k := 1) (ki := .i64) kr kr hv12))) ?_
   refine RunL.fin he [(3, e3), (6, e9), (8, .sl 1 (v12.map cdI.enc)), p6, p5, p4, p3, p2, p1] ?_
   refine SemY.regionL ?_
   refine RunL.sg he 2 ?_
   by_cases hk13 : (capOk 8 v12.length) = true
   case neg => rw [if_neg hk13] at h; cases h
   rw [if_pos hk13] at h
   refine RunL.callS rfl rfl (s_clone v12 hk13) rfl (wantedA_none rfl) kr (xs := [.sl 1 (v12.map cdI.enc)]) kr (Sees.cons (SeeV.enc (c := cdL 1 cdI)) Sees.nil) clone_flat ?_
   intro x h' hO; obtain ⟨e14, hp15, e14q, hp15q, hT16⟩ := clone_own hT hO; rw [← e14q, ← hp15q]
   have hl21 : evLen Tryd.prog 31 e14 = some (eI v12.length) := len_B hT16 kr
   obtain ⟨e20, hp17, hb18, hT19⟩ := lit_ownB (P := Tryd.prog) (bytes := 24) (k := 1) (t := 31) (ty := 50) (xs := ([v12] : List (List Int))) (n := 1) fit_L (els_cons ((els_nil (o := (ocL 1 3 (ocV cdI))) hT16).front 1 rfl)) rfl kr kr kr
   refine RunL.one he 0 rfl (op_n (wantedA_none rfl) rfl kr (n_lit (xs := enumA 0 [e14]) kr hb18)) ?_
   by_cases hk26 : (capOk 24 (c10.length + ([v12] : List (List Int)).length)) = true
   case neg => rw [if_neg hk26] at h; cases h
   rw [if_pos hk26] at h
   have hT27 := ((hT19.front 0 rfl).front 2 rfl)
   obtain ⟨e25, hp22, hb23, hT24⟩ := app_ownB (P := Tryd.prog) (ty := 50) (ty2 := 50) (bytes := 24) hT27 kr kr hk26
   refine RunL.one he 0 rfl (op_w (wantedA_none rfl) rfl kr kr (w_append (a := e9) (b := e20) kr kr hb23)) ?_
   refine RunL.fin he [(3, e3), (6, e25), p6, p5, p4, p3, p2, p1] ?_
   refine SemY.regionL ?_
   refine RunL.sg he 2 ?_
   refine RunL.done rfl ?_
   have hT28 := (hT24.front 1 rfl)
   exact SemYN.wk (WkY.fr kr) (ih0 (wr .i64 (c8 + 1)) (c10 ++ ([v12] : List (List Int))) _ h e25 hp22 hT28)
  ·rw [if_f hb11] at h
   refine SemY.exit ?_
   have hq := Option.some.inj h; subst hq
   exact ⟨rfl, _, ⟨e9, hp, hT, rfl⟩, (WkY.fr kr)⟩
set_option maxHeartbeats 4000000 in
set_option maxRecDepth 100000 in
theorem evening_clone_d_1_ok {L : List Asn} (x0 : (List (List (List Int)))) : ∀ (f : Nat) (c2 : Int) (c4 : (List (List (List Int)))) (r : ((List (List (List Int))))), evening_clone_d_1 x0 f c2 c4 = some r → ∀ (e3 : AV) (hp : Hp), T hp ((own_ (ocL 1 50 (ocL 1 31 (ocL 1 3 (ocV cdI)))) e3 c4) :: L) → SemYN e_evening_clone_d ⟨none, false⟩ (pc cb_evening_clone_d [1, 1, 0, 1, 0, 0]) f ⟨Fr 33 [(3, e3), (9, .sl 1 (x0.map (cdL 1 (cdL 1 cdI)).enc)), (10, .v (.int .i64 (x0.length : Int))), (11, .v (.int .i64 c2))], hp⟩ (fun e s => e = (.exit 0) ∧ ∃ s2, (∃ (e48 : AV) (h' : Hp), T h' ((own_ (ocL 1 50 (ocL 1 31 (ocL 1 3 (ocV cdI)))) e48 r) :: L) ∧ s2 = ⟨Fr 33 [(3, e48)], h'⟩) ∧ WkY e_evening_clone_d s s2) := by
 have he := e_evening_clone_d_ok
 intro f
 induction f with
 | zero => intro c2 c4 r h; cases h
 | succ f ih0 =>
  intro c2 c4 r h e3 hp hT
  unfold evening_clone_d_1 at h
  refine SemYN.succ ?_
  let p1 : Nat × AV := (11, .v (.int .i64 c2))
  let p2 : Nat × AV := (10, .v (.int .i64 (x0.length : Int)))
  let p3 : Nat × AV := (9, .sl 1 (x0.map (cdL 1 (cdL 1 cdI)).enc))
  refine SemY.sq he [(3, e3), p3, p2, p1, (12, .v (.bool (decide (c2 < (x0.length : Int)))))] ?_
  refine SemY.seq ?_
  refine SemY.cond (b := (decide (c2 < (x0.length : Int)))) kr (fun hb5 => ?_) (fun hb5 => ?_)
  ·rw [if_pos hb5] at h
   refine SemY.skip ?_
   refine SemY.seq ?_
   refine SemY.block ?_
   refine SemY.seq ?_
   refine SemY.regionL ?_
   obtain ⟨v6, hv6, h⟩ := Option.bind_eq_some_iff.1 h
   refine RunL.one he 0 rfl (op_q (wantedA_none rfl) rfl (q_indexAddr (a := .sl 1 (x0.map (cdL 1 (cdL 1 cdI)).enc)) (b := .v (.int .i64 c2)) kr kr (ix_sl (e := (cdL 1 (cdL 1 cdI)).enc) (el := 50) (k := 1) (ki := .i64) kr kr hv6))) ?_
   let p4 : Nat × AV := (5, .sl 1 (v6.map (cdL 1 cdI).enc))
   refine RunL.fin he [(3, e3), p4, p3, p2, p1] ?_
   refine SemY.sq he [(3, e3), p4, (6, .e0), p3, p2, p1] ?_
   refine SemY.seq ?_
   refine SemY.seq ?_
   refine SemY.regionL ?_
   refine RunL.sg he 1 ?_
   refine RunL.one he 0 rfl (op_q (wantedA_none rfl) rfl (q_len (a := .sl 1 (v6.map (cdL 1 cdI).enc)) kr (len_sl (el := 31) kr))) ?_
   refine RunL.fin he [(3, e3), (6, .e0), p3, p2, p1, (15, .sl 1 (v6.map (cdL 1 cdI).enc)), (16, .v (.int .i64 (v6.length : Int))), (17, .v (.int .i64 0))] ?_
   refine SemY.block ?_
   have hT7 := (T.e0 (k := 1) (ty := 31) (o := (ocL 1 3 (ocV cdI))) hT)
   have hT31 := (hT7.front 1 rfl)
   refine SemY.loop (n := 100000) ?_
   obtain ⟨r32, hr32, h⟩ := Option.bind_eq_some_iff.1 h
   refine SemYN.cutT (SemYN.wk (WkY.fr kr) (evening_clone_d_2_ok v6 x0 c2 e3 c4 _ 0 ([] : (List (List Int))) _ hr32 .e0 hp hT31)) ?_
   rintro _ ⟨e33, hp34, hT35, rfl⟩
   refine SemY.regionL ?_
   refine RunL.sg he 2 ?_
   have hT40 := (hT35.front 1 rfl)
   have hl41 : evLen Tryd.prog 50 e33 = some (eI r32.length) := len_B hT40 kr
   obtain ⟨e39, hp36, hb37, hT38⟩ := lit_ownB (P := Tryd.prog) (bytes := 24) (k := 1) (t := 50) (ty := 22) (xs := ([r32] : List (List (List Int)))) (n := 1) fit_L (els_cons ((els_nil (o := (ocL 1 31 (ocL 1 3 (ocV cdI)))) hT40).front 1 rfl)) rfl kr kr kr
   refine RunL.one he 0 rfl (op_n (wantedA_none rfl) rfl kr (n_lit (xs := enumA 0 [e33]) kr hb37)) ?_
   by_cases hk46 : (capOk 24 (c4.length + ([r32] : List (List (List Int))).length)) = true
   case neg => rw [if_neg hk46] at h; cases h
   rw [if_pos hk46] at h
   have hT47 := ((hT38.front 0 rfl).front 1 rfl)
   obtain ⟨e45, hp42, hb43, hT44⟩ := app_ownB (P := Tryd.prog) (ty := 22) (ty2 := 22) (bytes := 24) hT47 kr kr hk46
   refine RunL.one he 0 rfl (op_w (wantedA_none rfl) rfl kr kr (w_append (a := e3) (b := e39) kr kr hb43)) ?_
   refine RunL.fin he [(3, e45), p3, p2, p1] ?_
   refine SemY.regionL ?_
   refine RunL.sg he 2 ?_
   refine RunL.done rfl ?_
   exact SemYN.wk (WkY.fr kr) (ih0 (wr .i64 (c2 + 1)) (c4 ++ ([r32] : List (List (List Int)))) _ h e45 hp42 hT44)
  ·rw [if_f hb5] at h
   refine SemY.exit ?_
   have hq := Option.some.inj h; subst hq
   exact ⟨rfl, _, ⟨e3, hp, hT, rfl⟩, (WkY.fr kr)⟩
set_option maxHeartbeats 4000000 in
set_option maxRecDepth 100000 in
theorem evening_clone_d_sem {L : List Asn} {hp : Hp} (x0 : (List (List (List Int)))) (r : (List (List (List Int)))) (h : evening_clone_d x0 = some r) (hT : T hp (L)) : SemY e_evening_clone_d ⟨none, false⟩ cb_evening_clone_d ⟨Fr 33 (pairs0 0 [.sl 1 (x0.map (cdL 1 (cdL 1 cdI)).enc)]), hp⟩ fun x s' => (x = .normal ∨ x = .ret) ∧ ∃ ys, resA e_evening_clone_d.P s'.fr s'.hp Tryd.f79.results.toList = some ys ∧ (fun v h' => ∃ (z0 : AV), v = z0 ∧ T h' ((own_ (ocL 1 50 (ocL 1 31 (ocL 1 3 (ocV cdI)))) z0 r) :: L)) (retA ys) s'.hp := by
 have he := e_evening_clone_d_ok
 unfold evening_clone_d at h
 let p1 : Nat × AV := (0, .sl 1 (x0.map (cdL 1 (cdL 1 cdI)).enc))
 refine SemY.wkQ (SemY.wk (s1 := ⟨Fr 33 [p1], hp⟩) (WkY.fr kr) ?_)
 refine SemY.sq he [p1] ?_
 refine SemY.sq he [p1, (3, .e0)] ?_
 refine SemY.seq ?_
 refine SemY.seq ?_
 refine SemY.regionL ?_
 refine RunL.sg he 1 ?_
 refine RunL.one he 0 rfl (op_q (wantedA_none rfl) rfl (q_len (a := .sl 1 (x0.map (cdL 1 (cdL 1 cdI)).enc)) kr (len_sl (el := 50) kr))) ?_
 refine RunL.fin he [(3, .e0), (9, .sl 1 (x0.map (cdL 1 (cdL 1 cdI)).enc)), (10, .v (.int .i64 (x0.length : Int))), (11, .v (.int .i64 0))] ?_
 refine SemY.block ?_
 have hT1 := (T.e0 (k := 1) (ty := 50) (o := (ocL 1 31 (ocL 1 3 (ocV cdI)))) hT)
 refine SemY.loop (n := 100000) ?_
 obtain ⟨r50, hr50, h⟩ := Option.bind_eq_some_iff.1 h
 refine SemYN.cutT (SemYN.wk (WkY.fr kr) (evening_clone_d_1_ok x0 _ 0 ([] : (List (List (List Int)))) _ hr50 .e0 hp hT1)) ?_
 rintro _ ⟨e51, hp52, hT53, rfl⟩
 refine SemY.sq he [(2, e51)] ?_
 refine SemY.ret ?_
 have hq := Option.some.inj h; subst hq
 exact ⟨⟨Fr 33 [(2, e51)], hp52⟩, (WkY.fr kr), .inr rfl, [e51], kr, ⟨e51, rfl, hT53⟩⟩
theorem ty2 : Ty Tryd.prog 2 (.int .i64) 1 8 (.int .i64 0) := ⟨by kernel_rfl, by kernel_rfl⟩
theorem ty3 : Ty Tryd.prog 3 (.int .i64) 1 8 (.int .i64 0) := ⟨by kernel_rfl, by kernel_rfl⟩
noncomputable def fs7 : Array Field := match Tryd.prog.underlying 7 with | some (.struct fs) => fs | _ => #[]
theorem ty31 : Ty Tryd.prog 31 (.slice 3) 1 24 (.slice none 0 0) := ⟨by kernel_rfl, by kernel_rfl⟩
noncomputable def fs94 : Array Field := match Tryd.prog.underlying 94 with | some (.struct fs) => fs | _ => #[]
theorem ty94 : Ty Tryd.prog 94 (.struct fs94) 2 32 (.agg #[.int .i64 0, .slice none 0 0]) := ⟨by kernel_rfl, by kernel_rfl⟩
end Go.Proofs.YtcmgmkepodbpkaaDoor
namespace Go.Proofs.YtcmgmkepodbpkaaDoor
/-! ## Fields -/
theorem mul_bd {a b A B : Int} (h0 : 0 ≤ a) (h1 : a ≤ A) (h2 : 0 ≤ b) (h3 : b ≤ B) : 0 ≤ a * b ∧ a * b ≤ A * B :=
 ⟨Int.mul_nonneg h0 h2, Int.mul_le_mul h1 h3 h2 (by omega)⟩
/-! ## Products -/
/-! ## The reference's fields -/
section guards
variable {P : Program} {Q : Exit → Act → World → Prop} {F : Frm} {l : List (Nat × Value)} {w : World} {ops : Array Oper} {rest : List Oper}
end guards
section rules
variable {P : Program} {Q : Exit → Act → World → Prop} {F : Frm} {l : List (Nat × Value)} {w : World} {ops : Array Oper} {rest : List Oper}
variable {X : List Oper → Frm → List (Nat × Value) → World → Prop} [inst : Runs P X]
variable {d : Nat} {ty t T e : TypeId} {pos : String} {af : Array Edge} {x y : Operand} {ds dT : TypeDesc} {sz by_ sT bT : Nat} {z zT : Value}
end rules
set_option linter.unusedSimpArgs false
set_option linter.unusedVariables false
set_option linter.unusedSimpArgs false
set_option linter.unusedVariables false
set_option linter.unusedSimpArgs false
set_option linter.unusedVariables false
set_option maxRecDepth 100000 in
theorem atZ_ok (n x y : Int) (a0 : Addr) (L c : Nat) (w : World) (hn : 0 ≤ n ∧ n ≤ 64) (hx : 0 ≤ x ∧ x < n) (hy : 0 ≤ y ∧ y < n) (hl : x * n + y < (L : Int)) : Ret Tryd.prog 73 #[.agg #[.int .i64 n, .slice (some a0) L c], .int .i64 x, .int .i64 y] w fun v w' => w.grownBy w' none ∧ v = .pointer (some (Addr.add a0 ((x * n + y).toNat * 1))) := by
 refine ret_in Tryd.func73 rfl rfl rfl ?_
 have pw := pu_refl w
 have h1 := mul_bd hx.1 (show x ≤ n - 1 by omega) hn.1 (Int.le_refl n)
 rw [Int.sub_mul, Int.one_mul] at h1
 have h2 := mul_bd hn.1 hn.2 hn.1 hn.2
 refine wc_seq ?_
 refine wc_region ?_
 refine wl_boxG (cs := [.int .i64 (n), .slice (some a0) L c]) rfl rfl ?_
 intro w2 g1 hg3 hs4 hb5 hn6
 have pw := pu_trans pw hn6
 refine wl_v (st_assign (v := .pointer none) rfl) rfl rfl rfl ?_
 refine wl_nil ?_
 refine wq_then ?_
 refine wc_seq ?_
 refine wc_region ?_
 refine wl_v (st_fieldAddr ty94 (ft := 31) (off := 1) (by kernel_rfl) ty31 rfl) rfl rfl rfl ?_
 refine wl_v (st_load (v := .slice (some a0) L c) ty31 rfl rfl (Bk.cell hb5 (i := 1) rfl)) rfl rfl rfl ?_
 refine wl_v (st_move (v := .int .i64 (x)) rfl) rfl rfl rfl ?_
 refine wl_v (st_fieldAddr ty94 (ft := 3) (off := 0) (by kernel_rfl) ty3 rfl) rfl rfl rfl ?_
 refine wl_v (st_load (v := .int .i64 (n)) ty3 rfl rfl (Bk.cell hb5 (i := 0) rfl)) rfl rfl rfl ?_
 refine wl_v (st_mul rfl rfl (by omega) (by omega)) rfl rfl rfl ?_
 refine wl_v (st_move (v := .int .i64 (y)) rfl) rfl rfl rfl ?_
 refine wl_v (st_add rfl rfl (by omega) (by omega)) rfl rfl rfl ?_
 refine wl_v (st_indexAddr ((x * n) + y).toNat ty31 ty3 rfl rfl (by omega) (by omega)) rfl rfl rfl ?_
 refine wl_v (st_assign (v := .pointer (some (Addr.add a0 (((x * n) + y).toNat * 1)))) rfl) rfl rfl rfl ?_
 refine wl_nil ?_
 refine wq_then ?_
 refine wc_ret ?_
 refine wq_ret1 (v := .pointer (some (Addr.add a0 (((x * n) + y).toNat * 1)))) rfl rfl rfl ?_
 exact ⟨pw, rfl⟩
/-- What is told of a function that only looks: the frozen memory is that of before. -/
def POk (f : FuncId) (g : List AV → Option AV) : Prop := Callable E0.P f ∧ ∀ xs x, g xs = some x → ∀ w Z us, (∀ c, Z c → c < w.heap.size) → VRs w Z [] xs us → Ret E0.P f us.toArray w fun v w' => w.grownBy w' none ∧ VR w' Z [] x v
theorem vr_nil {w : World} {Z : Nat → Prop} {R : List RI} {x : AV} {v : Value} (hv : VR w Z [] x v) (hnx : noRf x = true) : VR w Z R x v := by
 cases hv with
 | v h => exact .v h
 | st h hn => exact .st h hn
 | e0 => exact .e0
 | sl hn hl hc hm ha hx => exact .sl hn hl hc hm ha hx
 | pe hs h3 h1 hu hx => exact .pe hs h3 h1 hu hx
 | _ => simp [noRf] at hnx
section
variable {E : Env} {ops : Array Oper} {rest rest' : List Oper} {K : St → Prop} {n n0 k : Nat} {l : List (Nat × AV)} {hp : Hp}
theorem RunDS.peek (hP : E.P = E0.P) {α β : Type} {s : Cs α} {F : α → Option β} {er : β → AV} {u : α} {v : β} {fid : FuncId} (hX : POk fid (told s F er)) {d : Nat} {f : Operand} {args : Array Operand} {tys : Array TypeId} {ty : TypeId} {pos : String} {af : Array Edge} {g : Option (Nat × Bool)} (hr : rest = ⟨some d, .call ⟨.value f, args, tys⟩, ty, pos, af, g⟩ :: rest') (hw : wantedA ops (Fr n l) ⟨some d, .call ⟨.value f, args, tys⟩, ty, pos, af, g⟩ = some true)
  (hf : opA E (Fr n l) f = some (.fn fid [] [])) (ha : opds (opA E (Fr n l)) args.toList = some (s.enc u)) (hnx : noRf (er v) = true) (hF : F u = some v) (kk : RunDS E ops n0 (k + 1) rest' ⟨Fr n ((d, er v) :: l), hp⟩ K) : RunDS E ops n0 k rest ⟨Fr n l, hp⟩ K := by
 subst hr
 intro base Q w0 Z R0 h0 a w R hh0 hn0 hT sr hgr st hpre hTk hlen hops q
 have hok : ops[k]? = some ⟨some d, .call ⟨.value f, args, tys⟩, ty, pos, af, g⟩ := by have := hops 0; simpa using this.symm
 have hops' : ∀ j, rest'[j]? = ops[k + 1 + j]? := fun j => by have := hops (j + 1); simpa [Nat.add_assoc, Nat.add_comm 1 j] using this
 have hlen' : k + 1 + rest'.length = ops.size := by simp at hlen ⊢; omega
 have hTk' : tailAt ops = tailGo rest' (k + 1) := by
  rw [hTk]
  conv => lhs; unfold tailGo; rw [if_neg (by simp [isW])]
 refine ⟨fun _ => hgr, ?_⟩
 rw [if_pos (wantedA_eq sr hw)]
 have hq : isQ (.call ⟨.value f, args, tys⟩ : Op) = false := rfl
 rw [if_pos (by simp [hok, hq])]
 have hρ : ∀ o x, opA E (Fr n l) o = some x → VR w Z R x (a.eval o) := fun o x e => opA_vr sr o x e
 have hva : a.eval f = .func (.func fid) #[] #[] := by
  have := hρ _ _ hf
  generalize a.eval f = vf at this
  cases this with
  | fn hl hl' hx hy =>
   rename_i u1 u2
   have e1 : u1 = [] := by simpa using hl
   have e2 : u2 = [] := by simpa using hl'
   subst e1 e2; rfl
 have hcl : Callable E.P fid := hP ▸ hX.1
 unfold Lw
 rw [run_call (uf := []) (uc := []) rfl hva rfl hcl w]
 simp only [List.nil_append, List.append_nil]
 have hret := hX.2 (s.enc u) (er v) (told_enc hF) w Z _ sr.hh.zlt (noRfs_vr (s.nr u) (opds_vr hρ ha))
 rw [← hP] at hret
 refine Ret.mono hret fun v w' ⟨hg1, hv⟩ => ?_
 have stp : Step w Z R hp w' Z R hp := ⟨hg1.os, hg1.tape, hg1.output, hg1.size, fun c hc _ => hg1.block c hc (by simp), fun _ h => .inl h, fun _ h => h, fun _ h => .inl h, fun _ _ h => h⟩
 have hh' : HR w' Z R hp := sr.hh.keep hg1.size (fun c hc => hg1.block c hc (by simp))
 have sr' : SR E base w' Z R ⟨Fr n l, hp⟩ a := sr.step hh' stp
 exact kk base Q w0 Z R0 h0 _ w' R hh0 hn0 hT (by have := sr'.put (d := some d) (vr_nil hv hnx); rwa [putA_Fr] at this) (pu_trans hgr hg1) (st.trans stp) hpre hTk' hlen' hops' q
end
def square_at (s : Int × List Int) (x y : Int) : Option Int := if 0 ≤ s.1 ∧ s.1 ≤ 64 ∧ 0 ≤ x ∧ x < s.1 ∧ 0 ≤ y ∧ y < s.1 then idx s.2 (x * s.1 + y) else none
def cs_square_at : Cs ((Int × List Int) × Int × Int × Unit) := (csC (cdG2 cdI (cdL 1 cdI) (fun _ => rfl) (fun _ => rfl)) (csC cdI (csC cdI csN)))
def er_square_at (r : Int) : AV := .pe (cdI.enc r) 0
theorem x_square_at : POk 73 (told cs_square_at (fun a => square_at a.1 a.2.1 a.2.2.1) er_square_at) := by
 refine ⟨⟨Tryd.call73⟩, fun xs x h w Z us hz hv => ?_⟩
 obtain ⟨⟨⟨n, cells⟩, p, q, u⟩, ha, hh⟩ := Option.bind_eq_some_iff.1 h
 obtain ⟨r, hb, rfl⟩ := Option.map_eq_some_iff.1 hh
 clear h hh
 replace hv := cs_square_at.vr ha hv
 clear ha
 obtain ⟨u1, r1, rfl, h1, hv1⟩ := hv.head
 obtain ⟨u2, r2, rfl, h2, hv2⟩ := hv1.head
 obtain ⟨u3, r3, rfl, h3, hv3⟩ := hv2.head
 have hr3 : r3 = [] := List.eq_nil_of_length_eq_zero hv3.len
 subst hr3
 clear hv hv1 hv2 hv3
 rw [h2.v_inv, h3.v_inv]
 simp only [square_at] at hb
 split at hb
 ·next hc =>
  obtain ⟨c1, c2, c3, c4, c5, c6⟩ := hc
  have hi : 0 ≤ p * n + q := Int.add_nonneg (Int.mul_nonneg c3 c1) c5
  unfold idx at hb
  rw [if_pos hi] at hb
  obtain ⟨hlt, hge⟩ := List.getElem?_eq_some_iff.1 hb
  cases h1 with
  | ag hl hh hx =>
   rename_i us
   match us, hl, hx with
   | [v1, v2], hl0, hx0 =>
    have e1 := (hx0 0 _ v1 rfl rfl).v_inv
    have e2 : VR w Z [] (.sl 1 (cells.map cdI.enc)) v2 := hx0 1 _ v2 rfl rfl
    clear hx0 hl0
    rw [e1]
    cases e2 with
    | sl hn hl hc hm ha hx =>
     rename_i c n' A us
     rw [List.length_map] at hn hl
     obtain ⟨a, h1, h2, h3, h4⟩ := ha (by omega)
     have hus : (p * n + q).toNat < us.length := by omega
     have hu := List.getElem?_eq_getElem hus
     have e3 := (hx _ (cdI.enc cells[(p * n + q).toNat]) _ (by rw [List.getElem?_map, List.getElem?_eq_getElem hlt]; rfl) hu).v_inv
     rw [hge] at e3
     have h5 := (h4 _ _ hu).2.2 0 (.int .i64 r) (by rw [e3]; rfl)
     subst h1
     have hblk := hz _ h3
     refine Ret.mono (atZ_ok n p q a n' c w ⟨c1, c2⟩ ⟨c3, c4⟩ ⟨c5, c6⟩ (by omega)) fun v w' ⟨hg, hv⟩ => ⟨hg, ?_⟩
     subst hv
     have ea : a.add ((p * n + q).toNat * 1) = ⟨a.block, a.off + (p * n + q).toNat + 0, none⟩ := by
      cases a
      simp only at h2
      subst h2
      simp [Addr.add]
     rw [ea]
     refine .pe (a := ⟨a.block, a.off + (p * n + q).toNat, none⟩) (u := .int .i64 r) rfl h3 (fun s hs => ?_) (fun j s hs => ?_) (.v rfl)
     ·have : s = .int .i64 r := by simpa [Value.cells] using hs
      rw [this]; rfl
     ·match j, hs with
      | 0, hs =>
       have hs' : s = .int .i64 r := by simpa [Value.cells] using hs.symm
       subst hs'
       have h6 : w.cell? ⟨a.block, a.off + (p * n + q).toNat + 0, none⟩ = some (.int .i64 r) := by
        simpa using h5
       have h7 : w'.cell? ⟨a.block, a.off + (p * n + q).toNat + 0, none⟩ = w.cell? ⟨a.block, a.off + (p * n + q).toNat + 0, none⟩ := World.cell?_of_block (hg.block _ hblk (by simp))
       exact h7.trans h6
      | j + 1, hs => simp [Value.cells] at hs
 ·cases hb
/- trestle/evening.gain -/
noncomputable def e_evening_gain : Env := E0
theorem e_evening_gain_ok : EnvOk e_evening_gain := E0_ok
noncomputable def cb_evening_gain : Code := codeOf Tryd.f111
def evening_gain_j2 (x0 : (List (List Int))) (x2 : Int) (x3 : Int) (x5 : Int) (v1 : (List Int)) (c2 : Int) (c3 : (List Int)) (c4 : Int) (c5 : Int) (v7 : Int) : Option ((Int × (List Int) × Int)) :=
 if (v7 != x2) = true then
 (square_at (c2, c3) x2 v7).bind fun v9 =>
 (square_at (c2, c3) x3 v7).bind fun v10 =>
 some (c2, c3, (wr .i64 (c4 + (wr .i64 ((wr .i64 ((wr .i64 (2 * v9)) - 1)) - (wr .i64 ((wr .i64 (2 * v10)) + 1)))))))
 else
 some (c2, c3, c4)
def evening_gain_1 (x0 : (List (List Int))) (x2 : Int) (x3 : Int) (x5 : Int) (v1 : (List Int)) : Nat → Int → (List Int) → Int → Int → Option ((Int × (List Int) × Int))
 | 0, _, _, _, _ => none
 | f + 1, c2, c3, c4, c5 =>
  if (decide (c5 < (v1.length : Int))) = true then
  (idx v1 c5).bind fun v7 =>
  (evening_gain_j2 x0 x2 x3 x5 v1 c2 c3 c4 c5 v7).bind fun r14 =>
  evening_gain_1 x0 x2 x3 x5 v1 f r14.1 r14.2.1 r14.2.2 (wr .i64 (c5 + 1))
  else
  some (c2, c3, c4)
def evening_gain_j4 (x2 : Int) (x3 : Int) (v19 : (List Int)) (c20 : Int) (c21 : (List Int)) (c22 : Int) (c23 : Int) (v25 : Int) : Option ((Int × (List Int) × Int)) :=
 if (v25 != x3) = true then
 (square_at (c20, c21) x3 v25).bind fun v27 =>
 (square_at (c20, c21) x2 v25).bind fun v28 =>
 some (c20, c21, (wr .i64 (c22 + (wr .i64 ((wr .i64 ((wr .i64 (2 * v27)) - 1)) - (wr .i64 ((wr .i64 (2 * v28)) + 1)))))))
 else
 some (c20, c21, c22)
def evening_gain_3 (x2 : Int) (x3 : Int) (v19 : (List Int)) : Nat → Int → (List Int) → Int → Int → Option ((Int))
 | 0, _, _, _, _ => none
 | f + 1, c20, c21, c22, c23 =>
  if (decide (c23 < (v19.length : Int))) = true then
  (idx v19 c23).bind fun v25 =>
  (evening_gain_j4 x2 x3 v19 c20 c21 c22 c23 v25).bind fun r32 =>
  evening_gain_3 x2 x3 v19 f r32.1 r32.2.1 r32.2.2 (wr .i64 (c23 + 1))
  else
  some c22
def evening_gain (x0 : (List (List Int))) (x1 : (Int × (List Int))) (x2 : Int) (x3 : Int) (x4 : Int) (x5 : Int) : Option (Int) :=
 (idx x0 x4).bind fun v1 =>
 (evening_gain_1 x0 x2 x3 x5 v1 100000 x1.1 x1.2 0 0).bind fun r18 =>
 (idx x0 x5).bind fun v19 =>
 (evening_gain_3 x2 x3 v19 100000 r18.1 r18.2.1 r18.2.2 0).bind fun r34 =>
 some r34
def cs_evening_gain : Cs ((List (List Int)) × (Int × (List Int)) × Int × Int × Int × Int × Unit) := (csC (cdL 1 (cdL 1 cdI)) (csC (cdG2 cdI (cdL 1 cdI) (fun _ => rfl) (fun _ => rfl)) (csC cdI (csC cdI (csC cdI (csC cdI csN))))))
def er_evening_gain (r : Int) : AV := cdI.enc r
set_option maxHeartbeats 4000000 in
set_option maxRecDepth 100000 in
theorem evening_gain_j2_ok (x0 : (List (List Int))) (x2 : Int) (x3 : Int) (x5 : Int) (v1 : (List Int)) (c2 : Int) (c3 : (List Int)) (c4 : Int) (c5 : Int) (v7 : Int) (r : (Int × (List Int) × Int)) (h : evening_gain_j2 x0 x2 x3 x5 v1 c2 c3 c4 c5 v7 = some r) : Sem e_evening_gain ⟨none, false⟩ (pc cb_evening_gain [1, 1, 0, 1, 0, 0, 1, 1, 0, 0, 1, 1]) ⟨Fr 83 [(0, .sl 1 (x0.map (cdL 1 cdI).enc)), (2, .v (.int .i64 x2)), (3, .v (.int .i64 x3)), (5, .v (.int .i64 x5)), (7, .pt 0 0 0), (13, .v (.int .i64 c4)), (15, .v (.int .i64 v7)), (21, .sl 1 (v1.map cdI.enc)), (22, .v (.int .i64 (v1.length : Int))), (23, .v (.int .i64 c5)), (29, .v (.bool (v7 != x2)))], [some ⟨2, 94, [.ag [.v (.int .i64 c2), .sl 1 (c3.map cdI.enc)]], false⟩]⟩ (fun e s => e = .normal ∧ Wk e_evening_gain s ⟨Fr 83 [(0, .sl 1 (x0.map (cdL 1 cdI).enc)), (2, .v (.int .i64 x2)), (3, .v (.int .i64 x3)), (5, .v (.int .i64 x5)), (7, .pt 0 0 0), (13, .v (.int .i64 r.2.2)), (21, .sl 1 (v1.map cdI.enc)), (22, .v (.int .i64 (v1.length : Int))), (23, .v (.int .i64 c5))], [some ⟨2, 94, [.ag [.v (.int .i64 r.1), .sl 1 (r.2.1.map cdI.enc)]], false⟩]⟩) := by
 have he := e_evening_gain_ok
 unfold evening_gain_j2 at h
 refine Sem.cond (b := (v7 != x2)) kr (fun hb8 => ?_) (fun hb8 => ?_)
 ·rw [if_pos hb8] at h
  obtain ⟨v9, hv9, h⟩ := Option.bind_eq_some_iff.1 h
  obtain ⟨v10, hv10, h⟩ := Option.bind_eq_some_iff.1 h
  let p1 : Option Blk := some ⟨2, 94, [.ag [.v (.int .i64 c2), .sl 1 (c3.map cdI.enc)]], false⟩
  let p2 : Nat × AV := (23, .v (.int .i64 c5))
  let p3 : Nat × AV := (22, .v (.int .i64 (v1.length : Int)))
  let p4 : Nat × AV := (21, .sl 1 (v1.map cdI.enc))
  let p5 : Nat × AV := (13, .v (.int .i64 (wr .i64 (c4 + (wr .i64 ((wr .i64 ((wr .i64 (2 * v9)) - 1)) - (wr .i64 ((wr .i64 (2 * v10)) + 1))))))))
  let p6 : Nat × AV := (7, .pt 0 0 0)
  let p7 : Nat × AV := (5, .v (.int .i64 x5))
  let p8 : Nat × AV := (3, .v (.int .i64 x3))
  let p9 : Nat × AV := (2, .v (.int .i64 x2))
  let p10 : Nat × AV := (0, .sl 1 (x0.map (cdL 1 cdI).enc))
  refine Sem.runDS he (s1 := ⟨Fr 83 [p10, p9, p8, p7, p6, p5, p4, p3, p2], [p1]⟩) kr ?_ ?_
  ·refine RunDS.segF (n := 83) he 4 [p10, p9, p8, p7, p6, (15, .v (.int .i64 v7)), p4, p3, p2, (30, .v (.int .i64 c4)), (31, .ag [.v (.int .i64 c2), .sl 1 (c3.map cdI.enc)]), (32, .v (.int .i64 x2)), (33, .v (.int .i64 v7))] [p1] kr kr ?_
   refine RunDS.peek rfl x_square_at (u := ((c2, c3), x2, v7, ())) rfl (wantedA_none rfl) kr kr rfl hv9 ?_
   refine RunDS.segF (n := 83) he 7 [p10, p9, p8, p7, p6, p4, p3, p2, (30, .v (.int .i64 c4)), (38, .v (.int .i64 (wr .i64 ((wr .i64 (2 * v9)) - 1)))), (39, .ag [.v (.int .i64 c2), .sl 1 (c3.map cdI.enc)]), (40, .v (.int .i64 x3)), (41, .v (.int .i64 v7))] [p1] kr kr ?_
   refine RunDS.peek rfl x_square_at (u := ((c2, c3), x3, v7, ())) rfl (wantedA_none rfl) kr kr rfl hv10 ?_
   refine RunDS.segF (n := 83) he 7 [p10, p9, p8, p7, p6, p5, p4, p3, p2] [p1] kr kr ?_
   exact RunDS.done rfl (Wk.sel2 [0] kr kr kr ⟨⟨_, rfl, bu_c kr kr⟩, trivial⟩ ⟨lu kr kr, lu kr kr, lu kr kr, lu kr kr, lu kr kr, lu kr kr, lu kr kr, lu kr kr, lu kr kr, trivial⟩)
  have hq := Option.some.inj h; subst hq
  exact ⟨rfl, (Wk.sel2 [0] kr kr kr ⟨⟨_, rfl, bu_c kr kr⟩, trivial⟩ ⟨lu kr kr, lu kr kr, lu kr kr, lu kr kr, lu kr kr, lu kr kr, lu kr kr, lu kr kr, lu kr kr, trivial⟩)⟩
 ·rw [if_f hb8] at h
  refine Sem.skip ?_
  have hq := Option.some.inj h; subst hq
  exact ⟨rfl, (Wk.sel2 [0] kr kr kr ⟨⟨_, rfl, bu_c kr kr⟩, trivial⟩ ⟨lu kr kr, lu kr kr, lu kr kr, lu kr kr, lu kr kr, lu kr kr, lu kr kr, lu kr kr, lu kr kr, trivial⟩)⟩
set_option maxHeartbeats 4000000 in
set_option maxRecDepth 100000 in
theorem evening_gain_1_ok (x0 : (List (List Int))) (x2 : Int) (x3 : Int) (x5 : Int) (v1 : (List Int)) : ∀ (f : Nat) (c2 : Int) (c3 : (List Int)) (c4 : Int) (c5 : Int) (r : (Int × (List Int) × Int)), evening_gain_1 x0 x2 x3 x5 v1 f c2 c3 c4 c5 = some r → SemN e_evening_gain ⟨none, false⟩ (pc cb_evening_gain [1, 1, 0, 1, 0, 0]) f ⟨Fr 83 [(0, .sl 1 (x0.map (cdL 1 cdI).enc)), (2, .v (.int .i64 x2)), (3, .v (.int .i64 x3)), (5, .v (.int .i64 x5)), (7, .pt 0 0 0), (13, .v (.int .i64 c4)), (21, .sl 1 (v1.map cdI.enc)), (22, .v (.int .i64 (v1.length : Int))), (23, .v (.int .i64 c5))], [some ⟨2, 94, [.ag [.v (.int .i64 c2), .sl 1 (c3.map cdI.enc)]], false⟩]⟩ (fun e s => e = (.exit 0) ∧ Wk e_evening_gain s ⟨Fr 83 [(0, .sl 1 (x0.map (cdL 1 cdI).enc)), (2, .v (.int .i64 x2)), (3, .v (.int .i64 x3)), (5, .v (.int .i64 x5)), (7, .pt 0 0 0), (13, .v (.int .i64 r.2.2))], [some ⟨2, 94, [.ag [.v (.int .i64 r.1), .sl 1 (r.2.1.map cdI.enc)]], false⟩]⟩) := by
 have he := e_evening_gain_ok
 intro f
 induction f with
 | zero => intro c2 c3 c4 c5 r h; cases h
 | succ f ih0 =>
  intro c2 c3 c4 c5 r h
  have ih := fun (c2 : Int) (c3 : (List Int)) (c4 : Int) (c5 : Int) => ih0 c2 c3 c4 c5 r
  unfold evening_gain_1 at h
  refine SemN.succ ?_
  let p1 : Option Blk := some ⟨2, 94, [.ag [.v (.int .i64 c2), .sl 1 (c3.map cdI.enc)]], false⟩
  let p2 : Nat × AV := (23, .v (.int .i64 c5))
  let p3 : Nat × AV := (22, .v (.int .i64 (v1.length : Int)))
  let p4 : Nat × AV := (21, .sl 1 (v1.map cdI.enc))
  let p5 : Nat × AV := (13, .v (.int .i64 c4))
  let p6 : Nat × AV := (7, .pt 0 0 0)
  let p7 : Nat × AV := (5, .v (.int .i64 x5))
  let p8 : Nat × AV := (3, .v (.int .i64 x3))
  let p9 : Nat × AV := (2, .v (.int .i64 x2))
  let p10 : Nat × AV := (0, .sl 1 (x0.map (cdL 1 cdI).enc))
  refine Sem.sq he [p10, p9, p8, p7, p6, p5, p4, p3, p2, (24, .v (.bool (decide (c5 < (v1.length : Int)))))] [p1] ?_
  refine Sem.seq ?_
  refine Sem.cond (b := (decide (c5 < (v1.length : Int)))) kr (fun hb6 => ?_) (fun hb6 => ?_)
  ·rw [if_pos hb6] at h
   refine Sem.skip ?_
   refine Sem.seq ?_
   refine Sem.block ?_
   refine Sem.seq ?_
   obtain ⟨v7, hv7, h⟩ := Option.bind_eq_some_iff.1 h
   refine Sem.runS (s1 := ⟨Fr 83 [p10, p9, p8, p7, p6, p5, (15, .v (.int .i64 v7)), p4, p3, p2], [p1]⟩) ?_ ?_
   ·refine RunS.one he 0 rfl (op_q (wantedA_none rfl) rfl (q_indexAddr (a := .sl 1 (v1.map cdI.enc)) (b := .v (.int .i64 c5)) kr kr (ix_sl (e := cdI.enc) (el := 3) (k := 1) (ki := .i64) kr kr hv7))) ?_
    exact RunS.last he
   refine Sem.sq he [p10, p9, p8, p7, p6, p5, (15, .v (.int .i64 v7)), p4, p3, p2, (29, .v (.bool (v7 != x2)))] [p1] ?_
   obtain ⟨r14, hr14, h⟩ := Option.bind_eq_some_iff.1 h
   refine Sem.cut (evening_gain_j2_ok x0 x2 x3 x5 v1 c2 c3 c4 c5 v7 _ hr14) ?_
   let p11 : Option Blk := some ⟨2, 94, [.ag [.v (.int .i64 r14.1), .sl 1 (r14.2.1.map cdI.enc)]], false⟩
   let p12 : Nat × AV := (23, .v (.int .i64 (wr .i64 (c5 + 1))))
   refine Sem.rg he [p10, p9, p8, p7, p6, (13, .v (.int .i64 r14.2.2)), p4, p3, p12] [p11] ?_
   exact SemN.wk (s1 := ⟨Fr 83 [p10, p9, p8, p7, p6, (13, .v (.int .i64 r14.2.2)), p4, p3, p12], [p11]⟩) (Wk.sel2 [0] kr kr kr ⟨⟨_, rfl, bu_c kr kr⟩, trivial⟩ ⟨lu kr kr, lu kr kr, lu kr kr, lu kr kr, lu kr kr, lu kr kr, lu kr kr, lu kr kr, lu kr kr, trivial⟩) (ih r14.1 r14.2.1 r14.2.2 (wr .i64 (c5 + 1)) h)
  ·rw [if_f hb6] at h
   refine Sem.exit ?_
   have hq := Option.some.inj h; subst hq
   exact ⟨rfl, (Wk.sel2 [0] kr kr kr ⟨⟨_, rfl, bu_c kr kr⟩, trivial⟩ ⟨lu kr kr, lu kr kr, lu kr kr, lu kr kr, lu kr kr, lu kr kr, trivial⟩)⟩
set_option maxHeartbeats 4000000 in
set_option maxRecDepth 100000 in
theorem evening_gain_j4_ok (x2 : Int) (x3 : Int) (v19 : (List Int)) (c20 : Int) (c21 : (List Int)) (c22 : Int) (c23 : Int) (v25 : Int) (r : (Int × (List Int) × Int)) (h : evening_gain_j4 x2 x3 v19 c20 c21 c22 c23 v25 = some r) : Sem e_evening_gain ⟨none, false⟩ (pc cb_evening_gain [1, 1, 1, 0, 1, 0, 0, 1, 1, 0, 0, 1, 1]) ⟨Fr 83 [(2, .v (.int .i64 x2)), (3, .v (.int .i64 x3)), (7, .pt 0 0 0), (13, .v (.int .i64 c22)), (17, .v (.int .i64 v25)), (53, .sl 1 (v19.map cdI.enc)), (54, .v (.int .i64 (v19.length : Int))), (55, .v (.int .i64 c23)), (61, .v (.bool (v25 != x3)))], [some ⟨2, 94, [.ag [.v (.int .i64 c20), .sl 1 (c21.map cdI.enc)]], false⟩]⟩ (fun e s => e = .normal ∧ Wk e_evening_gain s ⟨Fr 83 [(2, .v (.int .i64 x2)), (3, .v (.int .i64 x3)), (7, .pt 0 0 0), (13, .v (.int .i64 r.2.2)), (53, .sl 1 (v19.map cdI.enc)), (54, .v (.int .i64 (v19.length : Int))), (55, .v (.int .i64 c23))], [some ⟨2, 94, [.ag [.v (.int .i64 r.1), .sl 1 (r.2.1.map cdI.enc)]], false⟩]⟩) := by
 have he := e_evening_gain_ok
 unfold evening_gain_j4 at h
 refine Sem.cond (b := (v25 != x3)) kr (fun hb26 => ?_) (fun hb26 => ?_)
 ·rw [if_pos hb26] at h
  obtain ⟨v27, hv27, h⟩ := Option.bind_eq_some_iff.1 h
  obtain ⟨v28, hv28, h⟩ := Option.bind_eq_some_iff.1 h
  let p1 : Option Blk := some ⟨2, 94, [.ag [.v (.int .i64 c20), .sl 1 (c21.map cdI.enc)]], false⟩
  let p2 : Nat × AV := (55, .v (.int .i64 c23))
  let p3 : Nat × AV := (54, .v (.int .i64 (v19.length : Int)))
  let p4 : Nat × AV := (53, .sl 1 (v19.map cdI.enc))
  let p5 : Nat × AV := (13, .v (.int .i64 (wr .i64 (c22 + (wr .i64 ((wr .i64 ((wr .i64 (2 * v27)) - 1)) - (wr .i64 ((wr .i64 (2 * v28)) + 1))))))))
  let p6 : Nat × AV := (7, .pt 0 0 0)
  let p7 : Nat × AV := (3, .v (.int .i64 x3))
  let p8 : Nat × AV := (2, .v (.int .i64 x2))
  refine Sem.runDS he (s1 := ⟨Fr 83 [p8, p7, p6, p5, p4, p3, p2], [p1]⟩) kr ?_ ?_
  ·refine RunDS.segF (n := 83) he 4 [p8, p7, p6, (17, .v (.int .i64 v25)), p4, p3, p2, (62, .v (.int .i64 c22)), (63, .ag [.v (.int .i64 c20), .sl 1 (c21.map cdI.enc)]), (64, .v (.int .i64 x3)), (65, .v (.int .i64 v25))] [p1] kr kr ?_
   refine RunDS.peek rfl x_square_at (u := ((c20, c21), x3, v25, ())) rfl (wantedA_none rfl) kr kr rfl hv27 ?_
   refine RunDS.segF (n := 83) he 7 [p8, p7, p6, p4, p3, p2, (62, .v (.int .i64 c22)), (70, .v (.int .i64 (wr .i64 ((wr .i64 (2 * v27)) - 1)))), (71, .ag [.v (.int .i64 c20), .sl 1 (c21.map cdI.enc)]), (72, .v (.int .i64 x2)), (73, .v (.int .i64 v25))] [p1] kr kr ?_
   refine RunDS.peek rfl x_square_at (u := ((c20, c21), x2, v25, ())) rfl (wantedA_none rfl) kr kr rfl hv28 ?_
   refine RunDS.segF (n := 83) he 7 [p8, p7, p6, p5, p4, p3, p2] [p1] kr kr ?_
   exact RunDS.done rfl (Wk.sel2 [0] kr kr kr ⟨⟨_, rfl, bu_c kr kr⟩, trivial⟩ ⟨lu kr kr, lu kr kr, lu kr kr, lu kr kr, lu kr kr, lu kr kr, lu kr kr, trivial⟩)
  have hq := Option.some.inj h; subst hq
  exact ⟨rfl, (Wk.sel2 [0] kr kr kr ⟨⟨_, rfl, bu_c kr kr⟩, trivial⟩ ⟨lu kr kr, lu kr kr, lu kr kr, lu kr kr, lu kr kr, lu kr kr, lu kr kr, trivial⟩)⟩
 ·rw [if_f hb26] at h
  refine Sem.skip ?_
  have hq := Option.some.inj h; subst hq
  exact ⟨rfl, (Wk.sel2 [0] kr kr kr ⟨⟨_, rfl, bu_c kr kr⟩, trivial⟩ ⟨lu kr kr, lu kr kr, lu kr kr, lu kr kr, lu kr kr, lu kr kr, lu kr kr, trivial⟩)⟩
set_option maxHeartbeats 4000000 in
set_option maxRecDepth 100000 in
theorem evening_gain_3_ok (x2 : Int) (x3 : Int) (v19 : (List Int)) : ∀ (f : Nat) (c20 : Int) (c21 : (List Int)) (c22 : Int) (c23 : Int) (r : (Int)), evening_gain_3 x2 x3 v19 f c20 c21 c22 c23 = some r → SemN e_evening_gain ⟨none, false⟩ (pc cb_evening_gain [1, 1, 1, 0, 1, 0, 0]) f ⟨Fr 83 [(2, .v (.int .i64 x2)), (3, .v (.int .i64 x3)), (7, .pt 0 0 0), (13, .v (.int .i64 c22)), (53, .sl 1 (v19.map cdI.enc)), (54, .v (.int .i64 (v19.length : Int))), (55, .v (.int .i64 c23))], [some ⟨2, 94, [.ag [.v (.int .i64 c20), .sl 1 (c21.map cdI.enc)]], false⟩]⟩ (fun e s => e = (.exit 2) ∧ Wk e_evening_gain s ⟨Fr 83 [(13, .v (.int .i64 r))], []⟩) := by
 have he := e_evening_gain_ok
 intro f
 induction f with
 | zero => intro c20 c21 c22 c23 r h; cases h
 | succ f ih0 =>
  intro c20 c21 c22 c23 r h
  have ih := fun (c20 : Int) (c21 : (List Int)) (c22 : Int) (c23 : Int) => ih0 c20 c21 c22 c23 r
  unfold evening_gain_3 at h
  refine SemN.succ ?_
  let p1 : Option Blk := some ⟨2, 94, [.ag [.v (.int .i64 c20), .sl 1 (c21.map cdI.enc)]], false⟩
  let p2 : Nat × AV := (55, .v (.int .i64 c23))
  let p3 : Nat × AV := (54, .v (.int .i64 (v19.length : Int)))
  let p4 : Nat × AV := (53, .sl 1 (v19.map cdI.enc))
  let p5 : Nat × AV := (13, .v (.int .i64 c22))
  let p6 : Nat × AV := (7, .pt 0 0 0)
  let p7 : Nat × AV := (3, .v (.int .i64 x3))
  let p8 : Nat × AV := (2, .v (.int .i64 x2))
  refine Sem.sq he [p8, p7, p6, p5, p4, p3, p2, (56, .v (.bool (decide (c23 < (v19.length : Int)))))] [p1] ?_
  refine Sem.seq ?_
  refine Sem.cond (b := (decide (c23 < (v19.length : Int)))) kr (fun hb24 => ?_) (fun hb24 => ?_)
  ·rw [if_pos hb24] at h
   refine Sem.skip ?_
   refine Sem.seq ?_
   refine Sem.block ?_
   refine Sem.seq ?_
   obtain ⟨v25, hv25, h⟩ := Option.bind_eq_some_iff.1 h
   refine Sem.runS (s1 := ⟨Fr 83 [p8, p7, p6, p5, (17, .v (.int .i64 v25)), p4, p3, p2], [p1]⟩) ?_ ?_
   ·refine RunS.one he 0 rfl (op_q (wantedA_none rfl) rfl (q_indexAddr (a := .sl 1 (v19.map cdI.enc)) (b := .v (.int .i64 c23)) kr kr (ix_sl (e := cdI.enc) (el := 3) (k := 1) (ki := .i64) kr kr hv25))) ?_
    exact RunS.last he
   refine Sem.sq he [p8, p7, p6, p5, (17, .v (.int .i64 v25)), p4, p3, p2, (61, .v (.bool (v25 != x3)))] [p1] ?_
   obtain ⟨r32, hr32, h⟩ := Option.bind_eq_some_iff.1 h
   refine Sem.cut (evening_gain_j4_ok x2 x3 v19 c20 c21 c22 c23 v25 _ hr32) ?_
   let p9 : Option Blk := some ⟨2, 94, [.ag [.v (.int .i64 r32.1), .sl 1 (r32.2.1.map cdI.enc)]], false⟩
   let p10 : Nat × AV := (55, .v (.int .i64 (wr .i64 (c23 + 1))))
   refine Sem.rg he [p8, p7, p6, (13, .v (.int .i64 r32.2.2)), p4, p3, p10] [p9] ?_
   exact SemN.wk (s1 := ⟨Fr 83 [p8, p7, p6, (13, .v (.int .i64 r32.2.2)), p4, p3, p10], [p9]⟩) (Wk.sel2 [0] kr kr kr ⟨⟨_, rfl, bu_c kr kr⟩, trivial⟩ ⟨lu kr kr, lu kr kr, lu kr kr, lu kr kr, lu kr kr, lu kr kr, lu kr kr, trivial⟩) (ih r32.1 r32.2.1 r32.2.2 (wr .i64 (c23 + 1)) h)
  ·rw [if_f hb24] at h
   refine Sem.exit ?_
   have hq := Option.some.inj h; subst hq
   exact ⟨rfl, (Wk.sel2 [] kr kr kr trivial ⟨lu kr kr, trivial⟩)⟩
set_option maxHeartbeats 4000000 in
set_option maxRecDepth 100000 in
theorem evening_gain_sem (x0 : (List (List Int))) (x1 : (Int × (List Int))) (x2 : Int) (x3 : Int) (x4 : Int) (x5 : Int) (r : Int) (h : evening_gain x0 x1 x2 x3 x4 x5 = some r) : Sem e_evening_gain ⟨none, false⟩ cb_evening_gain ⟨Fr 83 (pairs0 0 (cs_evening_gain.enc (x0, x1, x2, x3, x4, x5, ()))), []⟩ fun e s' => (e = .normal ∨ e = .ret) ∧ ∃ xs, resA e_evening_gain.P s'.fr s'.hp Tryd.f111.results.toList = some xs ∧ retA xs = er_evening_gain r := by
 have he := e_evening_gain_ok
 unfold evening_gain at h
 let p1 : Nat × AV := (5, .v (.int .i64 x5))
 let p2 : Nat × AV := (4, .v (.int .i64 x4))
 let p3 : Nat × AV := (3, .v (.int .i64 x3))
 let p4 : Nat × AV := (2, .v (.int .i64 x2))
 let p5 : Nat × AV := (0, .sl 1 (x0.map (cdL 1 cdI).enc))
 refine Sem.wkQ (Sem.wk (s1 := ⟨Fr 83 [p5, (1, .ag [.v (.int .i64 x1.1), .sl 1 (x1.2.map cdI.enc)]), p4, p3, p2, p1], []⟩) (Wk.fr kr) ?_)
 let p6 : Option Blk := some ⟨2, 94, [.ag [.v (.int .i64 x1.1), .sl 1 (x1.2.map cdI.enc)]], false⟩
 let p7 : Nat × AV := (7, .pt 0 0 0)
 refine Sem.sq he [p5, p4, p3, p2, p1, p7] [p6] ?_
 let p8 : Nat × AV := (13, .v (.int .i64 0))
 refine Sem.sq he [p5, p4, p3, p2, p1, p7, p8] [p6] ?_
 refine Sem.seq ?_
 refine Sem.seq ?_
 obtain ⟨v1, hv1, h⟩ := Option.bind_eq_some_iff.1 h
 let p9 : Nat × AV := (22, .v (.int .i64 (v1.length : Int)))
 let p10 : Nat × AV := (21, .sl 1 (v1.map cdI.enc))
 refine Sem.runS (s1 := ⟨Fr 83 [p5, p4, p3, p1, p7, p8, p10, p9, (23, .v (.int .i64 0))], [p6]⟩) ?_ ?_
 ·refine RunS.segF (n := 83) he 2 [p5, p4, p3, p1, p7, p8, (18, .sl 1 (x0.map (cdL 1 cdI).enc)), (19, .v (.int .i64 x4))] [p6] kr ?_
  refine RunS.one he 0 rfl (op_q (wantedA_none rfl) rfl (q_indexAddr (a := .sl 1 (x0.map (cdL 1 cdI).enc)) (b := .v (.int .i64 x4)) kr kr (ix_sl (e := (cdL 1 cdI).enc) (el := 31) (k := 1) (ki := .i64) kr kr hv1))) ?_
  refine RunS.segF (n := 83) he 1 [p5, p4, p3, p1, p7, p8, p10] [p6] kr ?_
  refine RunS.one he 0 rfl (op_q (wantedA_none rfl) rfl (q_len (a := .sl 1 (v1.map cdI.enc)) kr (len_sl (el := 3) kr))) ?_
  exact RunS.last he
 refine Sem.block ?_
 obtain ⟨r18, hr18, h⟩ := Option.bind_eq_some_iff.1 h
 refine Sem.loop (n := 100000) ?_
 refine Sem.cutN (SemN.wk (s1 := ⟨Fr 83 [p5, p4, p3, p1, p7, p8, p10, p9, (23, .v (.int .i64 0))], [p6]⟩) (Wk.sel2 [0] kr kr kr ⟨⟨_, rfl, bu_c kr kr⟩, trivial⟩ ⟨lu kr kr, lu kr kr, lu kr kr, lu kr kr, lu kr kr, lu kr kr, lu kr kr, lu kr kr, lu kr kr, trivial⟩) (evening_gain_1_ok x0 x2 x3 x5 v1 _ x1.1 x1.2 0 0 _ hr18)) ?_
 refine Sem.seq ?_
 refine Sem.seq ?_
 obtain ⟨v19, hv19, h⟩ := Option.bind_eq_some_iff.1 h
 let p11 : Option Blk := some ⟨2, 94, [.ag [.v (.int .i64 r18.1), .sl 1 (r18.2.1.map cdI.enc)]], false⟩
 let p12 : Nat × AV := (54, .v (.int .i64 (v19.length : Int)))
 let p13 : Nat × AV := (53, .sl 1 (v19.map cdI.enc))
 let p14 : Nat × AV := (13, .v (.int .i64 r18.2.2))
 refine Sem.runS (s1 := ⟨Fr 83 [p4, p3, p7, p14, p13, p12, (55, .v (.int .i64 0))], [p11]⟩) ?_ ?_
 ·refine RunS.segF (n := 83) he 2 [p4, p3, p7, p14, (50, .sl 1 (x0.map (cdL 1 cdI).enc)), (51, .v (.int .i64 x5))] [p11] kr ?_
  refine RunS.one he 0 rfl (op_q (wantedA_none rfl) rfl (q_indexAddr (a := .sl 1 (x0.map (cdL 1 cdI).enc)) (b := .v (.int .i64 x5)) kr kr (ix_sl (e := (cdL 1 cdI).enc) (el := 31) (k := 1) (ki := .i64) kr kr hv19))) ?_
  refine RunS.segF (n := 83) he 1 [p4, p3, p7, p14, p13] [p11] kr ?_
  refine RunS.one he 0 rfl (op_q (wantedA_none rfl) rfl (q_len (a := .sl 1 (v19.map cdI.enc)) kr (len_sl (el := 3) kr))) ?_
  exact RunS.last he
 refine Sem.block ?_
 obtain ⟨r34, hr34, h⟩ := Option.bind_eq_some_iff.1 h
 refine Sem.loop (n := 100000) ?_
 refine Sem.cutN (SemN.wk (s1 := ⟨Fr 83 [p4, p3, p7, p14, p13, p12, (55, .v (.int .i64 0))], [p11]⟩) (Wk.sel2 [0] kr kr kr ⟨⟨_, rfl, bu_c kr kr⟩, trivial⟩ ⟨lu kr kr, lu kr kr, lu kr kr, lu kr kr, lu kr kr, lu kr kr, lu kr kr, trivial⟩) (evening_gain_3_ok x2 x3 v19 _ r18.1 r18.2.1 r18.2.2 0 _ hr34)) ?_
 refine Sem.sq he [(12, .v (.int .i64 r34))] [] ?_
 refine Sem.ret ?_
 have hq := Option.some.inj h; subst hq
 exact ⟨⟨Fr 83 [(12, .v (.int .i64 r34))], []⟩, (Wk.fr kr), .inr rfl, [.v (.int .i64 r34)], kr, kr⟩
def t_evening_gain : List AV → Option AV := told cs_evening_gain (fun a => evening_gain a.1 a.2.1 a.2.2.1 a.2.2.2.1 a.2.2.2.2.1 a.2.2.2.2.2.1) er_evening_gain
theorem x_evening_gain : XOk 111 t_evening_gain := by
 refine EnvOk.x (E := e_evening_gain) (contract_ok e_evening_gain_ok (fn := Tryd.f111) (c := cb_evening_gain) ?h1 ?h2 ⟨Tryd.call111⟩ cs_evening_gain (fun a => evening_gain a.1 a.2.1 a.2.2.1 a.2.2.2.1 a.2.2.2.2.1 a.2.2.2.2.2.1) er_evening_gain (fun a => (by show 6 ≤ 83; decide)) ?h3 ?h4) rfl rfl
 case h1 => kernel_rfl
 case h2 => kernel_rfl
 case h3 => intro b; kernel_rfl
 case h4 => exact fun a b h => evening_gain_sem a.1 a.2.1 a.2.2.1 a.2.2.2.1 a.2.2.2.2.1 a.2.2.2.2.2.1 b h
/- (trestle/evening.square[int]).at -/
noncomputable def e_evening_square_int_at_d : Env := E0
theorem e_evening_square_int_at_d_ok : EnvOk e_evening_square_int_at_d := E0_ok
noncomputable def cb_evening_square_int_at_d : Code := codeOf Tryd.f73
def evening_square_int_at_d (x0 : Int) (x1 : (List Int)) (x2 : Int) (x3 : Int) : Option (Unit) :=
 (idx x1 (wr .i64 ((wr .i64 (x2 * x0)) + x3))).bind fun _v5 =>
 some ()
set_option maxHeartbeats 4000000 in
set_option maxRecDepth 100000 in
theorem evening_square_int_at_d_sem {L : List Asn} {hp : Hp} (x0 : Int) (u0 : AV) (x1 : (List Int)) (x2 : Int) (x3 : Int) (r : Unit) (h : evening_square_int_at_d x0 x1 x2 x3 = some r) (hT : T hp ((own_ (ocL 1 3 (ocV cdI)) u0 x1) :: L)) : SemY e_evening_square_int_at_d ⟨none, false⟩ cb_evening_square_int_at_d ⟨Fr 16 (pairs0 0 [.ag [.v (.int .i64 x0), u0], .v (.int .i64 x2), .v (.int .i64 x3)]), hp⟩ fun x s' => (x = .normal ∨ x = .ret) ∧ ∃ ys, resA e_evening_square_int_at_d.P s'.fr s'.hp Tryd.f73.results.toList = some ys ∧ (fun v h' => v = eAt u0 ((wr .i64 ((wr .i64 (x2 * x0)) + x3)).toNat) ∧ T h' ((own_ (ocL 1 3 (ocV cdI)) u0 x1) :: L)) (retA ys) s'.hp := by
 have he := e_evening_square_int_at_d_ok
 unfold evening_square_int_at_d at h
 refine SemY.wkQ (SemY.wk (s1 := ⟨Fr 16 [(0, .ag [.v (.int .i64 x0), u0]), (1, .v (.int .i64 x2)), (2, .v (.int .i64 x3))], hp⟩) (WkY.fr kr) ?_)
 refine SemY.seq ?_
 refine SemY.regionL ?_
 obtain ⟨e1, hp2, hb3, hT4⟩ := box_cel (t := 94) (a := .ag [.v (.int .i64 x0), u0]) hT (by have hq := shape_own (hT.front 0 rfl); revert hq; generalize u0 = zz; intro hq; cases zz <;> first | (exact (Bool.false_ne_true hq.1).elim) | (exact (Bool.false_ne_true hq.2).elim) | skip; all_goals (first | rfl | kernel_rfl | exact rfl))
 refine RunL.one he 0 rfl (op_n (wantedA_none rfl) rfl kr (n_box (z := .ag [.v (.int .i64 x0), u0]) kr hb3)) ?_
 refine RunL.fin he [(1, .v (.int .i64 x2)), (2, .v (.int .i64 x3)), (3, e1)] ?_
 refine SemY.seq ?_
 refine SemY.regionL ?_
 refine RunL.one he 0 rfl (op_q (wantedA_none rfl) rfl (q_fld (a := e1) kr (fldc_B (off := 1) hT4 kr))) ?_
 refine RunL.one he 0 rfl (op_q (wantedA_none rfl) rfl (q_load (p := pOff e1 1) kr (ld_cel (off := 1) (y := u0) (m := 1) (g := false) hT4 kr kr kr))) ?_
 refine RunL.sg he 1 ?_
 refine RunL.one he 0 rfl (op_q (wantedA_none rfl) rfl (q_fld (a := e1) kr (fldc_B (off := 0) hT4 kr))) ?_
 refine RunL.one he 0 rfl (op_q (wantedA_none rfl) rfl (q_load (p := pOff e1 0) kr (ld_cel (off := 0) (y := .v (.int .i64 x0)) (m := 1) (g := false) hT4 kr kr kr))) ?_
 refine RunL.sg he 3 ?_
 obtain ⟨v5, hv5, h⟩ := Option.bind_eq_some_iff.1 h
 have hT6 := (hT4.front 1 rfl)
 refine RunL.one he 0 rfl (op_q (wantedA_none rfl) rfl (q_indexAddr (a := u0) (b := .v (.int .i64 (wr .i64 ((wr .i64 (x2 * x0)) + x3)))) kr kr (ix_B (bytes := 8) hT6 kr hv5))) ?_
 let p1 : Nat × AV := (6, eAt u0 ((wr .i64 ((wr .i64 (x2 * x0)) + x3)).toNat))
 refine RunL.fin he [p1] ?_
 refine SemY.ret ?_
 have hq := Option.some.inj h; subst hq
 exact ⟨⟨Fr 16 [p1], hp2⟩, (WkY.fr kr), .inr rfl, [eAt u0 ((wr .i64 ((wr .i64 (x2 * x0)) + x3)).toNat)], kr, ⟨rfl, (hT6.front 1 rfl).drop⟩⟩
/- trestle/evening.shift -/
noncomputable def e_evening_shift_d : Env := E0
theorem e_evening_shift_d_ok : EnvOk e_evening_shift_d := E0_ok
noncomputable def cb_evening_shift_d : Code := codeOf Tryd.f112
def evening_shift_d_j2 (x1 : Int) (x3 : Int) (x4 : Int) (c7 : (List Int)) (v9 : Int) : Option (((List Int))) :=
 if (v9 != x3) = true then
 (evening_square_int_at_d x1 c7 x3 v9).bind fun _v14 =>
 (idx c7 (wr .i64 ((wr .i64 (x3 * x1)) + v9))).bind fun v17 =>
 (evening_square_int_at_d x1 (c7.set ((wr .i64 ((wr .i64 (x3 * x1)) + v9)).toNat) (wr .i64 (v17 - 1))) v9 x3).bind fun _v23 =>
 (idx (c7.set ((wr .i64 ((wr .i64 (x3 * x1)) + v9)).toNat) (wr .i64 (v17 - 1))) (wr .i64 ((wr .i64 (v9 * x1)) + x3))).bind fun v26 =>
 (evening_square_int_at_d x1 ((c7.set ((wr .i64 ((wr .i64 (x3 * x1)) + v9)).toNat) (wr .i64 (v17 - 1))).set ((wr .i64 ((wr .i64 (v9 * x1)) + x3)).toNat) (wr .i64 (v26 - 1))) x4 v9).bind fun _v32 =>
 (idx ((c7.set ((wr .i64 ((wr .i64 (x3 * x1)) + v9)).toNat) (wr .i64 (v17 - 1))).set ((wr .i64 ((wr .i64 (v9 * x1)) + x3)).toNat) (wr .i64 (v26 - 1))) (wr .i64 ((wr .i64 (x4 * x1)) + v9))).bind fun v35 =>
 (evening_square_int_at_d x1 (((c7.set ((wr .i64 ((wr .i64 (x3 * x1)) + v9)).toNat) (wr .i64 (v17 - 1))).set ((wr .i64 ((wr .i64 (v9 * x1)) + x3)).toNat) (wr .i64 (v26 - 1))).set ((wr .i64 ((wr .i64 (x4 * x1)) + v9)).toNat) (wr .i64 (v35 + 1))) v9 x4).bind fun _v41 =>
 (idx (((c7.set ((wr .i64 ((wr .i64 (x3 * x1)) + v9)).toNat) (wr .i64 (v17 - 1))).set ((wr .i64 ((wr .i64 (v9 * x1)) + x3)).toNat) (wr .i64 (v26 - 1))).set ((wr .i64 ((wr .i64 (x4 * x1)) + v9)).toNat) (wr .i64 (v35 + 1))) (wr .i64 ((wr .i64 (v9 * x1)) + x4))).bind fun v44 =>
 some ((((c7.set ((wr .i64 ((wr .i64 (x3 * x1)) + v9)).toNat) (wr .i64 (v17 - 1))).set ((wr .i64 ((wr .i64 (v9 * x1)) + x3)).toNat) (wr .i64 (v26 - 1))).set ((wr .i64 ((wr .i64 (x4 * x1)) + v9)).toNat) (wr .i64 (v35 + 1))).set ((wr .i64 ((wr .i64 (v9 * x1)) + x4)).toNat) (wr .i64 (v44 + 1)))
 else
 some c7
def evening_shift_d_1 (x0 : (List Int)) (x1 : Int) (x3 : Int) (x4 : Int) : Nat → Int → (List Int) → Option (((List Int)))
 | 0, _, _ => none
 | f + 1, c6, c7 =>
  if (decide (c6 < (x0.length : Int))) = true then
  (idx x0 c6).bind fun v9 =>
  (evening_shift_d_j2 x1 x3 x4 c7 v9).bind fun r51 =>
  evening_shift_d_1 x0 x1 x3 x4 f (wr .i64 (c6 + 1)) r51
  else
  some c7
def evening_shift_d (x0 : (List Int)) (x1 : Int) (x2 : (List Int)) (x3 : Int) (x4 : Int) : Option ((List Int)) :=
 (evening_shift_d_1 x0 x1 x3 x4 100000 0 x2).bind fun r57 =>
 some r57
set_option maxHeartbeats 4000000 in
set_option maxRecDepth 100000 in
theorem evening_shift_d_j2_ok {L : List Asn} {hp : Hp} (x1 : Int) (x3 : Int) (x4 : Int) (c7 : (List Int)) (v9 : Int) (u0 : AV) (x0 : (List Int)) (u1 : AV) (e1 : AV) (c6 : Int) (r : ((List Int))) (h : evening_shift_d_j2 x1 x3 x4 c7 v9 = some r) (hT : T hp ((own_ (ocL 1 3 (ocV cdI)) u0 x0) :: (cel e1 2 94 (.ag [.v (.int .i64 x1), u1])) :: (own_ (ocL 1 3 (ocV cdI)) u1 c7) :: L)) : SemY e_evening_shift_d ⟨none, false⟩ (pc cb_evening_shift_d [1, 1, 0, 0, 1, 1, 0, 0, 1, 1]) ⟨Fr 52 [(2, .v (.int .i64 x3)), (3, .v (.int .i64 x4)), (5, e1), (9, .v (.int .i64 v9)), (10, u0), (11, .v (.int .i64 (x0.length : Int))), (12, .v (.int .i64 c6)), (18, .v (.bool (v9 != x3)))], hp⟩ (fun e s => e = .normal ∧ ∃ s2, (∃ (h' : Hp), T h' ((cel e1 2 94 (.ag [.v (.int .i64 x1), u1])) :: (own_ (ocL 1 3 (ocV cdI)) u1 r) :: (own_ (ocL 1 3 (ocV cdI)) u0 x0) :: L) ∧ s2 = ⟨Fr 52 [(2, .v (.int .i64 x3)), (3, .v (.int .i64 x4)), (5, e1), (10, u0), (11, .v (.int .i64 (x0.length : Int))), (12, .v (.int .i64 c6))], h'⟩) ∧ WkY e_evening_shift_d s s2) := by
 have he := e_evening_shift_d_ok
 unfold evening_shift_d_j2 at h
 refine SemY.cond (b := (v9 != x3)) kr (fun hb11 => ?_) (fun hb11 => ?_)
 ·rw [if_pos hb11] at h
  refine SemY.seq ?_
  refine SemY.regionL ?_
  have hT12 := (hT.front 1 rfl)
  refine RunL.one he 0 rfl (op_q (wantedA_none rfl) rfl (q_load (p := e1) kr (ld_cel0 (y := .ag [.v (.int .i64 x1), u1]) (m := 2) (g := true) hT12 kr kr kr))) ?_
  refine RunL.sg he 2 ?_
  obtain ⟨v14, hv14, h⟩ := Option.bind_eq_some_iff.1 h
  obtain ⟨v17, hv17, h⟩ := Option.bind_eq_some_iff.1 h
  have hT13 := (hT12.front 2 rfl)
  refine RunL.inlT (E := e_evening_shift_d) (e := e_evening_square_int_at_d) rfl rfl e_evening_square_int_at_d_ok rfl rfl (fid := 73) (caps := []) (xs := [.ag [.v (.int .i64 x1), u1], .v (.int .i64 x3), .v (.int .i64 v9)]) (fn := Tryd.f73) (c := cb_evening_square_int_at_d) (Out := fun v h' => v = eAt u1 ((wr .i64 ((wr .i64 (x3 * x1)) + v9)).toNat) ∧ T h' ((own_ (ocL 1 3 (ocV cdI)) u1 c7) :: (cel e1 2 94 (.ag [.v (.int .i64 x1), u1])) :: (own_ (ocL 1 3 (ocV cdI)) u0 x0) :: L)) rfl (wantedA_none rfl) kr kr kr kr (by show 3 ≤ 16; decide) (evening_square_int_at_d_sem x1 u1 c7 x3 v9 _ hv14 hT13) ?_
  rintro xx hp15 ⟨hqhp15, hT16⟩; subst xx
  refine RunL.one he 0 rfl (op_q (wantedA_none rfl) rfl (q_nil (nil_own hT16 (idx_at hv17).2) kr)) ?_
  refine RunL.one he 0 rfl (op_q (wantedA_none rfl) rfl (q_load (p := eAt u1 ((wr .i64 ((wr .i64 (x3 * x1)) + v9)).toNat)) kr (ld_own0 (y := .v (.int .i64 v17)) (m := 1) (g := false) hT16 (idx_at hv17).2 kr kr kr))) ?_
  refine RunL.sg he 1 ?_
  refine RunL.one he 0 rfl (op_q (wantedA_none rfl) rfl (q_nil (nil_own hT16 (idx_at hv17).2) kr)) ?_
  obtain ⟨hp18, hs19, hT20⟩ := st_own0 (P := Tryd.prog) (ty := 3) (y := .v (.int .i64 (wr .i64 (v17 - 1)))) (v' := (wr .i64 (v17 - 1))) hT16 (idx_at hv17).2 kr kr kr
  refine RunL.store he (y := eAt u1 ((wr .i64 ((wr .i64 (x3 * x1)) + v9)).toNat)) (z := .v (.int .i64 (wr .i64 (v17 - 1)))) rfl (wantedA_none rfl) kr kr hs19 ?_
  let p1 : Nat × AV := (12, .v (.int .i64 c6))
  let p2 : Nat × AV := (11, .v (.int .i64 (x0.length : Int)))
  let p3 : Nat × AV := (9, .v (.int .i64 v9))
  let p4 : Nat × AV := (3, .v (.int .i64 x4))
  let p5 : Nat × AV := (2, .v (.int .i64 x3))
  refine RunL.done rfl (SemY.fr (l' := [p5, p4, (5, e1), p3, (10, u0), p2, p1]) kr ?_)
  refine SemY.seq ?_
  refine SemY.regionL ?_
  have hT21 := (hT20.front 1 rfl)
  refine RunL.one he 0 rfl (op_q (wantedA_none rfl) rfl (q_load (p := e1) kr (ld_cel0 (y := .ag [.v (.int .i64 x1), u1]) (m := 2) (g := true) hT21 kr kr kr))) ?_
  refine RunL.sg he 2 ?_
  obtain ⟨v23, hv23, h⟩ := Option.bind_eq_some_iff.1 h
  obtain ⟨v26, hv26, h⟩ := Option.bind_eq_some_iff.1 h
  have hT22 := (hT21.front 1 rfl)
  refine RunL.inlT (E := e_evening_shift_d) (e := e_evening_square_int_at_d) rfl rfl e_evening_square_int_at_d_ok rfl rfl (fid := 73) (caps := []) (xs := [.ag [.v (.int .i64 x1), u1], .v (.int .i64 v9), .v (.int .i64 x3)]) (fn := Tryd.f73) (c := cb_evening_square_int_at_d) (Out := fun v h' => v = eAt u1 ((wr .i64 ((wr .i64 (v9 * x1)) + x3)).toNat) ∧ T h' ((own_ (ocL 1 3 (ocV cdI)) u1 (c7.set ((wr .i64 ((wr .i64 (x3 * x1)) + v9)).toNat) (wr .i64 (v17 - 1)))) :: (cel e1 2 94 (.ag [.v (.int .i64 x1), u1])) :: (own_ (ocL 1 3 (ocV cdI)) u0 x0) :: L)) rfl (wantedA_none rfl) kr kr kr kr (by show 3 ≤ 16; decide) (evening_square_int_at_d_sem x1 u1 (c7.set ((wr .i64 ((wr .i64 (x3 * x1)) + v9)).toNat) (wr .i64 (v17 - 1))) v9 x3 _ hv23 hT22) ?_
  rintro xx hp24 ⟨hqhp24, hT25⟩; subst xx
  refine RunL.one he 0 rfl (op_q (wantedA_none rfl) rfl (q_nil (nil_own hT25 (idx_at hv26).2) kr)) ?_
  refine RunL.one he 0 rfl (op_q (wantedA_none rfl) rfl (q_load (p := eAt u1 ((wr .i64 ((wr .i64 (v9 * x1)) + x3)).toNat)) kr (ld_own0 (y := .v (.int .i64 v26)) (m := 1) (g := false) hT25 (idx_at hv26).2 kr kr kr))) ?_
  refine RunL.sg he 1 ?_
  refine RunL.one he 0 rfl (op_q (wantedA_none rfl) rfl (q_nil (nil_own hT25 (idx_at hv26).2) kr)) ?_
  obtain ⟨hp27, hs28, hT29⟩ := st_own0 (P := Tryd.prog) (ty := 3) (y := .v (.int .i64 (wr .i64 (v26 - 1)))) (v' := (wr .i64 (v26 - 1))) hT25 (idx_at hv26).2 kr kr kr
  refine RunL.store he (y := eAt u1 ((wr .i64 ((wr .i64 (v9 * x1)) + x3)).toNat)) (z := .v (.int .i64 (wr .i64 (v26 - 1)))) rfl (wantedA_none rfl) kr kr hs28 ?_
  refine RunL.done rfl (SemY.fr (l' := [p5, p4, (5, e1), p3, (10, u0), p2, p1]) kr ?_)
  refine SemY.seq ?_
  refine SemY.regionL ?_
  have hT30 := (hT29.front 1 rfl)
  refine RunL.one he 0 rfl (op_q (wantedA_none rfl) rfl (q_load (p := e1) kr (ld_cel0 (y := .ag [.v (.int .i64 x1), u1]) (m := 2) (g := true) hT30 kr kr kr))) ?_
  refine RunL.sg he 2 ?_
  obtain ⟨v32, hv32, h⟩ := Option.bind_eq_some_iff.1 h
  obtain ⟨v35, hv35, h⟩ := Option.bind_eq_some_iff.1 h
  have hT31 := (hT30.front 1 rfl)
  refine RunL.inlT (E := e_evening_shift_d) (e := e_evening_square_int_at_d) rfl rfl e_evening_square_int_at_d_ok rfl rfl (fid := 73) (caps := []) (xs := [.ag [.v (.int .i64 x1), u1], .v (.int .i64 x4), .v (.int .i64 v9)]) (fn := Tryd.f73) (c := cb_evening_square_int_at_d) (Out := fun v h' => v = eAt u1 ((wr .i64 ((wr .i64 (x4 * x1)) + v9)).toNat) ∧ T h' ((own_ (ocL 1 3 (ocV cdI)) u1 ((c7.set ((wr .i64 ((wr .i64 (x3 * x1)) + v9)).toNat) (wr .i64 (v17 - 1))).set ((wr .i64 ((wr .i64 (v9 * x1)) + x3)).toNat) (wr .i64 (v26 - 1)))) :: (cel e1 2 94 (.ag [.v (.int .i64 x1), u1])) :: (own_ (ocL 1 3 (ocV cdI)) u0 x0) :: L)) rfl (wantedA_none rfl) kr kr kr kr (by show 3 ≤ 16; decide) (evening_square_int_at_d_sem x1 u1 ((c7.set ((wr .i64 ((wr .i64 (x3 * x1)) + v9)).toNat) (wr .i64 (v17 - 1))).set ((wr .i64 ((wr .i64 (v9 * x1)) + x3)).toNat) (wr .i64 (v26 - 1))) x4 v9 _ hv32 hT31) ?_
  rintro xx hp33 ⟨hqhp33, hT34⟩; subst xx
  refine RunL.one he 0 rfl (op_q (wantedA_none rfl) rfl (q_nil (nil_own hT34 (idx_at hv35).2) kr)) ?_
  refine RunL.one he 0 rfl (op_q (wantedA_none rfl) rfl (q_load (p := eAt u1 ((wr .i64 ((wr .i64 (x4 * x1)) + v9)).toNat)) kr (ld_own0 (y := .v (.int .i64 v35)) (m := 1) (g := false) hT34 (idx_at hv35).2 kr kr kr))) ?_
  refine RunL.sg he 1 ?_
  refine RunL.one he 0 rfl (op_q (wantedA_none rfl) rfl (q_nil (nil_own hT34 (idx_at hv35).2) kr)) ?_
  obtain ⟨hp36, hs37, hT38⟩ := st_own0 (P := Tryd.prog) (ty := 3) (y := .v (.int .i64 (wr .i64 (v35 + 1)))) (v' := (wr .i64 (v35 + 1))) hT34 (idx_at hv35).2 kr kr kr
  refine RunL.store he (y := eAt u1 ((wr .i64 ((wr .i64 (x4 * x1)) + v9)).toNat)) (z := .v (.int .i64 (wr .i64 (v35 + 1)))) rfl (wantedA_none rfl) kr kr hs37 ?_
  refine RunL.done rfl (SemY.fr (l' := [p5, p4, (5, e1), p3, (10, u0), p2, p1]) kr ?_)
  refine SemY.regionL ?_
  have hT39 := (hT38.front 1 rfl)
  refine RunL.one he 0 rfl (op_q (wantedA_none rfl) rfl (q_load (p := e1) kr (ld_cel0 (y := .ag [.v (.int .i64 x1), u1]) (m := 2) (g := true) hT39 kr kr kr))) ?_
  refine RunL.sg he 2 ?_
  obtain ⟨v41, hv41, h⟩ := Option.bind_eq_some_iff.1 h
  obtain ⟨v44, hv44, h⟩ := Option.bind_eq_some_iff.1 h
  have hT40 := (hT39.front 1 rfl)
  refine RunL.inlT (E := e_evening_shift_d) (e := e_evening_square_int_at_d) rfl rfl e_evening_square_int_at_d_ok rfl rfl (fid := 73) (caps := []) (xs := [.ag [.v (.int .i64 x1), u1], .v (.int .i64 v9), .v (.int .i64 x4)]) (fn := Tryd.f73) (c := cb_evening_square_int_at_d) (Out := fun v h' => v = eAt u1 ((wr .i64 ((wr .i64 (v9 * x1)) + x4)).toNat) ∧ T h' ((own_ (ocL 1 3 (ocV cdI)) u1 (((c7.set ((wr .i64 ((wr .i64 (x3 * x1)) + v9)).toNat) (wr .i64 (v17 - 1))).set ((wr .i64 ((wr .i64 (v9 * x1)) + x3)).toNat) (wr .i64 (v26 - 1))).set ((wr .i64 ((wr .i64 (x4 * x1)) + v9)).toNat) (wr .i64 (v35 + 1)))) :: (cel e1 2 94 (.ag [.v (.int .i64 x1), u1])) :: (own_ (ocL 1 3 (ocV cdI)) u0 x0) :: L)) rfl (wantedA_none rfl) kr kr kr kr (by show 3 ≤ 16; decide) (evening_square_int_at_d_sem x1 u1 (((c7.set ((wr .i64 ((wr .i64 (x3 * x1)) + v9)).toNat) (wr .i64 (v17 - 1))).set ((wr .i64 ((wr .i64 (v9 * x1)) + x3)).toNat) (wr .i64 (v26 - 1))).set ((wr .i64 ((wr .i64 (x4 * x1)) + v9)).toNat) (wr .i64 (v35 + 1))) v9 x4 _ hv41 hT40) ?_
  rintro xx hp42 ⟨hqhp42, hT43⟩; subst xx
  refine RunL.one he 0 rfl (op_q (wantedA_none rfl) rfl (q_nil (nil_own hT43 (idx_at hv44).2) kr)) ?_
  refine RunL.one he 0 rfl (op_q (wantedA_none rfl) rfl (q_load (p := eAt u1 ((wr .i64 ((wr .i64 (v9 * x1)) + x4)).toNat)) kr (ld_own0 (y := .v (.int .i64 v44)) (m := 1) (g := false) hT43 (idx_at hv44).2 kr kr kr))) ?_
  refine RunL.sg he 1 ?_
  refine RunL.one he 0 rfl (op_q (wantedA_none rfl) rfl (q_nil (nil_own hT43 (idx_at hv44).2) kr)) ?_
  obtain ⟨hp45, hs46, hT47⟩ := st_own0 (P := Tryd.prog) (ty := 3) (y := .v (.int .i64 (wr .i64 (v44 + 1)))) (v' := (wr .i64 (v44 + 1))) hT43 (idx_at hv44).2 kr kr kr
  refine RunL.store he (y := eAt u1 ((wr .i64 ((wr .i64 (v9 * x1)) + x4)).toNat)) (z := .v (.int .i64 (wr .i64 (v44 + 1)))) rfl (wantedA_none rfl) kr kr hs46 ?_
  refine RunL.done rfl ?_
  have hq := Option.some.inj h; subst hq
  have hT49 := (((hT47.front 2 rfl).front 1 rfl).front 2 rfl)
  exact ⟨rfl, _, ⟨hp45, hT49, rfl⟩, (WkY.fr kr)⟩
 ·rw [if_f hb11] at h
  refine SemY.skip ?_
  have hq := Option.some.inj h; subst hq
  have hT50 := ((hT.front 2 rfl).front 2 rfl)
  exact ⟨rfl, _, ⟨hp, hT50, rfl⟩, (WkY.fr kr)⟩
set_option maxHeartbeats 4000000 in
set_option maxRecDepth 100000 in
theorem evening_shift_d_1_ok {L : List Asn} (x0 : (List Int)) (x1 : Int) (x3 : Int) (x4 : Int) (u0 : AV) (u1 : AV) (e1 : AV) : ∀ (f : Nat) (c6 : Int) (c7 : (List Int)) (r : ((List Int))), evening_shift_d_1 x0 x1 x3 x4 f c6 c7 = some r → ∀ (hp : Hp), T hp ((cel e1 2 94 (.ag [.v (.int .i64 x1), u1])) :: (own_ (ocL 1 3 (ocV cdI)) u1 c7) :: (own_ (ocL 1 3 (ocV cdI)) u0 x0) :: L) → SemYN e_evening_shift_d ⟨none, false⟩ (pc cb_evening_shift_d [1, 1, 0, 0]) f ⟨Fr 52 [(2, .v (.int .i64 x3)), (3, .v (.int .i64 x4)), (5, e1), (10, u0), (11, .v (.int .i64 (x0.length : Int))), (12, .v (.int .i64 c6))], hp⟩ (fun e s => e = (.exit 0) ∧ ∃ s2, (∃ (h' : Hp), T h' ((own_ (ocL 1 3 (ocV cdI)) u0 x0) :: (own_ (ocL 1 3 (ocV cdI)) u1 r) :: L) ∧ s2 = ⟨Fr 52 [], h'⟩) ∧ WkY e_evening_shift_d s s2) := by
 have he := e_evening_shift_d_ok
 intro f
 induction f with
 | zero => intro c6 c7 r h; cases h
 | succ f ih0 =>
  intro c6 c7 r h  hp hT
  unfold evening_shift_d_1 at h
  refine SemYN.succ ?_
  let p1 : Nat × AV := (12, .v (.int .i64 c6))
  let p2 : Nat × AV := (11, .v (.int .i64 (x0.length : Int)))
  let p3 : Nat × AV := (3, .v (.int .i64 x4))
  let p4 : Nat × AV := (2, .v (.int .i64 x3))
  refine SemY.sq he [p4, p3, (5, e1), (10, u0), p2, p1, (13, .v (.bool (decide (c6 < (x0.length : Int)))))] ?_
  refine SemY.seq ?_
  refine SemY.cond (b := (decide (c6 < (x0.length : Int)))) kr (fun hb8 => ?_) (fun hb8 => ?_)
  ·rw [if_pos hb8] at h
   refine SemY.skip ?_
   refine SemY.seq ?_
   refine SemY.block ?_
   refine SemY.seq ?_
   refine SemY.regionL ?_
   obtain ⟨v9, hv9, h⟩ := Option.bind_eq_some_iff.1 h
   have hT10 := (hT.front 2 rfl)
   refine RunL.one he 0 rfl (op_q (wantedA_none rfl) rfl (q_indexAddr (a := u0) (b := .v (.int .i64 c6)) kr kr (ix_B (bytes := 8) hT10 kr hv9))) ?_
   refine RunL.one he 0 rfl (op_q (wantedA_none rfl) rfl (q_load (p := eAt u0 c6.toNat) kr (ld_own0 (y := .v (.int .i64 v9)) (m := 1) (g := false) hT10 (idx_at hv9).2 kr kr kr))) ?_
   refine RunL.fin he [p4, p3, (5, e1), (9, .v (.int .i64 v9)), (10, u0), p2, p1] ?_
   refine SemY.sq he [p4, p3, (5, e1), (9, .v (.int .i64 v9)), (10, u0), p2, p1, (18, .v (.bool (v9 != x3)))] ?_
   obtain ⟨r51, hr51, h⟩ := Option.bind_eq_some_iff.1 h
   refine SemY.cutT (evening_shift_d_j2_ok x1 x3 x4 c7 v9 u0 x0 u1 e1 c6 _ hr51 hT10) ?_
   rintro _ ⟨hp52, hT53, rfl⟩
   refine SemY.regionL ?_
   refine RunL.sg he 2 ?_
   refine RunL.done rfl ?_
   exact SemYN.wk (WkY.fr kr) (ih0 (wr .i64 (c6 + 1)) r51 _ h  hp52 hT53)
  ·rw [if_f hb8] at h
   refine SemY.exit ?_
   have hq := Option.some.inj h; subst hq
   have hT55 := (hT.drop.front 1 rfl)
   exact ⟨rfl, _, ⟨hp, hT55, rfl⟩, (WkY.fr kr)⟩
set_option maxHeartbeats 4000000 in
set_option maxRecDepth 100000 in
theorem evening_shift_d_sem {L : List Asn} {hp : Hp} (u0 : AV) (x0 : (List Int)) (x1 : Int) (u1 : AV) (x2 : (List Int)) (x3 : Int) (x4 : Int) (r : (List Int)) (h : evening_shift_d x0 x1 x2 x3 x4 = some r) (hT : T hp ((own_ (ocL 1 3 (ocV cdI)) u0 x0) :: (own_ (ocL 1 3 (ocV cdI)) u1 x2) :: L)) : SemY e_evening_shift_d ⟨none, false⟩ cb_evening_shift_d ⟨Fr 52 (pairs0 0 [u0, .ag [.v (.int .i64 x1), u1], .v (.int .i64 x3), .v (.int .i64 x4)]), hp⟩ fun x s' => (x = .normal ∨ x = .ret) ∧ ∃ ys, resA e_evening_shift_d.P s'.fr s'.hp Tryd.f112.results.toList = some ys ∧ (fun v h' => v = .tp [] ∧ T h' ((own_ (ocL 1 3 (ocV cdI)) u0 x0) :: (own_ (ocL 1 3 (ocV cdI)) u1 r) :: L)) (retA ys) s'.hp := by
 have he := e_evening_shift_d_ok
 unfold evening_shift_d at h
 let p1 : Nat × AV := (3, .v (.int .i64 x4))
 let p2 : Nat × AV := (2, .v (.int .i64 x3))
 refine SemY.wkQ (SemY.wk (s1 := ⟨Fr 52 [(0, u0), (1, .ag [.v (.int .i64 x1), u1]), p2, p1], hp⟩) (WkY.fr kr) ?_)
 refine SemY.seq ?_
 refine SemY.regionL ?_
 obtain ⟨e1, hp2, hb3, hT4⟩ := box_cel (t := 94) (a := .ag [.v (.int .i64 x1), u1]) hT (by have hq := shape_own (hT.front 1 rfl); revert hq; generalize u1 = zz; intro hq; cases zz <;> first | (exact (Bool.false_ne_true hq.1).elim) | (exact (Bool.false_ne_true hq.2).elim) | skip; all_goals (first | rfl | kernel_rfl | exact rfl))
 refine RunL.one he 0 rfl (op_n (wantedA_none rfl) rfl kr (n_box (z := .ag [.v (.int .i64 x1), u1]) kr hb3)) ?_
 refine RunL.done rfl (SemY.fr (l' := [(0, u0), p2, p1, (5, e1)]) kr ?_)
 refine SemY.seq ?_
 refine SemY.regionL ?_
 refine RunL.sg he 1 ?_
 have hT5 := (hT4.front 1 rfl)
 refine RunL.one he 0 rfl (op_q (wantedA_none rfl) rfl (q_len (a := u0) kr (len_B hT5 kr))) ?_
 refine RunL.fin he [p2, p1, (5, e1), (10, u0), (11, .v (.int .i64 (x0.length : Int))), (12, .v (.int .i64 0))] ?_
 refine SemY.block ?_
 have hT56 := ((hT5.front 2 rfl).front 2 rfl)
 refine SemY.loop (n := 100000) ?_
 obtain ⟨r57, hr57, h⟩ := Option.bind_eq_some_iff.1 h
 refine SemYN.cutT (SemYN.wk (WkY.fr kr) (evening_shift_d_1_ok x0 x1 x3 x4 u0 u1 e1 _ 0 x2 _ hr57  hp2 hT56)) ?_
 rintro _ ⟨hp58, hT59, rfl⟩
 have hq := Option.some.inj h; subst hq
 exact ⟨⟨Fr 52 [], hp58⟩, (WkY.fr kr), .inl rfl, [], kr, ⟨rfl, hT59⟩⟩
end Go.Proofs.YtcmgmkepodbpkaaDoor
