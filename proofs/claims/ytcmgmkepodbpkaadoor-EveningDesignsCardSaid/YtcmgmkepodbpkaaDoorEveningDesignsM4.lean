/- Lemmas for the proof. -/
import Derived.Test.YtcmgmkepodbpkaaDoorEveningDesignsM1
import Derived.Test.YtcmgmkepodbpkaaDoorEveningDesignsM2
import Derived.Test.YtcmgmkepodbpkaaDoorEveningDesignsM3
import Derived.Test.YtcmgmkepodbpkaaDoorProg
import Derived.Laws.CopyOwn
import Derived.Laws.Slices
import Derived.Laws.StructEq
namespace Go.Proofs.YtcmgmkepodbpkaaDoor
open Go.RowKit
/- trestle/trestleref09.Pairs -/
noncomputable def e_ref09_Pairs : Env := E0
theorem e_ref09_Pairs_ok : EnvOk e_ref09_Pairs := E0_ok
noncomputable def cb_ref09_Pairs : Code := codeOf Tryd.f57
def ref09_Pairs_j1 (x0 : Int) : Option ((Int)) :=
 if ((x0.tmod 2) == 1) = true then
 some (wr .i64 (x0 + 1))
 else
 some x0
def ref09_Pairs_j3 (x0 : Int) (r6 : Int) (c7 : (List (List (List Int)))) (c8 : Int) : Option (((List Int))) :=
 if (decide (r6 > x0)) = true then
 some [c8]
 else
 some [(wr .i64 (r6 - 1)), c8]
def ref09_Pairs_j5 (x0 : Int) (r6 : Int) (c7 : (List (List (List Int)))) (c8 : Int) (c14 : (List (List Int))) (c15 : Int) (c16 : Int) (c17 : Int) : Option ((Int)) :=
 if ((wr .i64 (c15 + 1)) == (wr .i64 (r6 - 1))) = true then
 some 0
 else
 some (wr .i64 (c15 + 1))
def ref09_Pairs_j6 (x0 : Int) (r6 : Int) (c7 : (List (List (List Int)))) (c8 : Int) (c14 : (List (List Int))) (c16 : Int) (c17 : Int) (r21 : Int) : Option ((Int)) :=
 if (decide ((wr .i64 (c16 - 1)) < 0)) = true then
 some (wr .i64 (r6 - 2))
 else
 some (wr .i64 (c16 - 1))
def ref09_Pairs_4 (x0 : Int) (r6 : Int) (c7 : (List (List (List Int)))) (c8 : Int) : Nat → (List (List Int)) → Int → Int → Int → Option (((List (List Int))))
 | 0, _, _, _, _ => none
 | f + 1, c14, c15, c16, c17 =>
  if (decide (c17 ≤ (wr .i64 ((wr .i64 (r6.tdiv 2)) - 1)))) = true then
  (ref09_Pairs_j5 x0 r6 c7 c8 c14 c15 c16 c17).bind fun r21 =>
  (ref09_Pairs_j6 x0 r6 c7 c8 c14 c16 c17 r21).bind fun r24 =>
  if (capOk 24 (c14.length + 1)) = true then
  ref09_Pairs_4 x0 r6 c7 c8 f (c14 ++ [[r21, r24]]) r21 r24 (wr .i64 (c17 + 1))
  else none
  else
  some c14
def ref09_Pairs_2 (x0 : Int) (r6 : Int) : Nat → (List (List (List Int))) → Int → Option (((List (List (List Int)))))
 | 0, _, _ => none
 | f + 1, c7, c8 =>
  if (decide (c8 ≤ (wr .i64 (r6 - 2)))) = true then
  (ref09_Pairs_j3 x0 r6 c7 c8).bind fun r12 =>
  (ref09_Pairs_4 x0 r6 c7 c8 100000 [r12] c8 c8 1).bind fun r27 =>
  if (capOk 24 (c7.length + 1)) = true then
  ref09_Pairs_2 x0 r6 f (c7 ++ [r27]) (wr .i64 (c8 + 1))
  else none
  else
  some c7
def ref09_Pairs (x0 : Int) : Option ((List (List (List Int))) × Int) :=
 (if (decide (x0 < 2)) = true then some true else some (decide (x0 > 64))).bind fun j2 =>
 if j2 = true then
 some ([], 90)
 else
 (ref09_Pairs_j1 x0).bind fun r6 =>
 (ref09_Pairs_2 x0 r6 100000 [] 0).bind fun r30 =>
 some (r30, 0)
def cs_ref09_Pairs : Cs (Int × Unit) := (csC cdI csN)
def er_ref09_Pairs (r : (List (List (List Int))) × Int) : AV := .tp [(cdL 1 (cdL 1 (cdL 1 cdI))).enc r.1, cdI.enc r.2]
set_option maxHeartbeats 4000000 in
set_option maxRecDepth 100000 in
theorem ref09_Pairs_j1_ok (x0 : Int) (r : (Int)) (h : ref09_Pairs_j1 x0 = some r) : Sem e_ref09_Pairs ⟨none, false⟩ (pc cb_ref09_Pairs [1, 1, 1, 0, 1]) ⟨Fr 75 [(0, .v (.int .i64 x0)), (4, .v (.int .i64 x0)), (21, .v (.bool ((x0.tmod 2) == 1)))], []⟩ (fun e s => e = .normal ∧ Wk e_ref09_Pairs s ⟨Fr 75 [(0, .v (.int .i64 x0)), (4, .v (.int .i64 r))], []⟩) := by
 unfold ref09_Pairs_j1 at h
 refine Sem.cond (b := ((x0.tmod 2) == 1)) kr (fun hb4 => ?_) (fun hb4 => ?_)
 ·rw [if_pos hb4] at h
  refine Sem.rg e_ref09_Pairs_ok [(0, .v (.int .i64 x0)), (4, .v (.int .i64 (wr .i64 (x0 + 1))))] [] ?_
  have hq := Option.some.inj h; subst hq
  exact ⟨rfl, (Wk.fr kr)⟩
 ·rw [if_f hb4] at h
  refine Sem.skip ?_
  have hq := Option.some.inj h; subst hq
  exact ⟨rfl, (Wk.fr kr)⟩
set_option maxHeartbeats 4000000 in
set_option maxRecDepth 100000 in
theorem ref09_Pairs_j3_ok (x0 : Int) (r6 : Int) (c7 : (List (List (List Int)))) (c8 : Int) (r : ((List Int))) (h : ref09_Pairs_j3 x0 r6 c7 c8 = some r) : Sem e_ref09_Pairs ⟨none, false⟩ (pc cb_ref09_Pairs [1, 1, 1, 1, 1, 0, 1, 0, 0, 1, 0, 0, 1, 1, 0, 1]) ⟨Fr 75 [(0, .v (.int .i64 x0)), (4, .v (.int .i64 r6)), (5, hd 0 (c7.map (cdL 1 (cdL 1 cdI)).enc)), (6, .v (.int .i64 c8)), (7, .e0), (8, hd 1 ([(wr .i64 (r6 - 1)), c8].map cdI.enc)), (36, .v (.bool (decide (r6 > x0))))], [mk 1 50 (c7.map (cdL 1 (cdL 1 cdI)).enc), mk 1 3 ([(wr .i64 (r6 - 1)), c8].map cdI.enc)]⟩ (fun e s => e = .normal ∧ Wk e_ref09_Pairs s ⟨Fr 75 [(0, .v (.int .i64 x0)), (4, .v (.int .i64 r6)), (5, hd 0 (c7.map (cdL 1 (cdL 1 cdI)).enc)), (6, .v (.int .i64 c8)), (7, .e0), (8, hd 1 (r.map cdI.enc))], [mk 1 50 (c7.map (cdL 1 (cdL 1 cdI)).enc), mk 1 3 (r.map cdI.enc)]⟩) := by
 unfold ref09_Pairs_j3 at h
 refine Sem.cond (b := (decide (r6 > x0))) kr (fun hb10 => ?_) (fun hb10 => ?_)
 ·rw [if_pos hb10] at h
  let p1 : Option Blk := mk 1 50 (c7.map (cdL 1 (cdL 1 cdI)).enc)
  let p2 : Nat × AV := (5, hd 0 (c7.map (cdL 1 (cdL 1 cdI)).enc))
  refine Sem.runS (s1 := ⟨Fr 75 [(0, .v (.int .i64 x0)), (4, .v (.int .i64 r6)), p2, (6, .v (.int .i64 c8)), (7, .e0), (8, hd 1 ([c8].map cdI.enc))], [p1, mk 1 3 ([c8].map cdI.enc)]⟩) ?_ ?_
  ·refine RunS.segF (n := 75) e_ref09_Pairs_ok 3 [(0, .v (.int .i64 x0)), (4, .v (.int .i64 r6)), p2, (6, .v (.int .i64 c8)), (7, .e0), (8, hd 2 ([c8].map cdI.enc))] [p1, mk 1 3 ([(wr .i64 (r6 - 1)), c8].map cdI.enc), mk 1 3 ([c8].map cdI.enc)] kr ?_
   exact RunS.done rfl (Wk.sel2 [0, 2] kr kr kr ⟨⟨_, rfl, bu_mk⟩, ⟨_, rfl, bu_mk⟩, trivial⟩ ⟨lu kr kr, lu kr kr, lu_hd (b' := 0) kr kr, lu kr kr, lu kr kr, lu_hd (b' := 2) kr kr, trivial⟩)
  have hq := Option.some.inj h; subst hq
  exact ⟨rfl, (Wk.sel2 [0, 1] kr kr kr ⟨⟨_, rfl, bu_mk⟩, ⟨_, rfl, bu_mk⟩, trivial⟩ ⟨lu kr kr, lu kr kr, lu_hd (b' := 0) kr kr, lu kr kr, lu kr kr, lu_hd (b' := 1) kr kr, trivial⟩)⟩
 ·rw [if_f hb10] at h
  refine Sem.skip ?_
  have hq := Option.some.inj h; subst hq
  exact ⟨rfl, (Wk.sel2 [0, 1] kr kr kr ⟨⟨_, rfl, bu_mk⟩, ⟨_, rfl, bu_mk⟩, trivial⟩ ⟨lu kr kr, lu kr kr, lu_hd (b' := 0) kr kr, lu kr kr, lu kr kr, lu_hd (b' := 1) kr kr, trivial⟩)⟩
set_option maxHeartbeats 4000000 in
set_option maxRecDepth 100000 in
theorem ref09_Pairs_j5_ok (x0 : Int) (r6 : Int) (c7 : (List (List (List Int)))) (c8 : Int) (c14 : (List (List Int))) (c15 : Int) (c16 : Int) (c17 : Int) (r : (Int)) (h : ref09_Pairs_j5 x0 r6 c7 c8 c14 c15 c16 c17 = some r) : Sem e_ref09_Pairs ⟨none, false⟩ (pc cb_ref09_Pairs [1, 1, 1, 1, 1, 0, 1, 0, 0, 1, 0, 0, 1, 1, 1, 1, 1, 0, 1, 0, 0, 1, 0, 0, 1, 0, 1]) ⟨Fr 75 [(0, .v (.int .i64 x0)), (4, .v (.int .i64 r6)), (5, hd 0 (c7.map (cdL 1 (cdL 1 cdI)).enc)), (6, .v (.int .i64 c8)), (7, hd 1 (c14.map (cdL 1 cdI).enc)), (9, .v (.int .i64 (wr .i64 (c15 + 1)))), (10, .v (.int .i64 (wr .i64 (c16 - 1)))), (11, .v (.int .i64 c17)), (59, .v (.bool ((wr .i64 (c15 + 1)) == (wr .i64 (r6 - 1)))))], [mk 1 50 (c7.map (cdL 1 (cdL 1 cdI)).enc), mk 1 31 (c14.map (cdL 1 cdI).enc)]⟩ (fun e s => e = .normal ∧ Wk e_ref09_Pairs s ⟨Fr 75 [(0, .v (.int .i64 x0)), (4, .v (.int .i64 r6)), (5, hd 0 (c7.map (cdL 1 (cdL 1 cdI)).enc)), (6, .v (.int .i64 c8)), (7, hd 1 (c14.map (cdL 1 cdI).enc)), (9, .v (.int .i64 r)), (10, .v (.int .i64 (wr .i64 (c16 - 1)))), (11, .v (.int .i64 c17))], [mk 1 50 (c7.map (cdL 1 (cdL 1 cdI)).enc), mk 1 31 (c14.map (cdL 1 cdI).enc)]⟩) := by
 unfold ref09_Pairs_j5 at h
 refine Sem.cond (b := ((wr .i64 (c15 + 1)) == (wr .i64 (r6 - 1)))) kr (fun hb19 => ?_) (fun hb19 => ?_)
 ·rw [if_pos hb19] at h
  refine Sem.rg e_ref09_Pairs_ok [(0, .v (.int .i64 x0)), (4, .v (.int .i64 r6)), (5, hd 0 (c7.map (cdL 1 (cdL 1 cdI)).enc)), (6, .v (.int .i64 c8)), (7, hd 1 (c14.map (cdL 1 cdI).enc)), (9, .v (.int .i64 0)), (10, .v (.int .i64 (wr .i64 (c16 - 1)))), (11, .v (.int .i64 c17))] [mk 1 50 (c7.map (cdL 1 (cdL 1 cdI)).enc), mk 1 31 (c14.map (cdL 1 cdI).enc)] ?_
  have hq := Option.some.inj h; subst hq
  exact ⟨rfl, (Wk.sel2 [0, 1] kr kr kr ⟨⟨_, rfl, bu_mk⟩, ⟨_, rfl, bu_mk⟩, trivial⟩ ⟨lu kr kr, lu kr kr, lu_hd (b' := 0) kr kr, lu kr kr, lu_hd (b' := 1) kr kr, lu kr kr, lu kr kr, lu kr kr, trivial⟩)⟩
 ·rw [if_f hb19] at h
  refine Sem.skip ?_
  have hq := Option.some.inj h; subst hq
  exact ⟨rfl, (Wk.sel2 [0, 1] kr kr kr ⟨⟨_, rfl, bu_mk⟩, ⟨_, rfl, bu_mk⟩, trivial⟩ ⟨lu kr kr, lu kr kr, lu_hd (b' := 0) kr kr, lu kr kr, lu_hd (b' := 1) kr kr, lu kr kr, lu kr kr, lu kr kr, trivial⟩)⟩
set_option maxHeartbeats 4000000 in
set_option maxRecDepth 100000 in
theorem ref09_Pairs_j6_ok (x0 : Int) (r6 : Int) (c7 : (List (List (List Int)))) (c8 : Int) (c14 : (List (List Int))) (c16 : Int) (c17 : Int) (r21 : Int) (r : (Int)) (h : ref09_Pairs_j6 x0 r6 c7 c8 c14 c16 c17 r21 = some r) : Sem e_ref09_Pairs ⟨none, false⟩ (pc cb_ref09_Pairs [1, 1, 1, 1, 1, 0, 1, 0, 0, 1, 0, 0, 1, 1, 1, 1, 1, 0, 1, 0, 0, 1, 0, 0, 1, 1, 0, 1]) ⟨Fr 75 [(0, .v (.int .i64 x0)), (4, .v (.int .i64 r6)), (5, hd 0 (c7.map (cdL 1 (cdL 1 cdI)).enc)), (6, .v (.int .i64 c8)), (7, hd 1 (c14.map (cdL 1 cdI).enc)), (9, .v (.int .i64 r21)), (10, .v (.int .i64 (wr .i64 (c16 - 1)))), (11, .v (.int .i64 c17)), (61, .v (.bool (decide ((wr .i64 (c16 - 1)) < 0))))], [mk 1 50 (c7.map (cdL 1 (cdL 1 cdI)).enc), mk 1 31 (c14.map (cdL 1 cdI).enc)]⟩ (fun e s => e = .normal ∧ Wk e_ref09_Pairs s ⟨Fr 75 [(0, .v (.int .i64 x0)), (4, .v (.int .i64 r6)), (5, hd 0 (c7.map (cdL 1 (cdL 1 cdI)).enc)), (6, .v (.int .i64 c8)), (7, hd 1 (c14.map (cdL 1 cdI).enc)), (9, .v (.int .i64 r21)), (10, .v (.int .i64 r)), (11, .v (.int .i64 c17))], [mk 1 50 (c7.map (cdL 1 (cdL 1 cdI)).enc), mk 1 31 (c14.map (cdL 1 cdI).enc)]⟩) := by
 unfold ref09_Pairs_j6 at h
 refine Sem.cond (b := (decide ((wr .i64 (c16 - 1)) < 0))) kr (fun hb22 => ?_) (fun hb22 => ?_)
 ·rw [if_pos hb22] at h
  refine Sem.rg e_ref09_Pairs_ok [(0, .v (.int .i64 x0)), (4, .v (.int .i64 r6)), (5, hd 0 (c7.map (cdL 1 (cdL 1 cdI)).enc)), (6, .v (.int .i64 c8)), (7, hd 1 (c14.map (cdL 1 cdI).enc)), (9, .v (.int .i64 r21)), (10, .v (.int .i64 (wr .i64 (r6 - 2)))), (11, .v (.int .i64 c17))] [mk 1 50 (c7.map (cdL 1 (cdL 1 cdI)).enc), mk 1 31 (c14.map (cdL 1 cdI).enc)] ?_
  have hq := Option.some.inj h; subst hq
  exact ⟨rfl, (Wk.sel2 [0, 1] kr kr kr ⟨⟨_, rfl, bu_mk⟩, ⟨_, rfl, bu_mk⟩, trivial⟩ ⟨lu kr kr, lu kr kr, lu_hd (b' := 0) kr kr, lu kr kr, lu_hd (b' := 1) kr kr, lu kr kr, lu kr kr, lu kr kr, trivial⟩)⟩
 ·rw [if_f hb22] at h
  refine Sem.skip ?_
  have hq := Option.some.inj h; subst hq
  exact ⟨rfl, (Wk.sel2 [0, 1] kr kr kr ⟨⟨_, rfl, bu_mk⟩, ⟨_, rfl, bu_mk⟩, trivial⟩ ⟨lu kr kr, lu kr kr, lu_hd (b' := 0) kr kr, lu kr kr, lu_hd (b' := 1) kr kr, lu kr kr, lu kr kr, lu kr kr, trivial⟩)⟩
set_option maxHeartbeats 4000000 in
set_option maxRecDepth 100000 in
theorem ref09_Pairs_4_ok (x0 : Int) (r6 : Int) (c7 : (List (List (List Int)))) (c8 : Int) : ∀ (f : Nat) (c14 : (List (List Int))) (c15 : Int) (c16 : Int) (c17 : Int) (r : ((List (List Int)))), ref09_Pairs_4 x0 r6 c7 c8 f c14 c15 c16 c17 = some r → SemN e_ref09_Pairs ⟨none, false⟩ (pc cb_ref09_Pairs [1, 1, 1, 1, 1, 0, 1, 0, 0, 1, 0, 0, 1, 1, 1, 1, 1, 0, 1, 0, 0]) f ⟨Fr 75 [(0, .v (.int .i64 x0)), (4, .v (.int .i64 r6)), (5, hd 0 (c7.map (cdL 1 (cdL 1 cdI)).enc)), (6, .v (.int .i64 c8)), (7, hd 1 (c14.map (cdL 1 cdI).enc)), (9, .v (.int .i64 c15)), (10, .v (.int .i64 c16)), (11, .v (.int .i64 c17))], [mk 1 50 (c7.map (cdL 1 (cdL 1 cdI)).enc), mk 1 31 (c14.map (cdL 1 cdI).enc)]⟩ (fun e s => e = (.exit 2) ∧ Wk e_ref09_Pairs s ⟨Fr 75 [(0, .v (.int .i64 x0)), (4, .v (.int .i64 r6)), (5, hd 0 (c7.map (cdL 1 (cdL 1 cdI)).enc)), (6, .v (.int .i64 c8)), (7, hd 1 (r.map (cdL 1 cdI).enc))], [mk 1 50 (c7.map (cdL 1 (cdL 1 cdI)).enc), mk 1 31 (r.map (cdL 1 cdI).enc)]⟩) := by
 have he := e_ref09_Pairs_ok
 intro f
 induction f with
 | zero => intro c14 c15 c16 c17 r h; cases h
 | succ f ih0 =>
  intro c14 c15 c16 c17 r h
  have ih := fun (c14 : (List (List Int))) (c15 : Int) (c16 : Int) (c17 : Int) => ih0 c14 c15 c16 c17 r
  unfold ref09_Pairs_4 at h
  refine SemN.succ ?_
  refine Sem.seq ?_
  let p1 : Option Blk := mk 1 31 (c14.map (cdL 1 cdI).enc)
  let p2 : Option Blk := mk 1 50 (c7.map (cdL 1 (cdL 1 cdI)).enc)
  let p3 : Nat × AV := (11, .v (.int .i64 c17))
  let p4 : Nat × AV := (7, hd 1 (c14.map (cdL 1 cdI).enc))
  let p5 : Nat × AV := (6, .v (.int .i64 c8))
  let p6 : Nat × AV := (5, hd 0 (c7.map (cdL 1 (cdL 1 cdI)).enc))
  let p7 : Nat × AV := (4, .v (.int .i64 r6))
  let p8 : Nat × AV := (0, .v (.int .i64 x0))
  refine Sem.sq he [p8, p7, p6, p5, p4, (9, .v (.int .i64 c15)), (10, .v (.int .i64 c16)), p3, (49, .v (.bool (decide (c17 ≤ (wr .i64 ((wr .i64 (r6.tdiv 2)) - 1))))))] [p2, p1] ?_
  refine Sem.cond (b := (decide (c17 ≤ (wr .i64 ((wr .i64 (r6.tdiv 2)) - 1))))) kr (fun hb18 => ?_) (fun hb18 => ?_)
  ·rw [if_pos hb18] at h
   refine Sem.skip ?_
   refine Sem.seq ?_
   refine Sem.block ?_
   let p9 : Nat × AV := (10, .v (.int .i64 (wr .i64 (c16 - 1))))
   let p10 : Nat × AV := (9, .v (.int .i64 (wr .i64 (c15 + 1))))
   refine Sem.sq he [p8, p7, p6, p5, p4, p10, p9, p3] [p2, p1] ?_
   refine Sem.seq ?_
   refine Sem.sq he [p8, p7, p6, p5, p4, p10, p9, p3, (59, .v (.bool ((wr .i64 (c15 + 1)) == (wr .i64 (r6 - 1)))))] [p2, p1] ?_
   obtain ⟨r21, hr21, h⟩ := Option.bind_eq_some_iff.1 h
   refine Sem.cut (ref09_Pairs_j5_ok x0 r6 c7 c8 c14 c15 c16 c17 _ hr21) ?_
   refine Sem.seq ?_
   let p11 : Nat × AV := (9, .v (.int .i64 r21))
   refine Sem.sq he [p8, p7, p6, p5, p4, p11, p9, p3, (61, .v (.bool (decide ((wr .i64 (c16 - 1)) < 0))))] [p2, p1] ?_
   obtain ⟨r24, hr24, h⟩ := Option.bind_eq_some_iff.1 h
   refine Sem.cut (ref09_Pairs_j6_ok x0 r6 c7 c8 c14 c16 c17 r21 _ hr24) ?_
   by_cases hk25 : (capOk 24 (c14.length + 1)) = true
   case neg => rw [if_neg hk25] at h; cases h
   rw [if_pos hk25] at h
   let p12 : Option Blk := mk 1 31 ((c14 ++ [[r21, r24]]).map (cdL 1 cdI).enc)
   let p13 : Nat × AV := (10, .v (.int .i64 r24))
   let p14 : Nat × AV := (7, hd 1 ((c14 ++ [[r21, r24]]).map (cdL 1 cdI).enc))
   refine Sem.runS (s1 := ⟨Fr 75 [p8, p7, p6, p5, p14, p11, p13, p3], [p2, p12]⟩) ?_ ?_
   ·refine RunS.segF (n := 75) he 5 [p8, p7, p6, p5, p11, p13, p3, (64, hd 1 (c14.map (cdL 1 cdI).enc)), (68, .rf 3 0 1 1)] [p2, p1, mk 1 3 ([r21, r24].map cdI.enc), some ⟨1, 31, [hd 2 ([r21, r24].map cdI.enc)], false⟩] kr ?_
    let p15 : Option Blk := mk 1 31 ([[r21, r24]].map (cdL 1 cdI).enc)
    refine RunS.wk (s1 := ⟨Fr 75 [p8, p7, p6, p5, p11, p13, p3, (64, hd 1 (c14.map (cdL 1 cdI).enc)), (68, hd 3 ([[r21, r24]].map (cdL 1 cdI).enc))], [p2, p1, none, p15]⟩) (Wk.frzG 2 (.inl kr) ⟨.inr (.inl rfl), .inr (.inl rfl), .inl rfl, .inr (.inr ⟨_, _, _, _, rfl, rfl, ⟨fz_hd (t := 3) kr enc_ok, trivial⟩⟩), trivial⟩ ⟨⟨.v (.int .i64 x0), kr, .inl rfl⟩, ⟨.v (.int .i64 r6), kr, .inl rfl⟩, ⟨hd 0 (c7.map (cdL 1 (cdL 1 cdI)).enc), kr, .inl rfl⟩, ⟨.v (.int .i64 c8), kr, .inl rfl⟩, ⟨.v (.int .i64 r21), kr, .inl rfl⟩, ⟨.v (.int .i64 r24), kr, .inl rfl⟩, ⟨.v (.int .i64 c17), kr, .inl rfl⟩, ⟨hd 1 (c14.map (cdL 1 cdI).enc), kr, .inl rfl⟩, ⟨.rf 3 0 1 1, kr, .inl rfl⟩, trivial⟩) ?_
    refine RunS.one he 0 rfl (op_w (wantedA_none rfl) rfl kr kr (w_append (a := hd 1 (c14.map (cdL 1 cdI).enc)) (b := hd 3 ([[r21, r24]].map (cdL 1 cdI).enc)) kr kr (append_B (c := (cdL 1 cdI)) (xs := c14) (vs := [[r21, r24]]) (k := 1) (bytes := 24) (el := 31) kr kr (elems_hd (t := 31) kr) (List.cons_ne_nil _ _) kr hk25))) ?_
    refine RunS.segF (n := 75) he 1 [p8, p7, p6, p5, (7, hd 4 ((c14 ++ [[r21, r24]]).map (cdL 1 cdI).enc)), p11, p13, p3] [p2, none, none, p15, p12] kr ?_
    exact RunS.done rfl (Wk.sel2 [0, 4] kr kr kr ⟨⟨_, rfl, bu_mk⟩, ⟨_, rfl, bu_mk⟩, trivial⟩ ⟨lu kr kr, lu kr kr, lu_hd (b' := 0) kr kr, lu kr kr, lu_hd (b' := 4) kr kr, lu kr kr, lu kr kr, lu kr kr, trivial⟩)
   let p16 : Nat × AV := (11, .v (.int .i64 (wr .i64 (c17 + 1))))
   refine Sem.rg he [p8, p7, p6, p5, p14, p11, p13, p16] [p2, p12] ?_
   exact SemN.wk (s1 := ⟨Fr 75 [p8, p7, p6, p5, p14, p11, p13, p16], [p2, p12]⟩) (Wk.sel2 [0, 1] kr kr kr ⟨⟨_, rfl, bu_mk⟩, ⟨_, rfl, bu_mk⟩, trivial⟩ ⟨lu kr kr, lu kr kr, lu_hd (b' := 0) kr kr, lu kr kr, lu_hd (b' := 1) kr kr, lu kr kr, lu kr kr, lu kr kr, trivial⟩) (ih (c14 ++ [[r21, r24]]) r21 r24 (wr .i64 (c17 + 1)) h)
  ·rw [if_f hb18] at h
   refine Sem.exit ?_
   have hq := Option.some.inj h; subst hq
   exact ⟨rfl, (Wk.sel2 [0, 1] kr kr kr ⟨⟨_, rfl, bu_mk⟩, ⟨_, rfl, bu_mk⟩, trivial⟩ ⟨lu kr kr, lu kr kr, lu_hd (b' := 0) kr kr, lu kr kr, lu_hd (b' := 1) kr kr, trivial⟩)⟩
set_option maxHeartbeats 4000000 in
set_option maxRecDepth 100000 in
theorem ref09_Pairs_2_ok (x0 : Int) (r6 : Int) : ∀ (f : Nat) (c7 : (List (List (List Int)))) (c8 : Int) (r : ((List (List (List Int))))), ref09_Pairs_2 x0 r6 f c7 c8 = some r → SemN e_ref09_Pairs ⟨none, false⟩ (pc cb_ref09_Pairs [1, 1, 1, 1, 1, 0, 1, 0, 0]) f ⟨Fr 75 [(0, .v (.int .i64 x0)), (4, .v (.int .i64 r6)), (5, hd 0 (c7.map (cdL 1 (cdL 1 cdI)).enc)), (6, .v (.int .i64 c8))], [mk 1 50 (c7.map (cdL 1 (cdL 1 cdI)).enc)]⟩ (fun e s => e = (.exit 0) ∧ Wk e_ref09_Pairs s ⟨Fr 75 [(5, hd 0 (r.map (cdL 1 (cdL 1 cdI)).enc))], [mk 1 50 (r.map (cdL 1 (cdL 1 cdI)).enc)]⟩) := by
 have he := e_ref09_Pairs_ok
 intro f
 induction f with
 | zero => intro c7 c8 r h; cases h
 | succ f ih0 =>
  intro c7 c8 r h
  have ih := fun (c7 : (List (List (List Int)))) (c8 : Int) => ih0 c7 c8 r
  unfold ref09_Pairs_2 at h
  refine SemN.succ ?_
  refine Sem.seq ?_
  let p1 : Option Blk := mk 1 50 (c7.map (cdL 1 (cdL 1 cdI)).enc)
  let p2 : Nat × AV := (6, .v (.int .i64 c8))
  let p3 : Nat × AV := (5, hd 0 (c7.map (cdL 1 (cdL 1 cdI)).enc))
  let p4 : Nat × AV := (4, .v (.int .i64 r6))
  let p5 : Nat × AV := (0, .v (.int .i64 x0))
  refine Sem.sq he [p5, p4, p3, p2, (27, .v (.bool (decide (c8 ≤ (wr .i64 (r6 - 2))))))] [p1] ?_
  refine Sem.cond (b := (decide (c8 ≤ (wr .i64 (r6 - 2))))) kr (fun hb9 => ?_) (fun hb9 => ?_)
  ·rw [if_pos hb9] at h
   refine Sem.skip ?_
   refine Sem.seq ?_
   refine Sem.block ?_
   refine Sem.sq he [p5, p4, p3, p2, (7, .e0)] [p1] ?_
   let p6 : Option Blk := mk 1 3 ([(wr .i64 (r6 - 1)), c8].map cdI.enc)
   let p7 : Nat × AV := (8, hd 1 ([(wr .i64 (r6 - 1)), c8].map cdI.enc))
   refine Sem.sq he [p5, p4, p3, p2, (7, .e0), p7] [p1, p6] ?_
   refine Sem.seq ?_
   refine Sem.sq he [p5, p4, p3, p2, (7, .e0), p7, (36, .v (.bool (decide (r6 > x0))))] [p1, p6] ?_
   obtain ⟨r12, hr12, h⟩ := Option.bind_eq_some_iff.1 h
   refine Sem.cut (ref09_Pairs_j3_ok x0 r6 c7 c8 _ hr12) ?_
   refine Sem.seq ?_
   let p8 : Option Blk := mk 1 31 ([r12].map (cdL 1 cdI).enc)
   let p9 : Nat × AV := (7, hd 1 ([r12].map (cdL 1 cdI).enc))
   refine Sem.runS (s1 := ⟨Fr 75 [p5, p4, p3, p2, p9], [p1, p8]⟩) ?_ ?_
   ·refine RunS.segF (n := 75) he 2 [p5, p4, p3, p2, (39, .e0), (40, hd 1 (r12.map cdI.enc))] [p1, mk 1 3 (r12.map cdI.enc)] kr ?_
    refine RunS.wk (s1 := ⟨Fr 75 [p5, p4, p3, p2, (39, .e0), (40, .sl 1 (r12.map cdI.enc))], [p1, none]⟩) (Wk.frzG 1 (.inl kr) ⟨.inr (.inl rfl), .inl rfl, trivial⟩ ⟨⟨.v (.int .i64 x0), kr, .inl rfl⟩, ⟨.v (.int .i64 r6), kr, .inl rfl⟩, ⟨hd 0 (c7.map (cdL 1 (cdL 1 cdI)).enc), kr, .inl rfl⟩, ⟨.v (.int .i64 c8), kr, .inl rfl⟩, ⟨.e0, kr, .inl rfl⟩, ⟨hd 1 (r12.map cdI.enc), kr, fz_hd (t := 3) kr enc_ok⟩, trivial⟩) ?_
    refine RunS.segF (n := 75) he 1 [p5, p4, p3, p2, (39, .e0), (41, hd 2 ([r12].map (cdL 1 cdI).enc))] [p1, none, p8] kr ?_
    refine RunS.one he 0 rfl (op_w (wantedA_none rfl) rfl kr kr (w_append (a := .e0) (b := hd 2 ([r12].map (cdL 1 cdI).enc)) kr kr (append_E (c := (cdL 1 cdI)) (vs := [r12]) (k := 1) (bytes := 24) (el := 31) kr kr (elems_hd (t := 31) kr) (List.cons_ne_nil _ _) kr))) ?_
    refine RunS.segF (n := 75) he 1 [p5, p4, p3, p2, (7, hd 3 ([r12].map (cdL 1 cdI).enc))] [p1, none, p8, p8] kr ?_
    exact RunS.done rfl (Wk.sel2 [0, 3] kr kr kr ⟨⟨_, rfl, bu_mk⟩, ⟨_, rfl, bu_mk⟩, trivial⟩ ⟨lu kr kr, lu kr kr, lu_hd (b' := 0) kr kr, lu kr kr, lu_hd (b' := 3) kr kr, trivial⟩)
   let p10 : Nat × AV := (10, .v (.int .i64 c8))
   let p11 : Nat × AV := (9, .v (.int .i64 c8))
   refine Sem.sq he [p5, p4, p3, p2, p9, p11, p10] [p1, p8] ?_
   refine Sem.seq ?_
   refine Sem.sq he [p5, p4, p3, p2, p9, p11, p10, (11, .v (.int .i64 1))] [p1, p8] ?_
   refine Sem.block ?_
   obtain ⟨r27, hr27, h⟩ := Option.bind_eq_some_iff.1 h
   refine Sem.loop (n := 100000) ?_
   refine Sem.cutN (SemN.wk (s1 := ⟨Fr 75 [p5, p4, p3, p2, p9, p11, p10, (11, .v (.int .i64 1))], [p1, p8]⟩) (Wk.sel2 [0, 1] kr kr kr ⟨⟨_, rfl, bu_mk⟩, ⟨_, rfl, bu_mk⟩, trivial⟩ ⟨lu kr kr, lu kr kr, lu_hd (b' := 0) kr kr, lu kr kr, lu_hd (b' := 1) kr kr, lu kr kr, lu kr kr, lu kr kr, trivial⟩) (ref09_Pairs_4_ok x0 r6 c7 c8 _ [r12] c8 c8 1 _ hr27)) ?_
   by_cases hk28 : (capOk 24 (c7.length + 1)) = true
   case neg => rw [if_neg hk28] at h; cases h
   rw [if_pos hk28] at h
   let p12 : Option Blk := mk 1 50 ((c7 ++ [r27]).map (cdL 1 (cdL 1 cdI)).enc)
   let p13 : Nat × AV := (5, hd 0 ((c7 ++ [r27]).map (cdL 1 (cdL 1 cdI)).enc))
   refine Sem.runS (s1 := ⟨Fr 75 [p5, p4, p13, p2], [p12]⟩) ?_ ?_
   ·let p14 : Nat × AV := (70, hd 0 (c7.map (cdL 1 (cdL 1 cdI)).enc))
    refine RunS.segF (n := 75) he 2 [p5, p4, p2, p14, (71, hd 1 (r27.map (cdL 1 cdI).enc))] [p1, mk 1 31 (r27.map (cdL 1 cdI).enc)] kr ?_
    refine RunS.wk (s1 := ⟨Fr 75 [p5, p4, p2, p14, (71, .sl 1 (r27.map (cdL 1 cdI).enc))], [p1, none]⟩) (Wk.frzG 1 (.inl kr) ⟨.inr (.inl rfl), .inl rfl, trivial⟩ ⟨⟨.v (.int .i64 x0), kr, .inl rfl⟩, ⟨.v (.int .i64 r6), kr, .inl rfl⟩, ⟨.v (.int .i64 c8), kr, .inl rfl⟩, ⟨hd 0 (c7.map (cdL 1 (cdL 1 cdI)).enc), kr, .inl rfl⟩, ⟨hd 1 (r27.map (cdL 1 cdI).enc), kr, fz_hd (t := 31) kr enc_ok⟩, trivial⟩) ?_
    let p15 : Option Blk := mk 1 50 ([r27].map (cdL 1 (cdL 1 cdI)).enc)
    refine RunS.segF (n := 75) he 1 [p5, p4, p2, p14, (72, hd 2 ([r27].map (cdL 1 (cdL 1 cdI)).enc))] [p1, none, p15] kr ?_
    refine RunS.one he 0 rfl (op_w (wantedA_none rfl) rfl kr kr (w_append (a := hd 0 (c7.map (cdL 1 (cdL 1 cdI)).enc)) (b := hd 2 ([r27].map (cdL 1 (cdL 1 cdI)).enc)) kr kr (append_B (c := (cdL 1 (cdL 1 cdI))) (xs := c7) (vs := [r27]) (k := 1) (bytes := 24) (el := 50) kr kr (elems_hd (t := 50) kr) (List.cons_ne_nil _ _) kr hk28))) ?_
    refine RunS.segF (n := 75) he 1 [p5, p4, (5, hd 3 ((c7 ++ [r27]).map (cdL 1 (cdL 1 cdI)).enc)), p2] [none, none, p15, p12] kr ?_
    exact RunS.done rfl (Wk.sel2 [3] kr kr kr ⟨⟨_, rfl, bu_mk⟩, trivial⟩ ⟨lu kr kr, lu kr kr, lu_hd (b' := 3) kr kr, lu kr kr, trivial⟩)
   let p16 : Nat × AV := (6, .v (.int .i64 (wr .i64 (c8 + 1))))
   refine Sem.rg he [p5, p4, p13, p16] [p12] ?_
   exact SemN.wk (s1 := ⟨Fr 75 [p5, p4, p13, p16], [p12]⟩) (Wk.sel2 [0] kr kr kr ⟨⟨_, rfl, bu_mk⟩, trivial⟩ ⟨lu kr kr, lu kr kr, lu_hd (b' := 0) kr kr, lu kr kr, trivial⟩) (ih (c7 ++ [r27]) (wr .i64 (c8 + 1)) h)
  ·rw [if_f hb9] at h
   refine Sem.exit ?_
   have hq := Option.some.inj h; subst hq
   exact ⟨rfl, (Wk.sel2 [0] kr kr kr ⟨⟨_, rfl, bu_mk⟩, trivial⟩ ⟨lu_hd (b' := 0) kr kr, trivial⟩)⟩
set_option maxHeartbeats 4000000 in
set_option maxRecDepth 100000 in
theorem ref09_Pairs_sem (x0 : Int) (r : (List (List (List Int))) × Int) (h : ref09_Pairs x0 = some r) : Sem e_ref09_Pairs ⟨none, false⟩ cb_ref09_Pairs ⟨Fr 75 (pairs0 0 (cs_ref09_Pairs.enc (x0, ()))), []⟩ fun e s' => (e = .normal ∨ e = .ret) ∧ ∃ xs, resA e_ref09_Pairs.P s'.fr s'.hp Tryd.f57.results.toList = some xs ∧ retA xs = er_ref09_Pairs r := by
 have he := e_ref09_Pairs_ok
 unfold ref09_Pairs at h
 let p1 : Nat × AV := (0, .v (.int .i64 x0))
 refine Sem.wkQ (Sem.wk (s1 := ⟨Fr 75 [p1], []⟩) (Wk.fr kr) ?_)
 refine Sem.sq he [p1] [] ?_
 refine Sem.seq ?_
 refine Sem.seq ?_
 obtain ⟨j2, hj2, h⟩ := Option.bind_eq_some_iff.1 h
 refine Sem.runS (s1 := ⟨Fr 75 [p1, (17, .v (.bool j2))], []⟩) ?_ ?_
 ·refine RunS.segF (n := 75) he 3 [p1, (14, .v (.bool (decide (x0 < 2))))] [] kr ?_
  rcases Bool.eq_false_or_eq_true (decide (x0 < 2)) with hc31 | hc31
  ·rw [if_pos hc31] at hj2
   rw [hc31]
   refine RunS.segF (n := 75) he 3 [p1, (17, .v (.bool true))] [] kr ?_
   have hq := Option.some.inj hj2; subst hq
   exact RunS.done rfl (Wk.fr kr)
  ·rw [if_f hc31] at hj2
   rw [hc31]
   refine RunS.segF (n := 75) he 3 [p1, (17, .v (.bool (decide (x0 > 64))))] [] kr ?_
   have hq := Option.some.inj hj2; subst hq
   exact RunS.done rfl (Wk.fr kr)
 refine Sem.cond (b := j2) kr (fun hb3 => ?_) (fun hb3 => ?_)
 ·rw [if_pos hb3] at h
  let p2 : Nat × AV := (3, .v (.int .i64 90))
  refine Sem.sq he [(2, .e0), p2] [] ?_
  refine Sem.ret ?_
  have hq := Option.some.inj h; subst hq
  let p3 : Nat × AV := (2, .sl 1 ([].map (cdL 1 (cdL 1 cdI)).enc))
  exact ⟨⟨Fr 75 [p3, p2], []⟩, (Wk.trans (s1 := ⟨Fr 75 [(2, .e0), p2], []⟩) (Wk.fr kr) (Wk.trans (s1 := ⟨Fr 75 [(2, .e0), p2], [none]⟩) Wk.none (Wk.trans (s1 := ⟨Fr 75 [p3, p2], [none]⟩) (Wk.frzG 0 (.inr kr) ⟨.inl rfl, trivial⟩ ⟨⟨.e0, kr, fz_e0⟩, ⟨.v (.int .i64 90), kr, .inl rfl⟩, trivial⟩) (Wk.sel2 [] kr kr kr trivial ⟨lu kr kr, lu kr kr, trivial⟩)))), .inr rfl, [.sl 1 ([].map (cdL 1 (cdL 1 cdI)).enc), .v (.int .i64 90)], kr, kr⟩
 ·rw [if_f hb3] at h
  refine Sem.skip ?_
  refine Sem.sq he [p1, (4, .v (.int .i64 x0))] [] ?_
  refine Sem.seq ?_
  refine Sem.sq he [p1, (4, .v (.int .i64 x0)), (21, .v (.bool ((x0.tmod 2) == 1)))] [] ?_
  obtain ⟨r6, hr6, h⟩ := Option.bind_eq_some_iff.1 h
  refine Sem.cut (ref09_Pairs_j1_ok x0 _ hr6) ?_
  let p4 : Nat × AV := (4, .v (.int .i64 r6))
  refine Sem.sq he [p1, p4, (5, .e0)] [] ?_
  refine Sem.seq ?_
  let p5 : Nat × AV := (6, .v (.int .i64 0))
  refine Sem.sq he [p1, p4, (5, .e0), p5] [] ?_
  refine Sem.block ?_
  obtain ⟨r30, hr30, h⟩ := Option.bind_eq_some_iff.1 h
  refine Sem.loop (n := 100000) ?_
  let p6 : Option Blk := mk 1 50 ([].map (cdL 1 (cdL 1 cdI)).enc)
  let p7 : Nat × AV := (5, hd 0 ([].map (cdL 1 (cdL 1 cdI)).enc))
  refine Sem.cutN (SemN.wk (s1 := ⟨Fr 75 [p1, p4, p7, p5], [p6]⟩) (Wk.trans (s1 := ⟨Fr 75 [p1, p4, p7, p5], [p6]⟩) Wk.none (Wk.sel2 [0] kr kr kr ⟨⟨_, rfl, bu_none⟩, trivial⟩ ⟨lu kr kr, lu kr kr, lu kr kr, lu kr kr, trivial⟩)) (ref09_Pairs_2_ok x0 r6 _ [] 0 _ hr30)) ?_
  let p8 : Nat × AV := (3, .v (.int .i64 0))
  refine Sem.sq he [(2, hd 0 (r30.map (cdL 1 (cdL 1 cdI)).enc)), p8] [mk 1 50 (r30.map (cdL 1 (cdL 1 cdI)).enc)] ?_
  refine Sem.ret ?_
  have hq := Option.some.inj h; subst hq
  let p9 : Nat × AV := (2, .sl 1 (r30.map (cdL 1 (cdL 1 cdI)).enc))
  exact ⟨⟨Fr 75 [p9, p8], []⟩, (Wk.trans (s1 := ⟨Fr 75 [p9, p8], [none]⟩) (Wk.frzG 0 (.inl kr) ⟨.inl rfl, trivial⟩ ⟨⟨hd 0 (r30.map (cdL 1 (cdL 1 cdI)).enc), kr, fz_hd (t := 50) kr enc_ok⟩, ⟨.v (.int .i64 0), kr, .inl rfl⟩, trivial⟩) (Wk.sel2 [] kr kr kr trivial ⟨lu kr kr, lu kr kr, trivial⟩)), .inr rfl, [.sl 1 (r30.map (cdL 1 (cdL 1 cdI)).enc), .v (.int .i64 0)], kr, kr⟩
def t_ref09_Pairs : List AV → Option AV := told cs_ref09_Pairs (fun a => ref09_Pairs a.1) er_ref09_Pairs
theorem x_ref09_Pairs : XOk 57 t_ref09_Pairs := by
 refine EnvOk.x (E := e_ref09_Pairs) (contract_ok e_ref09_Pairs_ok (fn := Tryd.f57) (c := cb_ref09_Pairs) ?h1 ?h2 ⟨Tryd.call57⟩ cs_ref09_Pairs (fun a => ref09_Pairs a.1) er_ref09_Pairs (fun a => (by show 1 ≤ 75; decide)) ?h3 ?h4) rfl rfl
 case h1 => kernel_rfl
 case h2 => kernel_rfl
 case h3 => intro b; kernel_rfl
 case h4 => exact fun a b h => ref09_Pairs_sem a.1 b h
/- trestle/trestleref09.Rings -/
noncomputable def e_ref09_Rings : Env := E0
theorem e_ref09_Rings_ok : EnvOk e_ref09_Rings := E0_ok
noncomputable def cb_ref09_Rings : Code := codeOf Tryd.f59
def ref09_Rings_j3 (x0 : Int) (c5 : (List (List (List Int)))) (c6 : Int) (c8 : (List Int)) (c9 : Int) (c10 : Int) (c11 : Int) : Option ((Int)) :=
 if (decide (c10 > 0)) = true then
 some (wr .i64 ((wr .i64 (0 - c10)) - 1))
 else
 some (wr .i64 (1 - c10))
def ref09_Rings_2 (x0 : Int) (c5 : (List (List (List Int)))) (c6 : Int) : Nat → (List Int) → Int → Int → Int → Option (((List Int)))
 | 0, _, _, _, _ => none
 | f + 1, c8, c9, c10, c11 =>
  if (decide (c11 < (wr .i64 (2 * (wr .i64 ((wr .i64 (x0 - 1)).tdiv 2)))))) = true then
  if (wr .i64 (2 * (wr .i64 ((wr .i64 (x0 - 1)).tdiv 2)))) = (0 : Int) then none else
  if (capOk 8 (c8.length + 1)) = true then
  (ref09_Rings_j3 x0 c5 c6 c8 c9 c10 c11).bind fun r17 =>
  ref09_Rings_2 x0 c5 c6 f (c8 ++ [((wr .i64 (c9 + (wr .i64 (4 * (wr .i64 ((wr .i64 (x0 - 1)).tdiv 2)))))).tmod (wr .i64 (2 * (wr .i64 ((wr .i64 (x0 - 1)).tdiv 2)))))]) (wr .i64 (c9 + c10)) r17 (wr .i64 (c11 + 1))
  else none
  else
  some c8
def ref09_Rings_1 (x0 : Int) : Nat → (List (List (List Int))) → Int → Option (((List (List (List Int)))))
 | 0, _, _ => none
 | f + 1, c5, c6 =>
  if (decide (c6 < (wr .i64 ((wr .i64 (x0 - 1)).tdiv 2)))) = true then
  (ref09_Rings_2 x0 c5 c6 100000 [(wr .i64 (x0 - 1))] c6 1 0).bind fun r19 =>
  if (capOk 24 (c5.length + 1)) = true then
  ref09_Rings_1 x0 f (c5 ++ [[r19]]) (wr .i64 (c6 + 1))
  else none
  else
  some c5
def ref09_Rings (x0 : Int) : Option ((List (List (List Int))) × Int) :=
 (if (decide (x0 < 3)) = true then some true else some (decide (x0 > 64))).bind fun j2 =>
 if j2 = true then
 some ([], 90)
 else
 if ((x0.tmod 2) == 0) = true then
 some ([], 91)
 else
 (ref09_Rings_1 x0 100000 [] 0).bind fun r22 =>
 some (r22, 0)
def cs_ref09_Rings : Cs (Int × Unit) := (csC cdI csN)
def er_ref09_Rings (r : (List (List (List Int))) × Int) : AV := .tp [(cdL 1 (cdL 1 (cdL 1 cdI))).enc r.1, cdI.enc r.2]
set_option maxHeartbeats 4000000 in
set_option maxRecDepth 100000 in
theorem ref09_Rings_j3_ok (x0 : Int) (c5 : (List (List (List Int)))) (c6 : Int) (c8 : (List Int)) (c9 : Int) (c10 : Int) (c11 : Int) (r : (Int)) (h : ref09_Rings_j3 x0 c5 c6 c8 c9 c10 c11 = some r) : Sem e_ref09_Rings ⟨none, false⟩ (pc cb_ref09_Rings [1, 1, 1, 1, 1, 0, 1, 0, 0, 1, 0, 0, 1, 1, 0, 1, 0, 0, 1, 0, 0, 1, 1, 1]) ⟨Fr 64 [(0, .v (.int .i64 x0)), (4, .v (.int .i64 (wr .i64 ((wr .i64 (x0 - 1)).tdiv 2)))), (5, hd 0 (c5.map (cdL 1 (cdL 1 cdI)).enc)), (6, .v (.int .i64 c6)), (7, hd 1 ((c8 ++ [((wr .i64 (c9 + (wr .i64 (4 * (wr .i64 ((wr .i64 (x0 - 1)).tdiv 2)))))).tmod (wr .i64 (2 * (wr .i64 ((wr .i64 (x0 - 1)).tdiv 2)))))]).map cdI.enc)), (8, .v (.int .i64 (wr .i64 (c9 + c10)))), (9, .v (.int .i64 c10)), (10, .v (.int .i64 c11)), (52, .v (.bool (decide (c10 > 0))))], [mk 1 50 (c5.map (cdL 1 (cdL 1 cdI)).enc), mk 1 3 ((c8 ++ [((wr .i64 (c9 + (wr .i64 (4 * (wr .i64 ((wr .i64 (x0 - 1)).tdiv 2)))))).tmod (wr .i64 (2 * (wr .i64 ((wr .i64 (x0 - 1)).tdiv 2)))))]).map cdI.enc)]⟩ (fun e s => e = .normal ∧ Wk e_ref09_Rings s ⟨Fr 64 [(0, .v (.int .i64 x0)), (4, .v (.int .i64 (wr .i64 ((wr .i64 (x0 - 1)).tdiv 2)))), (5, hd 0 (c5.map (cdL 1 (cdL 1 cdI)).enc)), (6, .v (.int .i64 c6)), (7, hd 1 ((c8 ++ [((wr .i64 (c9 + (wr .i64 (4 * (wr .i64 ((wr .i64 (x0 - 1)).tdiv 2)))))).tmod (wr .i64 (2 * (wr .i64 ((wr .i64 (x0 - 1)).tdiv 2)))))]).map cdI.enc)), (8, .v (.int .i64 (wr .i64 (c9 + c10)))), (9, .v (.int .i64 r)), (10, .v (.int .i64 c11))], [mk 1 50 (c5.map (cdL 1 (cdL 1 cdI)).enc), mk 1 3 ((c8 ++ [((wr .i64 (c9 + (wr .i64 (4 * (wr .i64 ((wr .i64 (x0 - 1)).tdiv 2)))))).tmod (wr .i64 (2 * (wr .i64 ((wr .i64 (x0 - 1)).tdiv 2)))))]).map cdI.enc)]⟩) := by
 unfold ref09_Rings_j3 at h
 refine Sem.cond (b := (decide (c10 > 0))) kr (fun hb15 => ?_) (fun hb15 => ?_)
 ·rw [if_pos hb15] at h
  refine Sem.rg e_ref09_Rings_ok [(0, .v (.int .i64 x0)), (4, .v (.int .i64 (wr .i64 ((wr .i64 (x0 - 1)).tdiv 2)))), (5, hd 0 (c5.map (cdL 1 (cdL 1 cdI)).enc)), (6, .v (.int .i64 c6)), (7, hd 1 ((c8 ++ [((wr .i64 (c9 + (wr .i64 (4 * (wr .i64 ((wr .i64 (x0 - 1)).tdiv 2)))))).tmod (wr .i64 (2 * (wr .i64 ((wr .i64 (x0 - 1)).tdiv 2)))))]).map cdI.enc)), (8, .v (.int .i64 (wr .i64 (c9 + c10)))), (9, .v (.int .i64 (wr .i64 ((wr .i64 (0 - c10)) - 1)))), (10, .v (.int .i64 c11))] [mk 1 50 (c5.map (cdL 1 (cdL 1 cdI)).enc), mk 1 3 ((c8 ++ [((wr .i64 (c9 + (wr .i64 (4 * (wr .i64 ((wr .i64 (x0 - 1)).tdiv 2)))))).tmod (wr .i64 (2 * (wr .i64 ((wr .i64 (x0 - 1)).tdiv 2)))))]).map cdI.enc)] ?_
  have hq := Option.some.inj h; subst hq
  exact ⟨rfl, (Wk.sel2 [0, 1] kr kr kr ⟨⟨_, rfl, bu_mk⟩, ⟨_, rfl, bu_mk⟩, trivial⟩ ⟨lu kr kr, lu kr kr, lu_hd (b' := 0) kr kr, lu kr kr, lu_hd (b' := 1) kr kr, lu kr kr, lu kr kr, lu kr kr, trivial⟩)⟩
 ·rw [if_f hb15] at h
  refine Sem.rg e_ref09_Rings_ok [(0, .v (.int .i64 x0)), (4, .v (.int .i64 (wr .i64 ((wr .i64 (x0 - 1)).tdiv 2)))), (5, hd 0 (c5.map (cdL 1 (cdL 1 cdI)).enc)), (6, .v (.int .i64 c6)), (7, hd 1 ((c8 ++ [((wr .i64 (c9 + (wr .i64 (4 * (wr .i64 ((wr .i64 (x0 - 1)).tdiv 2)))))).tmod (wr .i64 (2 * (wr .i64 ((wr .i64 (x0 - 1)).tdiv 2)))))]).map cdI.enc)), (8, .v (.int .i64 (wr .i64 (c9 + c10)))), (9, .v (.int .i64 (wr .i64 (1 - c10)))), (10, .v (.int .i64 c11))] [mk 1 50 (c5.map (cdL 1 (cdL 1 cdI)).enc), mk 1 3 ((c8 ++ [((wr .i64 (c9 + (wr .i64 (4 * (wr .i64 ((wr .i64 (x0 - 1)).tdiv 2)))))).tmod (wr .i64 (2 * (wr .i64 ((wr .i64 (x0 - 1)).tdiv 2)))))]).map cdI.enc)] ?_
  have hq := Option.some.inj h; subst hq
  exact ⟨rfl, (Wk.sel2 [0, 1] kr kr kr ⟨⟨_, rfl, bu_mk⟩, ⟨_, rfl, bu_mk⟩, trivial⟩ ⟨lu kr kr, lu kr kr, lu_hd (b' := 0) kr kr, lu kr kr, lu_hd (b' := 1) kr kr, lu kr kr, lu kr kr, lu kr kr, trivial⟩)⟩
set_option maxHeartbeats 4000000 in
set_option maxRecDepth 100000 in
theorem ref09_Rings_2_ok (x0 : Int) (c5 : (List (List (List Int)))) (c6 : Int) : ∀ (f : Nat) (c8 : (List Int)) (c9 : Int) (c10 : Int) (c11 : Int) (r : ((List Int))), ref09_Rings_2 x0 c5 c6 f c8 c9 c10 c11 = some r → SemN e_ref09_Rings ⟨none, false⟩ (pc cb_ref09_Rings [1, 1, 1, 1, 1, 0, 1, 0, 0, 1, 0, 0, 1, 1, 0, 1, 0, 0]) f ⟨Fr 64 [(0, .v (.int .i64 x0)), (4, .v (.int .i64 (wr .i64 ((wr .i64 (x0 - 1)).tdiv 2)))), (5, hd 0 (c5.map (cdL 1 (cdL 1 cdI)).enc)), (6, .v (.int .i64 c6)), (7, hd 1 (c8.map cdI.enc)), (8, .v (.int .i64 c9)), (9, .v (.int .i64 c10)), (10, .v (.int .i64 c11))], [mk 1 50 (c5.map (cdL 1 (cdL 1 cdI)).enc), mk 1 3 (c8.map cdI.enc)]⟩ (fun e s => e = (.exit 2) ∧ Wk e_ref09_Rings s ⟨Fr 64 [(0, .v (.int .i64 x0)), (4, .v (.int .i64 (wr .i64 ((wr .i64 (x0 - 1)).tdiv 2)))), (5, hd 0 (c5.map (cdL 1 (cdL 1 cdI)).enc)), (6, .v (.int .i64 c6)), (7, hd 1 (r.map cdI.enc))], [mk 1 50 (c5.map (cdL 1 (cdL 1 cdI)).enc), mk 1 3 (r.map cdI.enc)]⟩) := by
 have he := e_ref09_Rings_ok
 intro f
 induction f with
 | zero => intro c8 c9 c10 c11 r h; cases h
 | succ f ih0 =>
  intro c8 c9 c10 c11 r h
  have ih := fun (c8 : (List Int)) (c9 : Int) (c10 : Int) (c11 : Int) => ih0 c8 c9 c10 c11 r
  unfold ref09_Rings_2 at h
  refine SemN.succ ?_
  refine Sem.seq ?_
  let p1 : Option Blk := mk 1 3 (c8.map cdI.enc)
  let p2 : Option Blk := mk 1 50 (c5.map (cdL 1 (cdL 1 cdI)).enc)
  let p3 : Nat × AV := (10, .v (.int .i64 c11))
  let p4 : Nat × AV := (9, .v (.int .i64 c10))
  let p5 : Nat × AV := (8, .v (.int .i64 c9))
  let p6 : Nat × AV := (6, .v (.int .i64 c6))
  let p7 : Nat × AV := (5, hd 0 (c5.map (cdL 1 (cdL 1 cdI)).enc))
  let p8 : Nat × AV := (4, .v (.int .i64 (wr .i64 ((wr .i64 (x0 - 1)).tdiv 2))))
  let p9 : Nat × AV := (0, .v (.int .i64 x0))
  refine Sem.sq he [p9, p8, p7, p6, (7, hd 1 (c8.map cdI.enc)), p5, p4, p3, (35, .v (.bool (decide (c11 < (wr .i64 (2 * (wr .i64 ((wr .i64 (x0 - 1)).tdiv 2))))))))] [p2, p1] ?_
  refine Sem.cond (b := (decide (c11 < (wr .i64 (2 * (wr .i64 ((wr .i64 (x0 - 1)).tdiv 2))))))) kr (fun hb12 => ?_) (fun hb12 => ?_)
  ·rw [if_pos hb12] at h
   refine Sem.skip ?_
   refine Sem.seq ?_
   refine Sem.block ?_
   refine Sem.seq ?_
   by_cases hz13 : (wr .i64 (2 * (wr .i64 ((wr .i64 (x0 - 1)).tdiv 2)))) = (0 : Int)
   ·rw [if_pos hz13] at h; cases h
   rw [if_neg hz13] at h
   by_cases hk14 : (capOk 8 (c8.length + 1)) = true
   case neg => rw [if_neg hk14] at h; cases h
   rw [if_pos hk14] at h
   let p10 : Option Blk := mk 1 3 ((c8 ++ [((wr .i64 (c9 + (wr .i64 (4 * (wr .i64 ((wr .i64 (x0 - 1)).tdiv 2)))))).tmod (wr .i64 (2 * (wr .i64 ((wr .i64 (x0 - 1)).tdiv 2)))))]).map cdI.enc)
   let p11 : Nat × AV := (7, hd 1 ((c8 ++ [((wr .i64 (c9 + (wr .i64 (4 * (wr .i64 ((wr .i64 (x0 - 1)).tdiv 2)))))).tmod (wr .i64 (2 * (wr .i64 ((wr .i64 (x0 - 1)).tdiv 2)))))]).map cdI.enc))
   refine Sem.runS (s1 := ⟨Fr 64 [p9, p8, p7, p6, p11, p5, p4, p3], [p2, p10]⟩) ?_ ?_
   ·refine RunS.segF (n := 64) he 7 [p9, p8, p7, p6, p5, p4, p3, (38, hd 1 (c8.map cdI.enc)), (42, .v (.int .i64 (wr .i64 (c9 + (wr .i64 (4 * (wr .i64 ((wr .i64 (x0 - 1)).tdiv 2)))))))), (44, .v (.int .i64 (wr .i64 (2 * (wr .i64 ((wr .i64 (x0 - 1)).tdiv 2))))))] [p2, p1] kr ?_
    refine RunS.one he 0 rfl (op_q (wantedA_none rfl) rfl (q_bin (a := .v (.int .i64 (wr .i64 (c9 + (wr .i64 (4 * (wr .i64 ((wr .i64 (x0 - 1)).tdiv 2)))))))) (b := .v (.int .i64 (wr .i64 (2 * (wr .i64 ((wr .i64 (x0 - 1)).tdiv 2)))))) kr kr (bin_rem hz13))) ?_
    let p12 : Option Blk := mk 1 3 ([((wr .i64 (c9 + (wr .i64 (4 * (wr .i64 ((wr .i64 (x0 - 1)).tdiv 2)))))).tmod (wr .i64 (2 * (wr .i64 ((wr .i64 (x0 - 1)).tdiv 2)))))].map cdI.enc)
    refine RunS.segF (n := 64) he 1 [p9, p8, p7, p6, p5, p4, p3, (38, hd 1 (c8.map cdI.enc)), (46, hd 2 ([((wr .i64 (c9 + (wr .i64 (4 * (wr .i64 ((wr .i64 (x0 - 1)).tdiv 2)))))).tmod (wr .i64 (2 * (wr .i64 ((wr .i64 (x0 - 1)).tdiv 2)))))].map cdI.enc))] [p2, p1, p12] kr ?_
    refine RunS.one he 0 rfl (op_w (wantedA_none rfl) rfl kr kr (w_append (a := hd 1 (c8.map cdI.enc)) (b := hd 2 ([((wr .i64 (c9 + (wr .i64 (4 * (wr .i64 ((wr .i64 (x0 - 1)).tdiv 2)))))).tmod (wr .i64 (2 * (wr .i64 ((wr .i64 (x0 - 1)).tdiv 2)))))].map cdI.enc)) kr kr (append_B (c := cdI) (xs := c8) (vs := [((wr .i64 (c9 + (wr .i64 (4 * (wr .i64 ((wr .i64 (x0 - 1)).tdiv 2)))))).tmod (wr .i64 (2 * (wr .i64 ((wr .i64 (x0 - 1)).tdiv 2)))))]) (k := 1) (bytes := 8) (el := 3) kr kr (elems_hd (t := 3) kr) (List.cons_ne_nil _ _) kr hk14))) ?_
    refine RunS.segF (n := 64) he 1 [p9, p8, p7, p6, (7, hd 3 ((c8 ++ [((wr .i64 (c9 + (wr .i64 (4 * (wr .i64 ((wr .i64 (x0 - 1)).tdiv 2)))))).tmod (wr .i64 (2 * (wr .i64 ((wr .i64 (x0 - 1)).tdiv 2)))))]).map cdI.enc)), p5, p4, p3] [p2, none, p12, p10] kr ?_
    exact RunS.done rfl (Wk.sel2 [0, 3] kr kr kr ⟨⟨_, rfl, bu_mk⟩, ⟨_, rfl, bu_mk⟩, trivial⟩ ⟨lu kr kr, lu kr kr, lu_hd (b' := 0) kr kr, lu kr kr, lu_hd (b' := 3) kr kr, lu kr kr, lu kr kr, lu kr kr, trivial⟩)
   let p13 : Nat × AV := (8, .v (.int .i64 (wr .i64 (c9 + c10))))
   refine Sem.sq he [p9, p8, p7, p6, p11, p13, p4, p3] [p2, p10] ?_
   refine Sem.sq he [p9, p8, p7, p6, p11, p13, p4, p3, (52, .v (.bool (decide (c10 > 0))))] [p2, p10] ?_
   obtain ⟨r17, hr17, h⟩ := Option.bind_eq_some_iff.1 h
   refine Sem.cut (ref09_Rings_j3_ok x0 c5 c6 c8 c9 c10 c11 _ hr17) ?_
   let p14 : Nat × AV := (10, .v (.int .i64 (wr .i64 (c11 + 1))))
   refine Sem.rg he [p9, p8, p7, p6, p11, p13, (9, .v (.int .i64 r17)), p14] [p2, p10] ?_
   exact SemN.wk (s1 := ⟨Fr 64 [p9, p8, p7, p6, p11, p13, (9, .v (.int .i64 r17)), p14], [p2, p10]⟩) (Wk.sel2 [0, 1] kr kr kr ⟨⟨_, rfl, bu_mk⟩, ⟨_, rfl, bu_mk⟩, trivial⟩ ⟨lu kr kr, lu kr kr, lu_hd (b' := 0) kr kr, lu kr kr, lu_hd (b' := 1) kr kr, lu kr kr, lu kr kr, lu kr kr, trivial⟩) (ih (c8 ++ [((wr .i64 (c9 + (wr .i64 (4 * (wr .i64 ((wr .i64 (x0 - 1)).tdiv 2)))))).tmod (wr .i64 (2 * (wr .i64 ((wr .i64 (x0 - 1)).tdiv 2)))))]) (wr .i64 (c9 + c10)) r17 (wr .i64 (c11 + 1)) h)
  ·rw [if_f hb12] at h
   refine Sem.exit ?_
   have hq := Option.some.inj h; subst hq
   exact ⟨rfl, (Wk.sel2 [0, 1] kr kr kr ⟨⟨_, rfl, bu_mk⟩, ⟨_, rfl, bu_mk⟩, trivial⟩ ⟨lu kr kr, lu kr kr, lu_hd (b' := 0) kr kr, lu kr kr, lu_hd (b' := 1) kr kr, trivial⟩)⟩
set_option maxHeartbeats 4000000 in
set_option maxRecDepth 100000 in
theorem ref09_Rings_1_ok (x0 : Int) : ∀ (f : Nat) (c5 : (List (List (List Int)))) (c6 : Int) (r : ((List (List (List Int))))), ref09_Rings_1 x0 f c5 c6 = some r → SemN e_ref09_Rings ⟨none, false⟩ (pc cb_ref09_Rings [1, 1, 1, 1, 1, 0, 1, 0, 0]) f ⟨Fr 64 [(0, .v (.int .i64 x0)), (4, .v (.int .i64 (wr .i64 ((wr .i64 (x0 - 1)).tdiv 2)))), (5, hd 0 (c5.map (cdL 1 (cdL 1 cdI)).enc)), (6, .v (.int .i64 c6))], [mk 1 50 (c5.map (cdL 1 (cdL 1 cdI)).enc)]⟩ (fun e s => e = (.exit 0) ∧ Wk e_ref09_Rings s ⟨Fr 64 [(5, hd 0 (r.map (cdL 1 (cdL 1 cdI)).enc))], [mk 1 50 (r.map (cdL 1 (cdL 1 cdI)).enc)]⟩) := by
 have he := e_ref09_Rings_ok
 intro f
 induction f with
 | zero => intro c5 c6 r h; cases h
 | succ f ih0 =>
  intro c5 c6 r h
  have ih := fun (c5 : (List (List (List Int)))) (c6 : Int) => ih0 c5 c6 r
  unfold ref09_Rings_1 at h
  refine SemN.succ ?_
  refine Sem.seq ?_
  let p1 : Option Blk := mk 1 50 (c5.map (cdL 1 (cdL 1 cdI)).enc)
  let p2 : Nat × AV := (6, .v (.int .i64 c6))
  let p3 : Nat × AV := (5, hd 0 (c5.map (cdL 1 (cdL 1 cdI)).enc))
  let p4 : Nat × AV := (4, .v (.int .i64 (wr .i64 ((wr .i64 (x0 - 1)).tdiv 2))))
  let p5 : Nat × AV := (0, .v (.int .i64 x0))
  refine Sem.sq he [p5, p4, p3, p2, (25, .v (.bool (decide (c6 < (wr .i64 ((wr .i64 (x0 - 1)).tdiv 2))))))] [p1] ?_
  refine Sem.cond (b := (decide (c6 < (wr .i64 ((wr .i64 (x0 - 1)).tdiv 2))))) kr (fun hb7 => ?_) (fun hb7 => ?_)
  ·rw [if_pos hb7] at h
   refine Sem.skip ?_
   refine Sem.seq ?_
   refine Sem.block ?_
   let p6 : Option Blk := mk 1 3 ([(wr .i64 (x0 - 1))].map cdI.enc)
   let p7 : Nat × AV := (7, hd 1 ([(wr .i64 (x0 - 1))].map cdI.enc))
   refine Sem.sq he [p5, p4, p3, p2, p7] [p1, p6] ?_
   let p8 : Nat × AV := (9, .v (.int .i64 1))
   let p9 : Nat × AV := (8, .v (.int .i64 c6))
   refine Sem.sq he [p5, p4, p3, p2, p7, p9, p8] [p1, p6] ?_
   refine Sem.seq ?_
   refine Sem.sq he [p5, p4, p3, p2, p7, p9, p8, (10, .v (.int .i64 0))] [p1, p6] ?_
   refine Sem.block ?_
   obtain ⟨r19, hr19, h⟩ := Option.bind_eq_some_iff.1 h
   refine Sem.loop (n := 100000) ?_
   refine Sem.cutN (SemN.wk (s1 := ⟨Fr 64 [p5, p4, p3, p2, p7, p9, p8, (10, .v (.int .i64 0))], [p1, p6]⟩) (Wk.sel2 [0, 1] kr kr kr ⟨⟨_, rfl, bu_mk⟩, ⟨_, rfl, bu_mk⟩, trivial⟩ ⟨lu kr kr, lu kr kr, lu_hd (b' := 0) kr kr, lu kr kr, lu_hd (b' := 1) kr kr, lu kr kr, lu kr kr, lu kr kr, trivial⟩) (ref09_Rings_2_ok x0 c5 c6 _ [(wr .i64 (x0 - 1))] c6 1 0 _ hr19)) ?_
   by_cases hk20 : (capOk 24 (c5.length + 1)) = true
   case neg => rw [if_neg hk20] at h; cases h
   rw [if_pos hk20] at h
   let p10 : Option Blk := mk 1 50 ((c5 ++ [[r19]]).map (cdL 1 (cdL 1 cdI)).enc)
   let p11 : Nat × AV := (5, hd 0 ((c5 ++ [[r19]]).map (cdL 1 (cdL 1 cdI)).enc))
   refine Sem.runS (s1 := ⟨Fr 64 [p5, p4, p11, p2], [p10]⟩) ?_ ?_
   ·let p12 : Nat × AV := (58, hd 0 (c5.map (cdL 1 (cdL 1 cdI)).enc))
    refine RunS.segF (n := 64) he 2 [p5, p4, p2, p12, (59, hd 1 (r19.map cdI.enc))] [p1, mk 1 3 (r19.map cdI.enc)] kr ?_
    refine RunS.wk (s1 := ⟨Fr 64 [p5, p4, p2, p12, (59, .sl 1 (r19.map cdI.enc))], [p1, none]⟩) (Wk.frzG 1 (.inl kr) ⟨.inr (.inl rfl), .inl rfl, trivial⟩ ⟨⟨.v (.int .i64 x0), kr, .inl rfl⟩, ⟨.v (.int .i64 (wr .i64 ((wr .i64 (x0 - 1)).tdiv 2))), kr, .inl rfl⟩, ⟨.v (.int .i64 c6), kr, .inl rfl⟩, ⟨hd 0 (c5.map (cdL 1 (cdL 1 cdI)).enc), kr, .inl rfl⟩, ⟨hd 1 (r19.map cdI.enc), kr, fz_hd (t := 3) kr enc_ok⟩, trivial⟩) ?_
    refine RunS.segF (n := 64) he 2 [p5, p4, p2, p12, (61, .rf 3 0 1 1)] [p1, none, mk 1 31 ([r19].map (cdL 1 cdI).enc), some ⟨1, 50, [hd 2 ([r19].map (cdL 1 cdI).enc)], false⟩] kr ?_
    let p13 : Option Blk := mk 1 50 ([[r19]].map (cdL 1 (cdL 1 cdI)).enc)
    refine RunS.wk (s1 := ⟨Fr 64 [p5, p4, p2, p12, (61, hd 3 ([[r19]].map (cdL 1 (cdL 1 cdI)).enc))], [p1, none, none, p13]⟩) (Wk.frzG 2 (.inl kr) ⟨.inr (.inl rfl), .inl rfl, .inl rfl, .inr (.inr ⟨_, _, _, _, rfl, rfl, ⟨fz_hd (t := 31) kr enc_ok, trivial⟩⟩), trivial⟩ ⟨⟨.v (.int .i64 x0), kr, .inl rfl⟩, ⟨.v (.int .i64 (wr .i64 ((wr .i64 (x0 - 1)).tdiv 2))), kr, .inl rfl⟩, ⟨.v (.int .i64 c6), kr, .inl rfl⟩, ⟨hd 0 (c5.map (cdL 1 (cdL 1 cdI)).enc), kr, .inl rfl⟩, ⟨.rf 3 0 1 1, kr, .inl rfl⟩, trivial⟩) ?_
    refine RunS.one he 0 rfl (op_w (wantedA_none rfl) rfl kr kr (w_append (a := hd 0 (c5.map (cdL 1 (cdL 1 cdI)).enc)) (b := hd 3 ([[r19]].map (cdL 1 (cdL 1 cdI)).enc)) kr kr (append_B (c := (cdL 1 (cdL 1 cdI))) (xs := c5) (vs := [[r19]]) (k := 1) (bytes := 24) (el := 50) kr kr (elems_hd (t := 50) kr) (List.cons_ne_nil _ _) kr hk20))) ?_
    refine RunS.segF (n := 64) he 1 [p5, p4, (5, hd 4 ((c5 ++ [[r19]]).map (cdL 1 (cdL 1 cdI)).enc)), p2] [none, none, none, p13, p10] kr ?_
    exact RunS.done rfl (Wk.sel2 [4] kr kr kr ⟨⟨_, rfl, bu_mk⟩, trivial⟩ ⟨lu kr kr, lu kr kr, lu_hd (b' := 4) kr kr, lu kr kr, trivial⟩)
   let p14 : Nat × AV := (6, .v (.int .i64 (wr .i64 (c6 + 1))))
   refine Sem.rg he [p5, p4, p11, p14] [p10] ?_
   exact SemN.wk (s1 := ⟨Fr 64 [p5, p4, p11, p14], [p10]⟩) (Wk.sel2 [0] kr kr kr ⟨⟨_, rfl, bu_mk⟩, trivial⟩ ⟨lu kr kr, lu kr kr, lu_hd (b' := 0) kr kr, lu kr kr, trivial⟩) (ih (c5 ++ [[r19]]) (wr .i64 (c6 + 1)) h)
  ·rw [if_f hb7] at h
   refine Sem.exit ?_
   have hq := Option.some.inj h; subst hq
   exact ⟨rfl, (Wk.sel2 [0] kr kr kr ⟨⟨_, rfl, bu_mk⟩, trivial⟩ ⟨lu_hd (b' := 0) kr kr, trivial⟩)⟩
set_option maxHeartbeats 4000000 in
set_option maxRecDepth 100000 in
theorem ref09_Rings_sem (x0 : Int) (r : (List (List (List Int))) × Int) (h : ref09_Rings x0 = some r) : Sem e_ref09_Rings ⟨none, false⟩ cb_ref09_Rings ⟨Fr 64 (pairs0 0 (cs_ref09_Rings.enc (x0, ()))), []⟩ fun e s' => (e = .normal ∨ e = .ret) ∧ ∃ xs, resA e_ref09_Rings.P s'.fr s'.hp Tryd.f59.results.toList = some xs ∧ retA xs = er_ref09_Rings r := by
 have he := e_ref09_Rings_ok
 unfold ref09_Rings at h
 let p1 : Nat × AV := (0, .v (.int .i64 x0))
 refine Sem.wkQ (Sem.wk (s1 := ⟨Fr 64 [p1], []⟩) (Wk.fr kr) ?_)
 refine Sem.sq he [p1] [] ?_
 refine Sem.seq ?_
 refine Sem.seq ?_
 obtain ⟨j2, hj2, h⟩ := Option.bind_eq_some_iff.1 h
 refine Sem.runS (s1 := ⟨Fr 64 [p1, (16, .v (.bool j2))], []⟩) ?_ ?_
 ·refine RunS.segF (n := 64) he 3 [p1, (13, .v (.bool (decide (x0 < 3))))] [] kr ?_
  rcases Bool.eq_false_or_eq_true (decide (x0 < 3)) with hc23 | hc23
  ·rw [if_pos hc23] at hj2
   rw [hc23]
   refine RunS.segF (n := 64) he 3 [p1, (16, .v (.bool true))] [] kr ?_
   have hq := Option.some.inj hj2; subst hq
   exact RunS.done rfl (Wk.fr kr)
  ·rw [if_f hc23] at hj2
   rw [hc23]
   refine RunS.segF (n := 64) he 3 [p1, (16, .v (.bool (decide (x0 > 64))))] [] kr ?_
   have hq := Option.some.inj hj2; subst hq
   exact RunS.done rfl (Wk.fr kr)
 refine Sem.cond (b := j2) kr (fun hb3 => ?_) (fun hb3 => ?_)
 ·rw [if_pos hb3] at h
  let p2 : Nat × AV := (3, .v (.int .i64 90))
  refine Sem.sq he [(2, .e0), p2] [] ?_
  refine Sem.ret ?_
  have hq := Option.some.inj h; subst hq
  let p3 : Nat × AV := (2, .sl 1 ([].map (cdL 1 (cdL 1 cdI)).enc))
  exact ⟨⟨Fr 64 [p3, p2], []⟩, (Wk.trans (s1 := ⟨Fr 64 [(2, .e0), p2], []⟩) (Wk.fr kr) (Wk.trans (s1 := ⟨Fr 64 [(2, .e0), p2], [none]⟩) Wk.none (Wk.trans (s1 := ⟨Fr 64 [p3, p2], [none]⟩) (Wk.frzG 0 (.inr kr) ⟨.inl rfl, trivial⟩ ⟨⟨.e0, kr, fz_e0⟩, ⟨.v (.int .i64 90), kr, .inl rfl⟩, trivial⟩) (Wk.sel2 [] kr kr kr trivial ⟨lu kr kr, lu kr kr, trivial⟩)))), .inr rfl, [.sl 1 ([].map (cdL 1 (cdL 1 cdI)).enc), .v (.int .i64 90)], kr, kr⟩
 ·rw [if_f hb3] at h
  refine Sem.skip ?_
  refine Sem.seq ?_
  refine Sem.sq he [p1, (19, .v (.bool ((x0.tmod 2) == 0)))] [] ?_
  refine Sem.cond (b := ((x0.tmod 2) == 0)) kr (fun hb4 => ?_) (fun hb4 => ?_)
  ·rw [if_pos hb4] at h
   let p4 : Nat × AV := (3, .v (.int .i64 91))
   refine Sem.sq he [(2, .e0), p4] [] ?_
   refine Sem.ret ?_
   have hq := Option.some.inj h; subst hq
   let p5 : Nat × AV := (2, .sl 1 ([].map (cdL 1 (cdL 1 cdI)).enc))
   exact ⟨⟨Fr 64 [p5, p4], []⟩, (Wk.trans (s1 := ⟨Fr 64 [(2, .e0), p4], []⟩) (Wk.fr kr) (Wk.trans (s1 := ⟨Fr 64 [(2, .e0), p4], [none]⟩) Wk.none (Wk.trans (s1 := ⟨Fr 64 [p5, p4], [none]⟩) (Wk.frzG 0 (.inr kr) ⟨.inl rfl, trivial⟩ ⟨⟨.e0, kr, fz_e0⟩, ⟨.v (.int .i64 91), kr, .inl rfl⟩, trivial⟩) (Wk.sel2 [] kr kr kr trivial ⟨lu kr kr, lu kr kr, trivial⟩)))), .inr rfl, [.sl 1 ([].map (cdL 1 (cdL 1 cdI)).enc), .v (.int .i64 91)], kr, kr⟩
  ·rw [if_f hb4] at h
   refine Sem.skip ?_
   let p6 : Nat × AV := (4, .v (.int .i64 (wr .i64 ((wr .i64 (x0 - 1)).tdiv 2))))
   refine Sem.sq he [p1, p6] [] ?_
   refine Sem.sq he [p1, p6, (5, .e0)] [] ?_
   refine Sem.seq ?_
   let p7 : Nat × AV := (6, .v (.int .i64 0))
   refine Sem.sq he [p1, p6, (5, .e0), p7] [] ?_
   refine Sem.block ?_
   obtain ⟨r22, hr22, h⟩ := Option.bind_eq_some_iff.1 h
   refine Sem.loop (n := 100000) ?_
   let p8 : Option Blk := mk 1 50 ([].map (cdL 1 (cdL 1 cdI)).enc)
   let p9 : Nat × AV := (5, hd 0 ([].map (cdL 1 (cdL 1 cdI)).enc))
   refine Sem.cutN (SemN.wk (s1 := ⟨Fr 64 [p1, p6, p9, p7], [p8]⟩) (Wk.trans (s1 := ⟨Fr 64 [p1, p6, p9, p7], [p8]⟩) Wk.none (Wk.sel2 [0] kr kr kr ⟨⟨_, rfl, bu_none⟩, trivial⟩ ⟨lu kr kr, lu kr kr, lu kr kr, lu kr kr, trivial⟩)) (ref09_Rings_1_ok x0 _ [] 0 _ hr22)) ?_
   let p10 : Nat × AV := (3, .v (.int .i64 0))
   refine Sem.sq he [(2, hd 0 (r22.map (cdL 1 (cdL 1 cdI)).enc)), p10] [mk 1 50 (r22.map (cdL 1 (cdL 1 cdI)).enc)] ?_
   refine Sem.ret ?_
   have hq := Option.some.inj h; subst hq
   let p11 : Nat × AV := (2, .sl 1 (r22.map (cdL 1 (cdL 1 cdI)).enc))
   exact ⟨⟨Fr 64 [p11, p10], []⟩, (Wk.trans (s1 := ⟨Fr 64 [p11, p10], [none]⟩) (Wk.frzG 0 (.inl kr) ⟨.inl rfl, trivial⟩ ⟨⟨hd 0 (r22.map (cdL 1 (cdL 1 cdI)).enc), kr, fz_hd (t := 50) kr enc_ok⟩, ⟨.v (.int .i64 0), kr, .inl rfl⟩, trivial⟩) (Wk.sel2 [] kr kr kr trivial ⟨lu kr kr, lu kr kr, trivial⟩)), .inr rfl, [.sl 1 (r22.map (cdL 1 (cdL 1 cdI)).enc), .v (.int .i64 0)], kr, kr⟩
def t_ref09_Rings : List AV → Option AV := told cs_ref09_Rings (fun a => ref09_Rings a.1) er_ref09_Rings
theorem x_ref09_Rings : XOk 59 t_ref09_Rings := by
 refine EnvOk.x (E := e_ref09_Rings) (contract_ok e_ref09_Rings_ok (fn := Tryd.f59) (c := cb_ref09_Rings) ?h1 ?h2 ⟨Tryd.call59⟩ cs_ref09_Rings (fun a => ref09_Rings a.1) er_ref09_Rings (fun a => (by show 1 ≤ 64; decide)) ?h3 ?h4) rfl rfl
 case h1 => kernel_rfl
 case h2 => kernel_rfl
 case h3 => intro b; kernel_rfl
 case h4 => exact fun a b h => ref09_Rings_sem a.1 b h
/- trestle/trestleref09.Field -/
noncomputable def e_ref09_Field : Env := E0
theorem e_ref09_Field_ok : EnvOk e_ref09_Field := E0_ok
noncomputable def cb_ref09_Field : Code := codeOf Tryd.f102
def ref09_Field_j5 (x0 : Int) : Option ((Bool)) :=
 if (x0 == 11) = true then
 some (x0 == 11)
 else
 some (x0 == 13)
def ref09_Field_j4 (x0 : Int) : Option ((Bool)) :=
 if (x0 == 7) = true then
 some (x0 == 7)
 else
 (ref09_Field_j5 x0).bind fun r11 =>
 some r11
def ref09_Field_j3 (x0 : Int) : Option ((Bool)) :=
 if (x0 == 5) = true then
 some (x0 == 5)
 else
 (ref09_Field_j4 x0).bind fun r12 =>
 some r12
def ref09_Field_j2 (x0 : Int) : Option ((Bool)) :=
 if (x0 == 3) = true then
 some (x0 == 3)
 else
 (ref09_Field_j3 x0).bind fun r13 =>
 some r13
def ref09_Field_j1 (x0 : Int) : Option ((Bool)) :=
 if (x0 == 2) = true then
 some (x0 == 2)
 else
 (ref09_Field_j2 x0).bind fun r14 =>
 some r14
def ref09_Field (x0 : Int) : Option (Int × (List Int)) :=
 (ref09_Field_j1 x0).bind fun r15 =>
 if r15 = true then
 some (x0, [])
 else
 if (x0 == 4) = true then
 some (2, [1, 1, 1])
 else
 if (x0 == 8) = true then
 some (2, [1, 1, 0, 1])
 else
 if (x0 == 9) = true then
 some (3, [1, 0, 1])
 else
 if (x0 == 16) = true then
 some (2, [1, 1, 0, 0, 1])
 else
 some (0, [])
def cs_ref09_Field : Cs (Int × Unit) := (csC cdI csN)
def er_ref09_Field (r : Int × (List Int)) : AV := .tp [cdI.enc r.1, (cdL 1 cdI).enc r.2]
set_option maxHeartbeats 4000000 in
set_option maxRecDepth 100000 in
theorem ref09_Field_j5_ok (x0 : Int) (r : (Bool)) (h : ref09_Field_j5 x0 = some r) : Sem e_ref09_Field ⟨none, false⟩ (pc cb_ref09_Field [1, 0, 1, 0, 0, 1, 1, 1, 1, 1, 1, 1, 1, 1]) ⟨Fr 25 [(0, .v (.int .i64 x0)), (4, .v (.int .i64 x0)), (5, .v (.bool (x0 == 11)))], []⟩ (fun e s => e = .normal ∧ Wk e_ref09_Field s ⟨Fr 25 [(0, .v (.int .i64 x0)), (4, .v (.int .i64 x0)), (5, .v (.bool r))], []⟩) := by
 unfold ref09_Field_j5 at h
 refine Sem.cond (b := (x0 == 11)) kr (fun hb9 => ?_) (fun hb9 => ?_)
 ·rw [if_pos hb9] at h
  refine Sem.skip ?_
  have hq := Option.some.inj h; subst hq
  exact ⟨rfl, (Wk.fr kr)⟩
 ·rw [if_f hb9] at h
  refine Sem.rg e_ref09_Field_ok [(0, .v (.int .i64 x0)), (4, .v (.int .i64 x0)), (5, .v (.bool (x0 == 13)))] [] ?_
  have hq := Option.some.inj h; subst hq
  exact ⟨rfl, (Wk.fr kr)⟩
set_option maxHeartbeats 4000000 in
set_option maxRecDepth 100000 in
theorem ref09_Field_j4_ok (x0 : Int) (r : (Bool)) (h : ref09_Field_j4 x0 = some r) : Sem e_ref09_Field ⟨none, false⟩ (pc cb_ref09_Field [1, 0, 1, 0, 0, 1, 1, 1, 1, 1, 1, 1]) ⟨Fr 25 [(0, .v (.int .i64 x0)), (4, .v (.int .i64 x0)), (5, .v (.bool (x0 == 7)))], []⟩ (fun e s => e = .normal ∧ Wk e_ref09_Field s ⟨Fr 25 [(0, .v (.int .i64 x0)), (4, .v (.int .i64 x0)), (5, .v (.bool r))], []⟩) := by
 unfold ref09_Field_j4 at h
 refine Sem.cond (b := (x0 == 7)) kr (fun hb7 => ?_) (fun hb7 => ?_)
 ·rw [if_pos hb7] at h
  refine Sem.skip ?_
  have hq := Option.some.inj h; subst hq
  exact ⟨rfl, (Wk.fr kr)⟩
 ·rw [if_f hb7] at h
  refine Sem.sq e_ref09_Field_ok [(0, .v (.int .i64 x0)), (4, .v (.int .i64 x0)), (5, .v (.bool (x0 == 11)))] [] ?_
  obtain ⟨r11, hr11, h⟩ := Option.bind_eq_some_iff.1 h
  refine Sem.cut (ref09_Field_j5_ok x0 _ hr11) ?_
  have hq := Option.some.inj h; subst hq
  exact ⟨rfl, (Wk.fr kr)⟩
set_option maxHeartbeats 4000000 in
set_option maxRecDepth 100000 in
theorem ref09_Field_j3_ok (x0 : Int) (r : (Bool)) (h : ref09_Field_j3 x0 = some r) : Sem e_ref09_Field ⟨none, false⟩ (pc cb_ref09_Field [1, 0, 1, 0, 0, 1, 1, 1, 1, 1]) ⟨Fr 25 [(0, .v (.int .i64 x0)), (4, .v (.int .i64 x0)), (5, .v (.bool (x0 == 5)))], []⟩ (fun e s => e = .normal ∧ Wk e_ref09_Field s ⟨Fr 25 [(0, .v (.int .i64 x0)), (4, .v (.int .i64 x0)), (5, .v (.bool r))], []⟩) := by
 unfold ref09_Field_j3 at h
 refine Sem.cond (b := (x0 == 5)) kr (fun hb5 => ?_) (fun hb5 => ?_)
 ·rw [if_pos hb5] at h
  refine Sem.skip ?_
  have hq := Option.some.inj h; subst hq
  exact ⟨rfl, (Wk.fr kr)⟩
 ·rw [if_f hb5] at h
  refine Sem.sq e_ref09_Field_ok [(0, .v (.int .i64 x0)), (4, .v (.int .i64 x0)), (5, .v (.bool (x0 == 7)))] [] ?_
  obtain ⟨r12, hr12, h⟩ := Option.bind_eq_some_iff.1 h
  refine Sem.cut (ref09_Field_j4_ok x0 _ hr12) ?_
  have hq := Option.some.inj h; subst hq
  exact ⟨rfl, (Wk.fr kr)⟩
set_option maxHeartbeats 4000000 in
set_option maxRecDepth 100000 in
theorem ref09_Field_j2_ok (x0 : Int) (r : (Bool)) (h : ref09_Field_j2 x0 = some r) : Sem e_ref09_Field ⟨none, false⟩ (pc cb_ref09_Field [1, 0, 1, 0, 0, 1, 1, 1]) ⟨Fr 25 [(0, .v (.int .i64 x0)), (4, .v (.int .i64 x0)), (5, .v (.bool (x0 == 3)))], []⟩ (fun e s => e = .normal ∧ Wk e_ref09_Field s ⟨Fr 25 [(0, .v (.int .i64 x0)), (4, .v (.int .i64 x0)), (5, .v (.bool r))], []⟩) := by
 unfold ref09_Field_j2 at h
 refine Sem.cond (b := (x0 == 3)) kr (fun hb3 => ?_) (fun hb3 => ?_)
 ·rw [if_pos hb3] at h
  refine Sem.skip ?_
  have hq := Option.some.inj h; subst hq
  exact ⟨rfl, (Wk.fr kr)⟩
 ·rw [if_f hb3] at h
  refine Sem.sq e_ref09_Field_ok [(0, .v (.int .i64 x0)), (4, .v (.int .i64 x0)), (5, .v (.bool (x0 == 5)))] [] ?_
  obtain ⟨r13, hr13, h⟩ := Option.bind_eq_some_iff.1 h
  refine Sem.cut (ref09_Field_j3_ok x0 _ hr13) ?_
  have hq := Option.some.inj h; subst hq
  exact ⟨rfl, (Wk.fr kr)⟩
set_option maxHeartbeats 4000000 in
set_option maxRecDepth 100000 in
theorem ref09_Field_j1_ok (x0 : Int) (r : (Bool)) (h : ref09_Field_j1 x0 = some r) : Sem e_ref09_Field ⟨none, false⟩ (pc cb_ref09_Field [1, 0, 1, 0, 0, 1]) ⟨Fr 25 [(0, .v (.int .i64 x0)), (4, .v (.int .i64 x0)), (5, .v (.bool (x0 == 2)))], []⟩ (fun e s => e = .normal ∧ Wk e_ref09_Field s ⟨Fr 25 [(0, .v (.int .i64 x0)), (4, .v (.int .i64 x0)), (5, .v (.bool r))], []⟩) := by
 unfold ref09_Field_j1 at h
 refine Sem.cond (b := (x0 == 2)) kr (fun hb1 => ?_) (fun hb1 => ?_)
 ·rw [if_pos hb1] at h
  refine Sem.skip ?_
  have hq := Option.some.inj h; subst hq
  exact ⟨rfl, (Wk.fr kr)⟩
 ·rw [if_f hb1] at h
  refine Sem.sq e_ref09_Field_ok [(0, .v (.int .i64 x0)), (4, .v (.int .i64 x0)), (5, .v (.bool (x0 == 3)))] [] ?_
  obtain ⟨r14, hr14, h⟩ := Option.bind_eq_some_iff.1 h
  refine Sem.cut (ref09_Field_j2_ok x0 _ hr14) ?_
  have hq := Option.some.inj h; subst hq
  exact ⟨rfl, (Wk.fr kr)⟩
set_option maxHeartbeats 4000000 in
set_option maxRecDepth 100000 in
theorem ref09_Field_sem (x0 : Int) (r : Int × (List Int)) (h : ref09_Field x0 = some r) : Sem e_ref09_Field ⟨none, false⟩ cb_ref09_Field ⟨Fr 25 (pairs0 0 (cs_ref09_Field.enc (x0, ()))), []⟩ fun e s' => (e = .normal ∨ e = .ret) ∧ ∃ xs, resA e_ref09_Field.P s'.fr s'.hp Tryd.f102.results.toList = some xs ∧ retA xs = er_ref09_Field r := by
 have he := e_ref09_Field_ok
 unfold ref09_Field at h
 let p1 : Nat × AV := (0, .v (.int .i64 x0))
 refine Sem.wkQ (Sem.wk (s1 := ⟨Fr 25 [p1], []⟩) (Wk.fr kr) ?_)
 refine Sem.sq he [p1] [] ?_
 refine Sem.seq ?_
 let p2 : Nat × AV := (4, .v (.int .i64 x0))
 refine Sem.sq he [p1, p2] [] ?_
 refine Sem.block ?_
 refine Sem.seq ?_
 refine Sem.sq he [p1, p2, (5, .v (.bool (x0 == 2)))] [] ?_
 obtain ⟨r15, hr15, h⟩ := Option.bind_eq_some_iff.1 h
 refine Sem.cut (ref09_Field_j1_ok x0 _ hr15) ?_
 refine Sem.cond (b := r15) kr (fun hb16 => ?_) (fun hb16 => ?_)
 ·rw [if_pos hb16] at h
  let p3 : Nat × AV := (2, .v (.int .i64 x0))
  refine Sem.sq he [p3, (3, .e0)] [] ?_
  refine Sem.ret ?_
  have hq := Option.some.inj h; subst hq
  exact ⟨⟨Fr 25 [p3, (3, .sl 1 ([].map cdI.enc))], []⟩, (Wk.trans (s1 := ⟨Fr 25 [p3, (3, .e0)], []⟩) (Wk.fr kr) (Wk.trans (s1 := ⟨Fr 25 [p3, (3, .e0)], [none]⟩) Wk.none (Wk.trans (s1 := ⟨Fr 25 [p3, (3, .sl 1 ([].map cdI.enc))], [none]⟩) (Wk.frzG 0 (.inr kr) ⟨.inl rfl, trivial⟩ ⟨⟨.v (.int .i64 x0), kr, .inl rfl⟩, ⟨.e0, kr, fz_e0⟩, trivial⟩) (Wk.sel2 [] kr kr kr trivial ⟨lu kr kr, lu kr kr, trivial⟩)))), .inr rfl, [.v (.int .i64 x0), .sl 1 ([].map cdI.enc)], kr, kr⟩
 ·rw [if_f hb16] at h
  refine Sem.sq he [p2, (13, .v (.bool (x0 == 4)))] [] ?_
  refine Sem.cond (b := (x0 == 4)) kr (fun hb17 => ?_) (fun hb17 => ?_)
  ·rw [if_pos hb17] at h
   let p4 : Nat × AV := (2, .v (.int .i64 2))
   refine Sem.sq he [p4, (3, hd 0 ([1, 1, 1].map cdI.enc))] [mk 1 3 ([1, 1, 1].map cdI.enc)] ?_
   refine Sem.ret ?_
   have hq := Option.some.inj h; subst hq
   exact ⟨⟨Fr 25 [p4, (3, .sl 1 ([1, 1, 1].map cdI.enc))], []⟩, (Wk.trans (s1 := ⟨Fr 25 [p4, (3, .sl 1 ([1, 1, 1].map cdI.enc))], [none]⟩) (Wk.frzG 0 (.inl kr) ⟨.inl rfl, trivial⟩ ⟨⟨.v (.int .i64 2), kr, .inl rfl⟩, ⟨hd 0 ([1, 1, 1].map cdI.enc), kr, fz_hd (t := 3) kr enc_ok⟩, trivial⟩) (Wk.sel2 [] kr kr kr trivial ⟨lu kr kr, lu kr kr, trivial⟩)), .inr rfl, [.v (.int .i64 2), .sl 1 ([1, 1, 1].map cdI.enc)], kr, kr⟩
  ·rw [if_f hb17] at h
   refine Sem.sq he [p2, (16, .v (.bool (x0 == 8)))] [] ?_
   refine Sem.cond (b := (x0 == 8)) kr (fun hb18 => ?_) (fun hb18 => ?_)
   ·rw [if_pos hb18] at h
    let p5 : Nat × AV := (2, .v (.int .i64 2))
    refine Sem.sq he [p5, (3, hd 0 ([1, 1, 0, 1].map cdI.enc))] [mk 1 3 ([1, 1, 0, 1].map cdI.enc)] ?_
    refine Sem.ret ?_
    have hq := Option.some.inj h; subst hq
    let p6 : Nat × AV := (3, .sl 1 ([1, 1, 0, 1].map cdI.enc))
    exact ⟨⟨Fr 25 [p5, p6], []⟩, (Wk.trans (s1 := ⟨Fr 25 [p5, p6], [none]⟩) (Wk.frzG 0 (.inl kr) ⟨.inl rfl, trivial⟩ ⟨⟨.v (.int .i64 2), kr, .inl rfl⟩, ⟨hd 0 ([1, 1, 0, 1].map cdI.enc), kr, fz_hd (t := 3) kr enc_ok⟩, trivial⟩) (Wk.sel2 [] kr kr kr trivial ⟨lu kr kr, lu kr kr, trivial⟩)), .inr rfl, [.v (.int .i64 2), .sl 1 ([1, 1, 0, 1].map cdI.enc)], kr, kr⟩
   ·rw [if_f hb18] at h
    refine Sem.sq he [p2, (19, .v (.bool (x0 == 9)))] [] ?_
    refine Sem.cond (b := (x0 == 9)) kr (fun hb19 => ?_) (fun hb19 => ?_)
    ·rw [if_pos hb19] at h
     refine Sem.sq he [(2, .v (.int .i64 3)), (3, hd 0 ([1, 0, 1].map cdI.enc))] [mk 1 3 ([1, 0, 1].map cdI.enc)] ?_
     refine Sem.ret ?_
     have hq := Option.some.inj h; subst hq
     exact ⟨⟨Fr 25 [(2, .v (.int .i64 3)), (3, .sl 1 ([1, 0, 1].map cdI.enc))], []⟩, (Wk.trans (s1 := ⟨Fr 25 [(2, .v (.int .i64 3)), (3, .sl 1 ([1, 0, 1].map cdI.enc))], [none]⟩) (Wk.frzG 0 (.inl kr) ⟨.inl rfl, trivial⟩ ⟨⟨.v (.int .i64 3), kr, .inl rfl⟩, ⟨hd 0 ([1, 0, 1].map cdI.enc), kr, fz_hd (t := 3) kr enc_ok⟩, trivial⟩) (Wk.sel2 [] kr kr kr trivial ⟨lu kr kr, lu kr kr, trivial⟩)), .inr rfl, [.v (.int .i64 3), .sl 1 ([1, 0, 1].map cdI.enc)], kr, kr⟩
    ·rw [if_f hb19] at h
     refine Sem.sq he [(22, .v (.bool (x0 == 16)))] [] ?_
     refine Sem.cond (b := (x0 == 16)) kr (fun hb20 => ?_) (fun hb20 => ?_)
     ·rw [if_pos hb20] at h
      refine Sem.sq he [(2, .v (.int .i64 2)), (3, hd 0 ([1, 1, 0, 0, 1].map cdI.enc))] [mk 1 3 ([1, 1, 0, 0, 1].map cdI.enc)] ?_
      refine Sem.ret ?_
      have hq := Option.some.inj h; subst hq
      exact ⟨⟨Fr 25 [(2, .v (.int .i64 2)), (3, .sl 1 ([1, 1, 0, 0, 1].map cdI.enc))], []⟩, (Wk.trans (s1 := ⟨Fr 25 [(2, .v (.int .i64 2)), (3, .sl 1 ([1, 1, 0, 0, 1].map cdI.enc))], [none]⟩) (Wk.frzG 0 (.inl kr) ⟨.inl rfl, trivial⟩ ⟨⟨.v (.int .i64 2), kr, .inl rfl⟩, ⟨hd 0 ([1, 1, 0, 0, 1].map cdI.enc), kr, fz_hd (t := 3) kr enc_ok⟩, trivial⟩) (Wk.sel2 [] kr kr kr trivial ⟨lu kr kr, lu kr kr, trivial⟩)), .inr rfl, [.v (.int .i64 2), .sl 1 ([1, 1, 0, 0, 1].map cdI.enc)], kr, kr⟩
     ·rw [if_f hb20] at h
      refine Sem.skip ?_
      let p7 : Nat × AV := (2, .v (.int .i64 0))
      refine Sem.sq he [p7, (3, .e0)] [] ?_
      refine Sem.ret ?_
      have hq := Option.some.inj h; subst hq
      exact ⟨⟨Fr 25 [p7, (3, .sl 1 ([].map cdI.enc))], []⟩, (Wk.trans (s1 := ⟨Fr 25 [p7, (3, .e0)], []⟩) (Wk.fr kr) (Wk.trans (s1 := ⟨Fr 25 [p7, (3, .e0)], [none]⟩) Wk.none (Wk.trans (s1 := ⟨Fr 25 [p7, (3, .sl 1 ([].map cdI.enc))], [none]⟩) (Wk.frzG 0 (.inr kr) ⟨.inl rfl, trivial⟩ ⟨⟨.v (.int .i64 0), kr, .inl rfl⟩, ⟨.e0, kr, fz_e0⟩, trivial⟩) (Wk.sel2 [] kr kr kr trivial ⟨lu kr kr, lu kr kr, trivial⟩)))), .inr rfl, [.v (.int .i64 0), .sl 1 ([].map cdI.enc)], kr, kr⟩
def t_ref09_Field : List AV → Option AV := told cs_ref09_Field (fun a => ref09_Field a.1) er_ref09_Field
theorem x_ref09_Field : XOk 102 t_ref09_Field := by
 refine EnvOk.x (E := e_ref09_Field) (contract_ok e_ref09_Field_ok (fn := Tryd.f102) (c := cb_ref09_Field) ?h1 ?h2 ⟨Tryd.call102⟩ cs_ref09_Field (fun a => ref09_Field a.1) er_ref09_Field (fun a => (by show 1 ≤ 25; decide)) ?h3 ?h4) rfl rfl
 case h1 => kernel_rfl
 case h2 => kernel_rfl
 case h3 => intro b; kernel_rfl
 case h4 => exact fun a b h => ref09_Field_sem a.1 b h
theorem ty2 : Ty Tryd.prog 2 (.int .i64) 1 8 (.int .i64 0) := ⟨by kernel_rfl, by kernel_rfl⟩
theorem ty3 : Ty Tryd.prog 3 (.int .i64) 1 8 (.int .i64 0) := ⟨by kernel_rfl, by kernel_rfl⟩
noncomputable def fs7 : Array Field := match Tryd.prog.underlying 7 with | some (.struct fs) => fs | _ => #[]
theorem ty31 : Ty Tryd.prog 31 (.slice 3) 1 24 (.slice none 0 0) := ⟨by kernel_rfl, by kernel_rfl⟩
noncomputable def fs121 : Array Field := match Tryd.prog.underlying 121 with | some (.struct fs) => fs | _ => #[]
theorem ty121 : Ty Tryd.prog 121 (.struct fs121) 3 40 (.agg #[.int .i64 0, .int .i64 0, .slice none 0 0]) := ⟨by kernel_rfl, by kernel_rfl⟩
theorem C102 : Callable Tryd.prog 102 := ⟨Tryd.call102⟩
theorem C118 : Callable Tryd.prog 118 := ⟨Tryd.call118⟩
theorem C119 : Callable Tryd.prog 119 := ⟨Tryd.call119⟩
theorem C120 : Callable Tryd.prog 120 := ⟨Tryd.call120⟩
theorem C123 : Callable Tryd.prog 123 := ⟨Tryd.call123⟩
theorem C124 : Callable Tryd.prog 124 := ⟨Tryd.call124⟩
theorem C133 : Callable Tryd.prog 133 := ⟨Tryd.call133⟩
end Go.Proofs.YtcmgmkepodbpkaaDoor
namespace Go.Proofs.YtcmgmkepodbpkaaDoor
theorem drop_getD (xs : List Int) (k : Nat) (h : k < xs.length) : xs.drop k = xs.getD k 0 :: xs.drop (k + 1) := by
 rw [List.drop_eq_getElem_cons h, List.getD_eq_getElem?_getD, List.getElem?_eq_getElem h]; rfl
/-! ## Fields -/
def fieldL (q : Int) : Option (Int × Nat × List Int) :=
 if q = 2 ∨ q = 3 ∨ q = 5 ∨ q = 7 ∨ q = 11 ∨ q = 13 then some (q, 1, [0])
 else if q = 4 then some (2, 2, [1, 1])
 else if q = 8 then some (2, 3, [1, 1, 0])
 else if q = 9 then some (3, 2, [2, 0])
 else if q = 16 then some (2, 4, [1, 1, 0, 0])
 else none
def digitsL (p : Int) : Nat → Int → List Int
 | 0, _ => []
 | n + 1, a => a % p :: digitsL p n (a / p)
def numberL (p : Int) : List Int → Int
 | [] => 0
 | x :: xs => numberL p xs * p + x % p
theorem digitsL_len (p : Int) : ∀ (n : Nat) (a : Int), (digitsL p n a).length = n
 | 0, _ => rfl
 | n + 1, a => by simp [digitsL, digitsL_len p n]
theorem digitsL_bd (p : Int) (hp : 2 ≤ p) : ∀ (n : Nat) (a : Int), ∀ x ∈ digitsL p n a, 0 ≤ x ∧ x < p
 | 0, _, x, hx => by simp [digitsL] at hx
 | n + 1, a, x, hx => by
  rcases List.mem_cons.1 hx with rfl | hx
  ·exact ⟨Int.emod_nonneg _ (by omega), Int.emod_lt_of_pos _ (by omega)⟩
  ·exact digitsL_bd p hp n _ x hx
theorem getD_mem (xs : List Int) (k : Nat) (h : k < xs.length) : xs.getD k 0 ∈ xs := by
 rw [List.getD_eq_getElem?_getD, List.getElem?_eq_getElem h]; exact List.getElem_mem h
theorem mul_bd {a b A B : Int} (h0 : 0 ≤ a) (h1 : a ≤ A) (h2 : 0 ≤ b) (h3 : b ≤ B) : 0 ≤ a * b ∧ a * b ≤ A * B :=
 ⟨Int.mul_nonneg h0 h2, Int.mul_le_mul h1 h3 h2 (by omega)⟩
theorem numberL_bd (p : Int) (hp : 2 ≤ p ∧ p ≤ 13) : ∀ (xs : List Int), 0 ≤ numberL p xs ∧ numberL p xs < p ^ xs.length
 | [] => by simp [numberL]
 | x :: xs => by
  have h := numberL_bd p hp xs
  have h1 := Int.emod_nonneg x (show p ≠ 0 by omega)
  have h2 := Int.emod_lt_of_pos x (show 0 < p by omega)
  have h3 : 0 ≤ numberL p xs * p := Int.mul_nonneg h.1 (by omega)
  have h4 : (numberL p xs + 1) * p ≤ p ^ xs.length * p := Int.mul_le_mul_of_nonneg_right (by omega) (by omega)
  rw [Int.add_mul, Int.one_mul] at h4
  simp only [numberL, List.length_cons, Int.pow_succ]
  omega
theorem pow_le4 (p : Int) (hp : 2 ≤ p ∧ p ≤ 13) (n : Nat) (hn : n ≤ 4) : p ^ n ≤ 28561 := by
 have h1 : p * p ≤ 169 := (mul_bd (by omega) hp.2 (by omega) hp.2).2
 have h0 : 0 ≤ p * p := Int.mul_nonneg (by omega) (by omega)
 have h2 : p * p * p ≤ 2197 := (mul_bd h0 h1 (by omega) hp.2).2
 have h3 : 0 ≤ p * p * p := Int.mul_nonneg h0 (by omega)
 have h4 : p * p * p * p ≤ 28561 := (mul_bd h3 h2 (by omega) hp.2).2
 match n, hn with
 | 0, _ => simp
 | 1, _ => simp only [Int.pow_succ, Int.pow_zero, Int.one_mul]; omega
 | 2, _ => simp only [Int.pow_succ, Int.pow_zero, Int.one_mul]; omega
 | 3, _ => simp only [Int.pow_succ, Int.pow_zero, Int.one_mul]; omega
 | 4, _ => simp only [Int.pow_succ, Int.pow_zero, Int.one_mul]; omega
theorem set_step {α : Type} (ds : List α) (mn k : Nat) (z x : α) (h1 : ds.length = k) (h2 : k < mn) : (ds ++ List.replicate (mn - k) z).set k x = (ds ++ [x]) ++ List.replicate (mn - (k + 1)) z := by
 subst h1
 rw [List.set_append_right _ _ (Nat.le_refl _), Nat.sub_self, show mn - ds.length = (mn - (ds.length + 1)) + 1 by omega, List.replicate_succ, List.set_cons_zero]
 simp
theorem numberL_drop (p : Int) (xs : List Int) (k : Nat) (h : k < xs.length) : numberL p (xs.drop k) = numberL p (xs.drop (k + 1)) * p + xs.getD k 0 % p := by
 rw [drop_getD xs k h, numberL]
/-- The sum, place by place, up to place k. -/
def addGo (dx dy : List Int) (k : Nat) : List Int := List.zipWith (· + ·) (dx.take k) (dy.take k) ++ dx.drop k
theorem addGo_zero (dx dy : List Int) : addGo dx dy 0 = dx := by simp [addGo]
theorem addGo_all (dx dy : List Int) (h : dy.length = dx.length) : addGo dx dy dx.length = List.zipWith (· + ·) dx dy := by
 unfold addGo
 rw [List.take_length, List.drop_length, List.append_nil, ← h, List.take_length]
theorem addGo_len (dx dy : List Int) (k : Nat) (h1 : k ≤ dx.length) (h2 : k ≤ dy.length) : (addGo dx dy k).length = dx.length := by
 simp [addGo]; omega
theorem addGo_getD (dx dy : List Int) (k : Nat) (h1 : k < dx.length) (h2 : k < dy.length) : (addGo dx dy k).getD k 0 = dx.getD k 0 := by
 unfold addGo
 rw [List.getD_eq_getElem?_getD, List.getElem?_append_right (by simp; omega), List.getD_eq_getElem?_getD]
 simp
 congr 2
 omega
theorem addGo_set (dx dy : List Int) (k : Nat) (h1 : k < dx.length) (h2 : k < dy.length) : (addGo dx dy k).set k ((addGo dx dy k).getD k 0 + dy.getD k 0) = addGo dx dy (k + 1) := by
 rw [addGo_getD dx dy k h1 h2]
 unfold addGo
 have hl : (List.zipWith (· + ·) (dx.take k) (dy.take k)).length = k := by simp; omega
 rw [List.set_append_right _ _ (by omega), hl, Nat.sub_self, drop_getD dx k h1, List.set_cons_zero, List.take_add_one, List.take_add_one, List.getElem?_eq_getElem h1, List.getElem?_eq_getElem h2,
  List.zipWith_append (by simp; omega)]
 simp [List.getElem?_eq_getElem h1, List.getElem?_eq_getElem h2]
theorem addGo_bd (dx dy : List Int) (k : Nat) (A : Int) (hx : ∀ x ∈ dx, 0 ≤ x ∧ x ≤ A) (hy : ∀ x ∈ dy, 0 ≤ x ∧ x ≤ A) : ∀ x ∈ addGo dx dy k, 0 ≤ x ∧ x ≤ A + A := by
 intro x h
 rcases List.mem_append.1 h with h | h
 ·obtain ⟨i, hi, rfl⟩ := List.mem_iff_getElem.1 h
  rw [List.getElem_zipWith]
  have h1 := hx _ (List.mem_of_mem_take (List.getElem_mem (l := dx.take k) (n := i) (by simp at hi ⊢; omega)))
  have h2 := hy _ (List.mem_of_mem_take (List.getElem_mem (l := dy.take k) (n := i) (by simp at hi ⊢; omega)))
  omega
 ·have := hx _ (List.mem_of_mem_drop h); omega
def addL (p : Int) (mn : Nat) (a b : Int) : Int := numberL p (List.zipWith (· + ·) (digitsL p mn a) (digitsL p mn b))
theorem addD_len (p : Int) (mn : Nat) (a b : Int) (k : Nat) (hk : k ≤ mn) : (addGo (digitsL p mn a) (digitsL p mn b) k).length = mn := by
 rw [addGo_len _ _ _ (by rw [digitsL_len]; exact hk) (by rw [digitsL_len]; exact hk), digitsL_len]
theorem digitsL_bd' (p : Int) (hp : 2 ≤ p ∧ p ≤ 13) (n : Nat) (a : Int) : ∀ x ∈ digitsL p n a, 0 ≤ x ∧ x ≤ 12 := fun x hx => by
 have := digitsL_bd p hp.1 n a x hx; omega
theorem digitsL_at (p : Int) (hp : 2 ≤ p ∧ p ≤ 13) (n : Nat) (a : Int) (k : Nat) (hk : k < n) : 0 ≤ (digitsL p n a).getD k 0 ∧ (digitsL p n a).getD k 0 ≤ 12 :=
 digitsL_bd' p hp n a _ (getD_mem _ k (by rw [digitsL_len]; exact hk))
theorem addD_bd (p : Int) (hp : 2 ≤ p ∧ p ≤ 13) (mn : Nat) (a b : Int) (k : Nat) : ∀ x ∈ addGo (digitsL p mn a) (digitsL p mn b) k, 0 ≤ x ∧ x ≤ 100000 := fun x hx => by
 have := addGo_bd _ _ k 12 (digitsL_bd' p hp mn a) (digitsL_bd' p hp mn b) x hx; omega
theorem addD_getD (p : Int) (mn : Nat) (a b : Int) (k : Nat) (hk : k < mn) : (addGo (digitsL p mn a) (digitsL p mn b) k).getD k 0 = (digitsL p mn a).getD k 0 :=
 addGo_getD _ _ _ (by rw [digitsL_len]; exact hk) (by rw [digitsL_len]; exact hk)
theorem addD_set (p : Int) (mn : Nat) (a b : Int) (k : Nat) (hk : k < mn) : (addGo (digitsL p mn a) (digitsL p mn b) k).set k ((addGo (digitsL p mn a) (digitsL p mn b) k).getD k 0 + (digitsL p mn b).getD k 0) = addGo (digitsL p mn a) (digitsL p mn b) (k + 1) :=
 addGo_set _ _ _ (by rw [digitsL_len]; exact hk) (by rw [digitsL_len]; exact hk)
/-! ## Products -/
def mulSh (out : List Int) : List Int := 0 :: out.take (out.length - 1)
def mulF (p : Int) (pl xd : List Int) (kd : Int) (out : List Int) (i : Nat) : Int := ((mulSh out).getD i 0 + out.getD (out.length - 1) 0 * pl.getD i 0 + kd * xd.getD i 0) % p
def mulStep (p : Int) (pl xd : List Int) (kd : Int) (out : List Int) : List Int := (List.range out.length).map (mulF p pl xd kd out)
def mulGo (p : Int) (pl xd : List Int) (kd : Int) (out : List Int) (i : Nat) : List Int := (List.range i).map (mulF p pl xd kd out) ++ (mulSh out).drop i
def mulL (p : Int) (mn : Nat) (pl : List Int) (a b : Int) : Int :=
 if mn = 1 then a * b % p else numberL p ((digitsL p mn b).foldr (mulStep p pl (digitsL p mn a)) (List.replicate mn 0))
theorem mulSh_len (out : List Int) (h : 1 ≤ out.length) : (mulSh out).length = out.length := by simp [mulSh]; omega
theorem mulGo_zero (p : Int) (pl xd : List Int) (kd : Int) (out : List Int) : mulGo p pl xd kd out 0 = mulSh out := by simp [mulGo]
theorem mulGo_len (p : Int) (pl xd : List Int) (kd : Int) (out : List Int) (i : Nat) (h : 1 ≤ out.length) (hi : i ≤ out.length) : (mulGo p pl xd kd out i).length = out.length := by
 simp [mulGo, mulSh_len out h]; omega
theorem mulGo_all (p : Int) (pl xd : List Int) (kd : Int) (out : List Int) (h : 1 ≤ out.length) : mulGo p pl xd kd out out.length = mulStep p pl xd kd out := by
 unfold mulGo mulStep
 rw [← mulSh_len out h, List.drop_length, List.append_nil, mulSh_len out h]
theorem mulGo_getD (p : Int) (pl xd : List Int) (kd : Int) (out : List Int) (i : Nat) : (mulGo p pl xd kd out i).getD i 0 = (mulSh out).getD i 0 := by
 unfold mulGo
 rw [List.getD_eq_getElem?_getD, List.getElem?_append_right (by simp), List.getD_eq_getElem?_getD]
 simp
theorem mulGo_set (p : Int) (pl xd : List Int) (kd : Int) (out : List Int) (i : Nat) (t : Int) (h : 1 ≤ out.length) (hi : i < out.length) (ht : t = out.getD (out.length - 1) 0) :
  (mulGo p pl xd kd out i).set i (((mulGo p pl xd kd out i).getD i 0 + t * pl.getD i 0 + kd * xd.getD i 0) % p) = mulGo p pl xd kd out (i + 1) := by
 rw [mulGo_getD, ht, show ((mulSh out).getD i 0 + out.getD (out.length - 1) 0 * pl.getD i 0 + kd * xd.getD i 0) % p = mulF p pl xd kd out i from rfl]
 unfold mulGo
 rw [List.set_append_right _ _ (by simp), drop_getD (mulSh out) i (by rw [mulSh_len out h]; exact hi), List.range_succ, List.map_append]
 simp
theorem copy_sh (out : List Int) (mn : Nat) (h : out.length = mn) (h1 : 1 ≤ mn) : ((out.take 1 ++ (out.drop 0).take (mn - 1) ++ out.drop (1 + (mn - 1))).set 0 0) = mulSh out := by
 subst h
 match out, h1 with
 | x :: xs, _ => simp [mulSh]; omega
theorem mulStep_len (p : Int) (pl xd : List Int) (kd : Int) (out : List Int) : (mulStep p pl xd kd out).length = out.length := by simp [mulStep]
theorem mulStep_bd (p : Int) (hp : 2 ≤ p ∧ p ≤ 13) (pl xd : List Int) (kd : Int) (out : List Int) : ∀ x ∈ mulStep p pl xd kd out, 0 ≤ x ∧ x ≤ 12 := by
 intro x hx
 obtain ⟨i, _, rfl⟩ := List.mem_map.1 hx
 have h1 := Int.emod_nonneg ((mulSh out).getD i 0 + out.getD (out.length - 1) 0 * pl.getD i 0 + kd * xd.getD i 0) (show p ≠ 0 by omega)
 have h2 := Int.emod_lt_of_pos ((mulSh out).getD i 0 + out.getD (out.length - 1) 0 * pl.getD i 0 + kd * xd.getD i 0) (show 0 < p by omega)
 unfold mulF
 omega
theorem mulSh_at (out : List Int) (hb : ∀ x ∈ out, 0 ≤ x ∧ x ≤ 12) (i : Nat) : 0 ≤ (mulSh out).getD i 0 ∧ (mulSh out).getD i 0 ≤ 12 := by
 unfold mulSh
 match i with
 | 0 => simp
 | i + 1 =>
  rw [List.getD_cons_succ, List.getD_eq_getElem?_getD]
  cases h : (out.take (out.length - 1))[i]? with
  | none => simp
  | some q => exact hb q (List.mem_of_mem_take (List.mem_of_getElem? h))
theorem at_bd (out : List Int) (A : Int) (hA : 0 ≤ A) (hb : ∀ x ∈ out, 0 ≤ x ∧ x ≤ A) (i : Nat) : 0 ≤ out.getD i 0 ∧ out.getD i 0 ≤ A := by
 rw [List.getD_eq_getElem?_getD]
 cases h : out[i]? with
 | none => simpa using hA
 | some q => exact hb q (List.mem_of_getElem? h)
theorem fieldL_bd {q p : Int} {m : Nat} {pl : List Int} (h : fieldL q = some (p, m, pl)) : 2 ≤ p ∧ p ≤ 13 ∧ 1 ≤ m ∧ m ≤ 4 ∧ pl.length = m ∧ (∀ x ∈ pl, 0 ≤ x ∧ x ≤ 12) ∧ 2 ≤ q ∧ q ≤ 16 := by
 unfold fieldL at h
 split at h
 ·injection h with h; injection h with h1 h; injection h with h2 h3; subst h1 h2 h3
  refine ⟨by omega, by omega, by omega, by omega, rfl, by simp, by omega, by omega⟩
 ·split at h
  ·injection h with h; injection h with h1 h; injection h with h2 h3; subst h1 h2 h3
   refine ⟨by omega, by omega, by omega, by omega, rfl, by simp, by omega, by omega⟩
  ·split at h
   ·injection h with h; injection h with h1 h; injection h with h2 h3; subst h1 h2 h3
    refine ⟨by omega, by omega, by omega, by omega, rfl, by simp, by omega, by omega⟩
   ·split at h
    ·injection h with h; injection h with h1 h; injection h with h2 h3; subst h1 h2 h3
     refine ⟨by omega, by omega, by omega, by omega, rfl, by simp, by omega, by omega⟩
    ·split at h
     ·injection h with h; injection h with h1 h; injection h with h2 h3; subst h1 h2 h3
      refine ⟨by omega, by omega, by omega, by omega, rfl, by simp, by omega, by omega⟩
     ·cases h
/-! ## The reference's fields -/
def refField (q : Int) : Int × List Int :=
 if q = 2 ∨ q = 3 ∨ q = 5 ∨ q = 7 ∨ q = 11 ∨ q = 13 then (q, [])
 else if q = 4 then (2, [1, 1, 1])
 else if q = 8 then (2, [1, 1, 0, 1])
 else if q = 9 then (3, [1, 0, 1])
 else if q = 16 then (2, [1, 1, 0, 0, 1])
 else (0, [])
theorem refField_bd {q p : Int} {poly : List Int} (h : refField q = (p, poly)) (h0 : 0 < p) : 2 ≤ p ∧ p ≤ 13 ∧ 2 ≤ q ∧ q ≤ 16 ∧ (poly = [] ∨ (p ≤ 3 ∧ 3 ≤ poly.length ∧ poly.length ≤ 5 ∧ ∀ x ∈ poly, 0 ≤ x ∧ x ≤ 1)) := by
 unfold refField at h
 split at h
 ·injection h with h1 h2; subst h1 h2; exact ⟨by omega, by omega, by omega, by omega, .inl rfl⟩
 ·split at h
  ·injection h with h1 h2; subst h1 h2; exact ⟨by omega, by omega, by omega, by omega, .inr ⟨by omega, by simp, by simp, by simp⟩⟩
  ·split at h
   ·injection h with h1 h2; subst h1 h2; exact ⟨by omega, by omega, by omega, by omega, .inr ⟨by omega, by simp, by simp, by simp⟩⟩
   ·split at h
    ·injection h with h1 h2; subst h1 h2; exact ⟨by omega, by omega, by omega, by omega, .inr ⟨by omega, by simp, by simp, by simp⟩⟩
    ·split at h
     ·injection h with h1 h2; subst h1 h2; exact ⟨by omega, by omega, by omega, by omega, .inr ⟨by omega, by simp, by simp, by simp⟩⟩
     ·injection h with h1 h2; omega
def refNum (p : Int) : List Int → Int
 | [] => 0
 | x :: xs => x + p * refNum p xs
def zipGo (f : Int → Int → Int) (dx dy : List Int) (k : Nat) : List Int := List.zipWith f (dx.take k) (dy.take k) ++ dx.drop k
theorem zipGo_zero (f : Int → Int → Int) (dx dy : List Int) : zipGo f dx dy 0 = dx := by simp [zipGo]
theorem zipGo_all (f : Int → Int → Int) (dx dy : List Int) (h : dy.length = dx.length) : zipGo f dx dy dx.length = List.zipWith f dx dy := by
 unfold zipGo
 rw [List.take_length, List.drop_length, List.append_nil, ← h, List.take_length]
theorem zipGo_len (f : Int → Int → Int) (dx dy : List Int) (k : Nat) (h1 : k ≤ dx.length) (h2 : k ≤ dy.length) : (zipGo f dx dy k).length = dx.length := by
 simp [zipGo]; omega
theorem zipGo_getD (f : Int → Int → Int) (dx dy : List Int) (k : Nat) (h1 : k < dx.length) (h2 : k < dy.length) : (zipGo f dx dy k).getD k 0 = dx.getD k 0 := by
 unfold zipGo
 rw [List.getD_eq_getElem?_getD, List.getElem?_append_right (by simp; omega), List.getD_eq_getElem?_getD]
 simp
 congr 2
 omega
theorem zipGo_set (f : Int → Int → Int) (dx dy : List Int) (k : Nat) (h1 : k < dx.length) (h2 : k < dy.length) : (zipGo f dx dy k).set k (f ((zipGo f dx dy k).getD k 0) (dy.getD k 0)) = zipGo f dx dy (k + 1) := by
 rw [zipGo_getD f dx dy k h1 h2]
 unfold zipGo
 have hl : (List.zipWith f (dx.take k) (dy.take k)).length = k := by simp; omega
 rw [List.set_append_right _ _ (by omega), hl, Nat.sub_self, drop_getD dx k h1, List.set_cons_zero, List.take_add_one, List.take_add_one, List.getElem?_eq_getElem h1, List.getElem?_eq_getElem h2,
  List.zipWith_append (by simp; omega)]
 simp [List.getElem?_eq_getElem h1, List.getElem?_eq_getElem h2]
def refAdd (q a b : Int) : Int :=
 if (refField q).2 = [] then (a + b) % (refField q).1
 else refNum (refField q).1 (List.zipWith (fun x y => (x + y) % (refField q).1) (digitsL (refField q).1 ((refField q).2.length - 1) a) (digitsL (refField q).1 ((refField q).2.length - 1) b))
theorem set_bd {d : List Int} {i : Nat} {v A : Int} (h : ∀ x ∈ d, 0 ≤ x ∧ x ≤ A) (hv : 0 ≤ v ∧ v ≤ A) : ∀ x ∈ d.set i v, 0 ≤ x ∧ x ≤ A := fun x hx => by
 rcases List.mem_or_eq_of_mem_set hx with h1 | h1
 ·exact h x h1
 ·subst h1; exact hv
theorem zip_bd {f : Int → Int → Int} {dx dy : List Int} {A : Int} (h : ∀ x y, 0 ≤ f x y ∧ f x y ≤ A) : ∀ x ∈ List.zipWith f dx dy, 0 ≤ x ∧ x ≤ A := fun x hx => by
 obtain ⟨i, hi, rfl⟩ := List.mem_iff_getElem.1 hx
 rw [List.getElem_zipWith]
 exact h _ _
def mulIn (p : Int) (x y : List Int) (i : Nat) (d : List Int) (k : Nat) : List Int := d.set (i + k) ((d.getD (i + k) 0 + x.getD i 0 * y.getD k 0) % p)
def mulRow (p : Int) (x y : List Int) (m : Nat) (d : List Int) (i : Nat) : List Int := (List.range m).foldl (mulIn p x y i) d
def redIn (p : Int) (poly : List Int) (m top : Nat) (c : Int) (d : List Int) (i : Nat) : List Int := d.set (top - m + i) ((d.getD (top - m + i) 0 + (p - c) * poly.getD i 0) % p)
def redRow (p : Int) (poly : List Int) (m : Nat) (d : List Int) (j : Nat) : List Int := (List.range (m + 1)).foldl (redIn p poly m (2 * m - 1 - j) (d.getD (2 * m - 1 - j) 0)) d
def refMulD (p : Int) (poly : List Int) (m : Nat) (a b : Int) : List Int :=
 (List.range m).foldl (redRow p poly m) ((List.range m).foldl (mulRow p (digitsL p m a) (digitsL p m b) m) (digitsL p (2 * m) 0))
def refMul (q a b : Int) : Int :=
 if (refField q).2 = [] then a * b % (refField q).1
 else refNum (refField q).1 ((refMulD (refField q).1 (refField q).2 ((refField q).2.length - 1) a b).take ((refField q).2.length - 1))
theorem mod_bd (p : Int) (hp : 2 ≤ p ∧ p ≤ 13) (x : Int) : 0 ≤ x % p ∧ x % p ≤ 12 := by
 have h1 := Int.emod_nonneg x (show p ≠ 0 by omega)
 have h2 := Int.emod_lt_of_pos x (show 0 < p by omega)
 omega
theorem fold_succ {α : Type} (f : α → Nat → α) (d : α) (k : Nat) : f ((List.range k).foldl f d) k = (List.range (k + 1)).foldl f d := by
 rw [List.range_succ, List.foldl_append]; rfl
theorem refNum_drop (p : Int) (xs : List Int) (k : Nat) (h : k < xs.length) : refNum p (xs.drop k) = xs.getD k 0 + p * refNum p (xs.drop (k + 1)) := by
 rw [drop_getD xs k h, refNum]
theorem zipGo_bd {f : Int → Int → Int} {dx dy : List Int} {k : Nat} {A : Int} (h : ∀ x y, 0 ≤ f x y ∧ f x y ≤ A) (hx : ∀ x ∈ dx, 0 ≤ x ∧ x ≤ A) : ∀ x ∈ zipGo f dx dy k, 0 ≤ x ∧ x ≤ A := fun x hm => by
 rcases List.mem_append.1 hm with h1 | h1
 ·exact zip_bd h x h1
 ·exact hx x (List.mem_of_mem_drop h1)
theorem mod_bd' (p : Int) (hp : 2 ≤ p) (x : Int) : 0 ≤ x % p ∧ x % p ≤ p - 1 := by
 have h1 := Int.emod_nonneg x (show p ≠ 0 by omega)
 have h2 := Int.emod_lt_of_pos x (show 0 < p by omega)
 omega
theorem digitsL_bd2 (p : Int) (hp : 2 ≤ p) (n : Nat) (a : Int) : ∀ x ∈ digitsL p n a, 0 ≤ x ∧ x ≤ p - 1 := fun x hx => by
 have := digitsL_bd p hp n a x hx; omega
theorem refAdd_ext {q p a b : Int} {poly : List Int} (hq : refField q = (p, poly)) (h : poly ≠ []) : refAdd q a b = refNum p (List.zipWith (fun x y => (x + y) % p) (digitsL p (poly.length - 1) a) (digitsL p (poly.length - 1) b)) := by
 unfold refAdd; rw [hq]; simp only []; rw [if_neg h]
theorem refAdd_nil {q p a b : Int} {poly : List Int} (hq : refField q = (p, poly)) (h : poly = []) : refAdd q a b = (a + b) % p := by
 unfold refAdd; rw [hq]; simp only []; rw [if_pos h]
theorem refMul_ext {q p a b : Int} {poly : List Int} (hq : refField q = (p, poly)) (h : poly ≠ []) : refMul q a b = refNum p ((refMulD p poly (poly.length - 1) a b).take (poly.length - 1)) := by
 unfold refMul; rw [hq]; simp only []; rw [if_neg h]
theorem refMul_nil {q p a b : Int} {poly : List Int} (hq : refField q = (p, poly)) (h : poly = []) : refMul q a b = a * b % p := by
 unfold refMul; rw [hq]; simp only []; rw [if_pos h]
theorem splice_take {α : Type} {cur cs : List α} {n off k : Nat} (h : off + k ≤ n) (hn : n ≤ cur.length) (hc : cs.length = k) :
  (cur.take off ++ cs ++ cur.drop (off + k)).take n = (cur.take n).take off ++ cs ++ (cur.take n).drop (off + k) := by
 rw [List.take_append, List.take_append, List.drop_take, List.take_take, List.take_take, Nat.min_comm off n, List.take_of_length_le (l := cs) (by simp; omega)]
 simp only [List.length_append, List.length_take]
 congr 2
 omega
/-- A list of which a part has been copied over another. -/
def copyL {α : Type} (M : List α) (off so k : Nat) : List α := M.take off ++ (M.drop so).take k ++ M.drop (off + k)
theorem copyL_get {α : Type} (M : List α) (off so k i : Nat) (h1 : off + k ≤ M.length) (h2 : so + k ≤ M.length) :
  (copyL M off so k)[i]? = M[if i < off then i else if i < off + k then so + (i - off) else i]? := by
 unfold copyL
 by_cases a : i < off
 ·rw [if_pos a, List.append_assoc, List.getElem?_append_left (by simp; omega), List.getElem?_take_of_lt a]
 ·rw [if_neg a]
  by_cases b : i < off + k
  ·rw [if_pos b, List.getElem?_append_left (by simp; omega), List.getElem?_append_right (by simp; omega), List.length_take, Nat.min_eq_left (by omega), List.getElem?_take_of_lt (by omega), List.getElem?_drop]
  ·rw [if_neg b, List.getElem?_append_right (by simp; omega), List.getElem?_drop]
   congr 1
   simp
   omega
theorem copyL_len {α : Type} (M : List α) (off so k : Nat) (h1 : off + k ≤ M.length) (h2 : so + k ≤ M.length) : (copyL M off so k).length = M.length := by
 simp [copyL]; omega
section guards
variable {P : Program} {Q : Exit → Act → World → Prop} {F : Frm} {l : List (Nat × Value)} {w : World} {ops : Array Oper} {rest : List Oper}
end guards
section rules
variable {P : Program} {Q : Exit → Act → World → Prop} {F : Frm} {l : List (Nat × Value)} {w : World} {ops : Array Oper} {rest : List Oper}
variable {X : List Oper → Frm → List (Nat × Value) → World → Prop} [inst : Runs P X]
variable {d : Nat} {ty t T e : TypeId} {pos : String} {af : Array Edge} {x y : Operand} {ds dT : TypeDesc} {sz by_ sT bT : Nat} {z zT : Value}
theorem Ty.elem (hT : Ty P T (.slice e) sT bT zT) : P.elem T = e := by simp [Program.elem, hT.und]
theorem Ty.und' (hT : Ty P T (.slice e) sT bT zT) : P.underlying T = some (.slice (P.elem T)) := by rw [hT.elem]; exact hT.und
theorem st_sliceLo {A : Option Addr} {n c m : Nat} {K : IntKind} (hT : Ty P T (.slice e) sT bT zT) (hE : Ty P e ds sz by_ z) (hx : ev l F.s x = .slice A n c) (hy : ev l F.s y = .int K (m : Int)) (hm : m ≤ n) :
  Rn P l F.s w ⟨some d, .slice T x (some y) none none, ty, pos, af, none⟩ (.slice (if c = m then A else A.map (·.add (m * sz))) (n - m) (c - m)) := by
 unfold Rn
 have h := run_slice_l (P := P) (w := w) T A n c hT.und' K (m : Int) (by omega) (by omega)
 rw [hT.elem, run_size hE] at h
 simp [execOp, hx, hy, run_sliceAt_slice w T _ _ _ _ hT.und', h, Result.andThen, sliced]
theorem st_sliceHi {A : Option Addr} {n c m : Nat} {K : IntKind} (hT : Ty P T (.slice e) sT bT zT) (hE : Ty P e ds sz by_ z) (hx : ev l F.s x = .slice A n c) (hy : ev l F.s y = .int K (m : Int)) (hm : m ≤ c) :
  Rn P l F.s w ⟨some d, .slice T x none (some y) none, ty, pos, af, none⟩ (.slice A m c) := by
 unfold Rn
 have h := run_slice_h (P := P) (w := w) T A n c hT.und' K (m : Int) (by omega) (by omega)
 rw [hT.elem, run_size hE] at h
 simp [execOp, hx, hy, run_sliceAt_slice w T _ _ _ _ hT.und', h, Result.andThen, sliced]
 intro _
 cases A <;> simp [Addr.add]
theorem st_cutLo {g o n c m : Nat} {mi : Int} {K : IntKind} (hT : Ty P T (.slice e) sT bT zT) (hE : Ty P e ds 1 by_ z) (hx : ev l F.s x = .slice (some ⟨g, o, none⟩) n c) (hy : ev l F.s y = .int K mi) (hmi : mi = (m : Int)) (hm : m ≤ n) (hc : m < c) :
  Rn P l F.s w ⟨some d, .slice T x (some y) none none, ty, pos, af, none⟩ (.slice (some ⟨g, o + m, none⟩) (n - m) (c - m)) := by
 subst hmi
 have h := st_sliceLo (P := P) (F := F) (l := l) (w := w) (d := d) (ty := ty) (pos := pos) (af := af) hT hE hx hy hm
 rw [if_neg (by omega)] at h
 have h6 : (⟨g, o, none⟩ : Addr).add m = ⟨g, o + m, none⟩ := by
  unfold Addr.add
  split
  ·next e => subst e; rfl
  ·rfl
 simpa [h6] using h
theorem st_cutHi {A : Option Addr} {n c m : Nat} {mi : Int} {K : IntKind} (hT : Ty P T (.slice e) sT bT zT) (hE : Ty P e ds sz by_ z) (hx : ev l F.s x = .slice A n c) (hy : ev l F.s y = .int K mi) (hmi : mi = (m : Int)) (hm : m ≤ c) :
  Rn P l F.s w ⟨some d, .slice T x none (some y) none, ty, pos, af, none⟩ (.slice A m c) := by
 subst hmi
 exact st_sliceHi hT hE hx hy hm
include inst in
/-- 'copy' within a slice of one's own. -/
theorem wl_copyB {α : Type} {r : Rep α} {lo hi g n c off so dn dc sn sc k : Nat} {xs : List α} (h : Bl r e w lo hi (.slice (some ⟨g, 0, none⟩) n c) xs) (hT : Ty P T (.slice e) sT bT zT) (hE : Ty P e ds 1 by_ z)
  (hx : ev l F.s x = .slice (some ⟨g, off, none⟩) dn dc) (hy : ev l F.s y = .slice (some ⟨g, so, none⟩) sn sc) (hk : Nat.min sn dn = k) (h1 : off + k ≤ n) (h2 : so + k ≤ n) (hN : Nat.blt d F.N = true)
  (kk : ∀ w', Bl r e w' lo hi (.slice (some ⟨g, 0, none⟩) n c) (xs.take off ++ (xs.drop so).take k ++ xs.drop (off + k)) → w.grownBy w' (some g) → w'.heap.size = w.heap.size → (lo ≤ g ∧ g < hi ∧ g < w.heap.size) → X rest F ((d, .int .i64 (k : Int)) :: l) w') :
  X (⟨some d, .call ⟨.builtin .copy, #[x, y], #[T, T]⟩, ty, pos, af, none⟩ :: rest) F l w := by
 have hown := h.own (g := g) rfl
 obtain ⟨L, ho, hbd, hl, hr⟩ := h
 obtain ⟨hL1, hL⟩ := ho
 rcases hL with ⟨h0, _⟩ | ⟨g', cap, cur, hv, hlo, hh, hnc, hcm, hsz, htk⟩
 ·cases h0
 ·injection hv with e1 e2 e3
  injection e1 with e1
  injection e1 with e1
  subst e1 e3
  rw [← e2] at hnc htk
  have hLn : L.length = n := e2.symm
  obtain ⟨i, hi', hz', hs', hb'⟩ := hE.ex
  have hcur : ∀ j, j < n → cur.toList[j]? = L[j]? := by
   intro j hj
   rw [← htk, List.getElem?_take_of_lt (by omega)]
  let cs := (L.drop so).take k
  have hcl : cs.length = k := by simp [cs]; omega
  have hcs : ∀ j v, cs[j]? = some v → L[so + j]? = some v ∧ j < k := by
   intro j v hj
   have hjk : j < k := by have := (List.getElem?_eq_some_iff.1 hj).1; omega
   rw [List.getElem?_take_of_lt hjk, List.getElem?_drop] at hj
   exact ⟨hj, hjk⟩
  have hone : ∀ v ∈ L, v.oneCell' = true := by
   intro q hq
   obtain ⟨j, hj, hjq⟩ := List.mem_iff_getElem.1 hq
   exact r.one (hr j q (xs[j]'(by omega)) (by rw [List.getElem?_eq_getElem hj, hjq]) (List.getElem?_eq_getElem (by omega)))
  have hrun := run_copy_row (P := P) w T T ty e g off dn dc ⟨g, so, none⟩ sn sc cur e cs hT.und (by simp [hi', hs']) hh (by rw [hcl, hk])
   (fun j v hj => by
    obtain ⟨h3, h4⟩ := hcs j v hj
    have h5 : cur.toList[so + j]? = some v := by rw [hcur _ (by omega)]; exact h3
    have h6 : (⟨g, so, none⟩ : Addr).add j = ⟨g, so + j, none⟩ := by
     unfold Addr.add
     split
     ·next e => subst e; rfl
     ·rfl
    rw [h6]
    simp [World.cell?, hh, ← Array.getElem?_toList, h5])
   (by rw [hcl]; omega) (fun v hv => hone v (List.mem_of_mem_drop (List.mem_of_mem_take hv)))
  rw [hcl] at hrun
  have hgr : w.grownBy (w.setRow g (cur.toList.take off ++ cs ++ cur.toList.drop (off + k)).toArray) (some g) :=
   ⟨rfl, rfl, rfl, by simp [World.setRow], fun j _ hne => setRow_other w g j _ (fun e => hne (by rw [e]))⟩
  have hcopy : L.take off ++ cs ++ L.drop (off + k) = copyL L off so k := rfl
  have hnew : (L.take off ++ cs ++ L.drop (off + k)).length = n := by simp [hcl]; omega
  refine Runs.run (P := P) rfl rfl hN ?_ (kk _ ⟨L.take off ++ cs ++ L.drop (off + k), ⟨by rw [hnew]; omega, .inr ⟨g, c, _, by rw [hnew], hlo, setRow_heap w g cur _ e _ hh, by rw [hnew]; exact hnc, hcm, ?_, ?_⟩⟩, hbd, ?_, ?_⟩ hgr (by simp [World.setRow]) hown)
  ·simp [execOp, resolve, invoke, builtin, hx, hy, hrun, Result.andThen, goInt]
  ·simp [hcl]; omega
  ·rw [Nat.mul_one, hcopy, copyL_len _ _ _ _ (by omega) (by omega), hLn]
   have := splice_take (cur := cur.toList) (cs := cs) (n := n) (off := off) (k := k) h1 (by simp; omega) hcl
   rw [Nat.mul_one] at htk
   simp only [htk] at this
   exact this
  ·rw [hcopy, show xs.take off ++ (xs.drop so).take k ++ xs.drop (off + k) = copyL xs off so k from rfl, copyL_len _ _ _ _ (by omega) (by omega), copyL_len _ _ _ _ (by omega) (by omega), hl]
  ·intro i u x hu hx'
   rw [hcopy, copyL_get _ _ _ _ _ (by omega) (by omega)] at hu
   rw [show xs.take off ++ (xs.drop so).take k ++ xs.drop (off + k) = copyL xs off so k from rfl, copyL_get _ _ _ _ _ (by omega) (by omega)] at hx'
   exact Rep.ch (hr _ _ _ hu hx') hgr fun g hrow _ hS => hS.2 hrow
end rules
set_option linter.unusedSimpArgs false
set_option linter.unusedVariables false
set_option linter.unusedSimpArgs false
set_option linter.unusedVariables false
set_option maxRecDepth 100000 in
theorem digits_ok (p a : Int) (mn : Nat) (pv : Value) (w : World) (hp : 2 ≤ p ∧ p ≤ 13) (hm : mn ≤ 4) (ha : 0 ≤ a ∧ a ≤ 9223372036854775807) : Ret Tryd.prog 118 #[.agg #[.int .i64 p, .int .i64 (mn : Int), pv], .int .i64 a] w fun v w' => w.grownBy w' none ∧ Bl iR 3 w' w.heap.size w'.heap.size v (digitsL p mn a) := by
 refine ret_in Tryd.func118 rfl rfl rfl ?_
 have pw := pu_refl w
 refine wc_seq ?_
 refine wc_region ?_
 refine wl_boxG (cs := [.int .i64 (p), .int .i64 ((mn : Int)), pv]) rfl rfl ?_
 intro w2 g1 hg3 hs4 hb5 hn6
 have pw := pu_trans pw hn6
 refine wl_v (st_assign (v := .slice none 0 0) rfl) rfl rfl rfl ?_
 refine wl_nil ?_
 refine wq_then ?_
 refine wc_seq ?_
 refine wc_region ?_
 refine wl_v (st_fieldAddr ty121 (ft := 3) (off := 1) (by kernel_rfl) ty3 rfl) rfl rfl rfl ?_
 refine wl_v (st_load (v := .int .i64 ((mn : Int))) ty3 rfl rfl (Bk.cell hb5 (i := 1) rfl)) rfl rfl rfl ?_
 refine wl_makeB (r := iR) (0 : Int) ty31 ty3 rfl (fun _ => rfl) rfl rfl (by omega) (by omega) rfl ?_
 intro w8 g7 hg9 hs10 hb11 hn12
 simp only [Int.toNat_natCast] at hb11 ⊢
 have hlog7 : g7 < w8.heap.size := by omega
 have pw := pu_trans pw hn12
 have hb5 := Bk.pu hb5 hn12
 refine wl_v (st_assign (v := .slice (some ⟨g7, 0, none⟩) mn mn) rfl) rfl rfl rfl ?_
 refine wl_nil ?_
 refine wq_then ?_
 refine wc_seq ?_
 refine wc_seq ?_
 refine wc_region ?_
 refine wl_v (st_move (v := .slice (some ⟨g7, 0, none⟩) mn mn) rfl) rfl rfl rfl ?_
 refine wl_v (st_lenS (Bl.sl hb11) ty31 rfl) rfl rfl rfl ?_
 refine wl_v (st_move (v := .int .i64 (0)) rfl) rfl rfl rfl ?_
 refine wl_nil ?_
 refine wq_then ?_
 refine wc_block ?_
 have hl : (List.replicate mn (0:Int)).length = mn := by simp
 refine wc_loop (fun fl mm w' => ∃ k : Nat, ∃ ds : List Int, ∃ ak : Int, fl = [(1, .int .i64 (ak)), (2, .pointer (some ⟨g1, 0, none⟩)), (4, .slice none 0 0), (5, .slice (some ⟨g7, 0, none⟩) mn mn), (11, .int .i64 (((List.replicate mn (0 : Int)).length : Int))), (12, .int .i64 ((k : Int)))] ∧ mm = mn - k ∧ (k ≤ mn) ∧ (ds.length = k) ∧ (ds ++ digitsL p (mn - k) ak = digitsL p mn a) ∧ (0 ≤ ak ∧ ak ≤ 9223372036854775807) ∧ w.grownBy w' none ∧ Bk w' g1 121 [.int .i64 (p), .int .i64 ((mn : Int)), pv] ∧ Bl iR 3 w' (w2.heap.size) (w8.heap.size) (.slice (some ⟨g7, 0, none⟩) mn mn) (ds ++ List.replicate (mn - k) (0 : Int))) (h0 := ⟨0, [], a, rfl, rfl, ?_, ?_, ?_, ?_, pw, hb5, hb11⟩) (hf := ⟨(by first | rfl | exact congrArg (Value.int _) (by omega) | go_num), (by first | rfl | exact congrArg (Value.int _) (by omega) | go_num), (by first | rfl | exact congrArg (Value.int _) (by omega) | go_num), (by first | rfl | exact congrArg (Value.int _) (by omega) | go_num), (by first | rfl | exact congrArg (Value.int _) (by omega) | go_num), (by first | rfl | exact congrArg (Value.int _) (by omega) | go_num), trivial⟩) ?_
 ·omega
 ·rfl
 ·rfl
 ·omega
 ·skip
  rintro _ _ w13 s14 ⟨k, ds, ak, rfl, rfl, p1_1, p1_2, p1_3, p1_4, pw, hb5, hb11⟩
  refine wc_seq ?_
  refine wc_region ?_
  refine wl_v (st_lss rfl rfl) rfl rfl rfl ?_
  refine wl_nil ?_
  refine wq_then ?_
  refine wc_seq ?_
  refine wc_cond rfl ?_ ?_
  ·intro h15
   have h15p : (k : Int) < ((List.replicate mn (0 : Int)).length : Int) := by first | simpa using h15 | (simp at h15; omega)
   refine wc_skip ?_
   refine wq_then ?_
   refine wc_seq ?_
   refine wc_block ?_
   refine wc_seq ?_
   refine wc_region ?_
   refine wl_v (st_move (v := .int .i64 ((k : Int))) rfl) rfl rfl rfl ?_
   refine wl_v (st_assign (v := .int .i64 ((k : Int))) rfl) rfl rfl rfl ?_
   refine wl_nil ?_
   refine wq_then ?_
   refine wc_seq ?_
   refine wc_region ?_
   refine wl_v (st_move (v := .slice (some ⟨g7, 0, none⟩) mn mn) rfl) rfl rfl rfl ?_
   refine wl_v (st_move (v := .int .i64 ((k : Int))) rfl) rfl rfl rfl ?_
   refine wl_v (st_move (v := .int .i64 (ak)) rfl) rfl rfl rfl ?_
   refine wl_v (st_fieldAddr ty121 (ft := 3) (off := 0) (by kernel_rfl) ty3 rfl) rfl rfl rfl ?_
   refine wl_v (st_load (v := .int .i64 (p)) ty3 rfl rfl (Bk.cell hb5 (i := 0) rfl)) rfl rfl rfl ?_
   refine wl_v (st_rem rfl rfl (by omega) (by omega)) rfl rfl rfl ?_
   have hbdg19 : (k : Int) < (((ds ++ List.replicate (mn - k) (0 : Int)).length : Nat) : Int) := (by rw [List.length_append, List.length_replicate]; omega)
   refine wl_e (st_idxB hb11 ty31 ty3 rfl rfl (by omega) hbdg19) rfl rfl rfl ?_
   rintro _ ⟨g19, rfl, hv18, hc16⟩
   try simp only [Int.toNat_natCast, Int.toNat_zero, Int.reduceToNat] at hc16 ⊢
   refine wl_storeB (q := ak % p) hb11 ty3 rfl hv18 (by omega) rfl (fun _ _ => rfl) ?_
   intro w20 hb21 hg22 hs23
   have hown := Bl.own hb11 hv18
   have pw := pu_row pw hg22 (by intro q hq hlt; simp at hq; omega)
   have hb5 := Bk.ch hb5 hg22 (by intro hq; have hlt := hb5.lt; simp at hq; omega)
   have hb11 := hb21
   try simp only [Int.toNat_natCast, Int.toNat_zero, Int.reduceToNat] at hb11
   refine wl_nil ?_
   refine wq_then ?_
   refine wc_region ?_
   refine wl_v (st_move (v := .int .i64 (ak)) rfl) rfl rfl rfl ?_
   refine wl_v (st_fieldAddr ty121 (ft := 3) (off := 0) (by kernel_rfl) ty3 rfl) rfl rfl rfl ?_
   refine wl_v (st_load (v := .int .i64 (p)) ty3 rfl rfl (Bk.cell hb5 (i := 0) rfl)) rfl rfl rfl ?_
   refine wl_v (st_quo rfl rfl (by omega) (by omega) (by omega)) rfl rfl rfl ?_
   refine wl_v (st_assign (v := .int .i64 (ak / p)) rfl) rfl rfl rfl ?_
   refine wl_nil ?_
   refine wq_block_normal ?_
   refine wq_then ?_
   refine wc_region ?_
   refine wl_v (st_add rfl rfl (by omega) (by omega)) rfl rfl rfl ?_
   refine wl_v (st_move (v := .int .i64 ((k : Int) + 1)) rfl) rfl rfl rfl ?_
   refine wl_nil ?_
   refine wq_round (hI := ⟨k + 1, ds ++ [ak % p], ak / p, rfl, rfl, ?_, ?_, ?_, ?_, pw, hb5, (set_step ds mn k 0 (ak % p) (by omega) (by omega) ▸ hb11)⟩) (hm := ?_) (hf := ?_) rfl rfl
   ·omega
   ·(simp; omega)
   ·(rw [show mn - k = (mn - (k + 1)) + 1 by omega, digitsL] at p1_3; rw [← p1_3]; simp)
   ·(have h1 := Int.ediv_nonneg p1_4.1 (show 0 ≤ p by omega); have h2 := Int.ediv_le_self p p1_4.1; omega)
   ·omega
   ·exact ⟨(by first | rfl | exact congrArg (Value.int _) (by omega) | go_num), (by first | rfl | exact congrArg (Value.int _) (by omega) | go_num), (by first | rfl | exact congrArg (Value.int _) (by omega) | go_num), (by first | rfl | exact congrArg (Value.int _) (by omega) | go_num), (by first | rfl | exact congrArg (Value.int _) (by omega) | go_num), (by first | rfl | exact congrArg (Value.int _) (by omega) | go_num), trivial⟩
  ·intro h15
   have h15p : ¬ ((k : Int) < ((List.replicate mn (0 : Int)).length : Int)) := by first | simpa using h15 | (simp at h15; omega)
   refine wc_exit ?_
   refine wq_then_exit ?_
   refine wq_then_exit ?_
   refine wq_block_exit ?_
   refine wq_then ?_
   refine wc_seq ?_
   refine wc_region ?_
   refine wl_v (st_move (v := .slice (some ⟨g7, 0, none⟩) mn mn) rfl) rfl rfl rfl ?_
   refine wl_v (st_assign (v := .slice (some ⟨g7, 0, none⟩) mn mn) rfl) rfl rfl rfl ?_
   refine wl_nil ?_
   refine wq_then ?_
   refine wc_ret ?_
   refine wq_ret1 (v := .slice (some ⟨g7, 0, none⟩) mn mn) rfl rfl rfl ?_
   have hk : mn - k = 0 := by omega
   rw [hk, digitsL, List.append_nil] at p1_3
   have hb11 := hb11
   rw [hk, List.replicate_zero, List.append_nil, p1_3] at hb11
   exact ⟨pw, (hb11.top (Nat.le_refl _)).lower (by omega)⟩
set_option maxRecDepth 100000 in
theorem backward1 (sv : Value) (w : World) (ho : sv.oneCell' = true) : Ret Tryd.prog 119 #[sv] w fun v w' => w.grownBy w' none ∧ ∃ g, v = .func (.func 133) #[] #[.pointer (some ⟨g, 0, none⟩)] ∧ Bk w' g 31 [sv] ∧ w.heap.size ≤ g ∧ g < w'.heap.size := by
 refine ret_in Tryd.func119 rfl rfl rfl ?_
 have pw := pu_refl w
 refine wc_seq ?_
 refine wc_region ?_
 refine wl_boxK (v := sv) rfl ho rfl ?_
 intro w2 g1 hg3 hs4 hb5 hn6
 have pw := pu_trans pw hn6
 refine wl_v (st_assign (v := .nilFunc) rfl) rfl rfl rfl ?_
 refine wl_nil ?_
 refine wq_then ?_
 refine wc_seq ?_
 refine wc_region ?_
 refine wl_v (st_makeFunc (va := []) (vb := [.pointer (some ⟨g1, 0, none⟩)]) rfl rfl) rfl rfl rfl ?_
 refine wl_v (st_assign (v := .func (.func 133) #[] #[.pointer (some ⟨g1, 0, none⟩)]) rfl) rfl rfl rfl ?_
 refine wl_nil ?_
 refine wq_then ?_
 refine wc_ret ?_
 refine wq_ret1 (v := .func (.func 133) #[] #[.pointer (some ⟨g1, 0, none⟩)]) rfl rfl rfl ?_
 exact ⟨pw, _, rfl, hb5, by omega, Bk.lt hb5⟩
set_option maxRecDepth 100000 in
theorem backward2 (lp g : Nat) (sv : Value) (S : Nat → Prop) (xs : List Int) (w : World) (I : Nat → World → Prop) (h0 : I 0 w) (hkeep : ∀ k w, I k w → Bk w g 31 [sv] ∧ rI.R w S sv xs) (hy : ∀ k w, k < xs.length → I k w → Yd Tryd.prog lp [.int .i64 ((xs.length - 1 - k : Nat) : Int), .int .i64 (xs.getD (xs.length - 1 - k) 0)] w (I (k + 1))) : Ret Tryd.prog 133 #[.func (.yield lp) #[] #[], .pointer (some ⟨g, 0, none⟩)] w fun _ w' => True ∧ I xs.length w' := by
 refine ret_in Tryd.func133 rfl rfl rfl ?_
 obtain ⟨hbk, hx⟩ := hkeep 0 w h0
 have hlen := SlR.le hx
 refine wc_seq ?_
 refine wc_region ?_
 refine wl_v (st_load (v := sv) ty31 rfl rfl (Bk.cell hbk (i := 0) rfl)) rfl rfl rfl ?_
 refine wl_v (st_lenS hx ty31 rfl) rfl rfl rfl ?_
 refine wl_v (st_sub rfl rfl (by omega) (by omega)) rfl rfl rfl ?_
 refine wl_v (st_assign (v := .int .i64 (((xs).length : Int) - 1)) rfl) rfl rfl rfl ?_
 refine wl_nil ?_
 refine wq_then ?_
 refine wc_block ?_
 refine wc_loop (fun fl mm w' => ∃ k : Nat, fl = [(0, .func (.yield lp) #[] #[]), (1, .pointer (some ⟨g, 0, none⟩)), (3, .int .i64 ((xs.length : Int) - 1 - (k : Int)))] ∧ mm = xs.length - k ∧ (k ≤ xs.length) ∧ I k w') (h0 := ⟨0, rfl, rfl, ?_, h0⟩) (hf := ⟨(by first | rfl | exact congrArg (Value.int _) (by omega) | go_num), (by first | rfl | exact congrArg (Value.int _) (by omega) | go_num), (by first | rfl | exact congrArg (Value.int _) (by omega) | go_num), trivial⟩) ?_
 ·omega
 ·skip
  rintro _ _ w1 s2 ⟨k, rfl, rfl, p1_1, hI⟩
  obtain ⟨hbk, hx⟩ := hkeep _ _ hI
  refine wc_seq ?_
  refine wc_seq ?_
  refine wc_region ?_
  refine wl_v (st_move (v := .int .i64 ((xs.length : Int) - 1 - (k : Int))) rfl) rfl rfl rfl ?_
  refine wl_v (st_geq rfl rfl) rfl rfl rfl ?_
  refine wl_nil ?_
  refine wq_then ?_
  refine wc_cond rfl ?_ ?_
  ·intro h3
   have h3p : 0 ≤ ((xs.length : Int) - 1 - (k : Int)) := by first | simpa using h3 | (simp at h3; omega)
   refine wc_skip ?_
   refine wq_then ?_
   refine wc_seq ?_
   refine wc_block ?_
   refine wc_seq ?_
   refine wc_region ?_
   refine wl_v (st_move (v := .func (.yield lp) #[] #[]) rfl) rfl rfl rfl ?_
   refine wl_v (st_move (v := .int .i64 ((xs.length : Int) - 1 - (k : Int))) rfl) rfl rfl rfl ?_
   refine wl_v (st_load (v := sv) ty31 rfl rfl (Bk.cell hbk (i := 0) rfl)) rfl rfl rfl ?_
   refine wl_v (st_move (v := .int .i64 ((xs.length : Int) - 1 - (k : Int))) rfl) rfl rfl rfl ?_
   refine wl_e (st_idxI hx ty31 ty3 rfl rfl (by omega) (by omega)) rfl rfl rfl ?_
   rintro _ ⟨a5, rfl, hc4⟩
   refine wl_v (st_load ty3 rfl rfl hc4) rfl rfl rfl ?_
   refine wl_yield (vs := [.int .i64 ((xs.length : Int) - 1 - (k : Int)), .int .i64 ((xs).getD ((xs.length : Int) - 1 - (k : Int)).toNat 0)]) rfl rfl rfl (by have h := hy k _ (by omega) hI; rw [show xs.getD (xs.length - 1 - k) 0 = xs.getD ((xs.length : Int) - 1 - (k : Int)).toNat 0 by congr 1; omega, show ((xs.length - 1 - k : Nat) : Int) = (xs.length : Int) - 1 - (k : Int) by omega] at h; exact h) ?_
   intro w6 hI
   obtain ⟨hbk, hx⟩ := hkeep _ _ hI
   refine wl_v (st_not rfl) rfl rfl rfl ?_
   refine wl_nil ?_
   refine wq_then ?_
   refine wc_false rfl ?_
   refine wc_skip ?_
   refine wq_block_normal ?_
   refine wq_then ?_
   refine wc_region ?_
   refine wl_v (st_move (v := .int .i64 ((xs.length : Int) - 1 - (k : Int))) rfl) rfl rfl rfl ?_
   refine wl_v (st_sub rfl rfl (by omega) (by omega)) rfl rfl rfl ?_
   refine wl_v (st_assign (v := .int .i64 (((xs.length : Int) - 1 - (k : Int)) - 1)) rfl) rfl rfl rfl ?_
   refine wl_nil ?_
   refine wq_round (hI := ⟨k + 1, rfl, rfl, ?_, hI⟩) (hm := ?_) (hf := ?_) rfl rfl
   ·omega
   ·omega
   ·exact ⟨(by first | rfl | exact congrArg (Value.int _) (by omega) | go_num), (by first | rfl | exact congrArg (Value.int _) (by omega) | go_num), (by first | rfl | exact congrArg (Value.int _) (by omega) | go_num), trivial⟩
  ·intro h3
   have h3p : ¬ (0 ≤ ((xs.length : Int) - 1 - (k : Int))) := by first | simpa using h3 | (simp at h3; omega)
   refine wc_exit ?_
   refine wq_then_exit ?_
   refine wq_then_exit ?_
   refine wq_block_exit ?_
   refine wq_end0 rfl rfl ?_
   have hk : k = xs.length := by omega
   subst hk
   exact ⟨trivial, hI⟩
set_option maxRecDepth 100000 in
theorem number_ok (p : Int) (mn : Nat) (pv d : Value) (xs : List Int) (S : Nat → Prop) (w : World) (hp : 2 ≤ p ∧ p ≤ 13) (hl : xs.length ≤ 4) (hx0 : ∀ x ∈ xs, 0 ≤ x ∧ x ≤ 100000) (hx : rI.R w S d xs) : Ret Tryd.prog 120 #[.agg #[.int .i64 p, .int .i64 (mn : Int), pv], d] w fun v w' => v = .int .i64 (numberL p xs) ∧ w.grownBy w' none := by
 refine ret_inM Tryd.func120 rfl rfl rfl ?_
 have pw := pu_refl w
 have hx : rI.R w (Lo w.heap.size) d xs := rI.mono (rI.lt hx) (fun b hb => hb.2)
 refine wc_seq ?_
 refine wc_region ?_
 refine wl_boxG (cs := [.int .i64 (p), .int .i64 ((mn : Int)), pv]) rfl rfl ?_
 intro w2 g1 hg3 hs4 hb5 hn6
 have pw := pu_trans pw hn6
 have hx := Rep.pu hx hn6
 refine wl_v (st_assign (v := .int .i64 (0)) rfl) rfl rfl rfl ?_
 refine wl_nil ?_
 refine wq_then ?_
 refine wc_seq ?_
 refine wc_region ?_
 refine wl_allocK (cs := [.int .i64 (0)]) ty3 rfl rfl ?_
 intro w8 g7 hg9 hs10 hb11 hn12
 have pw := pu_trans pw hn12
 have hx := Rep.pu hx hn12
 have hb5 := Bk.pu hb5 hn12
 refine wl_storeK (v := .int .i64 (0)) hb11 ty3 (i := 0) rfl (by simp) rfl rfl ?_
 intro w13 hb14 hg15 hs16
 have pw := pu_row pw hg15 (by intro q hq hlt; simp at hq; omega)
 have hx := Rep.ch hx hg15 (by intro q hq hlt; (try simp only [Lo, Iv]); simp at hq; omega)
 have hb5 := Bk.ch hb5 hg15 (by intro hq; have hlt := hb5.lt; simp at hq; omega)
 have hb11 := hb14
 refine wl_nil ?_
 refine wq_then ?_
 refine wc_seq ?_
 refine wc_seq ?_
 refine wc_region ?_
 refine wl_v (st_move (v := d) rfl) rfl rfl rfl ?_
 refine wl_call (vs := [d]) C119 rfl rfl (backward1 (d) _ (Rep.one _ hx)) ?_
 rintro _ w21 ⟨hn22, g17, rfl, hb18, hz19, hz20⟩
 have pw := pu_trans pw hn22
 have hx := Rep.pu hx hn22
 have hb5 := Bk.pu hb5 hn22
 have hb11 := Bk.pu hb11 hn22
 have hzw21 := World.grownBy.size hn22
 refine wl_nil ?_
 refine wq_then ?_
 refine wc_block ?_
 have hze1 := World.grownBy.size pw
 refine wc_rangeFunc (ps := [10, 11]) (first := []) (cap := [.pointer (some ⟨g17, 0, none⟩)]) rfl rfl C133 ?_
 intro wr1 lp1 RR1 hRR1 hlp1 hgr1 hsr1 hdr1 hrec1
 have hgl_hb5_1 : g1 < lp1 := by have := Bk.lt hb5; omega
 have hgl_hb11_1 : g7 < lp1 := by have := Bk.lt hb11; omega
 have hgl_hb18_1 : g17 < lp1 := by have := Bk.lt hb18; omega
 have pw := pu_trans pw hgr1
 have hx := Rep.pu hx hgr1
 have hb5 := Bk.pu hb5 hgr1
 have hb11 := Bk.pu hb11 hgr1
 have hb18 := Bk.pu hb18 hgr1
 have hmk : Mk wr1 w21.heap.size lp1 [mark w21.heap.size] := ⟨_, by omega, by omega, rfl, hdr1, trivial⟩
 refine Ret.mono (backward2 lp1 g17 (d) (Lo w.heap.size) (xs) _ (fun (kk : Nat) (w' : World) => ∃ nn : Int, (nn = numberL p (xs.drop (xs.length - kk))) ∧ RR1 .ready w' ∧ w.grownBy w' none ∧ rI.R w' (Lo w.heap.size) (d) (xs) ∧ Bk w' g1 121 [.int .i64 (p), .int .i64 ((mn : Int)), pv] ∧ Bk w' g7 3 [.int .i64 (nn)] ∧ Bk w' g17 31 [d] ∧ Mk w' (w21.heap.size) (lp1) ([mark w21.heap.size])) ?h01 ?keep1 ?yd1) ?rest1
 case h01 =>
  refine ⟨0, ?_, hrec1, pw, hx, hb5, hb11, hb18, hmk⟩
  ·(simp [numberL])
 case keep1 =>
  rintro kk w' ⟨nn, q1_1, hrec1, pw, hx, hb5, hb11, hb18, hmk⟩
  exact ⟨hb18, hx⟩
 case yd1 =>
  rintro kk w23 hkk ⟨nn, q1_1, hrec1, pw, hx, hb5, hb11, hb18, hmk⟩
  refine yd_of hRR1 hrec1 rfl rfl ?_
  have hnb := numberL_bd p hp (xs.drop (xs.length - kk))
  have hpw := pow_le4 p hp (xs.drop (xs.length - kk)).length (by simp; omega)
  rw [← q1_1] at hnb
  have hm := mul_bd hnb.1 (show nn ≤ 28561 by omega) (show 0 ≤ p by omega) hp.2
  have hxk := hx0 _ (getD_mem xs (xs.length - 1 - kk) (by omega))
  have hr1 := Int.emod_nonneg (xs.getD (xs.length - 1 - kk) 0) (show p ≠ 0 by omega)
  have hr2 := Int.emod_lt_of_pos (xs.getD (xs.length - 1 - kk) 0) (show 0 < p by omega)
  refine wc_region ?_
  refine wl_v (st_assign (v := .int .i64 ((xs).getD ((xs).length - 1 - kk) 0)) rfl) rfl rfl rfl ?_
  refine wl_nil ?_
  refine wq_begin hRR1 hrec1 rfl ?_
  intro w24 hg25 hs26 hrec1
  have pw := pu_row pw hg25 (by intro q hq hlt; injection hq with hq; omega)
  have hx := Rep.ch hx hg25 (by intro q hq hlt; injection hq with hq; (try simp only [Lo, Iv]); omega)
  have hb5 := Bk.ch hb5 hg25 (by intro hq; injection hq with hq; omega)
  have hb11 := Bk.ch hb11 hg25 (by intro hq; injection hq with hq; omega)
  have hb18 := Bk.ch hb18 hg25 (by intro hq; injection hq with hq; omega)
  have hmk := Mk.ch hmk hg25 (by intro q hq hlt; injection hq with hq; left; omega)
  refine wc_block ?_
  refine wc_region_mix (fun w' => (w24.drew).grownBy w' none) (fun k => (false) || Nat.ble 9 k) 9 (by kernel_rfl) (by kernel_rfl) (by kernel_rfl) ?_
  obtain ⟨w27, ew27⟩ : ∃ q, q = w24.drew := ⟨_, rfl⟩
  rw [← ew27]
  have hn28 : w24.grownBy w27 none := by rw [ew27]; exact ch_drew _
  have hsw27 : w27.heap.size = w24.heap.size := by rw [ew27]; rfl
  clear ew27
  have pw := pu_trans pw hn28
  have hx := Rep.pu hx hn28
  have hb5 := Bk.pu hb5 hn28
  have hb11 := Bk.pu hb11 hn28
  have hb18 := Bk.pu hb18 hn28
  have hmk := Mk.pu hmk hn28
  have hrec1 := RRpu hRR1 hrec1 hn28
  have pc29 := pu_refl w27
  refine wm_v rfl (fun _ => pc29) (fun w' hw' => (st_load (v := .int .i64 (nn)) ty3 rfl rfl (Bk.cell (Bk.pu hb11 hw') (i := 0) rfl))) rfl rfl rfl ?_
  refine wm_v rfl (fun _ => pc29) (fun w' hw' => (st_fieldAddr ty121 (ft := 3) (off := 0) (by kernel_rfl) ty3 rfl)) rfl rfl rfl ?_
  refine wm_v rfl (fun _ => pc29) (fun w' hw' => (st_load (v := .int .i64 (p)) ty3 rfl rfl (Bk.cell (Bk.pu hb5 hw') (i := 0) rfl))) rfl rfl rfl ?_
  refine wm_v rfl (fun _ => pc29) (fun w' hw' => (st_mul rfl rfl (by omega) (by omega))) rfl rfl rfl ?_
  refine wm_v rfl (fun _ => pc29) (fun w' hw' => (st_move (v := .int .i64 ((xs).getD ((xs).length - 1 - kk) 0)) rfl)) rfl rfl rfl ?_
  refine wm_v rfl (fun _ => pc29) (fun w' hw' => (st_fieldAddr ty121 (ft := 3) (off := 0) (by kernel_rfl) ty3 rfl)) rfl rfl rfl ?_
  refine wm_v rfl (fun _ => pc29) (fun w' hw' => (st_load (v := .int .i64 (p)) ty3 rfl rfl (Bk.cell (Bk.pu hb5 hw') (i := 0) rfl))) rfl rfl rfl ?_
  refine wm_v rfl (fun _ => pc29) (fun w' hw' => (st_rem rfl rfl (by omega) (by omega))) rfl rfl rfl ?_
  refine wm_v rfl (fun _ => pc29) (fun w' hw' => (st_add rfl rfl (by omega) (by omega))) rfl rfl rfl ?_
  refine wm_tail (by decide) (fun _ => pc29) (fun j hj => by have hb : Nat.ble 9 j = true := (by rw [Nat.ble_eq]; omega); simp [hb]) ?_
  refine wl_storeK (v := .int .i64 ((nn * p) + (((xs).getD ((xs).length - 1 - kk) 0) % p))) hb11 ty3 (i := 0) rfl (by simp) rfl rfl ?_
  intro w30 hb31 hg32 hs33
  have pw := pu_row pw hg32 (by intro q hq hlt; simp at hq; omega)
  have hx := Rep.ch hx hg32 (by intro q hq hlt; (try simp only [Lo, Iv]); simp at hq; omega)
  have hb5 := Bk.ch hb5 hg32 (by intro hq; have hlt := hb5.lt; simp at hq; omega)
  have hb18 := Bk.ch hb18 hg32 (by intro hq; have hlt := hb18.lt; simp at hq; omega)
  have hmk := Mk.ch hmk hg32 (by intro q hq hlt; simp at hq; omega)
  have hrec1 := RRch hRR1 hrec1 hg32 (by intro hq; simp at hq; omega)
  have hb11 := hb31
  refine wt_nil ?_
  refine wq_block_normal ?_
  refine wq_roundEnd hRR1 hrec1 ?_
  intro w34 hg35 hs36 hrec1
  have pw := pu_row pw hg35 (by intro q hq hlt; injection hq with hq; omega)
  have hx := Rep.ch hx hg35 (by intro q hq hlt; injection hq with hq; (try simp only [Lo, Iv]); omega)
  have hb5 := Bk.ch hb5 hg35 (by intro hq; injection hq with hq; omega)
  have hb11 := Bk.ch hb11 hg35 (by intro hq; injection hq with hq; omega)
  have hb18 := Bk.ch hb18 hg35 (by intro hq; injection hq with hq; omega)
  have hmk := Mk.ch hmk hg35 (by intro q hq hlt; injection hq with hq; left; omega)
  refine ⟨(nn * p + xs.getD (xs.length - 1 - kk) 0 % p), ?_, hrec1, pw, hx, hb5, hb11, hb18, hmk⟩
  ·(rw [numberL_drop p xs (xs.length - (kk + 1)) (by omega), show xs.length - (kk + 1) + 1 = xs.length - kk by omega, ← q1_1, show xs.length - (kk + 1) = xs.length - 1 - kk by omega])
 case rest1 =>
  rintro _ w37 ⟨-, hIr⟩
  obtain ⟨kk, hkn, nn, q1_1, hrec1, pw, hx, hb5, hb11, hb18, hmk⟩ : ∃ kk : Nat, kk = (xs).length ∧ (fun (kk : Nat) (w' : World) => ∃ nn : Int, (nn = numberL p (xs.drop (xs.length - kk))) ∧ RR1 .ready w' ∧ w.grownBy w' none ∧ rI.R w' (Lo w.heap.size) (d) (xs) ∧ Bk w' g1 121 [.int .i64 (p), .int .i64 ((mn : Int)), pv] ∧ Bk w' g7 3 [.int .i64 (nn)] ∧ Bk w' g17 31 [d] ∧ Mk w' (w21.heap.size) (lp1) ([mark w21.heap.size])) kk w37 := ⟨_, rfl, hIr⟩
  refine ⟨hrec1, ?_⟩
  intro w38 hg39 hs40
  have pw := pu_row pw hg39 (by intro q hq hlt; injection hq with hq; omega)
  have hx := Rep.ch hx hg39 (by intro q hq hlt; injection hq with hq; (try simp only [Lo, Iv]); omega)
  have hb5 := Bk.ch hb5 hg39 (by intro hq; injection hq with hq; omega)
  have hb11 := Bk.ch hb11 hg39 (by intro hq; injection hq with hq; omega)
  have hb18 := Bk.ch hb18 hg39 (by intro hq; injection hq with hq; omega)
  have hmk := Mk.ch hmk hg39 (by intro q hq hlt; injection hq with hq; left; omega)
  refine wq_block_normal ?_
  refine wq_then ?_
  refine wc_seq ?_
  refine wc_region ?_
  refine wl_v (st_load (v := .int .i64 (nn)) ty3 rfl rfl (Bk.cell hb11 (i := 0) rfl)) rfl rfl rfl ?_
  refine wl_v (st_assign (v := .int .i64 (nn)) rfl) rfl rfl rfl ?_
  refine wl_nil ?_
  refine wq_then ?_
  refine wc_ret ?_
  have hzw := World.grownBy.size pw
  refine wq_ret1M (v := .int .i64 (nn)) rfl hmk rfl ?_
  intro w41 hb42
  have pw := pu_below2 pw hb42 (by omega)
  have hx := Rep.belowS hx hb42 (by intro b hb1 hb2; simp only [Lo, Iv] at hb1; omega)
  exact ⟨congrArg (Value.int .i64) (by rw [q1_1, hkn, Nat.sub_self, List.drop_zero]), pw⟩
set_option maxRecDepth 100000 in
theorem add_ok (p a b : Int) (mn : Nat) (pv : Value) (w : World) (hp : 2 ≤ p ∧ p ≤ 13) (hm : mn ≤ 4) (ha : 0 ≤ a ∧ a ≤ 9223372036854775807) (hb : 0 ≤ b ∧ b ≤ 9223372036854775807) : Ret Tryd.prog 101 #[.agg #[.int .i64 p, .int .i64 (mn : Int), pv], .int .i64 a, .int .i64 b] w fun v w' => v = .int .i64 (addL p mn a b) ∧ w.grownBy w' none := by
 refine ret_in Tryd.func101 rfl rfl rfl ?_
 have pw := pu_refl w
 refine wc_seq ?_
 refine wc_region ?_
 refine wl_boxG (cs := [.int .i64 (p), .int .i64 ((mn : Int)), pv]) rfl rfl ?_
 intro w2 g1 hg3 hs4 hb5 hn6
 have pw := pu_trans pw hn6
 refine wl_v (st_assign (v := .int .i64 (0)) rfl) rfl rfl rfl ?_
 refine wl_nil ?_
 refine wq_then ?_
 refine wc_seq ?_
 refine wc_region_mix (fun w' => (w2.drew).grownBy w' none) (fun k => (false || Nat.beq k 2 || Nat.beq k 5) || Nat.ble 8 k) 8 (by kernel_rfl) (by kernel_rfl) (by kernel_rfl) ?_
 obtain ⟨w7, ew7⟩ : ∃ q, q = w2.drew := ⟨_, rfl⟩
 rw [← ew7]
 have hn8 : w2.grownBy w7 none := by rw [ew7]; exact ch_drew _
 have hsw7 : w7.heap.size = w2.heap.size := by rw [ew7]; rfl
 clear ew7
 have pw := pu_trans pw hn8
 have hb5 := Bk.pu hb5 hn8
 have pc9 := pu_refl w7
 refine wm_v rfl (fun _ => pc9) (fun w' hw' => (st_loadAgg (cs := [.int .i64 (p), .int .i64 ((mn : Int)), pv]) ty121 rfl rfl rfl (Bk.cells (Bk.pu hb5 hw')))) rfl rfl rfl ?_
 refine wm_v rfl (fun _ => pc9) (fun w' hw' => (st_move (v := .int .i64 (a)) rfl)) rfl rfl rfl ?_
 refine wm_call (vs := [.agg #[.int .i64 (p), .int .i64 ((mn : Int)), pv], .int .i64 (a)]) rfl (fun _ => pc9) C118 rfl rfl (digits_ok (p) (a) (mn) (pv) _ (by omega) (by omega) (by omega)) ?_
 rintro v11 w12 ⟨hn13, hd10⟩
 have pc9 := hn13
 have hzw12 := World.grownBy.size hn13
 refine wm_v rfl (fun _ => pc9) (fun w' hw' => (st_loadAgg (cs := [.int .i64 (p), .int .i64 ((mn : Int)), pv]) ty121 rfl rfl rfl (Bk.cells (Bk.pu hb5 hw')))) rfl rfl rfl ?_
 refine wm_v rfl (fun _ => pc9) (fun w' hw' => (st_move (v := .int .i64 (b)) rfl)) rfl rfl rfl ?_
 refine wm_call (vs := [.agg #[.int .i64 (p), .int .i64 ((mn : Int)), pv], .int .i64 (b)]) rfl (fun _ => pc9) C118 rfl rfl (digits_ok (p) (b) (mn) (pv) _ (by omega) (by omega) (by omega)) ?_
 rintro v15 w16 ⟨hn17, hd14⟩
 have pc9 := pu_trans pc9 hn17
 have hd10 := Bl.pu hd10 hn17
 have hzw16 := World.grownBy.size hn17
 refine wm_v rfl (fun _ => pc9) (fun w' hw' => (st_assign (v := v11) rfl)) rfl rfl rfl ?_
 refine wm_v rfl (fun _ => pc9) (fun w' hw' => (st_assign (v := v15) rfl)) rfl rfl rfl ?_
 refine wm_nil (fun _ => pc9) ?_
 have pw := pu_trans pw pc9
 have hb5 := Bk.pu hb5 pc9
 refine wq_then ?_
 refine wc_seq ?_
 refine wc_seq ?_
 refine wc_region ?_
 refine wl_v (st_move (v := v11) rfl) rfl rfl rfl ?_
 refine wl_v (st_lenS (Bl.sl hd10) ty31 rfl) rfl rfl rfl ?_
 refine wl_v (st_move (v := .int .i64 (0)) rfl) rfl rfl rfl ?_
 refine wl_nil ?_
 refine wq_then ?_
 refine wc_block ?_
 have hl := digitsL_len p mn a
 have hl2 := digitsL_len p mn b
 refine wc_loop (fun fl mm w' => ∃ k : Nat, fl = [(3, .pointer (some ⟨g1, 0, none⟩)), (6, .int .i64 (0)), (7, v11), (8, v15), (17, .int .i64 (((digitsL (p) (mn) (a)).length : Int))), (18, .int .i64 ((k : Int)))] ∧ mm = mn - k ∧ (k ≤ mn) ∧ w.grownBy w' none ∧ Bk w' g1 121 [.int .i64 (p), .int .i64 ((mn : Int)), pv] ∧ Bl iR 3 w' (w7.heap.size) (w12.heap.size) (v11) (addGo (digitsL p mn a) (digitsL p mn b) k) ∧ Bl iR 3 w' (w12.heap.size) (w16.heap.size) (v15) (digitsL (p) (mn) (b))) (h0 := ⟨0, rfl, rfl, ?_, pw, hb5, (by rw [addGo_zero]; exact hd10), hd14⟩) (hf := ⟨(by first | rfl | exact congrArg (Value.int _) (by omega) | go_num), (by first | rfl | exact congrArg (Value.int _) (by omega) | go_num), (by first | rfl | exact congrArg (Value.int _) (by omega) | go_num), (by first | rfl | exact congrArg (Value.int _) (by omega) | go_num), (by first | rfl | exact congrArg (Value.int _) (by omega) | go_num), (by first | rfl | exact congrArg (Value.int _) (by omega) | go_num), trivial⟩) ?_
 ·omega
 ·skip
  rintro _ _ w18 s19 ⟨k, rfl, rfl, p1_1, pw, hb5, hd10, hd14⟩
  refine wc_seq ?_
  refine wc_region ?_
  refine wl_v (st_lss rfl rfl) rfl rfl rfl ?_
  refine wl_nil ?_
  refine wq_then ?_
  refine wc_seq ?_
  refine wc_cond rfl ?_ ?_
  ·intro h20
   have h20p : (k : Int) < ((digitsL (p) (mn) (a)).length : Int) := by first | simpa using h20 | (simp at h20; omega)
   refine wc_skip ?_
   refine wq_then ?_
   refine wc_seq ?_
   refine wc_block ?_
   refine wc_seq ?_
   refine wc_region ?_
   refine wl_v (st_move (v := .int .i64 ((k : Int))) rfl) rfl rfl rfl ?_
   refine wl_v (st_assign (v := .int .i64 ((k : Int))) rfl) rfl rfl rfl ?_
   refine wl_nil ?_
   refine wq_then ?_
   refine wc_region_mix (fun w' => (w18.drew).grownBy w' none) (fun k => (false) || Nat.ble 10 k) 10 (by kernel_rfl) (by kernel_rfl) (by kernel_rfl) ?_
   obtain ⟨w21, ew21⟩ : ∃ q, q = w18.drew := ⟨_, rfl⟩
   rw [← ew21]
   have hn22 : w18.grownBy w21 none := by rw [ew21]; exact ch_drew _
   have hsw21 : w21.heap.size = w18.heap.size := by rw [ew21]; rfl
   clear ew21
   have pw := pu_trans pw hn22
   have hb5 := Bk.pu hb5 hn22
   have hd10 := Bl.pu hd10 hn22
   have hd14 := Bl.pu hd14 hn22
   have pc23 := pu_refl w21
   refine wm_v rfl (fun _ => pc23) (fun w' hw' => (st_move (v := v11) rfl)) rfl rfl rfl ?_
   refine wm_v rfl (fun _ => pc23) (fun w' hw' => (st_move (v := .int .i64 ((k : Int))) rfl)) rfl rfl rfl ?_
   have hbdg27 : (k : Int) < (((addGo (digitsL p mn a) (digitsL p mn b) k).length : Nat) : Int) := (by have h1 := addD_len p mn a b k (by omega); omega)
   refine wm_e rfl (fun _ => pc23) (st_idxB hd10 ty31 ty3 rfl rfl (by omega) hbdg27) rfl rfl rfl ?_
   rintro _ ⟨g27, rfl, hv26, hc24⟩
   try simp only [Int.toNat_natCast, Int.toNat_zero, Int.reduceToNat] at hc24 ⊢
   refine wm_v rfl (fun _ => pc23) (fun w' hw' => (st_load ty3 rfl rfl (cell_pu hw' hc24))) rfl rfl rfl ?_
   refine wm_v rfl (fun _ => pc23) (fun w' hw' => (st_move (v := v15) rfl)) rfl rfl rfl ?_
   refine wm_v rfl (fun _ => pc23) (fun w' hw' => (st_move (v := .int .i64 ((k : Int))) rfl)) rfl rfl rfl ?_
   refine wm_e rfl (fun _ => pc23) (st_idxI (Bl.sl hd14) ty31 ty3 rfl rfl (by omega) (by omega)) rfl rfl rfl ?_
   rintro _ ⟨a29, rfl, hc28⟩
   simp only [Int.toNat_natCast] at hc28
   refine wm_v rfl (fun _ => pc23) (fun w' hw' => (st_load ty3 rfl rfl (cell_pu hw' hc28))) rfl rfl rfl ?_
   refine wm_v rfl (fun _ => pc23) (fun w' hw' => (st_add rfl rfl (by have h1 := addD_getD p mn a b k (by omega); have h2 := digitsL_at p hp mn a k (by omega); have h3 := digitsL_at p hp mn b k (by omega); omega) (by have h1 := addD_getD p mn a b k (by omega); have h2 := digitsL_at p hp mn a k (by omega); have h3 := digitsL_at p hp mn b k (by omega); omega))) rfl rfl rfl ?_
   have hbdg33 : (k : Int) < (((addGo (digitsL p mn a) (digitsL p mn b) k).length : Nat) : Int) := (by have h1 := addD_len p mn a b k (by omega); omega)
   refine wm_e rfl (fun _ => pc23) (st_idxB hd10 ty31 ty3 rfl rfl (by omega) hbdg33) rfl rfl rfl ?_
   rintro _ ⟨g33, rfl, hv32, hc30⟩
   try simp only [Int.toNat_natCast, Int.toNat_zero, Int.reduceToNat] at hc30 ⊢
   refine wm_tail (by decide) (fun _ => pc23) (fun j hj => by have hb : Nat.ble 10 j = true := (by rw [Nat.ble_eq]; omega); simp [hb]) ?_
   refine wl_storeB (q := ((addGo (digitsL p mn a) (digitsL p mn b) k).getD k 0) + ((digitsL (p) (mn) (b)).getD k 0)) hd10 ty3 rfl hv32 (by omega) rfl (fun _ _ => rfl) ?_
   intro w34 hb35 hg36 hs37
   have hown := Bl.own hd10 hv32
   have pw := pu_row pw hg36 (by intro q hq hlt; simp at hq; omega)
   have hb5 := Bk.ch hb5 hg36 (by intro hq; have hlt := hb5.lt; simp at hq; omega)
   have hd14 := Bl.ch hd14 hg36 (by intro q hq hlt; simp at hq; omega)
   have hd10 := hb35
   try simp only [Int.toNat_natCast, Int.toNat_zero, Int.reduceToNat] at hd10
   refine wt_nil ?_
   refine wq_block_normal ?_
   refine wq_then ?_
   refine wc_region ?_
   refine wl_v (st_add rfl rfl (by omega) (by omega)) rfl rfl rfl ?_
   refine wl_v (st_move (v := .int .i64 ((k : Int) + 1)) rfl) rfl rfl rfl ?_
   refine wl_nil ?_
   refine wq_round (hI := ⟨k + 1, rfl, rfl, ?_, pw, hb5, (addD_set p mn a b k (by omega) ▸ hd10), hd14⟩) (hm := ?_) (hf := ?_) rfl rfl
   ·omega
   ·omega
   ·exact ⟨(by first | rfl | exact congrArg (Value.int _) (by omega) | go_num), (by first | rfl | exact congrArg (Value.int _) (by omega) | go_num), (by first | rfl | exact congrArg (Value.int _) (by omega) | go_num), (by first | rfl | exact congrArg (Value.int _) (by omega) | go_num), (by first | rfl | exact congrArg (Value.int _) (by omega) | go_num), (by first | rfl | exact congrArg (Value.int _) (by omega) | go_num), trivial⟩
  ·intro h20
   have h20p : ¬ ((k : Int) < ((digitsL (p) (mn) (a)).length : Int)) := by first | simpa using h20 | (simp at h20; omega)
   refine wc_exit ?_
   refine wq_then_exit ?_
   refine wq_then_exit ?_
   refine wq_block_exit ?_
   refine wq_then ?_
   refine wc_seq ?_
   refine wc_region ?_
   refine wl_v (st_loadAgg (cs := [.int .i64 (p), .int .i64 ((mn : Int)), pv]) ty121 rfl rfl rfl (Bk.cells hb5)) rfl rfl rfl ?_
   refine wl_v (st_move (v := v11) rfl) rfl rfl rfl ?_
   refine wl_call (vs := [.agg #[.int .i64 (p), .int .i64 ((mn : Int)), pv], v11]) C120 rfl rfl (number_ok (p) (mn) (pv) _ _ _ _ (by omega) (by rw [addD_len p mn a b k (by omega)]; omega) (addD_bd p hp mn a b k) (Bl.sl hd10)) ?_
   rintro _ w38 ⟨rfl, hn39⟩
   have pw := pu_trans pw hn39
   have hb5 := Bk.pu hb5 hn39
   have hd10 := Bl.pu hd10 hn39
   have hd14 := Bl.pu hd14 hn39
   have hzw38 := World.grownBy.size hn39
   refine wl_v (st_assign (v := .int .i64 (numberL (p) (addGo (digitsL p mn a) (digitsL p mn b) k))) rfl) rfl rfl rfl ?_
   refine wl_nil ?_
   refine wq_then ?_
   refine wc_ret ?_
   refine wq_ret1 (v := .int .i64 (numberL (p) (addGo (digitsL p mn a) (digitsL p mn b) k))) rfl rfl rfl ?_
   have hk : k = mn := by omega
   subst hk
   have he := addGo_all (digitsL p k a) (digitsL p k b) (by rw [digitsL_len, digitsL_len])
   rw [digitsL_len] at he
   exact ⟨congrArg (Value.int .i64) (by rw [he]; rfl), pw⟩
set_option maxRecDepth 100000 in
theorem mul_ok (p a b : Int) (mn : Nat) (pv : Value) (pl : List Int) (S : Nat → Prop) (w : World) (hp : 2 ≤ p ∧ p ≤ 13) (hm : 1 ≤ mn ∧ mn ≤ 4) (ha : 0 ≤ a ∧ a ≤ 1000) (hb : 0 ≤ b ∧ b ≤ 1000) (hpl : pl.length = mn) (hpb : ∀ x ∈ pl, 0 ≤ x ∧ x ≤ 12) (hpv : rI.R w S pv pl) : Ret Tryd.prog 97 #[.agg #[.int .i64 p, .int .i64 (mn : Int), pv], .int .i64 a, .int .i64 b] w fun v w' => v = .int .i64 (mulL p mn pl a b) ∧ w.grownBy w' none := by
 refine ret_inM Tryd.func97 rfl rfl rfl ?_
 have pw := pu_refl w
 have hpv : rI.R w (Lo w.heap.size) pv pl := rI.mono (rI.lt hpv) (fun b hb => hb.2)
 have hab := mul_bd ha.1 ha.2 hb.1 hb.2
 refine wc_seq ?_
 refine wc_region ?_
 refine wl_boxG (cs := [.int .i64 (p), .int .i64 ((mn : Int)), pv]) rfl rfl ?_
 intro w2 g1 hg3 hs4 hb5 hn6
 have pw := pu_trans pw hn6
 have hpv := Rep.pu hpv hn6
 refine wl_v (st_assign (v := .int .i64 (0)) rfl) rfl rfl rfl ?_
 refine wl_nil ?_
 refine wq_then ?_
 refine wc_seq ?_
 refine wc_seq ?_
 refine wc_region ?_
 refine wl_v (st_fieldAddr ty121 (ft := 3) (off := 1) (by kernel_rfl) ty3 rfl) rfl rfl rfl ?_
 refine wl_v (st_load (v := .int .i64 ((mn : Int))) ty3 rfl rfl (Bk.cell hb5 (i := 1) rfl)) rfl rfl rfl ?_
 refine wl_v (st_eql rfl rfl) rfl rfl rfl ?_
 refine wl_nil ?_
 refine wq_then ?_
 refine wc_cond rfl ?_ ?_
 ·intro h7
  have h7p : (mn : Int) = 1 := by first | simpa using h7 | (simp at h7; omega)
  refine wc_seq ?_
  refine wc_region ?_
  refine wl_v (st_move (v := .int .i64 (a)) rfl) rfl rfl rfl ?_
  refine wl_v (st_move (v := .int .i64 (b)) rfl) rfl rfl rfl ?_
  refine wl_v (st_mul rfl rfl (by omega) (by omega)) rfl rfl rfl ?_
  refine wl_v (st_fieldAddr ty121 (ft := 3) (off := 0) (by kernel_rfl) ty3 rfl) rfl rfl rfl ?_
  refine wl_v (st_load (v := .int .i64 (p)) ty3 rfl rfl (Bk.cell hb5 (i := 0) rfl)) rfl rfl rfl ?_
  refine wl_v (st_rem rfl rfl (by omega) (by omega)) rfl rfl rfl ?_
  refine wl_v (st_assign (v := .int .i64 ((a * b) % p)) rfl) rfl rfl rfl ?_
  refine wl_nil ?_
  refine wq_then ?_
  refine wc_ret ?_
  refine wq_then_ret ?_
  have hmk := Mk.nil w2 w2.heap.size 0
  have hzw := World.grownBy.size pw
  refine wq_ret1M (v := .int .i64 ((a * b) % p)) rfl hmk rfl ?_
  intro w8 hb9
  have pw := pu_below2 pw hb9 (by omega)
  have hpv := Rep.belowS hpv hb9 (by intro b hb1 hb2; simp only [Lo, Iv] at hb1; omega)
  exact ⟨congrArg (Value.int .i64) (by rw [mulL, if_pos (by omega)]), pw⟩
 ·intro h7
  have h7p : ¬ ((mn : Int) = 1) := by first | simpa using h7 | (simp at h7; omega)
  refine wc_skip ?_
  refine wq_then ?_
  refine wc_seq ?_
  refine wc_region ?_
  refine wl_v (st_loadAgg (cs := [.int .i64 (p), .int .i64 ((mn : Int)), pv]) ty121 rfl rfl rfl (Bk.cells hb5)) rfl rfl rfl ?_
  refine wl_v (st_move (v := .int .i64 (a)) rfl) rfl rfl rfl ?_
  refine wl_call (vs := [.agg #[.int .i64 (p), .int .i64 ((mn : Int)), pv], .int .i64 (a)]) C118 rfl rfl (digits_ok (p) (a) (mn) (pv) _ (by omega) (by omega) (by omega)) ?_
  rintro v11 w12 ⟨hn13, hd10⟩
  have pw := pu_trans pw hn13
  have hpv := Rep.pu hpv hn13
  have hb5 := Bk.pu hb5 hn13
  have hzw12 := World.grownBy.size hn13
  refine wl_allocK (cs := [.slice none 0 0]) ty31 rfl rfl ?_
  intro w15 g14 hg16 hs17 hb18 hn19
  have pw := pu_trans pw hn19
  have hpv := Rep.pu hpv hn19
  have hb5 := Bk.pu hb5 hn19
  have hd10 := Bl.pu hd10 hn19
  refine wl_storeK (v := v11) hb18 ty31 (i := 0) rfl (by simp) rfl (Rep.one _ (Bl.sl hd10)) ?_
  intro w20 hb21 hg22 hs23
  have pw := pu_row pw hg22 (by intro q hq hlt; simp at hq; omega)
  have hpv := Rep.ch hpv hg22 (by intro q hq hlt; (try simp only [Lo, Iv]); simp at hq; omega)
  have hb5 := Bk.ch hb5 hg22 (by intro hq; have hlt := hb5.lt; simp at hq; omega)
  have hd10 := Bl.ch hd10 hg22 (by intro q hq hlt; simp at hq; omega)
  have hb18 := hb21
  refine wl_nil ?_
  refine wq_then ?_
  refine wc_seq ?_
  refine wc_region ?_
  refine wl_v (st_fieldAddr ty121 (ft := 3) (off := 1) (by kernel_rfl) ty3 rfl) rfl rfl rfl ?_
  refine wl_v (st_load (v := .int .i64 ((mn : Int))) ty3 rfl rfl (Bk.cell hb5 (i := 1) rfl)) rfl rfl rfl ?_
  refine wl_makeB (r := iR) (0 : Int) ty31 ty3 rfl (fun _ => rfl) rfl rfl (by omega) (by omega) rfl ?_
  intro w25 g24 hg26 hs27 hb28 hn29
  simp only [Int.toNat_natCast] at hb28 ⊢
  have hlog24 : g24 < w25.heap.size := by omega
  have pw := pu_trans pw hn29
  have hpv := Rep.pu hpv hn29
  have hb5 := Bk.pu hb5 hn29
  have hd10 := Bl.pu hd10 hn29
  have hb18 := Bk.pu hb18 hn29
  refine wl_allocK (cs := [.slice none 0 0]) ty31 rfl rfl ?_
  intro w31 g30 hg32 hs33 hb34 hn35
  have pw := pu_trans pw hn35
  have hpv := Rep.pu hpv hn35
  have hb5 := Bk.pu hb5 hn35
  have hd10 := Bl.pu hd10 hn35
  have hb18 := Bk.pu hb18 hn35
  have hb28 := Bl.pu hb28 hn35
  refine wl_storeK (v := .slice (some ⟨g24, 0, none⟩) mn mn) hb34 ty31 (i := 0) rfl (by simp) rfl (Rep.one _ (Bl.sl hb28)) ?_
  intro w36 hb37 hg38 hs39
  have pw := pu_row pw hg38 (by intro q hq hlt; simp at hq; omega)
  have hpv := Rep.ch hpv hg38 (by intro q hq hlt; (try simp only [Lo, Iv]); simp at hq; omega)
  have hb5 := Bk.ch hb5 hg38 (by intro hq; have hlt := hb5.lt; simp at hq; omega)
  have hd10 := Bl.ch hd10 hg38 (by intro q hq hlt; simp at hq; omega)
  have hb18 := Bk.ch hb18 hg38 (by intro hq; have hlt := hb18.lt; simp at hq; omega)
  have hb28 := Bl.ch hb28 hg38 (by intro q hq hlt; simp at hq; omega)
  have hb34 := hb37
  refine wl_nil ?_
  refine wq_then ?_
  refine wc_seq ?_
  refine wc_seq ?_
  refine wc_region ?_
  refine wl_v (st_loadAgg (cs := [.int .i64 (p), .int .i64 ((mn : Int)), pv]) ty121 rfl rfl rfl (Bk.cells hb5)) rfl rfl rfl ?_
  refine wl_v (st_move (v := .int .i64 (b)) rfl) rfl rfl rfl ?_
  refine wl_call (vs := [.agg #[.int .i64 (p), .int .i64 ((mn : Int)), pv], .int .i64 (b)]) C118 rfl rfl (digits_ok (p) (b) (mn) (pv) _ (by omega) (by omega) (by omega)) ?_
  rintro v41 w42 ⟨hn43, hd40⟩
  have pw := pu_trans pw hn43
  have hpv := Rep.pu hpv hn43
  have hb5 := Bk.pu hb5 hn43
  have hd10 := Bl.pu hd10 hn43
  have hb18 := Bk.pu hb18 hn43
  have hb28 := Bl.pu hb28 hn43
  have hb34 := Bk.pu hb34 hn43
  have hzw42 := World.grownBy.size hn43
  refine wl_call (vs := [v41]) C119 rfl rfl (backward1 (v41) _ (Rep.one _ (Bl.sl hd40))) ?_
  rintro _ w48 ⟨hn49, g44, rfl, hb45, hz46, hz47⟩
  have pw := pu_trans pw hn49
  have hpv := Rep.pu hpv hn49
  have hb5 := Bk.pu hb5 hn49
  have hd10 := Bl.pu hd10 hn49
  have hb18 := Bk.pu hb18 hn49
  have hb28 := Bl.pu hb28 hn49
  have hb34 := Bk.pu hb34 hn49
  have hd40 := Bl.pu hd40 hn49
  have hzw48 := World.grownBy.size hn49
  refine wl_nil ?_
  refine wq_then ?_
  refine wc_block ?_
  have hze1 := World.grownBy.size pw
  refine wc_rangeFunc (ps := [32, 33]) (first := []) (cap := [.pointer (some ⟨g44, 0, none⟩)]) rfl rfl C133 ?_
  intro wr1 lp1 RR1 hRR1 hlp1 hgr1 hsr1 hdr1 hrec1
  have hgl_hb5_1 : g1 < lp1 := by have := Bk.lt hb5; omega
  have hgl_hb18_1 : g14 < lp1 := by have := Bk.lt hb18; omega
  have hgl_hb34_1 : g30 < lp1 := by have := Bk.lt hb34; omega
  have hgl_hb45_1 : g44 < lp1 := by have := Bk.lt hb45; omega
  have pw := pu_trans pw hgr1
  have hpv := Rep.pu hpv hgr1
  have hb5 := Bk.pu hb5 hgr1
  have hd10 := Bl.pu hd10 hgr1
  have hb18 := Bk.pu hb18 hgr1
  have hb28 := Bl.pu hb28 hgr1
  have hb34 := Bk.pu hb34 hgr1
  have hd40 := Bl.pu hd40 hgr1
  have hb45 := Bk.pu hb45 hgr1
  have hmk : Mk wr1 w48.heap.size lp1 [mark w48.heap.size] := ⟨_, by omega, by omega, rfl, hdr1, trivial⟩
  refine Ret.mono (backward2 lp1 g44 (v41) (Iv (w36.heap.size) (w42.heap.size)) (digitsL (p) (mn) (b)) _ (fun (kk : Nat) (w' : World) => ∃ out : List Int, (out.length = mn) ∧ (∀ x ∈ out, 0 ≤ x ∧ x ≤ 12) ∧ (out = ((digitsL p mn b).drop ((digitsL p mn b).length - kk)).foldr (mulStep p pl (digitsL p mn a)) (List.replicate mn 0)) ∧ RR1 .ready w' ∧ w.grownBy w' none ∧ rI.R w' (Lo w.heap.size) (pv) (pl) ∧ Bk w' g1 121 [.int .i64 (p), .int .i64 ((mn : Int)), pv] ∧ Bl iR 3 w' (w2.heap.size) (w12.heap.size) (v11) (digitsL (p) (mn) (a)) ∧ Bk w' g14 31 [v11] ∧ Bl iR 3 w' (w20.heap.size) (w25.heap.size) (.slice (some ⟨g24, 0, none⟩) mn mn) (out) ∧ Bk w' g30 31 [.slice (some ⟨g24, 0, none⟩) mn mn] ∧ Bl iR 3 w' (w36.heap.size) (w42.heap.size) (v41) (digitsL (p) (mn) (b)) ∧ Bk w' g44 31 [v41] ∧ Mk w' (w48.heap.size) (lp1) ([mark w48.heap.size])) ?h01 ?keep1 ?yd1) ?rest1
  case h01 =>
   refine ⟨(List.replicate mn 0), ?_, ?_, ?_, hrec1, pw, hpv, hb5, hd10, hb18, hb28, hb34, hd40, hb45, hmk⟩
   ·(simp)
   ·(intro x hx; have := List.eq_of_mem_replicate hx; omega)
   ·(simp)
  case keep1 =>
   rintro kk w' ⟨out, q1_1, q1_2, q1_3, hrec1, pw, hpv, hb5, hd10, hb18, hb28, hb34, hd40, hb45, hmk⟩
   exact ⟨hb45, (Bl.sl hd40)⟩
  case yd1 =>
   rintro kk w50 hkk ⟨out, q1_1, q1_2, q1_3, hrec1, pw, hpv, hb5, hd10, hb18, hb28, hb34, hd40, hb45, hmk⟩
   refine yd_of hRR1 hrec1 rfl rfl ?_
   have hlb := digitsL_len p mn b
   have hla := digitsL_len p mn a
   have htop : out.getD ((mn : Int) - 1).toNat 0 = out.getD (out.length - 1) 0 := by congr 1; omega
   have hkd := digitsL_at p hp mn b ((digitsL p mn b).length - 1 - kk) (by omega)
   refine wc_region ?_
   refine wl_v (st_assign (v := .int .i64 ((digitsL (p) (mn) (b)).getD ((digitsL (p) (mn) (b)).length - 1 - kk) 0)) rfl) rfl rfl rfl ?_
   refine wl_nil ?_
   refine wq_begin hRR1 hrec1 rfl ?_
   intro w51 hg52 hs53 hrec1
   have pw := pu_row pw hg52 (by intro q hq hlt; injection hq with hq; omega)
   have hpv := Rep.ch hpv hg52 (by intro q hq hlt; injection hq with hq; (try simp only [Lo, Iv]); omega)
   have hb5 := Bk.ch hb5 hg52 (by intro hq; injection hq with hq; omega)
   have hd10 := Bl.ch hd10 hg52 (by intro q hq hlt; injection hq with hq; omega)
   have hb18 := Bk.ch hb18 hg52 (by intro hq; injection hq with hq; omega)
   have hb28 := Bl.ch hb28 hg52 (by intro q hq hlt; injection hq with hq; omega)
   have hb34 := Bk.ch hb34 hg52 (by intro hq; injection hq with hq; omega)
   have hd40 := Bl.ch hd40 hg52 (by intro q hq hlt; injection hq with hq; omega)
   have hb45 := Bk.ch hb45 hg52 (by intro hq; injection hq with hq; omega)
   have hmk := Mk.ch hmk hg52 (by intro q hq hlt; injection hq with hq; left; omega)
   refine wc_block ?_
   refine wc_seq ?_
   refine wc_region ?_
   refine wl_v (st_load (v := .slice (some ⟨g24, 0, none⟩) mn mn) ty31 rfl rfl (Bk.cell hb34 (i := 0) rfl)) rfl rfl rfl ?_
   refine wl_v (st_fieldAddr ty121 (ft := 3) (off := 1) (by kernel_rfl) ty3 rfl) rfl rfl rfl ?_
   refine wl_v (st_load (v := .int .i64 ((mn : Int))) ty3 rfl rfl (Bk.cell hb5 (i := 1) rfl)) rfl rfl rfl ?_
   refine wl_v (st_sub rfl rfl (by omega) (by omega)) rfl rfl rfl ?_
   refine wl_e (st_idxI (Bl.sl hb28) ty31 ty3 rfl rfl (by omega) (by omega)) rfl rfl rfl ?_
   rintro _ ⟨a55, rfl, hc54⟩
   refine wl_v (st_load ty3 rfl rfl hc54) rfl rfl rfl ?_
   refine wl_v (st_assign (v := .int .i64 ((out).getD ((mn : Int) - 1).toNat 0)) rfl) rfl rfl rfl ?_
   refine wl_nil ?_
   refine wq_then ?_
   refine wc_seq ?_
   refine wc_region_mix (fun w' => (w51.drew).grownBy w' none) (fun k => (false) || Nat.ble 7 k) 7 (by kernel_rfl) (by kernel_rfl) (by kernel_rfl) ?_
   obtain ⟨w56, ew56⟩ : ∃ q, q = w51.drew := ⟨_, rfl⟩
   rw [← ew56]
   have hn57 : w51.grownBy w56 none := by rw [ew56]; exact ch_drew _
   have hsw56 : w56.heap.size = w51.heap.size := by rw [ew56]; rfl
   clear ew56
   have pw := pu_trans pw hn57
   have hpv := Rep.pu hpv hn57
   have hb5 := Bk.pu hb5 hn57
   have hd10 := Bl.pu hd10 hn57
   have hb18 := Bk.pu hb18 hn57
   have hb28 := Bl.pu hb28 hn57
   have hb34 := Bk.pu hb34 hn57
   have hd40 := Bl.pu hd40 hn57
   have hb45 := Bk.pu hb45 hn57
   have hmk := Mk.pu hmk hn57
   have hrec1 := RRpu hRR1 hrec1 hn57
   have pc58 := pu_refl w56
   refine wm_v rfl (fun _ => pc58) (fun w' hw' => (st_load (v := .slice (some ⟨g24, 0, none⟩) mn mn) ty31 rfl rfl (Bk.cell (Bk.pu hb34 hw') (i := 0) rfl))) rfl rfl rfl ?_
   refine wm_v rfl (fun _ => pc58) (fun w' hw' => (st_cutLo (m := 1) ty31 ty3 rfl rfl (by omega) (by omega) (by omega))) rfl rfl rfl ?_
   refine wm_v rfl (fun _ => pc58) (fun w' hw' => (st_load (v := .slice (some ⟨g24, 0, none⟩) mn mn) ty31 rfl rfl (Bk.cell (Bk.pu hb34 hw') (i := 0) rfl))) rfl rfl rfl ?_
   refine wm_v rfl (fun _ => pc58) (fun w' hw' => (st_fieldAddr ty121 (ft := 3) (off := 1) (by kernel_rfl) ty3 rfl)) rfl rfl rfl ?_
   refine wm_v rfl (fun _ => pc58) (fun w' hw' => (st_load (v := .int .i64 ((mn : Int))) ty3 rfl rfl (Bk.cell (Bk.pu hb5 hw') (i := 1) rfl))) rfl rfl rfl ?_
   refine wm_v rfl (fun _ => pc58) (fun w' hw' => (st_sub rfl rfl (by omega) (by omega))) rfl rfl rfl ?_
   refine wm_v rfl (fun _ => pc58) (fun w' hw' => (st_cutHi (m := ((mn : Int) - 1).toNat) ty31 ty3 rfl rfl (by omega) (by omega))) rfl rfl rfl ?_
   refine wm_tail (by decide) (fun _ => pc58) (fun j hj => by have hb : Nat.ble 7 j = true := (by rw [Nat.ble_eq]; omega); simp [hb]) ?_
   refine wl_copyB (off := 0 + 1) (so := 0) (k := mn - 1) hb28 ty31 ty3 rfl rfl (by show min _ _ = _; omega) (by omega) (by omega) rfl ?_
   intro w59 hb60 hg61 hs62 hown
   have pw := pu_row pw hg61 (by intro q hq hlt; simp at hq; omega)
   have hpv := Rep.ch hpv hg61 (by intro q hq hlt; (try simp only [Lo, Iv]); simp at hq; omega)
   have hb5 := Bk.ch hb5 hg61 (by intro hq; have hlt := hb5.lt; simp at hq; omega)
   have hd10 := Bl.ch hd10 hg61 (by intro q hq hlt; simp at hq; omega)
   have hb18 := Bk.ch hb18 hg61 (by intro hq; have hlt := hb18.lt; simp at hq; omega)
   have hb34 := Bk.ch hb34 hg61 (by intro hq; have hlt := hb34.lt; simp at hq; omega)
   have hd40 := Bl.ch hd40 hg61 (by intro q hq hlt; simp at hq; omega)
   have hb45 := Bk.ch hb45 hg61 (by intro hq; have hlt := hb45.lt; simp at hq; omega)
   have hmk := Mk.ch hmk hg61 (by intro q hq hlt; simp at hq; omega)
   have hrec1 := RRch hRR1 hrec1 hg61 (by intro hq; simp at hq; omega)
   have hb28 := hb60
   refine wt_nil ?_
   refine wq_then ?_
   refine wc_seq ?_
   refine wc_region ?_
   refine wl_v (st_load (v := .slice (some ⟨g24, 0, none⟩) mn mn) ty31 rfl rfl (Bk.cell hb34 (i := 0) rfl)) rfl rfl rfl ?_
   have hbdg66 : 0 < (((((out).take (0 + 1)) ++ (((out).drop (0)).take (mn - 1)) ++ ((out).drop ((0 + 1) + (mn - 1)))).length : Nat) : Int) := (by have h1 := copyL_len out (0 + 1) 0 (mn - 1) (by omega) (by omega); unfold copyL at h1; omega)
   refine wl_e (st_idxB hb28 ty31 ty3 rfl rfl (by omega) hbdg66) rfl rfl rfl ?_
   rintro _ ⟨g66, rfl, hv65, hc63⟩
   try simp only [Int.toNat_natCast, Int.toNat_zero, Int.reduceToNat] at hc63 ⊢
   refine wl_storeB (q := 0) hb28 ty3 rfl hv65 (by omega) rfl (fun _ _ => rfl) ?_
   intro w67 hb68 hg69 hs70
   have hown := Bl.own hb28 hv65
   have pw := pu_row pw hg69 (by intro q hq hlt; simp at hq; omega)
   have hpv := Rep.ch hpv hg69 (by intro q hq hlt; (try simp only [Lo, Iv]); simp at hq; omega)
   have hb5 := Bk.ch hb5 hg69 (by intro hq; have hlt := hb5.lt; simp at hq; omega)
   have hd10 := Bl.ch hd10 hg69 (by intro q hq hlt; simp at hq; omega)
   have hb18 := Bk.ch hb18 hg69 (by intro hq; have hlt := hb18.lt; simp at hq; omega)
   have hb34 := Bk.ch hb34 hg69 (by intro hq; have hlt := hb34.lt; simp at hq; omega)
   have hd40 := Bl.ch hd40 hg69 (by intro q hq hlt; simp at hq; omega)
   have hb45 := Bk.ch hb45 hg69 (by intro hq; have hlt := hb45.lt; simp at hq; omega)
   have hmk := Mk.ch hmk hg69 (by intro q hq hlt; simp at hq; omega)
   have hrec1 := RRch hRR1 hrec1 hg69 (by intro hq; simp at hq; omega)
   have hb28 := hb68
   try simp only [Int.toNat_natCast, Int.toNat_zero, Int.reduceToNat] at hb28
   refine wl_nil ?_
   refine wq_then ?_
   refine wc_seq ?_
   refine wc_region ?_
   refine wl_v (st_load (v := .slice (some ⟨g24, 0, none⟩) mn mn) ty31 rfl rfl (Bk.cell hb34 (i := 0) rfl)) rfl rfl rfl ?_
   refine wl_v (st_lenS (Bl.sl hb28) ty31 rfl) rfl rfl rfl ?_
   refine wl_v (st_move (v := .int .i64 (0)) rfl) rfl rfl rfl ?_
   refine wl_nil ?_
   refine wq_then ?_
   refine wc_block ?_
   rw [show (0 + 1) = 1 from rfl, copy_sh out mn q1_1 (by omega)] at hb28
   have hlsh := mulSh_len out (by omega)
   have hlc : (((((out).take (0 + 1)) ++ (((out).drop (0)).take (mn - 1)) ++ ((out).drop ((0 + 1) + (mn - 1)))).set 0 (0))).length = mn := by rw [show (0 + 1) = 1 from rfl, copy_sh out mn q1_1 (by omega)]; omega
   refine wc_loop (fun fl mm w' => ∃ i : Nat, fl = [(3, .pointer (some ⟨g1, 0, none⟩)), (6, .int .i64 (0)), (7, .pointer (some ⟨g14, 0, none⟩)), (8, .pointer (some ⟨g30, 0, none⟩)), (10, .int .i64 ((digitsL (p) (mn) (b)).getD ((digitsL (p) (mn) (b)).length - 1 - kk) 0)), (11, .int .i64 ((out).getD ((mn : Int) - 1).toNat 0)), (51, .int .i64 ((((((out).take (0 + 1)) ++ (((out).drop (0)).take (mn - 1)) ++ ((out).drop ((0 + 1) + (mn - 1)))).set 0 (0)).length : Int))), (52, .int .i64 ((i : Int)))] ∧ mm = mn - i ∧ (i ≤ mn) ∧ w.grownBy w' none ∧ rI.R w' (Lo w.heap.size) (pv) (pl) ∧ Bk w' g1 121 [.int .i64 (p), .int .i64 ((mn : Int)), pv] ∧ Bl iR 3 w' (w2.heap.size) (w12.heap.size) (v11) (digitsL (p) (mn) (a)) ∧ Bk w' g14 31 [v11] ∧ Bl iR 3 w' (w20.heap.size) (w25.heap.size) (.slice (some ⟨g24, 0, none⟩) mn mn) (mulGo p pl (digitsL p mn a) ((digitsL p mn b).getD ((digitsL p mn b).length - 1 - kk) 0) out i) ∧ Bk w' g30 31 [.slice (some ⟨g24, 0, none⟩) mn mn] ∧ Bl iR 3 w' (w36.heap.size) (w42.heap.size) (v41) (digitsL (p) (mn) (b)) ∧ Bk w' g44 31 [v41] ∧ Mk w' (w48.heap.size) (lp1) ([mark w48.heap.size]) ∧ RR1 .busy w') (h0 := ⟨0, rfl, rfl, ?_, pw, hpv, hb5, hd10, hb18, (by rw [mulGo_zero]; exact hb28), hb34, hd40, hb45, hmk, hrec1⟩) (hf := ⟨(by first | rfl | exact congrArg (Value.int _) (by omega) | go_num), (by first | rfl | exact congrArg (Value.int _) (by omega) | go_num), (by first | rfl | exact congrArg (Value.int _) (by omega) | go_num), (by first | rfl | exact congrArg (Value.int _) (by omega) | go_num), (by first | rfl | exact congrArg (Value.int _) (by omega) | go_num), (by first | rfl | exact congrArg (Value.int _) (by omega) | go_num), (by first | rfl | exact congrArg (Value.int _) (by omega) | go_num), (by first | rfl | exact congrArg (Value.int _) (by omega) | go_num), trivial⟩) ?_
   ·omega
   ·skip
    rintro _ _ w71 s72 ⟨i, rfl, rfl, p1_1, pw, hpv, hb5, hd10, hb18, hb28, hb34, hd40, hb45, hmk, hrec1⟩
    refine wc_seq ?_
    refine wc_region ?_
    refine wl_v (st_lss rfl rfl) rfl rfl rfl ?_
    refine wl_nil ?_
    refine wq_then ?_
    refine wc_seq ?_
    refine wc_cond rfl ?_ ?_
    ·intro h73
     have h73p : (i : Int) < (((((out).take (0 + 1)) ++ (((out).drop (0)).take (mn - 1)) ++ ((out).drop ((0 + 1) + (mn - 1)))).set 0 (0)).length : Int) := by first | simpa using h73 | (simp at h73; omega)
     refine wc_skip ?_
     refine wq_then ?_
     refine wc_seq ?_
     refine wc_block ?_
     refine wc_seq ?_
     refine wc_region ?_
     refine wl_v (st_move (v := .int .i64 ((i : Int))) rfl) rfl rfl rfl ?_
     refine wl_v (st_assign (v := .int .i64 ((i : Int))) rfl) rfl rfl rfl ?_
     refine wl_nil ?_
     refine wq_then ?_
     refine wc_region_mix (fun w' => (w71.drew).grownBy w' none) (fun k => (false) || Nat.ble 25 k) 25 (by kernel_rfl) (by kernel_rfl) (by kernel_rfl) ?_
     obtain ⟨w74, ew74⟩ : ∃ q, q = w71.drew := ⟨_, rfl⟩
     rw [← ew74]
     have hn75 : w71.grownBy w74 none := by rw [ew74]; exact ch_drew _
     have hsw74 : w74.heap.size = w71.heap.size := by rw [ew74]; rfl
     clear ew74
     have pw := pu_trans pw hn75
     have hpv := Rep.pu hpv hn75
     have hb5 := Bk.pu hb5 hn75
     have hd10 := Bl.pu hd10 hn75
     have hb18 := Bk.pu hb18 hn75
     have hb28 := Bl.pu hb28 hn75
     have hb34 := Bk.pu hb34 hn75
     have hd40 := Bl.pu hd40 hn75
     have hb45 := Bk.pu hb45 hn75
     have hmk := Mk.pu hmk hn75
     have hrec1 := RRpu hRR1 hrec1 hn75
     have pc76 := pu_refl w74
     refine wm_v rfl (fun _ => pc76) (fun w' hw' => (st_load (v := .slice (some ⟨g24, 0, none⟩) mn mn) ty31 rfl rfl (Bk.cell (Bk.pu hb34 hw') (i := 0) rfl))) rfl rfl rfl ?_
     refine wm_v rfl (fun _ => pc76) (fun w' hw' => (st_move (v := .int .i64 ((i : Int))) rfl)) rfl rfl rfl ?_
     refine wm_v rfl (fun _ => pc76) (fun w' hw' => (st_load (v := .slice (some ⟨g24, 0, none⟩) mn mn) ty31 rfl rfl (Bk.cell (Bk.pu hb34 hw') (i := 0) rfl))) rfl rfl rfl ?_
     refine wm_v rfl (fun _ => pc76) (fun w' hw' => (st_move (v := .int .i64 ((i : Int))) rfl)) rfl rfl rfl ?_
     refine wm_e rfl (fun _ => pc76) (st_idxI (Bl.sl hb28) ty31 ty3 rfl rfl (by omega) (by have h1 := mulGo_len p pl (digitsL p mn a) ((digitsL p mn b).getD ((digitsL p mn b).length - 1 - kk) 0) out i (by omega) (by omega); omega)) rfl rfl rfl ?_
     rintro _ ⟨a78, rfl, hc77⟩
     simp only [Int.toNat_natCast] at hc77
     refine wm_v rfl (fun _ => pc76) (fun w' hw' => (st_load ty3 rfl rfl (cell_pu hw' hc77))) rfl rfl rfl ?_
     refine wm_v rfl (fun _ => pc76) (fun w' hw' => (st_move (v := .int .i64 ((out).getD ((mn : Int) - 1).toNat 0)) rfl)) rfl rfl rfl ?_
     refine wm_v rfl (fun _ => pc76) (fun w' hw' => (st_fieldAddr ty121 (ft := 31) (off := 2) (by kernel_rfl) ty31 rfl)) rfl rfl rfl ?_
     refine wm_v rfl (fun _ => pc76) (fun w' hw' => (st_load (v := pv) ty31 rfl rfl (Bk.cell (Bk.pu hb5 hw') (i := 2) rfl))) rfl rfl rfl ?_
     refine wm_v rfl (fun _ => pc76) (fun w' hw' => (st_move (v := .int .i64 ((i : Int))) rfl)) rfl rfl rfl ?_
     refine wm_e rfl (fun _ => pc76) (st_idxI hpv ty31 ty3 rfl rfl (by omega) (by omega)) rfl rfl rfl ?_
     rintro _ ⟨a80, rfl, hc79⟩
     simp only [Int.toNat_natCast] at hc79
     refine wm_v rfl (fun _ => pc76) (fun w' hw' => (st_load ty3 rfl rfl (cell_pu hw' hc79))) rfl rfl rfl ?_
     refine wm_v rfl (fun _ => pc76) (fun w' hw' => (st_mul rfl rfl (by have t1 := at_bd out 12 (by omega) q1_2 ((mn : Int) - 1).toNat; have t2 := at_bd pl 12 (by omega) hpb i; have t3 := digitsL_at p hp mn a i (by omega); have t4 := mul_bd t1.1 t1.2 t2.1 t2.2; have t5 := mul_bd hkd.1 hkd.2 t3.1 t3.2; have t6 := mulSh_at out q1_2 i; have t7 := mulGo_getD p pl (digitsL p mn a) ((digitsL p mn b).getD ((digitsL p mn b).length - 1 - kk) 0) out i; omega) (by have t1 := at_bd out 12 (by omega) q1_2 ((mn : Int) - 1).toNat; have t2 := at_bd pl 12 (by omega) hpb i; have t3 := digitsL_at p hp mn a i (by omega); have t4 := mul_bd t1.1 t1.2 t2.1 t2.2; have t5 := mul_bd hkd.1 hkd.2 t3.1 t3.2; have t6 := mulSh_at out q1_2 i; have t7 := mulGo_getD p pl (digitsL p mn a) ((digitsL p mn b).getD ((digitsL p mn b).length - 1 - kk) 0) out i; omega))) rfl rfl rfl ?_
     refine wm_v rfl (fun _ => pc76) (fun w' hw' => (st_add rfl rfl (by have t1 := at_bd out 12 (by omega) q1_2 ((mn : Int) - 1).toNat; have t2 := at_bd pl 12 (by omega) hpb i; have t3 := digitsL_at p hp mn a i (by omega); have t4 := mul_bd t1.1 t1.2 t2.1 t2.2; have t5 := mul_bd hkd.1 hkd.2 t3.1 t3.2; have t6 := mulSh_at out q1_2 i; have t7 := mulGo_getD p pl (digitsL p mn a) ((digitsL p mn b).getD ((digitsL p mn b).length - 1 - kk) 0) out i; omega) (by have t1 := at_bd out 12 (by omega) q1_2 ((mn : Int) - 1).toNat; have t2 := at_bd pl 12 (by omega) hpb i; have t3 := digitsL_at p hp mn a i (by omega); have t4 := mul_bd t1.1 t1.2 t2.1 t2.2; have t5 := mul_bd hkd.1 hkd.2 t3.1 t3.2; have t6 := mulSh_at out q1_2 i; have t7 := mulGo_getD p pl (digitsL p mn a) ((digitsL p mn b).getD ((digitsL p mn b).length - 1 - kk) 0) out i; omega))) rfl rfl rfl ?_
     refine wm_v rfl (fun _ => pc76) (fun w' hw' => (st_move (v := .int .i64 ((digitsL (p) (mn) (b)).getD ((digitsL (p) (mn) (b)).length - 1 - kk) 0)) rfl)) rfl rfl rfl ?_
     refine wm_v rfl (fun _ => pc76) (fun w' hw' => (st_load (v := v11) ty31 rfl rfl (Bk.cell (Bk.pu hb18 hw') (i := 0) rfl))) rfl rfl rfl ?_
     refine wm_v rfl (fun _ => pc76) (fun w' hw' => (st_move (v := .int .i64 ((i : Int))) rfl)) rfl rfl rfl ?_
     refine wm_e rfl (fun _ => pc76) (st_idxI (Bl.sl hd10) ty31 ty3 rfl rfl (by omega) (by omega)) rfl rfl rfl ?_
     rintro _ ⟨a82, rfl, hc81⟩
     simp only [Int.toNat_natCast] at hc81
     refine wm_v rfl (fun _ => pc76) (fun w' hw' => (st_load ty3 rfl rfl (cell_pu hw' hc81))) rfl rfl rfl ?_
     refine wm_v rfl (fun _ => pc76) (fun w' hw' => (st_mul rfl rfl (by have t1 := at_bd out 12 (by omega) q1_2 ((mn : Int) - 1).toNat; have t2 := at_bd pl 12 (by omega) hpb i; have t3 := digitsL_at p hp mn a i (by omega); have t4 := mul_bd t1.1 t1.2 t2.1 t2.2; have t5 := mul_bd hkd.1 hkd.2 t3.1 t3.2; have t6 := mulSh_at out q1_2 i; have t7 := mulGo_getD p pl (digitsL p mn a) ((digitsL p mn b).getD ((digitsL p mn b).length - 1 - kk) 0) out i; omega) (by have t1 := at_bd out 12 (by omega) q1_2 ((mn : Int) - 1).toNat; have t2 := at_bd pl 12 (by omega) hpb i; have t3 := digitsL_at p hp mn a i (by omega); have t4 := mul_bd t1.1 t1.2 t2.1 t2.2; have t5 := mul_bd hkd.1 hkd.2 t3.1 t3.2; have t6 := mulSh_at out q1_2 i; have t7 := mulGo_getD p pl (digitsL p mn a) ((digitsL p mn b).getD ((digitsL p mn b).length - 1 - kk) 0) out i; omega))) rfl rfl rfl ?_
     refine wm_v rfl (fun _ => pc76) (fun w' hw' => (st_add rfl rfl (by have t1 := at_bd out 12 (by omega) q1_2 ((mn : Int) - 1).toNat; have t2 := at_bd pl 12 (by omega) hpb i; have t3 := digitsL_at p hp mn a i (by omega); have t4 := mul_bd t1.1 t1.2 t2.1 t2.2; have t5 := mul_bd hkd.1 hkd.2 t3.1 t3.2; have t6 := mulSh_at out q1_2 i; have t7 := mulGo_getD p pl (digitsL p mn a) ((digitsL p mn b).getD ((digitsL p mn b).length - 1 - kk) 0) out i; omega) (by have t1 := at_bd out 12 (by omega) q1_2 ((mn : Int) - 1).toNat; have t2 := at_bd pl 12 (by omega) hpb i; have t3 := digitsL_at p hp mn a i (by omega); have t4 := mul_bd t1.1 t1.2 t2.1 t2.2; have t5 := mul_bd hkd.1 hkd.2 t3.1 t3.2; have t6 := mulSh_at out q1_2 i; have t7 := mulGo_getD p pl (digitsL p mn a) ((digitsL p mn b).getD ((digitsL p mn b).length - 1 - kk) 0) out i; omega))) rfl rfl rfl ?_
     refine wm_v rfl (fun _ => pc76) (fun w' hw' => (st_fieldAddr ty121 (ft := 3) (off := 0) (by kernel_rfl) ty3 rfl)) rfl rfl rfl ?_
     refine wm_v rfl (fun _ => pc76) (fun w' hw' => (st_load (v := .int .i64 (p)) ty3 rfl rfl (Bk.cell (Bk.pu hb5 hw') (i := 0) rfl))) rfl rfl rfl ?_
     refine wm_v rfl (fun _ => pc76) (fun w' hw' => (st_rem rfl rfl (by have t1 := at_bd out 12 (by omega) q1_2 ((mn : Int) - 1).toNat; have t2 := at_bd pl 12 (by omega) hpb i; have t3 := digitsL_at p hp mn a i (by omega); have t4 := mul_bd t1.1 t1.2 t2.1 t2.2; have t5 := mul_bd hkd.1 hkd.2 t3.1 t3.2; have t6 := mulSh_at out q1_2 i; have t7 := mulGo_getD p pl (digitsL p mn a) ((digitsL p mn b).getD ((digitsL p mn b).length - 1 - kk) 0) out i; omega) (by have t1 := at_bd out 12 (by omega) q1_2 ((mn : Int) - 1).toNat; have t2 := at_bd pl 12 (by omega) hpb i; have t3 := digitsL_at p hp mn a i (by omega); have t4 := mul_bd t1.1 t1.2 t2.1 t2.2; have t5 := mul_bd hkd.1 hkd.2 t3.1 t3.2; have t6 := mulSh_at out q1_2 i; have t7 := mulGo_getD p pl (digitsL p mn a) ((digitsL p mn b).getD ((digitsL p mn b).length - 1 - kk) 0) out i; omega))) rfl rfl rfl ?_
     have hbdg86 : (i : Int) < (((mulGo p pl (digitsL p mn a) ((digitsL p mn b).getD ((digitsL p mn b).length - 1 - kk) 0) out i).length : Nat) : Int) := (by have h1 := mulGo_len p pl (digitsL p mn a) ((digitsL p mn b).getD ((digitsL p mn b).length - 1 - kk) 0) out i (by omega) (by omega); omega)
     refine wm_e rfl (fun _ => pc76) (st_idxB hb28 ty31 ty3 rfl rfl (by omega) hbdg86) rfl rfl rfl ?_
     rintro _ ⟨g86, rfl, hv85, hc83⟩
     try simp only [Int.toNat_natCast, Int.toNat_zero, Int.reduceToNat] at hc83 ⊢
     refine wm_tail (by decide) (fun _ => pc76) (fun j hj => by have hb : Nat.ble 25 j = true := (by rw [Nat.ble_eq]; omega); simp [hb]) ?_
     refine wl_storeB (q := ((((mulGo p pl (digitsL p mn a) ((digitsL p mn b).getD ((digitsL p mn b).length - 1 - kk) 0) out i).getD i 0) + (((out).getD ((mn : Int) - 1).toNat 0) * ((pl).getD i 0))) + (((digitsL (p) (mn) (b)).getD ((digitsL (p) (mn) (b)).length - 1 - kk) 0) * ((digitsL (p) (mn) (a)).getD i 0))) % p) hb28 ty3 rfl hv85 (by omega) rfl (fun _ _ => rfl) ?_
     intro w87 hb88 hg89 hs90
     have hown := Bl.own hb28 hv85
     have pw := pu_row pw hg89 (by intro q hq hlt; simp at hq; omega)
     have hpv := Rep.ch hpv hg89 (by intro q hq hlt; (try simp only [Lo, Iv]); simp at hq; omega)
     have hb5 := Bk.ch hb5 hg89 (by intro hq; have hlt := hb5.lt; simp at hq; omega)
     have hd10 := Bl.ch hd10 hg89 (by intro q hq hlt; simp at hq; omega)
     have hb18 := Bk.ch hb18 hg89 (by intro hq; have hlt := hb18.lt; simp at hq; omega)
     have hb34 := Bk.ch hb34 hg89 (by intro hq; have hlt := hb34.lt; simp at hq; omega)
     have hd40 := Bl.ch hd40 hg89 (by intro q hq hlt; simp at hq; omega)
     have hb45 := Bk.ch hb45 hg89 (by intro hq; have hlt := hb45.lt; simp at hq; omega)
     have hmk := Mk.ch hmk hg89 (by intro q hq hlt; simp at hq; omega)
     have hrec1 := RRch hRR1 hrec1 hg89 (by intro hq; simp at hq; omega)
     have hb28 := hb88
     try simp only [Int.toNat_natCast, Int.toNat_zero, Int.reduceToNat] at hb28
     refine wt_nil ?_
     refine wq_block_normal ?_
     refine wq_then ?_
     refine wc_region ?_
     refine wl_v (st_add rfl rfl (by omega) (by omega)) rfl rfl rfl ?_
     refine wl_v (st_move (v := .int .i64 ((i : Int) + 1)) rfl) rfl rfl rfl ?_
     refine wl_nil ?_
     refine wq_round (hI := ⟨i + 1, rfl, rfl, ?_, pw, hpv, hb5, hd10, hb18, (by have h := hb28; rw [mulGo_set p pl (digitsL p mn a) ((digitsL p mn b).getD ((digitsL p mn b).length - 1 - kk) 0) out i _ (by omega) (by omega) htop] at h; exact h), hb34, hd40, hb45, hmk, hrec1⟩) (hm := ?_) (hf := ?_) rfl rfl
     ·omega
     ·omega
     ·exact ⟨(by first | rfl | exact congrArg (Value.int _) (by omega) | go_num), (by first | rfl | exact congrArg (Value.int _) (by omega) | go_num), (by first | rfl | exact congrArg (Value.int _) (by omega) | go_num), (by first | rfl | exact congrArg (Value.int _) (by omega) | go_num), (by first | rfl | exact congrArg (Value.int _) (by omega) | go_num), (by first | rfl | exact congrArg (Value.int _) (by omega) | go_num), (by first | rfl | exact congrArg (Value.int _) (by omega) | go_num), (by first | rfl | exact congrArg (Value.int _) (by omega) | go_num), trivial⟩
    ·intro h73
     have h73p : ¬ ((i : Int) < (((((out).take (0 + 1)) ++ (((out).drop (0)).take (mn - 1)) ++ ((out).drop ((0 + 1) + (mn - 1)))).set 0 (0)).length : Int)) := by first | simpa using h73 | (simp at h73; omega)
     refine wc_exit ?_
     refine wq_then_exit ?_
     refine wq_then_exit ?_
     refine wq_block_exit ?_
     refine wq_block_normal ?_
     refine wq_roundEnd hRR1 hrec1 ?_
     intro w91 hg92 hs93 hrec1
     have pw := pu_row pw hg92 (by intro q hq hlt; injection hq with hq; omega)
     have hpv := Rep.ch hpv hg92 (by intro q hq hlt; injection hq with hq; (try simp only [Lo, Iv]); omega)
     have hb5 := Bk.ch hb5 hg92 (by intro hq; injection hq with hq; omega)
     have hd10 := Bl.ch hd10 hg92 (by intro q hq hlt; injection hq with hq; omega)
     have hb18 := Bk.ch hb18 hg92 (by intro hq; injection hq with hq; omega)
     have hb28 := Bl.ch hb28 hg92 (by intro q hq hlt; injection hq with hq; omega)
     have hb34 := Bk.ch hb34 hg92 (by intro hq; injection hq with hq; omega)
     have hd40 := Bl.ch hd40 hg92 (by intro q hq hlt; injection hq with hq; omega)
     have hb45 := Bk.ch hb45 hg92 (by intro hq; injection hq with hq; omega)
     have hmk := Mk.ch hmk hg92 (by intro q hq hlt; injection hq with hq; left; omega)
     refine ⟨(mulStep p pl (digitsL p mn a) ((digitsL p mn b).getD ((digitsL p mn b).length - 1 - kk) 0) out), ?_, ?_, ?_, hrec1, pw, hpv, hb5, hd10, hb18, (by have h := hb28; rw [show i = out.length by omega, mulGo_all _ _ _ _ _ (by omega)] at h; exact h), hb34, hd40, hb45, hmk⟩
     ·(rw [mulStep_len]; exact q1_1)
     ·(exact mulStep_bd p hp _ _ _ _)
     ·(rw [show (digitsL p mn b).length - (kk + 1) = (digitsL p mn b).length - 1 - kk by omega, drop_getD (digitsL p mn b) ((digitsL p mn b).length - 1 - kk) (by omega), List.foldr_cons, show (digitsL p mn b).length - 1 - kk + 1 = (digitsL p mn b).length - kk by omega, ← q1_3])
  case rest1 =>
   rintro _ w94 ⟨-, hIr⟩
   obtain ⟨kk, hkn, out, q1_1, q1_2, q1_3, hrec1, pw, hpv, hb5, hd10, hb18, hb28, hb34, hd40, hb45, hmk⟩ : ∃ kk : Nat, kk = (digitsL (p) (mn) (b)).length ∧ (fun (kk : Nat) (w' : World) => ∃ out : List Int, (out.length = mn) ∧ (∀ x ∈ out, 0 ≤ x ∧ x ≤ 12) ∧ (out = ((digitsL p mn b).drop ((digitsL p mn b).length - kk)).foldr (mulStep p pl (digitsL p mn a)) (List.replicate mn 0)) ∧ RR1 .ready w' ∧ w.grownBy w' none ∧ rI.R w' (Lo w.heap.size) (pv) (pl) ∧ Bk w' g1 121 [.int .i64 (p), .int .i64 ((mn : Int)), pv] ∧ Bl iR 3 w' (w2.heap.size) (w12.heap.size) (v11) (digitsL (p) (mn) (a)) ∧ Bk w' g14 31 [v11] ∧ Bl iR 3 w' (w20.heap.size) (w25.heap.size) (.slice (some ⟨g24, 0, none⟩) mn mn) (out) ∧ Bk w' g30 31 [.slice (some ⟨g24, 0, none⟩) mn mn] ∧ Bl iR 3 w' (w36.heap.size) (w42.heap.size) (v41) (digitsL (p) (mn) (b)) ∧ Bk w' g44 31 [v41] ∧ Mk w' (w48.heap.size) (lp1) ([mark w48.heap.size])) kk w94 := ⟨_, rfl, hIr⟩
   refine ⟨hrec1, ?_⟩
   intro w95 hg96 hs97
   have pw := pu_row pw hg96 (by intro q hq hlt; injection hq with hq; omega)
   have hpv := Rep.ch hpv hg96 (by intro q hq hlt; injection hq with hq; (try simp only [Lo, Iv]); omega)
   have hb5 := Bk.ch hb5 hg96 (by intro hq; injection hq with hq; omega)
   have hd10 := Bl.ch hd10 hg96 (by intro q hq hlt; injection hq with hq; omega)
   have hb18 := Bk.ch hb18 hg96 (by intro hq; injection hq with hq; omega)
   have hb28 := Bl.ch hb28 hg96 (by intro q hq hlt; injection hq with hq; omega)
   have hb34 := Bk.ch hb34 hg96 (by intro hq; injection hq with hq; omega)
   have hd40 := Bl.ch hd40 hg96 (by intro q hq hlt; injection hq with hq; omega)
   have hb45 := Bk.ch hb45 hg96 (by intro hq; injection hq with hq; omega)
   have hmk := Mk.ch hmk hg96 (by intro q hq hlt; injection hq with hq; left; omega)
   refine wq_block_normal ?_
   refine wq_then ?_
   refine wc_seq ?_
   refine wc_region ?_
   refine wl_v (st_loadAgg (cs := [.int .i64 (p), .int .i64 ((mn : Int)), pv]) ty121 rfl rfl rfl (Bk.cells hb5)) rfl rfl rfl ?_
   refine wl_v (st_load (v := .slice (some ⟨g24, 0, none⟩) mn mn) ty31 rfl rfl (Bk.cell hb34 (i := 0) rfl)) rfl rfl rfl ?_
   refine wl_call (vs := [.agg #[.int .i64 (p), .int .i64 ((mn : Int)), pv], .slice (some ⟨g24, 0, none⟩) mn mn]) C120 rfl rfl (number_ok (p) (mn) (pv) _ _ _ _ (by omega) (by omega) (fun x hx => by have := q1_2 x hx; omega) (Bl.sl hb28)) ?_
   rintro _ w98 ⟨rfl, hn99⟩
   have pw := pu_trans pw hn99
   have hpv := Rep.pu hpv hn99
   have hb5 := Bk.pu hb5 hn99
   have hd10 := Bl.pu hd10 hn99
   have hb18 := Bk.pu hb18 hn99
   have hb28 := Bl.pu hb28 hn99
   have hb34 := Bk.pu hb34 hn99
   have hd40 := Bl.pu hd40 hn99
   have hb45 := Bk.pu hb45 hn99
   have hmk := Mk.pu hmk hn99
   have hzw98 := World.grownBy.size hn99
   refine wl_v (st_assign (v := .int .i64 (numberL (p) (out))) rfl) rfl rfl rfl ?_
   refine wl_nil ?_
   refine wq_then ?_
   refine wc_ret ?_
   have hzw := World.grownBy.size pw
   refine wq_ret1M (v := .int .i64 (numberL (p) (out))) rfl hmk rfl ?_
   intro w100 hb101
   have pw := pu_below2 pw hb101 (by omega)
   have hpv := Rep.belowS hpv hb101 (by intro b hb1 hb2; simp only [Lo, Iv] at hb1; omega)
   have hd10 := Bl.below hd10 hb101 (by omega)
   have hb28 := Bl.below hb28 hb101 (by omega)
   have hd40 := Bl.below hd40 hb101 (by omega)
   exact ⟨congrArg (Value.int .i64) (by rw [mulL, if_neg (by omega), q1_3, hkn, Nat.sub_self, List.drop_zero]), pw⟩
theorem vr_rI {w : World} {Z : Nat → Prop} {pl : List Int} {pv : Value} (h : VR w Z [] (.sl 1 (pl.map cdI.enc)) pv) : rI.R w Z pv pl := by
 cases h with
 | sl hn hl hc hm ha hx =>
  rename_i c n A us
  rw [List.length_map] at hn hl
  have hat : ∀ (i : Nat) (u : Value) (x : Int), us[i]? = some u → pl[i]? = some x → u = .int .i64 x := fun i u x hu hx' =>
   (hx i (cdI.enc x) u (by rw [List.getElem?_map, hx']; rfl) hu).v_inv
  refine ⟨us, ⟨A, c, by rw [hl, hn], by omega, hm, fun h0 => ?_⟩, hl, hat⟩
  obtain ⟨a, h1, h2, h3, h4⟩ := ha (by omega)
  refine ⟨a, h1, h3, fun i u hu => ?_⟩
  have hi : i < pl.length := by have := (List.getElem?_eq_some_iff.1 hu).1; omega
  have e := hat i u pl[i] hu (List.getElem?_eq_getElem hi)
  have h5 := (h4 i u hu).2.2 0 u (by rw [e]; rfl)
  have e2 : a.add i = ⟨a.block, a.off + (i * 1 + 0), none⟩ := by
   cases a
   simp only at h2
   subst h2
   simp [Addr.add]
  rw [e2]
  exact h5
theorem fld_args {w : World} {Z : Nat → Prop} {us : List Value} {p m a b : Int} {pl : List Int} (hv : VRs w Z [] [.ag [cdI.enc p, cdI.enc m, (cdL 1 cdI).enc pl], cdI.enc a, cdI.enc b] us) : ∃ pv, us = [.agg #[.int .i64 p, .int .i64 m, pv], .int .i64 a, .int .i64 b] ∧ rI.R w Z pv pl := by
 obtain ⟨u1, r1, rfl, h1, hv⟩ := hv.head
 obtain ⟨u2, r2, rfl, h2, hv⟩ := hv.head
 obtain ⟨u3, r3, rfl, h3, hv⟩ := hv.head
 have : r3 = [] := List.eq_nil_of_length_eq_zero hv.len
 subst this
 rw [h2.v_inv, h3.v_inv]
 cases h1 with
 | ag hl hh hx =>
  rename_i us
  match us, hl, hx with
  | [v1, v2, v3], _, hx =>
   have e1 := (hx 0 _ v1 rfl rfl).v_inv
   have e2 := (hx 1 _ v2 rfl rfl).v_inv
   have e3 := hx 2 _ v3 rfl rfl
   refine ⟨v3, ?_, vr_rI e3⟩
   rw [e1, e2]
def evening_field_add (f : Int × Int × List Int) (a b : Int) : Option Int := if 2 ≤ f.1 ∧ f.1 ≤ 13 ∧ 0 ≤ f.2.1 ∧ f.2.1 ≤ 4 ∧ 0 ≤ a ∧ a ≤ 1000 ∧ 0 ≤ b ∧ b ≤ 1000 then some (addL f.1 f.2.1.toNat a b) else none
def cs_evening_field_add : Cs ((Int × Int × List Int) × Int × Int × Unit) := (csC (cdG3 cdI cdI (cdL 1 cdI) (fun _ => rfl) (fun _ => rfl) (fun _ => rfl)) (csC cdI (csC cdI csN)))
def er_evening_field_add (r : Int) : AV := cdI.enc r
def t_evening_field_add : List AV → Option AV := told cs_evening_field_add (fun a => evening_field_add a.1 a.2.1 a.2.2.1) er_evening_field_add
theorem x_evening_field_add : XOk 101 t_evening_field_add := by
 refine ⟨⟨Tryd.call101⟩, fun xs x h w Z us _ _ hv => ?_⟩
 obtain ⟨⟨⟨p, m, pl⟩, a, b, u⟩, ha, h⟩ := Option.bind_eq_some_iff.1 h
 obtain ⟨r, hb, rfl⟩ := Option.map_eq_some_iff.1 h
 obtain ⟨pv, rfl, _⟩ := fld_args (cs_evening_field_add.vr ha hv)
 simp only [evening_field_add] at hb
 split at hb
 ·next hc =>
  have hb := Option.some.inj hb
  subst hb
  have hm : m = ((m.toNat : Nat) : Int) := by omega
  have := add_ok p a b m.toNat pv w (by omega) (by omega) (by omega) (by omega)
  rw [← hm] at this
  exact Ret.mono this fun v w' h => ⟨h.2, by rw [h.1]; exact .v rfl⟩
 ·cases hb
def evening_field_mul (f : Int × Int × List Int) (a b : Int) : Option Int := if (2 ≤ f.1 ∧ f.1 ≤ 13 ∧ 1 ≤ f.2.1 ∧ f.2.1 ≤ 4 ∧ 0 ≤ a ∧ a ≤ 1000 ∧ 0 ≤ b ∧ b ≤ 1000) ∧ (f.2.2.length : Int) = f.2.1 ∧ (f.2.2.all fun x => decide (0 ≤ x) && decide (x ≤ 12)) = true then some (mulL f.1 f.2.1.toNat f.2.2 a b) else none
def cs_evening_field_mul : Cs ((Int × Int × List Int) × Int × Int × Unit) := (csC (cdG3 cdI cdI (cdL 1 cdI) (fun _ => rfl) (fun _ => rfl) (fun _ => rfl)) (csC cdI (csC cdI csN)))
def er_evening_field_mul (r : Int) : AV := cdI.enc r
def t_evening_field_mul : List AV → Option AV := told cs_evening_field_mul (fun a => evening_field_mul a.1 a.2.1 a.2.2.1) er_evening_field_mul
theorem x_evening_field_mul : XOk 97 t_evening_field_mul := by
 refine ⟨⟨Tryd.call97⟩, fun xs x h w Z us _ _ hv => ?_⟩
 obtain ⟨⟨⟨p, m, pl⟩, a, b, u⟩, ha, h⟩ := Option.bind_eq_some_iff.1 h
 obtain ⟨r, hb, rfl⟩ := Option.map_eq_some_iff.1 h
 obtain ⟨pv, rfl, hpv⟩ := fld_args (cs_evening_field_mul.vr ha hv)
 simp only [evening_field_mul] at hb
 split at hb
 ·next hc =>
  have hb := Option.some.inj hb
  subst hb
  obtain ⟨hc, hl, hall⟩ := hc
  have hm : m = ((m.toNat : Nat) : Int) := by omega
  have := mul_ok p a b m.toNat pv pl Z w (by omega) (by omega) (by omega) (by omega) (by omega) (fun x hx => by have := List.all_eq_true.1 hall x hx; simpa using this) hpv
  rw [← hm] at this
  exact Ret.mono this fun v w' h => ⟨h.2, by rw [h.1]; exact .v rfl⟩
 ·cases hb
theorem ints3 {w : World} {Z : Nat → Prop} {us : List Value} {a : Int × Int × Int × Unit} (hv : VRs w Z [] ((csC cdI (csC cdI (csC cdI csN))).enc a) us) : us = [.int .i64 a.1, .int .i64 a.2.1, .int .i64 a.2.2.1] := by
 obtain ⟨u1, r1, rfl, h1, hv⟩ := hv.head
 obtain ⟨u2, r2, rfl, h2, hv⟩ := hv.head
 obtain ⟨u3, r3, rfl, h3, hv⟩ := hv.head
 have : r3 = [] := List.eq_nil_of_length_eq_zero hv.len
 subst this
 rw [h1.v_inv, h2.v_inv, h3.v_inv]
set_option linter.unusedSimpArgs false
set_option linter.unusedVariables false
set_option linter.unusedSimpArgs false
set_option linter.unusedVariables false
set_option maxRecDepth 100000 in
theorem rdigits_ok (a p : Int) (m : Nat) (w : World) (hp : 2 ≤ p ∧ p ≤ 13) (hm : m ≤ 1000) (ha : 0 ≤ a ∧ a ≤ 9223372036854775807) : Ret Tryd.prog 123 #[.int .i64 a, .int .i64 p, .int .i64 (m : Int)] w fun v w' => w.grownBy w' none ∧ Bl iR 3 w' w.heap.size w'.heap.size v (digitsL p m a) := by
 refine ret_in Tryd.func123 rfl rfl rfl ?_
 have pw := pu_refl w
 refine wc_seq ?_
 refine wc_region ?_
 refine wl_v (st_assign (v := .slice none 0 0) rfl) rfl rfl rfl ?_
 refine wl_nil ?_
 refine wq_then ?_
 refine wc_seq ?_
 refine wc_region ?_
 refine wl_v (st_assign (v := .slice none 0 0) rfl) rfl rfl rfl ?_
 refine wl_nil ?_
 refine wq_then ?_
 refine wc_seq ?_
 refine wc_seq ?_
 refine wc_region ?_
 refine wl_v (st_assign (v := .int .i64 (0)) rfl) rfl rfl rfl ?_
 refine wl_nil ?_
 refine wq_then ?_
 refine wc_block ?_
 have hL : Bl iR 3 w w.heap.size w.heap.size (.slice none 0 0) [] := Bl.nil
 refine wc_loop (fun fl mm w' => ∃ k : Nat, ∃ ds : List Int, ∃ ak : Int, ∃ sv : Value, fl = [(0, .int .i64 (ak)), (1, .int .i64 (p)), (2, .int .i64 ((m : Int))), (6, .slice none 0 0), (7, sv), (8, .int .i64 ((k : Int)))] ∧ mm = m - k ∧ (k ≤ m) ∧ (ds.length = k) ∧ (ds ++ digitsL p (m - k) ak = digitsL p m a) ∧ (0 ≤ ak ∧ ak ≤ 9223372036854775807) ∧ w.grownBy w' none ∧ Bl iR 3 w' (w.heap.size) (w'.heap.size) (sv) (ds)) (h0 := ⟨0, [], a, (.slice none 0 0), rfl, rfl, ?_, ?_, ?_, ?_, pw, (Bl.nil)⟩) (hf := ⟨(by first | rfl | exact congrArg (Value.int _) (by omega) | go_num), (by first | rfl | exact congrArg (Value.int _) (by omega) | go_num), (by first | rfl | exact congrArg (Value.int _) (by omega) | go_num), (by first | rfl | exact congrArg (Value.int _) (by omega) | go_num), (by first | rfl | exact congrArg (Value.int _) (by omega) | go_num), (by first | rfl | exact congrArg (Value.int _) (by omega) | go_num), trivial⟩) ?_
 ·omega
 ·rfl
 ·rfl
 ·omega
 ·skip
  rintro _ _ w1 s2 ⟨k, ds, ak, sv, rfl, rfl, p1_1, p1_2, p1_3, p1_4, pw, hL⟩
  have hzp := World.grownBy.size pw
  refine wc_seq ?_
  refine wc_seq ?_
  refine wc_region ?_
  refine wl_v (st_move (v := .int .i64 ((k : Int))) rfl) rfl rfl rfl ?_
  refine wl_v (st_move (v := .int .i64 ((m : Int))) rfl) rfl rfl rfl ?_
  refine wl_v (st_lss rfl rfl) rfl rfl rfl ?_
  refine wl_nil ?_
  refine wq_then ?_
  refine wc_cond rfl ?_ ?_
  ·intro h3
   have h3p : (k : Int) < (m : Int) := by first | simpa using h3 | (simp at h3; omega)
   refine wc_skip ?_
   refine wq_then ?_
   refine wc_seq ?_
   refine wc_block ?_
   refine wc_seq ?_
   refine wc_region ?_
   refine wl_v (st_move (v := sv) rfl) rfl rfl rfl ?_
   refine wl_v (st_move (v := .int .i64 (ak)) rfl) rfl rfl rfl ?_
   refine wl_v (st_move (v := .int .i64 (p)) rfl) rfl rfl rfl ?_
   refine wl_v (st_rem rfl rfl (by omega) (by omega)) rfl rfl rfl ?_
   have hKEY := Bl.key hL
   refine wl_pushB hL (q := ak % p) rfl (by omega) ty31 ty3 rfl rfl rfl (by omega) (by omega) rfl rfl rfl ?_
   intro v5 w4 hb6 hg7 ho8 hs9
   have pw := pu_row pw hg7 (by intro q hq hlt; have hQ := ho8 _ hq; omega)
   have hL := hb6
   refine wl_v (st_assign (v := v5) rfl) rfl rfl rfl ?_
   refine wl_nil ?_
   refine wq_then ?_
   refine wc_region ?_
   refine wl_v (st_move (v := .int .i64 (ak)) rfl) rfl rfl rfl ?_
   refine wl_v (st_move (v := .int .i64 (p)) rfl) rfl rfl rfl ?_
   refine wl_v (st_quo rfl rfl (by omega) (by omega) (by omega)) rfl rfl rfl ?_
   refine wl_v (st_assign (v := .int .i64 (ak / p)) rfl) rfl rfl rfl ?_
   refine wl_nil ?_
   refine wq_block_normal ?_
   refine wq_then ?_
   refine wc_region ?_
   refine wl_v (st_move (v := .int .i64 ((k : Int))) rfl) rfl rfl rfl ?_
   refine wl_v (st_add rfl rfl (by omega) (by omega)) rfl rfl rfl ?_
   refine wl_v (st_assign (v := .int .i64 ((k : Int) + 1)) rfl) rfl rfl rfl ?_
   refine wl_nil ?_
   refine wq_round (hI := ⟨k + 1, ds ++ [ak % p], ak / p, v5, rfl, rfl, ?_, ?_, ?_, ?_, pw, (Bl.top hL (Nat.le_refl _))⟩) (hm := ?_) (hf := ?_) rfl rfl
   ·omega
   ·(simp; omega)
   ·(rw [show m - k = (m - (k + 1)) + 1 by omega, digitsL] at p1_3; rw [← p1_3]; simp)
   ·(have h1 := Int.ediv_nonneg p1_4.1 (show 0 ≤ p by omega); have h2 := Int.ediv_le_self p p1_4.1; omega)
   ·omega
   ·exact ⟨(by first | rfl | exact congrArg (Value.int _) (by omega) | go_num), (by first | rfl | exact congrArg (Value.int _) (by omega) | go_num), (by first | rfl | exact congrArg (Value.int _) (by omega) | go_num), (by first | rfl | exact congrArg (Value.int _) (by omega) | go_num), (by first | rfl | exact congrArg (Value.int _) (by omega) | go_num), (by first | rfl | exact congrArg (Value.int _) (by omega) | go_num), trivial⟩
  ·intro h3
   have h3p : ¬ ((k : Int) < (m : Int)) := by first | simpa using h3 | (simp at h3; omega)
   refine wc_exit ?_
   refine wq_then_exit ?_
   refine wq_then_exit ?_
   refine wq_block_exit ?_
   refine wq_then ?_
   refine wc_seq ?_
   refine wc_region ?_
   refine wl_v (st_move (v := sv) rfl) rfl rfl rfl ?_
   refine wl_v (st_assign (v := sv) rfl) rfl rfl rfl ?_
   refine wl_nil ?_
   refine wq_then ?_
   refine wc_ret ?_
   refine wq_ret1 (v := sv) rfl rfl rfl ?_
   have hk : m - k = 0 := by omega
   rw [hk, digitsL, List.append_nil] at p1_3
   rw [p1_3] at hL
   exact ⟨pw, hL.top (Nat.le_refl _)⟩
set_option maxRecDepth 100000 in
theorem rfield_ok (q : Int) (w : World) : Ret Tryd.prog 102 #[.int .i64 q] w fun v w' => w.grownBy w' none ∧ ∃ sv, v = .tuple #[.int .i64 (refField q).1, sv] ∧ rI.R w' (Lo w'.heap.size) sv (refField q).2 := by
 refine ret_in Tryd.func102 rfl rfl rfl ?_
 have pw := pu_refl w
 refine wc_seq ?_
 refine wc_region ?_
 refine wl_v (st_assign (v := .int .i64 (0)) rfl) rfl rfl rfl ?_
 refine wl_v (st_assign (v := .slice none 0 0) rfl) rfl rfl rfl ?_
 refine wl_nil ?_
 refine wq_then ?_
 refine wc_seq ?_
 refine wc_seq ?_
 refine wc_region ?_
 refine wl_v (st_move (v := .int .i64 (q)) rfl) rfl rfl rfl ?_
 refine wl_nil ?_
 refine wq_then ?_
 refine wc_block ?_
 refine wc_seq ?_
 refine wc_seq ?_
 refine wc_region ?_
 refine wl_v (st_eql rfl rfl) rfl rfl rfl ?_
 refine wl_v (st_assign (v := .bool (decide (q = 2))) rfl) rfl rfl rfl ?_
 refine wl_nil ?_
 refine wq_then ?_
 refine wc_cond rfl ?_ ?_
 ·intro h1
  have h1p : q = 2 := by first | simpa using h1 | (simp at h1; omega)
  refine wc_skip ?_
  refine wq_then ?_
  refine wc_true (by rw [← h1]; rfl) ?_
  refine wc_seq ?_
  refine wc_region ?_
  refine wl_v (st_move (v := .int .i64 (q)) rfl) rfl rfl rfl ?_
  refine wl_v (st_assign (v := .int .i64 (q)) rfl) rfl rfl rfl ?_
  refine wl_v (st_assign (v := .slice none 0 0) rfl) rfl rfl rfl ?_
  refine wl_nil ?_
  refine wq_then ?_
  refine wc_ret ?_
  refine wq_block_ret ?_
  refine wq_then_ret ?_
  refine wq_ret2 (v := .int .i64 (q)) (v' := .slice none 0 0) rfl rfl rfl rfl ?_
  refine ⟨pw, ?_⟩
  unfold refField
  rw [if_pos (by omega)]
  exact ⟨_, rfl, SlR.nil⟩
 ·intro h1
  have h1p : ¬ (q = 2) := by first | simpa using h1 | (simp at h1; omega)
  refine wc_seq ?_
  refine wc_region ?_
  refine wl_v (st_eql rfl rfl) rfl rfl rfl ?_
  refine wl_v (st_assign (v := .bool (decide (q = 3))) rfl) rfl rfl rfl ?_
  refine wl_nil ?_
  refine wq_then ?_
  refine wc_cond rfl ?_ ?_
  ·intro h2
   have h2p : q = 3 := by first | simpa using h2 | (simp at h2; omega)
   refine wc_skip ?_
   refine wq_then ?_
   refine wc_true (by rw [← h2]; rfl) ?_
   refine wc_seq ?_
   refine wc_region ?_
   refine wl_v (st_move (v := .int .i64 (q)) rfl) rfl rfl rfl ?_
   refine wl_v (st_assign (v := .int .i64 (q)) rfl) rfl rfl rfl ?_
   refine wl_v (st_assign (v := .slice none 0 0) rfl) rfl rfl rfl ?_
   refine wl_nil ?_
   refine wq_then ?_
   refine wc_ret ?_
   refine wq_block_ret ?_
   refine wq_then_ret ?_
   refine wq_ret2 (v := .int .i64 (q)) (v' := .slice none 0 0) rfl rfl rfl rfl ?_
   refine ⟨pw, ?_⟩
   unfold refField
   rw [if_pos (by omega)]
   exact ⟨_, rfl, SlR.nil⟩
  ·intro h2
   have h2p : ¬ (q = 3) := by first | simpa using h2 | (simp at h2; omega)
   refine wc_seq ?_
   refine wc_region ?_
   refine wl_v (st_eql rfl rfl) rfl rfl rfl ?_
   refine wl_v (st_assign (v := .bool (decide (q = 5))) rfl) rfl rfl rfl ?_
   refine wl_nil ?_
   refine wq_then ?_
   refine wc_cond rfl ?_ ?_
   ·intro h3
    have h3p : q = 5 := by first | simpa using h3 | (simp at h3; omega)
    refine wc_skip ?_
    refine wq_then ?_
    refine wc_true (by rw [← h3]; rfl) ?_
    refine wc_seq ?_
    refine wc_region ?_
    refine wl_v (st_move (v := .int .i64 (q)) rfl) rfl rfl rfl ?_
    refine wl_v (st_assign (v := .int .i64 (q)) rfl) rfl rfl rfl ?_
    refine wl_v (st_assign (v := .slice none 0 0) rfl) rfl rfl rfl ?_
    refine wl_nil ?_
    refine wq_then ?_
    refine wc_ret ?_
    refine wq_block_ret ?_
    refine wq_then_ret ?_
    refine wq_ret2 (v := .int .i64 (q)) (v' := .slice none 0 0) rfl rfl rfl rfl ?_
    refine ⟨pw, ?_⟩
    unfold refField
    rw [if_pos (by omega)]
    exact ⟨_, rfl, SlR.nil⟩
   ·intro h3
    have h3p : ¬ (q = 5) := by first | simpa using h3 | (simp at h3; omega)
    refine wc_seq ?_
    refine wc_region ?_
    refine wl_v (st_eql rfl rfl) rfl rfl rfl ?_
    refine wl_v (st_assign (v := .bool (decide (q = 7))) rfl) rfl rfl rfl ?_
    refine wl_nil ?_
    refine wq_then ?_
    refine wc_cond rfl ?_ ?_
    ·intro h4
     have h4p : q = 7 := by first | simpa using h4 | (simp at h4; omega)
     refine wc_skip ?_
     refine wq_then ?_
     refine wc_true (by rw [← h4]; rfl) ?_
     refine wc_seq ?_
     refine wc_region ?_
     refine wl_v (st_move (v := .int .i64 (q)) rfl) rfl rfl rfl ?_
     refine wl_v (st_assign (v := .int .i64 (q)) rfl) rfl rfl rfl ?_
     refine wl_v (st_assign (v := .slice none 0 0) rfl) rfl rfl rfl ?_
     refine wl_nil ?_
     refine wq_then ?_
     refine wc_ret ?_
     refine wq_block_ret ?_
     refine wq_then_ret ?_
     refine wq_ret2 (v := .int .i64 (q)) (v' := .slice none 0 0) rfl rfl rfl rfl ?_
     refine ⟨pw, ?_⟩
     unfold refField
     rw [if_pos (by omega)]
     exact ⟨_, rfl, SlR.nil⟩
    ·intro h4
     have h4p : ¬ (q = 7) := by first | simpa using h4 | (simp at h4; omega)
     refine wc_seq ?_
     refine wc_region ?_
     refine wl_v (st_eql rfl rfl) rfl rfl rfl ?_
     refine wl_v (st_assign (v := .bool (decide (q = 11))) rfl) rfl rfl rfl ?_
     refine wl_nil ?_
     refine wq_then ?_
     refine wc_cond rfl ?_ ?_
     ·intro h5
      have h5p : q = 11 := by first | simpa using h5 | (simp at h5; omega)
      refine wc_skip ?_
      refine wq_then ?_
      refine wc_true (by rw [← h5]; rfl) ?_
      refine wc_seq ?_
      refine wc_region ?_
      refine wl_v (st_move (v := .int .i64 (q)) rfl) rfl rfl rfl ?_
      refine wl_v (st_assign (v := .int .i64 (q)) rfl) rfl rfl rfl ?_
      refine wl_v (st_assign (v := .slice none 0 0) rfl) rfl rfl rfl ?_
      refine wl_nil ?_
      refine wq_then ?_
      refine wc_ret ?_
      refine wq_block_ret ?_
      refine wq_then_ret ?_
      refine wq_ret2 (v := .int .i64 (q)) (v' := .slice none 0 0) rfl rfl rfl rfl ?_
      refine ⟨pw, ?_⟩
      unfold refField
      rw [if_pos (by omega)]
      exact ⟨_, rfl, SlR.nil⟩
     ·intro h5
      have h5p : ¬ (q = 11) := by first | simpa using h5 | (simp at h5; omega)
      refine wc_region ?_
      refine wl_v (st_eql rfl rfl) rfl rfl rfl ?_
      refine wl_v (st_assign (v := .bool (decide (q = 13))) rfl) rfl rfl rfl ?_
      refine wl_nil ?_
      refine wq_then ?_
      refine wc_cond rfl ?_ ?_
      ·intro h6
       have h6p : q = 13 := by first | simpa using h6 | (simp at h6; omega)
       refine wc_seq ?_
       refine wc_region ?_
       refine wl_v (st_move (v := .int .i64 (q)) rfl) rfl rfl rfl ?_
       refine wl_v (st_assign (v := .int .i64 (q)) rfl) rfl rfl rfl ?_
       refine wl_v (st_assign (v := .slice none 0 0) rfl) rfl rfl rfl ?_
       refine wl_nil ?_
       refine wq_then ?_
       refine wc_ret ?_
       refine wq_block_ret ?_
       refine wq_then_ret ?_
       refine wq_ret2 (v := .int .i64 (q)) (v' := .slice none 0 0) rfl rfl rfl rfl ?_
       refine ⟨pw, ?_⟩
       unfold refField
       rw [if_pos (by omega)]
       exact ⟨_, rfl, SlR.nil⟩
      ·intro h6
       have h6p : ¬ (q = 13) := by first | simpa using h6 | (simp at h6; omega)
       refine wc_seq ?_
       refine wc_region ?_
       refine wl_v (st_eql rfl rfl) rfl rfl rfl ?_
       refine wl_v (st_assign (v := .bool (decide (q = 4))) rfl) rfl rfl rfl ?_
       refine wl_nil ?_
       refine wq_then ?_
       refine wc_cond rfl ?_ ?_
       ·intro h7
        have h7p : q = 4 := by first | simpa using h7 | (simp at h7; omega)
        refine wc_seq ?_
        refine wc_region ?_
        refine wl_lit (r := iR) (lo := w.heap.size) (us := [.int .i64 (1), .int .i64 (1), .int .i64 (1)]) (xs := [1, 1, 1]) ty31 ty3 rfl rfl rfl (by decide) ⟨rfl, ⟨rfl, ⟨rfl, trivial⟩⟩⟩ (by omega) rfl ?_
        intro w9 g8 hg10 hs11 hb12 hn13
        have pw := pu_trans pw hn13
        refine wl_v (st_assign (v := .int .i64 (2)) rfl) rfl rfl rfl ?_
        refine wl_v (st_assign (v := .slice (some ⟨g8, 0, none⟩) 3 3) rfl) rfl rfl rfl ?_
        refine wl_nil ?_
        refine wq_then ?_
        refine wc_ret ?_
        refine wq_block_ret ?_
        refine wq_then_ret ?_
        refine wq_ret2 (v := .int .i64 (2)) (v' := .slice (some ⟨g8, 0, none⟩) 3 3) rfl rfl rfl rfl ?_
        refine ⟨pw, ?_⟩
        unfold refField
        rw [if_neg (by omega)]
        rw [if_pos (by omega)]
        exact ⟨_, rfl, rI.mono (rI.lt (Bl.sl hb12)) fun b hb => hb.2⟩
       ·intro h7
        have h7p : ¬ (q = 4) := by first | simpa using h7 | (simp at h7; omega)
        refine wc_seq ?_
        refine wc_region ?_
        refine wl_v (st_eql rfl rfl) rfl rfl rfl ?_
        refine wl_v (st_assign (v := .bool (decide (q = 8))) rfl) rfl rfl rfl ?_
        refine wl_nil ?_
        refine wq_then ?_
        refine wc_cond rfl ?_ ?_
        ·intro h14
         have h14p : q = 8 := by first | simpa using h14 | (simp at h14; omega)
         refine wc_seq ?_
         refine wc_region ?_
         refine wl_lit (r := iR) (lo := w.heap.size) (us := [.int .i64 (1), .int .i64 (1), .int .i64 (0), .int .i64 (1)]) (xs := [1, 1, 0, 1]) ty31 ty3 rfl rfl rfl (by decide) ⟨rfl, ⟨rfl, ⟨rfl, ⟨rfl, trivial⟩⟩⟩⟩ (by omega) rfl ?_
         intro w16 g15 hg17 hs18 hb19 hn20
         have pw := pu_trans pw hn20
         refine wl_v (st_assign (v := .int .i64 (2)) rfl) rfl rfl rfl ?_
         refine wl_v (st_assign (v := .slice (some ⟨g15, 0, none⟩) 4 4) rfl) rfl rfl rfl ?_
         refine wl_nil ?_
         refine wq_then ?_
         refine wc_ret ?_
         refine wq_block_ret ?_
         refine wq_then_ret ?_
         refine wq_ret2 (v := .int .i64 (2)) (v' := .slice (some ⟨g15, 0, none⟩) 4 4) rfl rfl rfl rfl ?_
         refine ⟨pw, ?_⟩
         unfold refField
         rw [if_neg (by omega)]
         rw [if_neg (by omega)]
         rw [if_pos (by omega)]
         exact ⟨_, rfl, rI.mono (rI.lt (Bl.sl hb19)) fun b hb => hb.2⟩
        ·intro h14
         have h14p : ¬ (q = 8) := by first | simpa using h14 | (simp at h14; omega)
         refine wc_seq ?_
         refine wc_region ?_
         refine wl_v (st_eql rfl rfl) rfl rfl rfl ?_
         refine wl_v (st_assign (v := .bool (decide (q = 9))) rfl) rfl rfl rfl ?_
         refine wl_nil ?_
         refine wq_then ?_
         refine wc_cond rfl ?_ ?_
         ·intro h21
          have h21p : q = 9 := by first | simpa using h21 | (simp at h21; omega)
          refine wc_seq ?_
          refine wc_region ?_
          refine wl_lit (r := iR) (lo := w.heap.size) (us := [.int .i64 (1), .int .i64 (0), .int .i64 (1)]) (xs := [1, 0, 1]) ty31 ty3 rfl rfl rfl (by decide) ⟨rfl, ⟨rfl, ⟨rfl, trivial⟩⟩⟩ (by omega) rfl ?_
          intro w23 g22 hg24 hs25 hb26 hn27
          have pw := pu_trans pw hn27
          refine wl_v (st_assign (v := .int .i64 (3)) rfl) rfl rfl rfl ?_
          refine wl_v (st_assign (v := .slice (some ⟨g22, 0, none⟩) 3 3) rfl) rfl rfl rfl ?_
          refine wl_nil ?_
          refine wq_then ?_
          refine wc_ret ?_
          refine wq_block_ret ?_
          refine wq_then_ret ?_
          refine wq_ret2 (v := .int .i64 (3)) (v' := .slice (some ⟨g22, 0, none⟩) 3 3) rfl rfl rfl rfl ?_
          refine ⟨pw, ?_⟩
          unfold refField
          rw [if_neg (by omega)]
          rw [if_neg (by omega)]
          rw [if_neg (by omega)]
          rw [if_pos (by omega)]
          exact ⟨_, rfl, rI.mono (rI.lt (Bl.sl hb26)) fun b hb => hb.2⟩
         ·intro h21
          have h21p : ¬ (q = 9) := by first | simpa using h21 | (simp at h21; omega)
          refine wc_seq ?_
          refine wc_region ?_
          refine wl_v (st_eql rfl rfl) rfl rfl rfl ?_
          refine wl_v (st_assign (v := .bool (decide (q = 16))) rfl) rfl rfl rfl ?_
          refine wl_nil ?_
          refine wq_then ?_
          refine wc_cond rfl ?_ ?_
          ·intro h28
           have h28p : q = 16 := by first | simpa using h28 | (simp at h28; omega)
           refine wc_seq ?_
           refine wc_region ?_
           refine wl_lit (r := iR) (lo := w.heap.size) (us := [.int .i64 (1), .int .i64 (1), .int .i64 (0), .int .i64 (0), .int .i64 (1)]) (xs := [1, 1, 0, 0, 1]) ty31 ty3 rfl rfl rfl (by decide) ⟨rfl, ⟨rfl, ⟨rfl, ⟨rfl, ⟨rfl, trivial⟩⟩⟩⟩⟩ (by omega) rfl ?_
           intro w30 g29 hg31 hs32 hb33 hn34
           have pw := pu_trans pw hn34
           refine wl_v (st_assign (v := .int .i64 (2)) rfl) rfl rfl rfl ?_
           refine wl_v (st_assign (v := .slice (some ⟨g29, 0, none⟩) 5 5) rfl) rfl rfl rfl ?_
           refine wl_nil ?_
           refine wq_then ?_
           refine wc_ret ?_
           refine wq_block_ret ?_
           refine wq_then_ret ?_
           refine wq_ret2 (v := .int .i64 (2)) (v' := .slice (some ⟨g29, 0, none⟩) 5 5) rfl rfl rfl rfl ?_
           refine ⟨pw, ?_⟩
           unfold refField
           rw [if_neg (by omega)]
           rw [if_neg (by omega)]
           rw [if_neg (by omega)]
           rw [if_neg (by omega)]
           rw [if_pos (by omega)]
           exact ⟨_, rfl, rI.mono (rI.lt (Bl.sl hb33)) fun b hb => hb.2⟩
          ·intro h28
           have h28p : ¬ (q = 16) := by first | simpa using h28 | (simp at h28; omega)
           refine wc_skip ?_
           refine wq_block_normal ?_
           refine wq_then ?_
           refine wc_seq ?_
           refine wc_region ?_
           refine wl_v (st_assign (v := .int .i64 (0)) rfl) rfl rfl rfl ?_
           refine wl_v (st_assign (v := .slice none 0 0) rfl) rfl rfl rfl ?_
           refine wl_nil ?_
           refine wq_then ?_
           refine wc_ret ?_
           refine wq_ret2 (v := .int .i64 (0)) (v' := .slice none 0 0) rfl rfl rfl rfl ?_
           refine ⟨pw, ?_⟩
           unfold refField
           rw [if_neg (by omega)]
           rw [if_neg (by omega)]
           rw [if_neg (by omega)]
           rw [if_neg (by omega)]
           rw [if_neg (by omega)]
           exact ⟨_, rfl, SlR.nil⟩
set_option maxRecDepth 100000 in
theorem rnumber_ok (dv : Value) (d : List Int) (S : Nat → Prop) (p : Int) (m : Nat) (w : World) (hp : 2 ≤ p ∧ p ≤ 13) (hm : m ≤ 4) (hdl : m ≤ d.length) (hdb : ∀ x ∈ d, 0 ≤ x ∧ x ≤ 12) (hd : rI.R w S dv d) : Ret Tryd.prog 124 #[dv, .int .i64 p, .int .i64 (m : Int)] w fun v w' => v = .int .i64 (refNum p (d.take m)) ∧ w.grownBy w' none := by
 refine ret_in Tryd.func124 rfl rfl rfl ?_
 have pw := pu_refl w
 refine wc_seq ?_
 refine wc_region ?_
 refine wl_v (st_assign (v := .int .i64 (0)) rfl) rfl rfl rfl ?_
 refine wl_nil ?_
 refine wq_then ?_
 refine wc_seq ?_
 refine wc_region ?_
 refine wl_v (st_assign (v := .int .i64 (0)) rfl) rfl rfl rfl ?_
 refine wl_v (st_assign (v := .int .i64 (1)) rfl) rfl rfl rfl ?_
 refine wl_nil ?_
 refine wq_then ?_
 refine wc_seq ?_
 refine wc_seq ?_
 refine wc_region ?_
 refine wl_v (st_assign (v := .int .i64 (0)) rfl) rfl rfl rfl ?_
 refine wl_nil ?_
 refine wq_then ?_
 refine wc_block ?_
 refine wc_loop (fun fl mm w' => ∃ i : Nat, ∃ nn : Int, ∃ po : Int, fl = [(0, dv), (1, .int .i64 (p)), (2, .int .i64 ((m : Int))), (6, .int .i64 (0)), (7, .int .i64 (nn)), (8, .int .i64 (po)), (9, .int .i64 ((i : Int)))] ∧ mm = m - i ∧ (i ≤ m) ∧ (0 ≤ nn ∧ nn ≤ 342732 * (i : Int)) ∧ (po = p ^ i) ∧ (nn + po * refNum p ((d.take m).drop i) = refNum p (d.take m)) ∧ w.grownBy w' none ∧ rI.R w' (S) (dv) (d)) (h0 := ⟨0, 0, 1, rfl, rfl, ?_, ?_, ?_, ?_, pw, hd⟩) (hf := ⟨(by first | rfl | exact congrArg (Value.int _) (by omega) | go_num), (by first | rfl | exact congrArg (Value.int _) (by omega) | go_num), (by first | rfl | exact congrArg (Value.int _) (by omega) | go_num), (by first | rfl | exact congrArg (Value.int _) (by omega) | go_num), (by first | rfl | exact congrArg (Value.int _) (by omega) | go_num), (by first | rfl | exact congrArg (Value.int _) (by omega) | go_num), (by first | rfl | exact congrArg (Value.int _) (by omega) | go_num), trivial⟩) ?_
 ·omega
 ·omega
 ·(simp)
 ·(simp)
 ·skip
  rintro _ _ w1 s2 ⟨i, nn, po, rfl, rfl, p1_1, p1_2, p1_3, p1_4, pw, hd⟩
  have hpb := pow_le4 p hp i (by omega)
  have hp0 : 0 ≤ p ^ i := Int.pow_nonneg (by omega)
  rw [← p1_3] at hpb hp0
  have hdi := at_bd d 12 (by omega) hdb i
  have hmm := mul_bd hdi.1 hdi.2 hp0 hpb
  have hmp := mul_bd hp0 hpb (show 0 ≤ p by omega) hp.2
  refine wc_seq ?_
  refine wc_seq ?_
  refine wc_region ?_
  refine wl_v (st_move (v := .int .i64 ((i : Int))) rfl) rfl rfl rfl ?_
  refine wl_v (st_move (v := .int .i64 ((m : Int))) rfl) rfl rfl rfl ?_
  refine wl_v (st_lss rfl rfl) rfl rfl rfl ?_
  refine wl_nil ?_
  refine wq_then ?_
  refine wc_cond rfl ?_ ?_
  ·intro h3
   have h3p : (i : Int) < (m : Int) := by first | simpa using h3 | (simp at h3; omega)
   refine wc_skip ?_
   refine wq_then ?_
   refine wc_seq ?_
   refine wc_block ?_
   refine wc_seq ?_
   refine wc_region ?_
   refine wl_v (st_move (v := .int .i64 (nn)) rfl) rfl rfl rfl ?_
   refine wl_v (st_move (v := dv) rfl) rfl rfl rfl ?_
   refine wl_v (st_move (v := .int .i64 ((i : Int))) rfl) rfl rfl rfl ?_
   refine wl_e (st_idxI hd ty31 ty3 rfl rfl (by omega) (by omega)) rfl rfl rfl ?_
   rintro _ ⟨a5, rfl, hc4⟩
   simp only [Int.toNat_natCast] at hc4
   refine wl_v (st_load ty3 rfl rfl hc4) rfl rfl rfl ?_
   refine wl_v (st_move (v := .int .i64 (po)) rfl) rfl rfl rfl ?_
   refine wl_v (st_mul rfl rfl (by omega) (by omega)) rfl rfl rfl ?_
   refine wl_v (st_add rfl rfl (by omega) (by omega)) rfl rfl rfl ?_
   refine wl_v (st_assign (v := .int .i64 (nn + (((d).getD i 0) * po))) rfl) rfl rfl rfl ?_
   refine wl_nil ?_
   refine wq_then ?_
   refine wc_region ?_
   refine wl_v (st_move (v := .int .i64 (po)) rfl) rfl rfl rfl ?_
   refine wl_v (st_move (v := .int .i64 (p)) rfl) rfl rfl rfl ?_
   refine wl_v (st_mul rfl rfl (by omega) (by omega)) rfl rfl rfl ?_
   refine wl_v (st_assign (v := .int .i64 (po * p)) rfl) rfl rfl rfl ?_
   refine wl_nil ?_
   refine wq_block_normal ?_
   refine wq_then ?_
   refine wc_region ?_
   refine wl_v (st_move (v := .int .i64 ((i : Int))) rfl) rfl rfl rfl ?_
   refine wl_v (st_add rfl rfl (by omega) (by omega)) rfl rfl rfl ?_
   refine wl_v (st_assign (v := .int .i64 ((i : Int) + 1)) rfl) rfl rfl rfl ?_
   refine wl_nil ?_
   refine wq_round (hI := ⟨i + 1, (nn + d.getD i 0 * po), (po * p), rfl, rfl, ?_, ?_, ?_, ?_, pw, hd⟩) (hm := ?_) (hf := ?_) rfl rfl
   ·omega
   ·omega
   ·(rw [Int.pow_succ, p1_3])
   ·(rw [refNum_drop p (d.take m) i (by simp; omega), Int.mul_add] at p1_4; rw [← p1_4, show (d.take m).getD i 0 = d.getD i 0 by (rw [List.getD_eq_getElem?_getD, List.getElem?_take_of_lt (by omega), List.getD_eq_getElem?_getD]), Int.mul_assoc, Int.mul_comm po (d.getD i 0)]; omega)
   ·omega
   ·exact ⟨(by first | rfl | exact congrArg (Value.int _) (by omega) | go_num), (by first | rfl | exact congrArg (Value.int _) (by omega) | go_num), (by first | rfl | exact congrArg (Value.int _) (by omega) | go_num), (by first | rfl | exact congrArg (Value.int _) (by omega) | go_num), (by first | rfl | exact congrArg (Value.int _) (by omega) | go_num), (by first | rfl | exact congrArg (Value.int _) (by omega) | go_num), (by first | rfl | exact congrArg (Value.int _) (by omega) | go_num), trivial⟩
  ·intro h3
   have h3p : ¬ ((i : Int) < (m : Int)) := by first | simpa using h3 | (simp at h3; omega)
   refine wc_exit ?_
   refine wq_then_exit ?_
   refine wq_then_exit ?_
   refine wq_block_exit ?_
   refine wq_then ?_
   refine wc_seq ?_
   refine wc_region ?_
   refine wl_v (st_move (v := .int .i64 (nn)) rfl) rfl rfl rfl ?_
   refine wl_v (st_assign (v := .int .i64 (nn)) rfl) rfl rfl rfl ?_
   refine wl_nil ?_
   refine wq_then ?_
   refine wc_ret ?_
   refine wq_ret1 (v := .int .i64 (nn)) rfl rfl rfl ?_
   exact ⟨congrArg (Value.int .i64) (by rw [show i = m by omega, List.drop_of_length_le (by simp; omega), refNum, Int.mul_zero] at p1_4; omega), pw⟩
end Go.Proofs.YtcmgmkepodbpkaaDoor
