/- Lemmas for the proof. -/
import Derived.Test.YtcmgmkepodbpkaaDoorEveningPlansM1
import Derived.Test.YtcmgmkepodbpkaaDoorEveningPlansM2
import Derived.Test.YtcmgmkepodbpkaaDoorEveningPlansM3
import Derived.Test.YtcmgmkepodbpkaaDoorEveningPlansM4
import Derived.Test.YtcmgmkepodbpkaaDoorProg
import Derived.Laws.CopyOwn
import Derived.Laws.Slices
import Derived.Laws.StructEq
namespace Go.Proofs.YtcmgmkepodbpkaaDoor
open Go.RowKit
/- trestle/trestleref09.Plan -/
noncomputable def e_ref09_Plan : Env := ((((E0.withX 74 t_ref09_Fit).withX 75 t_ref09_times).withX 76 t_ref09_has).withX 77 t_ref09_before)
theorem e_ref09_Plan_ok : EnvOk e_ref09_Plan := (EnvOk.withX (EnvOk.withX (EnvOk.withX (EnvOk.withX E0_ok x_ref09_Fit.1 x_ref09_Fit.2) x_ref09_times.1 x_ref09_times.2) x_ref09_has.1 x_ref09_has.2) x_ref09_before.1 x_ref09_before.2)
noncomputable def cb_ref09_Plan : Code := codeOf Tryd.f22
def ref09_Plan_5 (x0 : Int) (x1 : (List Int)) (x2 : Int) (c6 : (List (List (List Int)))) (c7 : Int) (c9 : (List (List Int))) (c10 : Int) (c12 : (List Int)) (c15 : Int) (c16 : Int) (c17 : Int) (c18 : Int) : Nat → Int → Int → Int → Option ((Int × Int))
  | 0, _, _, _ => none
  | f + 1, c29, c30, c31 =>
    if (decide (c31 < (c12.length : Int))) = true then
    (idx c12 c31).bind fun v33 =>
    (ref09_before c6 c18 v33).bind fun v34 =>
    ref09_Plan_5 x0 x1 x2 c6 c7 c9 c10 c12 c15 c16 c17 c18 f (mxI c29 v34) (wr .i64 (c30 + v34)) (wr .i64 (c31 + 1))
    else
    some (c29, c30)
def ref09_Plan_j6 (x0 : Int) (x1 : (List Int)) (x2 : Int) (c6 : (List (List (List Int)))) (c7 : Int) (c9 : (List (List Int))) (c10 : Int) (c12 : (List Int)) (c15 : Int) (c16 : Int) (c17 : Int) (c18 : Int) (r37 : Int × Int) (j43 : Bool) : Option ((Int × Int × Int)) :=
  if j43 = true then
  some (c18, r37.1, r37.2)
  else
  some (c15, c16, c17)
def ref09_Plan_4 (x0 : Int) (x1 : (List Int)) (x2 : Int) (c6 : (List (List (List Int)))) (c7 : Int) (c9 : (List (List Int))) (c10 : Int) (c12 : (List Int)) : Nat → Int → Int → Int → Int → Option ((Int))
  | 0, _, _, _, _ => none
  | f + 1, c15, c16, c17, c18 =>
    if (decide (c18 < x0)) = true then
    (ref09_times c9 c18).bind fun v20 =>
    (if (decide (v20 > 0)) = true then some true else (ref09_has c12 c18).bind fun v21 =>
    some v21).bind fun j27 =>
    if j27 = true then
    ref09_Plan_4 x0 x1 x2 c6 c7 c9 c10 c12 f c15 c16 c17 (wr .i64 (c18 + 1))
    else
    (ref09_Plan_5 x0 x1 x2 c6 c7 c9 c10 c12 c15 c16 c17 c18 100000 0 0 0).bind fun r37 =>
    (if (decide (c15 < 0)) = true then some true else if (decide (r37.1 < c16)) = true then some true else if (r37.1 == c16) = true then some (decide (r37.2 < c17)) else some false).bind fun j43 =>
    (ref09_Plan_j6 x0 x1 x2 c6 c7 c9 c10 c12 c15 c16 c17 c18 r37 j43).bind fun r48 =>
    ref09_Plan_4 x0 x1 x2 c6 c7 c9 c10 c12 f r48.1 r48.2.1 r48.2.2 (wr .i64 (c18 + 1))
    else
    some c15
def ref09_Plan_3 (x0 : Int) (x1 : (List Int)) (x2 : Int) (c6 : (List (List (List Int)))) (c7 : Int) (c9 : (List (List Int))) (c10 : Int) : Nat → (List Int) → Option (((List Int)))
  | 0, _ => none
  | f + 1, c12 =>
    (idx x1 c10).bind fun v13 =>
    if (decide ((c12.length : Int) < v13)) = true then
    (ref09_Plan_4 x0 x1 x2 c6 c7 c9 c10 c12 100000 (-1) 0 0 0).bind fun r54 =>
    if (capOk 8 (c12.length + 1)) = true then
    ref09_Plan_3 x0 x1 x2 c6 c7 c9 c10 f (c12 ++ [r54])
    else none
    else
    some c12
def ref09_Plan_2 (x0 : Int) (x1 : (List Int)) (x2 : Int) (c6 : (List (List (List Int)))) (c7 : Int) : Nat → (List (List Int)) → Int → Option (((List (List Int))))
  | 0, _, _ => none
  | f + 1, c9, c10 =>
    if (decide (c10 < (x1.length : Int))) = true then
    (ref09_Plan_3 x0 x1 x2 c6 c7 c9 c10 100000 []).bind fun r57 =>
    if (capOk 24 (c9.length + 1)) = true then
    ref09_Plan_2 x0 x1 x2 c6 c7 f (c9 ++ [r57]) (wr .i64 (c10 + 1))
    else none
    else
    some c9
def ref09_Plan_1 (x0 : Int) (x1 : (List Int)) (x2 : Int) : Nat → (List (List (List Int))) → Int → Option (((List (List (List Int)))))
  | 0, _, _ => none
  | f + 1, c6, c7 =>
    if (decide (c7 < x2)) = true then
    (ref09_Plan_2 x0 x1 x2 c6 c7 100000 [] 0).bind fun r60 =>
    if (capOk 24 (c6.length + 1)) = true then
    ref09_Plan_1 x0 x1 x2 f (c6 ++ [r60]) (wr .i64 (c7 + 1))
    else none
    else
    some c6
def ref09_Plan (x0 : Int) (x1 : (List Int)) (x2 : Int) : Option ((List (List (List Int))) × Int) :=
  (ref09_Fit x0 x1).bind fun v1 =>
  if (!v1) = true then
  some ([], 90)
  else
  (if (decide (x2 < 0)) = true then some true else some (decide (x2 > 64))).bind fun j4 =>
  if j4 = true then
  some ([], 2)
  else
  (ref09_Plan_1 x0 x1 x2 100000 [] 0).bind fun r63 =>
  some (r63, 0)
def cs_ref09_Plan : Cs (Int × (List Int) × Int × Unit) := (csC cdI (csC (cdL 1 cdI) (csC cdI csN)))
def er_ref09_Plan (r : (List (List (List Int))) × Int) : AV := .tp [(cdL 1 (cdL 1 (cdL 1 cdI))).enc r.1, cdI.enc r.2]
set_option maxHeartbeats 4000000 in
set_option maxRecDepth 100000 in
theorem ref09_Plan_5_ok (x0 : Int) (x1 : (List Int)) (x2 : Int) (c6 : (List (List (List Int)))) (c7 : Int) (c9 : (List (List Int))) (c10 : Int) (c12 : (List Int)) (c15 : Int) (c16 : Int) (c17 : Int) (c18 : Int) : ∀ (f : Nat) (c29 : Int) (c30 : Int) (c31 : Int) (r : (Int × Int)), ref09_Plan_5 x0 x1 x2 c6 c7 c9 c10 c12 c15 c16 c17 c18 f c29 c30 c31 = some r → SemN e_ref09_Plan ⟨none, false⟩ (pc cb_ref09_Plan [1, 1, 1, 1, 0, 1, 0, 0, 1, 0, 0, 1, 0, 1, 0, 0, 1, 0, 0, 1, 0, 0, 0, 1, 0, 1, 0, 1, 0, 0, 1, 0, 0, 1, 1, 0, 1, 0, 0]) f ⟨Fr 115 [(0, .v (.int .i64 x0)), (1, .sl 1 (x1.map cdI.enc)), (2, .v (.int .i64 x2)), (8, hd 0 (c6.map (cdL 1 (cdL 1 cdI)).enc)), (9, .v (.int .i64 c7)), (10, hd 1 (c9.map (cdL 1 cdI).enc)), (11, .v (.int .i64 c10)), (12, hd 2 (c12.map cdI.enc)), (13, .v (.int .i64 c15)), (14, .v (.int .i64 c16)), (15, .v (.int .i64 c17)), (16, .v (.int .i64 c18)), (17, .v (.int .i64 c29)), (18, .v (.int .i64 c30)), (19, .v (.int .i64 c31))], [mk 1 50 (c6.map (cdL 1 (cdL 1 cdI)).enc), mk 1 31 (c9.map (cdL 1 cdI).enc), mk 1 3 (c12.map cdI.enc)]⟩ (fun e s => e = (.exit 8) ∧ Wk e_ref09_Plan s ⟨Fr 115 [(0, .v (.int .i64 x0)), (1, .sl 1 (x1.map cdI.enc)), (2, .v (.int .i64 x2)), (8, hd 0 (c6.map (cdL 1 (cdL 1 cdI)).enc)), (9, .v (.int .i64 c7)), (10, hd 1 (c9.map (cdL 1 cdI).enc)), (11, .v (.int .i64 c10)), (12, hd 2 (c12.map cdI.enc)), (13, .v (.int .i64 c15)), (14, .v (.int .i64 c16)), (15, .v (.int .i64 c17)), (16, .v (.int .i64 c18)), (17, .v (.int .i64 r.1)), (18, .v (.int .i64 r.2))], [mk 1 50 (c6.map (cdL 1 (cdL 1 cdI)).enc), mk 1 31 (c9.map (cdL 1 cdI).enc), mk 1 3 (c12.map cdI.enc)]⟩) := by
  intro f
  induction f with
  | zero => intro c29 c30 c31 r h; cases h
  | succ f ih0 =>
    intro c29 c30 c31 r h
    have ih := fun (c29 : Int) (c30 : Int) (c31 : Int) => ih0 c29 c30 c31 r
    unfold ref09_Plan_5 at h
    refine SemN.succ ?_
    refine Sem.seq ?_
    refine Sem.seq ?_
    refine Sem.runS (s1 := ⟨Fr 115 [(0, .v (.int .i64 x0)), (1, .sl 1 (x1.map cdI.enc)), (2, .v (.int .i64 x2)), (8, hd 0 (c6.map (cdL 1 (cdL 1 cdI)).enc)), (9, .v (.int .i64 c7)), (10, hd 1 (c9.map (cdL 1 cdI).enc)), (11, .v (.int .i64 c10)), (12, hd 2 (c12.map cdI.enc)), (13, .v (.int .i64 c15)), (14, .v (.int .i64 c16)), (15, .v (.int .i64 c17)), (16, .v (.int .i64 c18)), (17, .v (.int .i64 c29)), (18, .v (.int .i64 c30)), (19, .v (.int .i64 c31)), (66, .v (.bool (decide (c31 < (c12.length : Int)))))], [mk 1 50 (c6.map (cdL 1 (cdL 1 cdI)).enc), mk 1 31 (c9.map (cdL 1 cdI).enc), mk 1 3 (c12.map cdI.enc)]⟩) ?_ ?_
    · refine RunS.segF (n := 115) e_ref09_Plan_ok 2 [(0, .v (.int .i64 x0)), (1, .sl 1 (x1.map cdI.enc)), (2, .v (.int .i64 x2)), (8, hd 0 (c6.map (cdL 1 (cdL 1 cdI)).enc)), (9, .v (.int .i64 c7)), (10, hd 1 (c9.map (cdL 1 cdI).enc)), (11, .v (.int .i64 c10)), (12, hd 2 (c12.map cdI.enc)), (13, .v (.int .i64 c15)), (14, .v (.int .i64 c16)), (15, .v (.int .i64 c17)), (16, .v (.int .i64 c18)), (17, .v (.int .i64 c29)), (18, .v (.int .i64 c30)), (19, .v (.int .i64 c31)), (63, .v (.int .i64 c31)), (64, hd 2 (c12.map cdI.enc))] [mk 1 50 (c6.map (cdL 1 (cdL 1 cdI)).enc), mk 1 31 (c9.map (cdL 1 cdI).enc), mk 1 3 (c12.map cdI.enc)] (by kernel_rfl) ?_
      refine RunS.one e_ref09_Plan_ok 0 rfl (op_q (wantedA_none rfl) rfl (q_len (a := hd 2 (c12.map cdI.enc)) (by kernel_rfl) (len_hd' (xs := c12) (e := cdI.enc) (el := 3) (by kernel_rfl)))) ?_
      refine RunS.segF (n := 115) e_ref09_Plan_ok 1 [(0, .v (.int .i64 x0)), (1, .sl 1 (x1.map cdI.enc)), (2, .v (.int .i64 x2)), (8, hd 0 (c6.map (cdL 1 (cdL 1 cdI)).enc)), (9, .v (.int .i64 c7)), (10, hd 1 (c9.map (cdL 1 cdI).enc)), (11, .v (.int .i64 c10)), (12, hd 2 (c12.map cdI.enc)), (13, .v (.int .i64 c15)), (14, .v (.int .i64 c16)), (15, .v (.int .i64 c17)), (16, .v (.int .i64 c18)), (17, .v (.int .i64 c29)), (18, .v (.int .i64 c30)), (19, .v (.int .i64 c31)), (66, .v (.bool (decide (c31 < (c12.length : Int)))))] [mk 1 50 (c6.map (cdL 1 (cdL 1 cdI)).enc), mk 1 31 (c9.map (cdL 1 cdI).enc), mk 1 3 (c12.map cdI.enc)] (by kernel_rfl) ?_
      exact RunS.done rfl (Wk.s3 [0, 1, 2] ⟨⟨_, rfl, bu_mk⟩, ⟨_, rfl, bu_mk⟩, ⟨_, rfl, bu_mk⟩, trivial⟩ ⟨lv, lv, lv, lu_hd (b' := 0) (by kernel_rfl) (by kernel_rfl), lv, lu_hd (b' := 1) (by kernel_rfl) (by kernel_rfl), lv, lu_hd (b' := 2) (by kernel_rfl) (by kernel_rfl), lv, lv, lv, lv, lv, lv, lv, lv, trivial⟩)
    refine Sem.cond (b := (decide (c31 < (c12.length : Int)))) (by kernel_rfl) (fun hb32 => ?_) (fun hb32 => ?_)
    · rw [if_pos hb32] at h
      refine Sem.skip ?_
      refine Sem.seq ?_
      refine Sem.block ?_
      refine Sem.seq ?_
      obtain ⟨v33, hv33, h⟩ := Option.bind_eq_some_iff.1 h
      obtain ⟨v34, hv34, h⟩ := Option.bind_eq_some_iff.1 h
      refine Sem.runS (s1 := ⟨Fr 115 [(0, .v (.int .i64 x0)), (1, .sl 1 (x1.map cdI.enc)), (2, .v (.int .i64 x2)), (8, hd 0 (c6.map (cdL 1 (cdL 1 cdI)).enc)), (9, .v (.int .i64 c7)), (10, hd 1 (c9.map (cdL 1 cdI).enc)), (11, .v (.int .i64 c10)), (12, hd 2 (c12.map cdI.enc)), (13, .v (.int .i64 c15)), (14, .v (.int .i64 c16)), (15, .v (.int .i64 c17)), (16, .v (.int .i64 c18)), (17, .v (.int .i64 c29)), (18, .v (.int .i64 c30)), (19, .v (.int .i64 c31)), (20, .v (.int .i64 v34))], [mk 1 50 (c6.map (cdL 1 (cdL 1 cdI)).enc), mk 1 31 (c9.map (cdL 1 cdI).enc), mk 1 3 (c12.map cdI.enc)]⟩) ?_ ?_
      · refine RunS.segF (n := 115) e_ref09_Plan_ok 4 [(0, .v (.int .i64 x0)), (1, .sl 1 (x1.map cdI.enc)), (2, .v (.int .i64 x2)), (8, hd 0 (c6.map (cdL 1 (cdL 1 cdI)).enc)), (9, .v (.int .i64 c7)), (10, hd 1 (c9.map (cdL 1 cdI).enc)), (11, .v (.int .i64 c10)), (12, hd 2 (c12.map cdI.enc)), (13, .v (.int .i64 c15)), (14, .v (.int .i64 c16)), (15, .v (.int .i64 c17)), (16, .v (.int .i64 c18)), (17, .v (.int .i64 c29)), (18, .v (.int .i64 c30)), (19, .v (.int .i64 c31)), (69, hd 0 (c6.map (cdL 1 (cdL 1 cdI)).enc)), (70, .v (.int .i64 c18)), (71, hd 2 (c12.map cdI.enc)), (72, .v (.int .i64 c31))] [mk 1 50 (c6.map (cdL 1 (cdL 1 cdI)).enc), mk 1 31 (c9.map (cdL 1 cdI).enc), mk 1 3 (c12.map cdI.enc)] (by kernel_rfl) ?_
        refine RunS.one e_ref09_Plan_ok 0 rfl (op_q (wantedA_none rfl) rfl (q_indexAddr (a := hd 2 (c12.map cdI.enc)) (b := .v (.int .i64 c31)) (by kernel_rfl) (by kernel_rfl) (ix_hd (e := cdI.enc) (xs := c12) (t' := 3) (el := 3) (k := 1) (ki := .i64) (by kernel_rfl) (by kernel_rfl) (by kernel_rfl) hv33))) ?_
        refine RunS.one e_ref09_Plan_ok 0 rfl (op_q (wantedA_none rfl) rfl (q_load (p := .pt 2 c31.toNat 0) (by kernel_rfl) (ld_mk (t' := 3) (k := 1) (m := 1) (g := false) (e := cdI.enc) (xs := c12) (by kernel_rfl) (by kernel_rfl) (by kernel_rfl) (idx_at hv33).2 (by kernel_rfl)))) ?_
        refine RunS.call e_ref09_Plan_ok (fid := 77) (s := cs_ref09_before) (F := fun a => ref09_before a.1 a.2.1 a.2.2.1) (er := er_ref09_before) (xs := [hd 0 (c6.map (cdL 1 (cdL 1 cdI)).enc), .v (.int .i64 c18), .v (.int .i64 v33)]) (a := (c6, c18, v33, ())) rfl (wantedA_none rfl) (by kernel_rfl) (by kernel_rfl) (by kernel_rfl) (by kernel_rfl) (Sns.cons (Sn.hd (c := (cdL 1 (cdL 1 cdI))) (xs := c6) (t := 50) (by kernel_rfl) n1_L) (Sns.cons (Sn.enc (c := cdI) (v := c18)) (Sns.cons (Sn.enc (c := cdI) (v := v33)) Sns.nil))) (.inr (by kernel_rfl)) hv34 ?_
        refine RunS.segF (n := 115) e_ref09_Plan_ok 1 [(0, .v (.int .i64 x0)), (1, .sl 1 (x1.map cdI.enc)), (2, .v (.int .i64 x2)), (8, hd 0 (c6.map (cdL 1 (cdL 1 cdI)).enc)), (9, .v (.int .i64 c7)), (10, hd 1 (c9.map (cdL 1 cdI).enc)), (11, .v (.int .i64 c10)), (12, hd 2 (c12.map cdI.enc)), (13, .v (.int .i64 c15)), (14, .v (.int .i64 c16)), (15, .v (.int .i64 c17)), (16, .v (.int .i64 c18)), (17, .v (.int .i64 c29)), (18, .v (.int .i64 c30)), (19, .v (.int .i64 c31)), (20, .v (.int .i64 v34))] [mk 1 50 (c6.map (cdL 1 (cdL 1 cdI)).enc), mk 1 31 (c9.map (cdL 1 cdI).enc), mk 1 3 (c12.map cdI.enc)] (by kernel_rfl) ?_
        exact RunS.done rfl (Wk.s3 [0, 1, 2] ⟨⟨_, rfl, bu_mk⟩, ⟨_, rfl, bu_mk⟩, ⟨_, rfl, bu_mk⟩, trivial⟩ ⟨lv, lv, lv, lu_hd (b' := 0) (by kernel_rfl) (by kernel_rfl), lv, lu_hd (b' := 1) (by kernel_rfl) (by kernel_rfl), lv, lu_hd (b' := 2) (by kernel_rfl) (by kernel_rfl), lv, lv, lv, lv, lv, lv, lv, lv, trivial⟩)
      refine Sem.seq ?_
      refine Sem.runS (s1 := ⟨Fr 115 [(0, .v (.int .i64 x0)), (1, .sl 1 (x1.map cdI.enc)), (2, .v (.int .i64 x2)), (8, hd 0 (c6.map (cdL 1 (cdL 1 cdI)).enc)), (9, .v (.int .i64 c7)), (10, hd 1 (c9.map (cdL 1 cdI).enc)), (11, .v (.int .i64 c10)), (12, hd 2 (c12.map cdI.enc)), (13, .v (.int .i64 c15)), (14, .v (.int .i64 c16)), (15, .v (.int .i64 c17)), (16, .v (.int .i64 c18)), (17, .v (.int .i64 (mxI c29 v34))), (18, .v (.int .i64 c30)), (19, .v (.int .i64 c31)), (20, .v (.int .i64 v34))], [mk 1 50 (c6.map (cdL 1 (cdL 1 cdI)).enc), mk 1 31 (c9.map (cdL 1 cdI).enc), mk 1 3 (c12.map cdI.enc)]⟩) ?_ ?_
      · refine RunS.segF (n := 115) e_ref09_Plan_ok 4 [(0, .v (.int .i64 x0)), (1, .sl 1 (x1.map cdI.enc)), (2, .v (.int .i64 x2)), (8, hd 0 (c6.map (cdL 1 (cdL 1 cdI)).enc)), (9, .v (.int .i64 c7)), (10, hd 1 (c9.map (cdL 1 cdI).enc)), (11, .v (.int .i64 c10)), (12, hd 2 (c12.map cdI.enc)), (13, .v (.int .i64 c15)), (14, .v (.int .i64 c16)), (15, .v (.int .i64 c17)), (16, .v (.int .i64 c18)), (17, .v (.int .i64 (mxI c29 v34))), (18, .v (.int .i64 c30)), (19, .v (.int .i64 c31)), (20, .v (.int .i64 v34))] [mk 1 50 (c6.map (cdL 1 (cdL 1 cdI)).enc), mk 1 31 (c9.map (cdL 1 cdI).enc), mk 1 3 (c12.map cdI.enc)] (by kernel_rfl) ?_
        exact RunS.done rfl (Wk.s3 [0, 1, 2] ⟨⟨_, rfl, bu_mk⟩, ⟨_, rfl, bu_mk⟩, ⟨_, rfl, bu_mk⟩, trivial⟩ ⟨lv, lv, lv, lu_hd (b' := 0) (by kernel_rfl) (by kernel_rfl), lv, lu_hd (b' := 1) (by kernel_rfl) (by kernel_rfl), lv, lu_hd (b' := 2) (by kernel_rfl) (by kernel_rfl), lv, lv, lv, lv, lv, lv, lv, lv, trivial⟩)
      refine Sem.runS (s1 := ⟨Fr 115 [(0, .v (.int .i64 x0)), (1, .sl 1 (x1.map cdI.enc)), (2, .v (.int .i64 x2)), (8, hd 0 (c6.map (cdL 1 (cdL 1 cdI)).enc)), (9, .v (.int .i64 c7)), (10, hd 1 (c9.map (cdL 1 cdI).enc)), (11, .v (.int .i64 c10)), (12, hd 2 (c12.map cdI.enc)), (13, .v (.int .i64 c15)), (14, .v (.int .i64 c16)), (15, .v (.int .i64 c17)), (16, .v (.int .i64 c18)), (17, .v (.int .i64 (mxI c29 v34))), (18, .v (.int .i64 (wr .i64 (c30 + v34)))), (19, .v (.int .i64 c31))], [mk 1 50 (c6.map (cdL 1 (cdL 1 cdI)).enc), mk 1 31 (c9.map (cdL 1 cdI).enc), mk 1 3 (c12.map cdI.enc)]⟩) ?_ ?_
      · refine RunS.segF (n := 115) e_ref09_Plan_ok 4 [(0, .v (.int .i64 x0)), (1, .sl 1 (x1.map cdI.enc)), (2, .v (.int .i64 x2)), (8, hd 0 (c6.map (cdL 1 (cdL 1 cdI)).enc)), (9, .v (.int .i64 c7)), (10, hd 1 (c9.map (cdL 1 cdI).enc)), (11, .v (.int .i64 c10)), (12, hd 2 (c12.map cdI.enc)), (13, .v (.int .i64 c15)), (14, .v (.int .i64 c16)), (15, .v (.int .i64 c17)), (16, .v (.int .i64 c18)), (17, .v (.int .i64 (mxI c29 v34))), (18, .v (.int .i64 (wr .i64 (c30 + v34)))), (19, .v (.int .i64 c31))] [mk 1 50 (c6.map (cdL 1 (cdL 1 cdI)).enc), mk 1 31 (c9.map (cdL 1 cdI).enc), mk 1 3 (c12.map cdI.enc)] (by kernel_rfl) ?_
        exact RunS.done rfl (Wk.s3 [0, 1, 2] ⟨⟨_, rfl, bu_mk⟩, ⟨_, rfl, bu_mk⟩, ⟨_, rfl, bu_mk⟩, trivial⟩ ⟨lv, lv, lv, lu_hd (b' := 0) (by kernel_rfl) (by kernel_rfl), lv, lu_hd (b' := 1) (by kernel_rfl) (by kernel_rfl), lv, lu_hd (b' := 2) (by kernel_rfl) (by kernel_rfl), lv, lv, lv, lv, lv, lv, lv, trivial⟩)
      refine Sem.runS (s1 := ⟨Fr 115 [(0, .v (.int .i64 x0)), (1, .sl 1 (x1.map cdI.enc)), (2, .v (.int .i64 x2)), (8, hd 0 (c6.map (cdL 1 (cdL 1 cdI)).enc)), (9, .v (.int .i64 c7)), (10, hd 1 (c9.map (cdL 1 cdI).enc)), (11, .v (.int .i64 c10)), (12, hd 2 (c12.map cdI.enc)), (13, .v (.int .i64 c15)), (14, .v (.int .i64 c16)), (15, .v (.int .i64 c17)), (16, .v (.int .i64 c18)), (17, .v (.int .i64 (mxI c29 v34))), (18, .v (.int .i64 (wr .i64 (c30 + v34)))), (19, .v (.int .i64 (wr .i64 (c31 + 1))))], [mk 1 50 (c6.map (cdL 1 (cdL 1 cdI)).enc), mk 1 31 (c9.map (cdL 1 cdI).enc), mk 1 3 (c12.map cdI.enc)]⟩) ?_ ?_
      · refine RunS.segF (n := 115) e_ref09_Plan_ok 3 [(0, .v (.int .i64 x0)), (1, .sl 1 (x1.map cdI.enc)), (2, .v (.int .i64 x2)), (8, hd 0 (c6.map (cdL 1 (cdL 1 cdI)).enc)), (9, .v (.int .i64 c7)), (10, hd 1 (c9.map (cdL 1 cdI).enc)), (11, .v (.int .i64 c10)), (12, hd 2 (c12.map cdI.enc)), (13, .v (.int .i64 c15)), (14, .v (.int .i64 c16)), (15, .v (.int .i64 c17)), (16, .v (.int .i64 c18)), (17, .v (.int .i64 (mxI c29 v34))), (18, .v (.int .i64 (wr .i64 (c30 + v34)))), (19, .v (.int .i64 (wr .i64 (c31 + 1))))] [mk 1 50 (c6.map (cdL 1 (cdL 1 cdI)).enc), mk 1 31 (c9.map (cdL 1 cdI).enc), mk 1 3 (c12.map cdI.enc)] (by kernel_rfl) ?_
        exact RunS.done rfl (Wk.s3 [0, 1, 2] ⟨⟨_, rfl, bu_mk⟩, ⟨_, rfl, bu_mk⟩, ⟨_, rfl, bu_mk⟩, trivial⟩ ⟨lv, lv, lv, lu_hd (b' := 0) (by kernel_rfl) (by kernel_rfl), lv, lu_hd (b' := 1) (by kernel_rfl) (by kernel_rfl), lv, lu_hd (b' := 2) (by kernel_rfl) (by kernel_rfl), lv, lv, lv, lv, lv, lv, lv, trivial⟩)
      exact SemN.wk (s1 := ⟨Fr 115 [(0, .v (.int .i64 x0)), (1, .sl 1 (x1.map cdI.enc)), (2, .v (.int .i64 x2)), (8, hd 0 (c6.map (cdL 1 (cdL 1 cdI)).enc)), (9, .v (.int .i64 c7)), (10, hd 1 (c9.map (cdL 1 cdI).enc)), (11, .v (.int .i64 c10)), (12, hd 2 (c12.map cdI.enc)), (13, .v (.int .i64 c15)), (14, .v (.int .i64 c16)), (15, .v (.int .i64 c17)), (16, .v (.int .i64 c18)), (17, .v (.int .i64 (mxI c29 v34))), (18, .v (.int .i64 (wr .i64 (c30 + v34)))), (19, .v (.int .i64 (wr .i64 (c31 + 1))))], [mk 1 50 (c6.map (cdL 1 (cdL 1 cdI)).enc), mk 1 31 (c9.map (cdL 1 cdI).enc), mk 1 3 (c12.map cdI.enc)]⟩) (Wk.s3 [0, 1, 2] ⟨⟨_, rfl, bu_mk⟩, ⟨_, rfl, bu_mk⟩, ⟨_, rfl, bu_mk⟩, trivial⟩ ⟨lv, lv, lv, lu_hd (b' := 0) (by kernel_rfl) (by kernel_rfl), lv, lu_hd (b' := 1) (by kernel_rfl) (by kernel_rfl), lv, lu_hd (b' := 2) (by kernel_rfl) (by kernel_rfl), lv, lv, lv, lv, lv, lv, lv, trivial⟩) (ih (mxI c29 v34) (wr .i64 (c30 + v34)) (wr .i64 (c31 + 1)) h)
    · rw [if_f hb32] at h
      refine Sem.exit ?_
      have hq := Option.some.inj h; subst hq
      exact ⟨rfl, (Wk.s3 [0, 1, 2] ⟨⟨_, rfl, bu_mk⟩, ⟨_, rfl, bu_mk⟩, ⟨_, rfl, bu_mk⟩, trivial⟩ ⟨lv, lv, lv, lu_hd (b' := 0) (by kernel_rfl) (by kernel_rfl), lv, lu_hd (b' := 1) (by kernel_rfl) (by kernel_rfl), lv, lu_hd (b' := 2) (by kernel_rfl) (by kernel_rfl), lv, lv, lv, lv, lv, lv, trivial⟩)⟩
set_option maxHeartbeats 4000000 in
set_option maxRecDepth 100000 in
theorem ref09_Plan_j6_ok (x0 : Int) (x1 : (List Int)) (x2 : Int) (c6 : (List (List (List Int)))) (c7 : Int) (c9 : (List (List Int))) (c10 : Int) (c12 : (List Int)) (c15 : Int) (c16 : Int) (c17 : Int) (c18 : Int) (r37 : Int × Int) (j43 : Bool) (r : (Int × Int × Int)) (h : ref09_Plan_j6 x0 x1 x2 c6 c7 c9 c10 c12 c15 c16 c17 c18 r37 j43 = some r) : Sem e_ref09_Plan ⟨none, false⟩ (pc cb_ref09_Plan [1, 1, 1, 1, 0, 1, 0, 0, 1, 0, 0, 1, 0, 1, 0, 0, 1, 0, 0, 1, 0, 0, 0, 1, 0, 1, 0, 1, 0, 0, 1, 0, 0, 1, 1, 1, 1]) ⟨Fr 115 [(0, .v (.int .i64 x0)), (1, .sl 1 (x1.map cdI.enc)), (2, .v (.int .i64 x2)), (8, hd 0 (c6.map (cdL 1 (cdL 1 cdI)).enc)), (9, .v (.int .i64 c7)), (10, hd 1 (c9.map (cdL 1 cdI).enc)), (11, .v (.int .i64 c10)), (12, hd 2 (c12.map cdI.enc)), (13, .v (.int .i64 c15)), (14, .v (.int .i64 c16)), (15, .v (.int .i64 c17)), (16, .v (.int .i64 c18)), (17, .v (.int .i64 r37.1)), (18, .v (.int .i64 r37.2)), (98, .v (.bool j43))], [mk 1 50 (c6.map (cdL 1 (cdL 1 cdI)).enc), mk 1 31 (c9.map (cdL 1 cdI).enc), mk 1 3 (c12.map cdI.enc)]⟩ (fun e s => e = .normal ∧ Wk e_ref09_Plan s ⟨Fr 115 [(0, .v (.int .i64 x0)), (1, .sl 1 (x1.map cdI.enc)), (2, .v (.int .i64 x2)), (8, hd 0 (c6.map (cdL 1 (cdL 1 cdI)).enc)), (9, .v (.int .i64 c7)), (10, hd 1 (c9.map (cdL 1 cdI).enc)), (11, .v (.int .i64 c10)), (12, hd 2 (c12.map cdI.enc)), (13, .v (.int .i64 r.1)), (14, .v (.int .i64 r.2.1)), (15, .v (.int .i64 r.2.2)), (16, .v (.int .i64 c18))], [mk 1 50 (c6.map (cdL 1 (cdL 1 cdI)).enc), mk 1 31 (c9.map (cdL 1 cdI).enc), mk 1 3 (c12.map cdI.enc)]⟩) := by
  unfold ref09_Plan_j6 at h
  refine Sem.cond (b := j43) (by kernel_rfl) (fun hb44 => ?_) (fun hb44 => ?_)
  · rw [if_pos hb44] at h
    refine Sem.runS (s1 := ⟨Fr 115 [(0, .v (.int .i64 x0)), (1, .sl 1 (x1.map cdI.enc)), (2, .v (.int .i64 x2)), (8, hd 0 (c6.map (cdL 1 (cdL 1 cdI)).enc)), (9, .v (.int .i64 c7)), (10, hd 1 (c9.map (cdL 1 cdI).enc)), (11, .v (.int .i64 c10)), (12, hd 2 (c12.map cdI.enc)), (13, .v (.int .i64 c18)), (14, .v (.int .i64 r37.1)), (15, .v (.int .i64 r37.2)), (16, .v (.int .i64 c18))], [mk 1 50 (c6.map (cdL 1 (cdL 1 cdI)).enc), mk 1 31 (c9.map (cdL 1 cdI).enc), mk 1 3 (c12.map cdI.enc)]⟩) ?_ ?_
    · refine RunS.segF (n := 115) e_ref09_Plan_ok 6 [(0, .v (.int .i64 x0)), (1, .sl 1 (x1.map cdI.enc)), (2, .v (.int .i64 x2)), (8, hd 0 (c6.map (cdL 1 (cdL 1 cdI)).enc)), (9, .v (.int .i64 c7)), (10, hd 1 (c9.map (cdL 1 cdI).enc)), (11, .v (.int .i64 c10)), (12, hd 2 (c12.map cdI.enc)), (13, .v (.int .i64 c18)), (14, .v (.int .i64 r37.1)), (15, .v (.int .i64 r37.2)), (16, .v (.int .i64 c18))] [mk 1 50 (c6.map (cdL 1 (cdL 1 cdI)).enc), mk 1 31 (c9.map (cdL 1 cdI).enc), mk 1 3 (c12.map cdI.enc)] (by kernel_rfl) ?_
      exact RunS.done rfl (Wk.s3 [0, 1, 2] ⟨⟨_, rfl, bu_mk⟩, ⟨_, rfl, bu_mk⟩, ⟨_, rfl, bu_mk⟩, trivial⟩ ⟨lv, lv, lv, lu_hd (b' := 0) (by kernel_rfl) (by kernel_rfl), lv, lu_hd (b' := 1) (by kernel_rfl) (by kernel_rfl), lv, lu_hd (b' := 2) (by kernel_rfl) (by kernel_rfl), lv, lv, lv, lv, trivial⟩)
    have hq := Option.some.inj h; subst hq
    exact ⟨rfl, (Wk.s3 [0, 1, 2] ⟨⟨_, rfl, bu_mk⟩, ⟨_, rfl, bu_mk⟩, ⟨_, rfl, bu_mk⟩, trivial⟩ ⟨lv, lv, lv, lu_hd (b' := 0) (by kernel_rfl) (by kernel_rfl), lv, lu_hd (b' := 1) (by kernel_rfl) (by kernel_rfl), lv, lu_hd (b' := 2) (by kernel_rfl) (by kernel_rfl), lv, lv, lv, lv, trivial⟩)⟩
  · rw [if_f hb44] at h
    refine Sem.skip ?_
    have hq := Option.some.inj h; subst hq
    exact ⟨rfl, (Wk.s3 [0, 1, 2] ⟨⟨_, rfl, bu_mk⟩, ⟨_, rfl, bu_mk⟩, ⟨_, rfl, bu_mk⟩, trivial⟩ ⟨lv, lv, lv, lu_hd (b' := 0) (by kernel_rfl) (by kernel_rfl), lv, lu_hd (b' := 1) (by kernel_rfl) (by kernel_rfl), lv, lu_hd (b' := 2) (by kernel_rfl) (by kernel_rfl), lv, lv, lv, lv, trivial⟩)⟩
set_option maxHeartbeats 4000000 in
set_option maxRecDepth 100000 in
theorem ref09_Plan_4_ok (x0 : Int) (x1 : (List Int)) (x2 : Int) (c6 : (List (List (List Int)))) (c7 : Int) (c9 : (List (List Int))) (c10 : Int) (c12 : (List Int)) : ∀ (f : Nat) (c15 : Int) (c16 : Int) (c17 : Int) (c18 : Int) (r : (Int)), ref09_Plan_4 x0 x1 x2 c6 c7 c9 c10 c12 f c15 c16 c17 c18 = some r → SemN e_ref09_Plan ⟨none, false⟩ (pc cb_ref09_Plan [1, 1, 1, 1, 0, 1, 0, 0, 1, 0, 0, 1, 0, 1, 0, 0, 1, 0, 0, 1, 0, 0, 0, 1, 0, 1, 0, 1, 0, 0]) f ⟨Fr 115 [(0, .v (.int .i64 x0)), (1, .sl 1 (x1.map cdI.enc)), (2, .v (.int .i64 x2)), (8, hd 0 (c6.map (cdL 1 (cdL 1 cdI)).enc)), (9, .v (.int .i64 c7)), (10, hd 1 (c9.map (cdL 1 cdI).enc)), (11, .v (.int .i64 c10)), (12, hd 2 (c12.map cdI.enc)), (13, .v (.int .i64 c15)), (14, .v (.int .i64 c16)), (15, .v (.int .i64 c17)), (16, .v (.int .i64 c18))], [mk 1 50 (c6.map (cdL 1 (cdL 1 cdI)).enc), mk 1 31 (c9.map (cdL 1 cdI).enc), mk 1 3 (c12.map cdI.enc)]⟩ (fun e s => e = (.exit 6) ∧ Wk e_ref09_Plan s ⟨Fr 115 [(0, .v (.int .i64 x0)), (1, .sl 1 (x1.map cdI.enc)), (2, .v (.int .i64 x2)), (8, hd 0 (c6.map (cdL 1 (cdL 1 cdI)).enc)), (9, .v (.int .i64 c7)), (10, hd 1 (c9.map (cdL 1 cdI).enc)), (11, .v (.int .i64 c10)), (12, hd 2 (c12.map cdI.enc)), (13, .v (.int .i64 r))], [mk 1 50 (c6.map (cdL 1 (cdL 1 cdI)).enc), mk 1 31 (c9.map (cdL 1 cdI).enc), mk 1 3 (c12.map cdI.enc)]⟩) := by
  intro f
  induction f with
  | zero => intro c15 c16 c17 c18 r h; cases h
  | succ f ih0 =>
    intro c15 c16 c17 c18 r h
    have ih := fun (c15 : Int) (c16 : Int) (c17 : Int) (c18 : Int) => ih0 c15 c16 c17 c18 r
    unfold ref09_Plan_4 at h
    refine SemN.succ ?_
    refine Sem.seq ?_
    refine Sem.seq ?_
    refine Sem.runS (s1 := ⟨Fr 115 [(0, .v (.int .i64 x0)), (1, .sl 1 (x1.map cdI.enc)), (2, .v (.int .i64 x2)), (8, hd 0 (c6.map (cdL 1 (cdL 1 cdI)).enc)), (9, .v (.int .i64 c7)), (10, hd 1 (c9.map (cdL 1 cdI).enc)), (11, .v (.int .i64 c10)), (12, hd 2 (c12.map cdI.enc)), (13, .v (.int .i64 c15)), (14, .v (.int .i64 c16)), (15, .v (.int .i64 c17)), (16, .v (.int .i64 c18)), (51, .v (.bool (decide (c18 < x0))))], [mk 1 50 (c6.map (cdL 1 (cdL 1 cdI)).enc), mk 1 31 (c9.map (cdL 1 cdI).enc), mk 1 3 (c12.map cdI.enc)]⟩) ?_ ?_
    · refine RunS.segF (n := 115) e_ref09_Plan_ok 3 [(0, .v (.int .i64 x0)), (1, .sl 1 (x1.map cdI.enc)), (2, .v (.int .i64 x2)), (8, hd 0 (c6.map (cdL 1 (cdL 1 cdI)).enc)), (9, .v (.int .i64 c7)), (10, hd 1 (c9.map (cdL 1 cdI).enc)), (11, .v (.int .i64 c10)), (12, hd 2 (c12.map cdI.enc)), (13, .v (.int .i64 c15)), (14, .v (.int .i64 c16)), (15, .v (.int .i64 c17)), (16, .v (.int .i64 c18)), (51, .v (.bool (decide (c18 < x0))))] [mk 1 50 (c6.map (cdL 1 (cdL 1 cdI)).enc), mk 1 31 (c9.map (cdL 1 cdI).enc), mk 1 3 (c12.map cdI.enc)] (by kernel_rfl) ?_
      exact RunS.done rfl (Wk.s3 [0, 1, 2] ⟨⟨_, rfl, bu_mk⟩, ⟨_, rfl, bu_mk⟩, ⟨_, rfl, bu_mk⟩, trivial⟩ ⟨lv, lv, lv, lu_hd (b' := 0) (by kernel_rfl) (by kernel_rfl), lv, lu_hd (b' := 1) (by kernel_rfl) (by kernel_rfl), lv, lu_hd (b' := 2) (by kernel_rfl) (by kernel_rfl), lv, lv, lv, lv, lv, trivial⟩)
    refine Sem.cond (b := (decide (c18 < x0))) (by kernel_rfl) (fun hb19 => ?_) (fun hb19 => ?_)
    · rw [if_pos hb19] at h
      refine Sem.skip ?_
      refine Sem.seq ?_
      refine Sem.block ?_
      refine Sem.seq ?_
      refine Sem.seq ?_
      obtain ⟨v20, hv20, h⟩ := Option.bind_eq_some_iff.1 h
      obtain ⟨j27, hj27, h⟩ := Option.bind_eq_some_iff.1 h
      refine Sem.runS (s1 := ⟨Fr 115 [(0, .v (.int .i64 x0)), (1, .sl 1 (x1.map cdI.enc)), (2, .v (.int .i64 x2)), (8, hd 0 (c6.map (cdL 1 (cdL 1 cdI)).enc)), (9, .v (.int .i64 c7)), (10, hd 1 (c9.map (cdL 1 cdI).enc)), (11, .v (.int .i64 c10)), (12, hd 2 (c12.map cdI.enc)), (13, .v (.int .i64 c15)), (14, .v (.int .i64 c16)), (15, .v (.int .i64 c17)), (16, .v (.int .i64 c18)), (62, .v (.bool j27))], [mk 1 50 (c6.map (cdL 1 (cdL 1 cdI)).enc), mk 1 31 (c9.map (cdL 1 cdI).enc), mk 1 3 (c12.map cdI.enc)]⟩) ?_ ?_
      · refine RunS.segF (n := 115) e_ref09_Plan_ok 2 [(0, .v (.int .i64 x0)), (1, .sl 1 (x1.map cdI.enc)), (2, .v (.int .i64 x2)), (8, hd 0 (c6.map (cdL 1 (cdL 1 cdI)).enc)), (9, .v (.int .i64 c7)), (10, hd 1 (c9.map (cdL 1 cdI).enc)), (11, .v (.int .i64 c10)), (12, hd 2 (c12.map cdI.enc)), (13, .v (.int .i64 c15)), (14, .v (.int .i64 c16)), (15, .v (.int .i64 c17)), (16, .v (.int .i64 c18)), (54, hd 1 (c9.map (cdL 1 cdI).enc)), (55, .v (.int .i64 c18))] [mk 1 50 (c6.map (cdL 1 (cdL 1 cdI)).enc), mk 1 31 (c9.map (cdL 1 cdI).enc), mk 1 3 (c12.map cdI.enc)] (by kernel_rfl) ?_
        refine RunS.call e_ref09_Plan_ok (fid := 75) (s := cs_ref09_times) (F := fun a => ref09_times a.1 a.2.1) (er := er_ref09_times) (xs := [hd 1 (c9.map (cdL 1 cdI).enc), .v (.int .i64 c18)]) (a := (c9, c18, ())) rfl (wantedA_none rfl) (by kernel_rfl) (by kernel_rfl) (by kernel_rfl) (by kernel_rfl) (Sns.cons (Sn.hd (c := (cdL 1 cdI)) (xs := c9) (t := 31) (by kernel_rfl) n1_L) (Sns.cons (Sn.enc (c := cdI) (v := c18)) Sns.nil)) (.inr (by kernel_rfl)) hv20 ?_
        refine RunS.segF (n := 115) e_ref09_Plan_ok 2 [(0, .v (.int .i64 x0)), (1, .sl 1 (x1.map cdI.enc)), (2, .v (.int .i64 x2)), (8, hd 0 (c6.map (cdL 1 (cdL 1 cdI)).enc)), (9, .v (.int .i64 c7)), (10, hd 1 (c9.map (cdL 1 cdI).enc)), (11, .v (.int .i64 c10)), (12, hd 2 (c12.map cdI.enc)), (13, .v (.int .i64 c15)), (14, .v (.int .i64 c16)), (15, .v (.int .i64 c17)), (16, .v (.int .i64 c18)), (58, .v (.bool (decide (v20 > 0))))] [mk 1 50 (c6.map (cdL 1 (cdL 1 cdI)).enc), mk 1 31 (c9.map (cdL 1 cdI).enc), mk 1 3 (c12.map cdI.enc)] (by kernel_rfl) ?_
        rcases Bool.eq_false_or_eq_true (decide (v20 > 0)) with hc52 | hc52
        · rw [if_pos hc52] at hj27
          rw [hc52]
          refine RunS.segF (n := 115) e_ref09_Plan_ok 4 [(0, .v (.int .i64 x0)), (1, .sl 1 (x1.map cdI.enc)), (2, .v (.int .i64 x2)), (8, hd 0 (c6.map (cdL 1 (cdL 1 cdI)).enc)), (9, .v (.int .i64 c7)), (10, hd 1 (c9.map (cdL 1 cdI).enc)), (11, .v (.int .i64 c10)), (12, hd 2 (c12.map cdI.enc)), (13, .v (.int .i64 c15)), (14, .v (.int .i64 c16)), (15, .v (.int .i64 c17)), (16, .v (.int .i64 c18)), (59, .tp []), (60, .tp []), (61, .tp []), (62, .v (.bool true))] [mk 1 50 (c6.map (cdL 1 (cdL 1 cdI)).enc), mk 1 31 (c9.map (cdL 1 cdI).enc), mk 1 3 (c12.map cdI.enc)] (by kernel_rfl) ?_
          have hq := Option.some.inj hj27; subst hq
          exact RunS.done rfl (Wk.s3 [0, 1, 2] ⟨⟨_, rfl, bu_mk⟩, ⟨_, rfl, bu_mk⟩, ⟨_, rfl, bu_mk⟩, trivial⟩ ⟨lv, lv, lv, lu_hd (b' := 0) (by kernel_rfl) (by kernel_rfl), lv, lu_hd (b' := 1) (by kernel_rfl) (by kernel_rfl), lv, lu_hd (b' := 2) (by kernel_rfl) (by kernel_rfl), lv, lv, lv, lv, lv, trivial⟩)
        · rw [if_f hc52] at hj27
          rw [hc52]
          refine RunS.segF (n := 115) e_ref09_Plan_ok 2 [(0, .v (.int .i64 x0)), (1, .sl 1 (x1.map cdI.enc)), (2, .v (.int .i64 x2)), (8, hd 0 (c6.map (cdL 1 (cdL 1 cdI)).enc)), (9, .v (.int .i64 c7)), (10, hd 1 (c9.map (cdL 1 cdI).enc)), (11, .v (.int .i64 c10)), (12, hd 2 (c12.map cdI.enc)), (13, .v (.int .i64 c15)), (14, .v (.int .i64 c16)), (15, .v (.int .i64 c17)), (16, .v (.int .i64 c18)), (58, .v (.bool false)), (59, hd 2 (c12.map cdI.enc)), (60, .v (.int .i64 c18))] [mk 1 50 (c6.map (cdL 1 (cdL 1 cdI)).enc), mk 1 31 (c9.map (cdL 1 cdI).enc), mk 1 3 (c12.map cdI.enc)] (by kernel_rfl) ?_
          obtain ⟨v21, hv21, hj27⟩ := Option.bind_eq_some_iff.1 hj27
          refine RunS.call e_ref09_Plan_ok (fid := 76) (s := cs_ref09_has) (F := fun a => ref09_has a.1 a.2.1) (er := er_ref09_has) (xs := [hd 2 (c12.map cdI.enc), .v (.int .i64 c18)]) (a := (c12, c18, ())) rfl (by kernel_rfl) (by kernel_rfl) (by kernel_rfl) (by kernel_rfl) (by kernel_rfl) (Sns.cons (Sn.hd (c := cdI) (xs := c12) (t := 3) (by kernel_rfl) n1_I) (Sns.cons (Sn.enc (c := cdI) (v := c18)) Sns.nil)) (.inr (by kernel_rfl)) hv21 ?_
          refine RunS.segF (n := 115) e_ref09_Plan_ok 1 [(0, .v (.int .i64 x0)), (1, .sl 1 (x1.map cdI.enc)), (2, .v (.int .i64 x2)), (8, hd 0 (c6.map (cdL 1 (cdL 1 cdI)).enc)), (9, .v (.int .i64 c7)), (10, hd 1 (c9.map (cdL 1 cdI).enc)), (11, .v (.int .i64 c10)), (12, hd 2 (c12.map cdI.enc)), (13, .v (.int .i64 c15)), (14, .v (.int .i64 c16)), (15, .v (.int .i64 c17)), (16, .v (.int .i64 c18)), (59, hd 2 (c12.map cdI.enc)), (60, .v (.int .i64 c18)), (61, .v (.bool v21)), (62, .v (.bool v21))] [mk 1 50 (c6.map (cdL 1 (cdL 1 cdI)).enc), mk 1 31 (c9.map (cdL 1 cdI).enc), mk 1 3 (c12.map cdI.enc)] (by kernel_rfl) ?_
          have hq := Option.some.inj hj27; subst hq
          exact RunS.done rfl (Wk.s3 [0, 1, 2] ⟨⟨_, rfl, bu_mk⟩, ⟨_, rfl, bu_mk⟩, ⟨_, rfl, bu_mk⟩, trivial⟩ ⟨lv, lv, lv, lu_hd (b' := 0) (by kernel_rfl) (by kernel_rfl), lv, lu_hd (b' := 1) (by kernel_rfl) (by kernel_rfl), lv, lu_hd (b' := 2) (by kernel_rfl) (by kernel_rfl), lv, lv, lv, lv, lv, trivial⟩)
      refine Sem.cond (b := j27) (by kernel_rfl) (fun hb28 => ?_) (fun hb28 => ?_)
      · rw [if_pos hb28] at h
        refine Sem.exit ?_
        refine Sem.runS (s1 := ⟨Fr 115 [(0, .v (.int .i64 x0)), (1, .sl 1 (x1.map cdI.enc)), (2, .v (.int .i64 x2)), (8, hd 0 (c6.map (cdL 1 (cdL 1 cdI)).enc)), (9, .v (.int .i64 c7)), (10, hd 1 (c9.map (cdL 1 cdI).enc)), (11, .v (.int .i64 c10)), (12, hd 2 (c12.map cdI.enc)), (13, .v (.int .i64 c15)), (14, .v (.int .i64 c16)), (15, .v (.int .i64 c17)), (16, .v (.int .i64 (wr .i64 (c18 + 1))))], [mk 1 50 (c6.map (cdL 1 (cdL 1 cdI)).enc), mk 1 31 (c9.map (cdL 1 cdI).enc), mk 1 3 (c12.map cdI.enc)]⟩) ?_ ?_
        · refine RunS.segF (n := 115) e_ref09_Plan_ok 3 [(0, .v (.int .i64 x0)), (1, .sl 1 (x1.map cdI.enc)), (2, .v (.int .i64 x2)), (8, hd 0 (c6.map (cdL 1 (cdL 1 cdI)).enc)), (9, .v (.int .i64 c7)), (10, hd 1 (c9.map (cdL 1 cdI).enc)), (11, .v (.int .i64 c10)), (12, hd 2 (c12.map cdI.enc)), (13, .v (.int .i64 c15)), (14, .v (.int .i64 c16)), (15, .v (.int .i64 c17)), (16, .v (.int .i64 (wr .i64 (c18 + 1))))] [mk 1 50 (c6.map (cdL 1 (cdL 1 cdI)).enc), mk 1 31 (c9.map (cdL 1 cdI).enc), mk 1 3 (c12.map cdI.enc)] (by kernel_rfl) ?_
          exact RunS.done rfl (Wk.s3 [0, 1, 2] ⟨⟨_, rfl, bu_mk⟩, ⟨_, rfl, bu_mk⟩, ⟨_, rfl, bu_mk⟩, trivial⟩ ⟨lv, lv, lv, lu_hd (b' := 0) (by kernel_rfl) (by kernel_rfl), lv, lu_hd (b' := 1) (by kernel_rfl) (by kernel_rfl), lv, lu_hd (b' := 2) (by kernel_rfl) (by kernel_rfl), lv, lv, lv, lv, trivial⟩)
        exact SemN.wk (s1 := ⟨Fr 115 [(0, .v (.int .i64 x0)), (1, .sl 1 (x1.map cdI.enc)), (2, .v (.int .i64 x2)), (8, hd 0 (c6.map (cdL 1 (cdL 1 cdI)).enc)), (9, .v (.int .i64 c7)), (10, hd 1 (c9.map (cdL 1 cdI).enc)), (11, .v (.int .i64 c10)), (12, hd 2 (c12.map cdI.enc)), (13, .v (.int .i64 c15)), (14, .v (.int .i64 c16)), (15, .v (.int .i64 c17)), (16, .v (.int .i64 (wr .i64 (c18 + 1))))], [mk 1 50 (c6.map (cdL 1 (cdL 1 cdI)).enc), mk 1 31 (c9.map (cdL 1 cdI).enc), mk 1 3 (c12.map cdI.enc)]⟩) (Wk.s3 [0, 1, 2] ⟨⟨_, rfl, bu_mk⟩, ⟨_, rfl, bu_mk⟩, ⟨_, rfl, bu_mk⟩, trivial⟩ ⟨lv, lv, lv, lu_hd (b' := 0) (by kernel_rfl) (by kernel_rfl), lv, lu_hd (b' := 1) (by kernel_rfl) (by kernel_rfl), lv, lu_hd (b' := 2) (by kernel_rfl) (by kernel_rfl), lv, lv, lv, lv, trivial⟩) (ih c15 c16 c17 (wr .i64 (c18 + 1)) h)
      · rw [if_f hb28] at h
        refine Sem.skip ?_
        refine Sem.seq ?_
        refine Sem.runS (s1 := ⟨Fr 115 [(0, .v (.int .i64 x0)), (1, .sl 1 (x1.map cdI.enc)), (2, .v (.int .i64 x2)), (8, hd 0 (c6.map (cdL 1 (cdL 1 cdI)).enc)), (9, .v (.int .i64 c7)), (10, hd 1 (c9.map (cdL 1 cdI).enc)), (11, .v (.int .i64 c10)), (12, hd 2 (c12.map cdI.enc)), (13, .v (.int .i64 c15)), (14, .v (.int .i64 c16)), (15, .v (.int .i64 c17)), (16, .v (.int .i64 c18)), (17, .v (.int .i64 0)), (18, .v (.int .i64 0))], [mk 1 50 (c6.map (cdL 1 (cdL 1 cdI)).enc), mk 1 31 (c9.map (cdL 1 cdI).enc), mk 1 3 (c12.map cdI.enc)]⟩) ?_ ?_
        · refine RunS.segF (n := 115) e_ref09_Plan_ok 2 [(0, .v (.int .i64 x0)), (1, .sl 1 (x1.map cdI.enc)), (2, .v (.int .i64 x2)), (8, hd 0 (c6.map (cdL 1 (cdL 1 cdI)).enc)), (9, .v (.int .i64 c7)), (10, hd 1 (c9.map (cdL 1 cdI).enc)), (11, .v (.int .i64 c10)), (12, hd 2 (c12.map cdI.enc)), (13, .v (.int .i64 c15)), (14, .v (.int .i64 c16)), (15, .v (.int .i64 c17)), (16, .v (.int .i64 c18)), (17, .v (.int .i64 0)), (18, .v (.int .i64 0))] [mk 1 50 (c6.map (cdL 1 (cdL 1 cdI)).enc), mk 1 31 (c9.map (cdL 1 cdI).enc), mk 1 3 (c12.map cdI.enc)] (by kernel_rfl) ?_
          exact RunS.done rfl (Wk.s3 [0, 1, 2] ⟨⟨_, rfl, bu_mk⟩, ⟨_, rfl, bu_mk⟩, ⟨_, rfl, bu_mk⟩, trivial⟩ ⟨lv, lv, lv, lu_hd (b' := 0) (by kernel_rfl) (by kernel_rfl), lv, lu_hd (b' := 1) (by kernel_rfl) (by kernel_rfl), lv, lu_hd (b' := 2) (by kernel_rfl) (by kernel_rfl), lv, lv, lv, lv, lv, lv, trivial⟩)
        refine Sem.seq ?_
        refine Sem.seq ?_
        refine Sem.runS (s1 := ⟨Fr 115 [(0, .v (.int .i64 x0)), (1, .sl 1 (x1.map cdI.enc)), (2, .v (.int .i64 x2)), (8, hd 0 (c6.map (cdL 1 (cdL 1 cdI)).enc)), (9, .v (.int .i64 c7)), (10, hd 1 (c9.map (cdL 1 cdI).enc)), (11, .v (.int .i64 c10)), (12, hd 2 (c12.map cdI.enc)), (13, .v (.int .i64 c15)), (14, .v (.int .i64 c16)), (15, .v (.int .i64 c17)), (16, .v (.int .i64 c18)), (17, .v (.int .i64 0)), (18, .v (.int .i64 0)), (19, .v (.int .i64 0))], [mk 1 50 (c6.map (cdL 1 (cdL 1 cdI)).enc), mk 1 31 (c9.map (cdL 1 cdI).enc), mk 1 3 (c12.map cdI.enc)]⟩) ?_ ?_
        · refine RunS.segF (n := 115) e_ref09_Plan_ok 1 [(0, .v (.int .i64 x0)), (1, .sl 1 (x1.map cdI.enc)), (2, .v (.int .i64 x2)), (8, hd 0 (c6.map (cdL 1 (cdL 1 cdI)).enc)), (9, .v (.int .i64 c7)), (10, hd 1 (c9.map (cdL 1 cdI).enc)), (11, .v (.int .i64 c10)), (12, hd 2 (c12.map cdI.enc)), (13, .v (.int .i64 c15)), (14, .v (.int .i64 c16)), (15, .v (.int .i64 c17)), (16, .v (.int .i64 c18)), (17, .v (.int .i64 0)), (18, .v (.int .i64 0)), (19, .v (.int .i64 0))] [mk 1 50 (c6.map (cdL 1 (cdL 1 cdI)).enc), mk 1 31 (c9.map (cdL 1 cdI).enc), mk 1 3 (c12.map cdI.enc)] (by kernel_rfl) ?_
          exact RunS.done rfl (Wk.s3 [0, 1, 2] ⟨⟨_, rfl, bu_mk⟩, ⟨_, rfl, bu_mk⟩, ⟨_, rfl, bu_mk⟩, trivial⟩ ⟨lv, lv, lv, lu_hd (b' := 0) (by kernel_rfl) (by kernel_rfl), lv, lu_hd (b' := 1) (by kernel_rfl) (by kernel_rfl), lv, lu_hd (b' := 2) (by kernel_rfl) (by kernel_rfl), lv, lv, lv, lv, lv, lv, lv, trivial⟩)
        refine Sem.block ?_
        obtain ⟨r37, hr37, h⟩ := Option.bind_eq_some_iff.1 h
        refine Sem.loop (n := 100000) ?_
        refine Sem.cutN (SemN.wk (s1 := ⟨Fr 115 [(0, .v (.int .i64 x0)), (1, .sl 1 (x1.map cdI.enc)), (2, .v (.int .i64 x2)), (8, hd 0 (c6.map (cdL 1 (cdL 1 cdI)).enc)), (9, .v (.int .i64 c7)), (10, hd 1 (c9.map (cdL 1 cdI).enc)), (11, .v (.int .i64 c10)), (12, hd 2 (c12.map cdI.enc)), (13, .v (.int .i64 c15)), (14, .v (.int .i64 c16)), (15, .v (.int .i64 c17)), (16, .v (.int .i64 c18)), (17, .v (.int .i64 0)), (18, .v (.int .i64 0)), (19, .v (.int .i64 0))], [mk 1 50 (c6.map (cdL 1 (cdL 1 cdI)).enc), mk 1 31 (c9.map (cdL 1 cdI).enc), mk 1 3 (c12.map cdI.enc)]⟩) (Wk.s3 [0, 1, 2] ⟨⟨_, rfl, bu_mk⟩, ⟨_, rfl, bu_mk⟩, ⟨_, rfl, bu_mk⟩, trivial⟩ ⟨lv, lv, lv, lu_hd (b' := 0) (by kernel_rfl) (by kernel_rfl), lv, lu_hd (b' := 1) (by kernel_rfl) (by kernel_rfl), lv, lu_hd (b' := 2) (by kernel_rfl) (by kernel_rfl), lv, lv, lv, lv, lv, lv, lv, trivial⟩) (ref09_Plan_5_ok x0 x1 x2 c6 c7 c9 c10 c12 c15 c16 c17 c18 _ 0 0 0 _ hr37)) ?_
        refine Sem.seq ?_
        obtain ⟨j43, hj43, h⟩ := Option.bind_eq_some_iff.1 h
        refine Sem.runS (s1 := ⟨Fr 115 [(0, .v (.int .i64 x0)), (1, .sl 1 (x1.map cdI.enc)), (2, .v (.int .i64 x2)), (8, hd 0 (c6.map (cdL 1 (cdL 1 cdI)).enc)), (9, .v (.int .i64 c7)), (10, hd 1 (c9.map (cdL 1 cdI).enc)), (11, .v (.int .i64 c10)), (12, hd 2 (c12.map cdI.enc)), (13, .v (.int .i64 c15)), (14, .v (.int .i64 c16)), (15, .v (.int .i64 c17)), (16, .v (.int .i64 c18)), (17, .v (.int .i64 r37.1)), (18, .v (.int .i64 r37.2)), (98, .v (.bool j43))], [mk 1 50 (c6.map (cdL 1 (cdL 1 cdI)).enc), mk 1 31 (c9.map (cdL 1 cdI).enc), mk 1 3 (c12.map cdI.enc)]⟩) ?_ ?_
        · refine RunS.segF (n := 115) e_ref09_Plan_ok 3 [(0, .v (.int .i64 x0)), (1, .sl 1 (x1.map cdI.enc)), (2, .v (.int .i64 x2)), (8, hd 0 (c6.map (cdL 1 (cdL 1 cdI)).enc)), (9, .v (.int .i64 c7)), (10, hd 1 (c9.map (cdL 1 cdI).enc)), (11, .v (.int .i64 c10)), (12, hd 2 (c12.map cdI.enc)), (13, .v (.int .i64 c15)), (14, .v (.int .i64 c16)), (15, .v (.int .i64 c17)), (16, .v (.int .i64 c18)), (17, .v (.int .i64 r37.1)), (18, .v (.int .i64 r37.2)), (84, .v (.bool (decide (c15 < 0))))] [mk 1 50 (c6.map (cdL 1 (cdL 1 cdI)).enc), mk 1 31 (c9.map (cdL 1 cdI).enc), mk 1 3 (c12.map cdI.enc)] (by kernel_rfl) ?_
          rcases Bool.eq_false_or_eq_true (decide (c15 < 0)) with hc49 | hc49
          · rw [if_pos hc49] at hj43
            rw [hc49]
            refine RunS.segF (n := 115) e_ref09_Plan_ok 14 [(0, .v (.int .i64 x0)), (1, .sl 1 (x1.map cdI.enc)), (2, .v (.int .i64 x2)), (8, hd 0 (c6.map (cdL 1 (cdL 1 cdI)).enc)), (9, .v (.int .i64 c7)), (10, hd 1 (c9.map (cdL 1 cdI).enc)), (11, .v (.int .i64 c10)), (12, hd 2 (c12.map cdI.enc)), (13, .v (.int .i64 c15)), (14, .v (.int .i64 c16)), (15, .v (.int .i64 c17)), (16, .v (.int .i64 c18)), (17, .v (.int .i64 r37.1)), (18, .v (.int .i64 r37.2)), (85, .tp []), (86, .tp []), (87, .tp []), (90, .tp []), (91, .tp []), (92, .tp []), (93, .tp []), (94, .tp []), (95, .tp []), (96, .tp []), (97, .tp []), (98, .v (.bool true))] [mk 1 50 (c6.map (cdL 1 (cdL 1 cdI)).enc), mk 1 31 (c9.map (cdL 1 cdI).enc), mk 1 3 (c12.map cdI.enc)] (by kernel_rfl) ?_
            have hq := Option.some.inj hj43; subst hq
            exact RunS.done rfl (Wk.s3 [0, 1, 2] ⟨⟨_, rfl, bu_mk⟩, ⟨_, rfl, bu_mk⟩, ⟨_, rfl, bu_mk⟩, trivial⟩ ⟨lv, lv, lv, lu_hd (b' := 0) (by kernel_rfl) (by kernel_rfl), lv, lu_hd (b' := 1) (by kernel_rfl) (by kernel_rfl), lv, lu_hd (b' := 2) (by kernel_rfl) (by kernel_rfl), lv, lv, lv, lv, lv, lv, lv, trivial⟩)
          · rw [if_f hc49] at hj43
            rw [hc49]
            refine RunS.segF (n := 115) e_ref09_Plan_ok 5 [(0, .v (.int .i64 x0)), (1, .sl 1 (x1.map cdI.enc)), (2, .v (.int .i64 x2)), (8, hd 0 (c6.map (cdL 1 (cdL 1 cdI)).enc)), (9, .v (.int .i64 c7)), (10, hd 1 (c9.map (cdL 1 cdI).enc)), (11, .v (.int .i64 c10)), (12, hd 2 (c12.map cdI.enc)), (13, .v (.int .i64 c15)), (14, .v (.int .i64 c16)), (15, .v (.int .i64 c17)), (16, .v (.int .i64 c18)), (17, .v (.int .i64 r37.1)), (18, .v (.int .i64 r37.2)), (85, .v (.int .i64 r37.1)), (86, .v (.int .i64 c16)), (87, .v (.bool (decide (r37.1 < c16)))), (89, .v (.bool (decide (r37.1 < c16))))] [mk 1 50 (c6.map (cdL 1 (cdL 1 cdI)).enc), mk 1 31 (c9.map (cdL 1 cdI).enc), mk 1 3 (c12.map cdI.enc)] (by kernel_rfl) ?_
            rcases Bool.eq_false_or_eq_true (decide (r37.1 < c16)) with hc50 | hc50
            · rw [if_pos hc50] at hj43
              rw [hc50]
              refine RunS.segF (n := 115) e_ref09_Plan_ok 9 [(0, .v (.int .i64 x0)), (1, .sl 1 (x1.map cdI.enc)), (2, .v (.int .i64 x2)), (8, hd 0 (c6.map (cdL 1 (cdL 1 cdI)).enc)), (9, .v (.int .i64 c7)), (10, hd 1 (c9.map (cdL 1 cdI).enc)), (11, .v (.int .i64 c10)), (12, hd 2 (c12.map cdI.enc)), (13, .v (.int .i64 c15)), (14, .v (.int .i64 c16)), (15, .v (.int .i64 c17)), (16, .v (.int .i64 c18)), (17, .v (.int .i64 r37.1)), (18, .v (.int .i64 r37.2)), (85, .v (.int .i64 r37.1)), (86, .v (.int .i64 c16)), (87, .v (.bool true)), (90, .tp []), (91, .tp []), (92, .tp []), (93, .tp []), (94, .tp []), (95, .tp []), (96, .tp []), (97, .tp []), (98, .v (.bool true))] [mk 1 50 (c6.map (cdL 1 (cdL 1 cdI)).enc), mk 1 31 (c9.map (cdL 1 cdI).enc), mk 1 3 (c12.map cdI.enc)] (by kernel_rfl) ?_
              have hq := Option.some.inj hj43; subst hq
              exact RunS.done rfl (Wk.s3 [0, 1, 2] ⟨⟨_, rfl, bu_mk⟩, ⟨_, rfl, bu_mk⟩, ⟨_, rfl, bu_mk⟩, trivial⟩ ⟨lv, lv, lv, lu_hd (b' := 0) (by kernel_rfl) (by kernel_rfl), lv, lu_hd (b' := 1) (by kernel_rfl) (by kernel_rfl), lv, lu_hd (b' := 2) (by kernel_rfl) (by kernel_rfl), lv, lv, lv, lv, lv, lv, lv, trivial⟩)
            · rw [if_f hc50] at hj43
              rw [hc50]
              refine RunS.segF (n := 115) e_ref09_Plan_ok 4 [(0, .v (.int .i64 x0)), (1, .sl 1 (x1.map cdI.enc)), (2, .v (.int .i64 x2)), (8, hd 0 (c6.map (cdL 1 (cdL 1 cdI)).enc)), (9, .v (.int .i64 c7)), (10, hd 1 (c9.map (cdL 1 cdI).enc)), (11, .v (.int .i64 c10)), (12, hd 2 (c12.map cdI.enc)), (13, .v (.int .i64 c15)), (14, .v (.int .i64 c16)), (15, .v (.int .i64 c17)), (16, .v (.int .i64 c18)), (17, .v (.int .i64 r37.1)), (18, .v (.int .i64 r37.2)), (85, .v (.int .i64 r37.1)), (86, .v (.int .i64 c16)), (87, .v (.bool false)), (89, .v (.bool false)), (90, .v (.int .i64 r37.1)), (91, .v (.int .i64 c16)), (92, .v (.bool (r37.1 == c16))), (93, .v (.bool (r37.1 == c16)))] [mk 1 50 (c6.map (cdL 1 (cdL 1 cdI)).enc), mk 1 31 (c9.map (cdL 1 cdI).enc), mk 1 3 (c12.map cdI.enc)] (by kernel_rfl) ?_
              rcases Bool.eq_false_or_eq_true (r37.1 == c16) with hc51 | hc51
              · rw [if_pos hc51] at hj43
                rw [hc51]
                refine RunS.segF (n := 115) e_ref09_Plan_ok 5 [(0, .v (.int .i64 x0)), (1, .sl 1 (x1.map cdI.enc)), (2, .v (.int .i64 x2)), (8, hd 0 (c6.map (cdL 1 (cdL 1 cdI)).enc)), (9, .v (.int .i64 c7)), (10, hd 1 (c9.map (cdL 1 cdI).enc)), (11, .v (.int .i64 c10)), (12, hd 2 (c12.map cdI.enc)), (13, .v (.int .i64 c15)), (14, .v (.int .i64 c16)), (15, .v (.int .i64 c17)), (16, .v (.int .i64 c18)), (17, .v (.int .i64 r37.1)), (18, .v (.int .i64 r37.2)), (85, .v (.int .i64 r37.1)), (86, .v (.int .i64 c16)), (87, .v (.bool false)), (90, .v (.int .i64 r37.1)), (91, .v (.int .i64 c16)), (92, .v (.bool true)), (93, .v (.bool true)), (94, .v (.int .i64 r37.2)), (95, .v (.int .i64 c17)), (96, .v (.bool (decide (r37.2 < c17)))), (97, .v (.bool (decide (r37.2 < c17)))), (98, .v (.bool (decide (r37.2 < c17))))] [mk 1 50 (c6.map (cdL 1 (cdL 1 cdI)).enc), mk 1 31 (c9.map (cdL 1 cdI).enc), mk 1 3 (c12.map cdI.enc)] (by kernel_rfl) ?_
                have hq := Option.some.inj hj43; subst hq
                exact RunS.done rfl (Wk.s3 [0, 1, 2] ⟨⟨_, rfl, bu_mk⟩, ⟨_, rfl, bu_mk⟩, ⟨_, rfl, bu_mk⟩, trivial⟩ ⟨lv, lv, lv, lu_hd (b' := 0) (by kernel_rfl) (by kernel_rfl), lv, lu_hd (b' := 1) (by kernel_rfl) (by kernel_rfl), lv, lu_hd (b' := 2) (by kernel_rfl) (by kernel_rfl), lv, lv, lv, lv, lv, lv, lv, trivial⟩)
              · rw [if_f hc51] at hj43
                rw [hc51]
                refine RunS.segF (n := 115) e_ref09_Plan_ok 5 [(0, .v (.int .i64 x0)), (1, .sl 1 (x1.map cdI.enc)), (2, .v (.int .i64 x2)), (8, hd 0 (c6.map (cdL 1 (cdL 1 cdI)).enc)), (9, .v (.int .i64 c7)), (10, hd 1 (c9.map (cdL 1 cdI).enc)), (11, .v (.int .i64 c10)), (12, hd 2 (c12.map cdI.enc)), (13, .v (.int .i64 c15)), (14, .v (.int .i64 c16)), (15, .v (.int .i64 c17)), (16, .v (.int .i64 c18)), (17, .v (.int .i64 r37.1)), (18, .v (.int .i64 r37.2)), (85, .v (.int .i64 r37.1)), (86, .v (.int .i64 c16)), (87, .v (.bool false)), (90, .v (.int .i64 r37.1)), (91, .v (.int .i64 c16)), (92, .v (.bool false)), (93, .v (.bool false)), (94, .tp []), (95, .tp []), (96, .tp []), (97, .v (.bool false)), (98, .v (.bool false))] [mk 1 50 (c6.map (cdL 1 (cdL 1 cdI)).enc), mk 1 31 (c9.map (cdL 1 cdI).enc), mk 1 3 (c12.map cdI.enc)] (by kernel_rfl) ?_
                have hq := Option.some.inj hj43; subst hq
                exact RunS.done rfl (Wk.s3 [0, 1, 2] ⟨⟨_, rfl, bu_mk⟩, ⟨_, rfl, bu_mk⟩, ⟨_, rfl, bu_mk⟩, trivial⟩ ⟨lv, lv, lv, lu_hd (b' := 0) (by kernel_rfl) (by kernel_rfl), lv, lu_hd (b' := 1) (by kernel_rfl) (by kernel_rfl), lv, lu_hd (b' := 2) (by kernel_rfl) (by kernel_rfl), lv, lv, lv, lv, lv, lv, lv, trivial⟩)
        obtain ⟨r48, hr48, h⟩ := Option.bind_eq_some_iff.1 h
        refine Sem.cut (ref09_Plan_j6_ok x0 x1 x2 c6 c7 c9 c10 c12 c15 c16 c17 c18 r37 j43 _ hr48) ?_
        refine Sem.runS (s1 := ⟨Fr 115 [(0, .v (.int .i64 x0)), (1, .sl 1 (x1.map cdI.enc)), (2, .v (.int .i64 x2)), (8, hd 0 (c6.map (cdL 1 (cdL 1 cdI)).enc)), (9, .v (.int .i64 c7)), (10, hd 1 (c9.map (cdL 1 cdI).enc)), (11, .v (.int .i64 c10)), (12, hd 2 (c12.map cdI.enc)), (13, .v (.int .i64 r48.1)), (14, .v (.int .i64 r48.2.1)), (15, .v (.int .i64 r48.2.2)), (16, .v (.int .i64 (wr .i64 (c18 + 1))))], [mk 1 50 (c6.map (cdL 1 (cdL 1 cdI)).enc), mk 1 31 (c9.map (cdL 1 cdI).enc), mk 1 3 (c12.map cdI.enc)]⟩) ?_ ?_
        · refine RunS.segF (n := 115) e_ref09_Plan_ok 3 [(0, .v (.int .i64 x0)), (1, .sl 1 (x1.map cdI.enc)), (2, .v (.int .i64 x2)), (8, hd 0 (c6.map (cdL 1 (cdL 1 cdI)).enc)), (9, .v (.int .i64 c7)), (10, hd 1 (c9.map (cdL 1 cdI).enc)), (11, .v (.int .i64 c10)), (12, hd 2 (c12.map cdI.enc)), (13, .v (.int .i64 r48.1)), (14, .v (.int .i64 r48.2.1)), (15, .v (.int .i64 r48.2.2)), (16, .v (.int .i64 (wr .i64 (c18 + 1))))] [mk 1 50 (c6.map (cdL 1 (cdL 1 cdI)).enc), mk 1 31 (c9.map (cdL 1 cdI).enc), mk 1 3 (c12.map cdI.enc)] (by kernel_rfl) ?_
          exact RunS.done rfl (Wk.s3 [0, 1, 2] ⟨⟨_, rfl, bu_mk⟩, ⟨_, rfl, bu_mk⟩, ⟨_, rfl, bu_mk⟩, trivial⟩ ⟨lv, lv, lv, lu_hd (b' := 0) (by kernel_rfl) (by kernel_rfl), lv, lu_hd (b' := 1) (by kernel_rfl) (by kernel_rfl), lv, lu_hd (b' := 2) (by kernel_rfl) (by kernel_rfl), lv, lv, lv, lv, trivial⟩)
        exact SemN.wk (s1 := ⟨Fr 115 [(0, .v (.int .i64 x0)), (1, .sl 1 (x1.map cdI.enc)), (2, .v (.int .i64 x2)), (8, hd 0 (c6.map (cdL 1 (cdL 1 cdI)).enc)), (9, .v (.int .i64 c7)), (10, hd 1 (c9.map (cdL 1 cdI).enc)), (11, .v (.int .i64 c10)), (12, hd 2 (c12.map cdI.enc)), (13, .v (.int .i64 r48.1)), (14, .v (.int .i64 r48.2.1)), (15, .v (.int .i64 r48.2.2)), (16, .v (.int .i64 (wr .i64 (c18 + 1))))], [mk 1 50 (c6.map (cdL 1 (cdL 1 cdI)).enc), mk 1 31 (c9.map (cdL 1 cdI).enc), mk 1 3 (c12.map cdI.enc)]⟩) (Wk.s3 [0, 1, 2] ⟨⟨_, rfl, bu_mk⟩, ⟨_, rfl, bu_mk⟩, ⟨_, rfl, bu_mk⟩, trivial⟩ ⟨lv, lv, lv, lu_hd (b' := 0) (by kernel_rfl) (by kernel_rfl), lv, lu_hd (b' := 1) (by kernel_rfl) (by kernel_rfl), lv, lu_hd (b' := 2) (by kernel_rfl) (by kernel_rfl), lv, lv, lv, lv, trivial⟩) (ih r48.1 r48.2.1 r48.2.2 (wr .i64 (c18 + 1)) h)
    · rw [if_f hb19] at h
      refine Sem.exit ?_
      have hq := Option.some.inj h; subst hq
      exact ⟨rfl, (Wk.s3 [0, 1, 2] ⟨⟨_, rfl, bu_mk⟩, ⟨_, rfl, bu_mk⟩, ⟨_, rfl, bu_mk⟩, trivial⟩ ⟨lv, lv, lv, lu_hd (b' := 0) (by kernel_rfl) (by kernel_rfl), lv, lu_hd (b' := 1) (by kernel_rfl) (by kernel_rfl), lv, lu_hd (b' := 2) (by kernel_rfl) (by kernel_rfl), lv, trivial⟩)⟩
set_option maxHeartbeats 4000000 in
set_option maxRecDepth 100000 in
theorem ref09_Plan_3_ok (x0 : Int) (x1 : (List Int)) (x2 : Int) (c6 : (List (List (List Int)))) (c7 : Int) (c9 : (List (List Int))) (c10 : Int) : ∀ (f : Nat) (c12 : (List Int)) (r : ((List Int))), ref09_Plan_3 x0 x1 x2 c6 c7 c9 c10 f c12 = some r → SemN e_ref09_Plan ⟨none, false⟩ (pc cb_ref09_Plan [1, 1, 1, 1, 0, 1, 0, 0, 1, 0, 0, 1, 0, 1, 0, 0, 1, 0, 0, 1, 0, 0, 0]) f ⟨Fr 115 [(0, .v (.int .i64 x0)), (1, .sl 1 (x1.map cdI.enc)), (2, .v (.int .i64 x2)), (8, hd 0 (c6.map (cdL 1 (cdL 1 cdI)).enc)), (9, .v (.int .i64 c7)), (10, hd 1 (c9.map (cdL 1 cdI).enc)), (11, .v (.int .i64 c10)), (12, hd 2 (c12.map cdI.enc))], [mk 1 50 (c6.map (cdL 1 (cdL 1 cdI)).enc), mk 1 31 (c9.map (cdL 1 cdI).enc), mk 1 3 (c12.map cdI.enc)]⟩ (fun e s => e = (.exit 4) ∧ Wk e_ref09_Plan s ⟨Fr 115 [(0, .v (.int .i64 x0)), (1, .sl 1 (x1.map cdI.enc)), (2, .v (.int .i64 x2)), (8, hd 0 (c6.map (cdL 1 (cdL 1 cdI)).enc)), (9, .v (.int .i64 c7)), (10, hd 1 (c9.map (cdL 1 cdI).enc)), (11, .v (.int .i64 c10)), (12, hd 2 (r.map cdI.enc))], [mk 1 50 (c6.map (cdL 1 (cdL 1 cdI)).enc), mk 1 31 (c9.map (cdL 1 cdI).enc), mk 1 3 (r.map cdI.enc)]⟩) := by
  intro f
  induction f with
  | zero => intro c12 r h; cases h
  | succ f ih0 =>
    intro c12 r h
    have ih := fun (c12 : (List Int)) => ih0 c12 r
    unfold ref09_Plan_3 at h
    refine SemN.succ ?_
    refine Sem.seq ?_
    refine Sem.seq ?_
    obtain ⟨v13, hv13, h⟩ := Option.bind_eq_some_iff.1 h
    refine Sem.runS (s1 := ⟨Fr 115 [(0, .v (.int .i64 x0)), (1, .sl 1 (x1.map cdI.enc)), (2, .v (.int .i64 x2)), (8, hd 0 (c6.map (cdL 1 (cdL 1 cdI)).enc)), (9, .v (.int .i64 c7)), (10, hd 1 (c9.map (cdL 1 cdI).enc)), (11, .v (.int .i64 c10)), (12, hd 2 (c12.map cdI.enc)), (48, .v (.bool (decide ((c12.length : Int) < v13))))], [mk 1 50 (c6.map (cdL 1 (cdL 1 cdI)).enc), mk 1 31 (c9.map (cdL 1 cdI).enc), mk 1 3 (c12.map cdI.enc)]⟩) ?_ ?_
    · refine RunS.segF (n := 115) e_ref09_Plan_ok 1 [(0, .v (.int .i64 x0)), (1, .sl 1 (x1.map cdI.enc)), (2, .v (.int .i64 x2)), (8, hd 0 (c6.map (cdL 1 (cdL 1 cdI)).enc)), (9, .v (.int .i64 c7)), (10, hd 1 (c9.map (cdL 1 cdI).enc)), (11, .v (.int .i64 c10)), (12, hd 2 (c12.map cdI.enc)), (42, hd 2 (c12.map cdI.enc))] [mk 1 50 (c6.map (cdL 1 (cdL 1 cdI)).enc), mk 1 31 (c9.map (cdL 1 cdI).enc), mk 1 3 (c12.map cdI.enc)] (by kernel_rfl) ?_
      refine RunS.one e_ref09_Plan_ok 0 rfl (op_q (wantedA_none rfl) rfl (q_len (a := hd 2 (c12.map cdI.enc)) (by kernel_rfl) (len_hd' (xs := c12) (e := cdI.enc) (el := 3) (by kernel_rfl)))) ?_
      refine RunS.segF (n := 115) e_ref09_Plan_ok 2 [(0, .v (.int .i64 x0)), (1, .sl 1 (x1.map cdI.enc)), (2, .v (.int .i64 x2)), (8, hd 0 (c6.map (cdL 1 (cdL 1 cdI)).enc)), (9, .v (.int .i64 c7)), (10, hd 1 (c9.map (cdL 1 cdI).enc)), (11, .v (.int .i64 c10)), (12, hd 2 (c12.map cdI.enc)), (43, .v (.int .i64 (c12.length : Int))), (44, .sl 1 (x1.map cdI.enc)), (45, .v (.int .i64 c10))] [mk 1 50 (c6.map (cdL 1 (cdL 1 cdI)).enc), mk 1 31 (c9.map (cdL 1 cdI).enc), mk 1 3 (c12.map cdI.enc)] (by kernel_rfl) ?_
      refine RunS.one e_ref09_Plan_ok 0 rfl (op_q (wantedA_none rfl) rfl (q_indexAddr (a := .sl 1 (x1.map cdI.enc)) (b := .v (.int .i64 c10)) (by kernel_rfl) (by kernel_rfl) (ix_sl (e := cdI.enc) (el := 3) (k := 1) (ki := .i64) (by kernel_rfl) (by kernel_rfl) hv13))) ?_
      refine RunS.segF (n := 115) e_ref09_Plan_ok 2 [(0, .v (.int .i64 x0)), (1, .sl 1 (x1.map cdI.enc)), (2, .v (.int .i64 x2)), (8, hd 0 (c6.map (cdL 1 (cdL 1 cdI)).enc)), (9, .v (.int .i64 c7)), (10, hd 1 (c9.map (cdL 1 cdI).enc)), (11, .v (.int .i64 c10)), (12, hd 2 (c12.map cdI.enc)), (48, .v (.bool (decide ((c12.length : Int) < v13))))] [mk 1 50 (c6.map (cdL 1 (cdL 1 cdI)).enc), mk 1 31 (c9.map (cdL 1 cdI).enc), mk 1 3 (c12.map cdI.enc)] (by kernel_rfl) ?_
      exact RunS.done rfl (Wk.s3 [0, 1, 2] ⟨⟨_, rfl, bu_mk⟩, ⟨_, rfl, bu_mk⟩, ⟨_, rfl, bu_mk⟩, trivial⟩ ⟨lv, lv, lv, lu_hd (b' := 0) (by kernel_rfl) (by kernel_rfl), lv, lu_hd (b' := 1) (by kernel_rfl) (by kernel_rfl), lv, lu_hd (b' := 2) (by kernel_rfl) (by kernel_rfl), lv, trivial⟩)
    refine Sem.cond (b := (decide ((c12.length : Int) < v13))) (by kernel_rfl) (fun hb14 => ?_) (fun hb14 => ?_)
    · rw [if_pos hb14] at h
      refine Sem.skip ?_
      refine Sem.block ?_
      refine Sem.seq ?_
      refine Sem.runS (s1 := ⟨Fr 115 [(0, .v (.int .i64 x0)), (1, .sl 1 (x1.map cdI.enc)), (2, .v (.int .i64 x2)), (8, hd 0 (c6.map (cdL 1 (cdL 1 cdI)).enc)), (9, .v (.int .i64 c7)), (10, hd 1 (c9.map (cdL 1 cdI).enc)), (11, .v (.int .i64 c10)), (12, hd 2 (c12.map cdI.enc)), (13, .v (.int .i64 (-1))), (14, .v (.int .i64 0)), (15, .v (.int .i64 0))], [mk 1 50 (c6.map (cdL 1 (cdL 1 cdI)).enc), mk 1 31 (c9.map (cdL 1 cdI).enc), mk 1 3 (c12.map cdI.enc)]⟩) ?_ ?_
      · refine RunS.segF (n := 115) e_ref09_Plan_ok 3 [(0, .v (.int .i64 x0)), (1, .sl 1 (x1.map cdI.enc)), (2, .v (.int .i64 x2)), (8, hd 0 (c6.map (cdL 1 (cdL 1 cdI)).enc)), (9, .v (.int .i64 c7)), (10, hd 1 (c9.map (cdL 1 cdI).enc)), (11, .v (.int .i64 c10)), (12, hd 2 (c12.map cdI.enc)), (13, .v (.int .i64 (-1))), (14, .v (.int .i64 0)), (15, .v (.int .i64 0))] [mk 1 50 (c6.map (cdL 1 (cdL 1 cdI)).enc), mk 1 31 (c9.map (cdL 1 cdI).enc), mk 1 3 (c12.map cdI.enc)] (by kernel_rfl) ?_
        exact RunS.done rfl (Wk.s3 [0, 1, 2] ⟨⟨_, rfl, bu_mk⟩, ⟨_, rfl, bu_mk⟩, ⟨_, rfl, bu_mk⟩, trivial⟩ ⟨lv, lv, lv, lu_hd (b' := 0) (by kernel_rfl) (by kernel_rfl), lv, lu_hd (b' := 1) (by kernel_rfl) (by kernel_rfl), lv, lu_hd (b' := 2) (by kernel_rfl) (by kernel_rfl), lv, lv, lv, trivial⟩)
      refine Sem.seq ?_
      refine Sem.seq ?_
      refine Sem.runS (s1 := ⟨Fr 115 [(0, .v (.int .i64 x0)), (1, .sl 1 (x1.map cdI.enc)), (2, .v (.int .i64 x2)), (8, hd 0 (c6.map (cdL 1 (cdL 1 cdI)).enc)), (9, .v (.int .i64 c7)), (10, hd 1 (c9.map (cdL 1 cdI).enc)), (11, .v (.int .i64 c10)), (12, hd 2 (c12.map cdI.enc)), (13, .v (.int .i64 (-1))), (14, .v (.int .i64 0)), (15, .v (.int .i64 0)), (16, .v (.int .i64 0))], [mk 1 50 (c6.map (cdL 1 (cdL 1 cdI)).enc), mk 1 31 (c9.map (cdL 1 cdI).enc), mk 1 3 (c12.map cdI.enc)]⟩) ?_ ?_
      · refine RunS.segF (n := 115) e_ref09_Plan_ok 1 [(0, .v (.int .i64 x0)), (1, .sl 1 (x1.map cdI.enc)), (2, .v (.int .i64 x2)), (8, hd 0 (c6.map (cdL 1 (cdL 1 cdI)).enc)), (9, .v (.int .i64 c7)), (10, hd 1 (c9.map (cdL 1 cdI).enc)), (11, .v (.int .i64 c10)), (12, hd 2 (c12.map cdI.enc)), (13, .v (.int .i64 (-1))), (14, .v (.int .i64 0)), (15, .v (.int .i64 0)), (16, .v (.int .i64 0))] [mk 1 50 (c6.map (cdL 1 (cdL 1 cdI)).enc), mk 1 31 (c9.map (cdL 1 cdI).enc), mk 1 3 (c12.map cdI.enc)] (by kernel_rfl) ?_
        exact RunS.done rfl (Wk.s3 [0, 1, 2] ⟨⟨_, rfl, bu_mk⟩, ⟨_, rfl, bu_mk⟩, ⟨_, rfl, bu_mk⟩, trivial⟩ ⟨lv, lv, lv, lu_hd (b' := 0) (by kernel_rfl) (by kernel_rfl), lv, lu_hd (b' := 1) (by kernel_rfl) (by kernel_rfl), lv, lu_hd (b' := 2) (by kernel_rfl) (by kernel_rfl), lv, lv, lv, lv, trivial⟩)
      refine Sem.block ?_
      obtain ⟨r54, hr54, h⟩ := Option.bind_eq_some_iff.1 h
      refine Sem.loop (n := 100000) ?_
      refine Sem.cutN (SemN.wk (s1 := ⟨Fr 115 [(0, .v (.int .i64 x0)), (1, .sl 1 (x1.map cdI.enc)), (2, .v (.int .i64 x2)), (8, hd 0 (c6.map (cdL 1 (cdL 1 cdI)).enc)), (9, .v (.int .i64 c7)), (10, hd 1 (c9.map (cdL 1 cdI).enc)), (11, .v (.int .i64 c10)), (12, hd 2 (c12.map cdI.enc)), (13, .v (.int .i64 (-1))), (14, .v (.int .i64 0)), (15, .v (.int .i64 0)), (16, .v (.int .i64 0))], [mk 1 50 (c6.map (cdL 1 (cdL 1 cdI)).enc), mk 1 31 (c9.map (cdL 1 cdI).enc), mk 1 3 (c12.map cdI.enc)]⟩) (Wk.s3 [0, 1, 2] ⟨⟨_, rfl, bu_mk⟩, ⟨_, rfl, bu_mk⟩, ⟨_, rfl, bu_mk⟩, trivial⟩ ⟨lv, lv, lv, lu_hd (b' := 0) (by kernel_rfl) (by kernel_rfl), lv, lu_hd (b' := 1) (by kernel_rfl) (by kernel_rfl), lv, lu_hd (b' := 2) (by kernel_rfl) (by kernel_rfl), lv, lv, lv, lv, trivial⟩) (ref09_Plan_4_ok x0 x1 x2 c6 c7 c9 c10 c12 _ (-1) 0 0 0 _ hr54)) ?_
      by_cases hk55 : (capOk 8 (c12.length + 1)) = true
      case neg => rw [if_neg hk55] at h; cases h
      rw [if_pos hk55] at h
      refine Sem.runS (s1 := ⟨Fr 115 [(0, .v (.int .i64 x0)), (1, .sl 1 (x1.map cdI.enc)), (2, .v (.int .i64 x2)), (8, hd 0 (c6.map (cdL 1 (cdL 1 cdI)).enc)), (9, .v (.int .i64 c7)), (10, hd 1 (c9.map (cdL 1 cdI).enc)), (11, .v (.int .i64 c10)), (12, hd 2 ((c12 ++ [r54]).map cdI.enc))], [mk 1 50 (c6.map (cdL 1 (cdL 1 cdI)).enc), mk 1 31 (c9.map (cdL 1 cdI).enc), mk 1 3 ((c12 ++ [r54]).map cdI.enc)]⟩) ?_ ?_
      · refine RunS.segF (n := 115) e_ref09_Plan_ok 3 [(0, .v (.int .i64 x0)), (1, .sl 1 (x1.map cdI.enc)), (2, .v (.int .i64 x2)), (8, hd 0 (c6.map (cdL 1 (cdL 1 cdI)).enc)), (9, .v (.int .i64 c7)), (10, hd 1 (c9.map (cdL 1 cdI).enc)), (11, .v (.int .i64 c10)), (102, hd 2 (c12.map cdI.enc)), (104, hd 3 ([r54].map cdI.enc))] [mk 1 50 (c6.map (cdL 1 (cdL 1 cdI)).enc), mk 1 31 (c9.map (cdL 1 cdI).enc), mk 1 3 (c12.map cdI.enc), mk 1 3 ([r54].map cdI.enc)] (by kernel_rfl) ?_
        refine RunS.one e_ref09_Plan_ok 0 rfl (op_w (wantedA_none rfl) rfl (by kernel_rfl) (by kernel_rfl) (w_append (a := hd 2 (c12.map cdI.enc)) (b := hd 3 ([r54].map cdI.enc)) (by kernel_rfl) (by kernel_rfl) (append_B (c := cdI) (xs := c12) (vs := [r54]) (k := 1) (bytes := 8) (el := 3) (by kernel_rfl) (by kernel_rfl) (elems_hd (t := 3) (by kernel_rfl)) (List.cons_ne_nil _ _) (by kernel_rfl) hk55))) ?_
        refine RunS.segF (n := 115) e_ref09_Plan_ok 1 [(0, .v (.int .i64 x0)), (1, .sl 1 (x1.map cdI.enc)), (2, .v (.int .i64 x2)), (8, hd 0 (c6.map (cdL 1 (cdL 1 cdI)).enc)), (9, .v (.int .i64 c7)), (10, hd 1 (c9.map (cdL 1 cdI).enc)), (11, .v (.int .i64 c10)), (12, hd 4 ((c12 ++ [r54]).map cdI.enc))] [mk 1 50 (c6.map (cdL 1 (cdL 1 cdI)).enc), mk 1 31 (c9.map (cdL 1 cdI).enc), none, mk 1 3 ([r54].map cdI.enc), mk 1 3 ((c12 ++ [r54]).map cdI.enc)] (by kernel_rfl) ?_
        exact RunS.done rfl (Wk.s3 [0, 1, 4] ⟨⟨_, rfl, bu_mk⟩, ⟨_, rfl, bu_mk⟩, ⟨_, rfl, bu_mk⟩, trivial⟩ ⟨lv, lv, lv, lu_hd (b' := 0) (by kernel_rfl) (by kernel_rfl), lv, lu_hd (b' := 1) (by kernel_rfl) (by kernel_rfl), lv, lu_hd (b' := 4) (by kernel_rfl) (by kernel_rfl), trivial⟩)
      exact SemN.wk (s1 := ⟨Fr 115 [(0, .v (.int .i64 x0)), (1, .sl 1 (x1.map cdI.enc)), (2, .v (.int .i64 x2)), (8, hd 0 (c6.map (cdL 1 (cdL 1 cdI)).enc)), (9, .v (.int .i64 c7)), (10, hd 1 (c9.map (cdL 1 cdI).enc)), (11, .v (.int .i64 c10)), (12, hd 2 ((c12 ++ [r54]).map cdI.enc))], [mk 1 50 (c6.map (cdL 1 (cdL 1 cdI)).enc), mk 1 31 (c9.map (cdL 1 cdI).enc), mk 1 3 ((c12 ++ [r54]).map cdI.enc)]⟩) (Wk.s3 [0, 1, 2] ⟨⟨_, rfl, bu_mk⟩, ⟨_, rfl, bu_mk⟩, ⟨_, rfl, bu_mk⟩, trivial⟩ ⟨lv, lv, lv, lu_hd (b' := 0) (by kernel_rfl) (by kernel_rfl), lv, lu_hd (b' := 1) (by kernel_rfl) (by kernel_rfl), lv, lu_hd (b' := 2) (by kernel_rfl) (by kernel_rfl), trivial⟩) (ih (c12 ++ [r54]) h)
    · rw [if_f hb14] at h
      refine Sem.exit ?_
      have hq := Option.some.inj h; subst hq
      exact ⟨rfl, (Wk.s3 [0, 1, 2] ⟨⟨_, rfl, bu_mk⟩, ⟨_, rfl, bu_mk⟩, ⟨_, rfl, bu_mk⟩, trivial⟩ ⟨lv, lv, lv, lu_hd (b' := 0) (by kernel_rfl) (by kernel_rfl), lv, lu_hd (b' := 1) (by kernel_rfl) (by kernel_rfl), lv, lu_hd (b' := 2) (by kernel_rfl) (by kernel_rfl), trivial⟩)⟩
set_option maxHeartbeats 4000000 in
set_option maxRecDepth 100000 in
theorem ref09_Plan_2_ok (x0 : Int) (x1 : (List Int)) (x2 : Int) (c6 : (List (List (List Int)))) (c7 : Int) : ∀ (f : Nat) (c9 : (List (List Int))) (c10 : Int) (r : ((List (List Int)))), ref09_Plan_2 x0 x1 x2 c6 c7 f c9 c10 = some r → SemN e_ref09_Plan ⟨none, false⟩ (pc cb_ref09_Plan [1, 1, 1, 1, 0, 1, 0, 0, 1, 0, 0, 1, 0, 1, 0, 0]) f ⟨Fr 115 [(0, .v (.int .i64 x0)), (1, .sl 1 (x1.map cdI.enc)), (2, .v (.int .i64 x2)), (8, hd 0 (c6.map (cdL 1 (cdL 1 cdI)).enc)), (9, .v (.int .i64 c7)), (10, hd 1 (c9.map (cdL 1 cdI).enc)), (11, .v (.int .i64 c10))], [mk 1 50 (c6.map (cdL 1 (cdL 1 cdI)).enc), mk 1 31 (c9.map (cdL 1 cdI).enc)]⟩ (fun e s => e = (.exit 2) ∧ Wk e_ref09_Plan s ⟨Fr 115 [(0, .v (.int .i64 x0)), (1, .sl 1 (x1.map cdI.enc)), (2, .v (.int .i64 x2)), (8, hd 0 (c6.map (cdL 1 (cdL 1 cdI)).enc)), (9, .v (.int .i64 c7)), (10, hd 1 (r.map (cdL 1 cdI).enc))], [mk 1 50 (c6.map (cdL 1 (cdL 1 cdI)).enc), mk 1 31 (r.map (cdL 1 cdI).enc)]⟩) := by
  intro f
  induction f with
  | zero => intro c9 c10 r h; cases h
  | succ f ih0 =>
    intro c9 c10 r h
    have ih := fun (c9 : (List (List Int))) (c10 : Int) => ih0 c9 c10 r
    unfold ref09_Plan_2 at h
    refine SemN.succ ?_
    refine Sem.seq ?_
    refine Sem.seq ?_
    refine Sem.runS (s1 := ⟨Fr 115 [(0, .v (.int .i64 x0)), (1, .sl 1 (x1.map cdI.enc)), (2, .v (.int .i64 x2)), (8, hd 0 (c6.map (cdL 1 (cdL 1 cdI)).enc)), (9, .v (.int .i64 c7)), (10, hd 1 (c9.map (cdL 1 cdI).enc)), (11, .v (.int .i64 c10)), (39, .v (.bool (decide (c10 < (x1.length : Int)))))], [mk 1 50 (c6.map (cdL 1 (cdL 1 cdI)).enc), mk 1 31 (c9.map (cdL 1 cdI).enc)]⟩) ?_ ?_
    · refine RunS.segF (n := 115) e_ref09_Plan_ok 2 [(0, .v (.int .i64 x0)), (1, .sl 1 (x1.map cdI.enc)), (2, .v (.int .i64 x2)), (8, hd 0 (c6.map (cdL 1 (cdL 1 cdI)).enc)), (9, .v (.int .i64 c7)), (10, hd 1 (c9.map (cdL 1 cdI).enc)), (11, .v (.int .i64 c10)), (36, .v (.int .i64 c10)), (37, .sl 1 (x1.map cdI.enc))] [mk 1 50 (c6.map (cdL 1 (cdL 1 cdI)).enc), mk 1 31 (c9.map (cdL 1 cdI).enc)] (by kernel_rfl) ?_
      refine RunS.one e_ref09_Plan_ok 0 rfl (op_q (wantedA_none rfl) rfl (q_len (a := .sl 1 (x1.map cdI.enc)) (by kernel_rfl) (len_sl (el := 3) (by kernel_rfl)))) ?_
      refine RunS.segF (n := 115) e_ref09_Plan_ok 1 [(0, .v (.int .i64 x0)), (1, .sl 1 (x1.map cdI.enc)), (2, .v (.int .i64 x2)), (8, hd 0 (c6.map (cdL 1 (cdL 1 cdI)).enc)), (9, .v (.int .i64 c7)), (10, hd 1 (c9.map (cdL 1 cdI).enc)), (11, .v (.int .i64 c10)), (39, .v (.bool (decide (c10 < (x1.length : Int)))))] [mk 1 50 (c6.map (cdL 1 (cdL 1 cdI)).enc), mk 1 31 (c9.map (cdL 1 cdI).enc)] (by kernel_rfl) ?_
      exact RunS.done rfl (Wk.s3 [0, 1] ⟨⟨_, rfl, bu_mk⟩, ⟨_, rfl, bu_mk⟩, trivial⟩ ⟨lv, lv, lv, lu_hd (b' := 0) (by kernel_rfl) (by kernel_rfl), lv, lu_hd (b' := 1) (by kernel_rfl) (by kernel_rfl), lv, lv, trivial⟩)
    refine Sem.cond (b := (decide (c10 < (x1.length : Int)))) (by kernel_rfl) (fun hb11 => ?_) (fun hb11 => ?_)
    · rw [if_pos hb11] at h
      refine Sem.skip ?_
      refine Sem.seq ?_
      refine Sem.block ?_
      refine Sem.seq ?_
      refine Sem.runS (s1 := ⟨Fr 115 [(0, .v (.int .i64 x0)), (1, .sl 1 (x1.map cdI.enc)), (2, .v (.int .i64 x2)), (8, hd 0 (c6.map (cdL 1 (cdL 1 cdI)).enc)), (9, .v (.int .i64 c7)), (10, hd 1 (c9.map (cdL 1 cdI).enc)), (11, .v (.int .i64 c10)), (12, .e0)], [mk 1 50 (c6.map (cdL 1 (cdL 1 cdI)).enc), mk 1 31 (c9.map (cdL 1 cdI).enc)]⟩) ?_ ?_
      · refine RunS.segF (n := 115) e_ref09_Plan_ok 1 [(0, .v (.int .i64 x0)), (1, .sl 1 (x1.map cdI.enc)), (2, .v (.int .i64 x2)), (8, hd 0 (c6.map (cdL 1 (cdL 1 cdI)).enc)), (9, .v (.int .i64 c7)), (10, hd 1 (c9.map (cdL 1 cdI).enc)), (11, .v (.int .i64 c10)), (12, .e0)] [mk 1 50 (c6.map (cdL 1 (cdL 1 cdI)).enc), mk 1 31 (c9.map (cdL 1 cdI).enc)] (by kernel_rfl) ?_
        exact RunS.done rfl (Wk.s3 [0, 1] ⟨⟨_, rfl, bu_mk⟩, ⟨_, rfl, bu_mk⟩, trivial⟩ ⟨lv, lv, lv, lu_hd (b' := 0) (by kernel_rfl) (by kernel_rfl), lv, lu_hd (b' := 1) (by kernel_rfl) (by kernel_rfl), lv, lv, trivial⟩)
      refine Sem.seq ?_
      refine Sem.block ?_
      obtain ⟨r57, hr57, h⟩ := Option.bind_eq_some_iff.1 h
      refine Sem.loop (n := 100000) ?_
      refine Sem.cutN (SemN.wk (s1 := ⟨Fr 115 [(0, .v (.int .i64 x0)), (1, .sl 1 (x1.map cdI.enc)), (2, .v (.int .i64 x2)), (8, hd 0 (c6.map (cdL 1 (cdL 1 cdI)).enc)), (9, .v (.int .i64 c7)), (10, hd 1 (c9.map (cdL 1 cdI).enc)), (11, .v (.int .i64 c10)), (12, hd 2 ([].map cdI.enc))], [mk 1 50 (c6.map (cdL 1 (cdL 1 cdI)).enc), mk 1 31 (c9.map (cdL 1 cdI).enc), mk 1 3 ([].map cdI.enc)]⟩) (Wk.trans (s1 := ⟨Fr 115 [(0, .v (.int .i64 x0)), (1, .sl 1 (x1.map cdI.enc)), (2, .v (.int .i64 x2)), (8, hd 0 (c6.map (cdL 1 (cdL 1 cdI)).enc)), (9, .v (.int .i64 c7)), (10, hd 1 (c9.map (cdL 1 cdI).enc)), (11, .v (.int .i64 c10)), (12, hd 2 ([].map cdI.enc))], [mk 1 50 (c6.map (cdL 1 (cdL 1 cdI)).enc), mk 1 31 (c9.map (cdL 1 cdI).enc), mk 1 3 ([].map cdI.enc)]⟩) Wk.none (Wk.s3 [0, 1, 2] ⟨⟨_, rfl, bu_mk⟩, ⟨_, rfl, bu_mk⟩, ⟨_, rfl, bu_none⟩, trivial⟩ ⟨lv, lv, lv, lu_hd (b' := 0) (by kernel_rfl) (by kernel_rfl), lv, lu_hd (b' := 1) (by kernel_rfl) (by kernel_rfl), lv, lv, trivial⟩)) (ref09_Plan_3_ok x0 x1 x2 c6 c7 c9 c10 _ [] _ hr57)) ?_
      by_cases hk58 : (capOk 24 (c9.length + 1)) = true
      case neg => rw [if_neg hk58] at h; cases h
      rw [if_pos hk58] at h
      refine Sem.runS (s1 := ⟨Fr 115 [(0, .v (.int .i64 x0)), (1, .sl 1 (x1.map cdI.enc)), (2, .v (.int .i64 x2)), (8, hd 0 (c6.map (cdL 1 (cdL 1 cdI)).enc)), (9, .v (.int .i64 c7)), (10, hd 1 ((c9 ++ [r57]).map (cdL 1 cdI).enc)), (11, .v (.int .i64 c10))], [mk 1 50 (c6.map (cdL 1 (cdL 1 cdI)).enc), mk 1 31 ((c9 ++ [r57]).map (cdL 1 cdI).enc)]⟩) ?_ ?_
      · refine RunS.segF (n := 115) e_ref09_Plan_ok 2 [(0, .v (.int .i64 x0)), (1, .sl 1 (x1.map cdI.enc)), (2, .v (.int .i64 x2)), (8, hd 0 (c6.map (cdL 1 (cdL 1 cdI)).enc)), (9, .v (.int .i64 c7)), (11, .v (.int .i64 c10)), (106, hd 1 (c9.map (cdL 1 cdI).enc)), (107, hd 2 (r57.map cdI.enc))] [mk 1 50 (c6.map (cdL 1 (cdL 1 cdI)).enc), mk 1 31 (c9.map (cdL 1 cdI).enc), mk 1 3 (r57.map cdI.enc)] (by kernel_rfl) ?_
        refine RunS.wk (s1 := ⟨Fr 115 [(0, .v (.int .i64 x0)), (1, .sl 1 (x1.map cdI.enc)), (2, .v (.int .i64 x2)), (8, hd 0 (c6.map (cdL 1 (cdL 1 cdI)).enc)), (9, .v (.int .i64 c7)), (11, .v (.int .i64 c10)), (106, hd 1 (c9.map (cdL 1 cdI).enc)), (107, .sl 1 (r57.map cdI.enc))], [mk 1 50 (c6.map (cdL 1 (cdL 1 cdI)).enc), mk 1 31 (c9.map (cdL 1 cdI).enc), none]⟩) (Wk.frzG 2 (.inl (by kernel_rfl)) ⟨.inr (.inl rfl), .inr (.inl rfl), .inl rfl, trivial⟩ ⟨⟨.v (.int .i64 x0), (by kernel_rfl), .inl rfl⟩, ⟨.sl 1 (x1.map cdI.enc), (by kernel_rfl), .inl rfl⟩, ⟨.v (.int .i64 x2), (by kernel_rfl), .inl rfl⟩, ⟨hd 0 (c6.map (cdL 1 (cdL 1 cdI)).enc), (by kernel_rfl), .inl rfl⟩, ⟨.v (.int .i64 c7), (by kernel_rfl), .inl rfl⟩, ⟨.v (.int .i64 c10), (by kernel_rfl), .inl rfl⟩, ⟨hd 1 (c9.map (cdL 1 cdI).enc), (by kernel_rfl), .inl rfl⟩, ⟨hd 2 (r57.map cdI.enc), (by kernel_rfl), fz_hd (t := 3) (by kernel_rfl) enc_ok⟩, trivial⟩) ?_
        refine RunS.segF (n := 115) e_ref09_Plan_ok 1 [(0, .v (.int .i64 x0)), (1, .sl 1 (x1.map cdI.enc)), (2, .v (.int .i64 x2)), (8, hd 0 (c6.map (cdL 1 (cdL 1 cdI)).enc)), (9, .v (.int .i64 c7)), (11, .v (.int .i64 c10)), (106, hd 1 (c9.map (cdL 1 cdI).enc)), (108, hd 3 ([r57].map (cdL 1 cdI).enc))] [mk 1 50 (c6.map (cdL 1 (cdL 1 cdI)).enc), mk 1 31 (c9.map (cdL 1 cdI).enc), none, mk 1 31 ([r57].map (cdL 1 cdI).enc)] (by kernel_rfl) ?_
        refine RunS.one e_ref09_Plan_ok 0 rfl (op_w (wantedA_none rfl) rfl (by kernel_rfl) (by kernel_rfl) (w_append (a := hd 1 (c9.map (cdL 1 cdI).enc)) (b := hd 3 ([r57].map (cdL 1 cdI).enc)) (by kernel_rfl) (by kernel_rfl) (append_B (c := (cdL 1 cdI)) (xs := c9) (vs := [r57]) (k := 1) (bytes := 24) (el := 31) (by kernel_rfl) (by kernel_rfl) (elems_hd (t := 31) (by kernel_rfl)) (List.cons_ne_nil _ _) (by kernel_rfl) hk58))) ?_
        refine RunS.segF (n := 115) e_ref09_Plan_ok 1 [(0, .v (.int .i64 x0)), (1, .sl 1 (x1.map cdI.enc)), (2, .v (.int .i64 x2)), (8, hd 0 (c6.map (cdL 1 (cdL 1 cdI)).enc)), (9, .v (.int .i64 c7)), (10, hd 4 ((c9 ++ [r57]).map (cdL 1 cdI).enc)), (11, .v (.int .i64 c10))] [mk 1 50 (c6.map (cdL 1 (cdL 1 cdI)).enc), none, none, mk 1 31 ([r57].map (cdL 1 cdI).enc), mk 1 31 ((c9 ++ [r57]).map (cdL 1 cdI).enc)] (by kernel_rfl) ?_
        exact RunS.done rfl (Wk.s3 [0, 4] ⟨⟨_, rfl, bu_mk⟩, ⟨_, rfl, bu_mk⟩, trivial⟩ ⟨lv, lv, lv, lu_hd (b' := 0) (by kernel_rfl) (by kernel_rfl), lv, lu_hd (b' := 4) (by kernel_rfl) (by kernel_rfl), lv, trivial⟩)
      refine Sem.runS (s1 := ⟨Fr 115 [(0, .v (.int .i64 x0)), (1, .sl 1 (x1.map cdI.enc)), (2, .v (.int .i64 x2)), (8, hd 0 (c6.map (cdL 1 (cdL 1 cdI)).enc)), (9, .v (.int .i64 c7)), (10, hd 1 ((c9 ++ [r57]).map (cdL 1 cdI).enc)), (11, .v (.int .i64 (wr .i64 (c10 + 1))))], [mk 1 50 (c6.map (cdL 1 (cdL 1 cdI)).enc), mk 1 31 ((c9 ++ [r57]).map (cdL 1 cdI).enc)]⟩) ?_ ?_
      · refine RunS.segF (n := 115) e_ref09_Plan_ok 3 [(0, .v (.int .i64 x0)), (1, .sl 1 (x1.map cdI.enc)), (2, .v (.int .i64 x2)), (8, hd 0 (c6.map (cdL 1 (cdL 1 cdI)).enc)), (9, .v (.int .i64 c7)), (10, hd 1 ((c9 ++ [r57]).map (cdL 1 cdI).enc)), (11, .v (.int .i64 (wr .i64 (c10 + 1))))] [mk 1 50 (c6.map (cdL 1 (cdL 1 cdI)).enc), mk 1 31 ((c9 ++ [r57]).map (cdL 1 cdI).enc)] (by kernel_rfl) ?_
        exact RunS.done rfl (Wk.s3 [0, 1] ⟨⟨_, rfl, bu_mk⟩, ⟨_, rfl, bu_mk⟩, trivial⟩ ⟨lv, lv, lv, lu_hd (b' := 0) (by kernel_rfl) (by kernel_rfl), lv, lu_hd (b' := 1) (by kernel_rfl) (by kernel_rfl), lv, trivial⟩)
      exact SemN.wk (s1 := ⟨Fr 115 [(0, .v (.int .i64 x0)), (1, .sl 1 (x1.map cdI.enc)), (2, .v (.int .i64 x2)), (8, hd 0 (c6.map (cdL 1 (cdL 1 cdI)).enc)), (9, .v (.int .i64 c7)), (10, hd 1 ((c9 ++ [r57]).map (cdL 1 cdI).enc)), (11, .v (.int .i64 (wr .i64 (c10 + 1))))], [mk 1 50 (c6.map (cdL 1 (cdL 1 cdI)).enc), mk 1 31 ((c9 ++ [r57]).map (cdL 1 cdI).enc)]⟩) (Wk.s3 [0, 1] ⟨⟨_, rfl, bu_mk⟩, ⟨_, rfl, bu_mk⟩, trivial⟩ ⟨lv, lv, lv, lu_hd (b' := 0) (by kernel_rfl) (by kernel_rfl), lv, lu_hd (b' := 1) (by kernel_rfl) (by kernel_rfl), lv, trivial⟩) (ih (c9 ++ [r57]) (wr .i64 (c10 + 1)) h)
    · rw [if_f hb11] at h
      refine Sem.exit ?_
      have hq := Option.some.inj h; subst hq
      exact ⟨rfl, (Wk.s3 [0, 1] ⟨⟨_, rfl, bu_mk⟩, ⟨_, rfl, bu_mk⟩, trivial⟩ ⟨lv, lv, lv, lu_hd (b' := 0) (by kernel_rfl) (by kernel_rfl), lv, lu_hd (b' := 1) (by kernel_rfl) (by kernel_rfl), trivial⟩)⟩
set_option maxHeartbeats 4000000 in
set_option maxRecDepth 100000 in
theorem ref09_Plan_1_ok (x0 : Int) (x1 : (List Int)) (x2 : Int) : ∀ (f : Nat) (c6 : (List (List (List Int)))) (c7 : Int) (r : ((List (List (List Int))))), ref09_Plan_1 x0 x1 x2 f c6 c7 = some r → SemN e_ref09_Plan ⟨none, false⟩ (pc cb_ref09_Plan [1, 1, 1, 1, 0, 1, 0, 0]) f ⟨Fr 115 [(0, .v (.int .i64 x0)), (1, .sl 1 (x1.map cdI.enc)), (2, .v (.int .i64 x2)), (8, hd 0 (c6.map (cdL 1 (cdL 1 cdI)).enc)), (9, .v (.int .i64 c7))], [mk 1 50 (c6.map (cdL 1 (cdL 1 cdI)).enc)]⟩ (fun e s => e = (.exit 0) ∧ Wk e_ref09_Plan s ⟨Fr 115 [(8, hd 0 (r.map (cdL 1 (cdL 1 cdI)).enc))], [mk 1 50 (r.map (cdL 1 (cdL 1 cdI)).enc)]⟩) := by
  intro f
  induction f with
  | zero => intro c6 c7 r h; cases h
  | succ f ih0 =>
    intro c6 c7 r h
    have ih := fun (c6 : (List (List (List Int)))) (c7 : Int) => ih0 c6 c7 r
    unfold ref09_Plan_1 at h
    refine SemN.succ ?_
    refine Sem.seq ?_
    refine Sem.seq ?_
    refine Sem.runS (s1 := ⟨Fr 115 [(0, .v (.int .i64 x0)), (1, .sl 1 (x1.map cdI.enc)), (2, .v (.int .i64 x2)), (8, hd 0 (c6.map (cdL 1 (cdL 1 cdI)).enc)), (9, .v (.int .i64 c7)), (33, .v (.bool (decide (c7 < x2))))], [mk 1 50 (c6.map (cdL 1 (cdL 1 cdI)).enc)]⟩) ?_ ?_
    · refine RunS.segF (n := 115) e_ref09_Plan_ok 3 [(0, .v (.int .i64 x0)), (1, .sl 1 (x1.map cdI.enc)), (2, .v (.int .i64 x2)), (8, hd 0 (c6.map (cdL 1 (cdL 1 cdI)).enc)), (9, .v (.int .i64 c7)), (33, .v (.bool (decide (c7 < x2))))] [mk 1 50 (c6.map (cdL 1 (cdL 1 cdI)).enc)] (by kernel_rfl) ?_
      exact RunS.done rfl (Wk.s3 [0] ⟨⟨_, rfl, bu_mk⟩, trivial⟩ ⟨lv, lv, lv, lu_hd (b' := 0) (by kernel_rfl) (by kernel_rfl), lv, lv, trivial⟩)
    refine Sem.cond (b := (decide (c7 < x2))) (by kernel_rfl) (fun hb8 => ?_) (fun hb8 => ?_)
    · rw [if_pos hb8] at h
      refine Sem.skip ?_
      refine Sem.seq ?_
      refine Sem.block ?_
      refine Sem.seq ?_
      refine Sem.runS (s1 := ⟨Fr 115 [(0, .v (.int .i64 x0)), (1, .sl 1 (x1.map cdI.enc)), (2, .v (.int .i64 x2)), (8, hd 0 (c6.map (cdL 1 (cdL 1 cdI)).enc)), (9, .v (.int .i64 c7)), (10, .e0)], [mk 1 50 (c6.map (cdL 1 (cdL 1 cdI)).enc)]⟩) ?_ ?_
      · refine RunS.segF (n := 115) e_ref09_Plan_ok 1 [(0, .v (.int .i64 x0)), (1, .sl 1 (x1.map cdI.enc)), (2, .v (.int .i64 x2)), (8, hd 0 (c6.map (cdL 1 (cdL 1 cdI)).enc)), (9, .v (.int .i64 c7)), (10, .e0)] [mk 1 50 (c6.map (cdL 1 (cdL 1 cdI)).enc)] (by kernel_rfl) ?_
        exact RunS.done rfl (Wk.s3 [0] ⟨⟨_, rfl, bu_mk⟩, trivial⟩ ⟨lv, lv, lv, lu_hd (b' := 0) (by kernel_rfl) (by kernel_rfl), lv, lv, trivial⟩)
      refine Sem.seq ?_
      refine Sem.seq ?_
      refine Sem.runS (s1 := ⟨Fr 115 [(0, .v (.int .i64 x0)), (1, .sl 1 (x1.map cdI.enc)), (2, .v (.int .i64 x2)), (8, hd 0 (c6.map (cdL 1 (cdL 1 cdI)).enc)), (9, .v (.int .i64 c7)), (10, .e0), (11, .v (.int .i64 0))], [mk 1 50 (c6.map (cdL 1 (cdL 1 cdI)).enc)]⟩) ?_ ?_
      · refine RunS.segF (n := 115) e_ref09_Plan_ok 1 [(0, .v (.int .i64 x0)), (1, .sl 1 (x1.map cdI.enc)), (2, .v (.int .i64 x2)), (8, hd 0 (c6.map (cdL 1 (cdL 1 cdI)).enc)), (9, .v (.int .i64 c7)), (10, .e0), (11, .v (.int .i64 0))] [mk 1 50 (c6.map (cdL 1 (cdL 1 cdI)).enc)] (by kernel_rfl) ?_
        exact RunS.done rfl (Wk.s3 [0] ⟨⟨_, rfl, bu_mk⟩, trivial⟩ ⟨lv, lv, lv, lu_hd (b' := 0) (by kernel_rfl) (by kernel_rfl), lv, lv, lv, trivial⟩)
      refine Sem.block ?_
      obtain ⟨r60, hr60, h⟩ := Option.bind_eq_some_iff.1 h
      refine Sem.loop (n := 100000) ?_
      refine Sem.cutN (SemN.wk (s1 := ⟨Fr 115 [(0, .v (.int .i64 x0)), (1, .sl 1 (x1.map cdI.enc)), (2, .v (.int .i64 x2)), (8, hd 0 (c6.map (cdL 1 (cdL 1 cdI)).enc)), (9, .v (.int .i64 c7)), (10, hd 1 ([].map (cdL 1 cdI).enc)), (11, .v (.int .i64 0))], [mk 1 50 (c6.map (cdL 1 (cdL 1 cdI)).enc), mk 1 31 ([].map (cdL 1 cdI).enc)]⟩) (Wk.trans (s1 := ⟨Fr 115 [(0, .v (.int .i64 x0)), (1, .sl 1 (x1.map cdI.enc)), (2, .v (.int .i64 x2)), (8, hd 0 (c6.map (cdL 1 (cdL 1 cdI)).enc)), (9, .v (.int .i64 c7)), (10, hd 1 ([].map (cdL 1 cdI).enc)), (11, .v (.int .i64 0))], [mk 1 50 (c6.map (cdL 1 (cdL 1 cdI)).enc), mk 1 31 ([].map (cdL 1 cdI).enc)]⟩) Wk.none (Wk.s3 [0, 1] ⟨⟨_, rfl, bu_mk⟩, ⟨_, rfl, bu_none⟩, trivial⟩ ⟨lv, lv, lv, lu_hd (b' := 0) (by kernel_rfl) (by kernel_rfl), lv, lv, lv, trivial⟩)) (ref09_Plan_2_ok x0 x1 x2 c6 c7 _ [] 0 _ hr60)) ?_
      by_cases hk61 : (capOk 24 (c6.length + 1)) = true
      case neg => rw [if_neg hk61] at h; cases h
      rw [if_pos hk61] at h
      refine Sem.runS (s1 := ⟨Fr 115 [(0, .v (.int .i64 x0)), (1, .sl 1 (x1.map cdI.enc)), (2, .v (.int .i64 x2)), (8, hd 0 ((c6 ++ [r60]).map (cdL 1 (cdL 1 cdI)).enc)), (9, .v (.int .i64 c7))], [mk 1 50 ((c6 ++ [r60]).map (cdL 1 (cdL 1 cdI)).enc)]⟩) ?_ ?_
      · refine RunS.segF (n := 115) e_ref09_Plan_ok 2 [(0, .v (.int .i64 x0)), (1, .sl 1 (x1.map cdI.enc)), (2, .v (.int .i64 x2)), (9, .v (.int .i64 c7)), (110, hd 0 (c6.map (cdL 1 (cdL 1 cdI)).enc)), (111, hd 1 (r60.map (cdL 1 cdI).enc))] [mk 1 50 (c6.map (cdL 1 (cdL 1 cdI)).enc), mk 1 31 (r60.map (cdL 1 cdI).enc)] (by kernel_rfl) ?_
        refine RunS.wk (s1 := ⟨Fr 115 [(0, .v (.int .i64 x0)), (1, .sl 1 (x1.map cdI.enc)), (2, .v (.int .i64 x2)), (9, .v (.int .i64 c7)), (110, hd 0 (c6.map (cdL 1 (cdL 1 cdI)).enc)), (111, .sl 1 (r60.map (cdL 1 cdI).enc))], [mk 1 50 (c6.map (cdL 1 (cdL 1 cdI)).enc), none]⟩) (Wk.frzG 1 (.inl (by kernel_rfl)) ⟨.inr (.inl rfl), .inl rfl, trivial⟩ ⟨⟨.v (.int .i64 x0), (by kernel_rfl), .inl rfl⟩, ⟨.sl 1 (x1.map cdI.enc), (by kernel_rfl), .inl rfl⟩, ⟨.v (.int .i64 x2), (by kernel_rfl), .inl rfl⟩, ⟨.v (.int .i64 c7), (by kernel_rfl), .inl rfl⟩, ⟨hd 0 (c6.map (cdL 1 (cdL 1 cdI)).enc), (by kernel_rfl), .inl rfl⟩, ⟨hd 1 (r60.map (cdL 1 cdI).enc), (by kernel_rfl), fz_hd (t := 31) (by kernel_rfl) enc_ok⟩, trivial⟩) ?_
        refine RunS.segF (n := 115) e_ref09_Plan_ok 1 [(0, .v (.int .i64 x0)), (1, .sl 1 (x1.map cdI.enc)), (2, .v (.int .i64 x2)), (9, .v (.int .i64 c7)), (110, hd 0 (c6.map (cdL 1 (cdL 1 cdI)).enc)), (112, hd 2 ([r60].map (cdL 1 (cdL 1 cdI)).enc))] [mk 1 50 (c6.map (cdL 1 (cdL 1 cdI)).enc), none, mk 1 50 ([r60].map (cdL 1 (cdL 1 cdI)).enc)] (by kernel_rfl) ?_
        refine RunS.one e_ref09_Plan_ok 0 rfl (op_w (wantedA_none rfl) rfl (by kernel_rfl) (by kernel_rfl) (w_append (a := hd 0 (c6.map (cdL 1 (cdL 1 cdI)).enc)) (b := hd 2 ([r60].map (cdL 1 (cdL 1 cdI)).enc)) (by kernel_rfl) (by kernel_rfl) (append_B (c := (cdL 1 (cdL 1 cdI))) (xs := c6) (vs := [r60]) (k := 1) (bytes := 24) (el := 50) (by kernel_rfl) (by kernel_rfl) (elems_hd (t := 50) (by kernel_rfl)) (List.cons_ne_nil _ _) (by kernel_rfl) hk61))) ?_
        refine RunS.segF (n := 115) e_ref09_Plan_ok 1 [(0, .v (.int .i64 x0)), (1, .sl 1 (x1.map cdI.enc)), (2, .v (.int .i64 x2)), (8, hd 3 ((c6 ++ [r60]).map (cdL 1 (cdL 1 cdI)).enc)), (9, .v (.int .i64 c7))] [none, none, mk 1 50 ([r60].map (cdL 1 (cdL 1 cdI)).enc), mk 1 50 ((c6 ++ [r60]).map (cdL 1 (cdL 1 cdI)).enc)] (by kernel_rfl) ?_
        exact RunS.done rfl (Wk.s3 [3] ⟨⟨_, rfl, bu_mk⟩, trivial⟩ ⟨lv, lv, lv, lu_hd (b' := 3) (by kernel_rfl) (by kernel_rfl), lv, trivial⟩)
      refine Sem.runS (s1 := ⟨Fr 115 [(0, .v (.int .i64 x0)), (1, .sl 1 (x1.map cdI.enc)), (2, .v (.int .i64 x2)), (8, hd 0 ((c6 ++ [r60]).map (cdL 1 (cdL 1 cdI)).enc)), (9, .v (.int .i64 (wr .i64 (c7 + 1))))], [mk 1 50 ((c6 ++ [r60]).map (cdL 1 (cdL 1 cdI)).enc)]⟩) ?_ ?_
      · refine RunS.segF (n := 115) e_ref09_Plan_ok 3 [(0, .v (.int .i64 x0)), (1, .sl 1 (x1.map cdI.enc)), (2, .v (.int .i64 x2)), (8, hd 0 ((c6 ++ [r60]).map (cdL 1 (cdL 1 cdI)).enc)), (9, .v (.int .i64 (wr .i64 (c7 + 1))))] [mk 1 50 ((c6 ++ [r60]).map (cdL 1 (cdL 1 cdI)).enc)] (by kernel_rfl) ?_
        exact RunS.done rfl (Wk.s3 [0] ⟨⟨_, rfl, bu_mk⟩, trivial⟩ ⟨lv, lv, lv, lu_hd (b' := 0) (by kernel_rfl) (by kernel_rfl), lv, trivial⟩)
      exact SemN.wk (s1 := ⟨Fr 115 [(0, .v (.int .i64 x0)), (1, .sl 1 (x1.map cdI.enc)), (2, .v (.int .i64 x2)), (8, hd 0 ((c6 ++ [r60]).map (cdL 1 (cdL 1 cdI)).enc)), (9, .v (.int .i64 (wr .i64 (c7 + 1))))], [mk 1 50 ((c6 ++ [r60]).map (cdL 1 (cdL 1 cdI)).enc)]⟩) (Wk.s3 [0] ⟨⟨_, rfl, bu_mk⟩, trivial⟩ ⟨lv, lv, lv, lu_hd (b' := 0) (by kernel_rfl) (by kernel_rfl), lv, trivial⟩) (ih (c6 ++ [r60]) (wr .i64 (c7 + 1)) h)
    · rw [if_f hb8] at h
      refine Sem.exit ?_
      have hq := Option.some.inj h; subst hq
      exact ⟨rfl, (Wk.s3 [0] ⟨⟨_, rfl, bu_mk⟩, trivial⟩ ⟨lu_hd (b' := 0) (by kernel_rfl) (by kernel_rfl), trivial⟩)⟩
set_option maxHeartbeats 4000000 in
set_option maxRecDepth 100000 in
theorem ref09_Plan_sem (x0 : Int) (x1 : (List Int)) (x2 : Int) (r : (List (List (List Int))) × Int) (h : ref09_Plan x0 x1 x2 = some r) : Sem e_ref09_Plan ⟨none, false⟩ cb_ref09_Plan ⟨Fr 115 (pairs0 0 (cs_ref09_Plan.enc (x0, x1, x2, ()))), []⟩ fun e s' => (e = .normal ∨ e = .ret) ∧ ∃ xs, resA e_ref09_Plan.P s'.fr s'.hp Tryd.f22.results.toList = some xs ∧ retA xs = er_ref09_Plan r := by
  unfold ref09_Plan at h
  refine Sem.wkQ (Sem.wk (s1 := ⟨Fr 115 [(0, .v (.int .i64 x0)), (1, .sl 1 (x1.map cdI.enc)), (2, .v (.int .i64 x2))], []⟩) Wk.f1 ?_)
  refine Sem.seq ?_
  refine Sem.runS (s1 := ⟨Fr 115 [(0, .v (.int .i64 x0)), (1, .sl 1 (x1.map cdI.enc)), (2, .v (.int .i64 x2))], []⟩) ?_ ?_
  · refine RunS.segF (n := 115) e_ref09_Plan_ok 2 [(0, .v (.int .i64 x0)), (1, .sl 1 (x1.map cdI.enc)), (2, .v (.int .i64 x2))] [] (by kernel_rfl) ?_
    exact RunS.done rfl Wk.f1
  refine Sem.seq ?_
  refine Sem.seq ?_
  obtain ⟨v1, hv1, h⟩ := Option.bind_eq_some_iff.1 h
  refine Sem.runS (s1 := ⟨Fr 115 [(0, .v (.int .i64 x0)), (1, .sl 1 (x1.map cdI.enc)), (2, .v (.int .i64 x2)), (24, .v (.bool (!v1)))], []⟩) ?_ ?_
  · refine RunS.segF (n := 115) e_ref09_Plan_ok 2 [(0, .v (.int .i64 x0)), (1, .sl 1 (x1.map cdI.enc)), (2, .v (.int .i64 x2)), (21, .v (.int .i64 x0)), (22, .sl 1 (x1.map cdI.enc))] [] (by kernel_rfl) ?_
    refine RunS.call e_ref09_Plan_ok (fid := 74) (s := cs_ref09_Fit) (F := fun a => ref09_Fit a.1 a.2.1) (er := er_ref09_Fit) (xs := [.v (.int .i64 x0), .sl 1 (x1.map cdI.enc)]) (a := (x0, x1, ())) rfl (wantedA_none rfl) (by kernel_rfl) (by kernel_rfl) (by kernel_rfl) (by kernel_rfl) (Sns.cons (Sn.enc (c := cdI) (v := x0)) (Sns.cons (Sn.enc (c := (cdL 1 cdI)) (v := x1)) Sns.nil)) (.inl (by kernel_rfl)) hv1 ?_
    refine RunS.segF (n := 115) e_ref09_Plan_ok 1 [(0, .v (.int .i64 x0)), (1, .sl 1 (x1.map cdI.enc)), (2, .v (.int .i64 x2)), (24, .v (.bool (!v1)))] [] (by kernel_rfl) ?_
    exact RunS.done rfl Wk.f1
  refine Sem.cond (b := (!v1)) (by kernel_rfl) (fun hb2 => ?_) (fun hb2 => ?_)
  · rw [if_pos hb2] at h
    refine Sem.seq ?_
    refine Sem.runS (s1 := ⟨Fr 115 [(6, .e0), (7, .v (.int .i64 90))], []⟩) ?_ ?_
    · refine RunS.segF (n := 115) e_ref09_Plan_ok 2 [(6, .e0), (7, .v (.int .i64 90))] [] (by kernel_rfl) ?_
      exact RunS.done rfl Wk.f1
    refine Sem.ret ?_
    have hq := Option.some.inj h; subst hq
    exact ⟨⟨Fr 115 [(6, .sl 1 ([].map (cdL 1 (cdL 1 cdI)).enc)), (7, .v (.int .i64 90))], []⟩, (Wk.trans (s1 := ⟨Fr 115 [(6, .e0), (7, .v (.int .i64 90))], []⟩) Wk.f1 (Wk.trans (s1 := ⟨Fr 115 [(6, .e0), (7, .v (.int .i64 90))], [none]⟩) Wk.none (Wk.trans (s1 := ⟨Fr 115 [(6, .sl 1 ([].map (cdL 1 (cdL 1 cdI)).enc)), (7, .v (.int .i64 90))], [none]⟩) (Wk.frzG 0 (.inr (by kernel_rfl)) ⟨.inl rfl, trivial⟩ ⟨⟨.e0, (by kernel_rfl), fz_e0⟩, ⟨.v (.int .i64 90), (by kernel_rfl), .inl rfl⟩, trivial⟩) (Wk.s3 [] trivial ⟨lv, lv, trivial⟩)))), .inr rfl, [.sl 1 ([].map (cdL 1 (cdL 1 cdI)).enc), .v (.int .i64 90)], (by kernel_rfl), (by kernel_rfl)⟩
  · rw [if_f hb2] at h
    refine Sem.skip ?_
    refine Sem.seq ?_
    refine Sem.seq ?_
    obtain ⟨j4, hj4, h⟩ := Option.bind_eq_some_iff.1 h
    refine Sem.runS (s1 := ⟨Fr 115 [(0, .v (.int .i64 x0)), (1, .sl 1 (x1.map cdI.enc)), (2, .v (.int .i64 x2)), (30, .v (.bool j4))], []⟩) ?_ ?_
    · refine RunS.segF (n := 115) e_ref09_Plan_ok 3 [(0, .v (.int .i64 x0)), (1, .sl 1 (x1.map cdI.enc)), (2, .v (.int .i64 x2)), (27, .v (.bool (decide (x2 < 0))))] [] (by kernel_rfl) ?_
      rcases Bool.eq_false_or_eq_true (decide (x2 < 0)) with hc64 | hc64
      · rw [if_pos hc64] at hj4
        rw [hc64]
        refine RunS.segF (n := 115) e_ref09_Plan_ok 3 [(0, .v (.int .i64 x0)), (1, .sl 1 (x1.map cdI.enc)), (2, .v (.int .i64 x2)), (30, .v (.bool true))] [] (by kernel_rfl) ?_
        have hq := Option.some.inj hj4; subst hq
        exact RunS.done rfl Wk.f1
      · rw [if_f hc64] at hj4
        rw [hc64]
        refine RunS.segF (n := 115) e_ref09_Plan_ok 3 [(0, .v (.int .i64 x0)), (1, .sl 1 (x1.map cdI.enc)), (2, .v (.int .i64 x2)), (30, .v (.bool (decide (x2 > 64))))] [] (by kernel_rfl) ?_
        have hq := Option.some.inj hj4; subst hq
        exact RunS.done rfl Wk.f1
    refine Sem.cond (b := j4) (by kernel_rfl) (fun hb5 => ?_) (fun hb5 => ?_)
    · rw [if_pos hb5] at h
      refine Sem.seq ?_
      refine Sem.runS (s1 := ⟨Fr 115 [(6, .e0), (7, .v (.int .i64 2))], []⟩) ?_ ?_
      · refine RunS.segF (n := 115) e_ref09_Plan_ok 2 [(6, .e0), (7, .v (.int .i64 2))] [] (by kernel_rfl) ?_
        exact RunS.done rfl Wk.f1
      refine Sem.ret ?_
      have hq := Option.some.inj h; subst hq
      exact ⟨⟨Fr 115 [(6, .sl 1 ([].map (cdL 1 (cdL 1 cdI)).enc)), (7, .v (.int .i64 2))], []⟩, (Wk.trans (s1 := ⟨Fr 115 [(6, .e0), (7, .v (.int .i64 2))], []⟩) Wk.f1 (Wk.trans (s1 := ⟨Fr 115 [(6, .e0), (7, .v (.int .i64 2))], [none]⟩) Wk.none (Wk.trans (s1 := ⟨Fr 115 [(6, .sl 1 ([].map (cdL 1 (cdL 1 cdI)).enc)), (7, .v (.int .i64 2))], [none]⟩) (Wk.frzG 0 (.inr (by kernel_rfl)) ⟨.inl rfl, trivial⟩ ⟨⟨.e0, (by kernel_rfl), fz_e0⟩, ⟨.v (.int .i64 2), (by kernel_rfl), .inl rfl⟩, trivial⟩) (Wk.s3 [] trivial ⟨lv, lv, trivial⟩)))), .inr rfl, [.sl 1 ([].map (cdL 1 (cdL 1 cdI)).enc), .v (.int .i64 2)], (by kernel_rfl), (by kernel_rfl)⟩
    · rw [if_f hb5] at h
      refine Sem.skip ?_
      refine Sem.seq ?_
      refine Sem.runS (s1 := ⟨Fr 115 [(0, .v (.int .i64 x0)), (1, .sl 1 (x1.map cdI.enc)), (2, .v (.int .i64 x2)), (8, .e0)], []⟩) ?_ ?_
      · refine RunS.segF (n := 115) e_ref09_Plan_ok 1 [(0, .v (.int .i64 x0)), (1, .sl 1 (x1.map cdI.enc)), (2, .v (.int .i64 x2)), (8, .e0)] [] (by kernel_rfl) ?_
        exact RunS.done rfl Wk.f1
      refine Sem.seq ?_
      refine Sem.seq ?_
      refine Sem.runS (s1 := ⟨Fr 115 [(0, .v (.int .i64 x0)), (1, .sl 1 (x1.map cdI.enc)), (2, .v (.int .i64 x2)), (8, .e0), (9, .v (.int .i64 0))], []⟩) ?_ ?_
      · refine RunS.segF (n := 115) e_ref09_Plan_ok 1 [(0, .v (.int .i64 x0)), (1, .sl 1 (x1.map cdI.enc)), (2, .v (.int .i64 x2)), (8, .e0), (9, .v (.int .i64 0))] [] (by kernel_rfl) ?_
        exact RunS.done rfl Wk.f1
      refine Sem.block ?_
      obtain ⟨r63, hr63, h⟩ := Option.bind_eq_some_iff.1 h
      refine Sem.loop (n := 100000) ?_
      refine Sem.cutN (SemN.wk (s1 := ⟨Fr 115 [(0, .v (.int .i64 x0)), (1, .sl 1 (x1.map cdI.enc)), (2, .v (.int .i64 x2)), (8, hd 0 ([].map (cdL 1 (cdL 1 cdI)).enc)), (9, .v (.int .i64 0))], [mk 1 50 ([].map (cdL 1 (cdL 1 cdI)).enc)]⟩) (Wk.trans (s1 := ⟨Fr 115 [(0, .v (.int .i64 x0)), (1, .sl 1 (x1.map cdI.enc)), (2, .v (.int .i64 x2)), (8, hd 0 ([].map (cdL 1 (cdL 1 cdI)).enc)), (9, .v (.int .i64 0))], [mk 1 50 ([].map (cdL 1 (cdL 1 cdI)).enc)]⟩) Wk.none (Wk.s3 [0] ⟨⟨_, rfl, bu_none⟩, trivial⟩ ⟨lv, lv, lv, lv, lv, trivial⟩)) (ref09_Plan_1_ok x0 x1 x2 _ [] 0 _ hr63)) ?_
      refine Sem.seq ?_
      refine Sem.runS (s1 := ⟨Fr 115 [(6, hd 0 (r63.map (cdL 1 (cdL 1 cdI)).enc)), (7, .v (.int .i64 0))], [mk 1 50 (r63.map (cdL 1 (cdL 1 cdI)).enc)]⟩) ?_ ?_
      · refine RunS.segF (n := 115) e_ref09_Plan_ok 3 [(6, hd 0 (r63.map (cdL 1 (cdL 1 cdI)).enc)), (7, .v (.int .i64 0))] [mk 1 50 (r63.map (cdL 1 (cdL 1 cdI)).enc)] (by kernel_rfl) ?_
        exact RunS.done rfl (Wk.s3 [0] ⟨⟨_, rfl, bu_mk⟩, trivial⟩ ⟨lu_hd (b' := 0) (by kernel_rfl) (by kernel_rfl), lv, trivial⟩)
      refine Sem.ret ?_
      have hq := Option.some.inj h; subst hq
      exact ⟨⟨Fr 115 [(6, .sl 1 (r63.map (cdL 1 (cdL 1 cdI)).enc)), (7, .v (.int .i64 0))], []⟩, (Wk.trans (s1 := ⟨Fr 115 [(6, .sl 1 (r63.map (cdL 1 (cdL 1 cdI)).enc)), (7, .v (.int .i64 0))], [none]⟩) (Wk.frzG 0 (.inl (by kernel_rfl)) ⟨.inl rfl, trivial⟩ ⟨⟨hd 0 (r63.map (cdL 1 (cdL 1 cdI)).enc), (by kernel_rfl), fz_hd (t := 50) (by kernel_rfl) enc_ok⟩, ⟨.v (.int .i64 0), (by kernel_rfl), .inl rfl⟩, trivial⟩) (Wk.s3 [] trivial ⟨lv, lv, trivial⟩)), .inr rfl, [.sl 1 (r63.map (cdL 1 (cdL 1 cdI)).enc), .v (.int .i64 0)], (by kernel_rfl), (by kernel_rfl)⟩
def t_ref09_Plan : List AV → Option AV := told cs_ref09_Plan (fun a => ref09_Plan a.1 a.2.1 a.2.2.1) er_ref09_Plan
theorem x_ref09_Plan : XOk 22 t_ref09_Plan := by
  refine EnvOk.x (E := e_ref09_Plan) (contract_ok e_ref09_Plan_ok (fn := Tryd.f22) (c := cb_ref09_Plan) ?h1 ?h2 ⟨Tryd.call22⟩ cs_ref09_Plan (fun a => ref09_Plan a.1 a.2.1 a.2.2.1) er_ref09_Plan (fun a => (by show 3 ≤ 115; decide)) ?h3 ?h4) rfl rfl
  case h1 => kernel_rfl
  case h2 => kernel_rfl
  case h3 => intro b; kernel_rfl
  case h4 => exact fun a b h => ref09_Plan_sem a.1 a.2.1 a.2.2.1 b h
/- trestle/trestlekit.SameInts -/
noncomputable def e_kit_SameInts : Env := E0
theorem e_kit_SameInts_ok : EnvOk e_kit_SameInts := E0_ok
noncomputable def cb_kit_SameInts : Code := codeOf Tryd.f43
def kit_SameInts_1 (x0 : (List Int)) (x1 : (List Int)) : Nat → Int → Option ((Unit) ⊕ (Bool))
  | 0, _ => none
  | f + 1, c2 =>
    if (decide (c2 < (x0.length : Int))) = true then
    (idx x0 c2).bind fun v4 =>
    (idx x1 c2).bind fun v5 =>
    if (v4 != v5) = true then
    some (.inr false)
    else
    kit_SameInts_1 x0 x1 f (wr .i64 (c2 + 1))
    else
    some (.inl ())
def kit_SameInts (x0 : (List Int)) (x1 : (List Int)) : Option (Bool) :=
  if ((x0.length : Int) != (x1.length : Int)) = true then
  some false
  else
  (kit_SameInts_1 x0 x1 100000 0).bind fun r8 =>
  match r8 with
  | (.inl w9) =>
    some true
  | (.inr w10) =>
    some w10
def cs_kit_SameInts : Cs ((List Int) × (List Int) × Unit) := (csC (cdL 1 cdI) (csC (cdL 1 cdI) csN))
def er_kit_SameInts (r : Bool) : AV := cdB.enc r
set_option maxHeartbeats 4000000 in
set_option maxRecDepth 100000 in
theorem kit_SameInts_1_ok (x0 : (List Int)) (x1 : (List Int)) : ∀ (f : Nat) (c2 : Int) (r : (Unit) ⊕ (Bool)), kit_SameInts_1 x0 x1 f c2 = some r → SemN e_kit_SameInts ⟨none, false⟩ (pc cb_kit_SameInts [1, 1, 0, 1, 0, 0]) f ⟨Fr 26 [(0, .sl 1 (x0.map cdI.enc)), (1, .sl 1 (x1.map cdI.enc)), (5, .v (.int .i64 c2))], []⟩ (fun e s => match r with
  | (.inl w) => e = (.exit 0) ∧ Wk e_kit_SameInts s ⟨Fr 26 [], []⟩
  | (.inr w) => e = .ret ∧ Wk e_kit_SameInts s ⟨Fr 26 [(4, .v (.bool w))], []⟩) := by
  intro f
  induction f with
  | zero => intro c2 r h; cases h
  | succ f ih0 =>
    intro c2 r h
    have ih := fun (c2 : Int) => ih0 c2 r
    unfold kit_SameInts_1 at h
    refine SemN.succ ?_
    refine Sem.seq ?_
    refine Sem.seq ?_
    refine Sem.runS (s1 := ⟨Fr 26 [(0, .sl 1 (x0.map cdI.enc)), (1, .sl 1 (x1.map cdI.enc)), (5, .v (.int .i64 c2)), (14, .v (.bool (decide (c2 < (x0.length : Int)))))], []⟩) ?_ ?_
    · refine RunS.segF (n := 26) e_kit_SameInts_ok 2 [(0, .sl 1 (x0.map cdI.enc)), (1, .sl 1 (x1.map cdI.enc)), (5, .v (.int .i64 c2)), (11, .v (.int .i64 c2)), (12, .sl 1 (x0.map cdI.enc))] [] (by kernel_rfl) ?_
      refine RunS.one e_kit_SameInts_ok 0 rfl (op_q (wantedA_none rfl) rfl (q_len (a := .sl 1 (x0.map cdI.enc)) (by kernel_rfl) (len_sl (el := 3) (by kernel_rfl)))) ?_
      refine RunS.segF (n := 26) e_kit_SameInts_ok 1 [(0, .sl 1 (x0.map cdI.enc)), (1, .sl 1 (x1.map cdI.enc)), (5, .v (.int .i64 c2)), (14, .v (.bool (decide (c2 < (x0.length : Int)))))] [] (by kernel_rfl) ?_
      exact RunS.done rfl Wk.f1
    refine Sem.cond (b := (decide (c2 < (x0.length : Int)))) (by kernel_rfl) (fun hb3 => ?_) (fun hb3 => ?_)
    · rw [if_pos hb3] at h
      refine Sem.skip ?_
      refine Sem.seq ?_
      refine Sem.block ?_
      refine Sem.seq ?_
      obtain ⟨v4, hv4, h⟩ := Option.bind_eq_some_iff.1 h
      obtain ⟨v5, hv5, h⟩ := Option.bind_eq_some_iff.1 h
      refine Sem.runDS e_kit_SameInts_ok (s1 := ⟨Fr 26 [(0, .sl 1 (x0.map cdI.enc)), (1, .sl 1 (x1.map cdI.enc)), (5, .v (.int .i64 c2)), (25, .v (.bool (v4 != v5)))], []⟩) (by kernel_rfl) ?_ ?_
      · refine RunDS.segF (n := 26) e_kit_SameInts_ok 2 [(0, .sl 1 (x0.map cdI.enc)), (1, .sl 1 (x1.map cdI.enc)), (5, .v (.int .i64 c2)), (17, .sl 1 (x0.map cdI.enc)), (18, .v (.int .i64 c2))] [] (by kernel_rfl) (by kernel_rfl) ?_
        refine RunDS.one e_kit_SameInts_ok rfl (by kernel_rfl) (opd_q (by kernel_rfl) (wantedA_none rfl) rfl (q_indexAddr (a := .sl 1 (x0.map cdI.enc)) (b := .v (.int .i64 c2)) (by kernel_rfl) (by kernel_rfl) (ix_sl (e := cdI.enc) (el := 3) (k := 1) (ki := .i64) (by kernel_rfl) (by kernel_rfl) hv4)) (by kernel_rfl)) ?_
        refine RunDS.segF (n := 26) e_kit_SameInts_ok 3 [(0, .sl 1 (x0.map cdI.enc)), (1, .sl 1 (x1.map cdI.enc)), (5, .v (.int .i64 c2)), (20, .v (.int .i64 v4)), (21, .sl 1 (x1.map cdI.enc)), (22, .v (.int .i64 c2))] [] (by kernel_rfl) (by kernel_rfl) ?_
        refine RunDS.one e_kit_SameInts_ok rfl (by kernel_rfl) (opd_q (by kernel_rfl) (wantedA_none rfl) rfl (q_indexAddr (a := .sl 1 (x1.map cdI.enc)) (b := .v (.int .i64 c2)) (by kernel_rfl) (by kernel_rfl) (ix_sl (e := cdI.enc) (el := 3) (k := 1) (ki := .i64) (by kernel_rfl) (by kernel_rfl) hv5)) (by kernel_rfl)) ?_
        refine RunDS.segF (n := 26) e_kit_SameInts_ok 2 [(0, .sl 1 (x0.map cdI.enc)), (1, .sl 1 (x1.map cdI.enc)), (5, .v (.int .i64 c2)), (25, .v (.bool (v4 != v5)))] [] (by kernel_rfl) (by kernel_rfl) ?_
        exact RunDS.done rfl Wk.f1
      refine Sem.cond (b := (v4 != v5)) (by kernel_rfl) (fun hb6 => ?_) (fun hb6 => ?_)
      · rw [if_pos hb6] at h
        refine Sem.seq ?_
        refine Sem.runS (s1 := ⟨Fr 26 [(4, .v (.bool false))], []⟩) ?_ ?_
        · refine RunS.segF (n := 26) e_kit_SameInts_ok 1 [(4, .v (.bool false))] [] (by kernel_rfl) ?_
          exact RunS.done rfl Wk.f1
        refine Sem.ret ?_
        have hq := Option.some.inj h; subst hq
        exact ⟨rfl, Wk.f1⟩
      · rw [if_f hb6] at h
        refine Sem.skip ?_
        refine Sem.runS (s1 := ⟨Fr 26 [(0, .sl 1 (x0.map cdI.enc)), (1, .sl 1 (x1.map cdI.enc)), (5, .v (.int .i64 (wr .i64 (c2 + 1))))], []⟩) ?_ ?_
        · refine RunS.segF (n := 26) e_kit_SameInts_ok 3 [(0, .sl 1 (x0.map cdI.enc)), (1, .sl 1 (x1.map cdI.enc)), (5, .v (.int .i64 (wr .i64 (c2 + 1))))] [] (by kernel_rfl) ?_
          exact RunS.done rfl Wk.f1
        exact SemN.wk (s1 := ⟨Fr 26 [(0, .sl 1 (x0.map cdI.enc)), (1, .sl 1 (x1.map cdI.enc)), (5, .v (.int .i64 (wr .i64 (c2 + 1))))], []⟩) Wk.f1 (ih (wr .i64 (c2 + 1)) h)
    · rw [if_f hb3] at h
      refine Sem.exit ?_
      have hq := Option.some.inj h; subst hq
      exact ⟨rfl, Wk.f1⟩
set_option maxHeartbeats 4000000 in
set_option maxRecDepth 100000 in
theorem kit_SameInts_sem (x0 : (List Int)) (x1 : (List Int)) (r : Bool) (h : kit_SameInts x0 x1 = some r) : Sem e_kit_SameInts ⟨none, false⟩ cb_kit_SameInts ⟨Fr 26 (pairs0 0 (cs_kit_SameInts.enc (x0, x1, ()))), []⟩ fun e s' => (e = .normal ∨ e = .ret) ∧ ∃ xs, resA e_kit_SameInts.P s'.fr s'.hp Tryd.f43.results.toList = some xs ∧ retA xs = er_kit_SameInts r := by
  unfold kit_SameInts at h
  refine Sem.wkQ (Sem.wk (s1 := ⟨Fr 26 [(0, .sl 1 (x0.map cdI.enc)), (1, .sl 1 (x1.map cdI.enc))], []⟩) Wk.f1 ?_)
  refine Sem.seq ?_
  refine Sem.runS (s1 := ⟨Fr 26 [(0, .sl 1 (x0.map cdI.enc)), (1, .sl 1 (x1.map cdI.enc))], []⟩) ?_ ?_
  · refine RunS.segF (n := 26) e_kit_SameInts_ok 1 [(0, .sl 1 (x0.map cdI.enc)), (1, .sl 1 (x1.map cdI.enc))] [] (by kernel_rfl) ?_
    exact RunS.done rfl Wk.f1
  refine Sem.seq ?_
  refine Sem.seq ?_
  refine Sem.runS (s1 := ⟨Fr 26 [(0, .sl 1 (x0.map cdI.enc)), (1, .sl 1 (x1.map cdI.enc)), (10, .v (.bool ((x0.length : Int) != (x1.length : Int))))], []⟩) ?_ ?_
  · refine RunS.segF (n := 26) e_kit_SameInts_ok 1 [(0, .sl 1 (x0.map cdI.enc)), (1, .sl 1 (x1.map cdI.enc)), (6, .sl 1 (x0.map cdI.enc))] [] (by kernel_rfl) ?_
    refine RunS.one e_kit_SameInts_ok 0 rfl (op_q (wantedA_none rfl) rfl (q_len (a := .sl 1 (x0.map cdI.enc)) (by kernel_rfl) (len_sl (el := 3) (by kernel_rfl)))) ?_
    refine RunS.segF (n := 26) e_kit_SameInts_ok 1 [(0, .sl 1 (x0.map cdI.enc)), (1, .sl 1 (x1.map cdI.enc)), (7, .v (.int .i64 (x0.length : Int))), (8, .sl 1 (x1.map cdI.enc))] [] (by kernel_rfl) ?_
    refine RunS.one e_kit_SameInts_ok 0 rfl (op_q (wantedA_none rfl) rfl (q_len (a := .sl 1 (x1.map cdI.enc)) (by kernel_rfl) (len_sl (el := 3) (by kernel_rfl)))) ?_
    refine RunS.segF (n := 26) e_kit_SameInts_ok 1 [(0, .sl 1 (x0.map cdI.enc)), (1, .sl 1 (x1.map cdI.enc)), (10, .v (.bool ((x0.length : Int) != (x1.length : Int))))] [] (by kernel_rfl) ?_
    exact RunS.done rfl Wk.f1
  refine Sem.cond (b := ((x0.length : Int) != (x1.length : Int))) (by kernel_rfl) (fun hb1 => ?_) (fun hb1 => ?_)
  · rw [if_pos hb1] at h
    refine Sem.seq ?_
    refine Sem.runS (s1 := ⟨Fr 26 [(4, .v (.bool false))], []⟩) ?_ ?_
    · refine RunS.segF (n := 26) e_kit_SameInts_ok 1 [(4, .v (.bool false))] [] (by kernel_rfl) ?_
      exact RunS.done rfl Wk.f1
    refine Sem.ret ?_
    have hq := Option.some.inj h; subst hq
    exact ⟨⟨Fr 26 [(4, .v (.bool false))], []⟩, Wk.f1, .inr rfl, [.v (.bool false)], (by kernel_rfl), (by kernel_rfl)⟩
  · rw [if_f hb1] at h
    refine Sem.skip ?_
    refine Sem.seq ?_
    refine Sem.seq ?_
    refine Sem.runS (s1 := ⟨Fr 26 [(0, .sl 1 (x0.map cdI.enc)), (1, .sl 1 (x1.map cdI.enc)), (5, .v (.int .i64 0))], []⟩) ?_ ?_
    · refine RunS.segF (n := 26) e_kit_SameInts_ok 1 [(0, .sl 1 (x0.map cdI.enc)), (1, .sl 1 (x1.map cdI.enc)), (5, .v (.int .i64 0))] [] (by kernel_rfl) ?_
      exact RunS.done rfl Wk.f1
    refine Sem.block ?_
    obtain ⟨r8, hr8, h⟩ := Option.bind_eq_some_iff.1 h
    refine Sem.loop (n := 100000) ?_
    rcases r8 with w9 | w10
    · try dsimp only at h
      refine Sem.cutN (SemN.wk (s1 := ⟨Fr 26 [(0, .sl 1 (x0.map cdI.enc)), (1, .sl 1 (x1.map cdI.enc)), (5, .v (.int .i64 0))], []⟩) Wk.f1 (kit_SameInts_1_ok x0 x1 _ 0 _ hr8)) ?_
      refine Sem.seq ?_
      refine Sem.runS (s1 := ⟨Fr 26 [(4, .v (.bool true))], []⟩) ?_ ?_
      · refine RunS.segF (n := 26) e_kit_SameInts_ok 1 [(4, .v (.bool true))] [] (by kernel_rfl) ?_
        exact RunS.done rfl Wk.f1
      refine Sem.ret ?_
      have hq := Option.some.inj h; subst hq
      exact ⟨⟨Fr 26 [(4, .v (.bool true))], []⟩, Wk.f1, .inr rfl, [.v (.bool true)], (by kernel_rfl), (by kernel_rfl)⟩
    · try dsimp only at h
      refine Sem.cutN (SemN.wk (s1 := ⟨Fr 26 [(0, .sl 1 (x0.map cdI.enc)), (1, .sl 1 (x1.map cdI.enc)), (5, .v (.int .i64 0))], []⟩) Wk.f1 (kit_SameInts_1_ok x0 x1 _ 0 _ hr8)) ?_
      have hq := Option.some.inj h; subst hq
      exact ⟨⟨Fr 26 [(4, .v (.bool w10))], []⟩, Wk.f1, .inr rfl, [.v (.bool w10)], (by kernel_rfl), (by kernel_rfl)⟩
def t_kit_SameInts : List AV → Option AV := told cs_kit_SameInts (fun a => kit_SameInts a.1 a.2.1) er_kit_SameInts
theorem x_kit_SameInts : XOk 43 t_kit_SameInts := by
  refine EnvOk.x (E := e_kit_SameInts) (contract_ok e_kit_SameInts_ok (fn := Tryd.f43) (c := cb_kit_SameInts) ?h1 ?h2 ⟨Tryd.call43⟩ cs_kit_SameInts (fun a => kit_SameInts a.1 a.2.1) er_kit_SameInts (fun a => (by show 2 ≤ 26; decide)) ?h3 ?h4) rfl rfl
  case h1 => kernel_rfl
  case h2 => kernel_rfl
  case h3 => intro b; kernel_rfl
  case h4 => exact fun a b h => kit_SameInts_sem a.1 a.2.1 b h
/- trestle/trestlekit.SameLists -/
noncomputable def e_kit_SameLists : Env := (E0.withX 43 t_kit_SameInts)
theorem e_kit_SameLists_ok : EnvOk e_kit_SameLists := (EnvOk.withX E0_ok x_kit_SameInts.1 x_kit_SameInts.2)
noncomputable def cb_kit_SameLists : Code := codeOf Tryd.f56
def kit_SameLists_1 (x0 : (List (List Int))) (x1 : (List (List Int))) : Nat → Int → Option ((Unit) ⊕ (Bool))
  | 0, _ => none
  | f + 1, c2 =>
    if (decide (c2 < (x0.length : Int))) = true then
    (idx x0 c2).bind fun v4 =>
    (idx x1 c2).bind fun v5 =>
    (kit_SameInts v4 v5).bind fun v6 =>
    if (!v6) = true then
    some (.inr false)
    else
    kit_SameLists_1 x0 x1 f (wr .i64 (c2 + 1))
    else
    some (.inl ())
def kit_SameLists (x0 : (List (List Int))) (x1 : (List (List Int))) : Option (Bool) :=
  if ((x0.length : Int) != (x1.length : Int)) = true then
  some false
  else
  (kit_SameLists_1 x0 x1 100000 0).bind fun r9 =>
  match r9 with
  | (.inl w10) =>
    some true
  | (.inr w11) =>
    some w11
def cs_kit_SameLists : Cs ((List (List Int)) × (List (List Int)) × Unit) := (csC (cdL 1 (cdL 1 cdI)) (csC (cdL 1 (cdL 1 cdI)) csN))
def er_kit_SameLists (r : Bool) : AV := cdB.enc r
set_option maxHeartbeats 4000000 in
set_option maxRecDepth 100000 in
theorem kit_SameLists_1_ok (x0 : (List (List Int))) (x1 : (List (List Int))) : ∀ (f : Nat) (c2 : Int) (r : (Unit) ⊕ (Bool)), kit_SameLists_1 x0 x1 f c2 = some r → SemN e_kit_SameLists ⟨none, false⟩ (pc cb_kit_SameLists [1, 1, 0, 1, 0, 0]) f ⟨Fr 27 [(0, .sl 1 (x0.map (cdL 1 cdI).enc)), (1, .sl 1 (x1.map (cdL 1 cdI).enc)), (5, .v (.int .i64 c2))], []⟩ (fun e s => match r with
  | (.inl w) => e = (.exit 0) ∧ Wk e_kit_SameLists s ⟨Fr 27 [], []⟩
  | (.inr w) => e = .ret ∧ Wk e_kit_SameLists s ⟨Fr 27 [(4, .v (.bool w))], []⟩) := by
  intro f
  induction f with
  | zero => intro c2 r h; cases h
  | succ f ih0 =>
    intro c2 r h
    have ih := fun (c2 : Int) => ih0 c2 r
    unfold kit_SameLists_1 at h
    refine SemN.succ ?_
    refine Sem.seq ?_
    refine Sem.seq ?_
    refine Sem.runS (s1 := ⟨Fr 27 [(0, .sl 1 (x0.map (cdL 1 cdI).enc)), (1, .sl 1 (x1.map (cdL 1 cdI).enc)), (5, .v (.int .i64 c2)), (14, .v (.bool (decide (c2 < (x0.length : Int)))))], []⟩) ?_ ?_
    · refine RunS.segF (n := 27) e_kit_SameLists_ok 2 [(0, .sl 1 (x0.map (cdL 1 cdI).enc)), (1, .sl 1 (x1.map (cdL 1 cdI).enc)), (5, .v (.int .i64 c2)), (11, .v (.int .i64 c2)), (12, .sl 1 (x0.map (cdL 1 cdI).enc))] [] (by kernel_rfl) ?_
      refine RunS.one e_kit_SameLists_ok 0 rfl (op_q (wantedA_none rfl) rfl (q_len (a := .sl 1 (x0.map (cdL 1 cdI).enc)) (by kernel_rfl) (len_sl (el := 31) (by kernel_rfl)))) ?_
      refine RunS.segF (n := 27) e_kit_SameLists_ok 1 [(0, .sl 1 (x0.map (cdL 1 cdI).enc)), (1, .sl 1 (x1.map (cdL 1 cdI).enc)), (5, .v (.int .i64 c2)), (14, .v (.bool (decide (c2 < (x0.length : Int)))))] [] (by kernel_rfl) ?_
      exact RunS.done rfl Wk.f1
    refine Sem.cond (b := (decide (c2 < (x0.length : Int)))) (by kernel_rfl) (fun hb3 => ?_) (fun hb3 => ?_)
    · rw [if_pos hb3] at h
      refine Sem.skip ?_
      refine Sem.seq ?_
      refine Sem.block ?_
      refine Sem.seq ?_
      obtain ⟨v4, hv4, h⟩ := Option.bind_eq_some_iff.1 h
      obtain ⟨v5, hv5, h⟩ := Option.bind_eq_some_iff.1 h
      obtain ⟨v6, hv6, h⟩ := Option.bind_eq_some_iff.1 h
      refine Sem.runDS e_kit_SameLists_ok (s1 := ⟨Fr 27 [(0, .sl 1 (x0.map (cdL 1 cdI).enc)), (1, .sl 1 (x1.map (cdL 1 cdI).enc)), (5, .v (.int .i64 c2)), (26, .v (.bool (!v6)))], []⟩) (by kernel_rfl) ?_ ?_
      · refine RunDS.segF (n := 27) e_kit_SameLists_ok 2 [(0, .sl 1 (x0.map (cdL 1 cdI).enc)), (1, .sl 1 (x1.map (cdL 1 cdI).enc)), (5, .v (.int .i64 c2)), (17, .sl 1 (x0.map (cdL 1 cdI).enc)), (18, .v (.int .i64 c2))] [] (by kernel_rfl) (by kernel_rfl) ?_
        refine RunDS.one e_kit_SameLists_ok rfl (by kernel_rfl) (opd_q (by kernel_rfl) (wantedA_none rfl) rfl (q_indexAddr (a := .sl 1 (x0.map (cdL 1 cdI).enc)) (b := .v (.int .i64 c2)) (by kernel_rfl) (by kernel_rfl) (ix_sl (e := (cdL 1 cdI).enc) (el := 31) (k := 1) (ki := .i64) (by kernel_rfl) (by kernel_rfl) hv4)) (by kernel_rfl)) ?_
        refine RunDS.segF (n := 27) e_kit_SameLists_ok 3 [(0, .sl 1 (x0.map (cdL 1 cdI).enc)), (1, .sl 1 (x1.map (cdL 1 cdI).enc)), (5, .v (.int .i64 c2)), (20, .sl 1 (v4.map cdI.enc)), (21, .sl 1 (x1.map (cdL 1 cdI).enc)), (22, .v (.int .i64 c2))] [] (by kernel_rfl) (by kernel_rfl) ?_
        refine RunDS.one e_kit_SameLists_ok rfl (by kernel_rfl) (opd_q (by kernel_rfl) (wantedA_none rfl) rfl (q_indexAddr (a := .sl 1 (x1.map (cdL 1 cdI).enc)) (b := .v (.int .i64 c2)) (by kernel_rfl) (by kernel_rfl) (ix_sl (e := (cdL 1 cdI).enc) (el := 31) (k := 1) (ki := .i64) (by kernel_rfl) (by kernel_rfl) hv5)) (by kernel_rfl)) ?_
        refine RunDS.segF (n := 27) e_kit_SameLists_ok 1 [(0, .sl 1 (x0.map (cdL 1 cdI).enc)), (1, .sl 1 (x1.map (cdL 1 cdI).enc)), (5, .v (.int .i64 c2)), (20, .sl 1 (v4.map cdI.enc)), (24, .sl 1 (v5.map cdI.enc))] [] (by kernel_rfl) (by kernel_rfl) ?_
        refine RunDS.call e_kit_SameLists_ok (fid := 43) (s := cs_kit_SameInts) (F := fun a => kit_SameInts a.1 a.2.1) (er := er_kit_SameInts) (xs := [.sl 1 (v4.map cdI.enc), .sl 1 (v5.map cdI.enc)]) (a := (v4, v5, ())) rfl (wantedA_none rfl) (by kernel_rfl) (by kernel_rfl) (by kernel_rfl) (Sns.cons (Sn.enc (c := (cdL 1 cdI)) (v := v4)) (Sns.cons (Sn.enc (c := (cdL 1 cdI)) (v := v5)) Sns.nil)) (by kernel_rfl) hv6 ?_
        refine RunDS.segF (n := 27) e_kit_SameLists_ok 1 [(0, .sl 1 (x0.map (cdL 1 cdI).enc)), (1, .sl 1 (x1.map (cdL 1 cdI).enc)), (5, .v (.int .i64 c2)), (26, .v (.bool (!v6)))] [] (by kernel_rfl) (by kernel_rfl) ?_
        exact RunDS.done rfl Wk.f1
      refine Sem.cond (b := (!v6)) (by kernel_rfl) (fun hb7 => ?_) (fun hb7 => ?_)
      · rw [if_pos hb7] at h
        refine Sem.seq ?_
        refine Sem.runS (s1 := ⟨Fr 27 [(4, .v (.bool false))], []⟩) ?_ ?_
        · refine RunS.segF (n := 27) e_kit_SameLists_ok 1 [(4, .v (.bool false))] [] (by kernel_rfl) ?_
          exact RunS.done rfl Wk.f1
        refine Sem.ret ?_
        have hq := Option.some.inj h; subst hq
        exact ⟨rfl, Wk.f1⟩
      · rw [if_f hb7] at h
        refine Sem.skip ?_
        refine Sem.runS (s1 := ⟨Fr 27 [(0, .sl 1 (x0.map (cdL 1 cdI).enc)), (1, .sl 1 (x1.map (cdL 1 cdI).enc)), (5, .v (.int .i64 (wr .i64 (c2 + 1))))], []⟩) ?_ ?_
        · refine RunS.segF (n := 27) e_kit_SameLists_ok 3 [(0, .sl 1 (x0.map (cdL 1 cdI).enc)), (1, .sl 1 (x1.map (cdL 1 cdI).enc)), (5, .v (.int .i64 (wr .i64 (c2 + 1))))] [] (by kernel_rfl) ?_
          exact RunS.done rfl Wk.f1
        exact SemN.wk (s1 := ⟨Fr 27 [(0, .sl 1 (x0.map (cdL 1 cdI).enc)), (1, .sl 1 (x1.map (cdL 1 cdI).enc)), (5, .v (.int .i64 (wr .i64 (c2 + 1))))], []⟩) Wk.f1 (ih (wr .i64 (c2 + 1)) h)
    · rw [if_f hb3] at h
      refine Sem.exit ?_
      have hq := Option.some.inj h; subst hq
      exact ⟨rfl, Wk.f1⟩
set_option maxHeartbeats 4000000 in
set_option maxRecDepth 100000 in
theorem kit_SameLists_sem (x0 : (List (List Int))) (x1 : (List (List Int))) (r : Bool) (h : kit_SameLists x0 x1 = some r) : Sem e_kit_SameLists ⟨none, false⟩ cb_kit_SameLists ⟨Fr 27 (pairs0 0 (cs_kit_SameLists.enc (x0, x1, ()))), []⟩ fun e s' => (e = .normal ∨ e = .ret) ∧ ∃ xs, resA e_kit_SameLists.P s'.fr s'.hp Tryd.f56.results.toList = some xs ∧ retA xs = er_kit_SameLists r := by
  unfold kit_SameLists at h
  refine Sem.wkQ (Sem.wk (s1 := ⟨Fr 27 [(0, .sl 1 (x0.map (cdL 1 cdI).enc)), (1, .sl 1 (x1.map (cdL 1 cdI).enc))], []⟩) Wk.f1 ?_)
  refine Sem.seq ?_
  refine Sem.runS (s1 := ⟨Fr 27 [(0, .sl 1 (x0.map (cdL 1 cdI).enc)), (1, .sl 1 (x1.map (cdL 1 cdI).enc))], []⟩) ?_ ?_
  · refine RunS.segF (n := 27) e_kit_SameLists_ok 1 [(0, .sl 1 (x0.map (cdL 1 cdI).enc)), (1, .sl 1 (x1.map (cdL 1 cdI).enc))] [] (by kernel_rfl) ?_
    exact RunS.done rfl Wk.f1
  refine Sem.seq ?_
  refine Sem.seq ?_
  refine Sem.runS (s1 := ⟨Fr 27 [(0, .sl 1 (x0.map (cdL 1 cdI).enc)), (1, .sl 1 (x1.map (cdL 1 cdI).enc)), (10, .v (.bool ((x0.length : Int) != (x1.length : Int))))], []⟩) ?_ ?_
  · refine RunS.segF (n := 27) e_kit_SameLists_ok 1 [(0, .sl 1 (x0.map (cdL 1 cdI).enc)), (1, .sl 1 (x1.map (cdL 1 cdI).enc)), (6, .sl 1 (x0.map (cdL 1 cdI).enc))] [] (by kernel_rfl) ?_
    refine RunS.one e_kit_SameLists_ok 0 rfl (op_q (wantedA_none rfl) rfl (q_len (a := .sl 1 (x0.map (cdL 1 cdI).enc)) (by kernel_rfl) (len_sl (el := 31) (by kernel_rfl)))) ?_
    refine RunS.segF (n := 27) e_kit_SameLists_ok 1 [(0, .sl 1 (x0.map (cdL 1 cdI).enc)), (1, .sl 1 (x1.map (cdL 1 cdI).enc)), (7, .v (.int .i64 (x0.length : Int))), (8, .sl 1 (x1.map (cdL 1 cdI).enc))] [] (by kernel_rfl) ?_
    refine RunS.one e_kit_SameLists_ok 0 rfl (op_q (wantedA_none rfl) rfl (q_len (a := .sl 1 (x1.map (cdL 1 cdI).enc)) (by kernel_rfl) (len_sl (el := 31) (by kernel_rfl)))) ?_
    refine RunS.segF (n := 27) e_kit_SameLists_ok 1 [(0, .sl 1 (x0.map (cdL 1 cdI).enc)), (1, .sl 1 (x1.map (cdL 1 cdI).enc)), (10, .v (.bool ((x0.length : Int) != (x1.length : Int))))] [] (by kernel_rfl) ?_
    exact RunS.done rfl Wk.f1
  refine Sem.cond (b := ((x0.length : Int) != (x1.length : Int))) (by kernel_rfl) (fun hb1 => ?_) (fun hb1 => ?_)
  · rw [if_pos hb1] at h
    refine Sem.seq ?_
    refine Sem.runS (s1 := ⟨Fr 27 [(4, .v (.bool false))], []⟩) ?_ ?_
    · refine RunS.segF (n := 27) e_kit_SameLists_ok 1 [(4, .v (.bool false))] [] (by kernel_rfl) ?_
      exact RunS.done rfl Wk.f1
    refine Sem.ret ?_
    have hq := Option.some.inj h; subst hq
    exact ⟨⟨Fr 27 [(4, .v (.bool false))], []⟩, Wk.f1, .inr rfl, [.v (.bool false)], (by kernel_rfl), (by kernel_rfl)⟩
  · rw [if_f hb1] at h
    refine Sem.skip ?_
    refine Sem.seq ?_
    refine Sem.seq ?_
    refine Sem.runS (s1 := ⟨Fr 27 [(0, .sl 1 (x0.map (cdL 1 cdI).enc)), (1, .sl 1 (x1.map (cdL 1 cdI).enc)), (5, .v (.int .i64 0))], []⟩) ?_ ?_
    · refine RunS.segF (n := 27) e_kit_SameLists_ok 1 [(0, .sl 1 (x0.map (cdL 1 cdI).enc)), (1, .sl 1 (x1.map (cdL 1 cdI).enc)), (5, .v (.int .i64 0))] [] (by kernel_rfl) ?_
      exact RunS.done rfl Wk.f1
    refine Sem.block ?_
    obtain ⟨r9, hr9, h⟩ := Option.bind_eq_some_iff.1 h
    refine Sem.loop (n := 100000) ?_
    rcases r9 with w10 | w11
    · try dsimp only at h
      refine Sem.cutN (SemN.wk (s1 := ⟨Fr 27 [(0, .sl 1 (x0.map (cdL 1 cdI).enc)), (1, .sl 1 (x1.map (cdL 1 cdI).enc)), (5, .v (.int .i64 0))], []⟩) Wk.f1 (kit_SameLists_1_ok x0 x1 _ 0 _ hr9)) ?_
      refine Sem.seq ?_
      refine Sem.runS (s1 := ⟨Fr 27 [(4, .v (.bool true))], []⟩) ?_ ?_
      · refine RunS.segF (n := 27) e_kit_SameLists_ok 1 [(4, .v (.bool true))] [] (by kernel_rfl) ?_
        exact RunS.done rfl Wk.f1
      refine Sem.ret ?_
      have hq := Option.some.inj h; subst hq
      exact ⟨⟨Fr 27 [(4, .v (.bool true))], []⟩, Wk.f1, .inr rfl, [.v (.bool true)], (by kernel_rfl), (by kernel_rfl)⟩
    · try dsimp only at h
      refine Sem.cutN (SemN.wk (s1 := ⟨Fr 27 [(0, .sl 1 (x0.map (cdL 1 cdI).enc)), (1, .sl 1 (x1.map (cdL 1 cdI).enc)), (5, .v (.int .i64 0))], []⟩) Wk.f1 (kit_SameLists_1_ok x0 x1 _ 0 _ hr9)) ?_
      have hq := Option.some.inj h; subst hq
      exact ⟨⟨Fr 27 [(4, .v (.bool w11))], []⟩, Wk.f1, .inr rfl, [.v (.bool w11)], (by kernel_rfl), (by kernel_rfl)⟩
def t_kit_SameLists : List AV → Option AV := told cs_kit_SameLists (fun a => kit_SameLists a.1 a.2.1) er_kit_SameLists
theorem x_kit_SameLists : XOk 56 t_kit_SameLists := by
  refine EnvOk.x (E := e_kit_SameLists) (contract_ok e_kit_SameLists_ok (fn := Tryd.f56) (c := cb_kit_SameLists) ?h1 ?h2 ⟨Tryd.call56⟩ cs_kit_SameLists (fun a => kit_SameLists a.1 a.2.1) er_kit_SameLists (fun a => (by show 2 ≤ 27; decide)) ?h3 ?h4) rfl rfl
  case h1 => kernel_rfl
  case h2 => kernel_rfl
  case h3 => intro b; kernel_rfl
  case h4 => exact fun a b h => kit_SameLists_sem a.1 a.2.1 b h
/- trestle/trestlelaw09.Same$1 -/
noncomputable def e_law09_Same_1 : Env := (E0.withX 56 t_kit_SameLists)
theorem e_law09_Same_1_ok : EnvOk e_law09_Same_1 := (EnvOk.withX E0_ok x_kit_SameLists.1 x_kit_SameLists.2)
noncomputable def cb_law09_Same_1 : Code := codeOf Tryd.f55
def law09_Same_1 (x0 : (List (List Int))) (x1 : (List (List Int))) : Option (Bool) :=
  (kit_SameLists x0 x1).bind fun v1 =>
  some v1
def cs_law09_Same_1 : Cs ((List (List Int)) × (List (List Int)) × Unit) := (csC (cdL 1 (cdL 1 cdI)) (csC (cdL 1 (cdL 1 cdI)) csN))
def er_law09_Same_1 (r : Bool) : AV := cdB.enc r
set_option maxHeartbeats 4000000 in
set_option maxRecDepth 100000 in
theorem law09_Same_1_sem (x0 : (List (List Int))) (x1 : (List (List Int))) (r : Bool) (h : law09_Same_1 x0 x1 = some r) : Sem e_law09_Same_1 ⟨none, false⟩ cb_law09_Same_1 ⟨Fr 8 (pairs0 0 (cs_law09_Same_1.enc (x0, x1, ()))), []⟩ fun e s' => (e = .normal ∨ e = .ret) ∧ ∃ xs, resA e_law09_Same_1.P s'.fr s'.hp Tryd.f55.results.toList = some xs ∧ retA xs = er_law09_Same_1 r := by
  unfold law09_Same_1 at h
  refine Sem.wkQ (Sem.wk (s1 := ⟨Fr 8 [(0, .sl 1 (x0.map (cdL 1 cdI).enc)), (1, .sl 1 (x1.map (cdL 1 cdI).enc))], []⟩) Wk.f1 ?_)
  refine Sem.seq ?_
  refine Sem.runS (s1 := ⟨Fr 8 [(0, .sl 1 (x0.map (cdL 1 cdI).enc)), (1, .sl 1 (x1.map (cdL 1 cdI).enc))], []⟩) ?_ ?_
  · refine RunS.segF (n := 8) e_law09_Same_1_ok 1 [(0, .sl 1 (x0.map (cdL 1 cdI).enc)), (1, .sl 1 (x1.map (cdL 1 cdI).enc))] [] (by kernel_rfl) ?_
    exact RunS.done rfl Wk.f1
  refine Sem.seq ?_
  obtain ⟨v1, hv1, h⟩ := Option.bind_eq_some_iff.1 h
  refine Sem.runS (s1 := ⟨Fr 8 [(4, .v (.bool v1))], []⟩) ?_ ?_
  · refine RunS.segF (n := 8) e_law09_Same_1_ok 2 [(5, .sl 1 (x0.map (cdL 1 cdI).enc)), (6, .sl 1 (x1.map (cdL 1 cdI).enc))] [] (by kernel_rfl) ?_
    refine RunS.call e_law09_Same_1_ok (fid := 56) (s := cs_kit_SameLists) (F := fun a => kit_SameLists a.1 a.2.1) (er := er_kit_SameLists) (xs := [.sl 1 (x0.map (cdL 1 cdI).enc), .sl 1 (x1.map (cdL 1 cdI).enc)]) (a := (x0, x1, ())) rfl (wantedA_none rfl) (by kernel_rfl) (by kernel_rfl) (by kernel_rfl) (by kernel_rfl) (Sns.cons (Sn.enc (c := (cdL 1 (cdL 1 cdI))) (v := x0)) (Sns.cons (Sn.enc (c := (cdL 1 (cdL 1 cdI))) (v := x1)) Sns.nil)) (.inl (by kernel_rfl)) hv1 ?_
    refine RunS.segF (n := 8) e_law09_Same_1_ok 1 [(4, .v (.bool v1))] [] (by kernel_rfl) ?_
    exact RunS.done rfl Wk.f1
  refine Sem.ret ?_
  have hq := Option.some.inj h; subst hq
  exact ⟨⟨Fr 8 [(4, .v (.bool v1))], []⟩, Wk.f1, .inr rfl, [.v (.bool v1)], (by kernel_rfl), (by kernel_rfl)⟩
def t_law09_Same_1 : List AV → Option AV := told cs_law09_Same_1 (fun a => law09_Same_1 a.1 a.2.1) er_law09_Same_1
theorem x_law09_Same_1 : XOk 55 t_law09_Same_1 := by
  refine EnvOk.x (E := e_law09_Same_1) (contract_ok e_law09_Same_1_ok (fn := Tryd.f55) (c := cb_law09_Same_1) ?h1 ?h2 ⟨Tryd.call55⟩ cs_law09_Same_1 (fun a => law09_Same_1 a.1 a.2.1) er_law09_Same_1 (fun a => (by show 2 ≤ 8; decide)) ?h3 ?h4) rfl rfl
  case h1 => kernel_rfl
  case h2 => kernel_rfl
  case h3 => intro b; kernel_rfl
  case h4 => exact fun a b h => law09_Same_1_sem a.1 a.2.1 b h
/- slices.EqualFunc[[][][]int,[][][]int,[][]int,[][]int] -/
noncomputable def e_slices_EqualFunc_LLL_LLL_LL_LL__law09_Same_1 : Env := (E0.withX 55 t_law09_Same_1)
theorem e_slices_EqualFunc_LLL_LLL_LL_LL__law09_Same_1_ok : EnvOk e_slices_EqualFunc_LLL_LLL_LL_LL__law09_Same_1 := (EnvOk.withX E0_ok x_law09_Same_1.1 x_law09_Same_1.2)
noncomputable def cb_slices_EqualFunc_LLL_LLL_LL_LL__law09_Same_1 : Code := codeOf Tryd.f54
def slices_EqualFunc_LLL_LLL_LL_LL__law09_Same_1_1 (x0 : (List (List (List Int)))) (x1 : (List (List (List Int)))) : Nat → Int → Option ((Unit) ⊕ (Bool))
  | 0, _ => none
  | f + 1, c2 =>
    if (decide (c2 < (x0.length : Int))) = true then
    (idx x0 c2).bind fun v4 =>
    (idx x1 c2).bind fun v5 =>
    (law09_Same_1 v4 v5).bind fun v6 =>
    if (!v6) = true then
    some (.inr false)
    else
    slices_EqualFunc_LLL_LLL_LL_LL__law09_Same_1_1 x0 x1 f (wr .i64 (c2 + 1))
    else
    some (.inl ())
def slices_EqualFunc_LLL_LLL_LL_LL__law09_Same_1 (x0 : (List (List (List Int)))) (x1 : (List (List (List Int)))) : Option (Bool) :=
  if ((x0.length : Int) != (x1.length : Int)) = true then
  some false
  else
  (slices_EqualFunc_LLL_LLL_LL_LL__law09_Same_1_1 x0 x1 100000 0).bind fun r9 =>
  match r9 with
  | (.inl w10) =>
    some true
  | (.inr w11) =>
    some w11
def er_slices_EqualFunc_LLL_LLL_LL_LL__law09_Same_1 (r : Bool) : AV := cdB.enc r
set_option maxHeartbeats 4000000 in
set_option maxRecDepth 100000 in
theorem slices_EqualFunc_LLL_LLL_LL_LL__law09_Same_1_1_ok (x0 : (List (List (List Int)))) (x1 : (List (List (List Int)))) : ∀ (f : Nat) (c2 : Int) (r : (Unit) ⊕ (Bool)), slices_EqualFunc_LLL_LLL_LL_LL__law09_Same_1_1 x0 x1 f c2 = some r → SemN e_slices_EqualFunc_LLL_LLL_LL_LL__law09_Same_1 ⟨none, false⟩ (pc cb_slices_EqualFunc_LLL_LLL_LL_LL__law09_Same_1 [1, 1, 0, 1, 0, 0]) f ⟨Fr 32 [(1, .sl 1 (x1.map (cdL 1 (cdL 1 cdI)).enc)), (2, .fn 55 [] []), (15, .sl 1 (x0.map (cdL 1 (cdL 1 cdI)).enc)), (16, .v (.int .i64 (x0.length : Int))), (17, .v (.int .i64 c2))], []⟩ (fun e s => match r with
  | (.inl w) => e = (.exit 0) ∧ Wk e_slices_EqualFunc_LLL_LLL_LL_LL__law09_Same_1 s ⟨Fr 32 [], []⟩
  | (.inr w) => e = .ret ∧ Wk e_slices_EqualFunc_LLL_LLL_LL_LL__law09_Same_1 s ⟨Fr 32 [(6, .v (.bool w))], []⟩) := by
  intro f
  induction f with
  | zero => intro c2 r h; cases h
  | succ f ih0 =>
    intro c2 r h
    have ih := fun (c2 : Int) => ih0 c2 r
    unfold slices_EqualFunc_LLL_LLL_LL_LL__law09_Same_1_1 at h
    refine SemN.succ ?_
    refine Sem.seq ?_
    refine Sem.runS (s1 := ⟨Fr 32 [(1, .sl 1 (x1.map (cdL 1 (cdL 1 cdI)).enc)), (2, .fn 55 [] []), (15, .sl 1 (x0.map (cdL 1 (cdL 1 cdI)).enc)), (16, .v (.int .i64 (x0.length : Int))), (17, .v (.int .i64 c2)), (18, .v (.bool (decide (c2 < (x0.length : Int)))))], []⟩) ?_ ?_
    · refine RunS.segF (n := 32) e_slices_EqualFunc_LLL_LLL_LL_LL__law09_Same_1_ok 1 [(1, .sl 1 (x1.map (cdL 1 (cdL 1 cdI)).enc)), (2, .fn 55 [] []), (15, .sl 1 (x0.map (cdL 1 (cdL 1 cdI)).enc)), (16, .v (.int .i64 (x0.length : Int))), (17, .v (.int .i64 c2)), (18, .v (.bool (decide (c2 < (x0.length : Int)))))] [] (by kernel_rfl) ?_
      exact RunS.done rfl Wk.f1
    refine Sem.seq ?_
    refine Sem.cond (b := (decide (c2 < (x0.length : Int)))) (by kernel_rfl) (fun hb3 => ?_) (fun hb3 => ?_)
    · rw [if_pos hb3] at h
      refine Sem.skip ?_
      refine Sem.seq ?_
      refine Sem.block ?_
      refine Sem.seq ?_
      obtain ⟨v4, hv4, h⟩ := Option.bind_eq_some_iff.1 h
      refine Sem.runS (s1 := ⟨Fr 32 [(1, .sl 1 (x1.map (cdL 1 (cdL 1 cdI)).enc)), (2, .fn 55 [] []), (7, .v (.int .i64 c2)), (8, .sl 1 (v4.map (cdL 1 cdI).enc)), (15, .sl 1 (x0.map (cdL 1 (cdL 1 cdI)).enc)), (16, .v (.int .i64 (x0.length : Int))), (17, .v (.int .i64 c2))], []⟩) ?_ ?_
      · refine RunS.segF (n := 32) e_slices_EqualFunc_LLL_LLL_LL_LL__law09_Same_1_ok 1 [(1, .sl 1 (x1.map (cdL 1 (cdL 1 cdI)).enc)), (2, .fn 55 [] []), (15, .sl 1 (x0.map (cdL 1 (cdL 1 cdI)).enc)), (16, .v (.int .i64 (x0.length : Int))), (17, .v (.int .i64 c2)), (19, .v (.int .i64 c2))] [] (by kernel_rfl) ?_
        refine RunS.one e_slices_EqualFunc_LLL_LLL_LL_LL__law09_Same_1_ok 0 rfl (op_q (wantedA_none rfl) rfl (q_indexAddr (a := .sl 1 (x0.map (cdL 1 (cdL 1 cdI)).enc)) (b := .v (.int .i64 c2)) (by kernel_rfl) (by kernel_rfl) (ix_sl (e := (cdL 1 (cdL 1 cdI)).enc) (el := 50) (k := 1) (ki := .i64) (by kernel_rfl) (by kernel_rfl) hv4))) ?_
        refine RunS.segF (n := 32) e_slices_EqualFunc_LLL_LLL_LL_LL__law09_Same_1_ok 3 [(1, .sl 1 (x1.map (cdL 1 (cdL 1 cdI)).enc)), (2, .fn 55 [] []), (7, .v (.int .i64 c2)), (8, .sl 1 (v4.map (cdL 1 cdI).enc)), (15, .sl 1 (x0.map (cdL 1 (cdL 1 cdI)).enc)), (16, .v (.int .i64 (x0.length : Int))), (17, .v (.int .i64 c2))] [] (by kernel_rfl) ?_
        exact RunS.done rfl Wk.f1
      refine Sem.seq ?_
      obtain ⟨v5, hv5, h⟩ := Option.bind_eq_some_iff.1 h
      refine Sem.runS (s1 := ⟨Fr 32 [(1, .sl 1 (x1.map (cdL 1 (cdL 1 cdI)).enc)), (2, .fn 55 [] []), (8, .sl 1 (v4.map (cdL 1 cdI).enc)), (9, .sl 1 (v5.map (cdL 1 cdI).enc)), (15, .sl 1 (x0.map (cdL 1 (cdL 1 cdI)).enc)), (16, .v (.int .i64 (x0.length : Int))), (17, .v (.int .i64 c2))], []⟩) ?_ ?_
      · refine RunS.segF (n := 32) e_slices_EqualFunc_LLL_LLL_LL_LL__law09_Same_1_ok 2 [(1, .sl 1 (x1.map (cdL 1 (cdL 1 cdI)).enc)), (2, .fn 55 [] []), (8, .sl 1 (v4.map (cdL 1 cdI).enc)), (15, .sl 1 (x0.map (cdL 1 (cdL 1 cdI)).enc)), (16, .v (.int .i64 (x0.length : Int))), (17, .v (.int .i64 c2)), (22, .sl 1 (x1.map (cdL 1 (cdL 1 cdI)).enc)), (23, .v (.int .i64 c2))] [] (by kernel_rfl) ?_
        refine RunS.one e_slices_EqualFunc_LLL_LLL_LL_LL__law09_Same_1_ok 0 rfl (op_q (wantedA_none rfl) rfl (q_indexAddr (a := .sl 1 (x1.map (cdL 1 (cdL 1 cdI)).enc)) (b := .v (.int .i64 c2)) (by kernel_rfl) (by kernel_rfl) (ix_sl (e := (cdL 1 (cdL 1 cdI)).enc) (el := 50) (k := 1) (ki := .i64) (by kernel_rfl) (by kernel_rfl) hv5))) ?_
        refine RunS.segF (n := 32) e_slices_EqualFunc_LLL_LLL_LL_LL__law09_Same_1_ok 2 [(1, .sl 1 (x1.map (cdL 1 (cdL 1 cdI)).enc)), (2, .fn 55 [] []), (8, .sl 1 (v4.map (cdL 1 cdI).enc)), (9, .sl 1 (v5.map (cdL 1 cdI).enc)), (15, .sl 1 (x0.map (cdL 1 (cdL 1 cdI)).enc)), (16, .v (.int .i64 (x0.length : Int))), (17, .v (.int .i64 c2))] [] (by kernel_rfl) ?_
        exact RunS.done rfl Wk.f1
      refine Sem.seq ?_
      obtain ⟨v6, hv6, h⟩ := Option.bind_eq_some_iff.1 h
      refine Sem.runS (s1 := ⟨Fr 32 [(1, .sl 1 (x1.map (cdL 1 (cdL 1 cdI)).enc)), (2, .fn 55 [] []), (15, .sl 1 (x0.map (cdL 1 (cdL 1 cdI)).enc)), (16, .v (.int .i64 (x0.length : Int))), (17, .v (.int .i64 c2)), (30, .v (.bool (!v6)))], []⟩) ?_ ?_
      · refine RunS.segF (n := 32) e_slices_EqualFunc_LLL_LLL_LL_LL__law09_Same_1_ok 3 [(1, .sl 1 (x1.map (cdL 1 (cdL 1 cdI)).enc)), (2, .fn 55 [] []), (15, .sl 1 (x0.map (cdL 1 (cdL 1 cdI)).enc)), (16, .v (.int .i64 (x0.length : Int))), (17, .v (.int .i64 c2)), (26, .fn 55 [] []), (27, .sl 1 (v4.map (cdL 1 cdI).enc)), (28, .sl 1 (v5.map (cdL 1 cdI).enc))] [] (by kernel_rfl) ?_
        refine RunS.call e_slices_EqualFunc_LLL_LLL_LL_LL__law09_Same_1_ok (fid := 55) (s := cs_law09_Same_1) (F := fun a => law09_Same_1 a.1 a.2.1) (er := er_law09_Same_1) (xs := [.sl 1 (v4.map (cdL 1 cdI).enc), .sl 1 (v5.map (cdL 1 cdI).enc)]) (a := (v4, v5, ())) rfl (wantedA_none rfl) (by kernel_rfl) (by kernel_rfl) (by kernel_rfl) (by kernel_rfl) (Sns.cons (Sn.enc (c := (cdL 1 (cdL 1 cdI))) (v := v4)) (Sns.cons (Sn.enc (c := (cdL 1 (cdL 1 cdI))) (v := v5)) Sns.nil)) (.inl (by kernel_rfl)) hv6 ?_
        refine RunS.segF (n := 32) e_slices_EqualFunc_LLL_LLL_LL_LL__law09_Same_1_ok 1 [(1, .sl 1 (x1.map (cdL 1 (cdL 1 cdI)).enc)), (2, .fn 55 [] []), (15, .sl 1 (x0.map (cdL 1 (cdL 1 cdI)).enc)), (16, .v (.int .i64 (x0.length : Int))), (17, .v (.int .i64 c2)), (30, .v (.bool (!v6)))] [] (by kernel_rfl) ?_
        exact RunS.done rfl Wk.f1
      refine Sem.cond (b := (!v6)) (by kernel_rfl) (fun hb7 => ?_) (fun hb7 => ?_)
      · rw [if_pos hb7] at h
        refine Sem.seq ?_
        refine Sem.runS (s1 := ⟨Fr 32 [(6, .v (.bool false))], []⟩) ?_ ?_
        · refine RunS.segF (n := 32) e_slices_EqualFunc_LLL_LLL_LL_LL__law09_Same_1_ok 1 [(6, .v (.bool false))] [] (by kernel_rfl) ?_
          exact RunS.done rfl Wk.f1
        refine Sem.ret ?_
        have hq := Option.some.inj h; subst hq
        exact ⟨rfl, Wk.f1⟩
      · rw [if_f hb7] at h
        refine Sem.skip ?_
        refine Sem.runS (s1 := ⟨Fr 32 [(1, .sl 1 (x1.map (cdL 1 (cdL 1 cdI)).enc)), (2, .fn 55 [] []), (15, .sl 1 (x0.map (cdL 1 (cdL 1 cdI)).enc)), (16, .v (.int .i64 (x0.length : Int))), (17, .v (.int .i64 (wr .i64 (c2 + 1))))], []⟩) ?_ ?_
        · refine RunS.segF (n := 32) e_slices_EqualFunc_LLL_LLL_LL_LL__law09_Same_1_ok 2 [(1, .sl 1 (x1.map (cdL 1 (cdL 1 cdI)).enc)), (2, .fn 55 [] []), (15, .sl 1 (x0.map (cdL 1 (cdL 1 cdI)).enc)), (16, .v (.int .i64 (x0.length : Int))), (17, .v (.int .i64 (wr .i64 (c2 + 1))))] [] (by kernel_rfl) ?_
          exact RunS.done rfl Wk.f1
        exact SemN.wk (s1 := ⟨Fr 32 [(1, .sl 1 (x1.map (cdL 1 (cdL 1 cdI)).enc)), (2, .fn 55 [] []), (15, .sl 1 (x0.map (cdL 1 (cdL 1 cdI)).enc)), (16, .v (.int .i64 (x0.length : Int))), (17, .v (.int .i64 (wr .i64 (c2 + 1))))], []⟩) Wk.f1 (ih (wr .i64 (c2 + 1)) h)
    · rw [if_f hb3] at h
      refine Sem.exit ?_
      have hq := Option.some.inj h; subst hq
      exact ⟨rfl, Wk.f1⟩
set_option maxHeartbeats 4000000 in
set_option maxRecDepth 100000 in
theorem slices_EqualFunc_LLL_LLL_LL_LL__law09_Same_1_sem (x0 : (List (List (List Int)))) (x1 : (List (List (List Int)))) (r : Bool) (h : slices_EqualFunc_LLL_LLL_LL_LL__law09_Same_1 x0 x1 = some r) : Sem e_slices_EqualFunc_LLL_LLL_LL_LL__law09_Same_1 ⟨none, false⟩ cb_slices_EqualFunc_LLL_LLL_LL_LL__law09_Same_1 ⟨Fr 32 (pairs0 0 [.sl 1 (x0.map (cdL 1 (cdL 1 cdI)).enc), .sl 1 (x1.map (cdL 1 (cdL 1 cdI)).enc), .fn 55 [] []]), []⟩ fun e s' => (e = .normal ∨ e = .ret) ∧ ∃ xs, resA e_slices_EqualFunc_LLL_LLL_LL_LL__law09_Same_1.P s'.fr s'.hp Tryd.f54.results.toList = some xs ∧ (retA xs = er_slices_EqualFunc_LLL_LLL_LL_LL__law09_Same_1 r ∧ s'.hp = []) := by
  unfold slices_EqualFunc_LLL_LLL_LL_LL__law09_Same_1 at h
  refine Sem.wkQ (Sem.wk (s1 := ⟨Fr 32 [(0, .sl 1 (x0.map (cdL 1 (cdL 1 cdI)).enc)), (1, .sl 1 (x1.map (cdL 1 (cdL 1 cdI)).enc)), (2, .fn 55 [] [])], []⟩) Wk.f1 ?_)
  refine Sem.seq ?_
  refine Sem.runS (s1 := ⟨Fr 32 [(0, .sl 1 (x0.map (cdL 1 (cdL 1 cdI)).enc)), (1, .sl 1 (x1.map (cdL 1 (cdL 1 cdI)).enc)), (2, .fn 55 [] [])], []⟩) ?_ ?_
  · refine RunS.segF (n := 32) e_slices_EqualFunc_LLL_LLL_LL_LL__law09_Same_1_ok 1 [(0, .sl 1 (x0.map (cdL 1 (cdL 1 cdI)).enc)), (1, .sl 1 (x1.map (cdL 1 (cdL 1 cdI)).enc)), (2, .fn 55 [] [])] [] (by kernel_rfl) ?_
    exact RunS.done rfl Wk.f1
  refine Sem.seq ?_
  refine Sem.seq ?_
  refine Sem.runS (s1 := ⟨Fr 32 [(0, .sl 1 (x0.map (cdL 1 (cdL 1 cdI)).enc)), (1, .sl 1 (x1.map (cdL 1 (cdL 1 cdI)).enc)), (2, .fn 55 [] []), (14, .v (.bool ((x0.length : Int) != (x1.length : Int))))], []⟩) ?_ ?_
  · refine RunS.segF (n := 32) e_slices_EqualFunc_LLL_LLL_LL_LL__law09_Same_1_ok 1 [(0, .sl 1 (x0.map (cdL 1 (cdL 1 cdI)).enc)), (1, .sl 1 (x1.map (cdL 1 (cdL 1 cdI)).enc)), (2, .fn 55 [] []), (10, .sl 1 (x0.map (cdL 1 (cdL 1 cdI)).enc))] [] (by kernel_rfl) ?_
    refine RunS.one e_slices_EqualFunc_LLL_LLL_LL_LL__law09_Same_1_ok 0 rfl (op_q (wantedA_none rfl) rfl (q_len (a := .sl 1 (x0.map (cdL 1 (cdL 1 cdI)).enc)) (by kernel_rfl) (len_sl (el := 50) (by kernel_rfl)))) ?_
    refine RunS.segF (n := 32) e_slices_EqualFunc_LLL_LLL_LL_LL__law09_Same_1_ok 1 [(0, .sl 1 (x0.map (cdL 1 (cdL 1 cdI)).enc)), (1, .sl 1 (x1.map (cdL 1 (cdL 1 cdI)).enc)), (2, .fn 55 [] []), (11, .v (.int .i64 (x0.length : Int))), (12, .sl 1 (x1.map (cdL 1 (cdL 1 cdI)).enc))] [] (by kernel_rfl) ?_
    refine RunS.one e_slices_EqualFunc_LLL_LLL_LL_LL__law09_Same_1_ok 0 rfl (op_q (wantedA_none rfl) rfl (q_len (a := .sl 1 (x1.map (cdL 1 (cdL 1 cdI)).enc)) (by kernel_rfl) (len_sl (el := 50) (by kernel_rfl)))) ?_
    refine RunS.segF (n := 32) e_slices_EqualFunc_LLL_LLL_LL_LL__law09_Same_1_ok 1 [(0, .sl 1 (x0.map (cdL 1 (cdL 1 cdI)).enc)), (1, .sl 1 (x1.map (cdL 1 (cdL 1 cdI)).enc)), (2, .fn 55 [] []), (14, .v (.bool ((x0.length : Int) != (x1.length : Int))))] [] (by kernel_rfl) ?_
    exact RunS.done rfl Wk.f1
  refine Sem.cond (b := ((x0.length : Int) != (x1.length : Int))) (by kernel_rfl) (fun hb1 => ?_) (fun hb1 => ?_)
  · rw [if_pos hb1] at h
    refine Sem.seq ?_
    refine Sem.runS (s1 := ⟨Fr 32 [(6, .v (.bool false))], []⟩) ?_ ?_
    · refine RunS.segF (n := 32) e_slices_EqualFunc_LLL_LLL_LL_LL__law09_Same_1_ok 1 [(6, .v (.bool false))] [] (by kernel_rfl) ?_
      exact RunS.done rfl Wk.f1
    refine Sem.ret ?_
    have hq := Option.some.inj h; subst hq
    exact ⟨⟨Fr 32 [(6, .v (.bool false))], []⟩, Wk.f1, .inr rfl, [.v (.bool false)], (by kernel_rfl), ⟨(by kernel_rfl), rfl⟩⟩
  · rw [if_f hb1] at h
    refine Sem.skip ?_
    refine Sem.seq ?_
    refine Sem.seq ?_
    refine Sem.runS (s1 := ⟨Fr 32 [(1, .sl 1 (x1.map (cdL 1 (cdL 1 cdI)).enc)), (2, .fn 55 [] []), (15, .sl 1 (x0.map (cdL 1 (cdL 1 cdI)).enc)), (16, .v (.int .i64 (x0.length : Int))), (17, .v (.int .i64 0))], []⟩) ?_ ?_
    · refine RunS.segF (n := 32) e_slices_EqualFunc_LLL_LLL_LL_LL__law09_Same_1_ok 1 [(1, .sl 1 (x1.map (cdL 1 (cdL 1 cdI)).enc)), (2, .fn 55 [] []), (15, .sl 1 (x0.map (cdL 1 (cdL 1 cdI)).enc))] [] (by kernel_rfl) ?_
      refine RunS.one e_slices_EqualFunc_LLL_LLL_LL_LL__law09_Same_1_ok 0 rfl (op_q (wantedA_none rfl) rfl (q_len (a := .sl 1 (x0.map (cdL 1 (cdL 1 cdI)).enc)) (by kernel_rfl) (len_sl (el := 50) (by kernel_rfl)))) ?_
      refine RunS.segF (n := 32) e_slices_EqualFunc_LLL_LLL_LL_LL__law09_Same_1_ok 1 [(1, .sl 1 (x1.map (cdL 1 (cdL 1 cdI)).enc)), (2, .fn 55 [] []), (15, .sl 1 (x0.map (cdL 1 (cdL 1 cdI)).enc)), (16, .v (.int .i64 (x0.length : Int))), (17, .v (.int .i64 0))] [] (by kernel_rfl) ?_
      exact RunS.done rfl Wk.f1
    refine Sem.block ?_
    obtain ⟨r9, hr9, h⟩ := Option.bind_eq_some_iff.1 h
    refine Sem.loop (n := 100000) ?_
    rcases r9 with w10 | w11
    · try dsimp only at h
      refine Sem.cutN (SemN.wk (s1 := ⟨Fr 32 [(1, .sl 1 (x1.map (cdL 1 (cdL 1 cdI)).enc)), (2, .fn 55 [] []), (15, .sl 1 (x0.map (cdL 1 (cdL 1 cdI)).enc)), (16, .v (.int .i64 (x0.length : Int))), (17, .v (.int .i64 0))], []⟩) Wk.f1 (slices_EqualFunc_LLL_LLL_LL_LL__law09_Same_1_1_ok x0 x1 _ 0 _ hr9)) ?_
      refine Sem.seq ?_
      refine Sem.runS (s1 := ⟨Fr 32 [(6, .v (.bool true))], []⟩) ?_ ?_
      · refine RunS.segF (n := 32) e_slices_EqualFunc_LLL_LLL_LL_LL__law09_Same_1_ok 1 [(6, .v (.bool true))] [] (by kernel_rfl) ?_
        exact RunS.done rfl Wk.f1
      refine Sem.ret ?_
      have hq := Option.some.inj h; subst hq
      exact ⟨⟨Fr 32 [(6, .v (.bool true))], []⟩, Wk.f1, .inr rfl, [.v (.bool true)], (by kernel_rfl), ⟨(by kernel_rfl), rfl⟩⟩
    · try dsimp only at h
      refine Sem.cutN (SemN.wk (s1 := ⟨Fr 32 [(1, .sl 1 (x1.map (cdL 1 (cdL 1 cdI)).enc)), (2, .fn 55 [] []), (15, .sl 1 (x0.map (cdL 1 (cdL 1 cdI)).enc)), (16, .v (.int .i64 (x0.length : Int))), (17, .v (.int .i64 0))], []⟩) Wk.f1 (slices_EqualFunc_LLL_LLL_LL_LL__law09_Same_1_1_ok x0 x1 _ 0 _ hr9)) ?_
      have hq := Option.some.inj h; subst hq
      exact ⟨⟨Fr 32 [(6, .v (.bool w11))], []⟩, Wk.f1, .inr rfl, [.v (.bool w11)], (by kernel_rfl), ⟨(by kernel_rfl), rfl⟩⟩
theorem s_slices_EqualFunc_LLL_LLL_LL_LL__law09_Same_1 (x0 : (List (List (List Int)))) (x1 : (List (List (List Int)))) (r : Bool) (h : slices_EqualFunc_LLL_LLL_LL_LL__law09_Same_1 x0 x1 = some r) : SOk 54 [.sl 1 (x0.map (cdL 1 (cdL 1 cdI)).enc), .sl 1 (x1.map (cdL 1 (cdL 1 cdI)).enc), .fn 55 [] []] (fun x h' => x = er_slices_EqualFunc_LLL_LLL_LL_LL__law09_Same_1 r ∧ h' = []) :=
  sok_of_sem e_slices_EqualFunc_LLL_LLL_LL_LL__law09_Same_1_ok rfl rfl (fn := Tryd.f54) (c := cb_slices_EqualFunc_LLL_LLL_LL_LL__law09_Same_1) (by kernel_rfl) (by kernel_rfl) ⟨Tryd.call54⟩ (by show 3 ≤ 32; decide) (slices_EqualFunc_LLL_LLL_LL_LL__law09_Same_1_sem x0 x1 r h)
/- trestle/trestlelaw09.Same -/
noncomputable def e_law09_Same : Env := E0
theorem e_law09_Same_ok : EnvOk e_law09_Same := E0_ok
noncomputable def cb_law09_Same : Code := codeOf Tryd.f18
def law09_Same (x0 : (List (List (List Int)))) (x1 : (List (List (List Int)))) : Option (Bool) :=
  (slices_EqualFunc_LLL_LLL_LL_LL__law09_Same_1 x0 x1).bind fun v1 =>
  some v1
def cs_law09_Same : Cs ((List (List (List Int))) × (List (List (List Int))) × Unit) := (csC (cdL 1 (cdL 1 (cdL 1 cdI))) (csC (cdL 1 (cdL 1 (cdL 1 cdI))) csN))
def er_law09_Same (r : Bool) : AV := cdB.enc r
set_option maxHeartbeats 4000000 in
set_option maxRecDepth 100000 in
theorem law09_Same_sem (x0 : (List (List (List Int)))) (x1 : (List (List (List Int)))) (r : Bool) (h : law09_Same x0 x1 = some r) : Sem e_law09_Same ⟨none, false⟩ cb_law09_Same ⟨Fr 8 (pairs0 0 (cs_law09_Same.enc (x0, x1, ()))), []⟩ fun e s' => (e = .normal ∨ e = .ret) ∧ ∃ xs, resA e_law09_Same.P s'.fr s'.hp Tryd.f18.results.toList = some xs ∧ retA xs = er_law09_Same r := by
  unfold law09_Same at h
  refine Sem.wkQ (Sem.wk (s1 := ⟨Fr 8 [(0, .sl 1 (x0.map (cdL 1 (cdL 1 cdI)).enc)), (1, .sl 1 (x1.map (cdL 1 (cdL 1 cdI)).enc))], []⟩) Wk.f1 ?_)
  refine Sem.seq ?_
  refine Sem.runS (s1 := ⟨Fr 8 [(0, .sl 1 (x0.map (cdL 1 (cdL 1 cdI)).enc)), (1, .sl 1 (x1.map (cdL 1 (cdL 1 cdI)).enc))], []⟩) ?_ ?_
  · refine RunS.segF (n := 8) e_law09_Same_ok 1 [(0, .sl 1 (x0.map (cdL 1 (cdL 1 cdI)).enc)), (1, .sl 1 (x1.map (cdL 1 (cdL 1 cdI)).enc))] [] (by kernel_rfl) ?_
    exact RunS.done rfl Wk.f1
  refine Sem.seq ?_
  obtain ⟨v1, hv1, h⟩ := Option.bind_eq_some_iff.1 h
  refine Sem.runS (s1 := ⟨Fr 8 [(4, .v (.bool v1))], []⟩) ?_ ?_
  · refine RunS.segF (n := 8) e_law09_Same_ok 2 [(5, .sl 1 (x0.map (cdL 1 (cdL 1 cdI)).enc)), (6, .sl 1 (x1.map (cdL 1 (cdL 1 cdI)).enc))] [] (by kernel_rfl) ?_
    refine RunS.callS rfl rfl (s_slices_EqualFunc_LLL_LLL_LL_LL__law09_Same_1 x0 x1 _ hv1) rfl (wantedA_none rfl) (by kernel_rfl) (xs := [.sl 1 (x0.map (cdL 1 (cdL 1 cdI)).enc), .sl 1 (x1.map (cdL 1 (cdL 1 cdI)).enc), .fn 55 [] []]) (by kernel_rfl) (by kernel_rfl) (by rintro x h' ⟨rfl, rfl⟩; exact ⟨rfl, rfl⟩) ?_
    rintro x h' ⟨rfl, rfl⟩
    refine RunS.segF (n := 8) e_law09_Same_ok 1 [(4, .v (.bool v1))] [] (by kernel_rfl) ?_
    exact RunS.done rfl Wk.f1
  refine Sem.ret ?_
  have hq := Option.some.inj h; subst hq
  exact ⟨⟨Fr 8 [(4, .v (.bool v1))], []⟩, Wk.f1, .inr rfl, [.v (.bool v1)], (by kernel_rfl), (by kernel_rfl)⟩
def t_law09_Same : List AV → Option AV := told cs_law09_Same (fun a => law09_Same a.1 a.2.1) er_law09_Same
theorem x_law09_Same : XOk 18 t_law09_Same := by
  refine EnvOk.x (E := e_law09_Same) (contract_ok e_law09_Same_ok (fn := Tryd.f18) (c := cb_law09_Same) ?h1 ?h2 ⟨Tryd.call18⟩ cs_law09_Same (fun a => law09_Same a.1 a.2.1) er_law09_Same (fun a => (by show 2 ≤ 8; decide)) ?h3 ?h4) rfl rfl
  case h1 => kernel_rfl
  case h2 => kernel_rfl
  case h3 => intro b; kernel_rfl
  case h4 => exact fun a b h => law09_Same_sem a.1 a.2.1 b h
/- slices.Equal[[]int,int] -/
noncomputable def e_slices_Equal_L_int : Env := E0
theorem e_slices_Equal_L_int_ok : EnvOk e_slices_Equal_L_int := E0_ok
noncomputable def cb_slices_Equal_L_int : Code := codeOf Tryd.f23
def slices_Equal_L_int_1 (x0 : (List Int)) (x1 : (List Int)) : Nat → Int → Option ((Unit) ⊕ (Bool))
  | 0, _ => none
  | f + 1, c2 =>
    if (decide (c2 < (x0.length : Int))) = true then
    (idx x0 c2).bind fun v4 =>
    (idx x1 c2).bind fun v5 =>
    if (v4 != v5) = true then
    some (.inr false)
    else
    slices_Equal_L_int_1 x0 x1 f (wr .i64 (c2 + 1))
    else
    some (.inl ())
def slices_Equal_L_int (x0 : (List Int)) (x1 : (List Int)) : Option (Bool) :=
  if ((x0.length : Int) != (x1.length : Int)) = true then
  some false
  else
  (slices_Equal_L_int_1 x0 x1 100000 0).bind fun r8 =>
  match r8 with
  | (.inl w9) =>
    some true
  | (.inr w10) =>
    some w10
def cs_slices_Equal_L_int : Cs ((List Int) × (List Int) × Unit) := (csC (cdL 1 cdI) (csC (cdL 1 cdI) csN))
def er_slices_Equal_L_int (r : Bool) : AV := cdB.enc r
set_option maxHeartbeats 4000000 in
set_option maxRecDepth 100000 in
theorem slices_Equal_L_int_1_ok (x0 : (List Int)) (x1 : (List Int)) : ∀ (f : Nat) (c2 : Int) (r : (Unit) ⊕ (Bool)), slices_Equal_L_int_1 x0 x1 f c2 = some r → SemN e_slices_Equal_L_int ⟨none, false⟩ (pc cb_slices_Equal_L_int [1, 1, 0, 1, 0, 0]) f ⟨Fr 26 [(0, .sl 1 (x0.map cdI.enc)), (1, .sl 1 (x1.map cdI.enc)), (12, .v (.int .i64 (x0.length : Int))), (13, .v (.int .i64 c2))], []⟩ (fun e s => match r with
  | (.inl w) => e = (.exit 0) ∧ Wk e_slices_Equal_L_int s ⟨Fr 26 [], []⟩
  | (.inr w) => e = .ret ∧ Wk e_slices_Equal_L_int s ⟨Fr 26 [(4, .v (.bool w))], []⟩) := by
  intro f
  induction f with
  | zero => intro c2 r h; cases h
  | succ f ih0 =>
    intro c2 r h
    have ih := fun (c2 : Int) => ih0 c2 r
    unfold slices_Equal_L_int_1 at h
    refine SemN.succ ?_
    refine Sem.seq ?_
    refine Sem.runS (s1 := ⟨Fr 26 [(0, .sl 1 (x0.map cdI.enc)), (1, .sl 1 (x1.map cdI.enc)), (12, .v (.int .i64 (x0.length : Int))), (13, .v (.int .i64 c2)), (14, .v (.bool (decide (c2 < (x0.length : Int)))))], []⟩) ?_ ?_
    · refine RunS.segF (n := 26) e_slices_Equal_L_int_ok 1 [(0, .sl 1 (x0.map cdI.enc)), (1, .sl 1 (x1.map cdI.enc)), (12, .v (.int .i64 (x0.length : Int))), (13, .v (.int .i64 c2)), (14, .v (.bool (decide (c2 < (x0.length : Int)))))] [] (by kernel_rfl) ?_
      exact RunS.done rfl Wk.f1
    refine Sem.seq ?_
    refine Sem.cond (b := (decide (c2 < (x0.length : Int)))) (by kernel_rfl) (fun hb3 => ?_) (fun hb3 => ?_)
    · rw [if_pos hb3] at h
      refine Sem.skip ?_
      refine Sem.seq ?_
      refine Sem.block ?_
      refine Sem.seq ?_
      refine Sem.runS (s1 := ⟨Fr 26 [(0, .sl 1 (x0.map cdI.enc)), (1, .sl 1 (x1.map cdI.enc)), (5, .v (.int .i64 c2)), (12, .v (.int .i64 (x0.length : Int))), (13, .v (.int .i64 c2))], []⟩) ?_ ?_
      · refine RunS.segF (n := 26) e_slices_Equal_L_int_ok 2 [(0, .sl 1 (x0.map cdI.enc)), (1, .sl 1 (x1.map cdI.enc)), (5, .v (.int .i64 c2)), (12, .v (.int .i64 (x0.length : Int))), (13, .v (.int .i64 c2))] [] (by kernel_rfl) ?_
        exact RunS.done rfl Wk.f1
      refine Sem.seq ?_
      obtain ⟨v4, hv4, h⟩ := Option.bind_eq_some_iff.1 h
      obtain ⟨v5, hv5, h⟩ := Option.bind_eq_some_iff.1 h
      refine Sem.runDS e_slices_Equal_L_int_ok (s1 := ⟨Fr 26 [(0, .sl 1 (x0.map cdI.enc)), (1, .sl 1 (x1.map cdI.enc)), (12, .v (.int .i64 (x0.length : Int))), (13, .v (.int .i64 c2)), (24, .v (.bool (v4 != v5)))], []⟩) (by kernel_rfl) ?_ ?_
      · refine RunDS.segF (n := 26) e_slices_Equal_L_int_ok 2 [(0, .sl 1 (x0.map cdI.enc)), (1, .sl 1 (x1.map cdI.enc)), (5, .v (.int .i64 c2)), (12, .v (.int .i64 (x0.length : Int))), (13, .v (.int .i64 c2)), (16, .sl 1 (x0.map cdI.enc)), (17, .v (.int .i64 c2))] [] (by kernel_rfl) (by kernel_rfl) ?_
        refine RunDS.one e_slices_Equal_L_int_ok rfl (by kernel_rfl) (opd_q (by kernel_rfl) (wantedA_none rfl) rfl (q_indexAddr (a := .sl 1 (x0.map cdI.enc)) (b := .v (.int .i64 c2)) (by kernel_rfl) (by kernel_rfl) (ix_sl (e := cdI.enc) (el := 3) (k := 1) (ki := .i64) (by kernel_rfl) (by kernel_rfl) hv4)) (by kernel_rfl)) ?_
        refine RunDS.segF (n := 26) e_slices_Equal_L_int_ok 3 [(0, .sl 1 (x0.map cdI.enc)), (1, .sl 1 (x1.map cdI.enc)), (12, .v (.int .i64 (x0.length : Int))), (13, .v (.int .i64 c2)), (19, .v (.int .i64 v4)), (20, .sl 1 (x1.map cdI.enc)), (21, .v (.int .i64 c2))] [] (by kernel_rfl) (by kernel_rfl) ?_
        refine RunDS.one e_slices_Equal_L_int_ok rfl (by kernel_rfl) (opd_q (by kernel_rfl) (wantedA_none rfl) rfl (q_indexAddr (a := .sl 1 (x1.map cdI.enc)) (b := .v (.int .i64 c2)) (by kernel_rfl) (by kernel_rfl) (ix_sl (e := cdI.enc) (el := 3) (k := 1) (ki := .i64) (by kernel_rfl) (by kernel_rfl) hv5)) (by kernel_rfl)) ?_
        refine RunDS.segF (n := 26) e_slices_Equal_L_int_ok 2 [(0, .sl 1 (x0.map cdI.enc)), (1, .sl 1 (x1.map cdI.enc)), (12, .v (.int .i64 (x0.length : Int))), (13, .v (.int .i64 c2)), (24, .v (.bool (v4 != v5)))] [] (by kernel_rfl) (by kernel_rfl) ?_
        exact RunDS.done rfl Wk.f1
      refine Sem.cond (b := (v4 != v5)) (by kernel_rfl) (fun hb6 => ?_) (fun hb6 => ?_)
      · rw [if_pos hb6] at h
        refine Sem.seq ?_
        refine Sem.runS (s1 := ⟨Fr 26 [(4, .v (.bool false))], []⟩) ?_ ?_
        · refine RunS.segF (n := 26) e_slices_Equal_L_int_ok 1 [(4, .v (.bool false))] [] (by kernel_rfl) ?_
          exact RunS.done rfl Wk.f1
        refine Sem.ret ?_
        have hq := Option.some.inj h; subst hq
        exact ⟨rfl, Wk.f1⟩
      · rw [if_f hb6] at h
        refine Sem.skip ?_
        refine Sem.runS (s1 := ⟨Fr 26 [(0, .sl 1 (x0.map cdI.enc)), (1, .sl 1 (x1.map cdI.enc)), (12, .v (.int .i64 (x0.length : Int))), (13, .v (.int .i64 (wr .i64 (c2 + 1))))], []⟩) ?_ ?_
        · refine RunS.segF (n := 26) e_slices_Equal_L_int_ok 2 [(0, .sl 1 (x0.map cdI.enc)), (1, .sl 1 (x1.map cdI.enc)), (12, .v (.int .i64 (x0.length : Int))), (13, .v (.int .i64 (wr .i64 (c2 + 1))))] [] (by kernel_rfl) ?_
          exact RunS.done rfl Wk.f1
        exact SemN.wk (s1 := ⟨Fr 26 [(0, .sl 1 (x0.map cdI.enc)), (1, .sl 1 (x1.map cdI.enc)), (12, .v (.int .i64 (x0.length : Int))), (13, .v (.int .i64 (wr .i64 (c2 + 1))))], []⟩) Wk.f1 (ih (wr .i64 (c2 + 1)) h)
    · rw [if_f hb3] at h
      refine Sem.exit ?_
      have hq := Option.some.inj h; subst hq
      exact ⟨rfl, Wk.f1⟩
set_option maxHeartbeats 4000000 in
set_option maxRecDepth 100000 in
theorem slices_Equal_L_int_sem (x0 : (List Int)) (x1 : (List Int)) (r : Bool) (h : slices_Equal_L_int x0 x1 = some r) : Sem e_slices_Equal_L_int ⟨none, false⟩ cb_slices_Equal_L_int ⟨Fr 26 (pairs0 0 (cs_slices_Equal_L_int.enc (x0, x1, ()))), []⟩ fun e s' => (e = .normal ∨ e = .ret) ∧ ∃ xs, resA e_slices_Equal_L_int.P s'.fr s'.hp Tryd.f23.results.toList = some xs ∧ retA xs = er_slices_Equal_L_int r := by
  unfold slices_Equal_L_int at h
  refine Sem.wkQ (Sem.wk (s1 := ⟨Fr 26 [(0, .sl 1 (x0.map cdI.enc)), (1, .sl 1 (x1.map cdI.enc))], []⟩) Wk.f1 ?_)
  refine Sem.seq ?_
  refine Sem.runS (s1 := ⟨Fr 26 [(0, .sl 1 (x0.map cdI.enc)), (1, .sl 1 (x1.map cdI.enc))], []⟩) ?_ ?_
  · refine RunS.segF (n := 26) e_slices_Equal_L_int_ok 1 [(0, .sl 1 (x0.map cdI.enc)), (1, .sl 1 (x1.map cdI.enc))] [] (by kernel_rfl) ?_
    exact RunS.done rfl Wk.f1
  refine Sem.seq ?_
  refine Sem.seq ?_
  refine Sem.runS (s1 := ⟨Fr 26 [(0, .sl 1 (x0.map cdI.enc)), (1, .sl 1 (x1.map cdI.enc)), (10, .v (.bool ((x0.length : Int) != (x1.length : Int))))], []⟩) ?_ ?_
  · refine RunS.segF (n := 26) e_slices_Equal_L_int_ok 1 [(0, .sl 1 (x0.map cdI.enc)), (1, .sl 1 (x1.map cdI.enc)), (6, .sl 1 (x0.map cdI.enc))] [] (by kernel_rfl) ?_
    refine RunS.one e_slices_Equal_L_int_ok 0 rfl (op_q (wantedA_none rfl) rfl (q_len (a := .sl 1 (x0.map cdI.enc)) (by kernel_rfl) (len_sl (el := 3) (by kernel_rfl)))) ?_
    refine RunS.segF (n := 26) e_slices_Equal_L_int_ok 1 [(0, .sl 1 (x0.map cdI.enc)), (1, .sl 1 (x1.map cdI.enc)), (7, .v (.int .i64 (x0.length : Int))), (8, .sl 1 (x1.map cdI.enc))] [] (by kernel_rfl) ?_
    refine RunS.one e_slices_Equal_L_int_ok 0 rfl (op_q (wantedA_none rfl) rfl (q_len (a := .sl 1 (x1.map cdI.enc)) (by kernel_rfl) (len_sl (el := 3) (by kernel_rfl)))) ?_
    refine RunS.segF (n := 26) e_slices_Equal_L_int_ok 1 [(0, .sl 1 (x0.map cdI.enc)), (1, .sl 1 (x1.map cdI.enc)), (10, .v (.bool ((x0.length : Int) != (x1.length : Int))))] [] (by kernel_rfl) ?_
    exact RunS.done rfl Wk.f1
  refine Sem.cond (b := ((x0.length : Int) != (x1.length : Int))) (by kernel_rfl) (fun hb1 => ?_) (fun hb1 => ?_)
  · rw [if_pos hb1] at h
    refine Sem.seq ?_
    refine Sem.runS (s1 := ⟨Fr 26 [(4, .v (.bool false))], []⟩) ?_ ?_
    · refine RunS.segF (n := 26) e_slices_Equal_L_int_ok 1 [(4, .v (.bool false))] [] (by kernel_rfl) ?_
      exact RunS.done rfl Wk.f1
    refine Sem.ret ?_
    have hq := Option.some.inj h; subst hq
    exact ⟨⟨Fr 26 [(4, .v (.bool false))], []⟩, Wk.f1, .inr rfl, [.v (.bool false)], (by kernel_rfl), (by kernel_rfl)⟩
  · rw [if_f hb1] at h
    refine Sem.skip ?_
    refine Sem.seq ?_
    refine Sem.seq ?_
    refine Sem.runS (s1 := ⟨Fr 26 [(0, .sl 1 (x0.map cdI.enc)), (1, .sl 1 (x1.map cdI.enc)), (12, .v (.int .i64 (x0.length : Int))), (13, .v (.int .i64 0))], []⟩) ?_ ?_
    · refine RunS.segF (n := 26) e_slices_Equal_L_int_ok 1 [(0, .sl 1 (x0.map cdI.enc)), (1, .sl 1 (x1.map cdI.enc)), (11, .sl 1 (x0.map cdI.enc))] [] (by kernel_rfl) ?_
      refine RunS.one e_slices_Equal_L_int_ok 0 rfl (op_q (wantedA_none rfl) rfl (q_len (a := .sl 1 (x0.map cdI.enc)) (by kernel_rfl) (len_sl (el := 3) (by kernel_rfl)))) ?_
      refine RunS.segF (n := 26) e_slices_Equal_L_int_ok 1 [(0, .sl 1 (x0.map cdI.enc)), (1, .sl 1 (x1.map cdI.enc)), (12, .v (.int .i64 (x0.length : Int))), (13, .v (.int .i64 0))] [] (by kernel_rfl) ?_
      exact RunS.done rfl Wk.f1
    refine Sem.block ?_
    obtain ⟨r8, hr8, h⟩ := Option.bind_eq_some_iff.1 h
    refine Sem.loop (n := 100000) ?_
    rcases r8 with w9 | w10
    · try dsimp only at h
      refine Sem.cutN (SemN.wk (s1 := ⟨Fr 26 [(0, .sl 1 (x0.map cdI.enc)), (1, .sl 1 (x1.map cdI.enc)), (12, .v (.int .i64 (x0.length : Int))), (13, .v (.int .i64 0))], []⟩) Wk.f1 (slices_Equal_L_int_1_ok x0 x1 _ 0 _ hr8)) ?_
      refine Sem.seq ?_
      refine Sem.runS (s1 := ⟨Fr 26 [(4, .v (.bool true))], []⟩) ?_ ?_
      · refine RunS.segF (n := 26) e_slices_Equal_L_int_ok 1 [(4, .v (.bool true))] [] (by kernel_rfl) ?_
        exact RunS.done rfl Wk.f1
      refine Sem.ret ?_
      have hq := Option.some.inj h; subst hq
      exact ⟨⟨Fr 26 [(4, .v (.bool true))], []⟩, Wk.f1, .inr rfl, [.v (.bool true)], (by kernel_rfl), (by kernel_rfl)⟩
    · try dsimp only at h
      refine Sem.cutN (SemN.wk (s1 := ⟨Fr 26 [(0, .sl 1 (x0.map cdI.enc)), (1, .sl 1 (x1.map cdI.enc)), (12, .v (.int .i64 (x0.length : Int))), (13, .v (.int .i64 0))], []⟩) Wk.f1 (slices_Equal_L_int_1_ok x0 x1 _ 0 _ hr8)) ?_
      have hq := Option.some.inj h; subst hq
      exact ⟨⟨Fr 26 [(4, .v (.bool w10))], []⟩, Wk.f1, .inr rfl, [.v (.bool w10)], (by kernel_rfl), (by kernel_rfl)⟩
def t_slices_Equal_L_int : List AV → Option AV := told cs_slices_Equal_L_int (fun a => slices_Equal_L_int a.1 a.2.1) er_slices_Equal_L_int
theorem x_slices_Equal_L_int : XOk 23 t_slices_Equal_L_int := by
  refine EnvOk.x (E := e_slices_Equal_L_int) (contract_ok e_slices_Equal_L_int_ok (fn := Tryd.f23) (c := cb_slices_Equal_L_int) ?h1 ?h2 ⟨Tryd.call23⟩ cs_slices_Equal_L_int (fun a => slices_Equal_L_int a.1 a.2.1) er_slices_Equal_L_int (fun a => (by show 2 ≤ 26; decide)) ?h3 ?h4) rfl rfl
  case h1 => kernel_rfl
  case h2 => kernel_rfl
  case h3 => intro b; kernel_rfl
  case h4 => exact fun a b h => slices_Equal_L_int_sem a.1 a.2.1 b h
/- trestle/trestlelaw09.EveningPlans -/
noncomputable def e_law09_EveningPlans : Env := ((((((E0.withX 13 t_law09_awake).withX 20 t_slices_Clone_L_int).withX 21 t_evening_Plan).withX 22 t_ref09_Plan).withX 18 t_law09_Same).withX 23 t_slices_Equal_L_int)
theorem e_law09_EveningPlans_ok : EnvOk e_law09_EveningPlans := (EnvOk.withX (EnvOk.withX (EnvOk.withX (EnvOk.withX (EnvOk.withX (EnvOk.withX E0_ok x_law09_awake.1 x_law09_awake.2) x_slices_Clone_L_int.1 x_slices_Clone_L_int.2) x_evening_Plan.1 x_evening_Plan.2) x_ref09_Plan.1 x_ref09_Plan.2) x_law09_Same.1 x_law09_Same.2) x_slices_Equal_L_int.1 x_slices_Equal_L_int.2)
noncomputable def cb_law09_EveningPlans : Code := codeOf Tryd.f5
def law09_EveningPlans (x0 : Int) (x1 : (List Int)) (x2 : Int) : Option (Bool) :=
  (if (decide (x0 > 14)) = true then if (decide (x0 ≤ 64)) = true then some true else if (decide ((x1.length : Int) > 20)) = true then some true else if (decide (x2 > 6)) = true then some (decide (x2 ≤ 64)) else some false else if (decide ((x1.length : Int) > 20)) = true then some true else if (decide (x2 > 6)) = true then some (decide (x2 ≤ 64)) else some false).bind fun j2 =>
  if j2 = true then
  law09_awake.bind fun v4 =>
  some v4
  else
  (slices_Clone_L_int x1).bind fun v5 =>
  (evening_Plan x0 v5 x2).bind fun v6 =>
  (ref09_Plan x0 x1 x2).bind fun v7 =>
  (law09_Same v6.1 v7.1).bind fun v8 =>
  (if v8 = true then if (v6.2 == v7.2) = true then (slices_Equal_L_int v5 x1).bind fun v9 =>
  if v9 = true then law09_awake.bind fun v10 =>
  some v10 else some false else some false else some false).bind fun j12 =>
  some j12
def cs_law09_EveningPlans : Cs (Int × (List Int) × Int × Unit) := (csC cdI (csC (cdL 1 cdI) (csC cdI csN)))
def er_law09_EveningPlans (r : Bool) : AV := cdB.enc r
set_option maxHeartbeats 4000000 in
set_option maxRecDepth 100000 in
theorem law09_EveningPlans_sem (x0 : Int) (x1 : (List Int)) (x2 : Int) (r : Bool) (h : law09_EveningPlans x0 x1 x2 = some r) : Sem e_law09_EveningPlans ⟨none, false⟩ cb_law09_EveningPlans ⟨Fr 64 (pairs0 0 (cs_law09_EveningPlans.enc (x0, x1, x2, ()))), []⟩ fun e s' => (e = .normal ∨ e = .ret) ∧ ∃ xs, resA e_law09_EveningPlans.P s'.fr s'.hp Tryd.f5.results.toList = some xs ∧ retA xs = er_law09_EveningPlans r := by
  unfold law09_EveningPlans at h
  refine Sem.wkQ (Sem.wk (s1 := ⟨Fr 64 [(0, .v (.int .i64 x0)), (1, .sl 1 (x1.map cdI.enc)), (2, .v (.int .i64 x2))], []⟩) Wk.f1 ?_)
  refine Sem.seq ?_
  refine Sem.runS (s1 := ⟨Fr 64 [(0, .v (.int .i64 x0)), (1, .sl 1 (x1.map cdI.enc)), (2, .v (.int .i64 x2))], []⟩) ?_ ?_
  · refine RunS.segF (n := 64) e_law09_EveningPlans_ok 1 [(0, .v (.int .i64 x0)), (1, .sl 1 (x1.map cdI.enc)), (2, .v (.int .i64 x2))] [] (by kernel_rfl) ?_
    exact RunS.done rfl Wk.f1
  refine Sem.seq ?_
  refine Sem.seq ?_
  obtain ⟨j2, hj2, h⟩ := Option.bind_eq_some_iff.1 h
  refine Sem.runS (s1 := ⟨Fr 64 [(0, .v (.int .i64 x0)), (1, .sl 1 (x1.map cdI.enc)), (2, .v (.int .i64 x2)), (30, .v (.bool j2))], []⟩) ?_ ?_
  · refine RunS.segF (n := 64) e_law09_EveningPlans_ok 3 [(0, .v (.int .i64 x0)), (1, .sl 1 (x1.map cdI.enc)), (2, .v (.int .i64 x2)), (14, .v (.bool (decide (x0 > 14))))] [] (by kernel_rfl) ?_
    rcases Bool.eq_false_or_eq_true (decide (x0 > 14)) with hc16 | hc16
    · rw [if_pos hc16] at hj2
      rw [hc16]
      refine RunS.segF (n := 64) e_law09_EveningPlans_ok 4 [(0, .v (.int .i64 x0)), (1, .sl 1 (x1.map cdI.enc)), (2, .v (.int .i64 x2)), (18, .v (.bool (decide (x0 ≤ 64))))] [] (by kernel_rfl) ?_
      rcases Bool.eq_false_or_eq_true (decide (x0 ≤ 64)) with hc17 | hc17
      · rw [if_pos hc17] at hj2
        rw [hc17]
        refine RunS.segF (n := 64) e_law09_EveningPlans_ok 12 [(0, .v (.int .i64 x0)), (1, .sl 1 (x1.map cdI.enc)), (2, .v (.int .i64 x2)), (30, .v (.bool true))] [] (by kernel_rfl) ?_
        have hq := Option.some.inj hj2; subst hq
        exact RunS.done rfl Wk.f1
      · rw [if_f hc17] at hj2
        rw [hc17]
        refine RunS.segF (n := 64) e_law09_EveningPlans_ok 1 [(0, .v (.int .i64 x0)), (1, .sl 1 (x1.map cdI.enc)), (2, .v (.int .i64 x2)), (18, .v (.bool false)), (19, .sl 1 (x1.map cdI.enc))] [] (by kernel_rfl) ?_
        refine RunS.one e_law09_EveningPlans_ok 0 rfl (op_q (by kernel_rfl) rfl (q_len (a := .sl 1 (x1.map cdI.enc)) (by kernel_rfl) (len_sl (el := 3) (by kernel_rfl)))) ?_
        refine RunS.segF (n := 64) e_law09_EveningPlans_ok 3 [(0, .v (.int .i64 x0)), (1, .sl 1 (x1.map cdI.enc)), (2, .v (.int .i64 x2)), (23, .v (.bool (decide ((x1.length : Int) > 20))))] [] (by kernel_rfl) ?_
        rcases Bool.eq_false_or_eq_true (decide ((x1.length : Int) > 20)) with hc18 | hc18
        · rw [if_pos hc18] at hj2
          rw [hc18]
          refine RunS.segF (n := 64) e_law09_EveningPlans_ok 7 [(0, .v (.int .i64 x0)), (1, .sl 1 (x1.map cdI.enc)), (2, .v (.int .i64 x2)), (30, .v (.bool true))] [] (by kernel_rfl) ?_
          have hq := Option.some.inj hj2; subst hq
          exact RunS.done rfl Wk.f1
        · rw [if_f hc18] at hj2
          rw [hc18]
          refine RunS.segF (n := 64) e_law09_EveningPlans_ok 3 [(0, .v (.int .i64 x0)), (1, .sl 1 (x1.map cdI.enc)), (2, .v (.int .i64 x2)), (23, .v (.bool false)), (26, .v (.bool (decide (x2 > 6))))] [] (by kernel_rfl) ?_
          rcases Bool.eq_false_or_eq_true (decide (x2 > 6)) with hc19 | hc19
          · rw [if_pos hc19] at hj2
            rw [hc19]
            refine RunS.segF (n := 64) e_law09_EveningPlans_ok 4 [(0, .v (.int .i64 x0)), (1, .sl 1 (x1.map cdI.enc)), (2, .v (.int .i64 x2)), (30, .v (.bool (decide (x2 ≤ 64))))] [] (by kernel_rfl) ?_
            have hq := Option.some.inj hj2; subst hq
            exact RunS.done rfl Wk.f1
          · rw [if_f hc19] at hj2
            rw [hc19]
            refine RunS.segF (n := 64) e_law09_EveningPlans_ok 4 [(0, .v (.int .i64 x0)), (1, .sl 1 (x1.map cdI.enc)), (2, .v (.int .i64 x2)), (30, .v (.bool false))] [] (by kernel_rfl) ?_
            have hq := Option.some.inj hj2; subst hq
            exact RunS.done rfl Wk.f1
    · rw [if_f hc16] at hj2
      rw [hc16]
      refine RunS.segF (n := 64) e_law09_EveningPlans_ok 5 [(0, .v (.int .i64 x0)), (1, .sl 1 (x1.map cdI.enc)), (2, .v (.int .i64 x2)), (18, .v (.bool false)), (19, .sl 1 (x1.map cdI.enc))] [] (by kernel_rfl) ?_
      refine RunS.one e_law09_EveningPlans_ok 0 rfl (op_q (by kernel_rfl) rfl (q_len (a := .sl 1 (x1.map cdI.enc)) (by kernel_rfl) (len_sl (el := 3) (by kernel_rfl)))) ?_
      refine RunS.segF (n := 64) e_law09_EveningPlans_ok 3 [(0, .v (.int .i64 x0)), (1, .sl 1 (x1.map cdI.enc)), (2, .v (.int .i64 x2)), (23, .v (.bool (decide ((x1.length : Int) > 20))))] [] (by kernel_rfl) ?_
      rcases Bool.eq_false_or_eq_true (decide ((x1.length : Int) > 20)) with hc20 | hc20
      · rw [if_pos hc20] at hj2
        rw [hc20]
        refine RunS.segF (n := 64) e_law09_EveningPlans_ok 7 [(0, .v (.int .i64 x0)), (1, .sl 1 (x1.map cdI.enc)), (2, .v (.int .i64 x2)), (30, .v (.bool true))] [] (by kernel_rfl) ?_
        have hq := Option.some.inj hj2; subst hq
        exact RunS.done rfl Wk.f1
      · rw [if_f hc20] at hj2
        rw [hc20]
        refine RunS.segF (n := 64) e_law09_EveningPlans_ok 3 [(0, .v (.int .i64 x0)), (1, .sl 1 (x1.map cdI.enc)), (2, .v (.int .i64 x2)), (23, .v (.bool false)), (26, .v (.bool (decide (x2 > 6))))] [] (by kernel_rfl) ?_
        rcases Bool.eq_false_or_eq_true (decide (x2 > 6)) with hc21 | hc21
        · rw [if_pos hc21] at hj2
          rw [hc21]
          refine RunS.segF (n := 64) e_law09_EveningPlans_ok 4 [(0, .v (.int .i64 x0)), (1, .sl 1 (x1.map cdI.enc)), (2, .v (.int .i64 x2)), (30, .v (.bool (decide (x2 ≤ 64))))] [] (by kernel_rfl) ?_
          have hq := Option.some.inj hj2; subst hq
          exact RunS.done rfl Wk.f1
        · rw [if_f hc21] at hj2
          rw [hc21]
          refine RunS.segF (n := 64) e_law09_EveningPlans_ok 4 [(0, .v (.int .i64 x0)), (1, .sl 1 (x1.map cdI.enc)), (2, .v (.int .i64 x2)), (30, .v (.bool false))] [] (by kernel_rfl) ?_
          have hq := Option.some.inj hj2; subst hq
          exact RunS.done rfl Wk.f1
  refine Sem.cond (b := j2) (by kernel_rfl) (fun hb3 => ?_) (fun hb3 => ?_)
  · rw [if_pos hb3] at h
    refine Sem.seq ?_
    obtain ⟨v4, hv4, h⟩ := Option.bind_eq_some_iff.1 h
    refine Sem.runS (s1 := ⟨Fr 64 [(6, .v (.bool v4))], []⟩) ?_ ?_
    · refine RunS.call e_law09_EveningPlans_ok (fid := 13) (s := cs_law09_awake) (F := fun a => law09_awake ) (er := er_law09_awake) (xs := []) (a := (())) rfl (wantedA_none rfl) (by kernel_rfl) (by kernel_rfl) (by kernel_rfl) (by kernel_rfl) Sns.nil (.inl (by kernel_rfl)) hv4 ?_
      refine RunS.segF (n := 64) e_law09_EveningPlans_ok 1 [(6, .v (.bool v4))] [] (by kernel_rfl) ?_
      exact RunS.done rfl Wk.f1
    refine Sem.ret ?_
    have hq := Option.some.inj h; subst hq
    exact ⟨⟨Fr 64 [(6, .v (.bool v4))], []⟩, Wk.f1, .inr rfl, [.v (.bool v4)], (by kernel_rfl), (by kernel_rfl)⟩
  · rw [if_f hb3] at h
    refine Sem.skip ?_
    refine Sem.seq ?_
    obtain ⟨v5, hv5, h⟩ := Option.bind_eq_some_iff.1 h
    refine Sem.runS (s1 := ⟨Fr 64 [(0, .v (.int .i64 x0)), (1, .sl 1 (x1.map cdI.enc)), (2, .v (.int .i64 x2)), (7, .sl 1 (v5.map cdI.enc))], []⟩) ?_ ?_
    · refine RunS.segF (n := 64) e_law09_EveningPlans_ok 1 [(0, .v (.int .i64 x0)), (1, .sl 1 (x1.map cdI.enc)), (2, .v (.int .i64 x2)), (32, .sl 1 (x1.map cdI.enc))] [] (by kernel_rfl) ?_
      refine RunS.call e_law09_EveningPlans_ok (fid := 20) (s := cs_slices_Clone_L_int) (F := fun a => slices_Clone_L_int a.1) (er := er_slices_Clone_L_int) (xs := [.sl 1 (x1.map cdI.enc)]) (a := (x1, ())) rfl (wantedA_none rfl) (by kernel_rfl) (by kernel_rfl) (by kernel_rfl) (by kernel_rfl) (Sns.cons (Sn.enc (c := (cdL 1 cdI)) (v := x1)) Sns.nil) (.inl (by kernel_rfl)) hv5 ?_
      refine RunS.segF (n := 64) e_law09_EveningPlans_ok 1 [(0, .v (.int .i64 x0)), (1, .sl 1 (x1.map cdI.enc)), (2, .v (.int .i64 x2)), (7, .sl 1 (v5.map cdI.enc))] [] (by kernel_rfl) ?_
      exact RunS.done rfl Wk.f1
    refine Sem.seq ?_
    obtain ⟨v6, hv6, h⟩ := Option.bind_eq_some_iff.1 h
    refine Sem.runS (s1 := ⟨Fr 64 [(0, .v (.int .i64 x0)), (1, .sl 1 (x1.map cdI.enc)), (2, .v (.int .i64 x2)), (7, .sl 1 (v5.map cdI.enc)), (8, .sl 1 (v6.1.map (cdL 1 (cdL 1 cdI)).enc)), (9, .v (.int .i64 v6.2))], []⟩) ?_ ?_
    · refine RunS.segF (n := 64) e_law09_EveningPlans_ok 3 [(0, .v (.int .i64 x0)), (1, .sl 1 (x1.map cdI.enc)), (2, .v (.int .i64 x2)), (7, .sl 1 (v5.map cdI.enc)), (35, .v (.int .i64 x0)), (36, .sl 1 (v5.map cdI.enc)), (37, .v (.int .i64 x2))] [] (by kernel_rfl) ?_
      refine RunS.call e_law09_EveningPlans_ok (fid := 21) (s := cs_evening_Plan) (F := fun a => evening_Plan a.1 a.2.1 a.2.2.1) (er := er_evening_Plan) (xs := [.v (.int .i64 x0), .sl 1 (v5.map cdI.enc), .v (.int .i64 x2)]) (a := (x0, v5, x2, ())) rfl (wantedA_none rfl) (by kernel_rfl) (by kernel_rfl) (by kernel_rfl) (by kernel_rfl) (Sns.cons (Sn.enc (c := cdI) (v := x0)) (Sns.cons (Sn.enc (c := (cdL 1 cdI)) (v := v5)) (Sns.cons (Sn.enc (c := cdI) (v := x2)) Sns.nil))) (.inl (by kernel_rfl)) hv6 ?_
      refine RunS.segF (n := 64) e_law09_EveningPlans_ok 5 [(0, .v (.int .i64 x0)), (1, .sl 1 (x1.map cdI.enc)), (2, .v (.int .i64 x2)), (7, .sl 1 (v5.map cdI.enc)), (8, .sl 1 (v6.1.map (cdL 1 (cdL 1 cdI)).enc)), (9, .v (.int .i64 v6.2))] [] (by kernel_rfl) ?_
      exact RunS.done rfl Wk.f1
    refine Sem.seq ?_
    obtain ⟨v7, hv7, h⟩ := Option.bind_eq_some_iff.1 h
    refine Sem.runS (s1 := ⟨Fr 64 [(1, .sl 1 (x1.map cdI.enc)), (7, .sl 1 (v5.map cdI.enc)), (8, .sl 1 (v6.1.map (cdL 1 (cdL 1 cdI)).enc)), (9, .v (.int .i64 v6.2)), (10, .sl 1 (v7.1.map (cdL 1 (cdL 1 cdI)).enc)), (11, .v (.int .i64 v7.2))], []⟩) ?_ ?_
    · refine RunS.segF (n := 64) e_law09_EveningPlans_ok 3 [(1, .sl 1 (x1.map cdI.enc)), (7, .sl 1 (v5.map cdI.enc)), (8, .sl 1 (v6.1.map (cdL 1 (cdL 1 cdI)).enc)), (9, .v (.int .i64 v6.2)), (42, .v (.int .i64 x0)), (43, .sl 1 (x1.map cdI.enc)), (44, .v (.int .i64 x2))] [] (by kernel_rfl) ?_
      refine RunS.call e_law09_EveningPlans_ok (fid := 22) (s := cs_ref09_Plan) (F := fun a => ref09_Plan a.1 a.2.1 a.2.2.1) (er := er_ref09_Plan) (xs := [.v (.int .i64 x0), .sl 1 (x1.map cdI.enc), .v (.int .i64 x2)]) (a := (x0, x1, x2, ())) rfl (wantedA_none rfl) (by kernel_rfl) (by kernel_rfl) (by kernel_rfl) (by kernel_rfl) (Sns.cons (Sn.enc (c := cdI) (v := x0)) (Sns.cons (Sn.enc (c := (cdL 1 cdI)) (v := x1)) (Sns.cons (Sn.enc (c := cdI) (v := x2)) Sns.nil))) (.inl (by kernel_rfl)) hv7 ?_
      refine RunS.segF (n := 64) e_law09_EveningPlans_ok 5 [(1, .sl 1 (x1.map cdI.enc)), (7, .sl 1 (v5.map cdI.enc)), (8, .sl 1 (v6.1.map (cdL 1 (cdL 1 cdI)).enc)), (9, .v (.int .i64 v6.2)), (10, .sl 1 (v7.1.map (cdL 1 (cdL 1 cdI)).enc)), (11, .v (.int .i64 v7.2))] [] (by kernel_rfl) ?_
      exact RunS.done rfl Wk.f1
    refine Sem.seq ?_
    obtain ⟨v8, hv8, h⟩ := Option.bind_eq_some_iff.1 h
    obtain ⟨j12, hj12, h⟩ := Option.bind_eq_some_iff.1 h
    refine Sem.runS (s1 := ⟨Fr 64 [(6, .v (.bool j12))], []⟩) ?_ ?_
    · refine RunS.segF (n := 64) e_law09_EveningPlans_ok 2 [(1, .sl 1 (x1.map cdI.enc)), (7, .sl 1 (v5.map cdI.enc)), (9, .v (.int .i64 v6.2)), (11, .v (.int .i64 v7.2)), (48, .sl 1 (v6.1.map (cdL 1 (cdL 1 cdI)).enc)), (49, .sl 1 (v7.1.map (cdL 1 (cdL 1 cdI)).enc))] [] (by kernel_rfl) ?_
      refine RunS.call e_law09_EveningPlans_ok (fid := 18) (s := cs_law09_Same) (F := fun a => law09_Same a.1 a.2.1) (er := er_law09_Same) (xs := [.sl 1 (v6.1.map (cdL 1 (cdL 1 cdI)).enc), .sl 1 (v7.1.map (cdL 1 (cdL 1 cdI)).enc)]) (a := (v6.1, v7.1, ())) rfl (wantedA_none rfl) (by kernel_rfl) (by kernel_rfl) (by kernel_rfl) (by kernel_rfl) (Sns.cons (Sn.enc (c := (cdL 1 (cdL 1 (cdL 1 cdI)))) (v := v6.1)) (Sns.cons (Sn.enc (c := (cdL 1 (cdL 1 (cdL 1 cdI)))) (v := v7.1)) Sns.nil)) (.inl (by kernel_rfl)) hv8 ?_
      refine RunS.segF (n := 64) e_law09_EveningPlans_ok 1 [(1, .sl 1 (x1.map cdI.enc)), (7, .sl 1 (v5.map cdI.enc)), (9, .v (.int .i64 v6.2)), (11, .v (.int .i64 v7.2)), (51, .v (.bool v8))] [] (by kernel_rfl) ?_
      rcases Bool.eq_false_or_eq_true v8 with hc13 | hc13
      · rw [if_pos hc13] at hj12
        rw [hc13]
        refine RunS.segF (n := 64) e_law09_EveningPlans_ok 5 [(1, .sl 1 (x1.map cdI.enc)), (7, .sl 1 (v5.map cdI.enc)), (56, .v (.bool (v6.2 == v7.2)))] [] (by kernel_rfl) ?_
        rcases Bool.eq_false_or_eq_true (v6.2 == v7.2) with hc14 | hc14
        · rw [if_pos hc14] at hj12
          rw [hc14]
          refine RunS.segF (n := 64) e_law09_EveningPlans_ok 2 [(56, .v (.bool true)), (57, .sl 1 (v5.map cdI.enc)), (58, .sl 1 (x1.map cdI.enc))] [] (by kernel_rfl) ?_
          obtain ⟨v9, hv9, hj12⟩ := Option.bind_eq_some_iff.1 hj12
          refine RunS.call e_law09_EveningPlans_ok (fid := 23) (s := cs_slices_Equal_L_int) (F := fun a => slices_Equal_L_int a.1 a.2.1) (er := er_slices_Equal_L_int) (xs := [.sl 1 (v5.map cdI.enc), .sl 1 (x1.map cdI.enc)]) (a := (v5, x1, ())) rfl (by kernel_rfl) (by kernel_rfl) (by kernel_rfl) (by kernel_rfl) (by kernel_rfl) (Sns.cons (Sn.enc (c := (cdL 1 cdI)) (v := v5)) (Sns.cons (Sn.enc (c := (cdL 1 cdI)) (v := x1)) Sns.nil)) (.inl (by kernel_rfl)) hv9 ?_
          refine RunS.segF (n := 64) e_law09_EveningPlans_ok 2 [(61, .v (.bool v9))] [] (by kernel_rfl) ?_
          rcases Bool.eq_false_or_eq_true v9 with hc15 | hc15
          · rw [if_pos hc15] at hj12
            rw [hc15]
            obtain ⟨v10, hv10, hj12⟩ := Option.bind_eq_some_iff.1 hj12
            refine RunS.call e_law09_EveningPlans_ok (fid := 13) (s := cs_law09_awake) (F := fun a => law09_awake ) (er := er_law09_awake) (xs := []) (a := (())) rfl (by kernel_rfl) (by kernel_rfl) (by kernel_rfl) (by kernel_rfl) (by kernel_rfl) Sns.nil (.inl (by kernel_rfl)) hv10 ?_
            refine RunS.segF (n := 64) e_law09_EveningPlans_ok 2 [(6, .v (.bool v10))] [] (by kernel_rfl) ?_
            have hq := Option.some.inj hj12; subst hq
            exact RunS.done rfl Wk.f1
          · rw [if_f hc15] at hj12
            rw [hc15]
            refine RunS.segF (n := 64) e_law09_EveningPlans_ok 3 [(6, .v (.bool false))] [] (by kernel_rfl) ?_
            have hq := Option.some.inj hj12; subst hq
            exact RunS.done rfl Wk.f1
        · rw [if_f hc14] at hj12
          rw [hc14]
          refine RunS.segF (n := 64) e_law09_EveningPlans_ok 8 [(6, .v (.bool false))] [] (by kernel_rfl) ?_
          have hq := Option.some.inj hj12; subst hq
          exact RunS.done rfl Wk.f1
      · rw [if_f hc13] at hj12
        rw [hc13]
        refine RunS.segF (n := 64) e_law09_EveningPlans_ok 13 [(6, .v (.bool false))] [] (by kernel_rfl) ?_
        have hq := Option.some.inj hj12; subst hq
        exact RunS.done rfl Wk.f1
    refine Sem.ret ?_
    have hq := Option.some.inj h; subst hq
    exact ⟨⟨Fr 64 [(6, .v (.bool j12))], []⟩, Wk.f1, .inr rfl, [.v (.bool j12)], (by kernel_rfl), (by kernel_rfl)⟩
def t_law09_EveningPlans : List AV → Option AV := told cs_law09_EveningPlans (fun a => law09_EveningPlans a.1 a.2.1 a.2.2.1) er_law09_EveningPlans
theorem x_law09_EveningPlans : XOk 5 t_law09_EveningPlans := by
  refine EnvOk.x (E := e_law09_EveningPlans) (contract_ok e_law09_EveningPlans_ok (fn := Tryd.f5) (c := cb_law09_EveningPlans) ?h1 ?h2 ⟨Tryd.call5⟩ cs_law09_EveningPlans (fun a => law09_EveningPlans a.1 a.2.1 a.2.2.1) er_law09_EveningPlans (fun a => (by show 3 ≤ 64; decide)) ?h3 ?h4) rfl rfl
  case h1 => kernel_rfl
  case h2 => kernel_rfl
  case h3 => intro b; kernel_rfl
  case h4 => exact fun a b h => law09_EveningPlans_sem a.1 a.2.1 a.2.2.1 b h
def in64 (n : Int) : Prop := -9223372036854775808 ≤ n ∧ n ≤ 9223372036854775807
theorem wr_i {n : Int} (h1 : -9223372036854775808 ≤ n) (h2 : n ≤ 9223372036854775807) : wr .i64 n = n := by
  show (if _ then n else _) = n
  rw [if_pos ⟨h1, h2⟩]
theorem idx_app {α : Type} (pre : List α) (v : α) (r : List α) : idx (pre ++ v :: r) (pre.length : Int) = some v := by
  unfold idx
  rw [if_pos (by omega)]
  simp
theorem idx_lt {α : Type} {xs : List α} {i : Nat} (h : i < xs.length) : idx xs (i : Int) = some xs[i] := by
  unfold idx
  rw [if_pos (by omega)]
  simp [h]
theorem snoc_app {α : Type} (pre : List α) (v : α) (r : List α) : pre ++ v :: r = (pre ++ [v]) ++ r := by simp
theorem wr_snoc {α : Type} (pre : List α) (v : α) (r : List α) (h : (pre ++ v :: r).length ≤ 1000000000) : wr .i64 ((pre.length : Int) + 1) = ((pre ++ [v]).length : Int) := by
  simp at h
  rw [wr_i (by omega) (by omega)]; simp
theorem lt_len {α : Type} (pre : List α) (v : α) (r : List α) : decide ((pre.length : Int) < ((pre ++ v :: r).length : Int)) = true := by
  simp; omega
theorem nlt_len {α : Type} (pre : List α) : decide ((pre.length : Int) < ((pre ++ []).length : Int)) = false := by simp
theorem capOk_le {b n : Nat} (hb : b ≤ 1000) (h : n ≤ 1000000000) : capOk b n = true := by
  have h1 : n * b ≤ 1000000000 * 1000 := Nat.mul_le_mul h hb
  unfold capOk
  rw [Bool.and_eq_true]
  exact ⟨Nat.ble_eq_true_of_le (by omega), Nat.ble_eq_true_of_le (by omega)⟩
def inc (cs : List Int) (i : Nat) : List Int := cs.set i (cs.getD i 0 + 1)
def incs (cs : List Int) (L : List Nat) : List Int := L.foldl inc cs
theorem inc_len (cs : List Int) (i : Nat) : (inc cs i).length = cs.length := by simp [inc]
theorem incs_len : ∀ (L : List Nat) (cs : List Int), (incs cs L).length = cs.length
  | [], _ => rfl
  | i :: L, cs => (incs_len L (inc cs i)).trans (inc_len cs i)
theorem incs_app (cs : List Int) (L L' : List Nat) : incs cs (L ++ L') = incs (incs cs L) L' := List.foldl_append
theorem incs_cons (cs : List Int) (i : Nat) (L : List Nat) : incs cs (i :: L) = incs (inc cs i) L := rfl
theorem inc_get (cs : List Int) (i j : Nat) (h : j < cs.length) : (inc cs i).getD j 0 = cs.getD j 0 + (if i = j then 1 else 0) := by
  unfold inc
  by_cases e : i = j
  · subst e
    simp [List.getD_eq_getElem?_getD, h]
  · simp [List.getD_eq_getElem?_getD, e]
theorem incs_get : ∀ (L : List Nat) (cs : List Int) (j : Nat), j < cs.length → (incs cs L).getD j 0 = cs.getD j 0 + (L.count j : Nat)
  | [], cs, j, _ => by simp [incs]
  | i :: L, cs, j, h => by
    rw [incs_cons, incs_get L (inc cs i) j (by rw [inc_len]; exact h), inc_get cs i j h, List.count_cons]
    by_cases e : i = j
    · simp [e]; omega
    · simp [e]
def zeros (n : Nat) : List Int := List.replicate n 0
theorem zeros_get (n j : Nat) : (zeros n).getD j 0 = 0 := by
  simp only [zeros, List.getD_eq_getElem?_getD, List.getElem?_replicate]
  split <;> rfl
theorem cnt_get (L : List Nat) (n j : Nat) (h : j < n) : (incs (zeros n) L).getD j 0 = (L.count j : Nat) := by
  rw [incs_get L (zeros n) j (by simpa [zeros] using h), zeros_get]; simp
/-- A bit of a number. -/
def tb (m i : Nat) : Bool := Nat.beq (Nat.mod (Nat.shiftRight m i) 2) 1
/-- The numbers of a list as bits; none if one stands there twice. -/
def bits : List Nat → Nat → Option Nat
  | [], m => some m
  | i :: L, m => bif tb m i then none else bits L (Nat.lor m (Nat.shiftLeft 1 i))
theorem cell_eq {n x y k l : Nat} (h1 : y < n) (h2 : l < n) (h : x * n + y = k * n + l) : x = k ∧ y = l := by
  have hn : 0 < n := by omega
  have e1 : (x * n + y) / n = x := by rw [Nat.mul_comm, Nat.mul_add_div hn, Nat.div_eq_of_lt h1]; rfl
  have e2 : (k * n + l) / n = k := by rw [Nat.mul_comm, Nat.mul_add_div hn, Nat.div_eq_of_lt h2]; rfl
  have : x = k := by rw [← e1, h, e2]
  subst this
  exact ⟨rfl, by omega⟩
theorem cell_lt {n x y : Nat} (h1 : x < n) (h2 : y < n) : x * n + y < n * n := by
  have : x * n + n ≤ n * n := by rw [← Nat.succ_mul]; exact Nat.mul_le_mul_right n h1
  omega
/- trestle/evening.check -/
/- trestle/evening.Check -/
/- trestle/trestleref09.CheckEvening -/
/- trestle/trestleref09.Check -/
/- trestle/evening.met -/
def sumL : List Int → Int
  | [] => 0
  | v :: r => v + sumL r
/-- Do sizes fit? -/
def fitP (n : Int) (xs : List Int) : Bool := xs.all (fun v => decide (1 ≤ v)) && decide (sumL xs = n) && decide (1 ≤ n) && decide (n ≤ 64)
def fitL : Int → List Int → Int ⊕ Bool
  | c, [] => .inl c
  | c, v :: r => if v < 1 ∨ v > c then .inr false else fitL (c - v) r
theorem fit_1 (n : Int) (xs : List Int) (hxs : xs.length ≤ 1000) : ∀ (r pre : List Int) (c : Int) (f : Nat), xs = pre ++ r → r.length < f → -9223372036854775808 ≤ c → c ≤ 9223372036854775807 → evening_fit_1 n xs f c pre.length = some (fitL c r)
  | [], pre, c, f + 1, h, _, _, _ => by
    subst h
    unfold evening_fit_1
    rw [nlt_len]
    rfl
  | v :: r, pre, c, f + 1, h, hf, h1, h2 => by
    subst h
    unfold evening_fit_1
    rw [if_pos (lt_len pre v r), idx_app]
    simp only [Option.bind_some]
    rw [wr_snoc pre v r (by omega)]
    unfold fitL
    by_cases ha : v < 1
    · simp [ha]
    · by_cases hb : v > c
      · simp [ha, hb]
      · simp only [ha, hb, decide_false, Bool.false_eq_true, if_false, Option.bind_some, false_or]
        rw [wr_i (by omega) (by omega)]
        rw [snoc_app]
        exact fit_1 n _ (by rw [← snoc_app]; exact hxs) r (pre ++ [v]) (c - v) f rfl (by simp at hf; omega) (by omega) (by omega)
theorem fitL_eq : ∀ (xs : List Int) (c : Int), (∃ d, fitL c xs = .inl d ∧ d = c - sumL xs ∧ (xs.all fun v => decide (1 ≤ v)) = true ∧ (0 ≤ c → 0 ≤ d)) ∨ (fitL c xs = .inr false ∧ ((xs.all fun v => decide (1 ≤ v)) = true → c < sumL xs))
  | [], c => .inl ⟨c, rfl, by simp [sumL], rfl, fun h => h⟩
  | v :: r, c => by
    unfold fitL
    by_cases hv : v < 1 ∨ v > c
    · rw [if_pos hv]
      refine .inr ⟨rfl, fun h => ?_⟩
      simp only [List.all_cons, Bool.and_eq_true, decide_eq_true_eq] at h
      have : ∀ (l : List Int), (l.all fun v => decide (1 ≤ v)) = true → 0 ≤ sumL l := by
        intro l
        induction l with
        | nil => intro _; simp [sumL]
        | cons a l ih => intro h; simp only [List.all_cons, Bool.and_eq_true, decide_eq_true_eq] at h; have := ih h.2; simp only [sumL]; omega
      have := this r h.2
      simp only [sumL]
      omega
    · rw [if_neg hv]
      rcases fitL_eq r (c - v) with ⟨d, h1, h2, h3, h4⟩ | ⟨h1, h2⟩
      · refine .inl ⟨d, h1, by simp only [sumL]; omega, ?_, fun h => h4 (by omega)⟩
        simp only [List.all_cons, Bool.and_eq_true, decide_eq_true_eq]
        exact ⟨by omega, h3⟩
      · refine .inr ⟨h1, fun h => ?_⟩
        simp only [List.all_cons, Bool.and_eq_true, decide_eq_true_eq] at h
        have := h2 h.2
        simp only [sumL]
        omega
theorem evening_fit_eq (n : Int) (hn : in64 n) (xs : List Int) (hxs : xs.length ≤ 1000) : evening_fit n xs = some (fitP n xs) := by
  unfold evening_fit
  rw [show (0 : Int) = (([] : List Int).length : Int) from rfl, fit_1 n xs hxs xs [] n 100000 rfl (by omega) hn.1 hn.2]
  simp only [Option.bind_some]
  rcases fitL_eq xs n with ⟨d, h1, h2, h3, h4⟩ | ⟨h1, h2⟩
  · rw [h1]
    simp only [evening_guests, Option.bind_some]
    unfold fitP
    rw [h3]
    by_cases ha : 1 ≤ n
    · by_cases hb : n ≤ 64
      · have : (d == 0) = decide (sumL xs = n) := by
          by_cases hd : d = 0
          · rw [hd]; simp; omega
          · have : ¬ sumL xs = n := by omega
            simp [this, hd]
        simp [ha, hb, this]
      · simp [ha, hb]
    · simp [ha]
  · rw [h1]
    simp only [Option.bind_some]
    unfold fitP
    cases hall : xs.all (fun v => decide (1 ≤ v)) with
    | false => simp
    | true => have := h2 hall; have : ¬ sumL xs = n := by omega
              simp [this]
def fitR : Int → List Int → Int ⊕ Bool
  | c, [] => .inl c
  | c, v :: r => if v < 1 ∨ v > 64 ∨ c > 64 then .inr false else fitR (c + v) r
theorem Fit_1 (n : Int) (xs : List Int) (hxs : xs.length ≤ 1000) : ∀ (r pre : List Int) (c : Int) (f : Nat), xs = pre ++ r → r.length < f → 0 ≤ c → ref09_Fit_1 n xs f c pre.length = some (fitR c r)
  | [], pre, c, f + 1, h, _, _ => by
    subst h
    unfold ref09_Fit_1
    rw [nlt_len]
    rfl
  | v :: r, pre, c, f + 1, h, hf, h1 => by
    subst h
    unfold ref09_Fit_1
    rw [if_pos (lt_len pre v r), idx_app]
    simp only [Option.bind_some]
    rw [wr_snoc pre v r (by omega)]
    unfold fitR
    by_cases ha : v < 1
    · simp [ha]
    · by_cases hb : v > 64
      · simp [ha, hb]
      · by_cases hc : c > 64
        · simp [ha, hb, hc]
        · simp only [ha, hb, hc, decide_false, Bool.false_eq_true, if_false, Option.bind_some, false_or]
          rw [wr_i (by omega) (by omega)]
          rw [snoc_app]
          exact Fit_1 n _ (by rw [← snoc_app]; exact hxs) r (pre ++ [v]) (c + v) f rfl (by simp at hf; omega) (by omega)
theorem sum_nn : ∀ (l : List Int), (l.all fun v => decide (1 ≤ v)) = true → 0 ≤ sumL l
  | [], _ => by simp [sumL]
  | a :: l, h => by
    simp only [List.all_cons, Bool.and_eq_true, decide_eq_true_eq] at h
    have := sum_nn l h.2
    simp only [sumL]; omega
theorem fitR_eq : ∀ (xs : List Int) (c : Int), 0 ≤ c → (∃ d, fitR c xs = .inl d ∧ d = c + sumL xs ∧ (xs.all fun v => decide (1 ≤ v)) = true) ∨ (fitR c xs = .inr false ∧ ((xs.all fun v => decide (1 ≤ v)) = true → 64 < c + sumL xs))
  | [], c, _ => .inl ⟨c, rfl, by simp [sumL], rfl⟩
  | v :: r, c, h0 => by
    unfold fitR
    by_cases hv : v < 1 ∨ v > 64 ∨ c > 64
    · rw [if_pos hv]
      refine .inr ⟨rfl, fun h => ?_⟩
      simp only [List.all_cons, Bool.and_eq_true, decide_eq_true_eq] at h
      have := sum_nn r h.2
      simp only [sumL]
      omega
    · rw [if_neg hv]
      rcases fitR_eq r (c + v) (by omega) with ⟨d, h1, h2, h3⟩ | ⟨h1, h2⟩
      · refine .inl ⟨d, h1, by simp only [sumL]; omega, ?_⟩
        simp only [List.all_cons, Bool.and_eq_true, decide_eq_true_eq]
        exact ⟨by omega, h3⟩
      · refine .inr ⟨h1, fun h => ?_⟩
        simp only [List.all_cons, Bool.and_eq_true, decide_eq_true_eq] at h
        have := h2 h.2
        simp only [sumL]
        omega
theorem ref09_Fit_eq (n : Int) (xs : List Int) (hxs : xs.length ≤ 1000) : ref09_Fit n xs = some (fitP n xs) := by
  unfold ref09_Fit
  have e0 := Fit_1 n xs hxs xs [] 0 100000 rfl (by omega) (by omega)
  rw [show ((([] : List Int).length : Nat) : Int) = 0 from rfl] at e0
  rw [e0]
  simp only [Option.bind_some]
  rcases fitR_eq xs 0 (by omega) with ⟨d, h1, h2, h3⟩ | ⟨h1, h2⟩
  · rw [h1]
    unfold fitP
    rw [h3]
    by_cases ha : 1 ≤ n
    · by_cases hb : n ≤ 64
      · have : (d == n) = decide (sumL xs = n) := by
          by_cases hd : d = n
          · rw [hd]; simp; omega
          · have : ¬ sumL xs = n := by omega
            simp [this, hd]
        simp [ha, hb, this]
      · simp [ha, hb]
    · simp [ha]
  · rw [h1]
    unfold fitP
    cases hall : xs.all (fun v => decide (1 ≤ v)) with
    | false => simp
    | true =>
      have := h2 hall
      by_cases hs : sumL xs = n
      · have : ¬ n ≤ 64 := by omega
        simp [hs, this]
      · simp [hs]
def okS (xs : List Int) : Prop := ∀ v ∈ xs, 1 ≤ v ∧ v ≤ 64
theorem fitP_inv {n : Int} {xs : List Int} (h : fitP n xs = true) : okS xs ∧ sumL xs = n ∧ 1 ≤ n ∧ n ≤ 64 := by
  simp only [fitP, Bool.and_eq_true, decide_eq_true_eq] at h
  obtain ⟨⟨⟨h1, h2⟩, h3⟩, h4⟩ := h
  refine ⟨?_, h2, h3, h4⟩
  have : ∀ (l : List Int), (l.all fun v => decide (1 ≤ v)) = true → ∀ v ∈ l, 1 ≤ v ∧ v ≤ sumL l := by
    intro l
    induction l with
    | nil => intro _ v hv; cases hv
    | cons a l ih =>
      intro h v hv
      have hn := sum_nn l (by simp only [List.all_cons, Bool.and_eq_true] at h; exact h.2)
      simp only [List.all_cons, Bool.and_eq_true, decide_eq_true_eq] at h
      rcases List.mem_cons.1 hv with rfl | hv
      · simp only [sumL]; omega
      · have := ih h.2 v hv; simp only [sumL]; omega
  intro v hv
  have := this xs h1 v hv
  omega
theorem equal_1 (xs : List Int) (hxs : xs.length ≤ 1000000) : ∀ (r pre : List Int) (f : Nat), xs = pre ++ r → r.length < f → slices_Equal_L_int_1 xs xs f pre.length = some (.inl ())
  | [], pre, f + 1, h, _ => by
    subst h
    unfold slices_Equal_L_int_1
    rw [nlt_len]
    rfl
  | v :: r, pre, f + 1, h, hf => by
    subst h
    unfold slices_Equal_L_int_1
    rw [if_pos (lt_len pre v r), idx_app]
    simp only [Option.bind_some]
    rw [wr_snoc pre v r (by omega)]
    simp only [bne_self_eq_false, Bool.false_eq_true, if_false]
    rw [snoc_app]
    exact equal_1 _ (by rw [← snoc_app]; exact hxs) r (pre ++ [v]) f rfl (by simp at hf; omega)
theorem equal_self (xs : List Int) (hxs : xs.length ≤ 50000) : slices_Equal_L_int xs xs = some true := by
  unfold slices_Equal_L_int
  have := equal_1 xs (by omega) xs [] 100000 rfl (by omega)
  simp only [bne_self_eq_false, Bool.false_eq_true, if_false]
  rw [show ((0 : Int)) = (([] : List Int).length : Int) from rfl, this]
  rfl
theorem clone_self (xs : List Int) (hxs : xs.length ≤ 50000) : slices_Clone_L_int xs = some xs := by
  unfold slices_Clone_L_int
  rw [if_pos (capOk_le (by omega) (by omega))]
/-- How often a number sits on an evening. -/
theorem times_2 (ev : List (List Int)) (x c2 : Int) (t : List Int) (ht : idx ev c2 = some t) (hl : t.length ≤ 50000) : ∀ (r pre : List Int) (f : Nat) (c : Int), t = pre ++ r → r.length < f → 0 ≤ c → c + r.length ≤ 1000000 → ref09_times_2 ev x c2 f c pre.length = some (c + (r.count x : Int))
  | [], pre, f + 1, c, h, _, _, _ => by
    unfold ref09_times_2
    rw [ht]
    subst h
    simp only [Option.bind_some]
    rw [nlt_len]
    simp
  | v :: r, pre, f + 1, c, h, hf, h0, h1 => by
    unfold ref09_times_2
    rw [ht]
    simp only [List.length_cons] at h1
    by_cases hv : v = x
    · have ih := times_2 ev x c2 t ht hl r (pre ++ [v]) f (c + 1) (by rw [h]; simp) (by simp at hf; omega) (by omega) (by omega)
      subst h hv
      simp only [Option.bind_some]
      rw [if_pos (lt_len pre v r), idx_app]
      simp only [Option.bind_some, ref09_times_j3, beq_self_eq_true, if_true]
      rw [wr_snoc pre v r (by omega), wr_i (by omega) (by omega), ih, List.count_cons_self]
      congr 1; omega
    · have ih := times_2 ev x c2 t ht hl r (pre ++ [v]) f c (by rw [h]; simp) (by simp at hf; omega) (by omega) (by omega)
      have hb : (v == x) = false := by simpa using hv
      subst h
      simp only [Option.bind_some]
      rw [if_pos (lt_len pre v r), idx_app]
      simp only [Option.bind_some, ref09_times_j3, hb, Bool.false_eq_true, if_false]
      rw [wr_snoc pre v r (by omega), ih, List.count_cons_of_ne hv]
theorem len_mem {α : Type} : ∀ {ev : List (List α)} {t : List α}, t ∈ ev → t.length ≤ ev.flatten.length
  | a :: ev, t, h => by
    simp only [List.flatten_cons, List.length_append]
    rcases List.mem_cons.1 h with rfl | h
    · omega
    · have := len_mem h; omega
theorem times_eq (ev : List (List Int)) (x : Int) (hl : ev.length ≤ 50000) (hfl : ev.flatten.length ≤ 50000) : ref09_times ev x = some (ev.flatten.count x : Int) := by
  unfold ref09_times
  have hm : ∀ t ∈ ev, t.length ≤ 50000 := fun t ht => by
    have := len_mem ht; omega
  have key : ∀ (r pre : List (List Int)) (f : Nat) (c : Int), ev = pre ++ r → r.length < f → 0 ≤ c → c + r.flatten.length ≤ 50000 → ref09_times_1 ev x f c pre.length = some (c + (r.flatten.count x : Int)) := by
    intro r
    induction r with
    | nil =>
      intro pre f c h hf h0 h1
      obtain ⟨f, rfl⟩ : ∃ g, f = g + 1 := ⟨f - 1, by simp at hf; omega⟩
      subst h
      unfold ref09_times_1
      rw [nlt_len]
      simp
    | cons t r ih =>
      intro pre f c h hf h0 h1
      obtain ⟨f, rfl⟩ : ∃ g, f = g + 1 := ⟨f - 1, by simp at hf; omega⟩
      have ht := hm t (by rw [h]; simp)
      subst h
      unfold ref09_times_1
      rw [if_pos (lt_len pre t r)]
      simp only [List.flatten_cons, List.length_append] at h1
      have hc : (t.count x) ≤ t.length := List.count_le_length
      have h2 := times_2 (pre ++ t :: r) x pre.length t (idx_app pre t r) (by omega) t [] 100000 c rfl (by omega) h0 (by omega)
      rw [show ((([] : List Int).length : Nat) : Int) = 0 from rfl] at h2
      rw [h2]
      simp only [Option.bind_some]
      simp at hl
      rw [wr_snoc pre t r (by simp; omega), ih (pre ++ [t]) f _ (by simp) (by simp at hf; omega) (by omega) (by omega)]
      simp only [List.flatten_cons, List.count_append]
      congr 1; omega
  have := key ev [] 100000 0 rfl (by omega) (by omega) (by omega)
  rw [show ((([] : List (List Int)).length : Nat) : Int) = 0 from rfl, Int.zero_add] at this
  rw [this]
  rfl
abbrev CSt := Int × Bool × Bool × List Bool
def stepC (n : Int) (s : CSt) (v : Int) : CSt := if v < 0 ∨ v ≥ n then (s.1, s.2.1, true, s.2.2.2) else ((if (s.2.2.2)[v.toNat]?.getD false then s.1 else s.1 + 1), s.2.1 || (s.2.2.2)[v.toNat]?.getD false, s.2.2.1, s.2.2.2.set v.toNat true)
structure InvC (N : Nat) (P : List Int) (s : CSt) : Prop where
  len : s.2.2.2.length = N
  seen : ∀ k, k < N → s.2.2.2[k]?.getD false = decide ((k : Int) ∈ P)
  tw : s.2.1 = true ↔ ∃ x, 2 ≤ P.count x
  many : s.1 = (s.2.2.2.count true : Int)
theorem count_set : ∀ (l : List Bool) (k : Nat), k < l.length → ((l.set k true).count true : Int) = l.count true + (if l[k]?.getD false then 0 else 1)
  | [], k, h => by simp at h
  | b :: l, 0, _ => by cases b <;> simp
  | b :: l, k + 1, h => by
    have := count_set l k (by simpa using h)
    simp only [List.set_cons_succ, List.getElem?_cons_succ]
    cases b
    · simpa using this
    · simp only [List.count_cons_self]; push_cast; omega
theorem InvC.step {n : Int} {P : List Int} {s : CSt} (i : InvC n.toNat P s) {v : Int} (h0 : 0 ≤ v) (h1 : v < n) : InvC n.toNat (P ++ [v]) (stepC n s v) := by
  obtain ⟨m, tw, un, seen⟩ := s
  obtain ⟨i1, i2, i3, i4⟩ := i
  simp only at i1 i2 i3 i4
  have hst : stepC n (m, tw, un, seen) v = ((if seen[v.toNat]?.getD false then m else m + 1), tw || seen[v.toNat]?.getD false, un, seen.set v.toNat true) := by
    unfold stepC; rw [if_neg (by omega)]
  have hlt : v.toNat < seen.length := by clear i3; omega
  have hv := i2 v.toNat (by clear i3; omega)
  have hvv : ((v.toNat : Nat) : Int) = v := by clear i3; omega
  rw [hvv] at hv
  rw [hst]
  refine ⟨by simpa using i1, fun k hk => ?_, ?_, ?_⟩
  · simp only [List.getElem?_set]
    by_cases hkv : v.toNat = k
    · subst hkv
      simp [hlt, hvv]
    · rw [if_neg hkv, i2 k hk]
      have : ¬ (k : Int) = v := by clear i3; omega
      simp [this]
  · simp only [Bool.or_eq_true, i3, hv, decide_eq_true_eq]
    clear i3 i4
    constructor
    · rintro (⟨x, hx⟩ | hm)
      · exact ⟨x, by rw [List.count_append]; omega⟩
      · exact ⟨v, by rw [List.count_append]; have := List.count_pos_iff.2 hm; have e : [v].count v = 1 := (by simp); omega⟩
    · rintro ⟨x, hx⟩
      rw [List.count_append] at hx
      by_cases hxv : v = x
      · subst hxv
        have e : [v].count v = 1 := by simp
        rw [e] at hx
        exact .inr (List.count_pos_iff.1 (by omega))
      · rw [List.count_cons_of_ne hxv] at hx
        exact .inl ⟨x, by simpa using hx⟩
  · simp only
    rw [count_set seen v.toNat hlt, i4]
    split <;> simp
def toI1 (t : List Nat) : List Int := t.map Int.ofNat
def toI2 (ev : List (List Nat)) : List (List Int) := ev.map toI1
def toI3 (s : List (List (List Nat))) : List (List (List Int)) := s.map toI2
theorem toI1_len (t : List Nat) : (toI1 t).length = t.length := by simp [toI1]
theorem toI2_len (t : List (List Nat)) : (toI2 t).length = t.length := by simp [toI2]
theorem toI3_len (t : List (List (List Nat))) : (toI3 t).length = t.length := by simp [toI3]
theorem toI2_flat : ∀ (ev : List (List Nat)), (toI2 ev).flatten = toI1 ev.flatten
  | [] => rfl
  | t :: ev => by
    show toI1 t ++ (toI2 ev).flatten = toI1 (t ++ ev.flatten)
    rw [toI2_flat ev]; simp [toI1]
theorem toI1_count (L : List Nat) (x : Nat) : (toI1 L).count (x : Int) = L.count x := by
  induction L with
  | nil => rfl
  | cons v L ih =>
    show (Int.ofNat v :: toI1 L).count (x : Int) = _
    rw [List.count_cons, List.count_cons, ih]
    congr 1
    by_cases h : v = x
    · subst h; simp
    · have : ¬ (Int.ofNat v) = (x : Int) := fun e => h (Int.ofNat.inj e)
      simp [h]
      omega
theorem mem_toI1 {L : List Nat} {v : Int} (h : v ∈ toI1 L) : ∃ j ∈ L, v = Int.ofNat j := by
  obtain ⟨j, h1, h2⟩ := List.mem_map.1 h
  exact ⟨j, h1, h2.symm⟩
/- (trestle/evening.square[int]).rows -/
/- trestle/evening.valid -/
/-- The cells after some counts. -/
def cel (n : Nat) (L : List Nat) : List Int := incs (zeros (n * n)) L
theorem cel_len (n : Nat) (L : List Nat) : (cel n L).length = n * n := by rw [cel, incs_len]; simp [zeros]
theorem cel_wr {n x y : Nat} (hn : n ≤ 64) (hx : x < n) (hy : y < n) : wr .i64 (wr .i64 ((x : Int) * (n : Int)) + (y : Int)) = ((x * n + y : Nat) : Int) := by
  have h1 := cell_lt hx hy
  have h2 : n * n ≤ 64 * 64 := Nat.mul_le_mul hn hn
  have e : (x : Int) * (n : Int) = ((x * n : Nat) : Int) := by simp
  have q : wr .i64 ((x * n : Nat) : Int) = ((x * n : Nat) : Int) := wr_i (by omega) (by omega)
  rw [e, q, wr_i (by omega) (by omega)]
  simp
theorem cel_idx {n x y : Nat} (L : List Nat) (hx : x < n) (hy : y < n) : idx (cel n L) ((x * n + y : Nat) : Int) = some ((L.count (x * n + y) : Nat) : Int) := by
  have h1 := cell_lt hx hy
  have h2 : x * n + y < (cel n L).length := by rw [cel_len]; exact h1
  rw [idx_lt h2]
  have := cnt_get L (n * n) (x * n + y) h1
  rw [← this, List.getD_eq_getElem?_getD]
  show some _ = some ((cel n L)[x * n + y]?.getD 0)
  rw [List.getElem?_eq_getElem h2]
  rfl
theorem cel_set {n x y : Nat} (L : List Nat) (hL : L.length ≤ 10000000) (hx : x < n) (hy : y < n) : (cel n L).set (((x * n + y : Nat) : Int)).toNat (wr .i64 (((L.count (x * n + y) : Nat) : Int) + 1)) = cel n (L ++ [x * n + y]) := by
  have h1 := cell_lt hx hy
  have hc : L.count (x * n + y) ≤ L.length := List.count_le_length
  rw [wr_i (by omega) (by omega), Int.toNat_natCast]
  have h2 : cel n (L ++ [x * n + y]) = inc (cel n L) (x * n + y) := by rw [cel, incs_app]; rfl
  rw [h2, inc]
  have := cnt_get L (n * n) (x * n + y) h1
  rw [show (cel n L).getD (x * n + y) 0 = _ from this]
theorem toI1_app (a b : List Nat) : toI1 (a ++ b) = toI1 a ++ toI1 b := by simp [toI1]
theorem idx_toI1 (pre : List Nat) (x : Nat) (r : List Nat) : idx (toI1 (pre ++ x :: r)) (pre.length : Int) = some (x : Int) := by
  rw [toI1_app, ← toI1_len pre]
  exact idx_app _ _ _
theorem idx_toI2 (pre : List (List Nat)) (x : List Nat) (r : List (List Nat)) : idx (toI2 (pre ++ x :: r)) (pre.length : Int) = some (toI1 x) := by
  have : toI2 (pre ++ x :: r) = toI2 pre ++ toI1 x :: toI2 r := by simp [toI2]
  rw [this, ← toI2_len pre]
  exact idx_app _ _ _
theorem wr_nat {k : Nat} (h : k ≤ 1000000000) : wr .i64 ((k : Int) + 1) = ((k + 1 : Nat) : Int) := by
  rw [wr_i (by omega) (by omega)]; simp
theorem mkOk_nn {n : Nat} (hn : n ≤ 64) : mkOk 8 (wr .i64 ((n : Int) * (n : Int))) = true ∧ List.replicate (wr .i64 ((n : Int) * (n : Int))).toNat (0 : Int) = cel n [] := by
  have h2 : n * n ≤ 64 * 64 := Nat.mul_le_mul hn hn
  have e : (n : Int) * (n : Int) = ((n * n : Nat) : Int) := by simp
  rw [e, wr_i (by omega) (by omega)]
  refine ⟨?_, by rw [Int.toNat_natCast]; rfl⟩
  simp only [mkOk, Bool.and_eq_true, decide_eq_true_eq]
  omega
/-- Small enough for all loops. -/
structure Sml (n : Nat) (s : List (List (List Nat))) : Prop where
  n64 : n ≤ 64
  mem : ∀ ev ∈ s, ∀ t ∈ ev, ∀ x ∈ t, x < n
  ev : ∀ ev ∈ s, ev.flatten.length ≤ 90000 ∧ ev.length ≤ 90000
  len : s.length ≤ 90000
  all : s.flatten.flatten.length ≤ 90000
/-- How many pairs are counted at most. -/
def sqs : List (List Nat) → Nat
  | [] => 0
  | t :: ev => t.length * t.length + sqs ev
def sqS : List (List (List Nat)) → Nat
  | [] => 0
  | ev :: s => sqs ev + sqS s
/-- Small enough for meetings. -/
structure SmM (n : Nat) (s : List (List (List Nat))) : Prop where
  n64 : n ≤ 64
  mem : ∀ ev ∈ s, ∀ t ∈ ev, ∀ x ∈ t, x < n
  ev : ∀ ev ∈ s, (∀ t ∈ ev, t.length ≤ 2000) ∧ ev.length ≤ 90000
  len : s.length ≤ 90000
  all : sqS s ≤ 9000000
theorem sqs_le : ∀ ev : List (List Nat), (∀ t ∈ ev, t.length ≤ 64) → sqs ev ≤ 64 * ev.flatten.length
  | [], _ => by simp [sqs]
  | t :: ev, h => by
    have a := sqs_le ev fun u hu => h u (by simp [hu])
    have c : t.length * t.length ≤ 64 * t.length := Nat.mul_le_mul_right _ (h t (by simp))
    simp only [sqs, List.flatten_cons, List.length_append, Nat.mul_add]; omega
theorem sqS_le : ∀ s : List (List (List Nat)), (∀ ev ∈ s, sqs ev ≤ 4096) → sqS s ≤ s.length * 4096
  | [], _ => by simp [sqS]
  | ev :: s, h => by
    have a := sqS_le s fun u hu => h u (by simp [hu])
    have b := h ev (by simp)
    simp only [sqS, List.length_cons, Nat.succ_mul]; omega
theorem flats_le : ∀ s : List (List (List Nat)), (∀ ev ∈ s, ev.flatten.length ≤ 64) → s.flatten.flatten.length ≤ s.length * 64
  | [], _ => by simp
  | ev :: s, h => by
    have a := flats_le s fun u hu => h u (by simp [hu])
    have b := h ev (by simp)
    rw [List.flatten_cons, List.flatten_append, List.length_append, List.length_cons, Nat.succ_mul]; omega
theorem len_flat {ev : List (List Nat)} (h : ∀ t ∈ ev, t.length ≠ 0) : ev.length ≤ ev.flatten.length := by
  induction ev with
  | nil => simp
  | cons t ev ih =>
    have := ih fun u hu => h u (by simp [hu])
    have := h t (by simp)
    simp only [List.flatten_cons, List.length_append, List.length_cons]; omega
/- trestle/evening.meetings -/
/- trestle/evening.Meet -/
/-- Where guests who meet are counted. -/
def meetT (n : Nat) : List Nat → List Nat → List Nat
  | _, [] => []
  | pre, x :: r => (pre ++ r).map (fun y => Nat.add (Nat.mul x n) y) ++ meetT n (pre ++ [x]) r
def meetE (n : Nat) : List (List Nat) → List Nat
  | [] => []
  | t :: ev => meetT n [] t ++ meetE n ev
def meetS (n : Nat) : List (List (List Nat)) → List Nat
  | [] => []
  | ev :: s => meetE n ev ++ meetS n s
/- Meetings. -/
def inner (n x i : Nat) : Nat → List Nat → List Nat
  | _, [] => []
  | k, y :: r => (if i = k then [] else [x * n + y]) ++ inner n x i (k + 1) r
def meetG (n : Nat) (t : List Nat) : Nat → List Nat → List Nat
  | _, [] => []
  | i, x :: r => inner n x i 0 t ++ meetG n t (i + 1) r
theorem inner_len (n x i : Nat) : ∀ (r : List Nat) (k : Nat), (inner n x i k r).length ≤ r.length
  | [], _ => by simp [inner]
  | y :: r, k => by
    have := inner_len n x i r (k + 1)
    simp only [inner, List.length_append, List.length_cons]
    split
    · simp only [List.length_nil]; omega
    · simp only [List.length_singleton]; omega
theorem inner_ge (n x i : Nat) : ∀ (r : List Nat) (k : Nat), i < k → inner n x i k r = r.map fun y => x * n + y
  | [], _, _ => rfl
  | y :: r, k, h => by
    simp only [inner, List.map_cons]
    rw [if_neg (by omega), inner_ge n x i r (k + 1) (by omega)]
    rfl
theorem inner_app (n x z : Nat) (r : List Nat) : ∀ (pre : List Nat) (k i : Nat), i = k + pre.length → inner n x i k (pre ++ z :: r) = (pre ++ r).map fun y => x * n + y
  | [], k, i, h => by
    simp only [List.nil_append, inner]
    rw [if_pos (by simpa using h), inner_ge n x i r (k + 1) (by simp at h; omega)]
    rfl
  | y :: pre, k, i, h => by
    simp only [List.cons_append, inner, List.map_cons]
    simp only [List.length_cons] at h
    rw [if_neg (by omega), inner_app n x z r pre (k + 1) i (by omega)]
    rfl
theorem meetG_T (n : Nat) (t : List Nat) : ∀ (r pre : List Nat), t = pre ++ r → meetG n t pre.length r = meetT n pre r
  | [], _, _ => rfl
  | x :: r, pre, h => by
    have ih := meetG_T n t r (pre ++ [x]) (by rw [h]; simp)
    simp only [meetG, meetT]
    rw [show pre.length + 1 = (pre ++ [x]).length by simp, ih]
    congr 1
    rw [h]
    exact inner_app n x x r pre 0 pre.length (by omega)
theorem meetG_len (n : Nat) (t : List Nat) : ∀ (r : List Nat) (i : Nat), (meetG n t i r).length ≤ t.length * r.length
  | [], _ => by simp [meetG]
  | x :: r, i => by
    have := meetG_len n t r (i + 1)
    have := inner_len n x i t 0
    simp only [meetG, List.length_append, List.length_cons, Nat.mul_succ]
    omega
theorem meetT_len (n : Nat) (t : List Nat) : (meetT n [] t).length ≤ t.length * t.length := by
  rw [← meetG_T n t t [] rfl]; exact meetG_len n t t 0
theorem meetE_len (n : Nat) : ∀ (ev : List (List Nat)), (meetE n ev).length ≤ sqs ev
  | [] => by simp [meetE]
  | t :: ev => by
    have := meetE_len n ev
    have := meetT_len n t
    simp only [meetE, sqs, List.length_append]; omega
end Go.Proofs.YtcmgmkepodbpkaaDoor
namespace Go.Proofs.YtcmgmkepodbpkaaDoor
/-! ## Fields -/
/-! ## Products -/
/-! ## The reference's fields -/
section guards
variable {P : Program} {Q : Exit → Act → World → Prop} {F : Frm} {l : List (Nat × Value)} {w : World} {ops : Array Oper} {rest : List Oper}
end guards
section rules
variable {P : Program} {Q : Exit → Act → World → Prop} {F : Frm} {l : List (Nat × Value)} {w : World} {ops : Array Oper} {rest : List Oper}
variable {X : List Oper → Frm → List (Nat × Value) → World → Prop} [inst : Runs P X]
variable {d : Nat} {ty t T e : TypeId} {pos : String} {af : Array Edge} {x y : Operand} {ds dT : TypeDesc} {sz by_ sT bT : Nat} {z zT : Value}
end rules
set_option linter.unusedSimpArgs false
set_option linter.unusedVariables false
set_option linter.unusedSimpArgs false
set_option linter.unusedVariables false
set_option linter.unusedSimpArgs false
set_option linter.unusedVariables false
section
variable {E : Env} {ops : Array Oper} {rest rest' : List Oper} {K : St → Prop} {n n0 k : Nat} {l : List (Nat × AV)} {hp : Hp}
end
/- trestle/evening.extremes -/
/- trestle/evening.Most -/
/- trestle/evening.Least -/
/- trestle/evening.Strain -/
/-- An evening of these sizes, everybody once. -/
structure Evn (n : Nat) (sz : List Nat) (ev : List (List Nat)) : Prop where
  sz_ : ev.map List.length = sz
  ne : ∀ t ∈ ev, t.length ≠ 0
  cnt : ∀ j, ev.flatten.count j = if j < n then 1 else 0
section
variable {n : Nat} {sz : List Nat} {ev : List (List Nat)} {s : List (List (List Nat))}
theorem Evn.flt (h : Evn n sz ev) {j : Nat} (hj : j ∈ ev.flatten) : j < n := by
  have := h.cnt j
  have := List.count_pos_iff.2 hj
  split at * <;> omega
theorem Evn.lt (h : Evn n sz ev) : ∀ t ∈ ev, ∀ x ∈ t, x < n := fun t ht _ hx => h.flt (List.mem_flatten.2 ⟨t, ht, hx⟩)
theorem Evn.len (h : Evn n sz ev) : ev.flatten.length = sz.sum := by rw [List.length_flatten, h.sz_]
end
/- slices.Index[[]int,int] -/
def slices_Index_L_int_1 (x0 : (List Int)) (x1 : Int) : Nat → Int → Option ((Unit) ⊕ (Int))
  | 0, _ => none
  | f + 1, c1 =>
    if (decide (c1 < (x0.length : Int))) = true then
    (idx x0 c1).bind fun v3 =>
    if (x1 == v3) = true then
    some (.inr c1)
    else
    slices_Index_L_int_1 x0 x1 f (wr .i64 (c1 + 1))
    else
    some (.inl ())
def slices_Index_L_int (x0 : (List Int)) (x1 : Int) : Option (Int) :=
  (slices_Index_L_int_1 x0 x1 100000 0).bind fun r6 =>
  match r6 with
  | (.inl w7) =>
    some (-1)
  | (.inr w8) =>
    some w8
/- slices.Contains[[]int,int] -/
def slices_Contains_L_int (x0 : (List Int)) (x1 : Int) : Option (Bool) :=
  (slices_Index_L_int x0 x1).bind fun v1 =>
  some (decide (v1 ≥ 0))
/- trestle/evening.Together -/
def evening_Together_j3 (x1 : (List (List (List Int)))) (x2 : Int) (x3 : Int) (c6 : Int) (v8 : (List (List Int))) (c10 : Int) (j17 : (List Int) × Bool) : Option (((List Int))) :=
  if j17.2 = true then
  if (capOk 8 (j17.1.length + 1)) = true then
  some (j17.1 ++ [c6])
  else none
  else
  some j17.1
def evening_Together_2 (x1 : (List (List (List Int)))) (x2 : Int) (x3 : Int) (c6 : Int) (v8 : (List (List Int))) : Nat → (List Int) → Int → Option (((List Int)))
  | 0, _, _ => none
  | f + 1, c9, c10 =>
    if (decide (c10 < (v8.length : Int))) = true then
    (idx v8 c10).bind fun v12 =>
    (slices_Contains_L_int v12 x2).bind fun v13 =>
    (if v13 = true then (slices_Contains_L_int v12 x3).bind fun v14 =>
    some (c9, v14) else some (c9, false)).bind fun j17 =>
    (evening_Together_j3 x1 x2 x3 c6 v8 c10 j17).bind fun r21 =>
    evening_Together_2 x1 x2 x3 c6 v8 f r21 (wr .i64 (c10 + 1))
    else
    some c9
def evening_Together_1 (x1 : (List (List (List Int)))) (x2 : Int) (x3 : Int) : Nat → (List Int) → Int → Option (((List Int)))
  | 0, _, _ => none
  | f + 1, c5, c6 =>
    if (decide (c6 < (x1.length : Int))) = true then
    (idx x1 c6).bind fun v8 =>
    (evening_Together_2 x1 x2 x3 c6 v8 100000 c5 0).bind fun r24 =>
    evening_Together_1 x1 x2 x3 f r24 (wr .i64 (c6 + 1))
    else
    some c5
theorem map_count (n z x y : Nat) (hy : y < n) : ∀ (l : List Nat), (∀ w ∈ l, w < n) → (l.map fun w => Nat.add (Nat.mul z n) w).count (x * n + y) = if z = x then l.count y else 0
  | [], _ => by simp
  | w :: l, h => by
    have ih := map_count n z x y hy l fun u hu => h u (by simp [hu])
    have hw := h w (by simp)
    rw [List.map_cons, List.count_cons, ih, List.count_cons]
    by_cases e : z * n + w = x * n + y
    · obtain ⟨e1, e2⟩ := cell_eq hw hy e
      subst e1 e2
      simp
    · have : ((Nat.add (Nat.mul z n) w) == (x * n + y)) = false := by simpa using e
      rw [this]
      by_cases hz : z = x
      · subst hz
        have : ¬ w = y := fun e2 => e (by rw [e2])
        simp [this]
      · simp [hz]
theorem meetT_count (n x y : Nat) (hy : y < n) : ∀ (r pre : List Nat), (∀ z ∈ pre ++ r, z < n) → (meetT n pre r).count (x * n + y) = r.count x * ((pre ++ r).count y - if x = y then 1 else 0)
  | [], _, _ => by simp [meetT]
  | z :: r, pre, h => by
    have ih := meetT_count n x y hy r (pre ++ [z]) (by simpa using h)
    have e : (pre ++ [z]) ++ r = pre ++ z :: r := by simp
    rw [e] at ih
    have hT : (pre ++ z :: r).count y = (pre ++ r).count y + if z = y then 1 else 0 := by
      rw [List.count_append, List.count_append, List.count_cons]
      by_cases hz : z = y
      · subst hz; simp; omega
      · simp [hz]
    simp only [meetT, List.count_append]
    rw [map_count n z x y hy (pre ++ r) (fun w hw => h w (by
      rcases List.mem_append.1 hw with hw | hw
      · simp [hw]
      · simp [hw])), List.count_cons]
    rw [List.count_append] at ih
    rw [ih]
    have hT' : List.count y pre + List.count y (z :: r) = (pre ++ r).count y + if z = y then 1 else 0 := by rw [← hT, List.count_append]
    rw [hT']
    by_cases hz : z = x
    · subst hz
      by_cases hxy : z = y
      · subst hxy
        simp [Nat.add_mul]; omega
      · simp [hxy, Nat.add_mul]; omega
    · have : (z == x) = false := by simpa using hz
      simp [hz]
/-- On how many tables of an evening two guests sit together. -/
def pE (x y : Nat) : List (List Nat) → Nat
  | [] => 0
  | t :: ev => t.count x * t.count y + pE x y ev
def pS (x y : Nat) : List (List (List Nat)) → Nat
  | [] => 0
  | ev :: s => pE x y ev + pS x y s
theorem meetE_count (n x y : Nat) (hy : y < n) (hxy : x ≠ y) : ∀ (ev : List (List Nat)), (∀ t ∈ ev, ∀ z ∈ t, z < n) → (meetE n ev).count (x * n + y) = pE x y ev
  | [], _ => rfl
  | t :: ev, h => by
    have ih := meetE_count n x y hy hxy ev fun u hu => h u (by simp [hu])
    simp only [meetE, pE, List.count_append, ih]
    rw [meetT_count n x y hy t [] (by simpa using h t (by simp)), if_neg hxy]
    simp
theorem meetS_count (n x y : Nat) (hy : y < n) (hxy : x ≠ y) : ∀ (s : List (List (List Nat))), (∀ ev ∈ s, ∀ t ∈ ev, ∀ z ∈ t, z < n) → (meetS n s).count (x * n + y) = pS x y s
  | [], _ => rfl
  | ev :: s, h => by
    have ih := meetS_count n x y hy hxy s fun u hu => h u (by simp [hu])
    simp only [meetS, pS, List.count_append, ih, meetE_count n x y hy hxy ev (h ev (by simp))]
theorem cnt_le {x : Nat} {t : List Nat} {ev : List (List Nat)} (ht : t ∈ ev) (h : ev.flatten.count x ≤ 1) : t.count x ≤ 1 := by
  induction ev with
  | nil => cases ht
  | cons u ev ih =>
    rw [List.flatten_cons, List.count_append] at h
    rcases List.mem_cons.1 ht with rfl | ht
    · omega
    · exact ih ht (by omega)
theorem Evn.le1 {n : Nat} {sz : List Nat} {ev : List (List Nat)} (h : Evn n sz ev) {t : List Nat} (ht : t ∈ ev) (x : Nat) : t.count x ≤ 1 := by
  refine cnt_le ht ?_
  rw [h.cnt]; split <;> omega
/- Together. -/
theorem index_1 (xs : List Int) (v : Int) (hl : xs.length ≤ 90000) : ∀ (r pre : List Int) (f : Nat), xs = pre ++ r → r.length < f → (v ∈ r → ∃ p : Nat, slices_Index_L_int_1 xs v f pre.length = some (.inr (p : Int))) ∧ (¬ v ∈ r → slices_Index_L_int_1 xs v f pre.length = some (.inl ()))
  | [], pre, f + 1, h, _ => by
    refine ⟨fun h => by simp at h, fun _ => ?_⟩
    unfold slices_Index_L_int_1
    rw [if_neg (by rw [h]; simp)]
  | u :: r, pre, f + 1, h, hf => by
    obtain ⟨ih1, ih2⟩ := index_1 xs v hl r (pre ++ [u]) f (by rw [h]; simp) (by simp at hf; omega)
    have hp : pre.length < xs.length := by rw [h]; simp
    have a3 : ((pre.length + 1 : Nat) : Int) = ((pre ++ [u]).length : Int) := by simp
    have st : slices_Index_L_int_1 xs v (f + 1) pre.length = if (v == u) = true then some (.inr (pre.length : Int)) else slices_Index_L_int_1 xs v f ((pre ++ [u]).length : Int) := by
      conv => lhs; unfold slices_Index_L_int_1
      rw [if_pos (by rw [h]; simp; omega), show idx xs (pre.length : Int) = some u by rw [h]; exact idx_app pre u r]
      simp only [Option.bind_some]
      rw [wr_nat (by omega), a3]
    rw [st]
    by_cases e : v = u
    · subst e
      simp only [beq_self_eq_true, if_true]
      exact ⟨fun _ => ⟨_, rfl⟩, fun h => absurd (List.mem_cons_self) h⟩
    · have : (v == u) = false := by simpa using e
      simp only [this, Bool.false_eq_true, if_false]
      exact ⟨fun h => ih1 (by simpa [e] using h), fun h => ih2 (by simpa [e] using h)⟩
theorem contains_eq (xs : List Int) (v : Int) (hl : xs.length ≤ 90000) : slices_Contains_L_int xs v = some (decide (v ∈ xs)) := by
  obtain ⟨h1, h2⟩ := index_1 xs v hl xs [] 100000 rfl (by omega)
  rw [show ((([] : List Int).length : Nat) : Int) = 0 from rfl] at h1 h2
  unfold slices_Contains_L_int slices_Index_L_int
  by_cases h : v ∈ xs
  · obtain ⟨p, hp⟩ := h1 h
    rw [hp]
    simp [h]
  · rw [h2 h]
    simp [h]
theorem mem_toI {t : List Nat} {x : Nat} : ((x : Int) ∈ toI1 t) ↔ x ∈ t := by
  constructor
  · intro h
    obtain ⟨j, hj, e⟩ := mem_toI1 h
    have : x = j := by
      have : (x : Int) = (j : Int) := e
      omega
    rw [this]; exact hj
  · intro h
    exact List.mem_map.2 ⟨x, h, rfl⟩
theorem pE_le (x y : Nat) : ∀ (ev : List (List Nat)), (∀ t ∈ ev, t.count x ≤ 1 ∧ t.count y ≤ 1) → pE x y ev ≤ ev.length
  | [], _ => by simp [pE]
  | t :: ev, h => by
    have ih := pE_le x y ev fun u hu => h u (by simp [hu])
    obtain ⟨a, b⟩ := h t (by simp)
    have : t.count x * t.count y ≤ 1 * 1 := Nat.mul_le_mul a b
    simp only [pE, List.length_cons]; omega
/- trestle/evening.Beside -/
/-- An evening with everybody once. -/
def EvV (n : Nat) (ev : List (List Nat)) : Prop := Evn n (ev.map List.length) ev
theorem cnt_len {L : List Nat} {n : Nat} (h : ∀ j, L.count j = if j < n then 1 else 0) : L.length = n := by
  have hp : L.Perm (List.range n) := List.perm_iff_count.2 fun j => by rw [h, List.count_range]
  rw [hp.length_eq]; simp
theorem EvV.flen {n : Nat} {ev : List (List Nat)} (h : EvV n ev) : ev.flatten.length = n := cnt_len h.cnt
theorem EvV.elen {n : Nat} {ev : List (List Nat)} (h : EvV n ev) : ev.length ≤ n := by
  have := len_flat h.ne
  rw [h.flen] at this
  exact this
theorem EvV.tlen {n : Nat} {ev : List (List Nat)} (h : EvV n ev) {t : List Nat} (ht : t ∈ ev) : t.length ≤ n := by
  have := len_mem ht
  rw [h.flen] at this
  exact this
section
variable {n : Nat} {s : List (List (List Nat))}
theorem evv_small (hn : n ≤ 64) (hs : s.length ≤ 70) (hv : ∀ ev ∈ s, EvV n ev) : Sml n s ∧ SmM n s := by
  have h3 : ∀ ev ∈ s, sqs ev ≤ 4096 := fun ev he => by
    have := sqs_le ev fun t ht => by have := (hv ev he).tlen ht; omega
    have := (hv ev he).flen
    omega
  have h4 := sqS_le s h3
  have h5 := flats_le s fun ev he => by have := (hv ev he).flen; omega
  exact ⟨⟨hn, fun ev he => (hv ev he).lt, fun ev he => ⟨by have := (hv ev he).flen; omega, by have := (hv ev he).elen; omega⟩, by omega, by omega⟩, ⟨hn, fun ev he => (hv ev he).lt, fun ev he => ⟨fun t ht => by have := (hv ev he).tlen ht; omega, by have := (hv ev he).elen; omega⟩, by omega, by omega⟩⟩
end
/-- Most and sum of numbers over a table. -/
def scr (c : Nat → Int) : List Nat → Int → Int → Int × Int
  | [], a, s => (a, s)
  | y :: r, a, s => scr c r (mxI a (c y)) (s + c y)
/-- Is a guest better than the best so far? -/
def bet (b a m s t : Int) : Bool := decide (b < 0) || (decide (a < m) || (a == m && decide (s < t)))
/-- The best of some guests. -/
def pk (g : Nat → Int × Int) : List Nat → Int → Int → Int → Int × Int × Int
  | [], b, m, t => (b, m, t)
  | x :: r, b, m, t => if bet b (g x).1 m (g x).2 t = true then pk g r (x : Int) (g x).1 (g x).2 else pk g r b m t
/-- Who does not sit yet. -/
def frOf (n : Nat) (us : List Nat) : List Nat := (List.range n).filter fun x => decide (¬ x ∈ us)
def pick (g : Nat → Int × Int) (n : Nat) (us : List Nat) : Nat := (pk g (frOf n us) (-1) 0 0).1.toNat
def plT (c : Nat → Nat → Int) (n : Nat) (us : List Nat) : Nat → List Nat → List Nat
  | 0, tb => tb
  | k + 1, tb => plT c n us k (tb ++ [pick (fun x => scr (c x) tb 0 0) n (us ++ tb)])
def plE (c : Nat → Nat → Int) (n : Nat) : List Nat → List (List Nat) → List (List Nat)
  | [], ev => ev
  | k :: r, ev => plE c n r (ev ++ [plT c n ev.flatten k []])
def metI (s : List (List (List Nat))) (x y : Nat) : Int := ((pS x y s : Nat) : Int)
def plS (n : Nat) (sz : List Nat) : Nat → List (List (List Nat)) → List (List (List Nat))
  | 0, s => s
  | e + 1, s => plS n sz e (s ++ [plE (metI s) n sz []])
/-- Nobody twice, nobody unknown. -/
def Cn (n : Nat) (us : List Nat) : Prop := ∀ j, us.count j ≤ if j < n then 1 else 0
theorem pk_mem (g : Nat → Int × Int) : ∀ (r : List Nat) (b m t : Int), 0 ≤ b → (pk g r b m t).1 = b ∨ ∃ x ∈ r, (pk g r b m t).1 = (x : Int)
  | [], b, m, t, _ => .inl rfl
  | x :: r, b, m, t, h => by
    unfold pk
    by_cases hb : bet b (g x).1 m (g x).2 t = true
    · rw [if_pos hb]
      rcases pk_mem g r (x : Int) (g x).1 (g x).2 (by omega) with e | ⟨y, hy, e⟩
      · exact .inr ⟨x, by simp, e⟩
      · exact .inr ⟨y, by simp [hy], e⟩
    · rw [if_neg hb]
      rcases pk_mem g r b m t h with e | ⟨y, hy, e⟩
      · exact .inl e
      · exact .inr ⟨y, by simp [hy], e⟩
theorem pk_some (g : Nat → Int × Int) {r : List Nat} (hr : r ≠ []) : ∃ x ∈ r, (pk g r (-1) 0 0).1 = (x : Int) := by
  cases r with
  | nil => exact absurd rfl hr
  | cons x r =>
    unfold pk
    rw [if_pos (by simp [bet])]
    rcases pk_mem g r (x : Int) (g x).1 (g x).2 (by omega) with e | ⟨y, hy, e⟩
    · exact ⟨x, by simp, e⟩
    · exact ⟨y, by simp [hy], e⟩
theorem mem_fr {n : Nat} {us : List Nat} {x : Nat} : x ∈ frOf n us ↔ x < n ∧ ¬ x ∈ us := by simp [frOf]
theorem fr_count (n : Nat) (us : List Nat) (j : Nat) : (frOf n us).count j = if j < n ∧ ¬ j ∈ us then 1 else 0 := by
  by_cases h : ¬ j ∈ us
  · rw [frOf, List.count_filter (by simpa using h), List.count_range]
    simp [h]
  · rw [if_neg (fun e => h e.2)]
    exact List.count_eq_zero.2 fun hm => h (mem_fr.1 hm).2
theorem fr_len {n : Nat} {us : List Nat} (h : Cn n us) : us.length + (frOf n us).length = n := by
  rw [← List.length_append]
  refine cnt_len fun j => ?_
  rw [List.count_append, fr_count]
  have q := h j
  by_cases hj : j ∈ us
  · have := List.count_pos_iff.2 hj
    rw [if_neg (fun e => e.2 hj)]
    by_cases h2 : j < n
    · rw [if_pos h2] at q ⊢; omega
    · rw [if_neg h2] at q ⊢; omega
  · rw [List.count_eq_zero.2 hj]
    by_cases h2 : j < n
    · rw [if_pos ⟨h2, hj⟩, if_pos h2]
    · rw [if_neg (fun e => h2 e.1), if_neg h2]
theorem fr_nodup (n : Nat) (us : List Nat) : (frOf n us).Nodup := List.Pairwise.filter _ List.nodup_range
theorem fr_ne {n : Nat} {us : List Nat} (h : Cn n us) (hl : us.length < n) : frOf n us ≠ [] := fun e => by
  have := fr_len h
  rw [e] at this
  simp at this
  omega
theorem pick_mem (g : Nat → Int × Int) {n : Nat} {us : List Nat} (h : Cn n us) (hl : us.length < n) : pick g n us ∈ frOf n us ∧ (pk g (frOf n us) (-1) 0 0).1 = (pick g n us : Int) := by
  obtain ⟨x, hx, e⟩ := pk_some g (fr_ne h hl)
  unfold pick
  rw [e, Int.toNat_natCast]
  exact ⟨hx, rfl⟩
theorem Cn.snoc {n : Nat} {us : List Nat} (h : Cn n us) {x : Nat} (hx : x ∈ frOf n us) : Cn n (us ++ [x]) := fun j => by
  have := h j
  obtain ⟨h1, h2⟩ := mem_fr.1 hx
  rw [List.count_append]
  by_cases e : x = j
  · subst e
    rw [List.count_eq_zero.2 h2, if_pos h1]; simp
  · have : List.count j [x] = 0 := List.count_eq_zero.2 (by simpa using fun e2 => e e2.symm)
    omega
theorem Cn.full {n : Nat} {us : List Nat} (h : Cn n us) (hl : us.length = n) (j : Nat) : us.count j = if j < n then 1 else 0 := by
  have h0 := fr_len h
  have e : frOf n us = [] := List.eq_nil_of_length_eq_zero (by omega)
  have h1 := fr_count n us j
  rw [e, List.count_nil] at h1
  have := h j
  by_cases hj : j < n
  · rw [if_pos hj] at this ⊢
    by_cases hm : j ∈ us
    · have := List.count_pos_iff.2 hm; omega
    · rw [if_pos ⟨hj, hm⟩] at h1; omega
  · rw [if_neg hj] at this ⊢; omega
theorem fr_snoc (n : Nat) (us : List Nat) (x : Nat) : frOf n (us ++ [x]) = (frOf n us).filter fun y => y != x := by
  unfold frOf
  rw [List.filter_filter]
  refine List.filter_congr fun y _ => ?_
  by_cases e : y = x
  · subst e; simp
  · by_cases h : y ∈ us
    · simp [h]
    · simp [h, e]
theorem erase_ne {l : List Nat} (h : l.Nodup) : ∀ (k : Nat) (x : Nat), l[k]? = some x → l.eraseIdx k = l.filter fun y => y != x := by
  induction l with
  | nil => intro k x hx; simp at hx
  | cons y l ih =>
    intro k x hx
    obtain ⟨h1, h2⟩ := List.nodup_cons.1 h
    cases k with
    | zero =>
      have e : y = x := by simpa using hx
      subst e
      simp only [List.eraseIdx_zero, List.tail_cons]
      rw [List.filter_cons_of_neg (by simp), List.filter_eq_self.2 fun z hz => by
        have : z ≠ y := fun e => h1 (e ▸ hz)
        simpa using this]
    | succ k =>
      have hx' : l[k]? = some x := by simpa using hx
      have : y ≠ x := fun e => h1 (e ▸ List.mem_of_getElem? hx')
      rw [List.eraseIdx_cons_succ, ih h2 k x hx', List.filter_cons_of_pos (by simpa using this)]
theorem plT_inv (c : Nat → Nat → Int) (n : Nat) (us : List Nat) : ∀ (k : Nat) (tb : List Nat), Cn n (us ++ tb) → (us ++ tb).length + k ≤ n → Cn n (us ++ plT c n us k tb) ∧ (plT c n us k tb).length = tb.length + k
  | 0, tb, h, _ => ⟨h, rfl⟩
  | k + 1, tb, h, hl => by
    have hp := (pick_mem (fun x => scr (c x) tb 0 0) h (by omega)).1
    have h2 := h.snoc hp
    rw [List.append_assoc] at h2
    have ih := plT_inv c n us k (tb ++ [pick (fun x => scr (c x) tb 0 0) n (us ++ tb)]) h2 (by simp at hl ⊢; omega)
    unfold plT
    refine ⟨ih.1, ?_⟩
    rw [ih.2]; simp; omega
theorem plE_inv (c : Nat → Nat → Int) (n : Nat) : ∀ (sz : List Nat) (ev : List (List Nat)), Cn n ev.flatten → ev.flatten.length + sz.sum ≤ n → Cn n (plE c n sz ev).flatten ∧ (plE c n sz ev).map List.length = ev.map List.length ++ sz
  | [], ev, h, _ => ⟨h, by simp [plE]⟩
  | k :: r, ev, h, hl => by
    rw [List.sum_cons] at hl
    obtain ⟨a, b⟩ := plT_inv c n ev.flatten k [] (by simpa using h) (by simp at hl ⊢; omega)
    have e : (ev ++ [plT c n ev.flatten k []]).flatten = ev.flatten ++ plT c n ev.flatten k [] := by simp
    have ih := plE_inv c n r (ev ++ [plT c n ev.flatten k []]) (by rw [e]; exact a) (by rw [e, List.length_append, b]; simp at hl ⊢; omega)
    unfold plE
    refine ⟨ih.1, ?_⟩
    rw [ih.2]
    simp [b]
theorem plE_evn (c : Nat → Nat → Int) {n : Nat} {sz : List Nat} (hs : sz.sum = n) (hp : ∀ k ∈ sz, 1 ≤ k) : Evn n sz (plE c n sz []) := by
  obtain ⟨a, b⟩ := plE_inv c n sz [] (fun j => by simp) (by simp; omega)
  have b : (plE c n sz []).map List.length = sz := by simpa using b
  refine ⟨b, fun t ht => ?_, fun j => a.full (by rw [List.length_flatten, b, hs]) j⟩
  have := hp t.length (by rw [← b]; exact List.mem_map.2 ⟨t, ht, rfl⟩)
  omega
theorem plS_inv {n : Nat} {sz : List Nat} (hs : sz.sum = n) (hp : ∀ k ∈ sz, 1 ≤ k) : ∀ (e : Nat) (s : List (List (List Nat))), (∀ ev ∈ s, Evn n sz ev) → (∀ ev ∈ plS n sz e s, Evn n sz ev) ∧ (plS n sz e s).length = s.length + e
  | 0, s, h => ⟨h, rfl⟩
  | e + 1, s, h => by
    have ih := plS_inv hs hp e (s ++ [plE (metI s) n sz []]) fun ev he => by
      rcases List.mem_append.1 he with he | he
      · exact h ev he
      · rw [List.mem_singleton.1 he]; exact plE_evn _ hs hp
    unfold plS
    refine ⟨ih.1, ?_⟩
    rw [ih.2]; simp; omega
theorem Evn.v {n : Nat} {sz : List Nat} {ev : List (List Nat)} (h : Evn n sz ev) : EvV n ev := by
  have := h.sz_
  subst this
  exact h
end Go.Proofs.YtcmgmkepodbpkaaDoor
