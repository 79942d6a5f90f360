/- Lemmas for the proof. -/
import Derived.Test.YtnmkejapogklmaaDoorEveningMeetsM1
import Derived.Test.YtnmkejapogklmaaDoorEveningMeetsM2
import Derived.Test.YtnmkejapogklmaaDoorEveningMeetsM3
import Derived.Test.YtnmkejapogklmaaDoorEveningMeetsM4
import Derived.Test.YtnmkejapogklmaaDoorEveningMeetsM5
namespace Go.Proofs.YtnmkejapogklmaaDoor
open Go.RowKit
/- trestle/trestleref09.Meet -/
noncomputable def e_ref09_Meet : Env := (E0.withX 22 t_ref09_Together)
theorem e_ref09_Meet_ok : EnvOk e_ref09_Meet := (EnvOk.withX E0_ok x_ref09_Together.1 x_ref09_Together.2)
noncomputable def cb_ref09_Meet : Code := codeOf Tryd.f21
def ref09_Meet_j3 (x0 : Int) (x1 : (List (List (List Int)))) (c1 : (List (List Int))) (c2 : Int) (c4 : (List Int)) (c5 : Int) : Option ((Int)) :=
  if (c2 != c5) = true then
  (ref09_Together x1 c2 c5).bind fun v8 =>
  some (v8.length : Int)
  else
  some 0
def ref09_Meet_2 (x0 : Int) (x1 : (List (List (List Int)))) (c1 : (List (List Int))) (c2 : Int) : Nat → (List Int) → Int → Option (((List Int)))
  | 0, _, _ => none
  | f + 1, c4, c5 =>
    if (decide (c5 < x0)) = true then
    (ref09_Meet_j3 x0 x1 c1 c2 c4 c5).bind fun r10 =>
    if (capOk 8 (c4.length + 1)) = true then
    ref09_Meet_2 x0 x1 c1 c2 f (c4 ++ [r10]) (wr .i64 (c5 + 1))
    else none
    else
    some c4
def ref09_Meet_1 (x0 : Int) (x1 : (List (List (List Int)))) : Nat → (List (List Int)) → Int → Option (((List (List Int))))
  | 0, _, _ => none
  | f + 1, c1, c2 =>
    if (decide (c2 < x0)) = true then
    (ref09_Meet_2 x0 x1 c1 c2 100000 [] 0).bind fun r13 =>
    if (capOk 24 (c1.length + 1)) = true then
    ref09_Meet_1 x0 x1 f (c1 ++ [r13]) (wr .i64 (c2 + 1))
    else none
    else
    some c1
def ref09_Meet (x0 : Int) (x1 : (List (List (List Int)))) : Option ((List (List Int))) :=
  (ref09_Meet_1 x0 x1 100000 [] 0).bind fun r16 =>
  some r16
def cs_ref09_Meet : Cs (Int × (List (List (List Int))) × Unit) := (csC cdI (csC (cdL 1 (cdL 1 (cdL 1 cdI))) csN))
def er_ref09_Meet (r : (List (List Int))) : AV := (cdL 1 (cdL 1 cdI)).enc r
set_option maxHeartbeats 4000000 in
set_option maxRecDepth 100000 in
theorem ref09_Meet_j3_ok (x0 : Int) (x1 : (List (List (List Int)))) (c1 : (List (List Int))) (c2 : Int) (c4 : (List Int)) (c5 : Int) (r : (Int)) (h : ref09_Meet_j3 x0 x1 c1 c2 c4 c5 = some r) : Sem e_ref09_Meet ⟨none, false⟩ (pc cb_ref09_Meet [1, 1, 0, 1, 0, 0, 1, 0, 0, 1, 0, 1, 0, 0, 1, 0, 0, 1, 0, 1]) ⟨Fr 37 [(0, .v (.int .i64 x0)), (1, .sl 1 (x1.map (cdL 1 (cdL 1 cdI)).enc)), (5, hd 0 (c1.map (cdL 1 cdI).enc)), (6, .v (.int .i64 c2)), (7, hd 1 (c4.map cdI.enc)), (8, .v (.int .i64 c5)), (9, .v (.int .i64 0)), (22, .v (.bool (c2 != c5)))], [mk 1 29 (c1.map (cdL 1 cdI).enc), mk 1 3 (c4.map cdI.enc)]⟩ (fun e s => e = .normal ∧ Wk e_ref09_Meet s ⟨Fr 37 [(0, .v (.int .i64 x0)), (1, .sl 1 (x1.map (cdL 1 (cdL 1 cdI)).enc)), (5, hd 0 (c1.map (cdL 1 cdI).enc)), (6, .v (.int .i64 c2)), (7, hd 1 (c4.map cdI.enc)), (8, .v (.int .i64 c5)), (9, .v (.int .i64 r))], [mk 1 29 (c1.map (cdL 1 cdI).enc), mk 1 3 (c4.map cdI.enc)]⟩) := by
  unfold ref09_Meet_j3 at h
  refine Sem.cond (b := (c2 != c5)) (by kernel_rfl) (fun hb7 => ?_) (fun hb7 => ?_)
  · rw [if_pos hb7] at h
    obtain ⟨v8, hv8, h⟩ := Option.bind_eq_some_iff.1 h
    refine Sem.runS (s1 := ⟨Fr 37 [(0, .v (.int .i64 x0)), (1, .sl 1 (x1.map (cdL 1 (cdL 1 cdI)).enc)), (5, hd 0 (c1.map (cdL 1 cdI).enc)), (6, .v (.int .i64 c2)), (7, hd 1 (c4.map cdI.enc)), (8, .v (.int .i64 c5)), (9, .v (.int .i64 (v8.length : Int)))], [mk 1 29 (c1.map (cdL 1 cdI).enc), mk 1 3 (c4.map cdI.enc)]⟩) ?_ ?_
    · refine RunS.segF (n := 37) e_ref09_Meet_ok 3 [(0, .v (.int .i64 x0)), (1, .sl 1 (x1.map (cdL 1 (cdL 1 cdI)).enc)), (5, hd 0 (c1.map (cdL 1 cdI).enc)), (6, .v (.int .i64 c2)), (7, hd 1 (c4.map cdI.enc)), (8, .v (.int .i64 c5)), (23, .sl 1 (x1.map (cdL 1 (cdL 1 cdI)).enc)), (24, .v (.int .i64 c2)), (25, .v (.int .i64 c5))] [mk 1 29 (c1.map (cdL 1 cdI).enc), mk 1 3 (c4.map cdI.enc)] (by kernel_rfl) ?_
      refine RunS.call e_ref09_Meet_ok (fid := 22) (s := cs_ref09_Together) (F := fun a => ref09_Together a.1 a.2.1 a.2.2.1) (er := er_ref09_Together) (xs := [.sl 1 (x1.map (cdL 1 (cdL 1 cdI)).enc), .v (.int .i64 c2), .v (.int .i64 c5)]) (a := (x1, c2, c5, ())) rfl (wantedA_none rfl) (by kernel_rfl) (by kernel_rfl) (by kernel_rfl) (by kernel_rfl) (Sns.cons (Sn.enc (c := (cdL 1 (cdL 1 (cdL 1 cdI)))) (v := x1)) (Sns.cons (Sn.enc (c := cdI) (v := c2)) (Sns.cons (Sn.enc (c := cdI) (v := c5)) Sns.nil))) (.inl (by kernel_rfl)) hv8 ?_
      refine RunS.one e_ref09_Meet_ok 0 rfl (op_q (wantedA_none rfl) rfl (q_len (a := .sl 1 (v8.map cdI.enc)) (by kernel_rfl) (len_sl (el := 3) (by kernel_rfl)))) ?_
      refine RunS.segF (n := 37) e_ref09_Meet_ok 1 [(0, .v (.int .i64 x0)), (1, .sl 1 (x1.map (cdL 1 (cdL 1 cdI)).enc)), (5, hd 0 (c1.map (cdL 1 cdI).enc)), (6, .v (.int .i64 c2)), (7, hd 1 (c4.map cdI.enc)), (8, .v (.int .i64 c5)), (9, .v (.int .i64 (v8.length : Int)))] [mk 1 29 (c1.map (cdL 1 cdI).enc), mk 1 3 (c4.map cdI.enc)] (by kernel_rfl) ?_
      exact RunS.done rfl (Wk.s3 [0, 1] ⟨⟨_, rfl, bu_mk⟩, ⟨_, rfl, bu_mk⟩, trivial⟩ ⟨lv, lv, lu_hd (b' := 0) (by kernel_rfl) (by kernel_rfl), lv, lu_hd (b' := 1) (by kernel_rfl) (by kernel_rfl), lv, lv, trivial⟩)
    have hq := Option.some.inj h; subst hq
    exact ⟨rfl, (Wk.s3 [0, 1] ⟨⟨_, rfl, bu_mk⟩, ⟨_, rfl, bu_mk⟩, trivial⟩ ⟨lv, lv, lu_hd (b' := 0) (by kernel_rfl) (by kernel_rfl), lv, lu_hd (b' := 1) (by kernel_rfl) (by kernel_rfl), lv, lv, trivial⟩)⟩
  · rw [if_f hb7] at h
    refine Sem.skip ?_
    have hq := Option.some.inj h; subst hq
    exact ⟨rfl, (Wk.s3 [0, 1] ⟨⟨_, rfl, bu_mk⟩, ⟨_, rfl, bu_mk⟩, trivial⟩ ⟨lv, lv, lu_hd (b' := 0) (by kernel_rfl) (by kernel_rfl), lv, lu_hd (b' := 1) (by kernel_rfl) (by kernel_rfl), lv, lv, trivial⟩)⟩
set_option maxHeartbeats 4000000 in
set_option maxRecDepth 100000 in
theorem ref09_Meet_2_ok (x0 : Int) (x1 : (List (List (List Int)))) (c1 : (List (List Int))) (c2 : Int) : ∀ (f : Nat) (c4 : (List Int)) (c5 : Int) (r : ((List Int))), ref09_Meet_2 x0 x1 c1 c2 f c4 c5 = some r → SemN e_ref09_Meet ⟨none, false⟩ (pc cb_ref09_Meet [1, 1, 0, 1, 0, 0, 1, 0, 0, 1, 0, 1, 0, 0]) f ⟨Fr 37 [(0, .v (.int .i64 x0)), (1, .sl 1 (x1.map (cdL 1 (cdL 1 cdI)).enc)), (5, hd 0 (c1.map (cdL 1 cdI).enc)), (6, .v (.int .i64 c2)), (7, hd 1 (c4.map cdI.enc)), (8, .v (.int .i64 c5))], [mk 1 29 (c1.map (cdL 1 cdI).enc), mk 1 3 (c4.map cdI.enc)]⟩ (fun e s => e = (.exit 2) ∧ Wk e_ref09_Meet s ⟨Fr 37 [(0, .v (.int .i64 x0)), (1, .sl 1 (x1.map (cdL 1 (cdL 1 cdI)).enc)), (5, hd 0 (c1.map (cdL 1 cdI).enc)), (6, .v (.int .i64 c2)), (7, hd 1 (r.map cdI.enc))], [mk 1 29 (c1.map (cdL 1 cdI).enc), mk 1 3 (r.map cdI.enc)]⟩) := by
  intro f
  induction f with
  | zero => intro c4 c5 r h; cases h
  | succ f ih0 =>
    intro c4 c5 r h
    have ih := fun (c4 : (List Int)) (c5 : Int) => ih0 c4 c5 r
    unfold ref09_Meet_2 at h
    refine SemN.succ ?_
    refine Sem.seq ?_
    refine Sem.seq ?_
    refine Sem.runS (s1 := ⟨Fr 37 [(0, .v (.int .i64 x0)), (1, .sl 1 (x1.map (cdL 1 (cdL 1 cdI)).enc)), (5, hd 0 (c1.map (cdL 1 cdI).enc)), (6, .v (.int .i64 c2)), (7, hd 1 (c4.map cdI.enc)), (8, .v (.int .i64 c5)), (17, .v (.bool (decide (c5 < x0))))], [mk 1 29 (c1.map (cdL 1 cdI).enc), mk 1 3 (c4.map cdI.enc)]⟩) ?_ ?_
    · refine RunS.segF (n := 37) e_ref09_Meet_ok 3 [(0, .v (.int .i64 x0)), (1, .sl 1 (x1.map (cdL 1 (cdL 1 cdI)).enc)), (5, hd 0 (c1.map (cdL 1 cdI).enc)), (6, .v (.int .i64 c2)), (7, hd 1 (c4.map cdI.enc)), (8, .v (.int .i64 c5)), (17, .v (.bool (decide (c5 < x0))))] [mk 1 29 (c1.map (cdL 1 cdI).enc), mk 1 3 (c4.map cdI.enc)] (by kernel_rfl) ?_
      exact RunS.done rfl (Wk.s3 [0, 1] ⟨⟨_, rfl, bu_mk⟩, ⟨_, rfl, bu_mk⟩, trivial⟩ ⟨lv, lv, lu_hd (b' := 0) (by kernel_rfl) (by kernel_rfl), lv, lu_hd (b' := 1) (by kernel_rfl) (by kernel_rfl), lv, lv, trivial⟩)
    refine Sem.cond (b := (decide (c5 < x0))) (by kernel_rfl) (fun hb6 => ?_) (fun hb6 => ?_)
    · rw [if_pos hb6] at h
      refine Sem.skip ?_
      refine Sem.seq ?_
      refine Sem.block ?_
      refine Sem.seq ?_
      refine Sem.runS (s1 := ⟨Fr 37 [(0, .v (.int .i64 x0)), (1, .sl 1 (x1.map (cdL 1 (cdL 1 cdI)).enc)), (5, hd 0 (c1.map (cdL 1 cdI).enc)), (6, .v (.int .i64 c2)), (7, hd 1 (c4.map cdI.enc)), (8, .v (.int .i64 c5)), (9, .v (.int .i64 0))], [mk 1 29 (c1.map (cdL 1 cdI).enc), mk 1 3 (c4.map cdI.enc)]⟩) ?_ ?_
      · refine RunS.segF (n := 37) e_ref09_Meet_ok 1 [(0, .v (.int .i64 x0)), (1, .sl 1 (x1.map (cdL 1 (cdL 1 cdI)).enc)), (5, hd 0 (c1.map (cdL 1 cdI).enc)), (6, .v (.int .i64 c2)), (7, hd 1 (c4.map cdI.enc)), (8, .v (.int .i64 c5)), (9, .v (.int .i64 0))] [mk 1 29 (c1.map (cdL 1 cdI).enc), mk 1 3 (c4.map cdI.enc)] (by kernel_rfl) ?_
        exact RunS.done rfl (Wk.s3 [0, 1] ⟨⟨_, rfl, bu_mk⟩, ⟨_, rfl, bu_mk⟩, trivial⟩ ⟨lv, lv, lu_hd (b' := 0) (by kernel_rfl) (by kernel_rfl), lv, lu_hd (b' := 1) (by kernel_rfl) (by kernel_rfl), lv, lv, trivial⟩)
      refine Sem.seq ?_
      refine Sem.seq ?_
      refine Sem.runS (s1 := ⟨Fr 37 [(0, .v (.int .i64 x0)), (1, .sl 1 (x1.map (cdL 1 (cdL 1 cdI)).enc)), (5, hd 0 (c1.map (cdL 1 cdI).enc)), (6, .v (.int .i64 c2)), (7, hd 1 (c4.map cdI.enc)), (8, .v (.int .i64 c5)), (9, .v (.int .i64 0)), (22, .v (.bool (c2 != c5)))], [mk 1 29 (c1.map (cdL 1 cdI).enc), mk 1 3 (c4.map cdI.enc)]⟩) ?_ ?_
      · refine RunS.segF (n := 37) e_ref09_Meet_ok 3 [(0, .v (.int .i64 x0)), (1, .sl 1 (x1.map (cdL 1 (cdL 1 cdI)).enc)), (5, hd 0 (c1.map (cdL 1 cdI).enc)), (6, .v (.int .i64 c2)), (7, hd 1 (c4.map cdI.enc)), (8, .v (.int .i64 c5)), (9, .v (.int .i64 0)), (22, .v (.bool (c2 != c5)))] [mk 1 29 (c1.map (cdL 1 cdI).enc), mk 1 3 (c4.map cdI.enc)] (by kernel_rfl) ?_
        exact RunS.done rfl (Wk.s3 [0, 1] ⟨⟨_, rfl, bu_mk⟩, ⟨_, rfl, bu_mk⟩, trivial⟩ ⟨lv, lv, lu_hd (b' := 0) (by kernel_rfl) (by kernel_rfl), lv, lu_hd (b' := 1) (by kernel_rfl) (by kernel_rfl), lv, lv, lv, trivial⟩)
      obtain ⟨r10, hr10, h⟩ := Option.bind_eq_some_iff.1 h
      refine Sem.cut (ref09_Meet_j3_ok x0 x1 c1 c2 c4 c5 _ hr10) ?_
      by_cases hk11 : (capOk 8 (c4.length + 1)) = true
      case neg => rw [if_neg hk11] at h; cases h
      rw [if_pos hk11] at h
      refine Sem.runS (s1 := ⟨Fr 37 [(0, .v (.int .i64 x0)), (1, .sl 1 (x1.map (cdL 1 (cdL 1 cdI)).enc)), (5, hd 0 (c1.map (cdL 1 cdI).enc)), (6, .v (.int .i64 c2)), (7, hd 1 ((c4 ++ [r10]).map cdI.enc)), (8, .v (.int .i64 c5))], [mk 1 29 (c1.map (cdL 1 cdI).enc), mk 1 3 ((c4 ++ [r10]).map cdI.enc)]⟩) ?_ ?_
      · refine RunS.segF (n := 37) e_ref09_Meet_ok 3 [(0, .v (.int .i64 x0)), (1, .sl 1 (x1.map (cdL 1 (cdL 1 cdI)).enc)), (5, hd 0 (c1.map (cdL 1 cdI).enc)), (6, .v (.int .i64 c2)), (8, .v (.int .i64 c5)), (28, hd 1 (c4.map cdI.enc)), (30, hd 2 ([r10].map cdI.enc))] [mk 1 29 (c1.map (cdL 1 cdI).enc), mk 1 3 (c4.map cdI.enc), mk 1 3 ([r10].map cdI.enc)] (by kernel_rfl) ?_
        refine RunS.one e_ref09_Meet_ok 0 rfl (op_w (wantedA_none rfl) rfl (by kernel_rfl) (by kernel_rfl) (w_append (a := hd 1 (c4.map cdI.enc)) (b := hd 2 ([r10].map cdI.enc)) (by kernel_rfl) (by kernel_rfl) (append_B (c := cdI) (xs := c4) (vs := [r10]) (k := 1) (bytes := 8) (el := 3) (by kernel_rfl) (by kernel_rfl) (elems_hd (t := 3) (by kernel_rfl)) (List.cons_ne_nil _ _) (by kernel_rfl) hk11))) ?_
        refine RunS.segF (n := 37) e_ref09_Meet_ok 1 [(0, .v (.int .i64 x0)), (1, .sl 1 (x1.map (cdL 1 (cdL 1 cdI)).enc)), (5, hd 0 (c1.map (cdL 1 cdI).enc)), (6, .v (.int .i64 c2)), (7, hd 3 ((c4 ++ [r10]).map cdI.enc)), (8, .v (.int .i64 c5))] [mk 1 29 (c1.map (cdL 1 cdI).enc), none, mk 1 3 ([r10].map cdI.enc), mk 1 3 ((c4 ++ [r10]).map cdI.enc)] (by kernel_rfl) ?_
        exact RunS.done rfl (Wk.s3 [0, 3] ⟨⟨_, rfl, bu_mk⟩, ⟨_, rfl, bu_mk⟩, trivial⟩ ⟨lv, lv, lu_hd (b' := 0) (by kernel_rfl) (by kernel_rfl), lv, lu_hd (b' := 3) (by kernel_rfl) (by kernel_rfl), lv, trivial⟩)
      refine Sem.runS (s1 := ⟨Fr 37 [(0, .v (.int .i64 x0)), (1, .sl 1 (x1.map (cdL 1 (cdL 1 cdI)).enc)), (5, hd 0 (c1.map (cdL 1 cdI).enc)), (6, .v (.int .i64 c2)), (7, hd 1 ((c4 ++ [r10]).map cdI.enc)), (8, .v (.int .i64 (wr .i64 (c5 + 1))))], [mk 1 29 (c1.map (cdL 1 cdI).enc), mk 1 3 ((c4 ++ [r10]).map cdI.enc)]⟩) ?_ ?_
      · refine RunS.segF (n := 37) e_ref09_Meet_ok 3 [(0, .v (.int .i64 x0)), (1, .sl 1 (x1.map (cdL 1 (cdL 1 cdI)).enc)), (5, hd 0 (c1.map (cdL 1 cdI).enc)), (6, .v (.int .i64 c2)), (7, hd 1 ((c4 ++ [r10]).map cdI.enc)), (8, .v (.int .i64 (wr .i64 (c5 + 1))))] [mk 1 29 (c1.map (cdL 1 cdI).enc), mk 1 3 ((c4 ++ [r10]).map cdI.enc)] (by kernel_rfl) ?_
        exact RunS.done rfl (Wk.s3 [0, 1] ⟨⟨_, rfl, bu_mk⟩, ⟨_, rfl, bu_mk⟩, trivial⟩ ⟨lv, lv, lu_hd (b' := 0) (by kernel_rfl) (by kernel_rfl), lv, lu_hd (b' := 1) (by kernel_rfl) (by kernel_rfl), lv, trivial⟩)
      exact SemN.wk (s1 := ⟨Fr 37 [(0, .v (.int .i64 x0)), (1, .sl 1 (x1.map (cdL 1 (cdL 1 cdI)).enc)), (5, hd 0 (c1.map (cdL 1 cdI).enc)), (6, .v (.int .i64 c2)), (7, hd 1 ((c4 ++ [r10]).map cdI.enc)), (8, .v (.int .i64 (wr .i64 (c5 + 1))))], [mk 1 29 (c1.map (cdL 1 cdI).enc), mk 1 3 ((c4 ++ [r10]).map cdI.enc)]⟩) (Wk.s3 [0, 1] ⟨⟨_, rfl, bu_mk⟩, ⟨_, rfl, bu_mk⟩, trivial⟩ ⟨lv, lv, lu_hd (b' := 0) (by kernel_rfl) (by kernel_rfl), lv, lu_hd (b' := 1) (by kernel_rfl) (by kernel_rfl), lv, trivial⟩) (ih (c4 ++ [r10]) (wr .i64 (c5 + 1)) h)
    · rw [if_f hb6] at h
      refine Sem.exit ?_
      have hq := Option.some.inj h; subst hq
      exact ⟨rfl, (Wk.s3 [0, 1] ⟨⟨_, rfl, bu_mk⟩, ⟨_, rfl, bu_mk⟩, trivial⟩ ⟨lv, lv, lu_hd (b' := 0) (by kernel_rfl) (by kernel_rfl), lv, lu_hd (b' := 1) (by kernel_rfl) (by kernel_rfl), trivial⟩)⟩
set_option maxHeartbeats 4000000 in
set_option maxRecDepth 100000 in
theorem ref09_Meet_1_ok (x0 : Int) (x1 : (List (List (List Int)))) : ∀ (f : Nat) (c1 : (List (List Int))) (c2 : Int) (r : ((List (List Int)))), ref09_Meet_1 x0 x1 f c1 c2 = some r → SemN e_ref09_Meet ⟨none, false⟩ (pc cb_ref09_Meet [1, 1, 0, 1, 0, 0]) f ⟨Fr 37 [(0, .v (.int .i64 x0)), (1, .sl 1 (x1.map (cdL 1 (cdL 1 cdI)).enc)), (5, hd 0 (c1.map (cdL 1 cdI).enc)), (6, .v (.int .i64 c2))], [mk 1 29 (c1.map (cdL 1 cdI).enc)]⟩ (fun e s => e = (.exit 0) ∧ Wk e_ref09_Meet s ⟨Fr 37 [(5, hd 0 (r.map (cdL 1 cdI).enc))], [mk 1 29 (r.map (cdL 1 cdI).enc)]⟩) := by
  intro f
  induction f with
  | zero => intro c1 c2 r h; cases h
  | succ f ih0 =>
    intro c1 c2 r h
    have ih := fun (c1 : (List (List Int))) (c2 : Int) => ih0 c1 c2 r
    unfold ref09_Meet_1 at h
    refine SemN.succ ?_
    refine Sem.seq ?_
    refine Sem.seq ?_
    refine Sem.runS (s1 := ⟨Fr 37 [(0, .v (.int .i64 x0)), (1, .sl 1 (x1.map (cdL 1 (cdL 1 cdI)).enc)), (5, hd 0 (c1.map (cdL 1 cdI).enc)), (6, .v (.int .i64 c2)), (12, .v (.bool (decide (c2 < x0))))], [mk 1 29 (c1.map (cdL 1 cdI).enc)]⟩) ?_ ?_
    · refine RunS.segF (n := 37) e_ref09_Meet_ok 3 [(0, .v (.int .i64 x0)), (1, .sl 1 (x1.map (cdL 1 (cdL 1 cdI)).enc)), (5, hd 0 (c1.map (cdL 1 cdI).enc)), (6, .v (.int .i64 c2)), (12, .v (.bool (decide (c2 < x0))))] [mk 1 29 (c1.map (cdL 1 cdI).enc)] (by kernel_rfl) ?_
      exact RunS.done rfl (Wk.s3 [0] ⟨⟨_, rfl, bu_mk⟩, trivial⟩ ⟨lv, lv, lu_hd (b' := 0) (by kernel_rfl) (by kernel_rfl), lv, lv, trivial⟩)
    refine Sem.cond (b := (decide (c2 < x0))) (by kernel_rfl) (fun hb3 => ?_) (fun hb3 => ?_)
    · rw [if_pos hb3] at h
      refine Sem.skip ?_
      refine Sem.seq ?_
      refine Sem.block ?_
      refine Sem.seq ?_
      refine Sem.runS (s1 := ⟨Fr 37 [(0, .v (.int .i64 x0)), (1, .sl 1 (x1.map (cdL 1 (cdL 1 cdI)).enc)), (5, hd 0 (c1.map (cdL 1 cdI).enc)), (6, .v (.int .i64 c2)), (7, .e0)], [mk 1 29 (c1.map (cdL 1 cdI).enc)]⟩) ?_ ?_
      · refine RunS.segF (n := 37) e_ref09_Meet_ok 1 [(0, .v (.int .i64 x0)), (1, .sl 1 (x1.map (cdL 1 (cdL 1 cdI)).enc)), (5, hd 0 (c1.map (cdL 1 cdI).enc)), (6, .v (.int .i64 c2)), (7, .e0)] [mk 1 29 (c1.map (cdL 1 cdI).enc)] (by kernel_rfl) ?_
        exact RunS.done rfl (Wk.s3 [0] ⟨⟨_, rfl, bu_mk⟩, trivial⟩ ⟨lv, lv, lu_hd (b' := 0) (by kernel_rfl) (by kernel_rfl), lv, lv, trivial⟩)
      refine Sem.seq ?_
      refine Sem.seq ?_
      refine Sem.runS (s1 := ⟨Fr 37 [(0, .v (.int .i64 x0)), (1, .sl 1 (x1.map (cdL 1 (cdL 1 cdI)).enc)), (5, hd 0 (c1.map (cdL 1 cdI).enc)), (6, .v (.int .i64 c2)), (7, .e0), (8, .v (.int .i64 0))], [mk 1 29 (c1.map (cdL 1 cdI).enc)]⟩) ?_ ?_
      · refine RunS.segF (n := 37) e_ref09_Meet_ok 1 [(0, .v (.int .i64 x0)), (1, .sl 1 (x1.map (cdL 1 (cdL 1 cdI)).enc)), (5, hd 0 (c1.map (cdL 1 cdI).enc)), (6, .v (.int .i64 c2)), (7, .e0), (8, .v (.int .i64 0))] [mk 1 29 (c1.map (cdL 1 cdI).enc)] (by kernel_rfl) ?_
        exact RunS.done rfl (Wk.s3 [0] ⟨⟨_, rfl, bu_mk⟩, trivial⟩ ⟨lv, lv, lu_hd (b' := 0) (by kernel_rfl) (by kernel_rfl), lv, lv, lv, trivial⟩)
      refine Sem.block ?_
      obtain ⟨r13, hr13, h⟩ := Option.bind_eq_some_iff.1 h
      refine Sem.loop (n := 100000) ?_
      refine Sem.cutN (SemN.wk (s1 := ⟨Fr 37 [(0, .v (.int .i64 x0)), (1, .sl 1 (x1.map (cdL 1 (cdL 1 cdI)).enc)), (5, hd 0 (c1.map (cdL 1 cdI).enc)), (6, .v (.int .i64 c2)), (7, hd 1 ([].map cdI.enc)), (8, .v (.int .i64 0))], [mk 1 29 (c1.map (cdL 1 cdI).enc), mk 1 3 ([].map cdI.enc)]⟩) (Wk.trans (s1 := ⟨Fr 37 [(0, .v (.int .i64 x0)), (1, .sl 1 (x1.map (cdL 1 (cdL 1 cdI)).enc)), (5, hd 0 (c1.map (cdL 1 cdI).enc)), (6, .v (.int .i64 c2)), (7, hd 1 ([].map cdI.enc)), (8, .v (.int .i64 0))], [mk 1 29 (c1.map (cdL 1 cdI).enc), mk 1 3 ([].map cdI.enc)]⟩) Wk.none (Wk.s3 [0, 1] ⟨⟨_, rfl, bu_mk⟩, ⟨_, rfl, bu_none⟩, trivial⟩ ⟨lv, lv, lu_hd (b' := 0) (by kernel_rfl) (by kernel_rfl), lv, lv, lv, trivial⟩)) (ref09_Meet_2_ok x0 x1 c1 c2 _ [] 0 _ hr13)) ?_
      by_cases hk14 : (capOk 24 (c1.length + 1)) = true
      case neg => rw [if_neg hk14] at h; cases h
      rw [if_pos hk14] at h
      refine Sem.runS (s1 := ⟨Fr 37 [(0, .v (.int .i64 x0)), (1, .sl 1 (x1.map (cdL 1 (cdL 1 cdI)).enc)), (5, hd 0 ((c1 ++ [r13]).map (cdL 1 cdI).enc)), (6, .v (.int .i64 c2))], [mk 1 29 ((c1 ++ [r13]).map (cdL 1 cdI).enc)]⟩) ?_ ?_
      · refine RunS.segF (n := 37) e_ref09_Meet_ok 2 [(0, .v (.int .i64 x0)), (1, .sl 1 (x1.map (cdL 1 (cdL 1 cdI)).enc)), (6, .v (.int .i64 c2)), (32, hd 0 (c1.map (cdL 1 cdI).enc)), (33, hd 1 (r13.map cdI.enc))] [mk 1 29 (c1.map (cdL 1 cdI).enc), mk 1 3 (r13.map cdI.enc)] (by kernel_rfl) ?_
        refine RunS.wk (s1 := ⟨Fr 37 [(0, .v (.int .i64 x0)), (1, .sl 1 (x1.map (cdL 1 (cdL 1 cdI)).enc)), (6, .v (.int .i64 c2)), (32, hd 0 (c1.map (cdL 1 cdI).enc)), (33, .sl 1 (r13.map cdI.enc))], [mk 1 29 (c1.map (cdL 1 cdI).enc), none]⟩) (Wk.frzG 1 (.inl (by kernel_rfl)) ⟨.inr (.inl rfl), .inl rfl, trivial⟩ ⟨⟨.v (.int .i64 x0), (by kernel_rfl), .inl rfl⟩, ⟨.sl 1 (x1.map (cdL 1 (cdL 1 cdI)).enc), (by kernel_rfl), .inl rfl⟩, ⟨.v (.int .i64 c2), (by kernel_rfl), .inl rfl⟩, ⟨hd 0 (c1.map (cdL 1 cdI).enc), (by kernel_rfl), .inl rfl⟩, ⟨hd 1 (r13.map cdI.enc), (by kernel_rfl), fz_hd (t := 3) (by kernel_rfl) enc_ok⟩, trivial⟩) ?_
        refine RunS.segF (n := 37) e_ref09_Meet_ok 1 [(0, .v (.int .i64 x0)), (1, .sl 1 (x1.map (cdL 1 (cdL 1 cdI)).enc)), (6, .v (.int .i64 c2)), (32, hd 0 (c1.map (cdL 1 cdI).enc)), (34, hd 2 ([r13].map (cdL 1 cdI).enc))] [mk 1 29 (c1.map (cdL 1 cdI).enc), none, mk 1 29 ([r13].map (cdL 1 cdI).enc)] (by kernel_rfl) ?_
        refine RunS.one e_ref09_Meet_ok 0 rfl (op_w (wantedA_none rfl) rfl (by kernel_rfl) (by kernel_rfl) (w_append (a := hd 0 (c1.map (cdL 1 cdI).enc)) (b := hd 2 ([r13].map (cdL 1 cdI).enc)) (by kernel_rfl) (by kernel_rfl) (append_B (c := (cdL 1 cdI)) (xs := c1) (vs := [r13]) (k := 1) (bytes := 24) (el := 29) (by kernel_rfl) (by kernel_rfl) (elems_hd (t := 29) (by kernel_rfl)) (List.cons_ne_nil _ _) (by kernel_rfl) hk14))) ?_
        refine RunS.segF (n := 37) e_ref09_Meet_ok 1 [(0, .v (.int .i64 x0)), (1, .sl 1 (x1.map (cdL 1 (cdL 1 cdI)).enc)), (5, hd 3 ((c1 ++ [r13]).map (cdL 1 cdI).enc)), (6, .v (.int .i64 c2))] [none, none, mk 1 29 ([r13].map (cdL 1 cdI).enc), mk 1 29 ((c1 ++ [r13]).map (cdL 1 cdI).enc)] (by kernel_rfl) ?_
        exact RunS.done rfl (Wk.s3 [3] ⟨⟨_, rfl, bu_mk⟩, trivial⟩ ⟨lv, lv, lu_hd (b' := 3) (by kernel_rfl) (by kernel_rfl), lv, trivial⟩)
      refine Sem.runS (s1 := ⟨Fr 37 [(0, .v (.int .i64 x0)), (1, .sl 1 (x1.map (cdL 1 (cdL 1 cdI)).enc)), (5, hd 0 ((c1 ++ [r13]).map (cdL 1 cdI).enc)), (6, .v (.int .i64 (wr .i64 (c2 + 1))))], [mk 1 29 ((c1 ++ [r13]).map (cdL 1 cdI).enc)]⟩) ?_ ?_
      · refine RunS.segF (n := 37) e_ref09_Meet_ok 3 [(0, .v (.int .i64 x0)), (1, .sl 1 (x1.map (cdL 1 (cdL 1 cdI)).enc)), (5, hd 0 ((c1 ++ [r13]).map (cdL 1 cdI).enc)), (6, .v (.int .i64 (wr .i64 (c2 + 1))))] [mk 1 29 ((c1 ++ [r13]).map (cdL 1 cdI).enc)] (by kernel_rfl) ?_
        exact RunS.done rfl (Wk.s3 [0] ⟨⟨_, rfl, bu_mk⟩, trivial⟩ ⟨lv, lv, lu_hd (b' := 0) (by kernel_rfl) (by kernel_rfl), lv, trivial⟩)
      exact SemN.wk (s1 := ⟨Fr 37 [(0, .v (.int .i64 x0)), (1, .sl 1 (x1.map (cdL 1 (cdL 1 cdI)).enc)), (5, hd 0 ((c1 ++ [r13]).map (cdL 1 cdI).enc)), (6, .v (.int .i64 (wr .i64 (c2 + 1))))], [mk 1 29 ((c1 ++ [r13]).map (cdL 1 cdI).enc)]⟩) (Wk.s3 [0] ⟨⟨_, rfl, bu_mk⟩, trivial⟩ ⟨lv, lv, lu_hd (b' := 0) (by kernel_rfl) (by kernel_rfl), lv, trivial⟩) (ih (c1 ++ [r13]) (wr .i64 (c2 + 1)) h)
    · rw [if_f hb3] at h
      refine Sem.exit ?_
      have hq := Option.some.inj h; subst hq
      exact ⟨rfl, (Wk.s3 [0] ⟨⟨_, rfl, bu_mk⟩, trivial⟩ ⟨lu_hd (b' := 0) (by kernel_rfl) (by kernel_rfl), trivial⟩)⟩
set_option maxHeartbeats 4000000 in
set_option maxRecDepth 100000 in
theorem ref09_Meet_sem (x0 : Int) (x1 : (List (List (List Int)))) (r : (List (List Int))) (h : ref09_Meet x0 x1 = some r) : Sem e_ref09_Meet ⟨none, false⟩ cb_ref09_Meet ⟨Fr 37 (pairs0 0 (cs_ref09_Meet.enc (x0, x1, ()))), []⟩ fun e s' => (e = .normal ∨ e = .ret) ∧ ∃ xs, resA e_ref09_Meet.P s'.fr s'.hp Tryd.f21.results.toList = some xs ∧ retA xs = er_ref09_Meet r := by
  unfold ref09_Meet at h
  refine Sem.wkQ (Sem.wk (s1 := ⟨Fr 37 [(0, .v (.int .i64 x0)), (1, .sl 1 (x1.map (cdL 1 (cdL 1 cdI)).enc))], []⟩) Wk.f1 ?_)
  refine Sem.seq ?_
  refine Sem.runS (s1 := ⟨Fr 37 [(0, .v (.int .i64 x0)), (1, .sl 1 (x1.map (cdL 1 (cdL 1 cdI)).enc))], []⟩) ?_ ?_
  · refine RunS.segF (n := 37) e_ref09_Meet_ok 1 [(0, .v (.int .i64 x0)), (1, .sl 1 (x1.map (cdL 1 (cdL 1 cdI)).enc))] [] (by kernel_rfl) ?_
    exact RunS.done rfl Wk.f1
  refine Sem.seq ?_
  refine Sem.runS (s1 := ⟨Fr 37 [(0, .v (.int .i64 x0)), (1, .sl 1 (x1.map (cdL 1 (cdL 1 cdI)).enc)), (5, .e0)], []⟩) ?_ ?_
  · refine RunS.segF (n := 37) e_ref09_Meet_ok 1 [(0, .v (.int .i64 x0)), (1, .sl 1 (x1.map (cdL 1 (cdL 1 cdI)).enc)), (5, .e0)] [] (by kernel_rfl) ?_
    exact RunS.done rfl Wk.f1
  refine Sem.seq ?_
  refine Sem.seq ?_
  refine Sem.runS (s1 := ⟨Fr 37 [(0, .v (.int .i64 x0)), (1, .sl 1 (x1.map (cdL 1 (cdL 1 cdI)).enc)), (5, .e0), (6, .v (.int .i64 0))], []⟩) ?_ ?_
  · refine RunS.segF (n := 37) e_ref09_Meet_ok 1 [(0, .v (.int .i64 x0)), (1, .sl 1 (x1.map (cdL 1 (cdL 1 cdI)).enc)), (5, .e0), (6, .v (.int .i64 0))] [] (by kernel_rfl) ?_
    exact RunS.done rfl Wk.f1
  refine Sem.block ?_
  obtain ⟨r16, hr16, h⟩ := Option.bind_eq_some_iff.1 h
  refine Sem.loop (n := 100000) ?_
  refine Sem.cutN (SemN.wk (s1 := ⟨Fr 37 [(0, .v (.int .i64 x0)), (1, .sl 1 (x1.map (cdL 1 (cdL 1 cdI)).enc)), (5, hd 0 ([].map (cdL 1 cdI).enc)), (6, .v (.int .i64 0))], [mk 1 29 ([].map (cdL 1 cdI).enc)]⟩) (Wk.trans (s1 := ⟨Fr 37 [(0, .v (.int .i64 x0)), (1, .sl 1 (x1.map (cdL 1 (cdL 1 cdI)).enc)), (5, hd 0 ([].map (cdL 1 cdI).enc)), (6, .v (.int .i64 0))], [mk 1 29 ([].map (cdL 1 cdI).enc)]⟩) Wk.none (Wk.s3 [0] ⟨⟨_, rfl, bu_none⟩, trivial⟩ ⟨lv, lv, lv, lv, trivial⟩)) (ref09_Meet_1_ok x0 x1 _ [] 0 _ hr16)) ?_
  refine Sem.seq ?_
  refine Sem.runS (s1 := ⟨Fr 37 [(4, hd 0 (r16.map (cdL 1 cdI).enc))], [mk 1 29 (r16.map (cdL 1 cdI).enc)]⟩) ?_ ?_
  · refine RunS.segF (n := 37) e_ref09_Meet_ok 2 [(4, hd 0 (r16.map (cdL 1 cdI).enc))] [mk 1 29 (r16.map (cdL 1 cdI).enc)] (by kernel_rfl) ?_
    exact RunS.done rfl (Wk.s3 [0] ⟨⟨_, rfl, bu_mk⟩, trivial⟩ ⟨lu_hd (b' := 0) (by kernel_rfl) (by kernel_rfl), trivial⟩)
  refine Sem.ret ?_
  have hq := Option.some.inj h; subst hq
  exact ⟨⟨Fr 37 [(4, .sl 1 (r16.map (cdL 1 cdI).enc))], []⟩, (Wk.trans (s1 := ⟨Fr 37 [(4, .sl 1 (r16.map (cdL 1 cdI).enc))], [none]⟩) (Wk.frzG 0 (.inl (by kernel_rfl)) ⟨.inl rfl, trivial⟩ ⟨⟨hd 0 (r16.map (cdL 1 cdI).enc), (by kernel_rfl), fz_hd (t := 29) (by kernel_rfl) enc_ok⟩, trivial⟩) (Wk.s3 [] trivial ⟨lv, trivial⟩)), .inr rfl, [.sl 1 (r16.map (cdL 1 cdI).enc)], (by kernel_rfl), (by kernel_rfl)⟩
def t_ref09_Meet : List AV → Option AV := told cs_ref09_Meet (fun a => ref09_Meet a.1 a.2.1) er_ref09_Meet
theorem x_ref09_Meet : XOk 21 t_ref09_Meet := by
  refine EnvOk.x (E := e_ref09_Meet) (contract_ok e_ref09_Meet_ok (fn := Tryd.f21) (c := cb_ref09_Meet) ?h1 ?h2 ⟨Tryd.call21⟩ cs_ref09_Meet (fun a => ref09_Meet a.1 a.2.1) er_ref09_Meet (fun a => (by show 2 ≤ 37; decide)) ?h3 ?h4) rfl rfl
  case h1 => kernel_rfl
  case h2 => kernel_rfl
  case h3 => intro b; kernel_rfl
  case h4 => exact fun a b h => ref09_Meet_sem a.1 a.2.1 b h
/- trestle/trestleref09.next -/
noncomputable def e_ref09_next : Env := E0
theorem e_ref09_next_ok : EnvOk e_ref09_next := E0_ok
noncomputable def cb_ref09_next : Code := codeOf Tryd.f56
def ref09_next_j2 (x0 : (List Int)) (x1 : Int) (x2 : Int) (c1 : Int) : Option ((Int)) :=
  if ((wr .i64 (c1 + 1)) == (x0.length : Int)) = true then
  some 0
  else
  some (wr .i64 (c1 + 1))
def ref09_next_1 (x0 : (List Int)) (x1 : Int) (x2 : Int) : Nat → Int → Option ((Unit) ⊕ (Bool))
  | 0, _ => none
  | f + 1, c1 =>
    if (decide (c1 < (x0.length : Int))) = true then
    (ref09_next_j2 x0 x1 x2 c1).bind fun r5 =>
    (idx x0 c1).bind fun v6 =>
    (if (v6 == x1) = true then (idx x0 r5).bind fun v7 =>
    some (v7 == x2) else some false).bind fun j9 =>
    if j9 = true then
    some (.inr true)
    else
    ref09_next_1 x0 x1 x2 f (wr .i64 (c1 + 1))
    else
    some (.inl ())
def ref09_next (x0 : (List Int)) (x1 : Int) (x2 : Int) : Option (Bool) :=
  (ref09_next_1 x0 x1 x2 100000 0).bind fun r13 =>
  match r13 with
  | (.inl w14) =>
    some false
  | (.inr w15) =>
    some w15
def cs_ref09_next : Cs ((List Int) × Int × Int × Unit) := (csC (cdL 1 cdI) (csC cdI (csC cdI csN)))
def er_ref09_next (r : Bool) : AV := cdB.enc r
set_option maxHeartbeats 4000000 in
set_option maxRecDepth 100000 in
theorem ref09_next_j2_ok (x0 : (List Int)) (x1 : Int) (x2 : Int) (c1 : Int) (r : (Int)) (h : ref09_next_j2 x0 x1 x2 c1 = some r) : Sem e_ref09_next ⟨none, false⟩ (pc cb_ref09_next [1, 0, 1, 0, 0, 1, 0, 0, 1, 0, 1]) ⟨Fr 35 [(0, .sl 1 (x0.map cdI.enc)), (1, .v (.int .i64 x1)), (2, .v (.int .i64 x2)), (7, .v (.int .i64 c1)), (8, .v (.int .i64 (wr .i64 (c1 + 1)))), (20, .v (.bool ((wr .i64 (c1 + 1)) == (x0.length : Int))))], []⟩ (fun e s => e = .normal ∧ Wk e_ref09_next s ⟨Fr 35 [(0, .sl 1 (x0.map cdI.enc)), (1, .v (.int .i64 x1)), (2, .v (.int .i64 x2)), (7, .v (.int .i64 c1)), (8, .v (.int .i64 r))], []⟩) := by
  unfold ref09_next_j2 at h
  refine Sem.cond (b := ((wr .i64 (c1 + 1)) == (x0.length : Int))) (by kernel_rfl) (fun hb3 => ?_) (fun hb3 => ?_)
  · rw [if_pos hb3] at h
    refine Sem.runS (s1 := ⟨Fr 35 [(0, .sl 1 (x0.map cdI.enc)), (1, .v (.int .i64 x1)), (2, .v (.int .i64 x2)), (7, .v (.int .i64 c1)), (8, .v (.int .i64 0))], []⟩) ?_ ?_
    · refine RunS.segF (n := 35) e_ref09_next_ok 1 [(0, .sl 1 (x0.map cdI.enc)), (1, .v (.int .i64 x1)), (2, .v (.int .i64 x2)), (7, .v (.int .i64 c1)), (8, .v (.int .i64 0))] [] (by kernel_rfl) ?_
      exact RunS.done rfl Wk.f1
    have hq := Option.some.inj h; subst hq
    exact ⟨rfl, Wk.f1⟩
  · rw [if_f hb3] at h
    refine Sem.skip ?_
    have hq := Option.some.inj h; subst hq
    exact ⟨rfl, Wk.f1⟩
set_option maxHeartbeats 4000000 in
set_option maxRecDepth 100000 in
theorem ref09_next_1_ok (x0 : (List Int)) (x1 : Int) (x2 : Int) : ∀ (f : Nat) (c1 : Int) (r : (Unit) ⊕ (Bool)), ref09_next_1 x0 x1 x2 f c1 = some r → SemN e_ref09_next ⟨none, false⟩ (pc cb_ref09_next [1, 0, 1, 0, 0]) f ⟨Fr 35 [(0, .sl 1 (x0.map cdI.enc)), (1, .v (.int .i64 x1)), (2, .v (.int .i64 x2)), (7, .v (.int .i64 c1))], []⟩ (fun e s => match r with
  | (.inl w) => e = (.exit 0) ∧ Wk e_ref09_next s ⟨Fr 35 [], []⟩
  | (.inr w) => e = .ret ∧ Wk e_ref09_next s ⟨Fr 35 [(6, .v (.bool w))], []⟩) := by
  intro f
  induction f with
  | zero => intro c1 r h; cases h
  | succ f ih0 =>
    intro c1 r h
    have ih := fun (c1 : Int) => ih0 c1 r
    unfold ref09_next_1 at h
    refine SemN.succ ?_
    refine Sem.seq ?_
    refine Sem.seq ?_
    refine Sem.runS (s1 := ⟨Fr 35 [(0, .sl 1 (x0.map cdI.enc)), (1, .v (.int .i64 x1)), (2, .v (.int .i64 x2)), (7, .v (.int .i64 c1)), (12, .v (.bool (decide (c1 < (x0.length : Int)))))], []⟩) ?_ ?_
    · refine RunS.segF (n := 35) e_ref09_next_ok 2 [(0, .sl 1 (x0.map cdI.enc)), (1, .v (.int .i64 x1)), (2, .v (.int .i64 x2)), (7, .v (.int .i64 c1)), (9, .v (.int .i64 c1)), (10, .sl 1 (x0.map cdI.enc))] [] (by kernel_rfl) ?_
      refine RunS.one e_ref09_next_ok 0 rfl (op_q (wantedA_none rfl) rfl (q_len (a := .sl 1 (x0.map cdI.enc)) (by kernel_rfl) (len_sl (el := 3) (by kernel_rfl)))) ?_
      refine RunS.segF (n := 35) e_ref09_next_ok 1 [(0, .sl 1 (x0.map cdI.enc)), (1, .v (.int .i64 x1)), (2, .v (.int .i64 x2)), (7, .v (.int .i64 c1)), (12, .v (.bool (decide (c1 < (x0.length : Int)))))] [] (by kernel_rfl) ?_
      exact RunS.done rfl Wk.f1
    refine Sem.cond (b := (decide (c1 < (x0.length : Int)))) (by kernel_rfl) (fun hb2 => ?_) (fun hb2 => ?_)
    · rw [if_pos hb2] at h
      refine Sem.skip ?_
      refine Sem.seq ?_
      refine Sem.block ?_
      refine Sem.seq ?_
      refine Sem.runS (s1 := ⟨Fr 35 [(0, .sl 1 (x0.map cdI.enc)), (1, .v (.int .i64 x1)), (2, .v (.int .i64 x2)), (7, .v (.int .i64 c1)), (8, .v (.int .i64 (wr .i64 (c1 + 1))))], []⟩) ?_ ?_
      · refine RunS.segF (n := 35) e_ref09_next_ok 3 [(0, .sl 1 (x0.map cdI.enc)), (1, .v (.int .i64 x1)), (2, .v (.int .i64 x2)), (7, .v (.int .i64 c1)), (8, .v (.int .i64 (wr .i64 (c1 + 1))))] [] (by kernel_rfl) ?_
        exact RunS.done rfl Wk.f1
      refine Sem.seq ?_
      refine Sem.seq ?_
      refine Sem.runS (s1 := ⟨Fr 35 [(0, .sl 1 (x0.map cdI.enc)), (1, .v (.int .i64 x1)), (2, .v (.int .i64 x2)), (7, .v (.int .i64 c1)), (8, .v (.int .i64 (wr .i64 (c1 + 1)))), (20, .v (.bool ((wr .i64 (c1 + 1)) == (x0.length : Int))))], []⟩) ?_ ?_
      · refine RunS.segF (n := 35) e_ref09_next_ok 2 [(0, .sl 1 (x0.map cdI.enc)), (1, .v (.int .i64 x1)), (2, .v (.int .i64 x2)), (7, .v (.int .i64 c1)), (8, .v (.int .i64 (wr .i64 (c1 + 1)))), (17, .v (.int .i64 (wr .i64 (c1 + 1)))), (18, .sl 1 (x0.map cdI.enc))] [] (by kernel_rfl) ?_
        refine RunS.one e_ref09_next_ok 0 rfl (op_q (wantedA_none rfl) rfl (q_len (a := .sl 1 (x0.map cdI.enc)) (by kernel_rfl) (len_sl (el := 3) (by kernel_rfl)))) ?_
        refine RunS.segF (n := 35) e_ref09_next_ok 1 [(0, .sl 1 (x0.map cdI.enc)), (1, .v (.int .i64 x1)), (2, .v (.int .i64 x2)), (7, .v (.int .i64 c1)), (8, .v (.int .i64 (wr .i64 (c1 + 1)))), (20, .v (.bool ((wr .i64 (c1 + 1)) == (x0.length : Int))))] [] (by kernel_rfl) ?_
        exact RunS.done rfl Wk.f1
      obtain ⟨r5, hr5, h⟩ := Option.bind_eq_some_iff.1 h
      refine Sem.cut (ref09_next_j2_ok x0 x1 x2 c1 _ hr5) ?_
      refine Sem.seq ?_
      obtain ⟨v6, hv6, h⟩ := Option.bind_eq_some_iff.1 h
      obtain ⟨j9, hj9, h⟩ := Option.bind_eq_some_iff.1 h
      refine Sem.runS (s1 := ⟨Fr 35 [(0, .sl 1 (x0.map cdI.enc)), (1, .v (.int .i64 x1)), (2, .v (.int .i64 x2)), (7, .v (.int .i64 c1)), (34, .v (.bool j9))], []⟩) ?_ ?_
      · refine RunS.segF (n := 35) e_ref09_next_ok 2 [(0, .sl 1 (x0.map cdI.enc)), (1, .v (.int .i64 x1)), (2, .v (.int .i64 x2)), (7, .v (.int .i64 c1)), (8, .v (.int .i64 r5)), (21, .sl 1 (x0.map cdI.enc)), (22, .v (.int .i64 c1))] [] (by kernel_rfl) ?_
        refine RunS.one e_ref09_next_ok 0 rfl (op_q (wantedA_none rfl) rfl (q_indexAddr (a := .sl 1 (x0.map cdI.enc)) (b := .v (.int .i64 c1)) (by kernel_rfl) (by kernel_rfl) (ix_sl (e := cdI.enc) (el := 3) (k := 1) (ki := .i64) (by kernel_rfl) (by kernel_rfl) hv6))) ?_
        refine RunS.segF (n := 35) e_ref09_next_ok 4 [(0, .sl 1 (x0.map cdI.enc)), (1, .v (.int .i64 x1)), (2, .v (.int .i64 x2)), (7, .v (.int .i64 c1)), (8, .v (.int .i64 r5)), (27, .v (.bool (v6 == x1)))] [] (by kernel_rfl) ?_
        rcases Bool.eq_false_or_eq_true (v6 == x1) with hc12 | hc12
        · rw [if_pos hc12] at hj9
          rw [hc12]
          refine RunS.segF (n := 35) e_ref09_next_ok 2 [(0, .sl 1 (x0.map cdI.enc)), (1, .v (.int .i64 x1)), (2, .v (.int .i64 x2)), (7, .v (.int .i64 c1)), (27, .v (.bool true)), (28, .sl 1 (x0.map cdI.enc)), (29, .v (.int .i64 r5))] [] (by kernel_rfl) ?_
          obtain ⟨v7, hv7, hj9⟩ := Option.bind_eq_some_iff.1 hj9
          refine RunS.one e_ref09_next_ok 0 rfl (op_q (by kernel_rfl) rfl (q_indexAddr (a := .sl 1 (x0.map cdI.enc)) (b := .v (.int .i64 r5)) (by kernel_rfl) (by kernel_rfl) (ix_sl (e := cdI.enc) (el := 3) (k := 1) (ki := .i64) (by kernel_rfl) (by kernel_rfl) hv7))) ?_
          refine RunS.segF (n := 35) e_ref09_next_ok 4 [(0, .sl 1 (x0.map cdI.enc)), (1, .v (.int .i64 x1)), (2, .v (.int .i64 x2)), (7, .v (.int .i64 c1)), (28, .sl 1 (x0.map cdI.enc)), (29, .v (.int .i64 r5)), (30, .pe (.v (.int .i64 v7)) 0), (31, .v (.int .i64 v7)), (32, .v (.int .i64 x2)), (33, .v (.bool (v7 == x2))), (34, .v (.bool (v7 == x2)))] [] (by kernel_rfl) ?_
          have hq := Option.some.inj hj9; subst hq
          exact RunS.done rfl Wk.f1
        · rw [if_f hc12] at hj9
          rw [hc12]
          refine RunS.segF (n := 35) e_ref09_next_ok 7 [(0, .sl 1 (x0.map cdI.enc)), (1, .v (.int .i64 x1)), (2, .v (.int .i64 x2)), (7, .v (.int .i64 c1)), (28, .tp []), (29, .tp []), (30, .tp []), (31, .tp []), (32, .tp []), (33, .tp []), (34, .v (.bool false))] [] (by kernel_rfl) ?_
          have hq := Option.some.inj hj9; subst hq
          exact RunS.done rfl Wk.f1
      refine Sem.cond (b := j9) (by kernel_rfl) (fun hb10 => ?_) (fun hb10 => ?_)
      · rw [if_pos hb10] at h
        refine Sem.seq ?_
        refine Sem.runS (s1 := ⟨Fr 35 [(6, .v (.bool true))], []⟩) ?_ ?_
        · refine RunS.segF (n := 35) e_ref09_next_ok 1 [(6, .v (.bool true))] [] (by kernel_rfl) ?_
          exact RunS.done rfl Wk.f1
        refine Sem.ret ?_
        have hq := Option.some.inj h; subst hq
        exact ⟨rfl, Wk.f1⟩
      · rw [if_f hb10] at h
        refine Sem.skip ?_
        refine Sem.runS (s1 := ⟨Fr 35 [(0, .sl 1 (x0.map cdI.enc)), (1, .v (.int .i64 x1)), (2, .v (.int .i64 x2)), (7, .v (.int .i64 (wr .i64 (c1 + 1))))], []⟩) ?_ ?_
        · refine RunS.segF (n := 35) e_ref09_next_ok 3 [(0, .sl 1 (x0.map cdI.enc)), (1, .v (.int .i64 x1)), (2, .v (.int .i64 x2)), (7, .v (.int .i64 (wr .i64 (c1 + 1))))] [] (by kernel_rfl) ?_
          exact RunS.done rfl Wk.f1
        exact SemN.wk (s1 := ⟨Fr 35 [(0, .sl 1 (x0.map cdI.enc)), (1, .v (.int .i64 x1)), (2, .v (.int .i64 x2)), (7, .v (.int .i64 (wr .i64 (c1 + 1))))], []⟩) Wk.f1 (ih (wr .i64 (c1 + 1)) h)
    · rw [if_f hb2] at h
      refine Sem.exit ?_
      have hq := Option.some.inj h; subst hq
      exact ⟨rfl, Wk.f1⟩
set_option maxHeartbeats 4000000 in
set_option maxRecDepth 100000 in
theorem ref09_next_sem (x0 : (List Int)) (x1 : Int) (x2 : Int) (r : Bool) (h : ref09_next x0 x1 x2 = some r) : Sem e_ref09_next ⟨none, false⟩ cb_ref09_next ⟨Fr 35 (pairs0 0 (cs_ref09_next.enc (x0, x1, x2, ()))), []⟩ fun e s' => (e = .normal ∨ e = .ret) ∧ ∃ xs, resA e_ref09_next.P s'.fr s'.hp Tryd.f56.results.toList = some xs ∧ retA xs = er_ref09_next r := by
  unfold ref09_next at h
  refine Sem.wkQ (Sem.wk (s1 := ⟨Fr 35 [(0, .sl 1 (x0.map cdI.enc)), (1, .v (.int .i64 x1)), (2, .v (.int .i64 x2))], []⟩) Wk.f1 ?_)
  refine Sem.seq ?_
  refine Sem.runS (s1 := ⟨Fr 35 [(0, .sl 1 (x0.map cdI.enc)), (1, .v (.int .i64 x1)), (2, .v (.int .i64 x2))], []⟩) ?_ ?_
  · refine RunS.segF (n := 35) e_ref09_next_ok 1 [(0, .sl 1 (x0.map cdI.enc)), (1, .v (.int .i64 x1)), (2, .v (.int .i64 x2))] [] (by kernel_rfl) ?_
    exact RunS.done rfl Wk.f1
  refine Sem.seq ?_
  refine Sem.seq ?_
  refine Sem.runS (s1 := ⟨Fr 35 [(0, .sl 1 (x0.map cdI.enc)), (1, .v (.int .i64 x1)), (2, .v (.int .i64 x2)), (7, .v (.int .i64 0))], []⟩) ?_ ?_
  · refine RunS.segF (n := 35) e_ref09_next_ok 1 [(0, .sl 1 (x0.map cdI.enc)), (1, .v (.int .i64 x1)), (2, .v (.int .i64 x2)), (7, .v (.int .i64 0))] [] (by kernel_rfl) ?_
    exact RunS.done rfl Wk.f1
  refine Sem.block ?_
  obtain ⟨r13, hr13, h⟩ := Option.bind_eq_some_iff.1 h
  refine Sem.loop (n := 100000) ?_
  rcases r13 with w14 | w15
  · try dsimp only at h
    refine Sem.cutN (SemN.wk (s1 := ⟨Fr 35 [(0, .sl 1 (x0.map cdI.enc)), (1, .v (.int .i64 x1)), (2, .v (.int .i64 x2)), (7, .v (.int .i64 0))], []⟩) Wk.f1 (ref09_next_1_ok x0 x1 x2 _ 0 _ hr13)) ?_
    refine Sem.seq ?_
    refine Sem.runS (s1 := ⟨Fr 35 [(6, .v (.bool false))], []⟩) ?_ ?_
    · refine RunS.segF (n := 35) e_ref09_next_ok 1 [(6, .v (.bool false))] [] (by kernel_rfl) ?_
      exact RunS.done rfl Wk.f1
    refine Sem.ret ?_
    have hq := Option.some.inj h; subst hq
    exact ⟨⟨Fr 35 [(6, .v (.bool false))], []⟩, Wk.f1, .inr rfl, [.v (.bool false)], (by kernel_rfl), (by kernel_rfl)⟩
  · try dsimp only at h
    refine Sem.cutN (SemN.wk (s1 := ⟨Fr 35 [(0, .sl 1 (x0.map cdI.enc)), (1, .v (.int .i64 x1)), (2, .v (.int .i64 x2)), (7, .v (.int .i64 0))], []⟩) Wk.f1 (ref09_next_1_ok x0 x1 x2 _ 0 _ hr13)) ?_
    have hq := Option.some.inj h; subst hq
    exact ⟨⟨Fr 35 [(6, .v (.bool w15))], []⟩, Wk.f1, .inr rfl, [.v (.bool w15)], (by kernel_rfl), (by kernel_rfl)⟩
def t_ref09_next : List AV → Option AV := told cs_ref09_next (fun a => ref09_next a.1 a.2.1 a.2.2.1) er_ref09_next
theorem x_ref09_next : XOk 56 t_ref09_next := by
  refine EnvOk.x (E := e_ref09_next) (contract_ok e_ref09_next_ok (fn := Tryd.f56) (c := cb_ref09_next) ?h1 ?h2 ⟨Tryd.call56⟩ cs_ref09_next (fun a => ref09_next a.1 a.2.1 a.2.2.1) er_ref09_next (fun a => (by show 3 ≤ 35; decide)) ?h3 ?h4) rfl rfl
  case h1 => kernel_rfl
  case h2 => kernel_rfl
  case h3 => intro b; kernel_rfl
  case h4 => exact fun a b h => ref09_next_sem a.1 a.2.1 a.2.2.1 b h
/- trestle/trestleref09.Beside -/
noncomputable def e_ref09_Beside : Env := (E0.withX 56 t_ref09_next)
theorem e_ref09_Beside_ok : EnvOk e_ref09_Beside := (EnvOk.withX E0_ok x_ref09_next.1 x_ref09_next.2)
noncomputable def cb_ref09_Beside : Code := codeOf Tryd.f24
def ref09_Beside_j5 (x0 : Int) (x1 : (List (List (List Int)))) (c1 : (List (List Int))) (c2 : Int) (c4 : (List Int)) (c5 : Int) (c8 : Int) (c10 : Int) (c11 : Int) (j24 : Bool) : Option ((Int)) :=
  if j24 = true then
  some (wr .i64 (c10 + 1))
  else
  some c10
def ref09_Beside_4 (x0 : Int) (x1 : (List (List (List Int)))) (c1 : (List (List Int))) (c2 : Int) (c4 : (List Int)) (c5 : Int) (c8 : Int) : Nat → Int → Int → Option ((Int))
  | 0, _, _ => none
  | f + 1, c10, c11 =>
    (idx x1 c8).bind fun v12 =>
    if (decide (c11 < (v12.length : Int))) = true then
    (if (c2 != c5) = true then (idx x1 c8).bind fun v14 =>
    (idx v14 c11).bind fun v15 =>
    (ref09_next v15 c2 c5).bind fun v16 =>
    if v16 = true then some true else (idx x1 c8).bind fun v17 =>
    (idx v17 c11).bind fun v18 =>
    (ref09_next v18 c5 c2).bind fun v19 =>
    some v19 else some false).bind fun j24 =>
    (ref09_Beside_j5 x0 x1 c1 c2 c4 c5 c8 c10 c11 j24).bind fun r27 =>
    ref09_Beside_4 x0 x1 c1 c2 c4 c5 c8 f r27 (wr .i64 (c11 + 1))
    else
    some c10
def ref09_Beside_3 (x0 : Int) (x1 : (List (List (List Int)))) (c1 : (List (List Int))) (c2 : Int) (c4 : (List Int)) (c5 : Int) : Nat → Int → Int → Option ((Int))
  | 0, _, _ => none
  | f + 1, c7, c8 =>
    if (decide (c8 < (x1.length : Int))) = true then
    (ref09_Beside_4 x0 x1 c1 c2 c4 c5 c8 100000 c7 0).bind fun r31 =>
    ref09_Beside_3 x0 x1 c1 c2 c4 c5 f r31 (wr .i64 (c8 + 1))
    else
    some c7
def ref09_Beside_2 (x0 : Int) (x1 : (List (List (List Int)))) (c1 : (List (List Int))) (c2 : Int) : Nat → (List Int) → Int → Option (((List Int)))
  | 0, _, _ => none
  | f + 1, c4, c5 =>
    if (decide (c5 < x0)) = true then
    (ref09_Beside_3 x0 x1 c1 c2 c4 c5 100000 0 0).bind fun r33 =>
    if (capOk 8 (c4.length + 1)) = true then
    ref09_Beside_2 x0 x1 c1 c2 f (c4 ++ [r33]) (wr .i64 (c5 + 1))
    else none
    else
    some c4
def ref09_Beside_1 (x0 : Int) (x1 : (List (List (List Int)))) : Nat → (List (List Int)) → Int → Option (((List (List Int))))
  | 0, _, _ => none
  | f + 1, c1, c2 =>
    if (decide (c2 < x0)) = true then
    (ref09_Beside_2 x0 x1 c1 c2 100000 [] 0).bind fun r36 =>
    if (capOk 24 (c1.length + 1)) = true then
    ref09_Beside_1 x0 x1 f (c1 ++ [r36]) (wr .i64 (c2 + 1))
    else none
    else
    some c1
def ref09_Beside (x0 : Int) (x1 : (List (List (List Int)))) : Option ((List (List Int))) :=
  (ref09_Beside_1 x0 x1 100000 [] 0).bind fun r39 =>
  some r39
def cs_ref09_Beside : Cs (Int × (List (List (List Int))) × Unit) := (csC cdI (csC (cdL 1 (cdL 1 (cdL 1 cdI))) csN))
def er_ref09_Beside (r : (List (List Int))) : AV := (cdL 1 (cdL 1 cdI)).enc r
set_option maxHeartbeats 4000000 in
set_option maxRecDepth 100000 in
theorem ref09_Beside_j5_ok (x0 : Int) (x1 : (List (List (List Int)))) (c1 : (List (List Int))) (c2 : Int) (c4 : (List Int)) (c5 : Int) (c8 : Int) (c10 : Int) (c11 : Int) (j24 : Bool) (r : (Int)) (h : ref09_Beside_j5 x0 x1 c1 c2 c4 c5 c8 c10 c11 j24 = some r) : Sem e_ref09_Beside ⟨none, false⟩ (pc cb_ref09_Beside [1, 1, 0, 1, 0, 0, 1, 0, 0, 1, 0, 1, 0, 0, 1, 0, 0, 1, 0, 1, 0, 0, 1, 0, 0, 1, 0, 0, 1, 0, 0, 1]) ⟨Fr 75 [(0, .v (.int .i64 x0)), (1, .sl 1 (x1.map (cdL 1 (cdL 1 cdI)).enc)), (5, hd 0 (c1.map (cdL 1 cdI).enc)), (6, .v (.int .i64 c2)), (7, hd 1 (c4.map cdI.enc)), (8, .v (.int .i64 c5)), (9, .v (.int .i64 c10)), (10, .v (.int .i64 c8)), (11, .v (.int .i64 c11)), (63, .v (.bool j24))], [mk 1 29 (c1.map (cdL 1 cdI).enc), mk 1 3 (c4.map cdI.enc)]⟩ (fun e s => e = .normal ∧ Wk e_ref09_Beside s ⟨Fr 75 [(0, .v (.int .i64 x0)), (1, .sl 1 (x1.map (cdL 1 (cdL 1 cdI)).enc)), (5, hd 0 (c1.map (cdL 1 cdI).enc)), (6, .v (.int .i64 c2)), (7, hd 1 (c4.map cdI.enc)), (8, .v (.int .i64 c5)), (9, .v (.int .i64 r)), (10, .v (.int .i64 c8)), (11, .v (.int .i64 c11))], [mk 1 29 (c1.map (cdL 1 cdI).enc), mk 1 3 (c4.map cdI.enc)]⟩) := by
  unfold ref09_Beside_j5 at h
  refine Sem.cond (b := j24) (by kernel_rfl) (fun hb25 => ?_) (fun hb25 => ?_)
  · rw [if_pos hb25] at h
    refine Sem.runS (s1 := ⟨Fr 75 [(0, .v (.int .i64 x0)), (1, .sl 1 (x1.map (cdL 1 (cdL 1 cdI)).enc)), (5, hd 0 (c1.map (cdL 1 cdI).enc)), (6, .v (.int .i64 c2)), (7, hd 1 (c4.map cdI.enc)), (8, .v (.int .i64 c5)), (9, .v (.int .i64 (wr .i64 (c10 + 1)))), (10, .v (.int .i64 c8)), (11, .v (.int .i64 c11))], [mk 1 29 (c1.map (cdL 1 cdI).enc), mk 1 3 (c4.map cdI.enc)]⟩) ?_ ?_
    · refine RunS.segF (n := 75) e_ref09_Beside_ok 3 [(0, .v (.int .i64 x0)), (1, .sl 1 (x1.map (cdL 1 (cdL 1 cdI)).enc)), (5, hd 0 (c1.map (cdL 1 cdI).enc)), (6, .v (.int .i64 c2)), (7, hd 1 (c4.map cdI.enc)), (8, .v (.int .i64 c5)), (9, .v (.int .i64 (wr .i64 (c10 + 1)))), (10, .v (.int .i64 c8)), (11, .v (.int .i64 c11))] [mk 1 29 (c1.map (cdL 1 cdI).enc), mk 1 3 (c4.map cdI.enc)] (by kernel_rfl) ?_
      exact RunS.done rfl (Wk.s3 [0, 1] ⟨⟨_, rfl, bu_mk⟩, ⟨_, rfl, bu_mk⟩, trivial⟩ ⟨lv, lv, lu_hd (b' := 0) (by kernel_rfl) (by kernel_rfl), lv, lu_hd (b' := 1) (by kernel_rfl) (by kernel_rfl), lv, lv, lv, lv, trivial⟩)
    have hq := Option.some.inj h; subst hq
    exact ⟨rfl, (Wk.s3 [0, 1] ⟨⟨_, rfl, bu_mk⟩, ⟨_, rfl, bu_mk⟩, trivial⟩ ⟨lv, lv, lu_hd (b' := 0) (by kernel_rfl) (by kernel_rfl), lv, lu_hd (b' := 1) (by kernel_rfl) (by kernel_rfl), lv, lv, lv, lv, trivial⟩)⟩
  · rw [if_f hb25] at h
    refine Sem.skip ?_
    have hq := Option.some.inj h; subst hq
    exact ⟨rfl, (Wk.s3 [0, 1] ⟨⟨_, rfl, bu_mk⟩, ⟨_, rfl, bu_mk⟩, trivial⟩ ⟨lv, lv, lu_hd (b' := 0) (by kernel_rfl) (by kernel_rfl), lv, lu_hd (b' := 1) (by kernel_rfl) (by kernel_rfl), lv, lv, lv, lv, trivial⟩)⟩
set_option maxHeartbeats 4000000 in
set_option maxRecDepth 100000 in
theorem ref09_Beside_4_ok (x0 : Int) (x1 : (List (List (List Int)))) (c1 : (List (List Int))) (c2 : Int) (c4 : (List Int)) (c5 : Int) (c8 : Int) : ∀ (f : Nat) (c10 : Int) (c11 : Int) (r : (Int)), ref09_Beside_4 x0 x1 c1 c2 c4 c5 c8 f c10 c11 = some r → SemN e_ref09_Beside ⟨none, false⟩ (pc cb_ref09_Beside [1, 1, 0, 1, 0, 0, 1, 0, 0, 1, 0, 1, 0, 0, 1, 0, 0, 1, 0, 1, 0, 0, 1, 0, 0, 1, 0, 0]) f ⟨Fr 75 [(0, .v (.int .i64 x0)), (1, .sl 1 (x1.map (cdL 1 (cdL 1 cdI)).enc)), (5, hd 0 (c1.map (cdL 1 cdI).enc)), (6, .v (.int .i64 c2)), (7, hd 1 (c4.map cdI.enc)), (8, .v (.int .i64 c5)), (9, .v (.int .i64 c10)), (10, .v (.int .i64 c8)), (11, .v (.int .i64 c11))], [mk 1 29 (c1.map (cdL 1 cdI).enc), mk 1 3 (c4.map cdI.enc)]⟩ (fun e s => e = (.exit 6) ∧ Wk e_ref09_Beside s ⟨Fr 75 [(0, .v (.int .i64 x0)), (1, .sl 1 (x1.map (cdL 1 (cdL 1 cdI)).enc)), (5, hd 0 (c1.map (cdL 1 cdI).enc)), (6, .v (.int .i64 c2)), (7, hd 1 (c4.map cdI.enc)), (8, .v (.int .i64 c5)), (9, .v (.int .i64 r)), (10, .v (.int .i64 c8))], [mk 1 29 (c1.map (cdL 1 cdI).enc), mk 1 3 (c4.map cdI.enc)]⟩) := by
  intro f
  induction f with
  | zero => intro c10 c11 r h; cases h
  | succ f ih0 =>
    intro c10 c11 r h
    have ih := fun (c10 : Int) (c11 : Int) => ih0 c10 c11 r
    unfold ref09_Beside_4 at h
    refine SemN.succ ?_
    refine Sem.seq ?_
    refine Sem.seq ?_
    obtain ⟨v12, hv12, h⟩ := Option.bind_eq_some_iff.1 h
    refine Sem.runS (s1 := ⟨Fr 75 [(0, .v (.int .i64 x0)), (1, .sl 1 (x1.map (cdL 1 (cdL 1 cdI)).enc)), (5, hd 0 (c1.map (cdL 1 cdI).enc)), (6, .v (.int .i64 c2)), (7, hd 1 (c4.map cdI.enc)), (8, .v (.int .i64 c5)), (9, .v (.int .i64 c10)), (10, .v (.int .i64 c8)), (11, .v (.int .i64 c11)), (34, .v (.bool (decide (c11 < (v12.length : Int)))))], [mk 1 29 (c1.map (cdL 1 cdI).enc), mk 1 3 (c4.map cdI.enc)]⟩) ?_ ?_
    · refine RunS.segF (n := 75) e_ref09_Beside_ok 3 [(0, .v (.int .i64 x0)), (1, .sl 1 (x1.map (cdL 1 (cdL 1 cdI)).enc)), (5, hd 0 (c1.map (cdL 1 cdI).enc)), (6, .v (.int .i64 c2)), (7, hd 1 (c4.map cdI.enc)), (8, .v (.int .i64 c5)), (9, .v (.int .i64 c10)), (10, .v (.int .i64 c8)), (11, .v (.int .i64 c11)), (28, .v (.int .i64 c11)), (29, .sl 1 (x1.map (cdL 1 (cdL 1 cdI)).enc)), (30, .v (.int .i64 c8))] [mk 1 29 (c1.map (cdL 1 cdI).enc), mk 1 3 (c4.map cdI.enc)] (by kernel_rfl) ?_
      refine RunS.one e_ref09_Beside_ok 0 rfl (op_q (wantedA_none rfl) rfl (q_indexAddr (a := .sl 1 (x1.map (cdL 1 (cdL 1 cdI)).enc)) (b := .v (.int .i64 c8)) (by kernel_rfl) (by kernel_rfl) (ix_sl (e := (cdL 1 (cdL 1 cdI)).enc) (el := 36) (k := 1) (ki := .i64) (by kernel_rfl) (by kernel_rfl) hv12))) ?_
      refine RunS.segF (n := 75) e_ref09_Beside_ok 1 [(0, .v (.int .i64 x0)), (1, .sl 1 (x1.map (cdL 1 (cdL 1 cdI)).enc)), (5, hd 0 (c1.map (cdL 1 cdI).enc)), (6, .v (.int .i64 c2)), (7, hd 1 (c4.map cdI.enc)), (8, .v (.int .i64 c5)), (9, .v (.int .i64 c10)), (10, .v (.int .i64 c8)), (11, .v (.int .i64 c11)), (28, .v (.int .i64 c11)), (32, .sl 1 (v12.map (cdL 1 cdI).enc))] [mk 1 29 (c1.map (cdL 1 cdI).enc), mk 1 3 (c4.map cdI.enc)] (by kernel_rfl) ?_
      refine RunS.one e_ref09_Beside_ok 0 rfl (op_q (wantedA_none rfl) rfl (q_len (a := .sl 1 (v12.map (cdL 1 cdI).enc)) (by kernel_rfl) (len_sl (el := 29) (by kernel_rfl)))) ?_
      refine RunS.segF (n := 75) e_ref09_Beside_ok 1 [(0, .v (.int .i64 x0)), (1, .sl 1 (x1.map (cdL 1 (cdL 1 cdI)).enc)), (5, hd 0 (c1.map (cdL 1 cdI).enc)), (6, .v (.int .i64 c2)), (7, hd 1 (c4.map cdI.enc)), (8, .v (.int .i64 c5)), (9, .v (.int .i64 c10)), (10, .v (.int .i64 c8)), (11, .v (.int .i64 c11)), (34, .v (.bool (decide (c11 < (v12.length : Int)))))] [mk 1 29 (c1.map (cdL 1 cdI).enc), mk 1 3 (c4.map cdI.enc)] (by kernel_rfl) ?_
      exact RunS.done rfl (Wk.s3 [0, 1] ⟨⟨_, rfl, bu_mk⟩, ⟨_, rfl, bu_mk⟩, trivial⟩ ⟨lv, lv, lu_hd (b' := 0) (by kernel_rfl) (by kernel_rfl), lv, lu_hd (b' := 1) (by kernel_rfl) (by kernel_rfl), lv, lv, lv, lv, lv, trivial⟩)
    refine Sem.cond (b := (decide (c11 < (v12.length : Int)))) (by kernel_rfl) (fun hb13 => ?_) (fun hb13 => ?_)
    · rw [if_pos hb13] at h
      refine Sem.skip ?_
      refine Sem.seq ?_
      refine Sem.block ?_
      refine Sem.seq ?_
      obtain ⟨j24, hj24, h⟩ := Option.bind_eq_some_iff.1 h
      refine Sem.runS (s1 := ⟨Fr 75 [(0, .v (.int .i64 x0)), (1, .sl 1 (x1.map (cdL 1 (cdL 1 cdI)).enc)), (5, hd 0 (c1.map (cdL 1 cdI).enc)), (6, .v (.int .i64 c2)), (7, hd 1 (c4.map cdI.enc)), (8, .v (.int .i64 c5)), (9, .v (.int .i64 c10)), (10, .v (.int .i64 c8)), (11, .v (.int .i64 c11)), (63, .v (.bool j24))], [mk 1 29 (c1.map (cdL 1 cdI).enc), mk 1 3 (c4.map cdI.enc)]⟩) ?_ ?_
      · refine RunS.segF (n := 75) e_ref09_Beside_ok 4 [(0, .v (.int .i64 x0)), (1, .sl 1 (x1.map (cdL 1 (cdL 1 cdI)).enc)), (5, hd 0 (c1.map (cdL 1 cdI).enc)), (6, .v (.int .i64 c2)), (7, hd 1 (c4.map cdI.enc)), (8, .v (.int .i64 c5)), (9, .v (.int .i64 c10)), (10, .v (.int .i64 c8)), (11, .v (.int .i64 c11)), (40, .v (.bool (c2 != c5)))] [mk 1 29 (c1.map (cdL 1 cdI).enc), mk 1 3 (c4.map cdI.enc)] (by kernel_rfl) ?_
        rcases Bool.eq_false_or_eq_true (c2 != c5) with hc28 | hc28
        · rw [if_pos hc28] at hj24
          rw [hc28]
          refine RunS.segF (n := 75) e_ref09_Beside_ok 2 [(0, .v (.int .i64 x0)), (1, .sl 1 (x1.map (cdL 1 (cdL 1 cdI)).enc)), (5, hd 0 (c1.map (cdL 1 cdI).enc)), (6, .v (.int .i64 c2)), (7, hd 1 (c4.map cdI.enc)), (8, .v (.int .i64 c5)), (9, .v (.int .i64 c10)), (10, .v (.int .i64 c8)), (11, .v (.int .i64 c11)), (40, .v (.bool true)), (41, .sl 1 (x1.map (cdL 1 (cdL 1 cdI)).enc)), (42, .v (.int .i64 c8))] [mk 1 29 (c1.map (cdL 1 cdI).enc), mk 1 3 (c4.map cdI.enc)] (by kernel_rfl) ?_
          obtain ⟨v14, hv14, hj24⟩ := Option.bind_eq_some_iff.1 hj24
          refine RunS.one e_ref09_Beside_ok 0 rfl (op_q (by kernel_rfl) rfl (q_indexAddr (a := .sl 1 (x1.map (cdL 1 (cdL 1 cdI)).enc)) (b := .v (.int .i64 c8)) (by kernel_rfl) (by kernel_rfl) (ix_sl (e := (cdL 1 (cdL 1 cdI)).enc) (el := 36) (k := 1) (ki := .i64) (by kernel_rfl) (by kernel_rfl) hv14))) ?_
          refine RunS.segF (n := 75) e_ref09_Beside_ok 2 [(0, .v (.int .i64 x0)), (1, .sl 1 (x1.map (cdL 1 (cdL 1 cdI)).enc)), (5, hd 0 (c1.map (cdL 1 cdI).enc)), (6, .v (.int .i64 c2)), (7, hd 1 (c4.map cdI.enc)), (8, .v (.int .i64 c5)), (9, .v (.int .i64 c10)), (10, .v (.int .i64 c8)), (11, .v (.int .i64 c11)), (40, .v (.bool true)), (41, .sl 1 (x1.map (cdL 1 (cdL 1 cdI)).enc)), (42, .v (.int .i64 c8)), (43, .pe (.sl 1 (v14.map (cdL 1 cdI).enc)) 0), (44, .sl 1 (v14.map (cdL 1 cdI).enc)), (45, .v (.int .i64 c11))] [mk 1 29 (c1.map (cdL 1 cdI).enc), mk 1 3 (c4.map cdI.enc)] (by kernel_rfl) ?_
          obtain ⟨v15, hv15, hj24⟩ := Option.bind_eq_some_iff.1 hj24
          refine RunS.one e_ref09_Beside_ok 0 rfl (op_q (by kernel_rfl) rfl (q_indexAddr (a := .sl 1 (v14.map (cdL 1 cdI).enc)) (b := .v (.int .i64 c11)) (by kernel_rfl) (by kernel_rfl) (ix_sl (e := (cdL 1 cdI).enc) (el := 29) (k := 1) (ki := .i64) (by kernel_rfl) (by kernel_rfl) hv15))) ?_
          refine RunS.segF (n := 75) e_ref09_Beside_ok 3 [(0, .v (.int .i64 x0)), (1, .sl 1 (x1.map (cdL 1 (cdL 1 cdI)).enc)), (5, hd 0 (c1.map (cdL 1 cdI).enc)), (6, .v (.int .i64 c2)), (7, hd 1 (c4.map cdI.enc)), (8, .v (.int .i64 c5)), (9, .v (.int .i64 c10)), (10, .v (.int .i64 c8)), (11, .v (.int .i64 c11)), (40, .v (.bool true)), (41, .sl 1 (x1.map (cdL 1 (cdL 1 cdI)).enc)), (42, .v (.int .i64 c8)), (43, .pe (.sl 1 (v14.map (cdL 1 cdI).enc)) 0), (44, .sl 1 (v14.map (cdL 1 cdI).enc)), (45, .v (.int .i64 c11)), (46, .pe (.sl 1 (v15.map cdI.enc)) 0), (47, .sl 1 (v15.map cdI.enc)), (48, .v (.int .i64 c2)), (49, .v (.int .i64 c5))] [mk 1 29 (c1.map (cdL 1 cdI).enc), mk 1 3 (c4.map cdI.enc)] (by kernel_rfl) ?_
          obtain ⟨v16, hv16, hj24⟩ := Option.bind_eq_some_iff.1 hj24
          refine RunS.call e_ref09_Beside_ok (fid := 56) (s := cs_ref09_next) (F := fun a => ref09_next a.1 a.2.1 a.2.2.1) (er := er_ref09_next) (xs := [.sl 1 (v15.map cdI.enc), .v (.int .i64 c2), .v (.int .i64 c5)]) (a := (v15, c2, c5, ())) rfl (by kernel_rfl) (by kernel_rfl) (by kernel_rfl) (by kernel_rfl) (by kernel_rfl) (Sns.cons (Sn.enc (c := (cdL 1 cdI)) (v := v15)) (Sns.cons (Sn.enc (c := cdI) (v := c2)) (Sns.cons (Sn.enc (c := cdI) (v := c5)) Sns.nil))) (.inl (by kernel_rfl)) hv16 ?_
          refine RunS.segF (n := 75) e_ref09_Beside_ok 1 [(0, .v (.int .i64 x0)), (1, .sl 1 (x1.map (cdL 1 (cdL 1 cdI)).enc)), (5, hd 0 (c1.map (cdL 1 cdI).enc)), (6, .v (.int .i64 c2)), (7, hd 1 (c4.map cdI.enc)), (8, .v (.int .i64 c5)), (9, .v (.int .i64 c10)), (10, .v (.int .i64 c8)), (11, .v (.int .i64 c11)), (40, .v (.bool true)), (41, .sl 1 (x1.map (cdL 1 (cdL 1 cdI)).enc)), (42, .v (.int .i64 c8)), (43, .pe (.sl 1 (v14.map (cdL 1 cdI).enc)) 0), (44, .sl 1 (v14.map (cdL 1 cdI).enc)), (45, .v (.int .i64 c11)), (46, .pe (.sl 1 (v15.map cdI.enc)) 0), (47, .sl 1 (v15.map cdI.enc)), (48, .v (.int .i64 c2)), (49, .v (.int .i64 c5)), (50, .v (.bool v16)), (51, .v (.bool v16))] [mk 1 29 (c1.map (cdL 1 cdI).enc), mk 1 3 (c4.map cdI.enc)] (by kernel_rfl) ?_
          rcases Bool.eq_false_or_eq_true v16 with hc29 | hc29
          · rw [if_pos hc29] at hj24
            rw [hc29]
            refine RunS.segF (n := 75) e_ref09_Beside_ok 12 [(0, .v (.int .i64 x0)), (1, .sl 1 (x1.map (cdL 1 (cdL 1 cdI)).enc)), (5, hd 0 (c1.map (cdL 1 cdI).enc)), (6, .v (.int .i64 c2)), (7, hd 1 (c4.map cdI.enc)), (8, .v (.int .i64 c5)), (9, .v (.int .i64 c10)), (10, .v (.int .i64 c8)), (11, .v (.int .i64 c11)), (41, .sl 1 (x1.map (cdL 1 (cdL 1 cdI)).enc)), (42, .v (.int .i64 c8)), (43, .pe (.sl 1 (v14.map (cdL 1 cdI).enc)) 0), (44, .sl 1 (v14.map (cdL 1 cdI).enc)), (45, .v (.int .i64 c11)), (46, .pe (.sl 1 (v15.map cdI.enc)) 0), (47, .sl 1 (v15.map cdI.enc)), (48, .v (.int .i64 c2)), (49, .v (.int .i64 c5)), (50, .v (.bool true)), (51, .v (.bool true)), (52, .tp []), (53, .tp []), (54, .tp []), (55, .tp []), (56, .tp []), (57, .tp []), (58, .tp []), (59, .tp []), (60, .tp []), (61, .tp []), (62, .v (.bool true)), (63, .v (.bool true))] [mk 1 29 (c1.map (cdL 1 cdI).enc), mk 1 3 (c4.map cdI.enc)] (by kernel_rfl) ?_
            have hq := Option.some.inj hj24; subst hq
            exact RunS.done rfl (Wk.s3 [0, 1] ⟨⟨_, rfl, bu_mk⟩, ⟨_, rfl, bu_mk⟩, trivial⟩ ⟨lv, lv, lu_hd (b' := 0) (by kernel_rfl) (by kernel_rfl), lv, lu_hd (b' := 1) (by kernel_rfl) (by kernel_rfl), lv, lv, lv, lv, lv, trivial⟩)
          · rw [if_f hc29] at hj24
            rw [hc29]
            refine RunS.segF (n := 75) e_ref09_Beside_ok 2 [(0, .v (.int .i64 x0)), (1, .sl 1 (x1.map (cdL 1 (cdL 1 cdI)).enc)), (5, hd 0 (c1.map (cdL 1 cdI).enc)), (6, .v (.int .i64 c2)), (7, hd 1 (c4.map cdI.enc)), (8, .v (.int .i64 c5)), (9, .v (.int .i64 c10)), (10, .v (.int .i64 c8)), (11, .v (.int .i64 c11)), (40, .v (.bool true)), (41, .sl 1 (x1.map (cdL 1 (cdL 1 cdI)).enc)), (42, .v (.int .i64 c8)), (43, .pe (.sl 1 (v14.map (cdL 1 cdI).enc)) 0), (44, .sl 1 (v14.map (cdL 1 cdI).enc)), (45, .v (.int .i64 c11)), (46, .pe (.sl 1 (v15.map cdI.enc)) 0), (47, .sl 1 (v15.map cdI.enc)), (48, .v (.int .i64 c2)), (49, .v (.int .i64 c5)), (50, .v (.bool false)), (51, .v (.bool false)), (52, .sl 1 (x1.map (cdL 1 (cdL 1 cdI)).enc)), (53, .v (.int .i64 c8))] [mk 1 29 (c1.map (cdL 1 cdI).enc), mk 1 3 (c4.map cdI.enc)] (by kernel_rfl) ?_
            obtain ⟨v17, hv17, hj24⟩ := Option.bind_eq_some_iff.1 hj24
            refine RunS.one e_ref09_Beside_ok 0 rfl (op_q (by kernel_rfl) rfl (q_indexAddr (a := .sl 1 (x1.map (cdL 1 (cdL 1 cdI)).enc)) (b := .v (.int .i64 c8)) (by kernel_rfl) (by kernel_rfl) (ix_sl (e := (cdL 1 (cdL 1 cdI)).enc) (el := 36) (k := 1) (ki := .i64) (by kernel_rfl) (by kernel_rfl) hv17))) ?_
            refine RunS.segF (n := 75) e_ref09_Beside_ok 2 [(0, .v (.int .i64 x0)), (1, .sl 1 (x1.map (cdL 1 (cdL 1 cdI)).enc)), (5, hd 0 (c1.map (cdL 1 cdI).enc)), (6, .v (.int .i64 c2)), (7, hd 1 (c4.map cdI.enc)), (8, .v (.int .i64 c5)), (9, .v (.int .i64 c10)), (10, .v (.int .i64 c8)), (11, .v (.int .i64 c11)), (40, .v (.bool true)), (41, .sl 1 (x1.map (cdL 1 (cdL 1 cdI)).enc)), (42, .v (.int .i64 c8)), (43, .pe (.sl 1 (v14.map (cdL 1 cdI).enc)) 0), (44, .sl 1 (v14.map (cdL 1 cdI).enc)), (45, .v (.int .i64 c11)), (46, .pe (.sl 1 (v15.map cdI.enc)) 0), (47, .sl 1 (v15.map cdI.enc)), (48, .v (.int .i64 c2)), (49, .v (.int .i64 c5)), (50, .v (.bool false)), (51, .v (.bool false)), (52, .sl 1 (x1.map (cdL 1 (cdL 1 cdI)).enc)), (53, .v (.int .i64 c8)), (54, .pe (.sl 1 (v17.map (cdL 1 cdI).enc)) 0), (55, .sl 1 (v17.map (cdL 1 cdI).enc)), (56, .v (.int .i64 c11))] [mk 1 29 (c1.map (cdL 1 cdI).enc), mk 1 3 (c4.map cdI.enc)] (by kernel_rfl) ?_
            obtain ⟨v18, hv18, hj24⟩ := Option.bind_eq_some_iff.1 hj24
            refine RunS.one e_ref09_Beside_ok 0 rfl (op_q (by kernel_rfl) rfl (q_indexAddr (a := .sl 1 (v17.map (cdL 1 cdI).enc)) (b := .v (.int .i64 c11)) (by kernel_rfl) (by kernel_rfl) (ix_sl (e := (cdL 1 cdI).enc) (el := 29) (k := 1) (ki := .i64) (by kernel_rfl) (by kernel_rfl) hv18))) ?_
            refine RunS.segF (n := 75) e_ref09_Beside_ok 3 [(0, .v (.int .i64 x0)), (1, .sl 1 (x1.map (cdL 1 (cdL 1 cdI)).enc)), (5, hd 0 (c1.map (cdL 1 cdI).enc)), (6, .v (.int .i64 c2)), (7, hd 1 (c4.map cdI.enc)), (8, .v (.int .i64 c5)), (9, .v (.int .i64 c10)), (10, .v (.int .i64 c8)), (11, .v (.int .i64 c11)), (40, .v (.bool true)), (41, .sl 1 (x1.map (cdL 1 (cdL 1 cdI)).enc)), (42, .v (.int .i64 c8)), (43, .pe (.sl 1 (v14.map (cdL 1 cdI).enc)) 0), (44, .sl 1 (v14.map (cdL 1 cdI).enc)), (45, .v (.int .i64 c11)), (46, .pe (.sl 1 (v15.map cdI.enc)) 0), (47, .sl 1 (v15.map cdI.enc)), (48, .v (.int .i64 c2)), (49, .v (.int .i64 c5)), (50, .v (.bool false)), (51, .v (.bool false)), (52, .sl 1 (x1.map (cdL 1 (cdL 1 cdI)).enc)), (53, .v (.int .i64 c8)), (54, .pe (.sl 1 (v17.map (cdL 1 cdI).enc)) 0), (55, .sl 1 (v17.map (cdL 1 cdI).enc)), (56, .v (.int .i64 c11)), (57, .pe (.sl 1 (v18.map cdI.enc)) 0), (58, .sl 1 (v18.map cdI.enc)), (59, .v (.int .i64 c5)), (60, .v (.int .i64 c2))] [mk 1 29 (c1.map (cdL 1 cdI).enc), mk 1 3 (c4.map cdI.enc)] (by kernel_rfl) ?_
            obtain ⟨v19, hv19, hj24⟩ := Option.bind_eq_some_iff.1 hj24
            refine RunS.call e_ref09_Beside_ok (fid := 56) (s := cs_ref09_next) (F := fun a => ref09_next a.1 a.2.1 a.2.2.1) (er := er_ref09_next) (xs := [.sl 1 (v18.map cdI.enc), .v (.int .i64 c5), .v (.int .i64 c2)]) (a := (v18, c5, c2, ())) rfl (by kernel_rfl) (by kernel_rfl) (by kernel_rfl) (by kernel_rfl) (by kernel_rfl) (Sns.cons (Sn.enc (c := (cdL 1 cdI)) (v := v18)) (Sns.cons (Sn.enc (c := cdI) (v := c5)) (Sns.cons (Sn.enc (c := cdI) (v := c2)) Sns.nil))) (.inl (by kernel_rfl)) hv19 ?_
            refine RunS.segF (n := 75) e_ref09_Beside_ok 2 [(0, .v (.int .i64 x0)), (1, .sl 1 (x1.map (cdL 1 (cdL 1 cdI)).enc)), (5, hd 0 (c1.map (cdL 1 cdI).enc)), (6, .v (.int .i64 c2)), (7, hd 1 (c4.map cdI.enc)), (8, .v (.int .i64 c5)), (9, .v (.int .i64 c10)), (10, .v (.int .i64 c8)), (11, .v (.int .i64 c11)), (41, .sl 1 (x1.map (cdL 1 (cdL 1 cdI)).enc)), (42, .v (.int .i64 c8)), (43, .pe (.sl 1 (v14.map (cdL 1 cdI).enc)) 0), (44, .sl 1 (v14.map (cdL 1 cdI).enc)), (45, .v (.int .i64 c11)), (46, .pe (.sl 1 (v15.map cdI.enc)) 0), (47, .sl 1 (v15.map cdI.enc)), (48, .v (.int .i64 c2)), (49, .v (.int .i64 c5)), (50, .v (.bool false)), (51, .v (.bool false)), (52, .sl 1 (x1.map (cdL 1 (cdL 1 cdI)).enc)), (53, .v (.int .i64 c8)), (54, .pe (.sl 1 (v17.map (cdL 1 cdI).enc)) 0), (55, .sl 1 (v17.map (cdL 1 cdI).enc)), (56, .v (.int .i64 c11)), (57, .pe (.sl 1 (v18.map cdI.enc)) 0), (58, .sl 1 (v18.map cdI.enc)), (59, .v (.int .i64 c5)), (60, .v (.int .i64 c2)), (61, .v (.bool v19)), (62, .v (.bool v19)), (63, .v (.bool v19))] [mk 1 29 (c1.map (cdL 1 cdI).enc), mk 1 3 (c4.map cdI.enc)] (by kernel_rfl) ?_
            have hq := Option.some.inj hj24; subst hq
            exact RunS.done rfl (Wk.s3 [0, 1] ⟨⟨_, rfl, bu_mk⟩, ⟨_, rfl, bu_mk⟩, trivial⟩ ⟨lv, lv, lu_hd (b' := 0) (by kernel_rfl) (by kernel_rfl), lv, lu_hd (b' := 1) (by kernel_rfl) (by kernel_rfl), lv, lv, lv, lv, lv, trivial⟩)
        · rw [if_f hc28] at hj24
          rw [hc28]
          refine RunS.segF (n := 75) e_ref09_Beside_ok 23 [(0, .v (.int .i64 x0)), (1, .sl 1 (x1.map (cdL 1 (cdL 1 cdI)).enc)), (5, hd 0 (c1.map (cdL 1 cdI).enc)), (6, .v (.int .i64 c2)), (7, hd 1 (c4.map cdI.enc)), (8, .v (.int .i64 c5)), (9, .v (.int .i64 c10)), (10, .v (.int .i64 c8)), (11, .v (.int .i64 c11)), (41, .tp []), (42, .tp []), (43, .tp []), (44, .tp []), (45, .tp []), (46, .tp []), (47, .tp []), (48, .tp []), (49, .tp []), (50, .tp []), (51, .tp []), (52, .tp []), (53, .tp []), (54, .tp []), (55, .tp []), (56, .tp []), (57, .tp []), (58, .tp []), (59, .tp []), (60, .tp []), (61, .tp []), (62, .tp []), (63, .v (.bool false))] [mk 1 29 (c1.map (cdL 1 cdI).enc), mk 1 3 (c4.map cdI.enc)] (by kernel_rfl) ?_
          have hq := Option.some.inj hj24; subst hq
          exact RunS.done rfl (Wk.s3 [0, 1] ⟨⟨_, rfl, bu_mk⟩, ⟨_, rfl, bu_mk⟩, trivial⟩ ⟨lv, lv, lu_hd (b' := 0) (by kernel_rfl) (by kernel_rfl), lv, lu_hd (b' := 1) (by kernel_rfl) (by kernel_rfl), lv, lv, lv, lv, lv, trivial⟩)
      obtain ⟨r27, hr27, h⟩ := Option.bind_eq_some_iff.1 h
      refine Sem.cut (ref09_Beside_j5_ok x0 x1 c1 c2 c4 c5 c8 c10 c11 j24 _ hr27) ?_
      refine Sem.runS (s1 := ⟨Fr 75 [(0, .v (.int .i64 x0)), (1, .sl 1 (x1.map (cdL 1 (cdL 1 cdI)).enc)), (5, hd 0 (c1.map (cdL 1 cdI).enc)), (6, .v (.int .i64 c2)), (7, hd 1 (c4.map cdI.enc)), (8, .v (.int .i64 c5)), (9, .v (.int .i64 r27)), (10, .v (.int .i64 c8)), (11, .v (.int .i64 (wr .i64 (c11 + 1))))], [mk 1 29 (c1.map (cdL 1 cdI).enc), mk 1 3 (c4.map cdI.enc)]⟩) ?_ ?_
      · refine RunS.segF (n := 75) e_ref09_Beside_ok 3 [(0, .v (.int .i64 x0)), (1, .sl 1 (x1.map (cdL 1 (cdL 1 cdI)).enc)), (5, hd 0 (c1.map (cdL 1 cdI).enc)), (6, .v (.int .i64 c2)), (7, hd 1 (c4.map cdI.enc)), (8, .v (.int .i64 c5)), (9, .v (.int .i64 r27)), (10, .v (.int .i64 c8)), (11, .v (.int .i64 (wr .i64 (c11 + 1))))] [mk 1 29 (c1.map (cdL 1 cdI).enc), mk 1 3 (c4.map cdI.enc)] (by kernel_rfl) ?_
        exact RunS.done rfl (Wk.s3 [0, 1] ⟨⟨_, rfl, bu_mk⟩, ⟨_, rfl, bu_mk⟩, trivial⟩ ⟨lv, lv, lu_hd (b' := 0) (by kernel_rfl) (by kernel_rfl), lv, lu_hd (b' := 1) (by kernel_rfl) (by kernel_rfl), lv, lv, lv, lv, trivial⟩)
      exact SemN.wk (s1 := ⟨Fr 75 [(0, .v (.int .i64 x0)), (1, .sl 1 (x1.map (cdL 1 (cdL 1 cdI)).enc)), (5, hd 0 (c1.map (cdL 1 cdI).enc)), (6, .v (.int .i64 c2)), (7, hd 1 (c4.map cdI.enc)), (8, .v (.int .i64 c5)), (9, .v (.int .i64 r27)), (10, .v (.int .i64 c8)), (11, .v (.int .i64 (wr .i64 (c11 + 1))))], [mk 1 29 (c1.map (cdL 1 cdI).enc), mk 1 3 (c4.map cdI.enc)]⟩) (Wk.s3 [0, 1] ⟨⟨_, rfl, bu_mk⟩, ⟨_, rfl, bu_mk⟩, trivial⟩ ⟨lv, lv, lu_hd (b' := 0) (by kernel_rfl) (by kernel_rfl), lv, lu_hd (b' := 1) (by kernel_rfl) (by kernel_rfl), lv, lv, lv, lv, trivial⟩) (ih r27 (wr .i64 (c11 + 1)) h)
    · rw [if_f hb13] at h
      refine Sem.exit ?_
      have hq := Option.some.inj h; subst hq
      exact ⟨rfl, (Wk.s3 [0, 1] ⟨⟨_, rfl, bu_mk⟩, ⟨_, rfl, bu_mk⟩, trivial⟩ ⟨lv, lv, lu_hd (b' := 0) (by kernel_rfl) (by kernel_rfl), lv, lu_hd (b' := 1) (by kernel_rfl) (by kernel_rfl), lv, lv, lv, trivial⟩)⟩
set_option maxHeartbeats 4000000 in
set_option maxRecDepth 100000 in
theorem ref09_Beside_3_ok (x0 : Int) (x1 : (List (List (List Int)))) (c1 : (List (List Int))) (c2 : Int) (c4 : (List Int)) (c5 : Int) : ∀ (f : Nat) (c7 : Int) (c8 : Int) (r : (Int)), ref09_Beside_3 x0 x1 c1 c2 c4 c5 f c7 c8 = some r → SemN e_ref09_Beside ⟨none, false⟩ (pc cb_ref09_Beside [1, 1, 0, 1, 0, 0, 1, 0, 0, 1, 0, 1, 0, 0, 1, 0, 0, 1, 0, 1, 0, 0]) f ⟨Fr 75 [(0, .v (.int .i64 x0)), (1, .sl 1 (x1.map (cdL 1 (cdL 1 cdI)).enc)), (5, hd 0 (c1.map (cdL 1 cdI).enc)), (6, .v (.int .i64 c2)), (7, hd 1 (c4.map cdI.enc)), (8, .v (.int .i64 c5)), (9, .v (.int .i64 c7)), (10, .v (.int .i64 c8))], [mk 1 29 (c1.map (cdL 1 cdI).enc), mk 1 3 (c4.map cdI.enc)]⟩ (fun e s => e = (.exit 4) ∧ Wk e_ref09_Beside s ⟨Fr 75 [(0, .v (.int .i64 x0)), (1, .sl 1 (x1.map (cdL 1 (cdL 1 cdI)).enc)), (5, hd 0 (c1.map (cdL 1 cdI).enc)), (6, .v (.int .i64 c2)), (7, hd 1 (c4.map cdI.enc)), (8, .v (.int .i64 c5)), (9, .v (.int .i64 r))], [mk 1 29 (c1.map (cdL 1 cdI).enc), mk 1 3 (c4.map cdI.enc)]⟩) := by
  intro f
  induction f with
  | zero => intro c7 c8 r h; cases h
  | succ f ih0 =>
    intro c7 c8 r h
    have ih := fun (c7 : Int) (c8 : Int) => ih0 c7 c8 r
    unfold ref09_Beside_3 at h
    refine SemN.succ ?_
    refine Sem.seq ?_
    refine Sem.seq ?_
    refine Sem.runS (s1 := ⟨Fr 75 [(0, .v (.int .i64 x0)), (1, .sl 1 (x1.map (cdL 1 (cdL 1 cdI)).enc)), (5, hd 0 (c1.map (cdL 1 cdI).enc)), (6, .v (.int .i64 c2)), (7, hd 1 (c4.map cdI.enc)), (8, .v (.int .i64 c5)), (9, .v (.int .i64 c7)), (10, .v (.int .i64 c8)), (25, .v (.bool (decide (c8 < (x1.length : Int)))))], [mk 1 29 (c1.map (cdL 1 cdI).enc), mk 1 3 (c4.map cdI.enc)]⟩) ?_ ?_
    · refine RunS.segF (n := 75) e_ref09_Beside_ok 2 [(0, .v (.int .i64 x0)), (1, .sl 1 (x1.map (cdL 1 (cdL 1 cdI)).enc)), (5, hd 0 (c1.map (cdL 1 cdI).enc)), (6, .v (.int .i64 c2)), (7, hd 1 (c4.map cdI.enc)), (8, .v (.int .i64 c5)), (9, .v (.int .i64 c7)), (10, .v (.int .i64 c8)), (22, .v (.int .i64 c8)), (23, .sl 1 (x1.map (cdL 1 (cdL 1 cdI)).enc))] [mk 1 29 (c1.map (cdL 1 cdI).enc), mk 1 3 (c4.map cdI.enc)] (by kernel_rfl) ?_
      refine RunS.one e_ref09_Beside_ok 0 rfl (op_q (wantedA_none rfl) rfl (q_len (a := .sl 1 (x1.map (cdL 1 (cdL 1 cdI)).enc)) (by kernel_rfl) (len_sl (el := 36) (by kernel_rfl)))) ?_
      refine RunS.segF (n := 75) e_ref09_Beside_ok 1 [(0, .v (.int .i64 x0)), (1, .sl 1 (x1.map (cdL 1 (cdL 1 cdI)).enc)), (5, hd 0 (c1.map (cdL 1 cdI).enc)), (6, .v (.int .i64 c2)), (7, hd 1 (c4.map cdI.enc)), (8, .v (.int .i64 c5)), (9, .v (.int .i64 c7)), (10, .v (.int .i64 c8)), (25, .v (.bool (decide (c8 < (x1.length : Int)))))] [mk 1 29 (c1.map (cdL 1 cdI).enc), mk 1 3 (c4.map cdI.enc)] (by kernel_rfl) ?_
      exact RunS.done rfl (Wk.s3 [0, 1] ⟨⟨_, rfl, bu_mk⟩, ⟨_, rfl, bu_mk⟩, trivial⟩ ⟨lv, lv, lu_hd (b' := 0) (by kernel_rfl) (by kernel_rfl), lv, lu_hd (b' := 1) (by kernel_rfl) (by kernel_rfl), lv, lv, lv, lv, trivial⟩)
    refine Sem.cond (b := (decide (c8 < (x1.length : Int)))) (by kernel_rfl) (fun hb9 => ?_) (fun hb9 => ?_)
    · rw [if_pos hb9] at h
      refine Sem.skip ?_
      refine Sem.seq ?_
      refine Sem.block ?_
      refine Sem.seq ?_
      refine Sem.runS (s1 := ⟨Fr 75 [(0, .v (.int .i64 x0)), (1, .sl 1 (x1.map (cdL 1 (cdL 1 cdI)).enc)), (5, hd 0 (c1.map (cdL 1 cdI).enc)), (6, .v (.int .i64 c2)), (7, hd 1 (c4.map cdI.enc)), (8, .v (.int .i64 c5)), (9, .v (.int .i64 c7)), (10, .v (.int .i64 c8)), (11, .v (.int .i64 0))], [mk 1 29 (c1.map (cdL 1 cdI).enc), mk 1 3 (c4.map cdI.enc)]⟩) ?_ ?_
      · refine RunS.segF (n := 75) e_ref09_Beside_ok 1 [(0, .v (.int .i64 x0)), (1, .sl 1 (x1.map (cdL 1 (cdL 1 cdI)).enc)), (5, hd 0 (c1.map (cdL 1 cdI).enc)), (6, .v (.int .i64 c2)), (7, hd 1 (c4.map cdI.enc)), (8, .v (.int .i64 c5)), (9, .v (.int .i64 c7)), (10, .v (.int .i64 c8)), (11, .v (.int .i64 0))] [mk 1 29 (c1.map (cdL 1 cdI).enc), mk 1 3 (c4.map cdI.enc)] (by kernel_rfl) ?_
        exact RunS.done rfl (Wk.s3 [0, 1] ⟨⟨_, rfl, bu_mk⟩, ⟨_, rfl, bu_mk⟩, trivial⟩ ⟨lv, lv, lu_hd (b' := 0) (by kernel_rfl) (by kernel_rfl), lv, lu_hd (b' := 1) (by kernel_rfl) (by kernel_rfl), lv, lv, lv, lv, trivial⟩)
      refine Sem.block ?_
      obtain ⟨r31, hr31, h⟩ := Option.bind_eq_some_iff.1 h
      refine Sem.loop (n := 100000) ?_
      refine Sem.cutN (SemN.wk (s1 := ⟨Fr 75 [(0, .v (.int .i64 x0)), (1, .sl 1 (x1.map (cdL 1 (cdL 1 cdI)).enc)), (5, hd 0 (c1.map (cdL 1 cdI).enc)), (6, .v (.int .i64 c2)), (7, hd 1 (c4.map cdI.enc)), (8, .v (.int .i64 c5)), (9, .v (.int .i64 c7)), (10, .v (.int .i64 c8)), (11, .v (.int .i64 0))], [mk 1 29 (c1.map (cdL 1 cdI).enc), mk 1 3 (c4.map cdI.enc)]⟩) (Wk.s3 [0, 1] ⟨⟨_, rfl, bu_mk⟩, ⟨_, rfl, bu_mk⟩, trivial⟩ ⟨lv, lv, lu_hd (b' := 0) (by kernel_rfl) (by kernel_rfl), lv, lu_hd (b' := 1) (by kernel_rfl) (by kernel_rfl), lv, lv, lv, lv, trivial⟩) (ref09_Beside_4_ok x0 x1 c1 c2 c4 c5 c8 _ c7 0 _ hr31)) ?_
      refine Sem.runS (s1 := ⟨Fr 75 [(0, .v (.int .i64 x0)), (1, .sl 1 (x1.map (cdL 1 (cdL 1 cdI)).enc)), (5, hd 0 (c1.map (cdL 1 cdI).enc)), (6, .v (.int .i64 c2)), (7, hd 1 (c4.map cdI.enc)), (8, .v (.int .i64 c5)), (9, .v (.int .i64 r31)), (10, .v (.int .i64 (wr .i64 (c8 + 1))))], [mk 1 29 (c1.map (cdL 1 cdI).enc), mk 1 3 (c4.map cdI.enc)]⟩) ?_ ?_
      · refine RunS.segF (n := 75) e_ref09_Beside_ok 3 [(0, .v (.int .i64 x0)), (1, .sl 1 (x1.map (cdL 1 (cdL 1 cdI)).enc)), (5, hd 0 (c1.map (cdL 1 cdI).enc)), (6, .v (.int .i64 c2)), (7, hd 1 (c4.map cdI.enc)), (8, .v (.int .i64 c5)), (9, .v (.int .i64 r31)), (10, .v (.int .i64 (wr .i64 (c8 + 1))))] [mk 1 29 (c1.map (cdL 1 cdI).enc), mk 1 3 (c4.map cdI.enc)] (by kernel_rfl) ?_
        exact RunS.done rfl (Wk.s3 [0, 1] ⟨⟨_, rfl, bu_mk⟩, ⟨_, rfl, bu_mk⟩, trivial⟩ ⟨lv, lv, lu_hd (b' := 0) (by kernel_rfl) (by kernel_rfl), lv, lu_hd (b' := 1) (by kernel_rfl) (by kernel_rfl), lv, lv, lv, trivial⟩)
      exact SemN.wk (s1 := ⟨Fr 75 [(0, .v (.int .i64 x0)), (1, .sl 1 (x1.map (cdL 1 (cdL 1 cdI)).enc)), (5, hd 0 (c1.map (cdL 1 cdI).enc)), (6, .v (.int .i64 c2)), (7, hd 1 (c4.map cdI.enc)), (8, .v (.int .i64 c5)), (9, .v (.int .i64 r31)), (10, .v (.int .i64 (wr .i64 (c8 + 1))))], [mk 1 29 (c1.map (cdL 1 cdI).enc), mk 1 3 (c4.map cdI.enc)]⟩) (Wk.s3 [0, 1] ⟨⟨_, rfl, bu_mk⟩, ⟨_, rfl, bu_mk⟩, trivial⟩ ⟨lv, lv, lu_hd (b' := 0) (by kernel_rfl) (by kernel_rfl), lv, lu_hd (b' := 1) (by kernel_rfl) (by kernel_rfl), lv, lv, lv, trivial⟩) (ih r31 (wr .i64 (c8 + 1)) h)
    · rw [if_f hb9] at h
      refine Sem.exit ?_
      have hq := Option.some.inj h; subst hq
      exact ⟨rfl, (Wk.s3 [0, 1] ⟨⟨_, rfl, bu_mk⟩, ⟨_, rfl, bu_mk⟩, trivial⟩ ⟨lv, lv, lu_hd (b' := 0) (by kernel_rfl) (by kernel_rfl), lv, lu_hd (b' := 1) (by kernel_rfl) (by kernel_rfl), lv, lv, trivial⟩)⟩
set_option maxHeartbeats 4000000 in
set_option maxRecDepth 100000 in
theorem ref09_Beside_2_ok (x0 : Int) (x1 : (List (List (List Int)))) (c1 : (List (List Int))) (c2 : Int) : ∀ (f : Nat) (c4 : (List Int)) (c5 : Int) (r : ((List Int))), ref09_Beside_2 x0 x1 c1 c2 f c4 c5 = some r → SemN e_ref09_Beside ⟨none, false⟩ (pc cb_ref09_Beside [1, 1, 0, 1, 0, 0, 1, 0, 0, 1, 0, 1, 0, 0]) f ⟨Fr 75 [(0, .v (.int .i64 x0)), (1, .sl 1 (x1.map (cdL 1 (cdL 1 cdI)).enc)), (5, hd 0 (c1.map (cdL 1 cdI).enc)), (6, .v (.int .i64 c2)), (7, hd 1 (c4.map cdI.enc)), (8, .v (.int .i64 c5))], [mk 1 29 (c1.map (cdL 1 cdI).enc), mk 1 3 (c4.map cdI.enc)]⟩ (fun e s => e = (.exit 2) ∧ Wk e_ref09_Beside s ⟨Fr 75 [(0, .v (.int .i64 x0)), (1, .sl 1 (x1.map (cdL 1 (cdL 1 cdI)).enc)), (5, hd 0 (c1.map (cdL 1 cdI).enc)), (6, .v (.int .i64 c2)), (7, hd 1 (r.map cdI.enc))], [mk 1 29 (c1.map (cdL 1 cdI).enc), mk 1 3 (r.map cdI.enc)]⟩) := by
  intro f
  induction f with
  | zero => intro c4 c5 r h; cases h
  | succ f ih0 =>
    intro c4 c5 r h
    have ih := fun (c4 : (List Int)) (c5 : Int) => ih0 c4 c5 r
    unfold ref09_Beside_2 at h
    refine SemN.succ ?_
    refine Sem.seq ?_
    refine Sem.seq ?_
    refine Sem.runS (s1 := ⟨Fr 75 [(0, .v (.int .i64 x0)), (1, .sl 1 (x1.map (cdL 1 (cdL 1 cdI)).enc)), (5, hd 0 (c1.map (cdL 1 cdI).enc)), (6, .v (.int .i64 c2)), (7, hd 1 (c4.map cdI.enc)), (8, .v (.int .i64 c5)), (19, .v (.bool (decide (c5 < x0))))], [mk 1 29 (c1.map (cdL 1 cdI).enc), mk 1 3 (c4.map cdI.enc)]⟩) ?_ ?_
    · refine RunS.segF (n := 75) e_ref09_Beside_ok 3 [(0, .v (.int .i64 x0)), (1, .sl 1 (x1.map (cdL 1 (cdL 1 cdI)).enc)), (5, hd 0 (c1.map (cdL 1 cdI).enc)), (6, .v (.int .i64 c2)), (7, hd 1 (c4.map cdI.enc)), (8, .v (.int .i64 c5)), (19, .v (.bool (decide (c5 < x0))))] [mk 1 29 (c1.map (cdL 1 cdI).enc), mk 1 3 (c4.map cdI.enc)] (by kernel_rfl) ?_
      exact RunS.done rfl (Wk.s3 [0, 1] ⟨⟨_, rfl, bu_mk⟩, ⟨_, rfl, bu_mk⟩, trivial⟩ ⟨lv, lv, lu_hd (b' := 0) (by kernel_rfl) (by kernel_rfl), lv, lu_hd (b' := 1) (by kernel_rfl) (by kernel_rfl), lv, lv, trivial⟩)
    refine Sem.cond (b := (decide (c5 < x0))) (by kernel_rfl) (fun hb6 => ?_) (fun hb6 => ?_)
    · rw [if_pos hb6] at h
      refine Sem.skip ?_
      refine Sem.seq ?_
      refine Sem.block ?_
      refine Sem.seq ?_
      refine Sem.runS (s1 := ⟨Fr 75 [(0, .v (.int .i64 x0)), (1, .sl 1 (x1.map (cdL 1 (cdL 1 cdI)).enc)), (5, hd 0 (c1.map (cdL 1 cdI).enc)), (6, .v (.int .i64 c2)), (7, hd 1 (c4.map cdI.enc)), (8, .v (.int .i64 c5)), (9, .v (.int .i64 0))], [mk 1 29 (c1.map (cdL 1 cdI).enc), mk 1 3 (c4.map cdI.enc)]⟩) ?_ ?_
      · refine RunS.segF (n := 75) e_ref09_Beside_ok 1 [(0, .v (.int .i64 x0)), (1, .sl 1 (x1.map (cdL 1 (cdL 1 cdI)).enc)), (5, hd 0 (c1.map (cdL 1 cdI).enc)), (6, .v (.int .i64 c2)), (7, hd 1 (c4.map cdI.enc)), (8, .v (.int .i64 c5)), (9, .v (.int .i64 0))] [mk 1 29 (c1.map (cdL 1 cdI).enc), mk 1 3 (c4.map cdI.enc)] (by kernel_rfl) ?_
        exact RunS.done rfl (Wk.s3 [0, 1] ⟨⟨_, rfl, bu_mk⟩, ⟨_, rfl, bu_mk⟩, trivial⟩ ⟨lv, lv, lu_hd (b' := 0) (by kernel_rfl) (by kernel_rfl), lv, lu_hd (b' := 1) (by kernel_rfl) (by kernel_rfl), lv, lv, trivial⟩)
      refine Sem.seq ?_
      refine Sem.seq ?_
      refine Sem.runS (s1 := ⟨Fr 75 [(0, .v (.int .i64 x0)), (1, .sl 1 (x1.map (cdL 1 (cdL 1 cdI)).enc)), (5, hd 0 (c1.map (cdL 1 cdI).enc)), (6, .v (.int .i64 c2)), (7, hd 1 (c4.map cdI.enc)), (8, .v (.int .i64 c5)), (9, .v (.int .i64 0)), (10, .v (.int .i64 0))], [mk 1 29 (c1.map (cdL 1 cdI).enc), mk 1 3 (c4.map cdI.enc)]⟩) ?_ ?_
      · refine RunS.segF (n := 75) e_ref09_Beside_ok 1 [(0, .v (.int .i64 x0)), (1, .sl 1 (x1.map (cdL 1 (cdL 1 cdI)).enc)), (5, hd 0 (c1.map (cdL 1 cdI).enc)), (6, .v (.int .i64 c2)), (7, hd 1 (c4.map cdI.enc)), (8, .v (.int .i64 c5)), (9, .v (.int .i64 0)), (10, .v (.int .i64 0))] [mk 1 29 (c1.map (cdL 1 cdI).enc), mk 1 3 (c4.map cdI.enc)] (by kernel_rfl) ?_
        exact RunS.done rfl (Wk.s3 [0, 1] ⟨⟨_, rfl, bu_mk⟩, ⟨_, rfl, bu_mk⟩, trivial⟩ ⟨lv, lv, lu_hd (b' := 0) (by kernel_rfl) (by kernel_rfl), lv, lu_hd (b' := 1) (by kernel_rfl) (by kernel_rfl), lv, lv, lv, trivial⟩)
      refine Sem.block ?_
      obtain ⟨r33, hr33, h⟩ := Option.bind_eq_some_iff.1 h
      refine Sem.loop (n := 100000) ?_
      refine Sem.cutN (SemN.wk (s1 := ⟨Fr 75 [(0, .v (.int .i64 x0)), (1, .sl 1 (x1.map (cdL 1 (cdL 1 cdI)).enc)), (5, hd 0 (c1.map (cdL 1 cdI).enc)), (6, .v (.int .i64 c2)), (7, hd 1 (c4.map cdI.enc)), (8, .v (.int .i64 c5)), (9, .v (.int .i64 0)), (10, .v (.int .i64 0))], [mk 1 29 (c1.map (cdL 1 cdI).enc), mk 1 3 (c4.map cdI.enc)]⟩) (Wk.s3 [0, 1] ⟨⟨_, rfl, bu_mk⟩, ⟨_, rfl, bu_mk⟩, trivial⟩ ⟨lv, lv, lu_hd (b' := 0) (by kernel_rfl) (by kernel_rfl), lv, lu_hd (b' := 1) (by kernel_rfl) (by kernel_rfl), lv, lv, lv, trivial⟩) (ref09_Beside_3_ok x0 x1 c1 c2 c4 c5 _ 0 0 _ hr33)) ?_
      by_cases hk34 : (capOk 8 (c4.length + 1)) = true
      case neg => rw [if_neg hk34] at h; cases h
      rw [if_pos hk34] at h
      refine Sem.runS (s1 := ⟨Fr 75 [(0, .v (.int .i64 x0)), (1, .sl 1 (x1.map (cdL 1 (cdL 1 cdI)).enc)), (5, hd 0 (c1.map (cdL 1 cdI).enc)), (6, .v (.int .i64 c2)), (7, hd 1 ((c4 ++ [r33]).map cdI.enc)), (8, .v (.int .i64 c5))], [mk 1 29 (c1.map (cdL 1 cdI).enc), mk 1 3 ((c4 ++ [r33]).map cdI.enc)]⟩) ?_ ?_
      · refine RunS.segF (n := 75) e_ref09_Beside_ok 3 [(0, .v (.int .i64 x0)), (1, .sl 1 (x1.map (cdL 1 (cdL 1 cdI)).enc)), (5, hd 0 (c1.map (cdL 1 cdI).enc)), (6, .v (.int .i64 c2)), (8, .v (.int .i64 c5)), (66, hd 1 (c4.map cdI.enc)), (68, hd 2 ([r33].map cdI.enc))] [mk 1 29 (c1.map (cdL 1 cdI).enc), mk 1 3 (c4.map cdI.enc), mk 1 3 ([r33].map cdI.enc)] (by kernel_rfl) ?_
        refine RunS.one e_ref09_Beside_ok 0 rfl (op_w (wantedA_none rfl) rfl (by kernel_rfl) (by kernel_rfl) (w_append (a := hd 1 (c4.map cdI.enc)) (b := hd 2 ([r33].map cdI.enc)) (by kernel_rfl) (by kernel_rfl) (append_B (c := cdI) (xs := c4) (vs := [r33]) (k := 1) (bytes := 8) (el := 3) (by kernel_rfl) (by kernel_rfl) (elems_hd (t := 3) (by kernel_rfl)) (List.cons_ne_nil _ _) (by kernel_rfl) hk34))) ?_
        refine RunS.segF (n := 75) e_ref09_Beside_ok 1 [(0, .v (.int .i64 x0)), (1, .sl 1 (x1.map (cdL 1 (cdL 1 cdI)).enc)), (5, hd 0 (c1.map (cdL 1 cdI).enc)), (6, .v (.int .i64 c2)), (7, hd 3 ((c4 ++ [r33]).map cdI.enc)), (8, .v (.int .i64 c5))] [mk 1 29 (c1.map (cdL 1 cdI).enc), none, mk 1 3 ([r33].map cdI.enc), mk 1 3 ((c4 ++ [r33]).map cdI.enc)] (by kernel_rfl) ?_
        exact RunS.done rfl (Wk.s3 [0, 3] ⟨⟨_, rfl, bu_mk⟩, ⟨_, rfl, bu_mk⟩, trivial⟩ ⟨lv, lv, lu_hd (b' := 0) (by kernel_rfl) (by kernel_rfl), lv, lu_hd (b' := 3) (by kernel_rfl) (by kernel_rfl), lv, trivial⟩)
      refine Sem.runS (s1 := ⟨Fr 75 [(0, .v (.int .i64 x0)), (1, .sl 1 (x1.map (cdL 1 (cdL 1 cdI)).enc)), (5, hd 0 (c1.map (cdL 1 cdI).enc)), (6, .v (.int .i64 c2)), (7, hd 1 ((c4 ++ [r33]).map cdI.enc)), (8, .v (.int .i64 (wr .i64 (c5 + 1))))], [mk 1 29 (c1.map (cdL 1 cdI).enc), mk 1 3 ((c4 ++ [r33]).map cdI.enc)]⟩) ?_ ?_
      · refine RunS.segF (n := 75) e_ref09_Beside_ok 3 [(0, .v (.int .i64 x0)), (1, .sl 1 (x1.map (cdL 1 (cdL 1 cdI)).enc)), (5, hd 0 (c1.map (cdL 1 cdI).enc)), (6, .v (.int .i64 c2)), (7, hd 1 ((c4 ++ [r33]).map cdI.enc)), (8, .v (.int .i64 (wr .i64 (c5 + 1))))] [mk 1 29 (c1.map (cdL 1 cdI).enc), mk 1 3 ((c4 ++ [r33]).map cdI.enc)] (by kernel_rfl) ?_
        exact RunS.done rfl (Wk.s3 [0, 1] ⟨⟨_, rfl, bu_mk⟩, ⟨_, rfl, bu_mk⟩, trivial⟩ ⟨lv, lv, lu_hd (b' := 0) (by kernel_rfl) (by kernel_rfl), lv, lu_hd (b' := 1) (by kernel_rfl) (by kernel_rfl), lv, trivial⟩)
      exact SemN.wk (s1 := ⟨Fr 75 [(0, .v (.int .i64 x0)), (1, .sl 1 (x1.map (cdL 1 (cdL 1 cdI)).enc)), (5, hd 0 (c1.map (cdL 1 cdI).enc)), (6, .v (.int .i64 c2)), (7, hd 1 ((c4 ++ [r33]).map cdI.enc)), (8, .v (.int .i64 (wr .i64 (c5 + 1))))], [mk 1 29 (c1.map (cdL 1 cdI).enc), mk 1 3 ((c4 ++ [r33]).map cdI.enc)]⟩) (Wk.s3 [0, 1] ⟨⟨_, rfl, bu_mk⟩, ⟨_, rfl, bu_mk⟩, trivial⟩ ⟨lv, lv, lu_hd (b' := 0) (by kernel_rfl) (by kernel_rfl), lv, lu_hd (b' := 1) (by kernel_rfl) (by kernel_rfl), lv, trivial⟩) (ih (c4 ++ [r33]) (wr .i64 (c5 + 1)) h)
    · rw [if_f hb6] at h
      refine Sem.exit ?_
      have hq := Option.some.inj h; subst hq
      exact ⟨rfl, (Wk.s3 [0, 1] ⟨⟨_, rfl, bu_mk⟩, ⟨_, rfl, bu_mk⟩, trivial⟩ ⟨lv, lv, lu_hd (b' := 0) (by kernel_rfl) (by kernel_rfl), lv, lu_hd (b' := 1) (by kernel_rfl) (by kernel_rfl), trivial⟩)⟩
set_option maxHeartbeats 4000000 in
set_option maxRecDepth 100000 in
theorem ref09_Beside_1_ok (x0 : Int) (x1 : (List (List (List Int)))) : ∀ (f : Nat) (c1 : (List (List Int))) (c2 : Int) (r : ((List (List Int)))), ref09_Beside_1 x0 x1 f c1 c2 = some r → SemN e_ref09_Beside ⟨none, false⟩ (pc cb_ref09_Beside [1, 1, 0, 1, 0, 0]) f ⟨Fr 75 [(0, .v (.int .i64 x0)), (1, .sl 1 (x1.map (cdL 1 (cdL 1 cdI)).enc)), (5, hd 0 (c1.map (cdL 1 cdI).enc)), (6, .v (.int .i64 c2))], [mk 1 29 (c1.map (cdL 1 cdI).enc)]⟩ (fun e s => e = (.exit 0) ∧ Wk e_ref09_Beside s ⟨Fr 75 [(5, hd 0 (r.map (cdL 1 cdI).enc))], [mk 1 29 (r.map (cdL 1 cdI).enc)]⟩) := by
  intro f
  induction f with
  | zero => intro c1 c2 r h; cases h
  | succ f ih0 =>
    intro c1 c2 r h
    have ih := fun (c1 : (List (List Int))) (c2 : Int) => ih0 c1 c2 r
    unfold ref09_Beside_1 at h
    refine SemN.succ ?_
    refine Sem.seq ?_
    refine Sem.seq ?_
    refine Sem.runS (s1 := ⟨Fr 75 [(0, .v (.int .i64 x0)), (1, .sl 1 (x1.map (cdL 1 (cdL 1 cdI)).enc)), (5, hd 0 (c1.map (cdL 1 cdI).enc)), (6, .v (.int .i64 c2)), (14, .v (.bool (decide (c2 < x0))))], [mk 1 29 (c1.map (cdL 1 cdI).enc)]⟩) ?_ ?_
    · refine RunS.segF (n := 75) e_ref09_Beside_ok 3 [(0, .v (.int .i64 x0)), (1, .sl 1 (x1.map (cdL 1 (cdL 1 cdI)).enc)), (5, hd 0 (c1.map (cdL 1 cdI).enc)), (6, .v (.int .i64 c2)), (14, .v (.bool (decide (c2 < x0))))] [mk 1 29 (c1.map (cdL 1 cdI).enc)] (by kernel_rfl) ?_
      exact RunS.done rfl (Wk.s3 [0] ⟨⟨_, rfl, bu_mk⟩, trivial⟩ ⟨lv, lv, lu_hd (b' := 0) (by kernel_rfl) (by kernel_rfl), lv, lv, trivial⟩)
    refine Sem.cond (b := (decide (c2 < x0))) (by kernel_rfl) (fun hb3 => ?_) (fun hb3 => ?_)
    · rw [if_pos hb3] at h
      refine Sem.skip ?_
      refine Sem.seq ?_
      refine Sem.block ?_
      refine Sem.seq ?_
      refine Sem.runS (s1 := ⟨Fr 75 [(0, .v (.int .i64 x0)), (1, .sl 1 (x1.map (cdL 1 (cdL 1 cdI)).enc)), (5, hd 0 (c1.map (cdL 1 cdI).enc)), (6, .v (.int .i64 c2)), (7, .e0)], [mk 1 29 (c1.map (cdL 1 cdI).enc)]⟩) ?_ ?_
      · refine RunS.segF (n := 75) e_ref09_Beside_ok 1 [(0, .v (.int .i64 x0)), (1, .sl 1 (x1.map (cdL 1 (cdL 1 cdI)).enc)), (5, hd 0 (c1.map (cdL 1 cdI).enc)), (6, .v (.int .i64 c2)), (7, .e0)] [mk 1 29 (c1.map (cdL 1 cdI).enc)] (by kernel_rfl) ?_
        exact RunS.done rfl (Wk.s3 [0] ⟨⟨_, rfl, bu_mk⟩, trivial⟩ ⟨lv, lv, lu_hd (b' := 0) (by kernel_rfl) (by kernel_rfl), lv, lv, trivial⟩)
      refine Sem.seq ?_
      refine Sem.seq ?_
      refine Sem.runS (s1 := ⟨Fr 75 [(0, .v (.int .i64 x0)), (1, .sl 1 (x1.map (cdL 1 (cdL 1 cdI)).enc)), (5, hd 0 (c1.map (cdL 1 cdI).enc)), (6, .v (.int .i64 c2)), (7, .e0), (8, .v (.int .i64 0))], [mk 1 29 (c1.map (cdL 1 cdI).enc)]⟩) ?_ ?_
      · refine RunS.segF (n := 75) e_ref09_Beside_ok 1 [(0, .v (.int .i64 x0)), (1, .sl 1 (x1.map (cdL 1 (cdL 1 cdI)).enc)), (5, hd 0 (c1.map (cdL 1 cdI).enc)), (6, .v (.int .i64 c2)), (7, .e0), (8, .v (.int .i64 0))] [mk 1 29 (c1.map (cdL 1 cdI).enc)] (by kernel_rfl) ?_
        exact RunS.done rfl (Wk.s3 [0] ⟨⟨_, rfl, bu_mk⟩, trivial⟩ ⟨lv, lv, lu_hd (b' := 0) (by kernel_rfl) (by kernel_rfl), lv, lv, lv, trivial⟩)
      refine Sem.block ?_
      obtain ⟨r36, hr36, h⟩ := Option.bind_eq_some_iff.1 h
      refine Sem.loop (n := 100000) ?_
      refine Sem.cutN (SemN.wk (s1 := ⟨Fr 75 [(0, .v (.int .i64 x0)), (1, .sl 1 (x1.map (cdL 1 (cdL 1 cdI)).enc)), (5, hd 0 (c1.map (cdL 1 cdI).enc)), (6, .v (.int .i64 c2)), (7, hd 1 ([].map cdI.enc)), (8, .v (.int .i64 0))], [mk 1 29 (c1.map (cdL 1 cdI).enc), mk 1 3 ([].map cdI.enc)]⟩) (Wk.trans (s1 := ⟨Fr 75 [(0, .v (.int .i64 x0)), (1, .sl 1 (x1.map (cdL 1 (cdL 1 cdI)).enc)), (5, hd 0 (c1.map (cdL 1 cdI).enc)), (6, .v (.int .i64 c2)), (7, hd 1 ([].map cdI.enc)), (8, .v (.int .i64 0))], [mk 1 29 (c1.map (cdL 1 cdI).enc), mk 1 3 ([].map cdI.enc)]⟩) Wk.none (Wk.s3 [0, 1] ⟨⟨_, rfl, bu_mk⟩, ⟨_, rfl, bu_none⟩, trivial⟩ ⟨lv, lv, lu_hd (b' := 0) (by kernel_rfl) (by kernel_rfl), lv, lv, lv, trivial⟩)) (ref09_Beside_2_ok x0 x1 c1 c2 _ [] 0 _ hr36)) ?_
      by_cases hk37 : (capOk 24 (c1.length + 1)) = true
      case neg => rw [if_neg hk37] at h; cases h
      rw [if_pos hk37] at h
      refine Sem.runS (s1 := ⟨Fr 75 [(0, .v (.int .i64 x0)), (1, .sl 1 (x1.map (cdL 1 (cdL 1 cdI)).enc)), (5, hd 0 ((c1 ++ [r36]).map (cdL 1 cdI).enc)), (6, .v (.int .i64 c2))], [mk 1 29 ((c1 ++ [r36]).map (cdL 1 cdI).enc)]⟩) ?_ ?_
      · refine RunS.segF (n := 75) e_ref09_Beside_ok 2 [(0, .v (.int .i64 x0)), (1, .sl 1 (x1.map (cdL 1 (cdL 1 cdI)).enc)), (6, .v (.int .i64 c2)), (70, hd 0 (c1.map (cdL 1 cdI).enc)), (71, hd 1 (r36.map cdI.enc))] [mk 1 29 (c1.map (cdL 1 cdI).enc), mk 1 3 (r36.map cdI.enc)] (by kernel_rfl) ?_
        refine RunS.wk (s1 := ⟨Fr 75 [(0, .v (.int .i64 x0)), (1, .sl 1 (x1.map (cdL 1 (cdL 1 cdI)).enc)), (6, .v (.int .i64 c2)), (70, hd 0 (c1.map (cdL 1 cdI).enc)), (71, .sl 1 (r36.map cdI.enc))], [mk 1 29 (c1.map (cdL 1 cdI).enc), none]⟩) (Wk.frzG 1 (.inl (by kernel_rfl)) ⟨.inr (.inl rfl), .inl rfl, trivial⟩ ⟨⟨.v (.int .i64 x0), (by kernel_rfl), .inl rfl⟩, ⟨.sl 1 (x1.map (cdL 1 (cdL 1 cdI)).enc), (by kernel_rfl), .inl rfl⟩, ⟨.v (.int .i64 c2), (by kernel_rfl), .inl rfl⟩, ⟨hd 0 (c1.map (cdL 1 cdI).enc), (by kernel_rfl), .inl rfl⟩, ⟨hd 1 (r36.map cdI.enc), (by kernel_rfl), fz_hd (t := 3) (by kernel_rfl) enc_ok⟩, trivial⟩) ?_
        refine RunS.segF (n := 75) e_ref09_Beside_ok 1 [(0, .v (.int .i64 x0)), (1, .sl 1 (x1.map (cdL 1 (cdL 1 cdI)).enc)), (6, .v (.int .i64 c2)), (70, hd 0 (c1.map (cdL 1 cdI).enc)), (72, hd 2 ([r36].map (cdL 1 cdI).enc))] [mk 1 29 (c1.map (cdL 1 cdI).enc), none, mk 1 29 ([r36].map (cdL 1 cdI).enc)] (by kernel_rfl) ?_
        refine RunS.one e_ref09_Beside_ok 0 rfl (op_w (wantedA_none rfl) rfl (by kernel_rfl) (by kernel_rfl) (w_append (a := hd 0 (c1.map (cdL 1 cdI).enc)) (b := hd 2 ([r36].map (cdL 1 cdI).enc)) (by kernel_rfl) (by kernel_rfl) (append_B (c := (cdL 1 cdI)) (xs := c1) (vs := [r36]) (k := 1) (bytes := 24) (el := 29) (by kernel_rfl) (by kernel_rfl) (elems_hd (t := 29) (by kernel_rfl)) (List.cons_ne_nil _ _) (by kernel_rfl) hk37))) ?_
        refine RunS.segF (n := 75) e_ref09_Beside_ok 1 [(0, .v (.int .i64 x0)), (1, .sl 1 (x1.map (cdL 1 (cdL 1 cdI)).enc)), (5, hd 3 ((c1 ++ [r36]).map (cdL 1 cdI).enc)), (6, .v (.int .i64 c2))] [none, none, mk 1 29 ([r36].map (cdL 1 cdI).enc), mk 1 29 ((c1 ++ [r36]).map (cdL 1 cdI).enc)] (by kernel_rfl) ?_
        exact RunS.done rfl (Wk.s3 [3] ⟨⟨_, rfl, bu_mk⟩, trivial⟩ ⟨lv, lv, lu_hd (b' := 3) (by kernel_rfl) (by kernel_rfl), lv, trivial⟩)
      refine Sem.runS (s1 := ⟨Fr 75 [(0, .v (.int .i64 x0)), (1, .sl 1 (x1.map (cdL 1 (cdL 1 cdI)).enc)), (5, hd 0 ((c1 ++ [r36]).map (cdL 1 cdI).enc)), (6, .v (.int .i64 (wr .i64 (c2 + 1))))], [mk 1 29 ((c1 ++ [r36]).map (cdL 1 cdI).enc)]⟩) ?_ ?_
      · refine RunS.segF (n := 75) e_ref09_Beside_ok 3 [(0, .v (.int .i64 x0)), (1, .sl 1 (x1.map (cdL 1 (cdL 1 cdI)).enc)), (5, hd 0 ((c1 ++ [r36]).map (cdL 1 cdI).enc)), (6, .v (.int .i64 (wr .i64 (c2 + 1))))] [mk 1 29 ((c1 ++ [r36]).map (cdL 1 cdI).enc)] (by kernel_rfl) ?_
        exact RunS.done rfl (Wk.s3 [0] ⟨⟨_, rfl, bu_mk⟩, trivial⟩ ⟨lv, lv, lu_hd (b' := 0) (by kernel_rfl) (by kernel_rfl), lv, trivial⟩)
      exact SemN.wk (s1 := ⟨Fr 75 [(0, .v (.int .i64 x0)), (1, .sl 1 (x1.map (cdL 1 (cdL 1 cdI)).enc)), (5, hd 0 ((c1 ++ [r36]).map (cdL 1 cdI).enc)), (6, .v (.int .i64 (wr .i64 (c2 + 1))))], [mk 1 29 ((c1 ++ [r36]).map (cdL 1 cdI).enc)]⟩) (Wk.s3 [0] ⟨⟨_, rfl, bu_mk⟩, trivial⟩ ⟨lv, lv, lu_hd (b' := 0) (by kernel_rfl) (by kernel_rfl), lv, trivial⟩) (ih (c1 ++ [r36]) (wr .i64 (c2 + 1)) h)
    · rw [if_f hb3] at h
      refine Sem.exit ?_
      have hq := Option.some.inj h; subst hq
      exact ⟨rfl, (Wk.s3 [0] ⟨⟨_, rfl, bu_mk⟩, trivial⟩ ⟨lu_hd (b' := 0) (by kernel_rfl) (by kernel_rfl), trivial⟩)⟩
set_option maxHeartbeats 4000000 in
set_option maxRecDepth 100000 in
theorem ref09_Beside_sem (x0 : Int) (x1 : (List (List (List Int)))) (r : (List (List Int))) (h : ref09_Beside x0 x1 = some r) : Sem e_ref09_Beside ⟨none, false⟩ cb_ref09_Beside ⟨Fr 75 (pairs0 0 (cs_ref09_Beside.enc (x0, x1, ()))), []⟩ fun e s' => (e = .normal ∨ e = .ret) ∧ ∃ xs, resA e_ref09_Beside.P s'.fr s'.hp Tryd.f24.results.toList = some xs ∧ retA xs = er_ref09_Beside r := by
  unfold ref09_Beside at h
  refine Sem.wkQ (Sem.wk (s1 := ⟨Fr 75 [(0, .v (.int .i64 x0)), (1, .sl 1 (x1.map (cdL 1 (cdL 1 cdI)).enc))], []⟩) Wk.f1 ?_)
  refine Sem.seq ?_
  refine Sem.runS (s1 := ⟨Fr 75 [(0, .v (.int .i64 x0)), (1, .sl 1 (x1.map (cdL 1 (cdL 1 cdI)).enc))], []⟩) ?_ ?_
  · refine RunS.segF (n := 75) e_ref09_Beside_ok 1 [(0, .v (.int .i64 x0)), (1, .sl 1 (x1.map (cdL 1 (cdL 1 cdI)).enc))] [] (by kernel_rfl) ?_
    exact RunS.done rfl Wk.f1
  refine Sem.seq ?_
  refine Sem.runS (s1 := ⟨Fr 75 [(0, .v (.int .i64 x0)), (1, .sl 1 (x1.map (cdL 1 (cdL 1 cdI)).enc)), (5, .e0)], []⟩) ?_ ?_
  · refine RunS.segF (n := 75) e_ref09_Beside_ok 1 [(0, .v (.int .i64 x0)), (1, .sl 1 (x1.map (cdL 1 (cdL 1 cdI)).enc)), (5, .e0)] [] (by kernel_rfl) ?_
    exact RunS.done rfl Wk.f1
  refine Sem.seq ?_
  refine Sem.seq ?_
  refine Sem.runS (s1 := ⟨Fr 75 [(0, .v (.int .i64 x0)), (1, .sl 1 (x1.map (cdL 1 (cdL 1 cdI)).enc)), (5, .e0), (6, .v (.int .i64 0))], []⟩) ?_ ?_
  · refine RunS.segF (n := 75) e_ref09_Beside_ok 1 [(0, .v (.int .i64 x0)), (1, .sl 1 (x1.map (cdL 1 (cdL 1 cdI)).enc)), (5, .e0), (6, .v (.int .i64 0))] [] (by kernel_rfl) ?_
    exact RunS.done rfl Wk.f1
  refine Sem.block ?_
  obtain ⟨r39, hr39, h⟩ := Option.bind_eq_some_iff.1 h
  refine Sem.loop (n := 100000) ?_
  refine Sem.cutN (SemN.wk (s1 := ⟨Fr 75 [(0, .v (.int .i64 x0)), (1, .sl 1 (x1.map (cdL 1 (cdL 1 cdI)).enc)), (5, hd 0 ([].map (cdL 1 cdI).enc)), (6, .v (.int .i64 0))], [mk 1 29 ([].map (cdL 1 cdI).enc)]⟩) (Wk.trans (s1 := ⟨Fr 75 [(0, .v (.int .i64 x0)), (1, .sl 1 (x1.map (cdL 1 (cdL 1 cdI)).enc)), (5, hd 0 ([].map (cdL 1 cdI).enc)), (6, .v (.int .i64 0))], [mk 1 29 ([].map (cdL 1 cdI).enc)]⟩) Wk.none (Wk.s3 [0] ⟨⟨_, rfl, bu_none⟩, trivial⟩ ⟨lv, lv, lv, lv, trivial⟩)) (ref09_Beside_1_ok x0 x1 _ [] 0 _ hr39)) ?_
  refine Sem.seq ?_
  refine Sem.runS (s1 := ⟨Fr 75 [(4, hd 0 (r39.map (cdL 1 cdI).enc))], [mk 1 29 (r39.map (cdL 1 cdI).enc)]⟩) ?_ ?_
  · refine RunS.segF (n := 75) e_ref09_Beside_ok 2 [(4, hd 0 (r39.map (cdL 1 cdI).enc))] [mk 1 29 (r39.map (cdL 1 cdI).enc)] (by kernel_rfl) ?_
    exact RunS.done rfl (Wk.s3 [0] ⟨⟨_, rfl, bu_mk⟩, trivial⟩ ⟨lu_hd (b' := 0) (by kernel_rfl) (by kernel_rfl), trivial⟩)
  refine Sem.ret ?_
  have hq := Option.some.inj h; subst hq
  exact ⟨⟨Fr 75 [(4, .sl 1 (r39.map (cdL 1 cdI).enc))], []⟩, (Wk.trans (s1 := ⟨Fr 75 [(4, .sl 1 (r39.map (cdL 1 cdI).enc))], [none]⟩) (Wk.frzG 0 (.inl (by kernel_rfl)) ⟨.inl rfl, trivial⟩ ⟨⟨hd 0 (r39.map (cdL 1 cdI).enc), (by kernel_rfl), fz_hd (t := 29) (by kernel_rfl) enc_ok⟩, trivial⟩) (Wk.s3 [] trivial ⟨lv, trivial⟩)), .inr rfl, [.sl 1 (r39.map (cdL 1 cdI).enc)], (by kernel_rfl), (by kernel_rfl)⟩
def t_ref09_Beside : List AV → Option AV := told cs_ref09_Beside (fun a => ref09_Beside a.1 a.2.1) er_ref09_Beside
theorem x_ref09_Beside : XOk 24 t_ref09_Beside := by
  refine EnvOk.x (E := e_ref09_Beside) (contract_ok e_ref09_Beside_ok (fn := Tryd.f24) (c := cb_ref09_Beside) ?h1 ?h2 ⟨Tryd.call24⟩ cs_ref09_Beside (fun a => ref09_Beside a.1 a.2.1) er_ref09_Beside (fun a => (by show 2 ≤ 75; decide)) ?h3 ?h4) rfl rfl
  case h1 => kernel_rfl
  case h2 => kernel_rfl
  case h3 => intro b; kernel_rfl
  case h4 => exact fun a b h => ref09_Beside_sem a.1 a.2.1 b h
/- slices.Equal[[]int,int] -/
noncomputable def e_slices_Equal_L_int : Env := E0
theorem e_slices_Equal_L_int_ok : EnvOk e_slices_Equal_L_int := E0_ok
noncomputable def cb_slices_Equal_L_int : Code := codeOf Tryd.f25
def slices_Equal_L_int_1 (x0 : (List Int)) (x1 : (List Int)) : Nat → Int → Option ((Unit) ⊕ (Bool))
  | 0, _ => none
  | f + 1, c2 =>
    if (decide (c2 < (x0.length : Int))) = true then
    (idx x0 c2).bind fun v4 =>
    (idx x1 c2).bind fun v5 =>
    if (v4 != v5) = true then
    some (.inr false)
    else
    slices_Equal_L_int_1 x0 x1 f (wr .i64 (c2 + 1))
    else
    some (.inl ())
def slices_Equal_L_int (x0 : (List Int)) (x1 : (List Int)) : Option (Bool) :=
  if ((x0.length : Int) != (x1.length : Int)) = true then
  some false
  else
  (slices_Equal_L_int_1 x0 x1 100000 0).bind fun r8 =>
  match r8 with
  | (.inl w9) =>
    some true
  | (.inr w10) =>
    some w10
def cs_slices_Equal_L_int : Cs ((List Int) × (List Int) × Unit) := (csC (cdL 1 cdI) (csC (cdL 1 cdI) csN))
def er_slices_Equal_L_int (r : Bool) : AV := cdB.enc r
set_option maxHeartbeats 4000000 in
set_option maxRecDepth 100000 in
theorem slices_Equal_L_int_1_ok (x0 : (List Int)) (x1 : (List Int)) : ∀ (f : Nat) (c2 : Int) (r : (Unit) ⊕ (Bool)), slices_Equal_L_int_1 x0 x1 f c2 = some r → SemN e_slices_Equal_L_int ⟨none, false⟩ (pc cb_slices_Equal_L_int [1, 1, 0, 1, 0, 0]) f ⟨Fr 26 [(0, .sl 1 (x0.map cdI.enc)), (1, .sl 1 (x1.map cdI.enc)), (12, .v (.int .i64 (x0.length : Int))), (13, .v (.int .i64 c2))], []⟩ (fun e s => match r with
  | (.inl w) => e = (.exit 0) ∧ Wk e_slices_Equal_L_int s ⟨Fr 26 [], []⟩
  | (.inr w) => e = .ret ∧ Wk e_slices_Equal_L_int s ⟨Fr 26 [(4, .v (.bool w))], []⟩) := by
  intro f
  induction f with
  | zero => intro c2 r h; cases h
  | succ f ih0 =>
    intro c2 r h
    have ih := fun (c2 : Int) => ih0 c2 r
    unfold slices_Equal_L_int_1 at h
    refine SemN.succ ?_
    refine Sem.seq ?_
    refine Sem.runS (s1 := ⟨Fr 26 [(0, .sl 1 (x0.map cdI.enc)), (1, .sl 1 (x1.map cdI.enc)), (12, .v (.int .i64 (x0.length : Int))), (13, .v (.int .i64 c2)), (14, .v (.bool (decide (c2 < (x0.length : Int)))))], []⟩) ?_ ?_
    · refine RunS.segF (n := 26) e_slices_Equal_L_int_ok 1 [(0, .sl 1 (x0.map cdI.enc)), (1, .sl 1 (x1.map cdI.enc)), (12, .v (.int .i64 (x0.length : Int))), (13, .v (.int .i64 c2)), (14, .v (.bool (decide (c2 < (x0.length : Int)))))] [] (by kernel_rfl) ?_
      exact RunS.done rfl Wk.f1
    refine Sem.seq ?_
    refine Sem.cond (b := (decide (c2 < (x0.length : Int)))) (by kernel_rfl) (fun hb3 => ?_) (fun hb3 => ?_)
    · rw [if_pos hb3] at h
      refine Sem.skip ?_
      refine Sem.seq ?_
      refine Sem.block ?_
      refine Sem.seq ?_
      refine Sem.runS (s1 := ⟨Fr 26 [(0, .sl 1 (x0.map cdI.enc)), (1, .sl 1 (x1.map cdI.enc)), (5, .v (.int .i64 c2)), (12, .v (.int .i64 (x0.length : Int))), (13, .v (.int .i64 c2))], []⟩) ?_ ?_
      · refine RunS.segF (n := 26) e_slices_Equal_L_int_ok 2 [(0, .sl 1 (x0.map cdI.enc)), (1, .sl 1 (x1.map cdI.enc)), (5, .v (.int .i64 c2)), (12, .v (.int .i64 (x0.length : Int))), (13, .v (.int .i64 c2))] [] (by kernel_rfl) ?_
        exact RunS.done rfl Wk.f1
      refine Sem.seq ?_
      obtain ⟨v4, hv4, h⟩ := Option.bind_eq_some_iff.1 h
      obtain ⟨v5, hv5, h⟩ := Option.bind_eq_some_iff.1 h
      refine Sem.runDS e_slices_Equal_L_int_ok (s1 := ⟨Fr 26 [(0, .sl 1 (x0.map cdI.enc)), (1, .sl 1 (x1.map cdI.enc)), (12, .v (.int .i64 (x0.length : Int))), (13, .v (.int .i64 c2)), (24, .v (.bool (v4 != v5)))], []⟩) (by kernel_rfl) ?_ ?_
      · refine RunDS.segF (n := 26) e_slices_Equal_L_int_ok 2 [(0, .sl 1 (x0.map cdI.enc)), (1, .sl 1 (x1.map cdI.enc)), (5, .v (.int .i64 c2)), (12, .v (.int .i64 (x0.length : Int))), (13, .v (.int .i64 c2)), (16, .sl 1 (x0.map cdI.enc)), (17, .v (.int .i64 c2))] [] (by kernel_rfl) (by kernel_rfl) ?_
        refine RunDS.one e_slices_Equal_L_int_ok rfl (by kernel_rfl) (opd_q (by kernel_rfl) (wantedA_none rfl) rfl (q_indexAddr (a := .sl 1 (x0.map cdI.enc)) (b := .v (.int .i64 c2)) (by kernel_rfl) (by kernel_rfl) (ix_sl (e := cdI.enc) (el := 3) (k := 1) (ki := .i64) (by kernel_rfl) (by kernel_rfl) hv4)) (by kernel_rfl)) ?_
        refine RunDS.segF (n := 26) e_slices_Equal_L_int_ok 3 [(0, .sl 1 (x0.map cdI.enc)), (1, .sl 1 (x1.map cdI.enc)), (12, .v (.int .i64 (x0.length : Int))), (13, .v (.int .i64 c2)), (19, .v (.int .i64 v4)), (20, .sl 1 (x1.map cdI.enc)), (21, .v (.int .i64 c2))] [] (by kernel_rfl) (by kernel_rfl) ?_
        refine RunDS.one e_slices_Equal_L_int_ok rfl (by kernel_rfl) (opd_q (by kernel_rfl) (wantedA_none rfl) rfl (q_indexAddr (a := .sl 1 (x1.map cdI.enc)) (b := .v (.int .i64 c2)) (by kernel_rfl) (by kernel_rfl) (ix_sl (e := cdI.enc) (el := 3) (k := 1) (ki := .i64) (by kernel_rfl) (by kernel_rfl) hv5)) (by kernel_rfl)) ?_
        refine RunDS.segF (n := 26) e_slices_Equal_L_int_ok 2 [(0, .sl 1 (x0.map cdI.enc)), (1, .sl 1 (x1.map cdI.enc)), (12, .v (.int .i64 (x0.length : Int))), (13, .v (.int .i64 c2)), (24, .v (.bool (v4 != v5)))] [] (by kernel_rfl) (by kernel_rfl) ?_
        exact RunDS.done rfl Wk.f1
      refine Sem.cond (b := (v4 != v5)) (by kernel_rfl) (fun hb6 => ?_) (fun hb6 => ?_)
      · rw [if_pos hb6] at h
        refine Sem.seq ?_
        refine Sem.runS (s1 := ⟨Fr 26 [(4, .v (.bool false))], []⟩) ?_ ?_
        · refine RunS.segF (n := 26) e_slices_Equal_L_int_ok 1 [(4, .v (.bool false))] [] (by kernel_rfl) ?_
          exact RunS.done rfl Wk.f1
        refine Sem.ret ?_
        have hq := Option.some.inj h; subst hq
        exact ⟨rfl, Wk.f1⟩
      · rw [if_f hb6] at h
        refine Sem.skip ?_
        refine Sem.runS (s1 := ⟨Fr 26 [(0, .sl 1 (x0.map cdI.enc)), (1, .sl 1 (x1.map cdI.enc)), (12, .v (.int .i64 (x0.length : Int))), (13, .v (.int .i64 (wr .i64 (c2 + 1))))], []⟩) ?_ ?_
        · refine RunS.segF (n := 26) e_slices_Equal_L_int_ok 2 [(0, .sl 1 (x0.map cdI.enc)), (1, .sl 1 (x1.map cdI.enc)), (12, .v (.int .i64 (x0.length : Int))), (13, .v (.int .i64 (wr .i64 (c2 + 1))))] [] (by kernel_rfl) ?_
          exact RunS.done rfl Wk.f1
        exact SemN.wk (s1 := ⟨Fr 26 [(0, .sl 1 (x0.map cdI.enc)), (1, .sl 1 (x1.map cdI.enc)), (12, .v (.int .i64 (x0.length : Int))), (13, .v (.int .i64 (wr .i64 (c2 + 1))))], []⟩) Wk.f1 (ih (wr .i64 (c2 + 1)) h)
    · rw [if_f hb3] at h
      refine Sem.exit ?_
      have hq := Option.some.inj h; subst hq
      exact ⟨rfl, Wk.f1⟩
set_option maxHeartbeats 4000000 in
set_option maxRecDepth 100000 in
theorem slices_Equal_L_int_sem (x0 : (List Int)) (x1 : (List Int)) (r : Bool) (h : slices_Equal_L_int x0 x1 = some r) : Sem e_slices_Equal_L_int ⟨none, false⟩ cb_slices_Equal_L_int ⟨Fr 26 (pairs0 0 (cs_slices_Equal_L_int.enc (x0, x1, ()))), []⟩ fun e s' => (e = .normal ∨ e = .ret) ∧ ∃ xs, resA e_slices_Equal_L_int.P s'.fr s'.hp Tryd.f25.results.toList = some xs ∧ retA xs = er_slices_Equal_L_int r := by
  unfold slices_Equal_L_int at h
  refine Sem.wkQ (Sem.wk (s1 := ⟨Fr 26 [(0, .sl 1 (x0.map cdI.enc)), (1, .sl 1 (x1.map cdI.enc))], []⟩) Wk.f1 ?_)
  refine Sem.seq ?_
  refine Sem.runS (s1 := ⟨Fr 26 [(0, .sl 1 (x0.map cdI.enc)), (1, .sl 1 (x1.map cdI.enc))], []⟩) ?_ ?_
  · refine RunS.segF (n := 26) e_slices_Equal_L_int_ok 1 [(0, .sl 1 (x0.map cdI.enc)), (1, .sl 1 (x1.map cdI.enc))] [] (by kernel_rfl) ?_
    exact RunS.done rfl Wk.f1
  refine Sem.seq ?_
  refine Sem.seq ?_
  refine Sem.runS (s1 := ⟨Fr 26 [(0, .sl 1 (x0.map cdI.enc)), (1, .sl 1 (x1.map cdI.enc)), (10, .v (.bool ((x0.length : Int) != (x1.length : Int))))], []⟩) ?_ ?_
  · refine RunS.segF (n := 26) e_slices_Equal_L_int_ok 1 [(0, .sl 1 (x0.map cdI.enc)), (1, .sl 1 (x1.map cdI.enc)), (6, .sl 1 (x0.map cdI.enc))] [] (by kernel_rfl) ?_
    refine RunS.one e_slices_Equal_L_int_ok 0 rfl (op_q (wantedA_none rfl) rfl (q_len (a := .sl 1 (x0.map cdI.enc)) (by kernel_rfl) (len_sl (el := 3) (by kernel_rfl)))) ?_
    refine RunS.segF (n := 26) e_slices_Equal_L_int_ok 1 [(0, .sl 1 (x0.map cdI.enc)), (1, .sl 1 (x1.map cdI.enc)), (7, .v (.int .i64 (x0.length : Int))), (8, .sl 1 (x1.map cdI.enc))] [] (by kernel_rfl) ?_
    refine RunS.one e_slices_Equal_L_int_ok 0 rfl (op_q (wantedA_none rfl) rfl (q_len (a := .sl 1 (x1.map cdI.enc)) (by kernel_rfl) (len_sl (el := 3) (by kernel_rfl)))) ?_
    refine RunS.segF (n := 26) e_slices_Equal_L_int_ok 1 [(0, .sl 1 (x0.map cdI.enc)), (1, .sl 1 (x1.map cdI.enc)), (10, .v (.bool ((x0.length : Int) != (x1.length : Int))))] [] (by kernel_rfl) ?_
    exact RunS.done rfl Wk.f1
  refine Sem.cond (b := ((x0.length : Int) != (x1.length : Int))) (by kernel_rfl) (fun hb1 => ?_) (fun hb1 => ?_)
  · rw [if_pos hb1] at h
    refine Sem.seq ?_
    refine Sem.runS (s1 := ⟨Fr 26 [(4, .v (.bool false))], []⟩) ?_ ?_
    · refine RunS.segF (n := 26) e_slices_Equal_L_int_ok 1 [(4, .v (.bool false))] [] (by kernel_rfl) ?_
      exact RunS.done rfl Wk.f1
    refine Sem.ret ?_
    have hq := Option.some.inj h; subst hq
    exact ⟨⟨Fr 26 [(4, .v (.bool false))], []⟩, Wk.f1, .inr rfl, [.v (.bool false)], (by kernel_rfl), (by kernel_rfl)⟩
  · rw [if_f hb1] at h
    refine Sem.skip ?_
    refine Sem.seq ?_
    refine Sem.seq ?_
    refine Sem.runS (s1 := ⟨Fr 26 [(0, .sl 1 (x0.map cdI.enc)), (1, .sl 1 (x1.map cdI.enc)), (12, .v (.int .i64 (x0.length : Int))), (13, .v (.int .i64 0))], []⟩) ?_ ?_
    · refine RunS.segF (n := 26) e_slices_Equal_L_int_ok 1 [(0, .sl 1 (x0.map cdI.enc)), (1, .sl 1 (x1.map cdI.enc)), (11, .sl 1 (x0.map cdI.enc))] [] (by kernel_rfl) ?_
      refine RunS.one e_slices_Equal_L_int_ok 0 rfl (op_q (wantedA_none rfl) rfl (q_len (a := .sl 1 (x0.map cdI.enc)) (by kernel_rfl) (len_sl (el := 3) (by kernel_rfl)))) ?_
      refine RunS.segF (n := 26) e_slices_Equal_L_int_ok 1 [(0, .sl 1 (x0.map cdI.enc)), (1, .sl 1 (x1.map cdI.enc)), (12, .v (.int .i64 (x0.length : Int))), (13, .v (.int .i64 0))] [] (by kernel_rfl) ?_
      exact RunS.done rfl Wk.f1
    refine Sem.block ?_
    obtain ⟨r8, hr8, h⟩ := Option.bind_eq_some_iff.1 h
    refine Sem.loop (n := 100000) ?_
    rcases r8 with w9 | w10
    · try dsimp only at h
      refine Sem.cutN (SemN.wk (s1 := ⟨Fr 26 [(0, .sl 1 (x0.map cdI.enc)), (1, .sl 1 (x1.map cdI.enc)), (12, .v (.int .i64 (x0.length : Int))), (13, .v (.int .i64 0))], []⟩) Wk.f1 (slices_Equal_L_int_1_ok x0 x1 _ 0 _ hr8)) ?_
      refine Sem.seq ?_
      refine Sem.runS (s1 := ⟨Fr 26 [(4, .v (.bool true))], []⟩) ?_ ?_
      · refine RunS.segF (n := 26) e_slices_Equal_L_int_ok 1 [(4, .v (.bool true))] [] (by kernel_rfl) ?_
        exact RunS.done rfl Wk.f1
      refine Sem.ret ?_
      have hq := Option.some.inj h; subst hq
      exact ⟨⟨Fr 26 [(4, .v (.bool true))], []⟩, Wk.f1, .inr rfl, [.v (.bool true)], (by kernel_rfl), (by kernel_rfl)⟩
    · try dsimp only at h
      refine Sem.cutN (SemN.wk (s1 := ⟨Fr 26 [(0, .sl 1 (x0.map cdI.enc)), (1, .sl 1 (x1.map cdI.enc)), (12, .v (.int .i64 (x0.length : Int))), (13, .v (.int .i64 0))], []⟩) Wk.f1 (slices_Equal_L_int_1_ok x0 x1 _ 0 _ hr8)) ?_
      have hq := Option.some.inj h; subst hq
      exact ⟨⟨Fr 26 [(4, .v (.bool w10))], []⟩, Wk.f1, .inr rfl, [.v (.bool w10)], (by kernel_rfl), (by kernel_rfl)⟩
def t_slices_Equal_L_int : List AV → Option AV := told cs_slices_Equal_L_int (fun a => slices_Equal_L_int a.1 a.2.1) er_slices_Equal_L_int
theorem x_slices_Equal_L_int : XOk 25 t_slices_Equal_L_int := by
  refine EnvOk.x (E := e_slices_Equal_L_int) (contract_ok e_slices_Equal_L_int_ok (fn := Tryd.f25) (c := cb_slices_Equal_L_int) ?h1 ?h2 ⟨Tryd.call25⟩ cs_slices_Equal_L_int (fun a => slices_Equal_L_int a.1 a.2.1) er_slices_Equal_L_int (fun a => (by show 2 ≤ 26; decide)) ?h3 ?h4) rfl rfl
  case h1 => kernel_rfl
  case h2 => kernel_rfl
  case h3 => intro b; kernel_rfl
  case h4 => exact fun a b h => slices_Equal_L_int_sem a.1 a.2.1 b h
/- trestle/trestleref09.Most -/
noncomputable def e_ref09_Most : Env := E0
theorem e_ref09_Most_ok : EnvOk e_ref09_Most := E0_ok
noncomputable def cb_ref09_Most : Code := codeOf Tryd.f26
def ref09_Most_2 (x0 : (List (List Int))) (c2 : Int) : Nat → Int → Int → Option ((Int))
  | 0, _, _ => none
  | f + 1, c4, c5 =>
    if (decide (c5 < c2)) = true then
    (idx x0 c2).bind fun v7 =>
    (idx v7 c5).bind fun v8 =>
    ref09_Most_2 x0 c2 f (mxI c4 v8) (wr .i64 (c5 + 1))
    else
    some c4
def ref09_Most_1 (x0 : (List (List Int))) : Nat → Int → Int → Option ((Int))
  | 0, _, _ => none
  | f + 1, c1, c2 =>
    if (decide (c2 < (x0.length : Int))) = true then
    (ref09_Most_2 x0 c2 100000 c1 0).bind fun r10 =>
    ref09_Most_1 x0 f r10 (wr .i64 (c2 + 1))
    else
    some c1
def ref09_Most (x0 : (List (List Int))) : Option (Int) :=
  (ref09_Most_1 x0 100000 0 0).bind fun r12 =>
  some r12
def cs_ref09_Most : Cs ((List (List Int)) × Unit) := (csC (cdL 1 (cdL 1 cdI)) csN)
def er_ref09_Most (r : Int) : AV := cdI.enc r
set_option maxHeartbeats 4000000 in
set_option maxRecDepth 100000 in
theorem ref09_Most_2_ok (x0 : (List (List Int))) (c2 : Int) : ∀ (f : Nat) (c4 : Int) (c5 : Int) (r : (Int)), ref09_Most_2 x0 c2 f c4 c5 = some r → SemN e_ref09_Most ⟨none, false⟩ (pc cb_ref09_Most [1, 1, 0, 1, 0, 0, 1, 0, 0, 1, 0, 0]) f ⟨Fr 27 [(0, .sl 1 (x0.map (cdL 1 cdI).enc)), (3, .v (.int .i64 c4)), (4, .v (.int .i64 c2)), (5, .v (.int .i64 c5))], []⟩ (fun e s => e = (.exit 2) ∧ Wk e_ref09_Most s ⟨Fr 27 [(0, .sl 1 (x0.map (cdL 1 cdI).enc)), (3, .v (.int .i64 r)), (4, .v (.int .i64 c2))], []⟩) := by
  intro f
  induction f with
  | zero => intro c4 c5 r h; cases h
  | succ f ih0 =>
    intro c4 c5 r h
    have ih := fun (c4 : Int) (c5 : Int) => ih0 c4 c5 r
    unfold ref09_Most_2 at h
    refine SemN.succ ?_
    refine Sem.seq ?_
    refine Sem.seq ?_
    refine Sem.runS (s1 := ⟨Fr 27 [(0, .sl 1 (x0.map (cdL 1 cdI).enc)), (3, .v (.int .i64 c4)), (4, .v (.int .i64 c2)), (5, .v (.int .i64 c5)), (14, .v (.bool (decide (c5 < c2))))], []⟩) ?_ ?_
    · refine RunS.segF (n := 27) e_ref09_Most_ok 3 [(0, .sl 1 (x0.map (cdL 1 cdI).enc)), (3, .v (.int .i64 c4)), (4, .v (.int .i64 c2)), (5, .v (.int .i64 c5)), (14, .v (.bool (decide (c5 < c2))))] [] (by kernel_rfl) ?_
      exact RunS.done rfl Wk.f1
    refine Sem.cond (b := (decide (c5 < c2))) (by kernel_rfl) (fun hb6 => ?_) (fun hb6 => ?_)
    · rw [if_pos hb6] at h
      refine Sem.skip ?_
      refine Sem.seq ?_
      refine Sem.block ?_
      obtain ⟨v7, hv7, h⟩ := Option.bind_eq_some_iff.1 h
      obtain ⟨v8, hv8, h⟩ := Option.bind_eq_some_iff.1 h
      refine Sem.runS (s1 := ⟨Fr 27 [(0, .sl 1 (x0.map (cdL 1 cdI).enc)), (3, .v (.int .i64 (mxI c4 v8))), (4, .v (.int .i64 c2)), (5, .v (.int .i64 c5))], []⟩) ?_ ?_
      · refine RunS.segF (n := 27) e_ref09_Most_ok 3 [(0, .sl 1 (x0.map (cdL 1 cdI).enc)), (4, .v (.int .i64 c2)), (5, .v (.int .i64 c5)), (17, .v (.int .i64 c4)), (18, .sl 1 (x0.map (cdL 1 cdI).enc)), (19, .v (.int .i64 c2))] [] (by kernel_rfl) ?_
        refine RunS.one e_ref09_Most_ok 0 rfl (op_q (wantedA_none rfl) rfl (q_indexAddr (a := .sl 1 (x0.map (cdL 1 cdI).enc)) (b := .v (.int .i64 c2)) (by kernel_rfl) (by kernel_rfl) (ix_sl (e := (cdL 1 cdI).enc) (el := 29) (k := 1) (ki := .i64) (by kernel_rfl) (by kernel_rfl) hv7))) ?_
        refine RunS.segF (n := 27) e_ref09_Most_ok 2 [(0, .sl 1 (x0.map (cdL 1 cdI).enc)), (4, .v (.int .i64 c2)), (5, .v (.int .i64 c5)), (17, .v (.int .i64 c4)), (21, .sl 1 (v7.map cdI.enc)), (22, .v (.int .i64 c5))] [] (by kernel_rfl) ?_
        refine RunS.one e_ref09_Most_ok 0 rfl (op_q (wantedA_none rfl) rfl (q_indexAddr (a := .sl 1 (v7.map cdI.enc)) (b := .v (.int .i64 c5)) (by kernel_rfl) (by kernel_rfl) (ix_sl (e := cdI.enc) (el := 3) (k := 1) (ki := .i64) (by kernel_rfl) (by kernel_rfl) hv8))) ?_
        refine RunS.segF (n := 27) e_ref09_Most_ok 3 [(0, .sl 1 (x0.map (cdL 1 cdI).enc)), (3, .v (.int .i64 (mxI c4 v8))), (4, .v (.int .i64 c2)), (5, .v (.int .i64 c5))] [] (by kernel_rfl) ?_
        exact RunS.done rfl Wk.f1
      refine Sem.runS (s1 := ⟨Fr 27 [(0, .sl 1 (x0.map (cdL 1 cdI).enc)), (3, .v (.int .i64 (mxI c4 v8))), (4, .v (.int .i64 c2)), (5, .v (.int .i64 (wr .i64 (c5 + 1))))], []⟩) ?_ ?_
      · refine RunS.segF (n := 27) e_ref09_Most_ok 3 [(0, .sl 1 (x0.map (cdL 1 cdI).enc)), (3, .v (.int .i64 (mxI c4 v8))), (4, .v (.int .i64 c2)), (5, .v (.int .i64 (wr .i64 (c5 + 1))))] [] (by kernel_rfl) ?_
        exact RunS.done rfl Wk.f1
      exact SemN.wk (s1 := ⟨Fr 27 [(0, .sl 1 (x0.map (cdL 1 cdI).enc)), (3, .v (.int .i64 (mxI c4 v8))), (4, .v (.int .i64 c2)), (5, .v (.int .i64 (wr .i64 (c5 + 1))))], []⟩) Wk.f1 (ih (mxI c4 v8) (wr .i64 (c5 + 1)) h)
    · rw [if_f hb6] at h
      refine Sem.exit ?_
      have hq := Option.some.inj h; subst hq
      exact ⟨rfl, Wk.f1⟩
set_option maxHeartbeats 4000000 in
set_option maxRecDepth 100000 in
theorem ref09_Most_1_ok (x0 : (List (List Int))) : ∀ (f : Nat) (c1 : Int) (c2 : Int) (r : (Int)), ref09_Most_1 x0 f c1 c2 = some r → SemN e_ref09_Most ⟨none, false⟩ (pc cb_ref09_Most [1, 1, 0, 1, 0, 0]) f ⟨Fr 27 [(0, .sl 1 (x0.map (cdL 1 cdI).enc)), (3, .v (.int .i64 c1)), (4, .v (.int .i64 c2))], []⟩ (fun e s => e = (.exit 0) ∧ Wk e_ref09_Most s ⟨Fr 27 [(3, .v (.int .i64 r))], []⟩) := by
  intro f
  induction f with
  | zero => intro c1 c2 r h; cases h
  | succ f ih0 =>
    intro c1 c2 r h
    have ih := fun (c1 : Int) (c2 : Int) => ih0 c1 c2 r
    unfold ref09_Most_1 at h
    refine SemN.succ ?_
    refine Sem.seq ?_
    refine Sem.seq ?_
    refine Sem.runS (s1 := ⟨Fr 27 [(0, .sl 1 (x0.map (cdL 1 cdI).enc)), (3, .v (.int .i64 c1)), (4, .v (.int .i64 c2)), (9, .v (.bool (decide (c2 < (x0.length : Int)))))], []⟩) ?_ ?_
    · refine RunS.segF (n := 27) e_ref09_Most_ok 2 [(0, .sl 1 (x0.map (cdL 1 cdI).enc)), (3, .v (.int .i64 c1)), (4, .v (.int .i64 c2)), (6, .v (.int .i64 c2)), (7, .sl 1 (x0.map (cdL 1 cdI).enc))] [] (by kernel_rfl) ?_
      refine RunS.one e_ref09_Most_ok 0 rfl (op_q (wantedA_none rfl) rfl (q_len (a := .sl 1 (x0.map (cdL 1 cdI).enc)) (by kernel_rfl) (len_sl (el := 29) (by kernel_rfl)))) ?_
      refine RunS.segF (n := 27) e_ref09_Most_ok 1 [(0, .sl 1 (x0.map (cdL 1 cdI).enc)), (3, .v (.int .i64 c1)), (4, .v (.int .i64 c2)), (9, .v (.bool (decide (c2 < (x0.length : Int)))))] [] (by kernel_rfl) ?_
      exact RunS.done rfl Wk.f1
    refine Sem.cond (b := (decide (c2 < (x0.length : Int)))) (by kernel_rfl) (fun hb3 => ?_) (fun hb3 => ?_)
    · rw [if_pos hb3] at h
      refine Sem.skip ?_
      refine Sem.seq ?_
      refine Sem.block ?_
      refine Sem.seq ?_
      refine Sem.runS (s1 := ⟨Fr 27 [(0, .sl 1 (x0.map (cdL 1 cdI).enc)), (3, .v (.int .i64 c1)), (4, .v (.int .i64 c2)), (5, .v (.int .i64 0))], []⟩) ?_ ?_
      · refine RunS.segF (n := 27) e_ref09_Most_ok 1 [(0, .sl 1 (x0.map (cdL 1 cdI).enc)), (3, .v (.int .i64 c1)), (4, .v (.int .i64 c2)), (5, .v (.int .i64 0))] [] (by kernel_rfl) ?_
        exact RunS.done rfl Wk.f1
      refine Sem.block ?_
      obtain ⟨r10, hr10, h⟩ := Option.bind_eq_some_iff.1 h
      refine Sem.loop (n := 100000) ?_
      refine Sem.cutN (SemN.wk (s1 := ⟨Fr 27 [(0, .sl 1 (x0.map (cdL 1 cdI).enc)), (3, .v (.int .i64 c1)), (4, .v (.int .i64 c2)), (5, .v (.int .i64 0))], []⟩) Wk.f1 (ref09_Most_2_ok x0 c2 _ c1 0 _ hr10)) ?_
      refine Sem.runS (s1 := ⟨Fr 27 [(0, .sl 1 (x0.map (cdL 1 cdI).enc)), (3, .v (.int .i64 r10)), (4, .v (.int .i64 (wr .i64 (c2 + 1))))], []⟩) ?_ ?_
      · refine RunS.segF (n := 27) e_ref09_Most_ok 3 [(0, .sl 1 (x0.map (cdL 1 cdI).enc)), (3, .v (.int .i64 r10)), (4, .v (.int .i64 (wr .i64 (c2 + 1))))] [] (by kernel_rfl) ?_
        exact RunS.done rfl Wk.f1
      exact SemN.wk (s1 := ⟨Fr 27 [(0, .sl 1 (x0.map (cdL 1 cdI).enc)), (3, .v (.int .i64 r10)), (4, .v (.int .i64 (wr .i64 (c2 + 1))))], []⟩) Wk.f1 (ih r10 (wr .i64 (c2 + 1)) h)
    · rw [if_f hb3] at h
      refine Sem.exit ?_
      have hq := Option.some.inj h; subst hq
      exact ⟨rfl, Wk.f1⟩
set_option maxHeartbeats 4000000 in
set_option maxRecDepth 100000 in
theorem ref09_Most_sem (x0 : (List (List Int))) (r : Int) (h : ref09_Most x0 = some r) : Sem e_ref09_Most ⟨none, false⟩ cb_ref09_Most ⟨Fr 27 (pairs0 0 (cs_ref09_Most.enc (x0, ()))), []⟩ fun e s' => (e = .normal ∨ e = .ret) ∧ ∃ xs, resA e_ref09_Most.P s'.fr s'.hp Tryd.f26.results.toList = some xs ∧ retA xs = er_ref09_Most r := by
  unfold ref09_Most at h
  refine Sem.wkQ (Sem.wk (s1 := ⟨Fr 27 [(0, .sl 1 (x0.map (cdL 1 cdI).enc))], []⟩) Wk.f1 ?_)
  refine Sem.seq ?_
  refine Sem.runS (s1 := ⟨Fr 27 [(0, .sl 1 (x0.map (cdL 1 cdI).enc))], []⟩) ?_ ?_
  · refine RunS.segF (n := 27) e_ref09_Most_ok 1 [(0, .sl 1 (x0.map (cdL 1 cdI).enc))] [] (by kernel_rfl) ?_
    exact RunS.done rfl Wk.f1
  refine Sem.seq ?_
  refine Sem.runS (s1 := ⟨Fr 27 [(0, .sl 1 (x0.map (cdL 1 cdI).enc)), (3, .v (.int .i64 0))], []⟩) ?_ ?_
  · refine RunS.segF (n := 27) e_ref09_Most_ok 1 [(0, .sl 1 (x0.map (cdL 1 cdI).enc)), (3, .v (.int .i64 0))] [] (by kernel_rfl) ?_
    exact RunS.done rfl Wk.f1
  refine Sem.seq ?_
  refine Sem.seq ?_
  refine Sem.runS (s1 := ⟨Fr 27 [(0, .sl 1 (x0.map (cdL 1 cdI).enc)), (3, .v (.int .i64 0)), (4, .v (.int .i64 0))], []⟩) ?_ ?_
  · refine RunS.segF (n := 27) e_ref09_Most_ok 1 [(0, .sl 1 (x0.map (cdL 1 cdI).enc)), (3, .v (.int .i64 0)), (4, .v (.int .i64 0))] [] (by kernel_rfl) ?_
    exact RunS.done rfl Wk.f1
  refine Sem.block ?_
  obtain ⟨r12, hr12, h⟩ := Option.bind_eq_some_iff.1 h
  refine Sem.loop (n := 100000) ?_
  refine Sem.cutN (SemN.wk (s1 := ⟨Fr 27 [(0, .sl 1 (x0.map (cdL 1 cdI).enc)), (3, .v (.int .i64 0)), (4, .v (.int .i64 0))], []⟩) Wk.f1 (ref09_Most_1_ok x0 _ 0 0 _ hr12)) ?_
  refine Sem.seq ?_
  refine Sem.runS (s1 := ⟨Fr 27 [(2, .v (.int .i64 r12))], []⟩) ?_ ?_
  · refine RunS.segF (n := 27) e_ref09_Most_ok 2 [(2, .v (.int .i64 r12))] [] (by kernel_rfl) ?_
    exact RunS.done rfl Wk.f1
  refine Sem.ret ?_
  have hq := Option.some.inj h; subst hq
  exact ⟨⟨Fr 27 [(2, .v (.int .i64 r12))], []⟩, Wk.f1, .inr rfl, [.v (.int .i64 r12)], (by kernel_rfl), (by kernel_rfl)⟩
def t_ref09_Most : List AV → Option AV := told cs_ref09_Most (fun a => ref09_Most a.1) er_ref09_Most
theorem x_ref09_Most : XOk 26 t_ref09_Most := by
  refine EnvOk.x (E := e_ref09_Most) (contract_ok e_ref09_Most_ok (fn := Tryd.f26) (c := cb_ref09_Most) ?h1 ?h2 ⟨Tryd.call26⟩ cs_ref09_Most (fun a => ref09_Most a.1) er_ref09_Most (fun a => (by show 1 ≤ 27; decide)) ?h3 ?h4) rfl rfl
  case h1 => kernel_rfl
  case h2 => kernel_rfl
  case h3 => intro b; kernel_rfl
  case h4 => exact fun a b h => ref09_Most_sem a.1 b h
/- trestle/trestleref09.Least -/
noncomputable def e_ref09_Least : Env := (E0.withX 26 t_ref09_Most)
theorem e_ref09_Least_ok : EnvOk e_ref09_Least := (EnvOk.withX E0_ok x_ref09_Most.1 x_ref09_Most.2)
noncomputable def cb_ref09_Least : Code := codeOf Tryd.f27
def ref09_Least_2 (x0 : (List (List Int))) (c3 : Int) : Nat → Int → Int → Option ((Int))
  | 0, _, _ => none
  | f + 1, c5, c6 =>
    if (decide (c6 < c3)) = true then
    (idx x0 c3).bind fun v8 =>
    (idx v8 c6).bind fun v9 =>
    ref09_Least_2 x0 c3 f (mnI c5 v9) (wr .i64 (c6 + 1))
    else
    some c5
def ref09_Least_1 (x0 : (List (List Int))) : Nat → Int → Int → Option ((Int))
  | 0, _, _ => none
  | f + 1, c2, c3 =>
    if (decide (c3 < (x0.length : Int))) = true then
    (ref09_Least_2 x0 c3 100000 c2 0).bind fun r11 =>
    ref09_Least_1 x0 f r11 (wr .i64 (c3 + 1))
    else
    some c2
def ref09_Least (x0 : (List (List Int))) : Option (Int) :=
  (ref09_Most x0).bind fun v1 =>
  (ref09_Least_1 x0 100000 v1 0).bind fun r13 =>
  some r13
def cs_ref09_Least : Cs ((List (List Int)) × Unit) := (csC (cdL 1 (cdL 1 cdI)) csN)
def er_ref09_Least (r : Int) : AV := cdI.enc r
set_option maxHeartbeats 4000000 in
set_option maxRecDepth 100000 in
theorem ref09_Least_2_ok (x0 : (List (List Int))) (c3 : Int) : ∀ (f : Nat) (c5 : Int) (c6 : Int) (r : (Int)), ref09_Least_2 x0 c3 f c5 c6 = some r → SemN e_ref09_Least ⟨none, false⟩ (pc cb_ref09_Least [1, 1, 0, 1, 0, 0, 1, 0, 0, 1, 0, 0]) f ⟨Fr 29 [(0, .sl 1 (x0.map (cdL 1 cdI).enc)), (3, .v (.int .i64 c5)), (4, .v (.int .i64 c3)), (5, .v (.int .i64 c6))], []⟩ (fun e s => e = (.exit 2) ∧ Wk e_ref09_Least s ⟨Fr 29 [(0, .sl 1 (x0.map (cdL 1 cdI).enc)), (3, .v (.int .i64 r)), (4, .v (.int .i64 c3))], []⟩) := by
  intro f
  induction f with
  | zero => intro c5 c6 r h; cases h
  | succ f ih0 =>
    intro c5 c6 r h
    have ih := fun (c5 : Int) (c6 : Int) => ih0 c5 c6 r
    unfold ref09_Least_2 at h
    refine SemN.succ ?_
    refine Sem.seq ?_
    refine Sem.seq ?_
    refine Sem.runS (s1 := ⟨Fr 29 [(0, .sl 1 (x0.map (cdL 1 cdI).enc)), (3, .v (.int .i64 c5)), (4, .v (.int .i64 c3)), (5, .v (.int .i64 c6)), (16, .v (.bool (decide (c6 < c3))))], []⟩) ?_ ?_
    · refine RunS.segF (n := 29) e_ref09_Least_ok 3 [(0, .sl 1 (x0.map (cdL 1 cdI).enc)), (3, .v (.int .i64 c5)), (4, .v (.int .i64 c3)), (5, .v (.int .i64 c6)), (16, .v (.bool (decide (c6 < c3))))] [] (by kernel_rfl) ?_
      exact RunS.done rfl Wk.f1
    refine Sem.cond (b := (decide (c6 < c3))) (by kernel_rfl) (fun hb7 => ?_) (fun hb7 => ?_)
    · rw [if_pos hb7] at h
      refine Sem.skip ?_
      refine Sem.seq ?_
      refine Sem.block ?_
      obtain ⟨v8, hv8, h⟩ := Option.bind_eq_some_iff.1 h
      obtain ⟨v9, hv9, h⟩ := Option.bind_eq_some_iff.1 h
      refine Sem.runS (s1 := ⟨Fr 29 [(0, .sl 1 (x0.map (cdL 1 cdI).enc)), (3, .v (.int .i64 (mnI c5 v9))), (4, .v (.int .i64 c3)), (5, .v (.int .i64 c6))], []⟩) ?_ ?_
      · refine RunS.segF (n := 29) e_ref09_Least_ok 3 [(0, .sl 1 (x0.map (cdL 1 cdI).enc)), (4, .v (.int .i64 c3)), (5, .v (.int .i64 c6)), (19, .v (.int .i64 c5)), (20, .sl 1 (x0.map (cdL 1 cdI).enc)), (21, .v (.int .i64 c3))] [] (by kernel_rfl) ?_
        refine RunS.one e_ref09_Least_ok 0 rfl (op_q (wantedA_none rfl) rfl (q_indexAddr (a := .sl 1 (x0.map (cdL 1 cdI).enc)) (b := .v (.int .i64 c3)) (by kernel_rfl) (by kernel_rfl) (ix_sl (e := (cdL 1 cdI).enc) (el := 29) (k := 1) (ki := .i64) (by kernel_rfl) (by kernel_rfl) hv8))) ?_
        refine RunS.segF (n := 29) e_ref09_Least_ok 2 [(0, .sl 1 (x0.map (cdL 1 cdI).enc)), (4, .v (.int .i64 c3)), (5, .v (.int .i64 c6)), (19, .v (.int .i64 c5)), (23, .sl 1 (v8.map cdI.enc)), (24, .v (.int .i64 c6))] [] (by kernel_rfl) ?_
        refine RunS.one e_ref09_Least_ok 0 rfl (op_q (wantedA_none rfl) rfl (q_indexAddr (a := .sl 1 (v8.map cdI.enc)) (b := .v (.int .i64 c6)) (by kernel_rfl) (by kernel_rfl) (ix_sl (e := cdI.enc) (el := 3) (k := 1) (ki := .i64) (by kernel_rfl) (by kernel_rfl) hv9))) ?_
        refine RunS.segF (n := 29) e_ref09_Least_ok 3 [(0, .sl 1 (x0.map (cdL 1 cdI).enc)), (3, .v (.int .i64 (mnI c5 v9))), (4, .v (.int .i64 c3)), (5, .v (.int .i64 c6))] [] (by kernel_rfl) ?_
        exact RunS.done rfl Wk.f1
      refine Sem.runS (s1 := ⟨Fr 29 [(0, .sl 1 (x0.map (cdL 1 cdI).enc)), (3, .v (.int .i64 (mnI c5 v9))), (4, .v (.int .i64 c3)), (5, .v (.int .i64 (wr .i64 (c6 + 1))))], []⟩) ?_ ?_
      · refine RunS.segF (n := 29) e_ref09_Least_ok 3 [(0, .sl 1 (x0.map (cdL 1 cdI).enc)), (3, .v (.int .i64 (mnI c5 v9))), (4, .v (.int .i64 c3)), (5, .v (.int .i64 (wr .i64 (c6 + 1))))] [] (by kernel_rfl) ?_
        exact RunS.done rfl Wk.f1
      exact SemN.wk (s1 := ⟨Fr 29 [(0, .sl 1 (x0.map (cdL 1 cdI).enc)), (3, .v (.int .i64 (mnI c5 v9))), (4, .v (.int .i64 c3)), (5, .v (.int .i64 (wr .i64 (c6 + 1))))], []⟩) Wk.f1 (ih (mnI c5 v9) (wr .i64 (c6 + 1)) h)
    · rw [if_f hb7] at h
      refine Sem.exit ?_
      have hq := Option.some.inj h; subst hq
      exact ⟨rfl, Wk.f1⟩
set_option maxHeartbeats 4000000 in
set_option maxRecDepth 100000 in
theorem ref09_Least_1_ok (x0 : (List (List Int))) : ∀ (f : Nat) (c2 : Int) (c3 : Int) (r : (Int)), ref09_Least_1 x0 f c2 c3 = some r → SemN e_ref09_Least ⟨none, false⟩ (pc cb_ref09_Least [1, 1, 0, 1, 0, 0]) f ⟨Fr 29 [(0, .sl 1 (x0.map (cdL 1 cdI).enc)), (3, .v (.int .i64 c2)), (4, .v (.int .i64 c3))], []⟩ (fun e s => e = (.exit 0) ∧ Wk e_ref09_Least s ⟨Fr 29 [(3, .v (.int .i64 r))], []⟩) := by
  intro f
  induction f with
  | zero => intro c2 c3 r h; cases h
  | succ f ih0 =>
    intro c2 c3 r h
    have ih := fun (c2 : Int) (c3 : Int) => ih0 c2 c3 r
    unfold ref09_Least_1 at h
    refine SemN.succ ?_
    refine Sem.seq ?_
    refine Sem.seq ?_
    refine Sem.runS (s1 := ⟨Fr 29 [(0, .sl 1 (x0.map (cdL 1 cdI).enc)), (3, .v (.int .i64 c2)), (4, .v (.int .i64 c3)), (11, .v (.bool (decide (c3 < (x0.length : Int)))))], []⟩) ?_ ?_
    · refine RunS.segF (n := 29) e_ref09_Least_ok 2 [(0, .sl 1 (x0.map (cdL 1 cdI).enc)), (3, .v (.int .i64 c2)), (4, .v (.int .i64 c3)), (8, .v (.int .i64 c3)), (9, .sl 1 (x0.map (cdL 1 cdI).enc))] [] (by kernel_rfl) ?_
      refine RunS.one e_ref09_Least_ok 0 rfl (op_q (wantedA_none rfl) rfl (q_len (a := .sl 1 (x0.map (cdL 1 cdI).enc)) (by kernel_rfl) (len_sl (el := 29) (by kernel_rfl)))) ?_
      refine RunS.segF (n := 29) e_ref09_Least_ok 1 [(0, .sl 1 (x0.map (cdL 1 cdI).enc)), (3, .v (.int .i64 c2)), (4, .v (.int .i64 c3)), (11, .v (.bool (decide (c3 < (x0.length : Int)))))] [] (by kernel_rfl) ?_
      exact RunS.done rfl Wk.f1
    refine Sem.cond (b := (decide (c3 < (x0.length : Int)))) (by kernel_rfl) (fun hb4 => ?_) (fun hb4 => ?_)
    · rw [if_pos hb4] at h
      refine Sem.skip ?_
      refine Sem.seq ?_
      refine Sem.block ?_
      refine Sem.seq ?_
      refine Sem.runS (s1 := ⟨Fr 29 [(0, .sl 1 (x0.map (cdL 1 cdI).enc)), (3, .v (.int .i64 c2)), (4, .v (.int .i64 c3)), (5, .v (.int .i64 0))], []⟩) ?_ ?_
      · refine RunS.segF (n := 29) e_ref09_Least_ok 1 [(0, .sl 1 (x0.map (cdL 1 cdI).enc)), (3, .v (.int .i64 c2)), (4, .v (.int .i64 c3)), (5, .v (.int .i64 0))] [] (by kernel_rfl) ?_
        exact RunS.done rfl Wk.f1
      refine Sem.block ?_
      obtain ⟨r11, hr11, h⟩ := Option.bind_eq_some_iff.1 h
      refine Sem.loop (n := 100000) ?_
      refine Sem.cutN (SemN.wk (s1 := ⟨Fr 29 [(0, .sl 1 (x0.map (cdL 1 cdI).enc)), (3, .v (.int .i64 c2)), (4, .v (.int .i64 c3)), (5, .v (.int .i64 0))], []⟩) Wk.f1 (ref09_Least_2_ok x0 c3 _ c2 0 _ hr11)) ?_
      refine Sem.runS (s1 := ⟨Fr 29 [(0, .sl 1 (x0.map (cdL 1 cdI).enc)), (3, .v (.int .i64 r11)), (4, .v (.int .i64 (wr .i64 (c3 + 1))))], []⟩) ?_ ?_
      · refine RunS.segF (n := 29) e_ref09_Least_ok 3 [(0, .sl 1 (x0.map (cdL 1 cdI).enc)), (3, .v (.int .i64 r11)), (4, .v (.int .i64 (wr .i64 (c3 + 1))))] [] (by kernel_rfl) ?_
        exact RunS.done rfl Wk.f1
      exact SemN.wk (s1 := ⟨Fr 29 [(0, .sl 1 (x0.map (cdL 1 cdI).enc)), (3, .v (.int .i64 r11)), (4, .v (.int .i64 (wr .i64 (c3 + 1))))], []⟩) Wk.f1 (ih r11 (wr .i64 (c3 + 1)) h)
    · rw [if_f hb4] at h
      refine Sem.exit ?_
      have hq := Option.some.inj h; subst hq
      exact ⟨rfl, Wk.f1⟩
set_option maxHeartbeats 4000000 in
set_option maxRecDepth 100000 in
theorem ref09_Least_sem (x0 : (List (List Int))) (r : Int) (h : ref09_Least x0 = some r) : Sem e_ref09_Least ⟨none, false⟩ cb_ref09_Least ⟨Fr 29 (pairs0 0 (cs_ref09_Least.enc (x0, ()))), []⟩ fun e s' => (e = .normal ∨ e = .ret) ∧ ∃ xs, resA e_ref09_Least.P s'.fr s'.hp Tryd.f27.results.toList = some xs ∧ retA xs = er_ref09_Least r := by
  unfold ref09_Least at h
  refine Sem.wkQ (Sem.wk (s1 := ⟨Fr 29 [(0, .sl 1 (x0.map (cdL 1 cdI).enc))], []⟩) Wk.f1 ?_)
  refine Sem.seq ?_
  refine Sem.runS (s1 := ⟨Fr 29 [(0, .sl 1 (x0.map (cdL 1 cdI).enc))], []⟩) ?_ ?_
  · refine RunS.segF (n := 29) e_ref09_Least_ok 1 [(0, .sl 1 (x0.map (cdL 1 cdI).enc))] [] (by kernel_rfl) ?_
    exact RunS.done rfl Wk.f1
  refine Sem.seq ?_
  obtain ⟨v1, hv1, h⟩ := Option.bind_eq_some_iff.1 h
  refine Sem.runS (s1 := ⟨Fr 29 [(0, .sl 1 (x0.map (cdL 1 cdI).enc)), (3, .v (.int .i64 v1))], []⟩) ?_ ?_
  · refine RunS.segF (n := 29) e_ref09_Least_ok 1 [(0, .sl 1 (x0.map (cdL 1 cdI).enc)), (6, .sl 1 (x0.map (cdL 1 cdI).enc))] [] (by kernel_rfl) ?_
    refine RunS.call e_ref09_Least_ok (fid := 26) (s := cs_ref09_Most) (F := fun a => ref09_Most a.1) (er := er_ref09_Most) (xs := [.sl 1 (x0.map (cdL 1 cdI).enc)]) (a := (x0, ())) rfl (wantedA_none rfl) (by kernel_rfl) (by kernel_rfl) (by kernel_rfl) (by kernel_rfl) (Sns.cons (Sn.enc (c := (cdL 1 (cdL 1 cdI))) (v := x0)) Sns.nil) (.inl (by kernel_rfl)) hv1 ?_
    refine RunS.segF (n := 29) e_ref09_Least_ok 1 [(0, .sl 1 (x0.map (cdL 1 cdI).enc)), (3, .v (.int .i64 v1))] [] (by kernel_rfl) ?_
    exact RunS.done rfl Wk.f1
  refine Sem.seq ?_
  refine Sem.seq ?_
  refine Sem.runS (s1 := ⟨Fr 29 [(0, .sl 1 (x0.map (cdL 1 cdI).enc)), (3, .v (.int .i64 v1)), (4, .v (.int .i64 0))], []⟩) ?_ ?_
  · refine RunS.segF (n := 29) e_ref09_Least_ok 1 [(0, .sl 1 (x0.map (cdL 1 cdI).enc)), (3, .v (.int .i64 v1)), (4, .v (.int .i64 0))] [] (by kernel_rfl) ?_
    exact RunS.done rfl Wk.f1
  refine Sem.block ?_
  obtain ⟨r13, hr13, h⟩ := Option.bind_eq_some_iff.1 h
  refine Sem.loop (n := 100000) ?_
  refine Sem.cutN (SemN.wk (s1 := ⟨Fr 29 [(0, .sl 1 (x0.map (cdL 1 cdI).enc)), (3, .v (.int .i64 v1)), (4, .v (.int .i64 0))], []⟩) Wk.f1 (ref09_Least_1_ok x0 _ v1 0 _ hr13)) ?_
  refine Sem.seq ?_
  refine Sem.runS (s1 := ⟨Fr 29 [(2, .v (.int .i64 r13))], []⟩) ?_ ?_
  · refine RunS.segF (n := 29) e_ref09_Least_ok 2 [(2, .v (.int .i64 r13))] [] (by kernel_rfl) ?_
    exact RunS.done rfl Wk.f1
  refine Sem.ret ?_
  have hq := Option.some.inj h; subst hq
  exact ⟨⟨Fr 29 [(2, .v (.int .i64 r13))], []⟩, Wk.f1, .inr rfl, [.v (.int .i64 r13)], (by kernel_rfl), (by kernel_rfl)⟩
def t_ref09_Least : List AV → Option AV := told cs_ref09_Least (fun a => ref09_Least a.1) er_ref09_Least
theorem x_ref09_Least : XOk 27 t_ref09_Least := by
  refine EnvOk.x (E := e_ref09_Least) (contract_ok e_ref09_Least_ok (fn := Tryd.f27) (c := cb_ref09_Least) ?h1 ?h2 ⟨Tryd.call27⟩ cs_ref09_Least (fun a => ref09_Least a.1) er_ref09_Least (fun a => (by show 1 ≤ 29; decide)) ?h3 ?h4) rfl rfl
  case h1 => kernel_rfl
  case h2 => kernel_rfl
  case h3 => intro b; kernel_rfl
  case h4 => exact fun a b h => ref09_Least_sem a.1 b h
/- trestle/trestleref09.Strain -/
noncomputable def e_ref09_Strain : Env := E0
theorem e_ref09_Strain_ok : EnvOk e_ref09_Strain := E0_ok
noncomputable def cb_ref09_Strain : Code := codeOf Tryd.f28
def ref09_Strain_2 (x0 : (List (List Int))) (c2 : Int) : Nat → Int → Int → Option ((Int))
  | 0, _, _ => none
  | f + 1, c4, c5 =>
    if (decide (c5 < c2)) = true then
    (idx x0 c2).bind fun v7 =>
    (idx v7 c5).bind fun v8 =>
    (idx x0 c2).bind fun v9 =>
    (idx v9 c5).bind fun v10 =>
    ref09_Strain_2 x0 c2 f (wr .i64 (c4 + (wr .i64 (v8 * v10)))) (wr .i64 (c5 + 1))
    else
    some c4
def ref09_Strain_1 (x0 : (List (List Int))) : Nat → Int → Int → Option ((Int))
  | 0, _, _ => none
  | f + 1, c1, c2 =>
    if (decide (c2 < (x0.length : Int))) = true then
    (ref09_Strain_2 x0 c2 100000 c1 0).bind fun r12 =>
    ref09_Strain_1 x0 f r12 (wr .i64 (c2 + 1))
    else
    some c1
def ref09_Strain (x0 : (List (List Int))) : Option (Int) :=
  (ref09_Strain_1 x0 100000 0 0).bind fun r14 =>
  some r14
def cs_ref09_Strain : Cs ((List (List Int)) × Unit) := (csC (cdL 1 (cdL 1 cdI)) csN)
def er_ref09_Strain (r : Int) : AV := cdI.enc r
set_option maxHeartbeats 4000000 in
set_option maxRecDepth 100000 in
theorem ref09_Strain_2_ok (x0 : (List (List Int))) (c2 : Int) : ∀ (f : Nat) (c4 : Int) (c5 : Int) (r : (Int)), ref09_Strain_2 x0 c2 f c4 c5 = some r → SemN e_ref09_Strain ⟨none, false⟩ (pc cb_ref09_Strain [1, 1, 0, 1, 0, 0, 1, 0, 0, 1, 0, 0]) f ⟨Fr 35 [(0, .sl 1 (x0.map (cdL 1 cdI).enc)), (3, .v (.int .i64 c4)), (4, .v (.int .i64 c2)), (5, .v (.int .i64 c5))], []⟩ (fun e s => e = (.exit 2) ∧ Wk e_ref09_Strain s ⟨Fr 35 [(0, .sl 1 (x0.map (cdL 1 cdI).enc)), (3, .v (.int .i64 r)), (4, .v (.int .i64 c2))], []⟩) := by
  intro f
  induction f with
  | zero => intro c4 c5 r h; cases h
  | succ f ih0 =>
    intro c4 c5 r h
    have ih := fun (c4 : Int) (c5 : Int) => ih0 c4 c5 r
    unfold ref09_Strain_2 at h
    refine SemN.succ ?_
    refine Sem.seq ?_
    refine Sem.seq ?_
    refine Sem.runS (s1 := ⟨Fr 35 [(0, .sl 1 (x0.map (cdL 1 cdI).enc)), (3, .v (.int .i64 c4)), (4, .v (.int .i64 c2)), (5, .v (.int .i64 c5)), (14, .v (.bool (decide (c5 < c2))))], []⟩) ?_ ?_
    · refine RunS.segF (n := 35) e_ref09_Strain_ok 3 [(0, .sl 1 (x0.map (cdL 1 cdI).enc)), (3, .v (.int .i64 c4)), (4, .v (.int .i64 c2)), (5, .v (.int .i64 c5)), (14, .v (.bool (decide (c5 < c2))))] [] (by kernel_rfl) ?_
      exact RunS.done rfl Wk.f1
    refine Sem.cond (b := (decide (c5 < c2))) (by kernel_rfl) (fun hb6 => ?_) (fun hb6 => ?_)
    · rw [if_pos hb6] at h
      refine Sem.skip ?_
      refine Sem.seq ?_
      refine Sem.block ?_
      obtain ⟨v7, hv7, h⟩ := Option.bind_eq_some_iff.1 h
      obtain ⟨v8, hv8, h⟩ := Option.bind_eq_some_iff.1 h
      obtain ⟨v9, hv9, h⟩ := Option.bind_eq_some_iff.1 h
      obtain ⟨v10, hv10, h⟩ := Option.bind_eq_some_iff.1 h
      refine Sem.runDS e_ref09_Strain_ok (s1 := ⟨Fr 35 [(0, .sl 1 (x0.map (cdL 1 cdI).enc)), (3, .v (.int .i64 (wr .i64 (c4 + (wr .i64 (v8 * v10)))))), (4, .v (.int .i64 c2)), (5, .v (.int .i64 c5))], []⟩) (by kernel_rfl) ?_ ?_
      · refine RunDS.segF (n := 35) e_ref09_Strain_ok 3 [(0, .sl 1 (x0.map (cdL 1 cdI).enc)), (4, .v (.int .i64 c2)), (5, .v (.int .i64 c5)), (17, .v (.int .i64 c4)), (18, .sl 1 (x0.map (cdL 1 cdI).enc)), (19, .v (.int .i64 c2))] [] (by kernel_rfl) (by kernel_rfl) ?_
        refine RunDS.one e_ref09_Strain_ok rfl (by kernel_rfl) (opd_q (by kernel_rfl) (wantedA_none rfl) rfl (q_indexAddr (a := .sl 1 (x0.map (cdL 1 cdI).enc)) (b := .v (.int .i64 c2)) (by kernel_rfl) (by kernel_rfl) (ix_sl (e := (cdL 1 cdI).enc) (el := 29) (k := 1) (ki := .i64) (by kernel_rfl) (by kernel_rfl) hv7)) (by kernel_rfl)) ?_
        refine RunDS.segF (n := 35) e_ref09_Strain_ok 2 [(0, .sl 1 (x0.map (cdL 1 cdI).enc)), (4, .v (.int .i64 c2)), (5, .v (.int .i64 c5)), (17, .v (.int .i64 c4)), (21, .sl 1 (v7.map cdI.enc)), (22, .v (.int .i64 c5))] [] (by kernel_rfl) (by kernel_rfl) ?_
        refine RunDS.one e_ref09_Strain_ok rfl (by kernel_rfl) (opd_q (by kernel_rfl) (wantedA_none rfl) rfl (q_indexAddr (a := .sl 1 (v7.map cdI.enc)) (b := .v (.int .i64 c5)) (by kernel_rfl) (by kernel_rfl) (ix_sl (e := cdI.enc) (el := 3) (k := 1) (ki := .i64) (by kernel_rfl) (by kernel_rfl) hv8)) (by kernel_rfl)) ?_
        refine RunDS.segF (n := 35) e_ref09_Strain_ok 3 [(0, .sl 1 (x0.map (cdL 1 cdI).enc)), (4, .v (.int .i64 c2)), (5, .v (.int .i64 c5)), (17, .v (.int .i64 c4)), (24, .v (.int .i64 v8)), (25, .sl 1 (x0.map (cdL 1 cdI).enc)), (26, .v (.int .i64 c2))] [] (by kernel_rfl) (by kernel_rfl) ?_
        refine RunDS.one e_ref09_Strain_ok rfl (by kernel_rfl) (opd_q (by kernel_rfl) (wantedA_none rfl) rfl (q_indexAddr (a := .sl 1 (x0.map (cdL 1 cdI).enc)) (b := .v (.int .i64 c2)) (by kernel_rfl) (by kernel_rfl) (ix_sl (e := (cdL 1 cdI).enc) (el := 29) (k := 1) (ki := .i64) (by kernel_rfl) (by kernel_rfl) hv9)) (by kernel_rfl)) ?_
        refine RunDS.segF (n := 35) e_ref09_Strain_ok 2 [(0, .sl 1 (x0.map (cdL 1 cdI).enc)), (4, .v (.int .i64 c2)), (5, .v (.int .i64 c5)), (17, .v (.int .i64 c4)), (24, .v (.int .i64 v8)), (28, .sl 1 (v9.map cdI.enc)), (29, .v (.int .i64 c5))] [] (by kernel_rfl) (by kernel_rfl) ?_
        refine RunDS.one e_ref09_Strain_ok rfl (by kernel_rfl) (opd_q (by kernel_rfl) (wantedA_none rfl) rfl (q_indexAddr (a := .sl 1 (v9.map cdI.enc)) (b := .v (.int .i64 c5)) (by kernel_rfl) (by kernel_rfl) (ix_sl (e := cdI.enc) (el := 3) (k := 1) (ki := .i64) (by kernel_rfl) (by kernel_rfl) hv10)) (by kernel_rfl)) ?_
        refine RunDS.segF (n := 35) e_ref09_Strain_ok 4 [(0, .sl 1 (x0.map (cdL 1 cdI).enc)), (3, .v (.int .i64 (wr .i64 (c4 + (wr .i64 (v8 * v10)))))), (4, .v (.int .i64 c2)), (5, .v (.int .i64 c5))] [] (by kernel_rfl) (by kernel_rfl) ?_
        exact RunDS.done rfl Wk.f1
      refine Sem.runS (s1 := ⟨Fr 35 [(0, .sl 1 (x0.map (cdL 1 cdI).enc)), (3, .v (.int .i64 (wr .i64 (c4 + (wr .i64 (v8 * v10)))))), (4, .v (.int .i64 c2)), (5, .v (.int .i64 (wr .i64 (c5 + 1))))], []⟩) ?_ ?_
      · refine RunS.segF (n := 35) e_ref09_Strain_ok 3 [(0, .sl 1 (x0.map (cdL 1 cdI).enc)), (3, .v (.int .i64 (wr .i64 (c4 + (wr .i64 (v8 * v10)))))), (4, .v (.int .i64 c2)), (5, .v (.int .i64 (wr .i64 (c5 + 1))))] [] (by kernel_rfl) ?_
        exact RunS.done rfl Wk.f1
      exact SemN.wk (s1 := ⟨Fr 35 [(0, .sl 1 (x0.map (cdL 1 cdI).enc)), (3, .v (.int .i64 (wr .i64 (c4 + (wr .i64 (v8 * v10)))))), (4, .v (.int .i64 c2)), (5, .v (.int .i64 (wr .i64 (c5 + 1))))], []⟩) Wk.f1 (ih (wr .i64 (c4 + (wr .i64 (v8 * v10)))) (wr .i64 (c5 + 1)) h)
    · rw [if_f hb6] at h
      refine Sem.exit ?_
      have hq := Option.some.inj h; subst hq
      exact ⟨rfl, Wk.f1⟩
set_option maxHeartbeats 4000000 in
set_option maxRecDepth 100000 in
theorem ref09_Strain_1_ok (x0 : (List (List Int))) : ∀ (f : Nat) (c1 : Int) (c2 : Int) (r : (Int)), ref09_Strain_1 x0 f c1 c2 = some r → SemN e_ref09_Strain ⟨none, false⟩ (pc cb_ref09_Strain [1, 1, 0, 1, 0, 0]) f ⟨Fr 35 [(0, .sl 1 (x0.map (cdL 1 cdI).enc)), (3, .v (.int .i64 c1)), (4, .v (.int .i64 c2))], []⟩ (fun e s => e = (.exit 0) ∧ Wk e_ref09_Strain s ⟨Fr 35 [(3, .v (.int .i64 r))], []⟩) := by
  intro f
  induction f with
  | zero => intro c1 c2 r h; cases h
  | succ f ih0 =>
    intro c1 c2 r h
    have ih := fun (c1 : Int) (c2 : Int) => ih0 c1 c2 r
    unfold ref09_Strain_1 at h
    refine SemN.succ ?_
    refine Sem.seq ?_
    refine Sem.seq ?_
    refine Sem.runS (s1 := ⟨Fr 35 [(0, .sl 1 (x0.map (cdL 1 cdI).enc)), (3, .v (.int .i64 c1)), (4, .v (.int .i64 c2)), (9, .v (.bool (decide (c2 < (x0.length : Int)))))], []⟩) ?_ ?_
    · refine RunS.segF (n := 35) e_ref09_Strain_ok 2 [(0, .sl 1 (x0.map (cdL 1 cdI).enc)), (3, .v (.int .i64 c1)), (4, .v (.int .i64 c2)), (6, .v (.int .i64 c2)), (7, .sl 1 (x0.map (cdL 1 cdI).enc))] [] (by kernel_rfl) ?_
      refine RunS.one e_ref09_Strain_ok 0 rfl (op_q (wantedA_none rfl) rfl (q_len (a := .sl 1 (x0.map (cdL 1 cdI).enc)) (by kernel_rfl) (len_sl (el := 29) (by kernel_rfl)))) ?_
      refine RunS.segF (n := 35) e_ref09_Strain_ok 1 [(0, .sl 1 (x0.map (cdL 1 cdI).enc)), (3, .v (.int .i64 c1)), (4, .v (.int .i64 c2)), (9, .v (.bool (decide (c2 < (x0.length : Int)))))] [] (by kernel_rfl) ?_
      exact RunS.done rfl Wk.f1
    refine Sem.cond (b := (decide (c2 < (x0.length : Int)))) (by kernel_rfl) (fun hb3 => ?_) (fun hb3 => ?_)
    · rw [if_pos hb3] at h
      refine Sem.skip ?_
      refine Sem.seq ?_
      refine Sem.block ?_
      refine Sem.seq ?_
      refine Sem.runS (s1 := ⟨Fr 35 [(0, .sl 1 (x0.map (cdL 1 cdI).enc)), (3, .v (.int .i64 c1)), (4, .v (.int .i64 c2)), (5, .v (.int .i64 0))], []⟩) ?_ ?_
      · refine RunS.segF (n := 35) e_ref09_Strain_ok 1 [(0, .sl 1 (x0.map (cdL 1 cdI).enc)), (3, .v (.int .i64 c1)), (4, .v (.int .i64 c2)), (5, .v (.int .i64 0))] [] (by kernel_rfl) ?_
        exact RunS.done rfl Wk.f1
      refine Sem.block ?_
      obtain ⟨r12, hr12, h⟩ := Option.bind_eq_some_iff.1 h
      refine Sem.loop (n := 100000) ?_
      refine Sem.cutN (SemN.wk (s1 := ⟨Fr 35 [(0, .sl 1 (x0.map (cdL 1 cdI).enc)), (3, .v (.int .i64 c1)), (4, .v (.int .i64 c2)), (5, .v (.int .i64 0))], []⟩) Wk.f1 (ref09_Strain_2_ok x0 c2 _ c1 0 _ hr12)) ?_
      refine Sem.runS (s1 := ⟨Fr 35 [(0, .sl 1 (x0.map (cdL 1 cdI).enc)), (3, .v (.int .i64 r12)), (4, .v (.int .i64 (wr .i64 (c2 + 1))))], []⟩) ?_ ?_
      · refine RunS.segF (n := 35) e_ref09_Strain_ok 3 [(0, .sl 1 (x0.map (cdL 1 cdI).enc)), (3, .v (.int .i64 r12)), (4, .v (.int .i64 (wr .i64 (c2 + 1))))] [] (by kernel_rfl) ?_
        exact RunS.done rfl Wk.f1
      exact SemN.wk (s1 := ⟨Fr 35 [(0, .sl 1 (x0.map (cdL 1 cdI).enc)), (3, .v (.int .i64 r12)), (4, .v (.int .i64 (wr .i64 (c2 + 1))))], []⟩) Wk.f1 (ih r12 (wr .i64 (c2 + 1)) h)
    · rw [if_f hb3] at h
      refine Sem.exit ?_
      have hq := Option.some.inj h; subst hq
      exact ⟨rfl, Wk.f1⟩
set_option maxHeartbeats 4000000 in
set_option maxRecDepth 100000 in
theorem ref09_Strain_sem (x0 : (List (List Int))) (r : Int) (h : ref09_Strain x0 = some r) : Sem e_ref09_Strain ⟨none, false⟩ cb_ref09_Strain ⟨Fr 35 (pairs0 0 (cs_ref09_Strain.enc (x0, ()))), []⟩ fun e s' => (e = .normal ∨ e = .ret) ∧ ∃ xs, resA e_ref09_Strain.P s'.fr s'.hp Tryd.f28.results.toList = some xs ∧ retA xs = er_ref09_Strain r := by
  unfold ref09_Strain at h
  refine Sem.wkQ (Sem.wk (s1 := ⟨Fr 35 [(0, .sl 1 (x0.map (cdL 1 cdI).enc))], []⟩) Wk.f1 ?_)
  refine Sem.seq ?_
  refine Sem.runS (s1 := ⟨Fr 35 [(0, .sl 1 (x0.map (cdL 1 cdI).enc))], []⟩) ?_ ?_
  · refine RunS.segF (n := 35) e_ref09_Strain_ok 1 [(0, .sl 1 (x0.map (cdL 1 cdI).enc))] [] (by kernel_rfl) ?_
    exact RunS.done rfl Wk.f1
  refine Sem.seq ?_
  refine Sem.runS (s1 := ⟨Fr 35 [(0, .sl 1 (x0.map (cdL 1 cdI).enc)), (3, .v (.int .i64 0))], []⟩) ?_ ?_
  · refine RunS.segF (n := 35) e_ref09_Strain_ok 1 [(0, .sl 1 (x0.map (cdL 1 cdI).enc)), (3, .v (.int .i64 0))] [] (by kernel_rfl) ?_
    exact RunS.done rfl Wk.f1
  refine Sem.seq ?_
  refine Sem.seq ?_
  refine Sem.runS (s1 := ⟨Fr 35 [(0, .sl 1 (x0.map (cdL 1 cdI).enc)), (3, .v (.int .i64 0)), (4, .v (.int .i64 0))], []⟩) ?_ ?_
  · refine RunS.segF (n := 35) e_ref09_Strain_ok 1 [(0, .sl 1 (x0.map (cdL 1 cdI).enc)), (3, .v (.int .i64 0)), (4, .v (.int .i64 0))] [] (by kernel_rfl) ?_
    exact RunS.done rfl Wk.f1
  refine Sem.block ?_
  obtain ⟨r14, hr14, h⟩ := Option.bind_eq_some_iff.1 h
  refine Sem.loop (n := 100000) ?_
  refine Sem.cutN (SemN.wk (s1 := ⟨Fr 35 [(0, .sl 1 (x0.map (cdL 1 cdI).enc)), (3, .v (.int .i64 0)), (4, .v (.int .i64 0))], []⟩) Wk.f1 (ref09_Strain_1_ok x0 _ 0 0 _ hr14)) ?_
  refine Sem.seq ?_
  refine Sem.runS (s1 := ⟨Fr 35 [(2, .v (.int .i64 r14))], []⟩) ?_ ?_
  · refine RunS.segF (n := 35) e_ref09_Strain_ok 2 [(2, .v (.int .i64 r14))] [] (by kernel_rfl) ?_
    exact RunS.done rfl Wk.f1
  refine Sem.ret ?_
  have hq := Option.some.inj h; subst hq
  exact ⟨⟨Fr 35 [(2, .v (.int .i64 r14))], []⟩, Wk.f1, .inr rfl, [.v (.int .i64 r14)], (by kernel_rfl), (by kernel_rfl)⟩
def t_ref09_Strain : List AV → Option AV := told cs_ref09_Strain (fun a => ref09_Strain a.1) er_ref09_Strain
theorem x_ref09_Strain : XOk 28 t_ref09_Strain := by
  refine EnvOk.x (E := e_ref09_Strain) (contract_ok e_ref09_Strain_ok (fn := Tryd.f28) (c := cb_ref09_Strain) ?h1 ?h2 ⟨Tryd.call28⟩ cs_ref09_Strain (fun a => ref09_Strain a.1) er_ref09_Strain (fun a => (by show 1 ≤ 35; decide)) ?h3 ?h4) rfl rfl
  case h1 => kernel_rfl
  case h2 => kernel_rfl
  case h3 => intro b; kernel_rfl
  case h4 => exact fun a b h => ref09_Strain_sem a.1 b h
/- trestle/trestlelaw09.meets -/
noncomputable def e_law09_meets : Env := (((((((((((((((((E0.withX 13 t_law09_Copy).withX 14 t_evening_Meet).withX 15 t_evening_Beside).withX 16 t_evening_Together).withX 12 t_evening_Most).withX 17 t_evening_Least).withX 18 t_evening_Strain).withX 19 t_ref09_Valid).withX 20 t_law09_Same).withX 21 t_ref09_Meet).withX 22 t_ref09_Together).withX 23 t_kit_SameLists).withX 24 t_ref09_Beside).withX 25 t_slices_Equal_L_int).withX 26 t_ref09_Most).withX 27 t_ref09_Least).withX 28 t_ref09_Strain)
theorem e_law09_meets_ok : EnvOk e_law09_meets := (EnvOk.withX (EnvOk.withX (EnvOk.withX (EnvOk.withX (EnvOk.withX (EnvOk.withX (EnvOk.withX (EnvOk.withX (EnvOk.withX (EnvOk.withX (EnvOk.withX (EnvOk.withX (EnvOk.withX (EnvOk.withX (EnvOk.withX (EnvOk.withX (EnvOk.withX E0_ok x_law09_Copy.1 x_law09_Copy.2) x_evening_Meet.1 x_evening_Meet.2) x_evening_Beside.1 x_evening_Beside.2) x_evening_Together.1 x_evening_Together.2) x_evening_Most.1 x_evening_Most.2) x_evening_Least.1 x_evening_Least.2) x_evening_Strain.1 x_evening_Strain.2) x_ref09_Valid.1 x_ref09_Valid.2) x_law09_Same.1 x_law09_Same.2) x_ref09_Meet.1 x_ref09_Meet.2) x_ref09_Together.1 x_ref09_Together.2) x_kit_SameLists.1 x_kit_SameLists.2) x_ref09_Beside.1 x_ref09_Beside.2) x_slices_Equal_L_int.1 x_slices_Equal_L_int.2) x_ref09_Most.1 x_ref09_Most.2) x_ref09_Least.1 x_ref09_Least.2) x_ref09_Strain.1 x_ref09_Strain.2)
noncomputable def cb_law09_meets : Code := codeOf Tryd.f6
def law09_meets_j1 (x0 : Int) (x1 : (List (List (List Int)))) (x2 : Int) (x3 : Int) (v1 : (List (List (List Int)))) (v2 : (List (List Int))) (v3 : (List (List Int))) (v4 : (List Int)) (v5 : Int) (v6 : Int) (v7 : Int) (v14 : (List (List Int))) : Option (((List Int))) :=
  if (x2 != x3) = true then
  (ref09_Together x1 x2 x3).bind fun v16 =>
  some v16
  else
  some []
def law09_meets (x0 : Int) (x1 : (List (List (List Int)))) (x2 : Int) (x3 : Int) : Option (Bool) :=
  (law09_Copy x1).bind fun v1 =>
  (evening_Meet x0 v1).bind fun v2 =>
  (evening_Beside x0 v1).bind fun v3 =>
  (evening_Together x0 v1 x2 x3).bind fun v4 =>
  (evening_Most x0 v1).bind fun v5 =>
  (evening_Least x0 v1).bind fun v6 =>
  (evening_Strain x0 v1).bind fun v7 =>
  (ref09_Valid x0 x1).bind fun v8 =>
  if (!v8) = true then
  (if ((wr .i64 ((wr .i64 ((wr .i64 ((wr .i64 ((wr .i64 ((v2.length : Int) + (v3.length : Int))) + (v4.length : Int))) + v5)) + v6)) + v7)) == 0) = true then (law09_Same v1 x1).bind fun v10 =>
  some v10 else some false).bind fun j12 =>
  some j12
  else
  (ref09_Meet x0 x1).bind fun v14 =>
  (law09_meets_j1 x0 x1 x2 x3 v1 v2 v3 v4 v5 v6 v7 v14).bind fun r18 =>
  (kit_SameLists v2 v14).bind fun v19 =>
  (if v19 = true then (ref09_Beside x0 x1).bind fun v20 =>
  (kit_SameLists v3 v20).bind fun v21 =>
  if v21 = true then (slices_Equal_L_int v4 r18).bind fun v22 =>
  if v22 = true then (ref09_Most v14).bind fun v23 =>
  if (v5 == v23) = true then (ref09_Least v14).bind fun v24 =>
  if (v6 == v24) = true then (ref09_Strain v14).bind fun v25 =>
  if (v7 == v25) = true then (law09_Same v1 x1).bind fun v26 =>
  some v26 else some false else some false else some false else some false else some false else some false).bind fun j28 =>
  some j28
def cs_law09_meets : Cs (Int × (List (List (List Int))) × Int × Int × Unit) := (csC cdI (csC (cdL 1 (cdL 1 (cdL 1 cdI))) (csC cdI (csC cdI csN))))
def er_law09_meets (r : Bool) : AV := cdB.enc r
set_option maxHeartbeats 4000000 in
set_option maxRecDepth 100000 in
theorem law09_meets_j1_ok (x0 : Int) (x1 : (List (List (List Int)))) (x2 : Int) (x3 : Int) (v1 : (List (List (List Int)))) (v2 : (List (List Int))) (v3 : (List (List Int))) (v4 : (List Int)) (v5 : Int) (v6 : Int) (v7 : Int) (v14 : (List (List Int))) (r : ((List Int))) (h : law09_meets_j1 x0 x1 x2 x3 v1 v2 v3 v4 v5 v6 v7 v14 = some r) : Sem e_law09_meets ⟨none, false⟩ (pc cb_law09_meets [1, 1, 1, 1, 1, 1, 1, 0, 1]) ⟨Fr 112 [(0, .v (.int .i64 x0)), (1, .sl 1 (x1.map (cdL 1 (cdL 1 cdI)).enc)), (2, .v (.int .i64 x2)), (3, .v (.int .i64 x3)), (9, .sl 1 (v1.map (cdL 1 (cdL 1 cdI)).enc)), (10, .sl 1 (v2.map (cdL 1 cdI).enc)), (11, .sl 1 (v3.map (cdL 1 cdI).enc)), (12, .sl 1 (v4.map cdI.enc)), (13, .v (.int .i64 v5)), (14, .v (.int .i64 v6)), (15, .v (.int .i64 v7)), (16, .sl 1 (v14.map (cdL 1 cdI).enc)), (17, .e0), (69, .v (.bool (x2 != x3)))], []⟩ (fun e s => e = .normal ∧ Wk e_law09_meets s ⟨Fr 112 [(0, .v (.int .i64 x0)), (1, .sl 1 (x1.map (cdL 1 (cdL 1 cdI)).enc)), (9, .sl 1 (v1.map (cdL 1 (cdL 1 cdI)).enc)), (10, .sl 1 (v2.map (cdL 1 cdI).enc)), (11, .sl 1 (v3.map (cdL 1 cdI).enc)), (12, .sl 1 (v4.map cdI.enc)), (13, .v (.int .i64 v5)), (14, .v (.int .i64 v6)), (15, .v (.int .i64 v7)), (16, .sl 1 (v14.map (cdL 1 cdI).enc)), (17, .sl 1 (r.map cdI.enc))], []⟩) := by
  unfold law09_meets_j1 at h
  refine Sem.cond (b := (x2 != x3)) (by kernel_rfl) (fun hb15 => ?_) (fun hb15 => ?_)
  · rw [if_pos hb15] at h
    obtain ⟨v16, hv16, h⟩ := Option.bind_eq_some_iff.1 h
    refine Sem.runS (s1 := ⟨Fr 112 [(0, .v (.int .i64 x0)), (1, .sl 1 (x1.map (cdL 1 (cdL 1 cdI)).enc)), (9, .sl 1 (v1.map (cdL 1 (cdL 1 cdI)).enc)), (10, .sl 1 (v2.map (cdL 1 cdI).enc)), (11, .sl 1 (v3.map (cdL 1 cdI).enc)), (12, .sl 1 (v4.map cdI.enc)), (13, .v (.int .i64 v5)), (14, .v (.int .i64 v6)), (15, .v (.int .i64 v7)), (16, .sl 1 (v14.map (cdL 1 cdI).enc)), (17, .sl 1 (v16.map cdI.enc))], []⟩) ?_ ?_
    · refine RunS.segF (n := 112) e_law09_meets_ok 3 [(0, .v (.int .i64 x0)), (1, .sl 1 (x1.map (cdL 1 (cdL 1 cdI)).enc)), (9, .sl 1 (v1.map (cdL 1 (cdL 1 cdI)).enc)), (10, .sl 1 (v2.map (cdL 1 cdI).enc)), (11, .sl 1 (v3.map (cdL 1 cdI).enc)), (12, .sl 1 (v4.map cdI.enc)), (13, .v (.int .i64 v5)), (14, .v (.int .i64 v6)), (15, .v (.int .i64 v7)), (16, .sl 1 (v14.map (cdL 1 cdI).enc)), (70, .sl 1 (x1.map (cdL 1 (cdL 1 cdI)).enc)), (71, .v (.int .i64 x2)), (72, .v (.int .i64 x3))] [] (by kernel_rfl) ?_
      refine RunS.call e_law09_meets_ok (fid := 22) (s := cs_ref09_Together) (F := fun a => ref09_Together a.1 a.2.1 a.2.2.1) (er := er_ref09_Together) (xs := [.sl 1 (x1.map (cdL 1 (cdL 1 cdI)).enc), .v (.int .i64 x2), .v (.int .i64 x3)]) (a := (x1, x2, x3, ())) rfl (wantedA_none rfl) (by kernel_rfl) (by kernel_rfl) (by kernel_rfl) (by kernel_rfl) (Sns.cons (Sn.enc (c := (cdL 1 (cdL 1 (cdL 1 cdI)))) (v := x1)) (Sns.cons (Sn.enc (c := cdI) (v := x2)) (Sns.cons (Sn.enc (c := cdI) (v := x3)) Sns.nil))) (.inl (by kernel_rfl)) hv16 ?_
      refine RunS.segF (n := 112) e_law09_meets_ok 1 [(0, .v (.int .i64 x0)), (1, .sl 1 (x1.map (cdL 1 (cdL 1 cdI)).enc)), (9, .sl 1 (v1.map (cdL 1 (cdL 1 cdI)).enc)), (10, .sl 1 (v2.map (cdL 1 cdI).enc)), (11, .sl 1 (v3.map (cdL 1 cdI).enc)), (12, .sl 1 (v4.map cdI.enc)), (13, .v (.int .i64 v5)), (14, .v (.int .i64 v6)), (15, .v (.int .i64 v7)), (16, .sl 1 (v14.map (cdL 1 cdI).enc)), (17, .sl 1 (v16.map cdI.enc))] [] (by kernel_rfl) ?_
      exact RunS.done rfl Wk.f1
    have hq := Option.some.inj h; subst hq
    exact ⟨rfl, Wk.f1⟩
  · rw [if_f hb15] at h
    refine Sem.skip ?_
    have hq := Option.some.inj h; subst hq
    exact ⟨rfl, (Wk.trans (s1 := ⟨Fr 112 [(0, .v (.int .i64 x0)), (1, .sl 1 (x1.map (cdL 1 (cdL 1 cdI)).enc)), (9, .sl 1 (v1.map (cdL 1 (cdL 1 cdI)).enc)), (10, .sl 1 (v2.map (cdL 1 cdI).enc)), (11, .sl 1 (v3.map (cdL 1 cdI).enc)), (12, .sl 1 (v4.map cdI.enc)), (13, .v (.int .i64 v5)), (14, .v (.int .i64 v6)), (15, .v (.int .i64 v7)), (16, .sl 1 (v14.map (cdL 1 cdI).enc)), (17, .e0)], []⟩) Wk.f1 (Wk.trans (s1 := ⟨Fr 112 [(0, .v (.int .i64 x0)), (1, .sl 1 (x1.map (cdL 1 (cdL 1 cdI)).enc)), (9, .sl 1 (v1.map (cdL 1 (cdL 1 cdI)).enc)), (10, .sl 1 (v2.map (cdL 1 cdI).enc)), (11, .sl 1 (v3.map (cdL 1 cdI).enc)), (12, .sl 1 (v4.map cdI.enc)), (13, .v (.int .i64 v5)), (14, .v (.int .i64 v6)), (15, .v (.int .i64 v7)), (16, .sl 1 (v14.map (cdL 1 cdI).enc)), (17, .e0)], [none]⟩) Wk.none (Wk.trans (s1 := ⟨Fr 112 [(0, .v (.int .i64 x0)), (1, .sl 1 (x1.map (cdL 1 (cdL 1 cdI)).enc)), (9, .sl 1 (v1.map (cdL 1 (cdL 1 cdI)).enc)), (10, .sl 1 (v2.map (cdL 1 cdI).enc)), (11, .sl 1 (v3.map (cdL 1 cdI).enc)), (12, .sl 1 (v4.map cdI.enc)), (13, .v (.int .i64 v5)), (14, .v (.int .i64 v6)), (15, .v (.int .i64 v7)), (16, .sl 1 (v14.map (cdL 1 cdI).enc)), (17, .sl 1 ([].map cdI.enc))], [none]⟩) (Wk.frzG 0 (.inr (by kernel_rfl)) ⟨.inl rfl, trivial⟩ ⟨⟨.v (.int .i64 x0), (by kernel_rfl), .inl rfl⟩, ⟨.sl 1 (x1.map (cdL 1 (cdL 1 cdI)).enc), (by kernel_rfl), .inl rfl⟩, ⟨.sl 1 (v1.map (cdL 1 (cdL 1 cdI)).enc), (by kernel_rfl), .inl rfl⟩, ⟨.sl 1 (v2.map (cdL 1 cdI).enc), (by kernel_rfl), .inl rfl⟩, ⟨.sl 1 (v3.map (cdL 1 cdI).enc), (by kernel_rfl), .inl rfl⟩, ⟨.sl 1 (v4.map cdI.enc), (by kernel_rfl), .inl rfl⟩, ⟨.v (.int .i64 v5), (by kernel_rfl), .inl rfl⟩, ⟨.v (.int .i64 v6), (by kernel_rfl), .inl rfl⟩, ⟨.v (.int .i64 v7), (by kernel_rfl), .inl rfl⟩, ⟨.sl 1 (v14.map (cdL 1 cdI).enc), (by kernel_rfl), .inl rfl⟩, ⟨.e0, (by kernel_rfl), fz_e0⟩, trivial⟩) (Wk.s3 [] trivial ⟨lv, lv, lv, lv, lv, lv, lv, lv, lv, lv, lv, trivial⟩))))⟩
set_option maxHeartbeats 4000000 in
set_option maxRecDepth 100000 in
theorem law09_meets_sem (x0 : Int) (x1 : (List (List (List Int)))) (x2 : Int) (x3 : Int) (r : Bool) (h : law09_meets x0 x1 x2 x3 = some r) : Sem e_law09_meets ⟨none, false⟩ cb_law09_meets ⟨Fr 112 (pairs0 0 (cs_law09_meets.enc (x0, x1, x2, x3, ()))), []⟩ fun e s' => (e = .normal ∨ e = .ret) ∧ ∃ xs, resA e_law09_meets.P s'.fr s'.hp Tryd.f6.results.toList = some xs ∧ retA xs = er_law09_meets r := by
  unfold law09_meets at h
  refine Sem.wkQ (Sem.wk (s1 := ⟨Fr 112 [(0, .v (.int .i64 x0)), (1, .sl 1 (x1.map (cdL 1 (cdL 1 cdI)).enc)), (2, .v (.int .i64 x2)), (3, .v (.int .i64 x3))], []⟩) Wk.f1 ?_)
  refine Sem.seq ?_
  refine Sem.runS (s1 := ⟨Fr 112 [(0, .v (.int .i64 x0)), (1, .sl 1 (x1.map (cdL 1 (cdL 1 cdI)).enc)), (2, .v (.int .i64 x2)), (3, .v (.int .i64 x3))], []⟩) ?_ ?_
  · refine RunS.segF (n := 112) e_law09_meets_ok 1 [(0, .v (.int .i64 x0)), (1, .sl 1 (x1.map (cdL 1 (cdL 1 cdI)).enc)), (2, .v (.int .i64 x2)), (3, .v (.int .i64 x3))] [] (by kernel_rfl) ?_
    exact RunS.done rfl Wk.f1
  refine Sem.seq ?_
  obtain ⟨v1, hv1, h⟩ := Option.bind_eq_some_iff.1 h
  refine Sem.runS (s1 := ⟨Fr 112 [(0, .v (.int .i64 x0)), (1, .sl 1 (x1.map (cdL 1 (cdL 1 cdI)).enc)), (2, .v (.int .i64 x2)), (3, .v (.int .i64 x3)), (9, .sl 1 (v1.map (cdL 1 (cdL 1 cdI)).enc))], []⟩) ?_ ?_
  · refine RunS.segF (n := 112) e_law09_meets_ok 1 [(0, .v (.int .i64 x0)), (1, .sl 1 (x1.map (cdL 1 (cdL 1 cdI)).enc)), (2, .v (.int .i64 x2)), (3, .v (.int .i64 x3)), (18, .sl 1 (x1.map (cdL 1 (cdL 1 cdI)).enc))] [] (by kernel_rfl) ?_
    refine RunS.call e_law09_meets_ok (fid := 13) (s := cs_law09_Copy) (F := fun a => law09_Copy a.1) (er := er_law09_Copy) (xs := [.sl 1 (x1.map (cdL 1 (cdL 1 cdI)).enc)]) (a := (x1, ())) rfl (wantedA_none rfl) (by kernel_rfl) (by kernel_rfl) (by kernel_rfl) (by kernel_rfl) (Sns.cons (Sn.enc (c := (cdL 1 (cdL 1 (cdL 1 cdI)))) (v := x1)) Sns.nil) (.inl (by kernel_rfl)) hv1 ?_
    refine RunS.segF (n := 112) e_law09_meets_ok 1 [(0, .v (.int .i64 x0)), (1, .sl 1 (x1.map (cdL 1 (cdL 1 cdI)).enc)), (2, .v (.int .i64 x2)), (3, .v (.int .i64 x3)), (9, .sl 1 (v1.map (cdL 1 (cdL 1 cdI)).enc))] [] (by kernel_rfl) ?_
    exact RunS.done rfl Wk.f1
  refine Sem.seq ?_
  obtain ⟨v2, hv2, h⟩ := Option.bind_eq_some_iff.1 h
  obtain ⟨v3, hv3, h⟩ := Option.bind_eq_some_iff.1 h
  obtain ⟨v4, hv4, h⟩ := Option.bind_eq_some_iff.1 h
  refine Sem.runS (s1 := ⟨Fr 112 [(0, .v (.int .i64 x0)), (1, .sl 1 (x1.map (cdL 1 (cdL 1 cdI)).enc)), (2, .v (.int .i64 x2)), (3, .v (.int .i64 x3)), (9, .sl 1 (v1.map (cdL 1 (cdL 1 cdI)).enc)), (10, .sl 1 (v2.map (cdL 1 cdI).enc)), (11, .sl 1 (v3.map (cdL 1 cdI).enc)), (12, .sl 1 (v4.map cdI.enc))], []⟩) ?_ ?_
  · refine RunS.segF (n := 112) e_law09_meets_ok 2 [(0, .v (.int .i64 x0)), (1, .sl 1 (x1.map (cdL 1 (cdL 1 cdI)).enc)), (2, .v (.int .i64 x2)), (3, .v (.int .i64 x3)), (9, .sl 1 (v1.map (cdL 1 (cdL 1 cdI)).enc)), (20, .v (.int .i64 x0)), (21, .sl 1 (v1.map (cdL 1 (cdL 1 cdI)).enc))] [] (by kernel_rfl) ?_
    refine RunS.call e_law09_meets_ok (fid := 14) (s := cs_evening_Meet) (F := fun a => evening_Meet a.1 a.2.1) (er := er_evening_Meet) (xs := [.v (.int .i64 x0), .sl 1 (v1.map (cdL 1 (cdL 1 cdI)).enc)]) (a := (x0, v1, ())) rfl (wantedA_none rfl) (by kernel_rfl) (by kernel_rfl) (by kernel_rfl) (by kernel_rfl) (Sns.cons (Sn.enc (c := cdI) (v := x0)) (Sns.cons (Sn.enc (c := (cdL 1 (cdL 1 (cdL 1 cdI)))) (v := v1)) Sns.nil)) (.inl (by kernel_rfl)) hv2 ?_
    refine RunS.segF (n := 112) e_law09_meets_ok 2 [(0, .v (.int .i64 x0)), (1, .sl 1 (x1.map (cdL 1 (cdL 1 cdI)).enc)), (2, .v (.int .i64 x2)), (3, .v (.int .i64 x3)), (9, .sl 1 (v1.map (cdL 1 (cdL 1 cdI)).enc)), (22, .sl 1 (v2.map (cdL 1 cdI).enc)), (23, .v (.int .i64 x0)), (24, .sl 1 (v1.map (cdL 1 (cdL 1 cdI)).enc))] [] (by kernel_rfl) ?_
    refine RunS.call e_law09_meets_ok (fid := 15) (s := cs_evening_Beside) (F := fun a => evening_Beside a.1 a.2.1) (er := er_evening_Beside) (xs := [.v (.int .i64 x0), .sl 1 (v1.map (cdL 1 (cdL 1 cdI)).enc)]) (a := (x0, v1, ())) rfl (wantedA_none rfl) (by kernel_rfl) (by kernel_rfl) (by kernel_rfl) (by kernel_rfl) (Sns.cons (Sn.enc (c := cdI) (v := x0)) (Sns.cons (Sn.enc (c := (cdL 1 (cdL 1 (cdL 1 cdI)))) (v := v1)) Sns.nil)) (.inl (by kernel_rfl)) hv3 ?_
    refine RunS.segF (n := 112) e_law09_meets_ok 4 [(0, .v (.int .i64 x0)), (1, .sl 1 (x1.map (cdL 1 (cdL 1 cdI)).enc)), (2, .v (.int .i64 x2)), (3, .v (.int .i64 x3)), (9, .sl 1 (v1.map (cdL 1 (cdL 1 cdI)).enc)), (22, .sl 1 (v2.map (cdL 1 cdI).enc)), (25, .sl 1 (v3.map (cdL 1 cdI).enc)), (26, .v (.int .i64 x0)), (27, .sl 1 (v1.map (cdL 1 (cdL 1 cdI)).enc)), (28, .v (.int .i64 x2)), (29, .v (.int .i64 x3))] [] (by kernel_rfl) ?_
    refine RunS.call e_law09_meets_ok (fid := 16) (s := cs_evening_Together) (F := fun a => evening_Together a.1 a.2.1 a.2.2.1 a.2.2.2.1) (er := er_evening_Together) (xs := [.v (.int .i64 x0), .sl 1 (v1.map (cdL 1 (cdL 1 cdI)).enc), .v (.int .i64 x2), .v (.int .i64 x3)]) (a := (x0, v1, x2, x3, ())) rfl (wantedA_none rfl) (by kernel_rfl) (by kernel_rfl) (by kernel_rfl) (by kernel_rfl) (Sns.cons (Sn.enc (c := cdI) (v := x0)) (Sns.cons (Sn.enc (c := (cdL 1 (cdL 1 (cdL 1 cdI)))) (v := v1)) (Sns.cons (Sn.enc (c := cdI) (v := x2)) (Sns.cons (Sn.enc (c := cdI) (v := x3)) Sns.nil)))) (.inl (by kernel_rfl)) hv4 ?_
    refine RunS.segF (n := 112) e_law09_meets_ok 3 [(0, .v (.int .i64 x0)), (1, .sl 1 (x1.map (cdL 1 (cdL 1 cdI)).enc)), (2, .v (.int .i64 x2)), (3, .v (.int .i64 x3)), (9, .sl 1 (v1.map (cdL 1 (cdL 1 cdI)).enc)), (10, .sl 1 (v2.map (cdL 1 cdI).enc)), (11, .sl 1 (v3.map (cdL 1 cdI).enc)), (12, .sl 1 (v4.map cdI.enc))] [] (by kernel_rfl) ?_
    exact RunS.done rfl Wk.f1
  refine Sem.seq ?_
  obtain ⟨v5, hv5, h⟩ := Option.bind_eq_some_iff.1 h
  obtain ⟨v6, hv6, h⟩ := Option.bind_eq_some_iff.1 h
  obtain ⟨v7, hv7, h⟩ := Option.bind_eq_some_iff.1 h
  refine Sem.runS (s1 := ⟨Fr 112 [(0, .v (.int .i64 x0)), (1, .sl 1 (x1.map (cdL 1 (cdL 1 cdI)).enc)), (2, .v (.int .i64 x2)), (3, .v (.int .i64 x3)), (9, .sl 1 (v1.map (cdL 1 (cdL 1 cdI)).enc)), (10, .sl 1 (v2.map (cdL 1 cdI).enc)), (11, .sl 1 (v3.map (cdL 1 cdI).enc)), (12, .sl 1 (v4.map cdI.enc)), (13, .v (.int .i64 v5)), (14, .v (.int .i64 v6)), (15, .v (.int .i64 v7))], []⟩) ?_ ?_
  · refine RunS.segF (n := 112) e_law09_meets_ok 2 [(0, .v (.int .i64 x0)), (1, .sl 1 (x1.map (cdL 1 (cdL 1 cdI)).enc)), (2, .v (.int .i64 x2)), (3, .v (.int .i64 x3)), (9, .sl 1 (v1.map (cdL 1 (cdL 1 cdI)).enc)), (10, .sl 1 (v2.map (cdL 1 cdI).enc)), (11, .sl 1 (v3.map (cdL 1 cdI).enc)), (12, .sl 1 (v4.map cdI.enc)), (31, .v (.int .i64 x0)), (32, .sl 1 (v1.map (cdL 1 (cdL 1 cdI)).enc))] [] (by kernel_rfl) ?_
    refine RunS.call e_law09_meets_ok (fid := 12) (s := cs_evening_Most) (F := fun a => evening_Most a.1 a.2.1) (er := er_evening_Most) (xs := [.v (.int .i64 x0), .sl 1 (v1.map (cdL 1 (cdL 1 cdI)).enc)]) (a := (x0, v1, ())) rfl (wantedA_none rfl) (by kernel_rfl) (by kernel_rfl) (by kernel_rfl) (by kernel_rfl) (Sns.cons (Sn.enc (c := cdI) (v := x0)) (Sns.cons (Sn.enc (c := (cdL 1 (cdL 1 (cdL 1 cdI)))) (v := v1)) Sns.nil)) (.inl (by kernel_rfl)) hv5 ?_
    refine RunS.segF (n := 112) e_law09_meets_ok 2 [(0, .v (.int .i64 x0)), (1, .sl 1 (x1.map (cdL 1 (cdL 1 cdI)).enc)), (2, .v (.int .i64 x2)), (3, .v (.int .i64 x3)), (9, .sl 1 (v1.map (cdL 1 (cdL 1 cdI)).enc)), (10, .sl 1 (v2.map (cdL 1 cdI).enc)), (11, .sl 1 (v3.map (cdL 1 cdI).enc)), (12, .sl 1 (v4.map cdI.enc)), (33, .v (.int .i64 v5)), (34, .v (.int .i64 x0)), (35, .sl 1 (v1.map (cdL 1 (cdL 1 cdI)).enc))] [] (by kernel_rfl) ?_
    refine RunS.call e_law09_meets_ok (fid := 17) (s := cs_evening_Least) (F := fun a => evening_Least a.1 a.2.1) (er := er_evening_Least) (xs := [.v (.int .i64 x0), .sl 1 (v1.map (cdL 1 (cdL 1 cdI)).enc)]) (a := (x0, v1, ())) rfl (wantedA_none rfl) (by kernel_rfl) (by kernel_rfl) (by kernel_rfl) (by kernel_rfl) (Sns.cons (Sn.enc (c := cdI) (v := x0)) (Sns.cons (Sn.enc (c := (cdL 1 (cdL 1 (cdL 1 cdI)))) (v := v1)) Sns.nil)) (.inl (by kernel_rfl)) hv6 ?_
    refine RunS.segF (n := 112) e_law09_meets_ok 2 [(0, .v (.int .i64 x0)), (1, .sl 1 (x1.map (cdL 1 (cdL 1 cdI)).enc)), (2, .v (.int .i64 x2)), (3, .v (.int .i64 x3)), (9, .sl 1 (v1.map (cdL 1 (cdL 1 cdI)).enc)), (10, .sl 1 (v2.map (cdL 1 cdI).enc)), (11, .sl 1 (v3.map (cdL 1 cdI).enc)), (12, .sl 1 (v4.map cdI.enc)), (33, .v (.int .i64 v5)), (36, .v (.int .i64 v6)), (37, .v (.int .i64 x0)), (38, .sl 1 (v1.map (cdL 1 (cdL 1 cdI)).enc))] [] (by kernel_rfl) ?_
    refine RunS.call e_law09_meets_ok (fid := 18) (s := cs_evening_Strain) (F := fun a => evening_Strain a.1 a.2.1) (er := er_evening_Strain) (xs := [.v (.int .i64 x0), .sl 1 (v1.map (cdL 1 (cdL 1 cdI)).enc)]) (a := (x0, v1, ())) rfl (wantedA_none rfl) (by kernel_rfl) (by kernel_rfl) (by kernel_rfl) (by kernel_rfl) (Sns.cons (Sn.enc (c := cdI) (v := x0)) (Sns.cons (Sn.enc (c := (cdL 1 (cdL 1 (cdL 1 cdI)))) (v := v1)) Sns.nil)) (.inl (by kernel_rfl)) hv7 ?_
    refine RunS.segF (n := 112) e_law09_meets_ok 3 [(0, .v (.int .i64 x0)), (1, .sl 1 (x1.map (cdL 1 (cdL 1 cdI)).enc)), (2, .v (.int .i64 x2)), (3, .v (.int .i64 x3)), (9, .sl 1 (v1.map (cdL 1 (cdL 1 cdI)).enc)), (10, .sl 1 (v2.map (cdL 1 cdI).enc)), (11, .sl 1 (v3.map (cdL 1 cdI).enc)), (12, .sl 1 (v4.map cdI.enc)), (13, .v (.int .i64 v5)), (14, .v (.int .i64 v6)), (15, .v (.int .i64 v7))] [] (by kernel_rfl) ?_
    exact RunS.done rfl Wk.f1
  refine Sem.seq ?_
  refine Sem.seq ?_
  obtain ⟨v8, hv8, h⟩ := Option.bind_eq_some_iff.1 h
  refine Sem.runS (s1 := ⟨Fr 112 [(0, .v (.int .i64 x0)), (1, .sl 1 (x1.map (cdL 1 (cdL 1 cdI)).enc)), (2, .v (.int .i64 x2)), (3, .v (.int .i64 x3)), (9, .sl 1 (v1.map (cdL 1 (cdL 1 cdI)).enc)), (10, .sl 1 (v2.map (cdL 1 cdI).enc)), (11, .sl 1 (v3.map (cdL 1 cdI).enc)), (12, .sl 1 (v4.map cdI.enc)), (13, .v (.int .i64 v5)), (14, .v (.int .i64 v6)), (15, .v (.int .i64 v7)), (43, .v (.bool (!v8)))], []⟩) ?_ ?_
  · refine RunS.segF (n := 112) e_law09_meets_ok 2 [(0, .v (.int .i64 x0)), (1, .sl 1 (x1.map (cdL 1 (cdL 1 cdI)).enc)), (2, .v (.int .i64 x2)), (3, .v (.int .i64 x3)), (9, .sl 1 (v1.map (cdL 1 (cdL 1 cdI)).enc)), (10, .sl 1 (v2.map (cdL 1 cdI).enc)), (11, .sl 1 (v3.map (cdL 1 cdI).enc)), (12, .sl 1 (v4.map cdI.enc)), (13, .v (.int .i64 v5)), (14, .v (.int .i64 v6)), (15, .v (.int .i64 v7)), (40, .v (.int .i64 x0)), (41, .sl 1 (x1.map (cdL 1 (cdL 1 cdI)).enc))] [] (by kernel_rfl) ?_
    refine RunS.call e_law09_meets_ok (fid := 19) (s := cs_ref09_Valid) (F := fun a => ref09_Valid a.1 a.2.1) (er := er_ref09_Valid) (xs := [.v (.int .i64 x0), .sl 1 (x1.map (cdL 1 (cdL 1 cdI)).enc)]) (a := (x0, x1, ())) rfl (wantedA_none rfl) (by kernel_rfl) (by kernel_rfl) (by kernel_rfl) (by kernel_rfl) (Sns.cons (Sn.enc (c := cdI) (v := x0)) (Sns.cons (Sn.enc (c := (cdL 1 (cdL 1 (cdL 1 cdI)))) (v := x1)) Sns.nil)) (.inl (by kernel_rfl)) hv8 ?_
    refine RunS.segF (n := 112) e_law09_meets_ok 1 [(0, .v (.int .i64 x0)), (1, .sl 1 (x1.map (cdL 1 (cdL 1 cdI)).enc)), (2, .v (.int .i64 x2)), (3, .v (.int .i64 x3)), (9, .sl 1 (v1.map (cdL 1 (cdL 1 cdI)).enc)), (10, .sl 1 (v2.map (cdL 1 cdI).enc)), (11, .sl 1 (v3.map (cdL 1 cdI).enc)), (12, .sl 1 (v4.map cdI.enc)), (13, .v (.int .i64 v5)), (14, .v (.int .i64 v6)), (15, .v (.int .i64 v7)), (43, .v (.bool (!v8)))] [] (by kernel_rfl) ?_
    exact RunS.done rfl Wk.f1
  refine Sem.cond (b := (!v8)) (by kernel_rfl) (fun hb9 => ?_) (fun hb9 => ?_)
  · rw [if_pos hb9] at h
    refine Sem.seq ?_
    obtain ⟨j12, hj12, h⟩ := Option.bind_eq_some_iff.1 h
    refine Sem.runS (s1 := ⟨Fr 112 [(8, .v (.bool j12))], []⟩) ?_ ?_
    · refine RunS.segF (n := 112) e_law09_meets_ok 1 [(1, .sl 1 (x1.map (cdL 1 (cdL 1 cdI)).enc)), (9, .sl 1 (v1.map (cdL 1 (cdL 1 cdI)).enc)), (11, .sl 1 (v3.map (cdL 1 cdI).enc)), (12, .sl 1 (v4.map cdI.enc)), (13, .v (.int .i64 v5)), (14, .v (.int .i64 v6)), (15, .v (.int .i64 v7)), (44, .sl 1 (v2.map (cdL 1 cdI).enc))] [] (by kernel_rfl) ?_
      refine RunS.one e_law09_meets_ok 0 rfl (op_q (wantedA_none rfl) rfl (q_len (a := .sl 1 (v2.map (cdL 1 cdI).enc)) (by kernel_rfl) (len_sl (el := 29) (by kernel_rfl)))) ?_
      refine RunS.segF (n := 112) e_law09_meets_ok 1 [(1, .sl 1 (x1.map (cdL 1 (cdL 1 cdI)).enc)), (9, .sl 1 (v1.map (cdL 1 (cdL 1 cdI)).enc)), (12, .sl 1 (v4.map cdI.enc)), (13, .v (.int .i64 v5)), (14, .v (.int .i64 v6)), (15, .v (.int .i64 v7)), (45, .v (.int .i64 (v2.length : Int))), (46, .sl 1 (v3.map (cdL 1 cdI).enc))] [] (by kernel_rfl) ?_
      refine RunS.one e_law09_meets_ok 0 rfl (op_q (wantedA_none rfl) rfl (q_len (a := .sl 1 (v3.map (cdL 1 cdI).enc)) (by kernel_rfl) (len_sl (el := 29) (by kernel_rfl)))) ?_
      refine RunS.segF (n := 112) e_law09_meets_ok 2 [(1, .sl 1 (x1.map (cdL 1 (cdL 1 cdI)).enc)), (9, .sl 1 (v1.map (cdL 1 (cdL 1 cdI)).enc)), (13, .v (.int .i64 v5)), (14, .v (.int .i64 v6)), (15, .v (.int .i64 v7)), (48, .v (.int .i64 (wr .i64 ((v2.length : Int) + (v3.length : Int))))), (49, .sl 1 (v4.map cdI.enc))] [] (by kernel_rfl) ?_
      refine RunS.one e_law09_meets_ok 0 rfl (op_q (wantedA_none rfl) rfl (q_len (a := .sl 1 (v4.map cdI.enc)) (by kernel_rfl) (len_sl (el := 3) (by kernel_rfl)))) ?_
      refine RunS.segF (n := 112) e_law09_meets_ok 9 [(1, .sl 1 (x1.map (cdL 1 (cdL 1 cdI)).enc)), (9, .sl 1 (v1.map (cdL 1 (cdL 1 cdI)).enc)), (59, .v (.bool ((wr .i64 ((wr .i64 ((wr .i64 ((wr .i64 ((wr .i64 ((v2.length : Int) + (v3.length : Int))) + (v4.length : Int))) + v5)) + v6)) + v7)) == 0)))] [] (by kernel_rfl) ?_
      rcases Bool.eq_false_or_eq_true ((wr .i64 ((wr .i64 ((wr .i64 ((wr .i64 ((wr .i64 ((v2.length : Int) + (v3.length : Int))) + (v4.length : Int))) + v5)) + v6)) + v7)) == 0) with hc13 | hc13
      · rw [if_pos hc13] at hj12
        rw [hc13]
        refine RunS.segF (n := 112) e_law09_meets_ok 2 [(59, .v (.bool true)), (60, .sl 1 (v1.map (cdL 1 (cdL 1 cdI)).enc)), (61, .sl 1 (x1.map (cdL 1 (cdL 1 cdI)).enc))] [] (by kernel_rfl) ?_
        obtain ⟨v10, hv10, hj12⟩ := Option.bind_eq_some_iff.1 hj12
        refine RunS.call e_law09_meets_ok (fid := 20) (s := cs_law09_Same) (F := fun a => law09_Same a.1 a.2.1) (er := er_law09_Same) (xs := [.sl 1 (v1.map (cdL 1 (cdL 1 cdI)).enc), .sl 1 (x1.map (cdL 1 (cdL 1 cdI)).enc)]) (a := (v1, x1, ())) rfl (by kernel_rfl) (by kernel_rfl) (by kernel_rfl) (by kernel_rfl) (by kernel_rfl) (Sns.cons (Sn.enc (c := (cdL 1 (cdL 1 (cdL 1 cdI)))) (v := v1)) (Sns.cons (Sn.enc (c := (cdL 1 (cdL 1 (cdL 1 cdI)))) (v := x1)) Sns.nil)) (.inl (by kernel_rfl)) hv10 ?_
        refine RunS.segF (n := 112) e_law09_meets_ok 2 [(8, .v (.bool v10))] [] (by kernel_rfl) ?_
        have hq := Option.some.inj hj12; subst hq
        exact RunS.done rfl Wk.f1
      · rw [if_f hc13] at hj12
        rw [hc13]
        refine RunS.segF (n := 112) e_law09_meets_ok 5 [(8, .v (.bool false))] [] (by kernel_rfl) ?_
        have hq := Option.some.inj hj12; subst hq
        exact RunS.done rfl Wk.f1
    refine Sem.ret ?_
    have hq := Option.some.inj h; subst hq
    exact ⟨⟨Fr 112 [(8, .v (.bool j12))], []⟩, Wk.f1, .inr rfl, [.v (.bool j12)], (by kernel_rfl), (by kernel_rfl)⟩
  · rw [if_f hb9] at h
    refine Sem.skip ?_
    refine Sem.seq ?_
    obtain ⟨v14, hv14, h⟩ := Option.bind_eq_some_iff.1 h
    refine Sem.runS (s1 := ⟨Fr 112 [(0, .v (.int .i64 x0)), (1, .sl 1 (x1.map (cdL 1 (cdL 1 cdI)).enc)), (2, .v (.int .i64 x2)), (3, .v (.int .i64 x3)), (9, .sl 1 (v1.map (cdL 1 (cdL 1 cdI)).enc)), (10, .sl 1 (v2.map (cdL 1 cdI).enc)), (11, .sl 1 (v3.map (cdL 1 cdI).enc)), (12, .sl 1 (v4.map cdI.enc)), (13, .v (.int .i64 v5)), (14, .v (.int .i64 v6)), (15, .v (.int .i64 v7)), (16, .sl 1 (v14.map (cdL 1 cdI).enc))], []⟩) ?_ ?_
    · refine RunS.segF (n := 112) e_law09_meets_ok 2 [(0, .v (.int .i64 x0)), (1, .sl 1 (x1.map (cdL 1 (cdL 1 cdI)).enc)), (2, .v (.int .i64 x2)), (3, .v (.int .i64 x3)), (9, .sl 1 (v1.map (cdL 1 (cdL 1 cdI)).enc)), (10, .sl 1 (v2.map (cdL 1 cdI).enc)), (11, .sl 1 (v3.map (cdL 1 cdI).enc)), (12, .sl 1 (v4.map cdI.enc)), (13, .v (.int .i64 v5)), (14, .v (.int .i64 v6)), (15, .v (.int .i64 v7)), (64, .v (.int .i64 x0)), (65, .sl 1 (x1.map (cdL 1 (cdL 1 cdI)).enc))] [] (by kernel_rfl) ?_
      refine RunS.call e_law09_meets_ok (fid := 21) (s := cs_ref09_Meet) (F := fun a => ref09_Meet a.1 a.2.1) (er := er_ref09_Meet) (xs := [.v (.int .i64 x0), .sl 1 (x1.map (cdL 1 (cdL 1 cdI)).enc)]) (a := (x0, x1, ())) rfl (wantedA_none rfl) (by kernel_rfl) (by kernel_rfl) (by kernel_rfl) (by kernel_rfl) (Sns.cons (Sn.enc (c := cdI) (v := x0)) (Sns.cons (Sn.enc (c := (cdL 1 (cdL 1 (cdL 1 cdI)))) (v := x1)) Sns.nil)) (.inl (by kernel_rfl)) hv14 ?_
      refine RunS.segF (n := 112) e_law09_meets_ok 1 [(0, .v (.int .i64 x0)), (1, .sl 1 (x1.map (cdL 1 (cdL 1 cdI)).enc)), (2, .v (.int .i64 x2)), (3, .v (.int .i64 x3)), (9, .sl 1 (v1.map (cdL 1 (cdL 1 cdI)).enc)), (10, .sl 1 (v2.map (cdL 1 cdI).enc)), (11, .sl 1 (v3.map (cdL 1 cdI).enc)), (12, .sl 1 (v4.map cdI.enc)), (13, .v (.int .i64 v5)), (14, .v (.int .i64 v6)), (15, .v (.int .i64 v7)), (16, .sl 1 (v14.map (cdL 1 cdI).enc))] [] (by kernel_rfl) ?_
      exact RunS.done rfl Wk.f1
    refine Sem.seq ?_
    refine Sem.runS (s1 := ⟨Fr 112 [(0, .v (.int .i64 x0)), (1, .sl 1 (x1.map (cdL 1 (cdL 1 cdI)).enc)), (2, .v (.int .i64 x2)), (3, .v (.int .i64 x3)), (9, .sl 1 (v1.map (cdL 1 (cdL 1 cdI)).enc)), (10, .sl 1 (v2.map (cdL 1 cdI).enc)), (11, .sl 1 (v3.map (cdL 1 cdI).enc)), (12, .sl 1 (v4.map cdI.enc)), (13, .v (.int .i64 v5)), (14, .v (.int .i64 v6)), (15, .v (.int .i64 v7)), (16, .sl 1 (v14.map (cdL 1 cdI).enc)), (17, .e0)], []⟩) ?_ ?_
    · refine RunS.segF (n := 112) e_law09_meets_ok 1 [(0, .v (.int .i64 x0)), (1, .sl 1 (x1.map (cdL 1 (cdL 1 cdI)).enc)), (2, .v (.int .i64 x2)), (3, .v (.int .i64 x3)), (9, .sl 1 (v1.map (cdL 1 (cdL 1 cdI)).enc)), (10, .sl 1 (v2.map (cdL 1 cdI).enc)), (11, .sl 1 (v3.map (cdL 1 cdI).enc)), (12, .sl 1 (v4.map cdI.enc)), (13, .v (.int .i64 v5)), (14, .v (.int .i64 v6)), (15, .v (.int .i64 v7)), (16, .sl 1 (v14.map (cdL 1 cdI).enc)), (17, .e0)] [] (by kernel_rfl) ?_
      exact RunS.done rfl Wk.f1
    refine Sem.seq ?_
    refine Sem.seq ?_
    refine Sem.runS (s1 := ⟨Fr 112 [(0, .v (.int .i64 x0)), (1, .sl 1 (x1.map (cdL 1 (cdL 1 cdI)).enc)), (2, .v (.int .i64 x2)), (3, .v (.int .i64 x3)), (9, .sl 1 (v1.map (cdL 1 (cdL 1 cdI)).enc)), (10, .sl 1 (v2.map (cdL 1 cdI).enc)), (11, .sl 1 (v3.map (cdL 1 cdI).enc)), (12, .sl 1 (v4.map cdI.enc)), (13, .v (.int .i64 v5)), (14, .v (.int .i64 v6)), (15, .v (.int .i64 v7)), (16, .sl 1 (v14.map (cdL 1 cdI).enc)), (17, .e0), (69, .v (.bool (x2 != x3)))], []⟩) ?_ ?_
    · refine RunS.segF (n := 112) e_law09_meets_ok 3 [(0, .v (.int .i64 x0)), (1, .sl 1 (x1.map (cdL 1 (cdL 1 cdI)).enc)), (2, .v (.int .i64 x2)), (3, .v (.int .i64 x3)), (9, .sl 1 (v1.map (cdL 1 (cdL 1 cdI)).enc)), (10, .sl 1 (v2.map (cdL 1 cdI).enc)), (11, .sl 1 (v3.map (cdL 1 cdI).enc)), (12, .sl 1 (v4.map cdI.enc)), (13, .v (.int .i64 v5)), (14, .v (.int .i64 v6)), (15, .v (.int .i64 v7)), (16, .sl 1 (v14.map (cdL 1 cdI).enc)), (17, .e0), (69, .v (.bool (x2 != x3)))] [] (by kernel_rfl) ?_
      exact RunS.done rfl Wk.f1
    obtain ⟨r18, hr18, h⟩ := Option.bind_eq_some_iff.1 h
    refine Sem.cut (law09_meets_j1_ok x0 x1 x2 x3 v1 v2 v3 v4 v5 v6 v7 v14 _ hr18) ?_
    refine Sem.seq ?_
    obtain ⟨v19, hv19, h⟩ := Option.bind_eq_some_iff.1 h
    obtain ⟨j28, hj28, h⟩ := Option.bind_eq_some_iff.1 h
    refine Sem.runS (s1 := ⟨Fr 112 [(8, .v (.bool j28))], []⟩) ?_ ?_
    · refine RunS.segF (n := 112) e_law09_meets_ok 2 [(0, .v (.int .i64 x0)), (1, .sl 1 (x1.map (cdL 1 (cdL 1 cdI)).enc)), (9, .sl 1 (v1.map (cdL 1 (cdL 1 cdI)).enc)), (11, .sl 1 (v3.map (cdL 1 cdI).enc)), (12, .sl 1 (v4.map cdI.enc)), (13, .v (.int .i64 v5)), (14, .v (.int .i64 v6)), (15, .v (.int .i64 v7)), (16, .sl 1 (v14.map (cdL 1 cdI).enc)), (17, .sl 1 (r18.map cdI.enc)), (74, .sl 1 (v2.map (cdL 1 cdI).enc)), (75, .sl 1 (v14.map (cdL 1 cdI).enc))] [] (by kernel_rfl) ?_
      refine RunS.call e_law09_meets_ok (fid := 23) (s := cs_kit_SameLists) (F := fun a => kit_SameLists a.1 a.2.1) (er := er_kit_SameLists) (xs := [.sl 1 (v2.map (cdL 1 cdI).enc), .sl 1 (v14.map (cdL 1 cdI).enc)]) (a := (v2, v14, ())) rfl (wantedA_none rfl) (by kernel_rfl) (by kernel_rfl) (by kernel_rfl) (by kernel_rfl) (Sns.cons (Sn.enc (c := (cdL 1 (cdL 1 cdI))) (v := v2)) (Sns.cons (Sn.enc (c := (cdL 1 (cdL 1 cdI))) (v := v14)) Sns.nil)) (.inl (by kernel_rfl)) hv19 ?_
      refine RunS.segF (n := 112) e_law09_meets_ok 1 [(0, .v (.int .i64 x0)), (1, .sl 1 (x1.map (cdL 1 (cdL 1 cdI)).enc)), (9, .sl 1 (v1.map (cdL 1 (cdL 1 cdI)).enc)), (11, .sl 1 (v3.map (cdL 1 cdI).enc)), (12, .sl 1 (v4.map cdI.enc)), (13, .v (.int .i64 v5)), (14, .v (.int .i64 v6)), (15, .v (.int .i64 v7)), (16, .sl 1 (v14.map (cdL 1 cdI).enc)), (17, .sl 1 (r18.map cdI.enc)), (77, .v (.bool v19))] [] (by kernel_rfl) ?_
      rcases Bool.eq_false_or_eq_true v19 with hc29 | hc29
      · rw [if_pos hc29] at hj28
        rw [hc29]
        refine RunS.segF (n := 112) e_law09_meets_ok 3 [(1, .sl 1 (x1.map (cdL 1 (cdL 1 cdI)).enc)), (9, .sl 1 (v1.map (cdL 1 (cdL 1 cdI)).enc)), (12, .sl 1 (v4.map cdI.enc)), (13, .v (.int .i64 v5)), (14, .v (.int .i64 v6)), (15, .v (.int .i64 v7)), (16, .sl 1 (v14.map (cdL 1 cdI).enc)), (17, .sl 1 (r18.map cdI.enc)), (77, .v (.bool true)), (78, .sl 1 (v3.map (cdL 1 cdI).enc)), (79, .v (.int .i64 x0)), (80, .sl 1 (x1.map (cdL 1 (cdL 1 cdI)).enc))] [] (by kernel_rfl) ?_
        obtain ⟨v20, hv20, hj28⟩ := Option.bind_eq_some_iff.1 hj28
        refine RunS.call e_law09_meets_ok (fid := 24) (s := cs_ref09_Beside) (F := fun a => ref09_Beside a.1 a.2.1) (er := er_ref09_Beside) (xs := [.v (.int .i64 x0), .sl 1 (x1.map (cdL 1 (cdL 1 cdI)).enc)]) (a := (x0, x1, ())) rfl (by kernel_rfl) (by kernel_rfl) (by kernel_rfl) (by kernel_rfl) (by kernel_rfl) (Sns.cons (Sn.enc (c := cdI) (v := x0)) (Sns.cons (Sn.enc (c := (cdL 1 (cdL 1 (cdL 1 cdI)))) (v := x1)) Sns.nil)) (.inl (by kernel_rfl)) hv20 ?_
        obtain ⟨v21, hv21, hj28⟩ := Option.bind_eq_some_iff.1 hj28
        refine RunS.call e_law09_meets_ok (fid := 23) (s := cs_kit_SameLists) (F := fun a => kit_SameLists a.1 a.2.1) (er := er_kit_SameLists) (xs := [.sl 1 (v3.map (cdL 1 cdI).enc), .sl 1 (v20.map (cdL 1 cdI).enc)]) (a := (v3, v20, ())) rfl (by kernel_rfl) (by kernel_rfl) (by kernel_rfl) (by kernel_rfl) (by kernel_rfl) (Sns.cons (Sn.enc (c := (cdL 1 (cdL 1 cdI))) (v := v3)) (Sns.cons (Sn.enc (c := (cdL 1 (cdL 1 cdI))) (v := v20)) Sns.nil)) (.inl (by kernel_rfl)) hv21 ?_
        refine RunS.segF (n := 112) e_law09_meets_ok 2 [(1, .sl 1 (x1.map (cdL 1 (cdL 1 cdI)).enc)), (9, .sl 1 (v1.map (cdL 1 (cdL 1 cdI)).enc)), (12, .sl 1 (v4.map cdI.enc)), (13, .v (.int .i64 v5)), (14, .v (.int .i64 v6)), (15, .v (.int .i64 v7)), (16, .sl 1 (v14.map (cdL 1 cdI).enc)), (17, .sl 1 (r18.map cdI.enc)), (84, .v (.bool v21))] [] (by kernel_rfl) ?_
        rcases Bool.eq_false_or_eq_true v21 with hc30 | hc30
        · rw [if_pos hc30] at hj28
          rw [hc30]
          refine RunS.segF (n := 112) e_law09_meets_ok 2 [(1, .sl 1 (x1.map (cdL 1 (cdL 1 cdI)).enc)), (9, .sl 1 (v1.map (cdL 1 (cdL 1 cdI)).enc)), (13, .v (.int .i64 v5)), (14, .v (.int .i64 v6)), (15, .v (.int .i64 v7)), (16, .sl 1 (v14.map (cdL 1 cdI).enc)), (84, .v (.bool true)), (85, .sl 1 (v4.map cdI.enc)), (86, .sl 1 (r18.map cdI.enc))] [] (by kernel_rfl) ?_
          obtain ⟨v22, hv22, hj28⟩ := Option.bind_eq_some_iff.1 hj28
          refine RunS.call e_law09_meets_ok (fid := 25) (s := cs_slices_Equal_L_int) (F := fun a => slices_Equal_L_int a.1 a.2.1) (er := er_slices_Equal_L_int) (xs := [.sl 1 (v4.map cdI.enc), .sl 1 (r18.map cdI.enc)]) (a := (v4, r18, ())) rfl (by kernel_rfl) (by kernel_rfl) (by kernel_rfl) (by kernel_rfl) (by kernel_rfl) (Sns.cons (Sn.enc (c := (cdL 1 cdI)) (v := v4)) (Sns.cons (Sn.enc (c := (cdL 1 cdI)) (v := r18)) Sns.nil)) (.inl (by kernel_rfl)) hv22 ?_
          refine RunS.segF (n := 112) e_law09_meets_ok 2 [(1, .sl 1 (x1.map (cdL 1 (cdL 1 cdI)).enc)), (9, .sl 1 (v1.map (cdL 1 (cdL 1 cdI)).enc)), (13, .v (.int .i64 v5)), (14, .v (.int .i64 v6)), (15, .v (.int .i64 v7)), (16, .sl 1 (v14.map (cdL 1 cdI).enc)), (89, .v (.bool v22))] [] (by kernel_rfl) ?_
          rcases Bool.eq_false_or_eq_true v22 with hc31 | hc31
          · rw [if_pos hc31] at hj28
            rw [hc31]
            refine RunS.segF (n := 112) e_law09_meets_ok 2 [(1, .sl 1 (x1.map (cdL 1 (cdL 1 cdI)).enc)), (9, .sl 1 (v1.map (cdL 1 (cdL 1 cdI)).enc)), (14, .v (.int .i64 v6)), (15, .v (.int .i64 v7)), (16, .sl 1 (v14.map (cdL 1 cdI).enc)), (89, .v (.bool true)), (90, .v (.int .i64 v5)), (91, .sl 1 (v14.map (cdL 1 cdI).enc))] [] (by kernel_rfl) ?_
            obtain ⟨v23, hv23, hj28⟩ := Option.bind_eq_some_iff.1 hj28
            refine RunS.call e_law09_meets_ok (fid := 26) (s := cs_ref09_Most) (F := fun a => ref09_Most a.1) (er := er_ref09_Most) (xs := [.sl 1 (v14.map (cdL 1 cdI).enc)]) (a := (v14, ())) rfl (by kernel_rfl) (by kernel_rfl) (by kernel_rfl) (by kernel_rfl) (by kernel_rfl) (Sns.cons (Sn.enc (c := (cdL 1 (cdL 1 cdI))) (v := v14)) Sns.nil) (.inl (by kernel_rfl)) hv23 ?_
            refine RunS.segF (n := 112) e_law09_meets_ok 3 [(1, .sl 1 (x1.map (cdL 1 (cdL 1 cdI)).enc)), (9, .sl 1 (v1.map (cdL 1 (cdL 1 cdI)).enc)), (14, .v (.int .i64 v6)), (15, .v (.int .i64 v7)), (16, .sl 1 (v14.map (cdL 1 cdI).enc)), (95, .v (.bool (v5 == v23)))] [] (by kernel_rfl) ?_
            rcases Bool.eq_false_or_eq_true (v5 == v23) with hc32 | hc32
            · rw [if_pos hc32] at hj28
              rw [hc32]
              refine RunS.segF (n := 112) e_law09_meets_ok 2 [(1, .sl 1 (x1.map (cdL 1 (cdL 1 cdI)).enc)), (9, .sl 1 (v1.map (cdL 1 (cdL 1 cdI)).enc)), (15, .v (.int .i64 v7)), (16, .sl 1 (v14.map (cdL 1 cdI).enc)), (95, .v (.bool true)), (96, .v (.int .i64 v6)), (97, .sl 1 (v14.map (cdL 1 cdI).enc))] [] (by kernel_rfl) ?_
              obtain ⟨v24, hv24, hj28⟩ := Option.bind_eq_some_iff.1 hj28
              refine RunS.call e_law09_meets_ok (fid := 27) (s := cs_ref09_Least) (F := fun a => ref09_Least a.1) (er := er_ref09_Least) (xs := [.sl 1 (v14.map (cdL 1 cdI).enc)]) (a := (v14, ())) rfl (by kernel_rfl) (by kernel_rfl) (by kernel_rfl) (by kernel_rfl) (by kernel_rfl) (Sns.cons (Sn.enc (c := (cdL 1 (cdL 1 cdI))) (v := v14)) Sns.nil) (.inl (by kernel_rfl)) hv24 ?_
              refine RunS.segF (n := 112) e_law09_meets_ok 3 [(1, .sl 1 (x1.map (cdL 1 (cdL 1 cdI)).enc)), (9, .sl 1 (v1.map (cdL 1 (cdL 1 cdI)).enc)), (15, .v (.int .i64 v7)), (16, .sl 1 (v14.map (cdL 1 cdI).enc)), (101, .v (.bool (v6 == v24)))] [] (by kernel_rfl) ?_
              rcases Bool.eq_false_or_eq_true (v6 == v24) with hc33 | hc33
              · rw [if_pos hc33] at hj28
                rw [hc33]
                refine RunS.segF (n := 112) e_law09_meets_ok 2 [(1, .sl 1 (x1.map (cdL 1 (cdL 1 cdI)).enc)), (9, .sl 1 (v1.map (cdL 1 (cdL 1 cdI)).enc)), (101, .v (.bool true)), (102, .v (.int .i64 v7)), (103, .sl 1 (v14.map (cdL 1 cdI).enc))] [] (by kernel_rfl) ?_
                obtain ⟨v25, hv25, hj28⟩ := Option.bind_eq_some_iff.1 hj28
                refine RunS.call e_law09_meets_ok (fid := 28) (s := cs_ref09_Strain) (F := fun a => ref09_Strain a.1) (er := er_ref09_Strain) (xs := [.sl 1 (v14.map (cdL 1 cdI).enc)]) (a := (v14, ())) rfl (by kernel_rfl) (by kernel_rfl) (by kernel_rfl) (by kernel_rfl) (by kernel_rfl) (Sns.cons (Sn.enc (c := (cdL 1 (cdL 1 cdI))) (v := v14)) Sns.nil) (.inl (by kernel_rfl)) hv25 ?_
                refine RunS.segF (n := 112) e_law09_meets_ok 3 [(1, .sl 1 (x1.map (cdL 1 (cdL 1 cdI)).enc)), (9, .sl 1 (v1.map (cdL 1 (cdL 1 cdI)).enc)), (107, .v (.bool (v7 == v25)))] [] (by kernel_rfl) ?_
                rcases Bool.eq_false_or_eq_true (v7 == v25) with hc34 | hc34
                · rw [if_pos hc34] at hj28
                  rw [hc34]
                  refine RunS.segF (n := 112) e_law09_meets_ok 2 [(107, .v (.bool true)), (108, .sl 1 (v1.map (cdL 1 (cdL 1 cdI)).enc)), (109, .sl 1 (x1.map (cdL 1 (cdL 1 cdI)).enc))] [] (by kernel_rfl) ?_
                  obtain ⟨v26, hv26, hj28⟩ := Option.bind_eq_some_iff.1 hj28
                  refine RunS.call e_law09_meets_ok (fid := 20) (s := cs_law09_Same) (F := fun a => law09_Same a.1 a.2.1) (er := er_law09_Same) (xs := [.sl 1 (v1.map (cdL 1 (cdL 1 cdI)).enc), .sl 1 (x1.map (cdL 1 (cdL 1 cdI)).enc)]) (a := (v1, x1, ())) rfl (by kernel_rfl) (by kernel_rfl) (by kernel_rfl) (by kernel_rfl) (by kernel_rfl) (Sns.cons (Sn.enc (c := (cdL 1 (cdL 1 (cdL 1 cdI)))) (v := v1)) (Sns.cons (Sn.enc (c := (cdL 1 (cdL 1 (cdL 1 cdI)))) (v := x1)) Sns.nil)) (.inl (by kernel_rfl)) hv26 ?_
                  refine RunS.segF (n := 112) e_law09_meets_ok 2 [(8, .v (.bool v26))] [] (by kernel_rfl) ?_
                  have hq := Option.some.inj hj28; subst hq
                  exact RunS.done rfl Wk.f1
                · rw [if_f hc34] at hj28
                  rw [hc34]
                  refine RunS.segF (n := 112) e_law09_meets_ok 5 [(8, .v (.bool false))] [] (by kernel_rfl) ?_
                  have hq := Option.some.inj hj28; subst hq
                  exact RunS.done rfl Wk.f1
              · rw [if_f hc33] at hj28
                rw [hc33]
                refine RunS.segF (n := 112) e_law09_meets_ok 11 [(8, .v (.bool false))] [] (by kernel_rfl) ?_
                have hq := Option.some.inj hj28; subst hq
                exact RunS.done rfl Wk.f1
            · rw [if_f hc32] at hj28
              rw [hc32]
              refine RunS.segF (n := 112) e_law09_meets_ok 17 [(8, .v (.bool false))] [] (by kernel_rfl) ?_
              have hq := Option.some.inj hj28; subst hq
              exact RunS.done rfl Wk.f1
          · rw [if_f hc31] at hj28
            rw [hc31]
            refine RunS.segF (n := 112) e_law09_meets_ok 23 [(8, .v (.bool false))] [] (by kernel_rfl) ?_
            have hq := Option.some.inj hj28; subst hq
            exact RunS.done rfl Wk.f1
        · rw [if_f hc30] at hj28
          rw [hc30]
          refine RunS.segF (n := 112) e_law09_meets_ok 28 [(8, .v (.bool false))] [] (by kernel_rfl) ?_
          have hq := Option.some.inj hj28; subst hq
          exact RunS.done rfl Wk.f1
      · rw [if_f hc29] at hj28
        rw [hc29]
        refine RunS.segF (n := 112) e_law09_meets_ok 35 [(8, .v (.bool false))] [] (by kernel_rfl) ?_
        have hq := Option.some.inj hj28; subst hq
        exact RunS.done rfl Wk.f1
    refine Sem.ret ?_
    have hq := Option.some.inj h; subst hq
    exact ⟨⟨Fr 112 [(8, .v (.bool j28))], []⟩, Wk.f1, .inr rfl, [.v (.bool j28)], (by kernel_rfl), (by kernel_rfl)⟩
def t_law09_meets : List AV → Option AV := told cs_law09_meets (fun a => law09_meets a.1 a.2.1 a.2.2.1 a.2.2.2.1) er_law09_meets
theorem x_law09_meets : XOk 6 t_law09_meets := by
  refine EnvOk.x (E := e_law09_meets) (contract_ok e_law09_meets_ok (fn := Tryd.f6) (c := cb_law09_meets) ?h1 ?h2 ⟨Tryd.call6⟩ cs_law09_meets (fun a => law09_meets a.1 a.2.1 a.2.2.1 a.2.2.2.1) er_law09_meets (fun a => (by show 4 ≤ 112; decide)) ?h3 ?h4) rfl rfl
  case h1 => kernel_rfl
  case h2 => kernel_rfl
  case h3 => intro b; kernel_rfl
  case h4 => exact fun a b h => law09_meets_sem a.1 a.2.1 a.2.2.1 a.2.2.2.1 b h
/- trestle/trestlelaw09.EveningMeets -/
noncomputable def e_law09_EveningMeets : Env := (((E0.withX 5 t_law09_Few).withX 7 t_law09_awake).withX 6 t_law09_meets)
theorem e_law09_EveningMeets_ok : EnvOk e_law09_EveningMeets := (EnvOk.withX (EnvOk.withX (EnvOk.withX E0_ok x_law09_Few.1 x_law09_Few.2) x_law09_awake.1 x_law09_awake.2) x_law09_meets.1 x_law09_meets.2)
noncomputable def cb_law09_EveningMeets : Code := codeOf Tryd.f3
def law09_EveningMeets (x0 : Int) (x1 : (List (List (List Int)))) (x2 : Int) (x3 : Int) : Option (Bool) :=
  (law09_Few x1 100).bind fun v1 =>
  (if (!v1) = true then law09_awake.bind fun v2 =>
  some v2 else (law09_meets x0 x1 x2 x3).bind fun v3 =>
  if v3 = true then law09_awake.bind fun v4 =>
  some v4 else some false).bind fun j6 =>
  some j6
def cs_law09_EveningMeets : Cs (Int × (List (List (List Int))) × Int × Int × Unit) := (csC cdI (csC (cdL 1 (cdL 1 (cdL 1 cdI))) (csC cdI (csC cdI csN))))
def er_law09_EveningMeets (r : Bool) : AV := cdB.enc r
set_option maxHeartbeats 4000000 in
set_option maxRecDepth 100000 in
theorem law09_EveningMeets_sem (x0 : Int) (x1 : (List (List (List Int)))) (x2 : Int) (x3 : Int) (r : Bool) (h : law09_EveningMeets x0 x1 x2 x3 = some r) : Sem e_law09_EveningMeets ⟨none, false⟩ cb_law09_EveningMeets ⟨Fr 22 (pairs0 0 (cs_law09_EveningMeets.enc (x0, x1, x2, x3, ()))), []⟩ fun e s' => (e = .normal ∨ e = .ret) ∧ ∃ xs, resA e_law09_EveningMeets.P s'.fr s'.hp Tryd.f3.results.toList = some xs ∧ retA xs = er_law09_EveningMeets r := by
  unfold law09_EveningMeets at h
  refine Sem.wkQ (Sem.wk (s1 := ⟨Fr 22 [(0, .v (.int .i64 x0)), (1, .sl 1 (x1.map (cdL 1 (cdL 1 cdI)).enc)), (2, .v (.int .i64 x2)), (3, .v (.int .i64 x3))], []⟩) Wk.f1 ?_)
  refine Sem.seq ?_
  refine Sem.runS (s1 := ⟨Fr 22 [(0, .v (.int .i64 x0)), (1, .sl 1 (x1.map (cdL 1 (cdL 1 cdI)).enc)), (2, .v (.int .i64 x2)), (3, .v (.int .i64 x3))], []⟩) ?_ ?_
  · refine RunS.segF (n := 22) e_law09_EveningMeets_ok 1 [(0, .v (.int .i64 x0)), (1, .sl 1 (x1.map (cdL 1 (cdL 1 cdI)).enc)), (2, .v (.int .i64 x2)), (3, .v (.int .i64 x3))] [] (by kernel_rfl) ?_
    exact RunS.done rfl Wk.f1
  refine Sem.seq ?_
  obtain ⟨v1, hv1, h⟩ := Option.bind_eq_some_iff.1 h
  obtain ⟨j6, hj6, h⟩ := Option.bind_eq_some_iff.1 h
  refine Sem.runS (s1 := ⟨Fr 22 [(8, .v (.bool j6))], []⟩) ?_ ?_
  · refine RunS.segF (n := 22) e_law09_EveningMeets_ok 1 [(0, .v (.int .i64 x0)), (1, .sl 1 (x1.map (cdL 1 (cdL 1 cdI)).enc)), (2, .v (.int .i64 x2)), (3, .v (.int .i64 x3)), (9, .sl 1 (x1.map (cdL 1 (cdL 1 cdI)).enc))] [] (by kernel_rfl) ?_
    refine RunS.call e_law09_EveningMeets_ok (fid := 5) (s := cs_law09_Few) (F := fun a => law09_Few a.1 a.2.1) (er := er_law09_Few) (xs := [.sl 1 (x1.map (cdL 1 (cdL 1 cdI)).enc), .v (.int .i64 100)]) (a := (x1, 100, ())) rfl (wantedA_none rfl) (by kernel_rfl) (by kernel_rfl) (by kernel_rfl) (by kernel_rfl) (Sns.cons (Sn.enc (c := (cdL 1 (cdL 1 (cdL 1 cdI)))) (v := x1)) (Sns.cons (Sn.enc (c := cdI) (v := 100)) Sns.nil)) (.inl (by kernel_rfl)) hv1 ?_
    refine RunS.segF (n := 22) e_law09_EveningMeets_ok 2 [(0, .v (.int .i64 x0)), (1, .sl 1 (x1.map (cdL 1 (cdL 1 cdI)).enc)), (2, .v (.int .i64 x2)), (3, .v (.int .i64 x3)), (12, .v (.bool (!v1)))] [] (by kernel_rfl) ?_
    rcases Bool.eq_false_or_eq_true (!v1) with hc7 | hc7
    · rw [if_pos hc7] at hj6
      rw [hc7]
      refine RunS.segF (n := 22) e_law09_EveningMeets_ok 7 [(19, .v (.bool true))] [] (by kernel_rfl) ?_
      obtain ⟨v2, hv2, hj6⟩ := Option.bind_eq_some_iff.1 hj6
      refine RunS.call e_law09_EveningMeets_ok (fid := 7) (s := cs_law09_awake) (F := fun a => law09_awake ) (er := er_law09_awake) (xs := []) (a := (())) rfl (by kernel_rfl) (by kernel_rfl) (by kernel_rfl) (by kernel_rfl) (by kernel_rfl) Sns.nil (.inl (by kernel_rfl)) hv2 ?_
      refine RunS.segF (n := 22) e_law09_EveningMeets_ok 2 [(8, .v (.bool v2))] [] (by kernel_rfl) ?_
      have hq := Option.some.inj hj6; subst hq
      exact RunS.done rfl Wk.f1
    · rw [if_f hc7] at hj6
      rw [hc7]
      refine RunS.segF (n := 22) e_law09_EveningMeets_ok 4 [(12, .v (.bool false)), (13, .v (.int .i64 x0)), (14, .sl 1 (x1.map (cdL 1 (cdL 1 cdI)).enc)), (15, .v (.int .i64 x2)), (16, .v (.int .i64 x3))] [] (by kernel_rfl) ?_
      obtain ⟨v3, hv3, hj6⟩ := Option.bind_eq_some_iff.1 hj6
      refine RunS.call e_law09_EveningMeets_ok (fid := 6) (s := cs_law09_meets) (F := fun a => law09_meets a.1 a.2.1 a.2.2.1 a.2.2.2.1) (er := er_law09_meets) (xs := [.v (.int .i64 x0), .sl 1 (x1.map (cdL 1 (cdL 1 cdI)).enc), .v (.int .i64 x2), .v (.int .i64 x3)]) (a := (x0, x1, x2, x3, ())) rfl (by kernel_rfl) (by kernel_rfl) (by kernel_rfl) (by kernel_rfl) (by kernel_rfl) (Sns.cons (Sn.enc (c := cdI) (v := x0)) (Sns.cons (Sn.enc (c := (cdL 1 (cdL 1 (cdL 1 cdI)))) (v := x1)) (Sns.cons (Sn.enc (c := cdI) (v := x2)) (Sns.cons (Sn.enc (c := cdI) (v := x3)) Sns.nil)))) (.inl (by kernel_rfl)) hv3 ?_
      refine RunS.segF (n := 22) e_law09_EveningMeets_ok 2 [(19, .v (.bool v3))] [] (by kernel_rfl) ?_
      rcases Bool.eq_false_or_eq_true v3 with hc8 | hc8
      · rw [if_pos hc8] at hj6
        rw [hc8]
        obtain ⟨v4, hv4, hj6⟩ := Option.bind_eq_some_iff.1 hj6
        refine RunS.call e_law09_EveningMeets_ok (fid := 7) (s := cs_law09_awake) (F := fun a => law09_awake ) (er := er_law09_awake) (xs := []) (a := (())) rfl (by kernel_rfl) (by kernel_rfl) (by kernel_rfl) (by kernel_rfl) (by kernel_rfl) Sns.nil (.inl (by kernel_rfl)) hv4 ?_
        refine RunS.segF (n := 22) e_law09_EveningMeets_ok 2 [(8, .v (.bool v4))] [] (by kernel_rfl) ?_
        have hq := Option.some.inj hj6; subst hq
        exact RunS.done rfl Wk.f1
      · rw [if_f hc8] at hj6
        rw [hc8]
        refine RunS.segF (n := 22) e_law09_EveningMeets_ok 3 [(8, .v (.bool false))] [] (by kernel_rfl) ?_
        have hq := Option.some.inj hj6; subst hq
        exact RunS.done rfl Wk.f1
  refine Sem.ret ?_
  have hq := Option.some.inj h; subst hq
  exact ⟨⟨Fr 22 [(8, .v (.bool j6))], []⟩, Wk.f1, .inr rfl, [.v (.bool j6)], (by kernel_rfl), (by kernel_rfl)⟩
def t_law09_EveningMeets : List AV → Option AV := told cs_law09_EveningMeets (fun a => law09_EveningMeets a.1 a.2.1 a.2.2.1 a.2.2.2.1) er_law09_EveningMeets
theorem x_law09_EveningMeets : XOk 3 t_law09_EveningMeets := by
  refine EnvOk.x (E := e_law09_EveningMeets) (contract_ok e_law09_EveningMeets_ok (fn := Tryd.f3) (c := cb_law09_EveningMeets) ?h1 ?h2 ⟨Tryd.call3⟩ cs_law09_EveningMeets (fun a => law09_EveningMeets a.1 a.2.1 a.2.2.1 a.2.2.2.1) er_law09_EveningMeets (fun a => (by show 4 ≤ 22; decide)) ?h3 ?h4) rfl rfl
  case h1 => kernel_rfl
  case h2 => kernel_rfl
  case h3 => intro b; kernel_rfl
  case h4 => exact fun a b h => law09_EveningMeets_sem a.1 a.2.1 a.2.2.1 a.2.2.2.1 b h
def in64 (n : Int) : Prop := -9223372036854775808 ≤ n ∧ n ≤ 9223372036854775807
theorem wr_i {n : Int} (h1 : -9223372036854775808 ≤ n) (h2 : n ≤ 9223372036854775807) : wr .i64 n = n := by
  show (if _ then n else _) = n
  rw [if_pos ⟨h1, h2⟩]
theorem idx_app {α : Type} (pre : List α) (v : α) (r : List α) : idx (pre ++ v :: r) (pre.length : Int) = some v := by
  unfold idx
  rw [if_pos (by omega)]
  simp
theorem idx_lt {α : Type} {xs : List α} {i : Nat} (h : i < xs.length) : idx xs (i : Int) = some xs[i] := by
  unfold idx
  rw [if_pos (by omega)]
  simp [h]
theorem snoc_len {α : Type} (pre : List α) (v : α) : ((pre.length : Int) + 1) = ((pre ++ [v]).length : Int) := by simp
theorem snoc_app {α : Type} (pre : List α) (v : α) (r : List α) : pre ++ v :: r = (pre ++ [v]) ++ r := by simp
theorem wr_snoc {α : Type} (pre : List α) (v : α) (r : List α) (h : (pre ++ v :: r).length ≤ 1000000000) : wr .i64 ((pre.length : Int) + 1) = ((pre ++ [v]).length : Int) := by
  simp at h
  rw [wr_i (by omega) (by omega)]; simp
theorem lt_len {α : Type} (pre : List α) (v : α) (r : List α) : decide ((pre.length : Int) < ((pre ++ v :: r).length : Int)) = true := by
  simp; omega
theorem nlt_len {α : Type} (pre : List α) : decide ((pre.length : Int) < ((pre ++ []).length : Int)) = false := by simp
theorem capOk_le {b n : Nat} (hb : b ≤ 1000) (h : n ≤ 1000000000) : capOk b n = true := by
  have h1 : n * b ≤ 1000000000 * 1000 := Nat.mul_le_mul h hb
  unfold capOk
  rw [Bool.and_eq_true]
  exact ⟨Nat.ble_eq_true_of_le (by omega), Nat.ble_eq_true_of_le (by omega)⟩
theorem tdiv2 (n : Int) (h : 0 ≤ n) : n.tdiv 2 = n / 2 := Int.tdiv_eq_ediv_of_nonneg h
def inc (cs : List Int) (i : Nat) : List Int := cs.set i (cs.getD i 0 + 1)
def incs (cs : List Int) (L : List Nat) : List Int := L.foldl inc cs
theorem inc_len (cs : List Int) (i : Nat) : (inc cs i).length = cs.length := by simp [inc]
theorem incs_len : ∀ (L : List Nat) (cs : List Int), (incs cs L).length = cs.length
  | [], _ => rfl
  | i :: L, cs => (incs_len L (inc cs i)).trans (inc_len cs i)
theorem incs_app (cs : List Int) (L L' : List Nat) : incs cs (L ++ L') = incs (incs cs L) L' := List.foldl_append
theorem incs_cons (cs : List Int) (i : Nat) (L : List Nat) : incs cs (i :: L) = incs (inc cs i) L := rfl
theorem inc_get (cs : List Int) (i j : Nat) (h : j < cs.length) : (inc cs i).getD j 0 = cs.getD j 0 + (if i = j then 1 else 0) := by
  unfold inc
  by_cases e : i = j
  · subst e
    simp [List.getD_eq_getElem?_getD, h]
  · simp [List.getD_eq_getElem?_getD, e]
theorem incs_get : ∀ (L : List Nat) (cs : List Int) (j : Nat), j < cs.length → (incs cs L).getD j 0 = cs.getD j 0 + (L.count j : Nat)
  | [], cs, j, _ => by simp [incs]
  | i :: L, cs, j, h => by
    rw [incs_cons, incs_get L (inc cs i) j (by rw [inc_len]; exact h), inc_get cs i j h, List.count_cons]
    by_cases e : i = j
    · simp [e]; omega
    · simp [e]
def zeros (n : Nat) : List Int := List.replicate n 0
theorem zeros_get (n j : Nat) : (zeros n).getD j 0 = 0 := by
  simp only [zeros, List.getD_eq_getElem?_getD, List.getElem?_replicate]
  split <;> rfl
theorem cnt_get (L : List Nat) (n j : Nat) (h : j < n) : (incs (zeros n) L).getD j 0 = (L.count j : Nat) := by
  rw [incs_get L (zeros n) j (by simpa [zeros] using h), zeros_get]; simp
/-- A bit of a number. -/
def tb (m i : Nat) : Bool := Nat.beq (Nat.mod (Nat.shiftRight m i) 2) 1
/-- The numbers of a list as bits; none if one stands there twice. -/
def bits : List Nat → Nat → Option Nat
  | [], m => some m
  | i :: L, m => bif tb m i then none else bits L (Nat.lor m (Nat.shiftLeft 1 i))
theorem cell_eq {n x y k l : Nat} (h1 : y < n) (h2 : l < n) (h : x * n + y = k * n + l) : x = k ∧ y = l := by
  have hn : 0 < n := by omega
  have e1 : (x * n + y) / n = x := by rw [Nat.mul_comm, Nat.mul_add_div hn, Nat.div_eq_of_lt h1]; rfl
  have e2 : (k * n + l) / n = k := by rw [Nat.mul_comm, Nat.mul_add_div hn, Nat.div_eq_of_lt h2]; rfl
  have : x = k := by rw [← e1, h, e2]
  subst this
  exact ⟨rfl, by omega⟩
theorem cell_lt {n x y : Nat} (h1 : x < n) (h2 : y < n) : x * n + y < n * n := by
  have : x * n + n ≤ n * n := by rw [← Nat.succ_mul]; exact Nat.mul_le_mul_right n h1
  omega
/- trestle/evening.met -/
def sumL : List Int → Int
  | [] => 0
  | v :: r => v + sumL r
/-- Do sizes fit? -/
def fitP (n : Int) (xs : List Int) : Bool := xs.all (fun v => decide (1 ≤ v)) && decide (sumL xs = n) && decide (1 ≤ n) && decide (n ≤ 64)
def fitL : Int → List Int → Int ⊕ Bool
  | c, [] => .inl c
  | c, v :: r => if v < 1 ∨ v > c then .inr false else fitL (c - v) r
theorem fit_1 (n : Int) (xs : List Int) (hxs : xs.length ≤ 1000) : ∀ (r pre : List Int) (c : Int) (f : Nat), xs = pre ++ r → r.length < f → -9223372036854775808 ≤ c → c ≤ 9223372036854775807 → evening_fit_1 n xs f c pre.length = some (fitL c r)
  | [], pre, c, f + 1, h, _, _, _ => by
    subst h
    unfold evening_fit_1
    rw [nlt_len]
    rfl
  | v :: r, pre, c, f + 1, h, hf, h1, h2 => by
    subst h
    unfold evening_fit_1
    rw [if_pos (lt_len pre v r), idx_app]
    simp only [Option.bind_some]
    rw [wr_snoc pre v r (by omega)]
    unfold fitL
    by_cases ha : v < 1
    · simp [ha]
    · by_cases hb : v > c
      · simp [ha, hb]
      · simp only [ha, hb, decide_false, Bool.false_eq_true, if_false, Option.bind_some, false_or]
        rw [wr_i (by omega) (by omega)]
        rw [snoc_app]
        exact fit_1 n _ (by rw [← snoc_app]; exact hxs) r (pre ++ [v]) (c - v) f rfl (by simp at hf; omega) (by omega) (by omega)
theorem fitL_eq : ∀ (xs : List Int) (c : Int), (∃ d, fitL c xs = .inl d ∧ d = c - sumL xs ∧ (xs.all fun v => decide (1 ≤ v)) = true ∧ (0 ≤ c → 0 ≤ d)) ∨ (fitL c xs = .inr false ∧ ((xs.all fun v => decide (1 ≤ v)) = true → c < sumL xs))
  | [], c => .inl ⟨c, rfl, by simp [sumL], rfl, fun h => h⟩
  | v :: r, c => by
    unfold fitL
    by_cases hv : v < 1 ∨ v > c
    · rw [if_pos hv]
      refine .inr ⟨rfl, fun h => ?_⟩
      simp only [List.all_cons, Bool.and_eq_true, decide_eq_true_eq] at h
      have : ∀ (l : List Int), (l.all fun v => decide (1 ≤ v)) = true → 0 ≤ sumL l := by
        intro l
        induction l with
        | nil => intro _; simp [sumL]
        | cons a l ih => intro h; simp only [List.all_cons, Bool.and_eq_true, decide_eq_true_eq] at h; have := ih h.2; simp only [sumL]; omega
      have := this r h.2
      simp only [sumL]
      omega
    · rw [if_neg hv]
      rcases fitL_eq r (c - v) with ⟨d, h1, h2, h3, h4⟩ | ⟨h1, h2⟩
      · refine .inl ⟨d, h1, by simp only [sumL]; omega, ?_, fun h => h4 (by omega)⟩
        simp only [List.all_cons, Bool.and_eq_true, decide_eq_true_eq]
        exact ⟨by omega, h3⟩
      · refine .inr ⟨h1, fun h => ?_⟩
        simp only [List.all_cons, Bool.and_eq_true, decide_eq_true_eq] at h
        have := h2 h.2
        simp only [sumL]
        omega
theorem evening_fit_eq (n : Int) (hn : in64 n) (xs : List Int) (hxs : xs.length ≤ 1000) : evening_fit n xs = some (fitP n xs) := by
  unfold evening_fit
  rw [show (0 : Int) = (([] : List Int).length : Int) from rfl, fit_1 n xs hxs xs [] n 100000 rfl (by omega) hn.1 hn.2]
  simp only [Option.bind_some]
  rcases fitL_eq xs n with ⟨d, h1, h2, h3, h4⟩ | ⟨h1, h2⟩
  · rw [h1]
    simp only [evening_guests, Option.bind_some]
    unfold fitP
    rw [h3]
    by_cases ha : 1 ≤ n
    · by_cases hb : n ≤ 64
      · have : (d == 0) = decide (sumL xs = n) := by
          by_cases hd : d = 0
          · rw [hd]; simp; omega
          · have : ¬ sumL xs = n := by omega
            simp [this, hd]
        simp [ha, hb, this]
      · simp [ha, hb]
    · simp [ha]
  · rw [h1]
    simp only [Option.bind_some]
    unfold fitP
    cases hall : xs.all (fun v => decide (1 ≤ v)) with
    | false => simp
    | true => have := h2 hall; have : ¬ sumL xs = n := by omega
              simp [this]
def fitR : Int → List Int → Int ⊕ Bool
  | c, [] => .inl c
  | c, v :: r => if v < 1 ∨ v > 64 ∨ c > 64 then .inr false else fitR (c + v) r
theorem Fit_1 (n : Int) (xs : List Int) (hxs : xs.length ≤ 1000) : ∀ (r pre : List Int) (c : Int) (f : Nat), xs = pre ++ r → r.length < f → 0 ≤ c → ref09_Fit_1 n xs f c pre.length = some (fitR c r)
  | [], pre, c, f + 1, h, _, _ => by
    subst h
    unfold ref09_Fit_1
    rw [nlt_len]
    rfl
  | v :: r, pre, c, f + 1, h, hf, h1 => by
    subst h
    unfold ref09_Fit_1
    rw [if_pos (lt_len pre v r), idx_app]
    simp only [Option.bind_some]
    rw [wr_snoc pre v r (by omega)]
    unfold fitR
    by_cases ha : v < 1
    · simp [ha]
    · by_cases hb : v > 64
      · simp [ha, hb]
      · by_cases hc : c > 64
        · simp [ha, hb, hc]
        · simp only [ha, hb, hc, decide_false, Bool.false_eq_true, if_false, Option.bind_some, false_or]
          rw [wr_i (by omega) (by omega)]
          rw [snoc_app]
          exact Fit_1 n _ (by rw [← snoc_app]; exact hxs) r (pre ++ [v]) (c + v) f rfl (by simp at hf; omega) (by omega)
theorem sum_nn : ∀ (l : List Int), (l.all fun v => decide (1 ≤ v)) = true → 0 ≤ sumL l
  | [], _ => by simp [sumL]
  | a :: l, h => by
    simp only [List.all_cons, Bool.and_eq_true, decide_eq_true_eq] at h
    have := sum_nn l h.2
    simp only [sumL]; omega
theorem fitR_eq : ∀ (xs : List Int) (c : Int), 0 ≤ c → (∃ d, fitR c xs = .inl d ∧ d = c + sumL xs ∧ (xs.all fun v => decide (1 ≤ v)) = true) ∨ (fitR c xs = .inr false ∧ ((xs.all fun v => decide (1 ≤ v)) = true → 64 < c + sumL xs))
  | [], c, _ => .inl ⟨c, rfl, by simp [sumL], rfl⟩
  | v :: r, c, h0 => by
    unfold fitR
    by_cases hv : v < 1 ∨ v > 64 ∨ c > 64
    · rw [if_pos hv]
      refine .inr ⟨rfl, fun h => ?_⟩
      simp only [List.all_cons, Bool.and_eq_true, decide_eq_true_eq] at h
      have := sum_nn r h.2
      simp only [sumL]
      omega
    · rw [if_neg hv]
      rcases fitR_eq r (c + v) (by omega) with ⟨d, h1, h2, h3⟩ | ⟨h1, h2⟩
      · refine .inl ⟨d, h1, by simp only [sumL]; omega, ?_⟩
        simp only [List.all_cons, Bool.and_eq_true, decide_eq_true_eq]
        exact ⟨by omega, h3⟩
      · refine .inr ⟨h1, fun h => ?_⟩
        simp only [List.all_cons, Bool.and_eq_true, decide_eq_true_eq] at h
        have := h2 h.2
        simp only [sumL]
        omega
theorem ref09_Fit_eq (n : Int) (xs : List Int) (hxs : xs.length ≤ 1000) : ref09_Fit n xs = some (fitP n xs) := by
  unfold ref09_Fit
  have e0 := Fit_1 n xs hxs xs [] 0 100000 rfl (by omega) (by omega)
  rw [show ((([] : List Int).length : Nat) : Int) = 0 from rfl] at e0
  rw [e0]
  simp only [Option.bind_some]
  rcases fitR_eq xs 0 (by omega) with ⟨d, h1, h2, h3⟩ | ⟨h1, h2⟩
  · rw [h1]
    unfold fitP
    rw [h3]
    by_cases ha : 1 ≤ n
    · by_cases hb : n ≤ 64
      · have : (d == n) = decide (sumL xs = n) := by
          by_cases hd : d = n
          · rw [hd]; simp; omega
          · have : ¬ sumL xs = n := by omega
            simp [this, hd]
        simp [ha, hb, this]
      · simp [ha, hb]
    · simp [ha]
  · rw [h1]
    unfold fitP
    cases hall : xs.all (fun v => decide (1 ≤ v)) with
    | false => simp
    | true =>
      have := h2 hall
      by_cases hs : sumL xs = n
      · have : ¬ n ≤ 64 := by omega
        simp [hs, this]
      · simp [hs]
theorem equal_1 (xs : List Int) (hxs : xs.length ≤ 1000000) : ∀ (r pre : List Int) (f : Nat), xs = pre ++ r → r.length < f → slices_Equal_L_int_1 xs xs f pre.length = some (.inl ())
  | [], pre, f + 1, h, _ => by
    subst h
    unfold slices_Equal_L_int_1
    rw [nlt_len]
    rfl
  | v :: r, pre, f + 1, h, hf => by
    subst h
    unfold slices_Equal_L_int_1
    rw [if_pos (lt_len pre v r), idx_app]
    simp only [Option.bind_some]
    rw [wr_snoc pre v r (by omega)]
    simp only [bne_self_eq_false, Bool.false_eq_true, if_false]
    rw [snoc_app]
    exact equal_1 _ (by rw [← snoc_app]; exact hxs) r (pre ++ [v]) f rfl (by simp at hf; omega)
theorem equal_self (xs : List Int) (hxs : xs.length ≤ 50000) : slices_Equal_L_int xs xs = some true := by
  unfold slices_Equal_L_int
  have := equal_1 xs (by omega) xs [] 100000 rfl (by omega)
  simp only [bne_self_eq_false, Bool.false_eq_true, if_false]
  rw [show ((0 : Int)) = (([] : List Int).length : Int) from rfl, this]
  rfl
theorem clone_self (xs : List Int) (hxs : xs.length ≤ 50000) : slices_Clone_L_int xs = some xs := by
  unfold slices_Clone_L_int
  rw [if_pos (capOk_le (by omega) (by omega))]
/-- How often a number sits on an evening. -/
theorem times_2 (ev : List (List Int)) (x c2 : Int) (t : List Int) (ht : idx ev c2 = some t) (hl : t.length ≤ 50000) : ∀ (r pre : List Int) (f : Nat) (c : Int), t = pre ++ r → r.length < f → 0 ≤ c → c + r.length ≤ 1000000 → ref09_times_2 ev x c2 f c pre.length = some (c + (r.count x : Int))
  | [], pre, f + 1, c, h, _, _, _ => by
    unfold ref09_times_2
    rw [ht]
    subst h
    simp only [Option.bind_some]
    rw [nlt_len]
    simp
  | v :: r, pre, f + 1, c, h, hf, h0, h1 => by
    unfold ref09_times_2
    rw [ht]
    simp only [List.length_cons] at h1
    by_cases hv : v = x
    · have ih := times_2 ev x c2 t ht hl r (pre ++ [v]) f (c + 1) (by rw [h]; simp) (by simp at hf; omega) (by omega) (by omega)
      subst h hv
      simp only [Option.bind_some]
      rw [if_pos (lt_len pre v r), idx_app]
      simp only [Option.bind_some, ref09_times_j3, beq_self_eq_true, if_true]
      rw [wr_snoc pre v r (by omega), wr_i (by omega) (by omega), ih, List.count_cons_self]
      congr 1; omega
    · have ih := times_2 ev x c2 t ht hl r (pre ++ [v]) f c (by rw [h]; simp) (by simp at hf; omega) (by omega) (by omega)
      have hb : (v == x) = false := by simpa using hv
      subst h
      simp only [Option.bind_some]
      rw [if_pos (lt_len pre v r), idx_app]
      simp only [Option.bind_some, ref09_times_j3, hb, Bool.false_eq_true, if_false]
      rw [wr_snoc pre v r (by omega), ih, List.count_cons_of_ne hv]
theorem len_mem {α : Type} : ∀ {ev : List (List α)} {t : List α}, t ∈ ev → t.length ≤ ev.flatten.length
  | a :: ev, t, h => by
    simp only [List.flatten_cons, List.length_append]
    rcases List.mem_cons.1 h with rfl | h
    · omega
    · have := len_mem h; omega
theorem times_eq (ev : List (List Int)) (x : Int) (hl : ev.length ≤ 50000) (hfl : ev.flatten.length ≤ 50000) : ref09_times ev x = some (ev.flatten.count x : Int) := by
  unfold ref09_times
  have hm : ∀ t ∈ ev, t.length ≤ 50000 := fun t ht => by
    have := len_mem ht; omega
  have key : ∀ (r pre : List (List Int)) (f : Nat) (c : Int), ev = pre ++ r → r.length < f → 0 ≤ c → c + r.flatten.length ≤ 50000 → ref09_times_1 ev x f c pre.length = some (c + (r.flatten.count x : Int)) := by
    intro r
    induction r with
    | nil =>
      intro pre f c h hf h0 h1
      obtain ⟨f, rfl⟩ : ∃ g, f = g + 1 := ⟨f - 1, by simp at hf; omega⟩
      subst h
      unfold ref09_times_1
      rw [nlt_len]
      simp
    | cons t r ih =>
      intro pre f c h hf h0 h1
      obtain ⟨f, rfl⟩ : ∃ g, f = g + 1 := ⟨f - 1, by simp at hf; omega⟩
      have ht := hm t (by rw [h]; simp)
      subst h
      unfold ref09_times_1
      rw [if_pos (lt_len pre t r)]
      simp only [List.flatten_cons, List.length_append] at h1
      have hc : (t.count x) ≤ t.length := List.count_le_length
      have h2 := times_2 (pre ++ t :: r) x pre.length t (idx_app pre t r) (by omega) t [] 100000 c rfl (by omega) h0 (by omega)
      rw [show ((([] : List Int).length : Nat) : Int) = 0 from rfl] at h2
      rw [h2]
      simp only [Option.bind_some]
      simp at hl
      rw [wr_snoc pre t r (by simp; omega), ih (pre ++ [t]) f _ (by simp) (by simp at hf; omega) (by omega) (by omega)]
      simp only [List.flatten_cons, List.count_append]
      congr 1; omega
  have := key ev [] 100000 0 rfl (by omega) (by omega) (by omega)
  rw [show ((([] : List (List Int)).length : Nat) : Int) = 0 from rfl, Int.zero_add] at this
  rw [this]
  rfl
/-- Is the shape of an evening wrong? -/
def sbad (sizes : List Int) : List (List Int) → Int → Bool
  | [], _ => false
  | t :: r, i => ((t.length : Int) == 0) || (decide ((sizes.length : Int) > 0) && (match idx sizes i with | some v => ((t.length : Int) != v) | none => false)) || sbad sizes r (i + 1)
abbrev CSt := Int × Bool × Bool × List Bool
def stepC (n : Int) (s : CSt) (v : Int) : CSt := if v < 0 ∨ v ≥ n then (s.1, s.2.1, true, s.2.2.2) else ((if (s.2.2.2)[v.toNat]?.getD false then s.1 else s.1 + 1), s.2.1 || (s.2.2.2)[v.toNat]?.getD false, s.2.2.1, s.2.2.2.set v.toNat true)
theorem stepC_len (n : Int) (s : CSt) (v : Int) : (stepC n s v).2.2.2.length = s.2.2.2.length := by
  unfold stepC; split <;> simp
theorem stepC_le (n : Int) (s : CSt) (v : Int) : (stepC n s v).1 ≤ s.1 + 1 ∧ s.1 ≤ (stepC n s v).1 := by
  unfold stepC; split
  · show s.1 ≤ s.1 + 1 ∧ s.1 ≤ s.1; omega
  · simp only; split <;> omega
theorem check_2 (n : Int) (sizes : List Int) (ev : List (List Int)) (c9 : Int) (hn0 : 0 ≤ n) : ∀ (r pre : List Int) (s : CSt) (f : Nat) (t : List Int), t = pre ++ r → t.length ≤ 50000 → r.length < f → s.2.2.2.length = n.toNat → 0 ≤ s.1 → s.1 ≤ 1000000 + (pre.length : Int) → evening_check_2 n sizes ev c9 t f s.1 s.2.1 s.2.2.1 s.2.2.2 pre.length = some (r.foldl (stepC n) s)
  | [], pre, s, f + 1, t, ht, _, _, _, _, _ => by
    subst ht
    unfold evening_check_2
    rw [nlt_len]
    rfl
  | v :: r, pre, s, f + 1, t, ht, hl, hf, hs, h0, h1 => by
    obtain ⟨m, tw, un, seen⟩ := s
    simp only at hs h0 h1 ⊢
    have ih := check_2 n sizes ev c9 hn0 r (pre ++ [v]) (stepC n (m, tw, un, seen) v) f t (by rw [ht]; simp) hl (by simp at hf; omega) (by rw [stepC_len]; exact hs) (by have := (stepC_le n (m, tw, un, seen) v).2; simp only at this; omega) (by have := (stepC_le n (m, tw, un, seen) v).1; simp only at this; simp; omega)
    subst ht
    unfold evening_check_2
    rw [if_pos (lt_len pre v r), idx_app]
    simp only [Option.bind_some]
    rw [wr_snoc pre v r (by omega)]
    rw [List.foldl_cons]
    by_cases hv : v < 0 ∨ v ≥ n
    · have hst : stepC n (m, tw, un, seen) v = (m, tw, true, seen) := by unfold stepC; rw [if_pos hv]
      rw [hst] at ih ⊢
      by_cases hv0 : v < 0
      · simp only [hv0, decide_true, if_true, Option.bind_some]
        exact ih
      · have : v ≥ n := by omega
        simp only [hv0, this, decide_false, decide_true, Bool.false_eq_true, if_false, if_true, Option.bind_some]
        exact ih
    · have hv0 : ¬ v < 0 := by omega
      have hv1 : ¬ v ≥ n := by omega
      have hlt : v.toNat < seen.length := by omega
      have hidx : idx seen v = some (seen[v.toNat]'hlt) := by
        unfold idx; rw [if_pos (by omega)]; exact List.getElem?_eq_getElem hlt
      have hg : seen[v.toNat]?.getD false = seen[v.toNat]'hlt := by rw [List.getElem?_eq_getElem hlt]; rfl
      have hst : stepC n (m, tw, un, seen) v = ((if (seen[v.toNat]'hlt) then m else m + 1), tw || (seen[v.toNat]'hlt), un, seen.set v.toNat true) := by
        unfold stepC; rw [if_neg hv]; simp only [hg]
      rw [hst] at ih ⊢
      have hm1 : wr .i64 (m + 1) = m + 1 := wr_i (by omega) (by simp at hl; omega)
      simp only [hv0, hv1, decide_false, Bool.false_eq_true, if_false, Option.bind_some, hidx, evening_check_j3]
      cases htw : tw <;> cases hse : seen[v.toNat]'hlt <;> simp only [htw, hse, Bool.false_eq_true, if_false, if_true, Option.bind_some, Bool.not_true, Bool.not_false, hidx, hm1, Bool.or_true, Bool.or_false] at ih ⊢ <;> exact ih
theorem shape_j (sizes : List Int) (ev : List (List Int)) (t : List Int) (i : Nat) (hs : (sizes.length : Int) > 0 → i < sizes.length) {β : Type} (b : β) : (if ((t.length : Int) == 0) = true then some (b, true) else if (decide ((sizes.length : Int) > 0)) = true then (idx sizes i).bind fun v12 => some (b, ((t.length : Int) != v12)) else some (b, false)) = some (b, ((t.length : Int) == 0) || (decide ((sizes.length : Int) > 0) && (match idx sizes i with | some v => ((t.length : Int) != v) | none => false))) := by
  cases h1 : ((t.length : Int) == 0) with
  | true => simp
  | false =>
    by_cases h2 : (sizes.length : Int) > 0
    · have := hs h2
      rw [idx_lt this]
      have h3 : 0 < sizes.length := by omega
      simp [h3]
    · have h3 : ¬ 0 < sizes.length := by omega
      simp [h3]
theorem check_1 (n : Int) (sizes : List Int) (ev : List (List Int)) (hn0 : 0 ≤ n) (hl : ev.length ≤ 50000) (hsz : (sizes.length : Int) > 0 → sizes.length = ev.length) : ∀ (r pre : List (List Int)) (s : CSt) (f : Nat), ev = pre ++ r → r.length < f → s.2.2.2.length = n.toNat → 0 ≤ s.1 → s.1 + r.flatten.length ≤ 50000 → evening_check_1 n sizes ev f s.1 s.2.1 s.2.2.1 s.2.2.2 pre.length = some (if sbad sizes r pre.length then .inr 2 else let q := r.flatten.foldl (stepC n) s; .inl (q.1, q.2.1, q.2.2.1))
  | [], pre, s, f + 1, h, _, _, _, _ => by
    subst h
    unfold evening_check_1
    rw [nlt_len]
    rfl
  | t :: r, pre, s, f + 1, h, hf, hs, h0, h1 => by
    obtain ⟨m, tw, un, seen⟩ := s
    simp only at hs h0 h1 ⊢
    subst h
    unfold evening_check_1
    rw [if_pos (lt_len pre t r), idx_app]
    simp only [Option.bind_some]
    rw [shape_j sizes (pre ++ t :: r) t pre.length (fun h => by rw [hsz h]; simp)]
    simp only [Option.bind_some]
    simp only [List.flatten_cons, List.length_append] at h1
    cases hb : (((t.length : Int) == 0) || (decide ((sizes.length : Int) > 0) && (match idx sizes (pre.length : Int) with | some v => ((t.length : Int) != v) | none => false))) with
    | true =>
      simp only [sbad, hb, Bool.true_or, if_true]
    | false =>
      simp only [sbad, hb, Bool.false_or, Bool.false_eq_true, if_false]
      have h2 := check_2 n sizes (pre ++ t :: r) pre.length hn0 t [] (m, tw, un, seen) 100000 t rfl (by omega) (by omega) hs h0 (by simp; omega)
      rw [show ((([] : List Int).length : Nat) : Int) = 0 from rfl] at h2
      simp only at h2
      rw [h2]
      simp only [Option.bind_some]
      have hfold : ∀ (l : List Int) (s : CSt), (l.foldl (stepC n) s).2.2.2.length = s.2.2.2.length ∧ (l.foldl (stepC n) s).1 ≤ s.1 + l.length ∧ s.1 ≤ (l.foldl (stepC n) s).1 := by
        intro l
        induction l with
        | nil => intro s; simp
        | cons a l ih =>
          intro s
          obtain ⟨a1, a2, a3⟩ := ih (stepC n s a)
          have := stepC_le n s a
          rw [List.foldl_cons]
          refine ⟨a1.trans (stepC_len n s a), ?_, ?_⟩
          · simp; omega
          · omega
      obtain ⟨a1, a2, a3⟩ := hfold t (m, tw, un, seen)
      simp only at a1 a2 a3
      rw [wr_snoc pre t r (by omega), check_1 n sizes (pre ++ t :: r) hn0 hl hsz r (pre ++ [t]) (t.foldl (stepC n) (m, tw, un, seen)) f (by simp) (by simp at hf; omega) (by omega) (by omega) (by omega)]
      rw [← snoc_len]
      simp only [List.flatten_cons, List.foldl_append]
def badV (n v : Int) : Bool := decide (v < 0 ∨ v ≥ n)
theorem un_eq (n : Int) : ∀ (L : List Int) (s : CSt), (L.foldl (stepC n) s).2.2.1 = (s.2.2.1 || L.any (badV n))
  | [], s => by simp
  | v :: L, s => by
    rw [List.foldl_cons, un_eq n L, List.any_cons]
    by_cases hv : v < 0 ∨ v ≥ n
    · have hb : badV n v = true := by simp only [badV, decide_eq_true_eq]; exact hv
      have hs : (stepC n s v).2.2.1 = true := by unfold stepC; rw [if_pos hv]
      rw [hb, hs]; simp
    · have hb : badV n v = false := by simp only [badV, decide_eq_false_iff_not]; exact hv
      have hs : (stepC n s v).2.2.1 = s.2.2.1 := by unfold stepC; rw [if_neg hv]
      rw [hb, hs]; simp
structure InvC (N : Nat) (P : List Int) (s : CSt) : Prop where
  len : s.2.2.2.length = N
  seen : ∀ k, k < N → s.2.2.2[k]?.getD false = decide ((k : Int) ∈ P)
  tw : s.2.1 = true ↔ ∃ x, 2 ≤ P.count x
  many : s.1 = (s.2.2.2.count true : Int)
theorem count_set : ∀ (l : List Bool) (k : Nat), k < l.length → ((l.set k true).count true : Int) = l.count true + (if l[k]?.getD false then 0 else 1)
  | [], k, h => by simp at h
  | b :: l, 0, _ => by cases b <;> simp
  | b :: l, k + 1, h => by
    have := count_set l k (by simpa using h)
    simp only [List.set_cons_succ, List.getElem?_cons_succ]
    cases b
    · simpa using this
    · simp only [List.count_cons_self]; push_cast; omega
theorem InvC.step {n : Int} {P : List Int} {s : CSt} (i : InvC n.toNat P s) {v : Int} (h0 : 0 ≤ v) (h1 : v < n) : InvC n.toNat (P ++ [v]) (stepC n s v) := by
  obtain ⟨m, tw, un, seen⟩ := s
  obtain ⟨i1, i2, i3, i4⟩ := i
  simp only at i1 i2 i3 i4
  have hst : stepC n (m, tw, un, seen) v = ((if seen[v.toNat]?.getD false then m else m + 1), tw || seen[v.toNat]?.getD false, un, seen.set v.toNat true) := by
    unfold stepC; rw [if_neg (by omega)]
  have hlt : v.toNat < seen.length := by clear i3; omega
  have hv := i2 v.toNat (by clear i3; omega)
  have hvv : ((v.toNat : Nat) : Int) = v := by clear i3; omega
  rw [hvv] at hv
  rw [hst]
  refine ⟨by simpa using i1, fun k hk => ?_, ?_, ?_⟩
  · simp only [List.getElem?_set]
    by_cases hkv : v.toNat = k
    · subst hkv
      simp [hlt, hvv]
    · rw [if_neg hkv, i2 k hk]
      have : ¬ (k : Int) = v := by clear i3; omega
      simp [this]
  · simp only [Bool.or_eq_true, i3, hv, decide_eq_true_eq]
    clear i3 i4
    constructor
    · rintro (⟨x, hx⟩ | hm)
      · exact ⟨x, by rw [List.count_append]; omega⟩
      · exact ⟨v, by rw [List.count_append]; have := List.count_pos_iff.2 hm; have e : [v].count v = 1 := (by simp); omega⟩
    · rintro ⟨x, hx⟩
      rw [List.count_append] at hx
      by_cases hxv : v = x
      · subst hxv
        have e : [v].count v = 1 := by simp
        rw [e] at hx
        exact .inr (List.count_pos_iff.1 (by omega))
      · rw [List.count_cons_of_ne hxv] at hx
        exact .inl ⟨x, by simpa using hx⟩
  · simp only
    rw [count_set seen v.toNat hlt, i4]
    split <;> simp
theorem inv_all {n : Int} : ∀ (L P : List Int) (s : CSt), InvC n.toNat P s → (∀ v ∈ L, 0 ≤ v ∧ v < n) → InvC n.toNat (P ++ L) (L.foldl (stepC n) s)
  | [], P, s, h, _ => by simpa using h
  | v :: L, P, s, h, hv => by
    obtain ⟨h0, h1⟩ := hv v (by simp)
    have := inv_all L (P ++ [v]) (stepC n s v) (h.step h0 h1) fun w hw => hv w (by simp [hw])
    simpa using this
theorem inv_0 (N : Nat) : InvC N [] (0, false, false, List.replicate N false) := by
  refine ⟨by simp, fun k hk => by simp [hk], by simp, ?_⟩
  simp [List.count_replicate]
theorem count_true_lt : ∀ (l : List Bool), l.count true ≤ l.length ∧ (l.count true < l.length ↔ ∃ k, k < l.length ∧ l[k]?.getD false = false)
  | [] => by simp
  | b :: l => by
    obtain ⟨h1, h2⟩ := count_true_lt l
    cases b with
    | false =>
      refine ⟨by simp; omega, ?_⟩
      simp only [List.count_cons_of_ne (show (false : Bool) ≠ true by decide), List.length_cons]
      exact ⟨fun _ => ⟨0, by omega, rfl⟩, fun _ => by omega⟩
    | true =>
      refine ⟨by simp; omega, ?_⟩
      simp only [List.count_cons_self, List.length_cons, Nat.add_lt_add_iff_right, h2]
      constructor
      · rintro ⟨k, a, b⟩; exact ⟨k + 1, by omega, by simpa using b⟩
      · rintro ⟨k, a, b⟩
        cases k with
        | zero => simp at b
        | succ k => exact ⟨k, by omega, by simpa using b⟩
/-- Some number of a stretch. -/
def anyN (p : Int → Bool) : Nat → Int → Bool
  | 0, _ => false
  | k + 1, i => p i || anyN p k (i + 1)
theorem anyN_iff (p : Int → Bool) : ∀ (k : Nat) (i : Int), anyN p k i = true ↔ ∃ x, i ≤ x ∧ x < i + k ∧ p x = true
  | 0, i => by simp [anyN]; intro x h1 h2; omega
  | k + 1, i => by
    simp only [anyN, Bool.or_eq_true, anyN_iff p k]
    constructor
    · rintro (h | ⟨x, h1, h2, h3⟩)
      · exact ⟨i, by omega, by omega, h⟩
      · exact ⟨x, by omega, by omega, h3⟩
    · rintro ⟨x, h1, h2, h3⟩
      by_cases hx : x = i
      · subst hx; exact .inl h3
      · exact .inr ⟨x, by omega, by omega, h3⟩
/-- What an evening's check answers. -/
def chk (n : Int) (sizes : List Int) (ev : List (List Int)) : Int :=
  if (decide ((sizes.length : Int) > 0) && ((sizes.length : Int) != (ev.length : Int))) = true then 2 else
  if sbad sizes ev 0 then 2 else
  if ev.flatten.any (badV n) then 6 else
  if anyN (fun x => decide ((ev.flatten.count x : Int) > 1)) n.toNat 0 then 5 else
  if anyN (fun x => ((ev.flatten.count x : Int) == 0)) n.toNat 0 then 2 else 0
theorem evening_check_eq (n : Int) (hn0 : 0 ≤ n) (hn : n ≤ 64) (sizes : List Int) (ev : List (List Int)) (hl : ev.length ≤ 50000) (hf : ev.flatten.length ≤ 50000) : evening_check n sizes ev = some (chk n sizes ev) := by
  unfold evening_check chk
  by_cases hs : (decide ((sizes.length : Int) > 0) && ((sizes.length : Int) != (ev.length : Int))) = true
  · rw [if_pos hs]
    simp only [Bool.and_eq_true, decide_eq_true_eq] at hs
    rw [if_pos (by simpa using hs.1)]
    simp only [Option.bind_some, hs.2, if_true]
  · rw [if_neg hs]
    have hsz : (sizes.length : Int) > 0 → sizes.length = ev.length := fun h => by
      simp only [Bool.and_eq_true, decide_eq_true_eq, not_and, Bool.not_eq_true, bne_eq_false_iff_eq] at hs
      have := hs h; omega
    have e1 : (if (decide ((sizes.length : Int) > 0)) = true then some ((sizes.length : Int) != (ev.length : Int)) else some false) = some false := by
      by_cases h : (sizes.length : Int) > 0
      · have := hsz h; simp [this]
      · have h' : ¬ 0 < sizes.length := by omega
        simp [h']
    rw [e1]
    simp only [Option.bind_some, Bool.false_eq_true, if_false]
    have hmk : mkOk 1 n = true := by
      simp only [mkOk, Bool.and_eq_true, decide_eq_true_eq]; omega
    rw [if_pos hmk]
    have h1 := check_1 n sizes ev hn0 hl hsz ev [] (0, false, false, List.replicate n.toNat false) 100000 rfl (by omega) (by simp) (by simp) (by simp only; omega)
    rw [show ((([] : List (List Int)).length : Nat) : Int) = 0 from rfl] at h1
    simp only at h1
    rw [h1]
    simp only [Option.bind_some]
    cases hb : sbad sizes ev 0 with
    | true => simp
    | false =>
      simp only [Bool.false_eq_true, if_false]
      rw [un_eq]
      simp only [Bool.false_or]
      cases hu : ev.flatten.any (badV n) with
      | true => simp
      | false =>
        simp only [Bool.false_eq_true, if_false]
        have hval : ∀ v ∈ ev.flatten, 0 ≤ v ∧ v < n := fun v hv => by
          have := List.any_eq_false.1 hu v hv
          simp only [badV, decide_eq_true_eq] at this
          omega
        obtain ⟨j1, j2, j3, j4⟩ := inv_all ev.flatten [] _ (inv_0 n.toNat) hval
        rw [List.nil_append] at j2 j3
        generalize ev.flatten.foldl (stepC n) (0, false, false, List.replicate n.toNat false) = q at *
        have t1 : q.2.1 = anyN (fun x => decide ((ev.flatten.count x : Int) > 1)) n.toNat 0 := by
          rw [Bool.eq_iff_iff, j3, anyN_iff]
          constructor
          · rintro ⟨x, hx⟩
            have := hval x (List.count_pos_iff.1 (by omega))
            exact ⟨x, by omega, by omega, by simp; omega⟩
          · rintro ⟨x, _, _, hx⟩
            simp at hx
            exact ⟨x, by omega⟩
        have t2 : decide (q.1 < n) = anyN (fun x => ((ev.flatten.count x : Int) == 0)) n.toNat 0 := by
          rw [Bool.eq_iff_iff, anyN_iff, decide_eq_true_eq, j4]
          have hc := count_true_lt q.2.2.2
          rw [j1] at hc
          constructor
          · intro h
            obtain ⟨k, k1, k2⟩ := hc.2.1 (by omega)
            rw [j2 k k1] at k2
            have hm : ¬ (k : Int) ∈ ev.flatten := by simpa using k2
            exact ⟨k, by omega, by omega, by rw [List.count_eq_zero.2 hm]; rfl⟩
          · rintro ⟨x, h1, h2, h3⟩
            have h3 : ev.flatten.count x = 0 := by simpa using h3
            have hm := List.count_eq_zero.1 h3
            have := hc.2.2 ⟨x.toNat, by omega, by rw [j2 _ (by omega), show ((x.toNat : Nat) : Int) = x by omega]; simpa using hm⟩
            omega
        rw [t1, t2]
        cases anyN (fun x => decide ((ev.flatten.count x : Int) > 1)) n.toNat 0 <;> cases anyN (fun x => ((ev.flatten.count x : Int) == 0)) n.toNat 0 <;> simp
theorem shape_r (sizes : List Int) (t : List Int) (i : Nat) (hs : (sizes.length : Int) > 0 → i < sizes.length) : (if ((t.length : Int) == 0) = true then some true else if (decide ((sizes.length : Int) > 0)) = true then (idx sizes i).bind fun v7 => some (v7 != (t.length : Int)) else some false) = some (((t.length : Int) == 0) || (decide ((sizes.length : Int) > 0) && (match idx sizes i with | some v => ((t.length : Int) != v) | none => false))) := by
  cases h1 : ((t.length : Int) == 0) with
  | true => simp
  | false =>
    by_cases h2 : (sizes.length : Int) > 0
    · have := hs h2
      rw [idx_lt this]
      have h3 : 0 < sizes.length := by omega
      simp [h3, bne_comm]
    · have h3 : ¬ 0 < sizes.length := by omega
      simp [h3]
theorem or_if {c : Int} (X Y : Bool) : (if X = true then some (Sum.inr c) else some (if Y = true then Sum.inr c else Sum.inl ())) = some (if (X || Y) = true then Sum.inr c else Sum.inl ()) := by
  cases X <;> simp
theorem rCheck_1 (n : Int) (sizes : List Int) (ev : List (List Int)) (hl : ev.length ≤ 50000) (hsz : (sizes.length : Int) > 0 → sizes.length = ev.length) : ∀ (r pre : List (List Int)) (f : Nat), ev = pre ++ r → r.length < f → ref09_CheckEvening_1 n sizes ev f pre.length = some (if sbad sizes r pre.length then .inr 2 else .inl ())
  | [], pre, f + 1, h, _ => by
    subst h
    unfold ref09_CheckEvening_1
    rw [nlt_len]
    rfl
  | t :: r, pre, f + 1, h, hf => by
    have ih := rCheck_1 n sizes ev hl hsz r (pre ++ [t]) f (by rw [h]; simp) (by simp at hf; omega)
    subst h
    unfold ref09_CheckEvening_1
    rw [if_pos (lt_len pre t r), idx_app]
    simp only [Option.bind_some]
    rw [wr_snoc pre t r (by omega), ih, ← snoc_len, shape_r sizes t pre.length (fun h => by rw [hsz h]; simp)]
    simp only [Option.bind_some, sbad]
    exact or_if _ _
theorem rCheck_3 (n : Int) (ev : List (List Int)) (c : Int) (t : List Int) (ht : idx ev c = some t) (hl : t.length ≤ 50000) : ∀ (r pre : List Int) (f : Nat), t = pre ++ r → r.length < f → ref09_CheckEvening_3 n ev c f pre.length = some (if r.any (badV n) then .inr 6 else .inl ())
  | [], pre, f + 1, h, _ => by
    unfold ref09_CheckEvening_3
    rw [ht]
    subst h
    simp only [Option.bind_some]
    rw [nlt_len]
    rfl
  | v :: r, pre, f + 1, h, hf => by
    have ih := rCheck_3 n ev c t ht hl r (pre ++ [v]) f (by rw [h]; simp) (by simp at hf; omega)
    unfold ref09_CheckEvening_3
    rw [ht]
    subst h
    simp only [Option.bind_some]
    rw [if_pos (lt_len pre v r), idx_app]
    simp only [Option.bind_some]
    rw [wr_snoc pre v r (by omega), ih]
    simp only [List.any_cons, badV]
    by_cases h1 : v < 0
    · simp [h1]
    · by_cases h2 : v ≥ n
      · simp [h1, h2]
      · simp [h1, h2]
theorem rCheck_2 (n : Int) (ev : List (List Int)) (hl : ev.length ≤ 50000) (hm : ∀ t ∈ ev, t.length ≤ 50000) : ∀ (r pre : List (List Int)) (f : Nat), ev = pre ++ r → r.length < f → ref09_CheckEvening_2 n ev f pre.length = some (if r.flatten.any (badV n) then .inr 6 else .inl ())
  | [], pre, f + 1, h, _ => by
    subst h
    unfold ref09_CheckEvening_2
    rw [nlt_len]
    rfl
  | t :: r, pre, f + 1, h, hf => by
    have ih := rCheck_2 n ev hl hm r (pre ++ [t]) f (by rw [h]; simp) (by simp at hf; omega)
    have ht := hm t (by rw [h]; simp)
    subst h
    unfold ref09_CheckEvening_2
    rw [if_pos (lt_len pre t r)]
    have h3 := rCheck_3 n (pre ++ t :: r) pre.length t (idx_app pre t r) ht t [] 100000 rfl (by omega)
    rw [show ((([] : List Int).length : Nat) : Int) = 0 from rfl] at h3
    rw [h3]
    simp only [Option.bind_some, List.flatten_cons, List.any_append]
    cases t.any (badV n) with
    | true => simp
    | false =>
      simp only [Bool.false_eq_true, if_false, Bool.false_or]
      rw [wr_snoc pre t r (by omega), ih]
theorem rCheck_45 (n : Int) (hn : n ≤ 64) (ev : List (List Int)) (hl : ev.length ≤ 50000) (hf : ev.flatten.length ≤ 50000) :
    (∀ (k : Nat) (i : Int) (f : Nat), (k : Int) = n - i → 0 ≤ i → k < f → ref09_CheckEvening_4 n ev f i = some (if anyN (fun x => decide ((ev.flatten.count x : Int) > 1)) k i then .inr 5 else .inl ())) ∧
    (∀ (k : Nat) (i : Int) (f : Nat), (k : Int) = n - i → 0 ≤ i → k < f → ref09_CheckEvening_5 n ev f i = some (if anyN (fun x => ((ev.flatten.count x : Int) == 0)) k i then .inr 2 else .inl ())) := by
  constructor
  · intro k
    induction k with
    | zero =>
      intro i f hk hi hf'
      obtain ⟨f, rfl⟩ : ∃ g, f = g + 1 := ⟨f - 1, by omega⟩
      unfold ref09_CheckEvening_4
      rw [if_neg (by simp; omega)]
      rfl
    | succ k ih =>
      intro i f hk hi hf'
      obtain ⟨f, rfl⟩ : ∃ g, f = g + 1 := ⟨f - 1, by omega⟩
      unfold ref09_CheckEvening_4
      rw [if_pos (by simp; omega), times_eq ev i hl hf]
      simp only [Option.bind_some, anyN]
      rw [wr_i (by omega) (by omega), ih (i + 1) f (by omega) (by omega) (by omega)]
      exact or_if _ _
  · intro k
    induction k with
    | zero =>
      intro i f hk hi hf'
      obtain ⟨f, rfl⟩ : ∃ g, f = g + 1 := ⟨f - 1, by omega⟩
      unfold ref09_CheckEvening_5
      rw [if_neg (by simp; omega)]
      rfl
    | succ k ih =>
      intro i f hk hi hf'
      obtain ⟨f, rfl⟩ : ∃ g, f = g + 1 := ⟨f - 1, by omega⟩
      unfold ref09_CheckEvening_5
      rw [if_pos (by simp; omega), times_eq ev i hl hf]
      simp only [Option.bind_some, anyN]
      rw [wr_i (by omega) (by omega), ih (i + 1) f (by omega) (by omega) (by omega)]
      exact or_if _ _
theorem ref09_CheckEvening_eq (n : Int) (hn0 : 0 ≤ n) (hn : n ≤ 64) (sizes : List Int) (ev : List (List Int)) (hl : ev.length ≤ 50000) (hf : ev.flatten.length ≤ 50000) : ref09_CheckEvening n sizes ev = some (chk n sizes ev) := by
  unfold ref09_CheckEvening chk
  by_cases hs : (decide ((sizes.length : Int) > 0) && ((sizes.length : Int) != (ev.length : Int))) = true
  · rw [if_pos hs]
    simp only [Bool.and_eq_true, decide_eq_true_eq] at hs
    rw [if_pos (by simpa using hs.1)]
    simp only [Option.bind_some, hs.2, if_true]
  · rw [if_neg hs]
    have hsz : (sizes.length : Int) > 0 → sizes.length = ev.length := fun h => by
      simp only [Bool.and_eq_true, decide_eq_true_eq, not_and, Bool.not_eq_true, bne_eq_false_iff_eq] at hs
      have := hs h; omega
    have e1 : (if (decide ((sizes.length : Int) > 0)) = true then some ((sizes.length : Int) != (ev.length : Int)) else some false) = some false := by
      by_cases h : (sizes.length : Int) > 0
      · have := hsz h; simp [this]
      · have h' : ¬ 0 < sizes.length := by omega
        simp [h']
    rw [e1]
    simp only [Option.bind_some, Bool.false_eq_true, if_false]
    have hm : ∀ t ∈ ev, t.length ≤ 50000 := fun t ht => by
      have := len_mem ht; omega
    have h1 := rCheck_1 n sizes ev hl hsz ev [] 100000 rfl (by omega)
    have h2 := rCheck_2 n ev hl hm ev [] 100000 rfl (by omega)
    rw [show ((([] : List (List Int)).length : Nat) : Int) = 0 from rfl] at h1 h2
    obtain ⟨h4, h5⟩ := rCheck_45 n hn ev hl hf
    have h4 := h4 n.toNat 0 100000 (by omega) (by omega) (by omega)
    have h5 := h5 n.toNat 0 100000 (by omega) (by omega) (by omega)
    rw [h1]
    simp only [Option.bind_some]
    cases sbad sizes ev 0 with
    | true => simp
    | false =>
      simp only [Bool.false_eq_true, if_false]
      rw [h2]
      simp only [Option.bind_some]
      cases ev.flatten.any (badV n) with
      | true => simp
      | false =>
        simp only [Bool.false_eq_true, if_false]
        rw [h4]
        simp only [Option.bind_some]
        cases anyN (fun x => decide ((ev.flatten.count x : Int) > 1)) n.toNat 0 with
        | true => simp
        | false =>
          simp only [Bool.false_eq_true, if_false]
          rw [h5]
          simp only [Option.bind_some]
          cases anyN (fun x => ((ev.flatten.count x : Int) == 0)) n.toNat 0 <;> simp
/-- The schedule's check, told by that of its evenings. -/
def chkS (n : Int) (sizes : List Int) : List (List (List Int)) → Int → Int × Int
  | [], _ => (0, 0)
  | ev :: r, i => if chk n sizes ev != 0 then (i, chk n sizes ev) else chkS n sizes r (i + 1)
def chkAll (n : Int) (sizes : List Int) (s : List (List (List Int))) : Int × Int :=
  if (decide (n < 1) || decide (n > 64) || (decide ((sizes.length : Int) > 0) && !fitP n sizes)) = true then (0, 90) else if s.length > 64 then (0, 7) else chkS n sizes s 0
theorem check_loop (n : Int) (hn0 : 0 ≤ n) (hn : n ≤ 64) (sizes : List Int) (s : List (List (List Int))) (hs : s.length ≤ 50000) (hl : ∀ ev ∈ s, ev.length ≤ 50000 ∧ ev.flatten.length ≤ 50000) : ∀ (r pre : List (List (List Int))) (f : Nat), s = pre ++ r → r.length < f →
    (∃ q, evening_Check_1 n sizes s f pre.length = some q ∧ ref09_Check_1 n sizes s f pre.length = some q ∧ (match q with | .inl _ => chkS n sizes r pre.length = (0, 0) | .inr w => chkS n sizes r pre.length = w))
  | [], pre, f + 1, h, _ => by
    subst h
    refine ⟨.inl (), ?_, ?_, rfl⟩
    · unfold evening_Check_1; rw [nlt_len]; rfl
    · unfold ref09_Check_1; rw [nlt_len]; rfl
  | ev :: r, pre, f + 1, h, hf => by
    obtain ⟨h1, h2⟩ := hl ev (by rw [h]; simp)
    obtain ⟨q, a1, a2, a3⟩ := check_loop n hn0 hn sizes s hs hl r (pre ++ [ev]) f (by rw [h]; simp) (by simp at hf; omega)
    have e1 := evening_check_eq n hn0 hn sizes ev h1 h2
    have e2 := ref09_CheckEvening_eq n hn0 hn sizes ev h1 h2
    rw [← snoc_len] at a3
    cases hc : (chk n sizes ev != 0) with
    | true =>
      refine ⟨.inr ((pre.length : Int), chk n sizes ev), ?_, ?_, by simp [chkS, hc]⟩
      · subst h
        unfold evening_Check_1
        rw [if_pos (lt_len pre ev r), idx_app]
        simp only [Option.bind_some]
        rw [e1]
        simp only [Option.bind_some, hc, if_true]
      · subst h
        unfold ref09_Check_1
        rw [if_pos (lt_len pre ev r), idx_app]
        simp only [Option.bind_some]
        rw [e2]
        simp only [Option.bind_some, hc, if_true]
    | false =>
      refine ⟨q, ?_, ?_, ?_⟩
      · subst h
        unfold evening_Check_1
        rw [if_pos (lt_len pre ev r), idx_app]
        simp only [Option.bind_some]
        rw [e1]
        simp only [Option.bind_some, hc, Bool.false_eq_true, if_false]
        rw [wr_snoc pre ev r (by omega)]
        exact a1
      · subst h
        unfold ref09_Check_1
        rw [if_pos (lt_len pre ev r), idx_app]
        simp only [Option.bind_some]
        rw [e2]
        simp only [Option.bind_some, hc, Bool.false_eq_true, if_false]
        rw [wr_snoc pre ev r (by omega)]
        exact a2
      · simp only [chkS, hc, Bool.false_eq_true, if_false]
        exact a3
theorem check_both (n : Int) (hn : in64 n) (sizes : List Int) (hsz : sizes.length ≤ 1000) (s : List (List (List Int))) (hs : s.length ≤ 50000) (hl : ∀ ev ∈ s, ev.length ≤ 50000 ∧ ev.flatten.length ≤ 50000) : evening_Check n sizes s = some (chkAll n sizes s) ∧ ref09_Check n sizes s = some (chkAll n sizes s) := by
  have hg : evening_guests n = some (decide (1 ≤ n) && decide (n ≤ 64)) := by
    unfold evening_guests
    by_cases h : 1 ≤ n
    · simp [h]
    · simp [h]
  unfold evening_Check ref09_Check chkAll
  rw [hg, evening_fit_eq n hn sizes hsz, ref09_Fit_eq n sizes hsz]
  simp only [Option.bind_some]
  by_cases h1 : n < 1
  · have h1' : ¬ 1 ≤ n := by omega
    simp [h1, h1']
  · by_cases h2 : n > 64
    · have h2' : ¬ n ≤ 64 := by omega
      simp [h1, h2, h2']
    · have h1' : 1 ≤ n := by omega
      have h2' : n ≤ 64 := by omega
      simp only [h1, h2, h1', h2', decide_true, decide_false, Bool.and_self, Bool.not_true, Bool.false_eq_true, if_false, Bool.false_or]
      by_cases h3 : (sizes.length : Int) > 0
      · cases hf : fitP n sizes with
        | false =>
          have h3' : 0 < sizes.length := by omega
          simp [h3']
        | true =>
          simp only [h3, decide_true, if_true, Bool.not_true, Option.bind_some, Bool.and_false, Bool.false_eq_true, if_false]
          by_cases h4 : s.length > 64
          · have h4' : decide ((s.length : Int) > 64) = true := by simp; omega
            simp only [h4', h4, if_true, and_self]
          · have h4' : decide ((s.length : Int) > 64) = false := by simp; omega
            simp only [h4', h4, if_false, Bool.false_eq_true]
            obtain ⟨q, a1, a2, a3⟩ := check_loop n (by omega) h2' sizes s hs hl s [] 100000 rfl (by omega)
            rw [show ((([] : List (List (List Int))).length : Nat) : Int) = 0 from rfl] at a1 a2 a3
            rw [a1, a2]
            cases q with
            | inl w => simp only at a3; simp [a3]
            | inr w => simp only at a3; simp [a3]
      · simp only [h3, decide_false, Bool.false_eq_true, if_false, Option.bind_some, Bool.false_and]
        by_cases h4 : s.length > 64
        · have h4' : decide ((s.length : Int) > 64) = true := by simp; omega
          simp only [h4', h4, if_true, and_self]
        · have h4' : decide ((s.length : Int) > 64) = false := by simp; omega
          simp only [h4', h4, if_false, Bool.false_eq_true]
          obtain ⟨q, a1, a2, a3⟩ := check_loop n (by omega) h2' sizes s hs hl s [] 100000 rfl (by omega)
          rw [show ((([] : List (List (List Int))).length : Nat) : Int) = 0 from rfl] at a1 a2 a3
          rw [a1, a2]
          cases q with
          | inl w => simp only at a3; simp [a3]
          | inr w => simp only at a3; simp [a3]
end Go.Proofs.YtnmkejapogklmaaDoor
