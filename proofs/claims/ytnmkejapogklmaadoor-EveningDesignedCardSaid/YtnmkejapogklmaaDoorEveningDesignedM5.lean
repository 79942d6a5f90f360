/- Lemmas for the proof. -/
import Derived.Test.YtnmkejapogklmaaDoorEveningDesignedM1
import Derived.Test.YtnmkejapogklmaaDoorEveningDesignedM2
import Derived.Test.YtnmkejapogklmaaDoorEveningDesignedM3
import Derived.Test.YtnmkejapogklmaaDoorEveningDesignedM4
namespace Go.Proofs.YtnmkejapogklmaaDoor
open Go.RowKit
/- trestle/evening.Net -/
noncomputable def e_evening_Net : Env := (((E0.withX 57 t_evening_fieldOf).withX 58 t_evening_field_mul).withX 64 t_evening_field_add)
theorem e_evening_Net_ok : EnvOk e_evening_Net := (EnvOk.withX (EnvOk.withX (EnvOk.withX E0_ok x_evening_fieldOf.1 x_evening_fieldOf.2) x_evening_field_mul.1 x_evening_field_mul.2) x_evening_field_add.1 x_evening_field_add.2)
noncomputable def cb_evening_Net : Code := codeOf Tryd.f38
def evening_Net_3 (x0 : Int) (x1 : Int) (j6 : Int × Int × (List Int) × Bool) (c8 : (List (List (List Int)))) (c9 : Int) (c11 : (List (List Int))) (c12 : Int) : Nat → (List Int) → Int → Option (((List Int)))
  | 0, _, _ => none
  | f + 1, c14, c15 =>
    if (decide (c15 < x0)) = true then
    (evening_field_mul (j6.1, j6.2.1, j6.2.2.1) c9 c15).bind fun v17 =>
    (evening_field_add (j6.1, j6.2.1, j6.2.2.1) v17 c12).bind fun v18 =>
    if (capOk 8 (c14.length + 1)) = true then
    evening_Net_3 x0 x1 j6 c8 c9 c11 c12 f (c14 ++ [(wr .i64 ((wr .i64 (c15 * x1)) + v18))]) (wr .i64 (c15 + 1))
    else none
    else
    some c14
def evening_Net_2 (x0 : Int) (x1 : Int) (j6 : Int × Int × (List Int) × Bool) (c8 : (List (List (List Int)))) (c9 : Int) : Nat → (List (List Int)) → Int → Option (((List (List Int))))
  | 0, _, _ => none
  | f + 1, c11, c12 =>
    if (decide (c12 < x1)) = true then
    (evening_Net_3 x0 x1 j6 c8 c9 c11 c12 100000 [] 0).bind fun r21 =>
    if (capOk 24 (c11.length + 1)) = true then
    evening_Net_2 x0 x1 j6 c8 c9 f (c11 ++ [r21]) (wr .i64 (c12 + 1))
    else none
    else
    some c11
def evening_Net_1 (x0 : Int) (x1 : Int) (j6 : Int × Int × (List Int) × Bool) : Nat → (List (List (List Int))) → Int → Option (((List (List (List Int)))))
  | 0, _, _ => none
  | f + 1, c8, c9 =>
    if (decide (c9 < x1)) = true then
    (evening_Net_2 x0 x1 j6 c8 c9 100000 [] 0).bind fun r24 =>
    if (capOk 24 (c8.length + 1)) = true then
    evening_Net_1 x0 x1 j6 f (c8 ++ [r24]) (wr .i64 (c9 + 1))
    else none
    else
    some c8
def evening_Net (x0 : Int) (x1 : Int) : Option ((List (List (List Int))) × Int) :=
  (evening_fieldOf x1).bind fun v1 =>
  (if (!v1.2) = true then some (v1.1.1, v1.1.2.1, v1.1.2.2, true) else if (decide (x0 < 1)) = true then some (v1.1.1, v1.1.2.1, v1.1.2.2, true) else if (decide (x0 > x1)) = true then some (v1.1.1, v1.1.2.1, v1.1.2.2, true) else some (v1.1.1, v1.1.2.1, v1.1.2.2, (decide ((wr .i64 (x0 * x1)) > 64)))).bind fun j6 =>
  if j6.2.2.2 = true then
  some ([], 90)
  else
  (evening_Net_1 x0 x1 j6 100000 [] 0).bind fun r27 =>
  some (r27, 0)
def cs_evening_Net : Cs (Int × Int × Unit) := (csC cdI (csC cdI csN))
def er_evening_Net (r : (List (List (List Int))) × Int) : AV := .tp [(cdL 1 (cdL 1 (cdL 1 cdI))).enc r.1, cdI.enc r.2]
set_option maxHeartbeats 4000000 in
set_option maxRecDepth 100000 in
theorem evening_Net_3_ok (x0 : Int) (x1 : Int) (j6 : Int × Int × (List Int) × Bool) (c8 : (List (List (List Int)))) (c9 : Int) (c11 : (List (List Int))) (c12 : Int) : ∀ (f : Nat) (c14 : (List Int)) (c15 : Int) (r : ((List Int))), evening_Net_3 x0 x1 j6 c8 c9 c11 c12 f c14 c15 = some r → SemN e_evening_Net ⟨none, false⟩ (pc cb_evening_Net [1, 1, 1, 1, 0, 1, 0, 0, 1, 1, 0, 0, 1, 1, 0, 1, 0, 0, 1, 1, 0, 0, 1, 1, 0, 1, 0, 0]) f ⟨Fr 74 [(0, .v (.int .i64 x0)), (1, .v (.int .i64 x1)), (6, .pt 0 0 0), (8, hd 1 (c8.map (cdL 1 (cdL 1 cdI)).enc)), (9, .v (.int .i64 c9)), (10, hd 2 (c11.map (cdL 1 cdI).enc)), (11, .v (.int .i64 c12)), (12, hd 3 (c14.map cdI.enc)), (36, .v (.int .i64 x1)), (37, .v (.int .i64 c9)), (40, .v (.int .i64 x1)), (41, .v (.int .i64 c12)), (44, .v (.int .i64 x0)), (45, .v (.int .i64 c15))], [some ⟨3, 76, [.ag [.v (.int .i64 j6.1), .v (.int .i64 j6.2.1), .sl 1 (j6.2.2.1.map cdI.enc)]], false⟩, mk 1 36 (c8.map (cdL 1 (cdL 1 cdI)).enc), mk 1 29 (c11.map (cdL 1 cdI).enc), mk 1 3 (c14.map cdI.enc)]⟩ (fun e s => e = (.exit 4) ∧ Wk e_evening_Net s ⟨Fr 74 [(0, .v (.int .i64 x0)), (1, .v (.int .i64 x1)), (6, .pt 0 0 0), (8, hd 1 (c8.map (cdL 1 (cdL 1 cdI)).enc)), (9, .v (.int .i64 c9)), (10, hd 2 (c11.map (cdL 1 cdI).enc)), (12, hd 3 (r.map cdI.enc)), (36, .v (.int .i64 x1)), (37, .v (.int .i64 c9)), (40, .v (.int .i64 x1)), (41, .v (.int .i64 c12))], [some ⟨3, 76, [.ag [.v (.int .i64 j6.1), .v (.int .i64 j6.2.1), .sl 1 (j6.2.2.1.map cdI.enc)]], false⟩, mk 1 36 (c8.map (cdL 1 (cdL 1 cdI)).enc), mk 1 29 (c11.map (cdL 1 cdI).enc), mk 1 3 (r.map cdI.enc)]⟩) := by
  intro f
  induction f with
  | zero => intro c14 c15 r h; cases h
  | succ f ih0 =>
    intro c14 c15 r h
    have ih := fun (c14 : (List Int)) (c15 : Int) => ih0 c14 c15 r
    unfold evening_Net_3 at h
    refine SemN.succ ?_
    refine Sem.seq ?_
    refine Sem.runS (s1 := ⟨Fr 74 [(0, .v (.int .i64 x0)), (1, .v (.int .i64 x1)), (6, .pt 0 0 0), (8, hd 1 (c8.map (cdL 1 (cdL 1 cdI)).enc)), (9, .v (.int .i64 c9)), (10, hd 2 (c11.map (cdL 1 cdI).enc)), (11, .v (.int .i64 c12)), (12, hd 3 (c14.map cdI.enc)), (36, .v (.int .i64 x1)), (37, .v (.int .i64 c9)), (40, .v (.int .i64 x1)), (41, .v (.int .i64 c12)), (44, .v (.int .i64 x0)), (45, .v (.int .i64 c15)), (46, .v (.bool (decide (c15 < x0))))], [some ⟨3, 76, [.ag [.v (.int .i64 j6.1), .v (.int .i64 j6.2.1), .sl 1 (j6.2.2.1.map cdI.enc)]], false⟩, mk 1 36 (c8.map (cdL 1 (cdL 1 cdI)).enc), mk 1 29 (c11.map (cdL 1 cdI).enc), mk 1 3 (c14.map cdI.enc)]⟩) ?_ ?_
    · refine RunS.segF (n := 74) e_evening_Net_ok 1 [(0, .v (.int .i64 x0)), (1, .v (.int .i64 x1)), (6, .pt 0 0 0), (8, hd 1 (c8.map (cdL 1 (cdL 1 cdI)).enc)), (9, .v (.int .i64 c9)), (10, hd 2 (c11.map (cdL 1 cdI).enc)), (11, .v (.int .i64 c12)), (12, hd 3 (c14.map cdI.enc)), (36, .v (.int .i64 x1)), (37, .v (.int .i64 c9)), (40, .v (.int .i64 x1)), (41, .v (.int .i64 c12)), (44, .v (.int .i64 x0)), (45, .v (.int .i64 c15)), (46, .v (.bool (decide (c15 < x0))))] [some ⟨3, 76, [.ag [.v (.int .i64 j6.1), .v (.int .i64 j6.2.1), .sl 1 (j6.2.2.1.map cdI.enc)]], false⟩, mk 1 36 (c8.map (cdL 1 (cdL 1 cdI)).enc), mk 1 29 (c11.map (cdL 1 cdI).enc), mk 1 3 (c14.map cdI.enc)] (by kernel_rfl) ?_
      exact RunS.done rfl (Wk.sel2 [0, 1, 2, 3] (by kernel_rfl) (by kernel_rfl) (by kernel_rfl) ⟨⟨_, rfl, bu_c (by kernel_rfl) (by kernel_rfl)⟩, ⟨_, rfl, bu_mk⟩, ⟨_, rfl, bu_mk⟩, ⟨_, rfl, bu_mk⟩, trivial⟩ ⟨lu (by kernel_rfl) (by kernel_rfl), lu (by kernel_rfl) (by kernel_rfl), lu (by kernel_rfl) (by kernel_rfl), lu_hd (b' := 1) (by kernel_rfl) (by kernel_rfl), lu (by kernel_rfl) (by kernel_rfl), lu_hd (b' := 2) (by kernel_rfl) (by kernel_rfl), lu (by kernel_rfl) (by kernel_rfl), lu_hd (b' := 3) (by kernel_rfl) (by kernel_rfl), lu (by kernel_rfl) (by kernel_rfl), lu (by kernel_rfl) (by kernel_rfl), lu (by kernel_rfl) (by kernel_rfl), lu (by kernel_rfl) (by kernel_rfl), lu (by kernel_rfl) (by kernel_rfl), lu (by kernel_rfl) (by kernel_rfl), lu (by kernel_rfl) (by kernel_rfl), trivial⟩)
    refine Sem.seq ?_
    refine Sem.cond (b := (decide (c15 < x0))) (by kernel_rfl) (fun hb16 => ?_) (fun hb16 => ?_)
    · rw [if_pos hb16] at h
      refine Sem.skip ?_
      refine Sem.seq ?_
      refine Sem.block ?_
      refine Sem.seq ?_
      refine Sem.runS (s1 := ⟨Fr 74 [(0, .v (.int .i64 x0)), (1, .v (.int .i64 x1)), (6, .pt 0 0 0), (8, hd 1 (c8.map (cdL 1 (cdL 1 cdI)).enc)), (9, .v (.int .i64 c9)), (10, hd 2 (c11.map (cdL 1 cdI).enc)), (11, .v (.int .i64 c12)), (12, hd 3 (c14.map cdI.enc)), (13, .v (.int .i64 c15)), (36, .v (.int .i64 x1)), (37, .v (.int .i64 c9)), (40, .v (.int .i64 x1)), (41, .v (.int .i64 c12)), (44, .v (.int .i64 x0)), (45, .v (.int .i64 c15))], [some ⟨3, 76, [.ag [.v (.int .i64 j6.1), .v (.int .i64 j6.2.1), .sl 1 (j6.2.2.1.map cdI.enc)]], false⟩, mk 1 36 (c8.map (cdL 1 (cdL 1 cdI)).enc), mk 1 29 (c11.map (cdL 1 cdI).enc), mk 1 3 (c14.map cdI.enc)]⟩) ?_ ?_
      · refine RunS.segF (n := 74) e_evening_Net_ok 2 [(0, .v (.int .i64 x0)), (1, .v (.int .i64 x1)), (6, .pt 0 0 0), (8, hd 1 (c8.map (cdL 1 (cdL 1 cdI)).enc)), (9, .v (.int .i64 c9)), (10, hd 2 (c11.map (cdL 1 cdI).enc)), (11, .v (.int .i64 c12)), (12, hd 3 (c14.map cdI.enc)), (13, .v (.int .i64 c15)), (36, .v (.int .i64 x1)), (37, .v (.int .i64 c9)), (40, .v (.int .i64 x1)), (41, .v (.int .i64 c12)), (44, .v (.int .i64 x0)), (45, .v (.int .i64 c15))] [some ⟨3, 76, [.ag [.v (.int .i64 j6.1), .v (.int .i64 j6.2.1), .sl 1 (j6.2.2.1.map cdI.enc)]], false⟩, mk 1 36 (c8.map (cdL 1 (cdL 1 cdI)).enc), mk 1 29 (c11.map (cdL 1 cdI).enc), mk 1 3 (c14.map cdI.enc)] (by kernel_rfl) ?_
        exact RunS.done rfl (Wk.sel2 [0, 1, 2, 3] (by kernel_rfl) (by kernel_rfl) (by kernel_rfl) ⟨⟨_, rfl, bu_c (by kernel_rfl) (by kernel_rfl)⟩, ⟨_, rfl, bu_mk⟩, ⟨_, rfl, bu_mk⟩, ⟨_, rfl, bu_mk⟩, trivial⟩ ⟨lu (by kernel_rfl) (by kernel_rfl), lu (by kernel_rfl) (by kernel_rfl), lu (by kernel_rfl) (by kernel_rfl), lu_hd (b' := 1) (by kernel_rfl) (by kernel_rfl), lu (by kernel_rfl) (by kernel_rfl), lu_hd (b' := 2) (by kernel_rfl) (by kernel_rfl), lu (by kernel_rfl) (by kernel_rfl), lu_hd (b' := 3) (by kernel_rfl) (by kernel_rfl), lu (by kernel_rfl) (by kernel_rfl), lu (by kernel_rfl) (by kernel_rfl), lu (by kernel_rfl) (by kernel_rfl), lu (by kernel_rfl) (by kernel_rfl), lu (by kernel_rfl) (by kernel_rfl), lu (by kernel_rfl) (by kernel_rfl), lu (by kernel_rfl) (by kernel_rfl), trivial⟩)
      obtain ⟨v17, hv17, h⟩ := Option.bind_eq_some_iff.1 h
      obtain ⟨v18, hv18, h⟩ := Option.bind_eq_some_iff.1 h
      by_cases hk19 : (capOk 8 (c14.length + 1)) = true
      case neg => rw [if_neg hk19] at h; cases h
      rw [if_pos hk19] at h
      refine Sem.runDS e_evening_Net_ok (s1 := ⟨Fr 74 [(0, .v (.int .i64 x0)), (1, .v (.int .i64 x1)), (6, .pt 0 0 0), (8, hd 1 (c8.map (cdL 1 (cdL 1 cdI)).enc)), (9, .v (.int .i64 c9)), (10, hd 2 (c11.map (cdL 1 cdI).enc)), (11, .v (.int .i64 c12)), (12, hd 3 ((c14 ++ [(wr .i64 ((wr .i64 (c15 * x1)) + v18))]).map cdI.enc)), (36, .v (.int .i64 x1)), (37, .v (.int .i64 c9)), (40, .v (.int .i64 x1)), (41, .v (.int .i64 c12)), (44, .v (.int .i64 x0)), (45, .v (.int .i64 c15))], [some ⟨3, 76, [.ag [.v (.int .i64 j6.1), .v (.int .i64 j6.2.1), .sl 1 (j6.2.2.1.map cdI.enc)]], false⟩, mk 1 36 (c8.map (cdL 1 (cdL 1 cdI)).enc), mk 1 29 (c11.map (cdL 1 cdI).enc), mk 1 3 ((c14 ++ [(wr .i64 ((wr .i64 (c15 * x1)) + v18))]).map cdI.enc)]⟩) (by kernel_rfl) ?_ ?_
      · refine RunDS.segF (n := 74) e_evening_Net_ok 8 [(0, .v (.int .i64 x0)), (1, .v (.int .i64 x1)), (6, .pt 0 0 0), (8, hd 1 (c8.map (cdL 1 (cdL 1 cdI)).enc)), (9, .v (.int .i64 c9)), (10, hd 2 (c11.map (cdL 1 cdI).enc)), (11, .v (.int .i64 c12)), (36, .v (.int .i64 x1)), (37, .v (.int .i64 c9)), (40, .v (.int .i64 x1)), (41, .v (.int .i64 c12)), (44, .v (.int .i64 x0)), (45, .v (.int .i64 c15)), (48, hd 3 (c14.map cdI.enc)), (51, .v (.int .i64 (wr .i64 (c15 * x1)))), (52, .ag [.v (.int .i64 j6.1), .v (.int .i64 j6.2.1), .sl 1 (j6.2.2.1.map cdI.enc)]), (53, .ag [.v (.int .i64 j6.1), .v (.int .i64 j6.2.1), .sl 1 (j6.2.2.1.map cdI.enc)]), (54, .v (.int .i64 c9)), (55, .v (.int .i64 c15))] [some ⟨3, 76, [.ag [.v (.int .i64 j6.1), .v (.int .i64 j6.2.1), .sl 1 (j6.2.2.1.map cdI.enc)]], false⟩, mk 1 36 (c8.map (cdL 1 (cdL 1 cdI)).enc), mk 1 29 (c11.map (cdL 1 cdI).enc), mk 1 3 (c14.map cdI.enc)] (by kernel_rfl) (by kernel_rfl) ?_
        refine RunDS.call e_evening_Net_ok (fid := 58) (s := cs_evening_field_mul) (F := fun a => evening_field_mul a.1 a.2.1 a.2.2.1) (er := er_evening_field_mul) (xs := [.ag [.v (.int .i64 j6.1), .v (.int .i64 j6.2.1), .sl 1 (j6.2.2.1.map cdI.enc)], .v (.int .i64 c9), .v (.int .i64 c15)]) (a := ((j6.1, j6.2.1, j6.2.2.1), c9, c15, ())) rfl (wantedA_none rfl) (by kernel_rfl) (by kernel_rfl) (by kernel_rfl) (Sns.cons (Sn.enc (c := (cdG3 cdI cdI (cdL 1 cdI) (fun _ => rfl) (fun _ => rfl) (fun _ => rfl))) (v := (j6.1, j6.2.1, j6.2.2.1))) (Sns.cons (Sn.enc (c := cdI) (v := c9)) (Sns.cons (Sn.enc (c := cdI) (v := c15)) Sns.nil))) (by kernel_rfl) hv17 ?_
        refine RunDS.segF (n := 74) e_evening_Net_ok 1 [(0, .v (.int .i64 x0)), (1, .v (.int .i64 x1)), (6, .pt 0 0 0), (8, hd 1 (c8.map (cdL 1 (cdL 1 cdI)).enc)), (9, .v (.int .i64 c9)), (10, hd 2 (c11.map (cdL 1 cdI).enc)), (11, .v (.int .i64 c12)), (36, .v (.int .i64 x1)), (37, .v (.int .i64 c9)), (40, .v (.int .i64 x1)), (41, .v (.int .i64 c12)), (44, .v (.int .i64 x0)), (45, .v (.int .i64 c15)), (48, hd 3 (c14.map cdI.enc)), (51, .v (.int .i64 (wr .i64 (c15 * x1)))), (52, .ag [.v (.int .i64 j6.1), .v (.int .i64 j6.2.1), .sl 1 (j6.2.2.1.map cdI.enc)]), (56, .v (.int .i64 v17)), (57, .v (.int .i64 c12))] [some ⟨3, 76, [.ag [.v (.int .i64 j6.1), .v (.int .i64 j6.2.1), .sl 1 (j6.2.2.1.map cdI.enc)]], false⟩, mk 1 36 (c8.map (cdL 1 (cdL 1 cdI)).enc), mk 1 29 (c11.map (cdL 1 cdI).enc), mk 1 3 (c14.map cdI.enc)] (by kernel_rfl) (by kernel_rfl) ?_
        refine RunDS.call e_evening_Net_ok (fid := 64) (s := cs_evening_field_add) (F := fun a => evening_field_add a.1 a.2.1 a.2.2.1) (er := er_evening_field_add) (xs := [.ag [.v (.int .i64 j6.1), .v (.int .i64 j6.2.1), .sl 1 (j6.2.2.1.map cdI.enc)], .v (.int .i64 v17), .v (.int .i64 c12)]) (a := ((j6.1, j6.2.1, j6.2.2.1), v17, c12, ())) rfl (wantedA_none rfl) (by kernel_rfl) (by kernel_rfl) (by kernel_rfl) (Sns.cons (Sn.enc (c := (cdG3 cdI cdI (cdL 1 cdI) (fun _ => rfl) (fun _ => rfl) (fun _ => rfl))) (v := (j6.1, j6.2.1, j6.2.2.1))) (Sns.cons (Sn.enc (c := cdI) (v := v17)) (Sns.cons (Sn.enc (c := cdI) (v := c12)) Sns.nil))) (by kernel_rfl) hv18 ?_
        refine RunDS.segF (n := 74) e_evening_Net_ok 2 [(0, .v (.int .i64 x0)), (1, .v (.int .i64 x1)), (6, .pt 0 0 0), (8, hd 1 (c8.map (cdL 1 (cdL 1 cdI)).enc)), (9, .v (.int .i64 c9)), (10, hd 2 (c11.map (cdL 1 cdI).enc)), (11, .v (.int .i64 c12)), (36, .v (.int .i64 x1)), (37, .v (.int .i64 c9)), (40, .v (.int .i64 x1)), (41, .v (.int .i64 c12)), (44, .v (.int .i64 x0)), (45, .v (.int .i64 c15)), (48, hd 3 (c14.map cdI.enc)), (60, hd 4 ([(wr .i64 ((wr .i64 (c15 * x1)) + v18))].map cdI.enc))] [some ⟨3, 76, [.ag [.v (.int .i64 j6.1), .v (.int .i64 j6.2.1), .sl 1 (j6.2.2.1.map cdI.enc)]], false⟩, mk 1 36 (c8.map (cdL 1 (cdL 1 cdI)).enc), mk 1 29 (c11.map (cdL 1 cdI).enc), mk 1 3 (c14.map cdI.enc), mk 1 3 ([(wr .i64 ((wr .i64 (c15 * x1)) + v18))].map cdI.enc)] (by kernel_rfl) (by kernel_rfl) ?_
        refine RunDS.tail rfl rfl ?_
        refine RunS.one e_evening_Net_ok 0 rfl (op_w (wantedA_none rfl) rfl (by kernel_rfl) (by kernel_rfl) (w_append (a := hd 3 (c14.map cdI.enc)) (b := hd 4 ([(wr .i64 ((wr .i64 (c15 * x1)) + v18))].map cdI.enc)) (by kernel_rfl) (by kernel_rfl) (append_B (c := cdI) (xs := c14) (vs := [(wr .i64 ((wr .i64 (c15 * x1)) + v18))]) (k := 1) (bytes := 8) (el := 3) (by kernel_rfl) (by kernel_rfl) (elems_hd (t := 3) (by kernel_rfl)) (List.cons_ne_nil _ _) (by kernel_rfl) hk19))) ?_
        refine RunS.segF (n := 74) e_evening_Net_ok 1 [(0, .v (.int .i64 x0)), (1, .v (.int .i64 x1)), (6, .pt 0 0 0), (8, hd 1 (c8.map (cdL 1 (cdL 1 cdI)).enc)), (9, .v (.int .i64 c9)), (10, hd 2 (c11.map (cdL 1 cdI).enc)), (11, .v (.int .i64 c12)), (12, hd 5 ((c14 ++ [(wr .i64 ((wr .i64 (c15 * x1)) + v18))]).map cdI.enc)), (36, .v (.int .i64 x1)), (37, .v (.int .i64 c9)), (40, .v (.int .i64 x1)), (41, .v (.int .i64 c12)), (44, .v (.int .i64 x0)), (45, .v (.int .i64 c15))] [some ⟨3, 76, [.ag [.v (.int .i64 j6.1), .v (.int .i64 j6.2.1), .sl 1 (j6.2.2.1.map cdI.enc)]], false⟩, mk 1 36 (c8.map (cdL 1 (cdL 1 cdI)).enc), mk 1 29 (c11.map (cdL 1 cdI).enc), none, mk 1 3 ([(wr .i64 ((wr .i64 (c15 * x1)) + v18))].map cdI.enc), mk 1 3 ((c14 ++ [(wr .i64 ((wr .i64 (c15 * x1)) + v18))]).map cdI.enc)] (by kernel_rfl) ?_
        exact RunS.done rfl (Wk.sel2 [0, 1, 2, 5] (by kernel_rfl) (by kernel_rfl) (by kernel_rfl) ⟨⟨_, rfl, bu_c (by kernel_rfl) (by kernel_rfl)⟩, ⟨_, rfl, bu_mk⟩, ⟨_, rfl, bu_mk⟩, ⟨_, rfl, bu_mk⟩, trivial⟩ ⟨lu (by kernel_rfl) (by kernel_rfl), lu (by kernel_rfl) (by kernel_rfl), lu (by kernel_rfl) (by kernel_rfl), lu_hd (b' := 1) (by kernel_rfl) (by kernel_rfl), lu (by kernel_rfl) (by kernel_rfl), lu_hd (b' := 2) (by kernel_rfl) (by kernel_rfl), lu (by kernel_rfl) (by kernel_rfl), lu_hd (b' := 5) (by kernel_rfl) (by kernel_rfl), lu (by kernel_rfl) (by kernel_rfl), lu (by kernel_rfl) (by kernel_rfl), lu (by kernel_rfl) (by kernel_rfl), lu (by kernel_rfl) (by kernel_rfl), lu (by kernel_rfl) (by kernel_rfl), lu (by kernel_rfl) (by kernel_rfl), trivial⟩)
      refine Sem.runS (s1 := ⟨Fr 74 [(0, .v (.int .i64 x0)), (1, .v (.int .i64 x1)), (6, .pt 0 0 0), (8, hd 1 (c8.map (cdL 1 (cdL 1 cdI)).enc)), (9, .v (.int .i64 c9)), (10, hd 2 (c11.map (cdL 1 cdI).enc)), (11, .v (.int .i64 c12)), (12, hd 3 ((c14 ++ [(wr .i64 ((wr .i64 (c15 * x1)) + v18))]).map cdI.enc)), (36, .v (.int .i64 x1)), (37, .v (.int .i64 c9)), (40, .v (.int .i64 x1)), (41, .v (.int .i64 c12)), (44, .v (.int .i64 x0)), (45, .v (.int .i64 (wr .i64 (c15 + 1))))], [some ⟨3, 76, [.ag [.v (.int .i64 j6.1), .v (.int .i64 j6.2.1), .sl 1 (j6.2.2.1.map cdI.enc)]], false⟩, mk 1 36 (c8.map (cdL 1 (cdL 1 cdI)).enc), mk 1 29 (c11.map (cdL 1 cdI).enc), mk 1 3 ((c14 ++ [(wr .i64 ((wr .i64 (c15 * x1)) + v18))]).map cdI.enc)]⟩) ?_ ?_
      · refine RunS.segF (n := 74) e_evening_Net_ok 2 [(0, .v (.int .i64 x0)), (1, .v (.int .i64 x1)), (6, .pt 0 0 0), (8, hd 1 (c8.map (cdL 1 (cdL 1 cdI)).enc)), (9, .v (.int .i64 c9)), (10, hd 2 (c11.map (cdL 1 cdI).enc)), (11, .v (.int .i64 c12)), (12, hd 3 ((c14 ++ [(wr .i64 ((wr .i64 (c15 * x1)) + v18))]).map cdI.enc)), (36, .v (.int .i64 x1)), (37, .v (.int .i64 c9)), (40, .v (.int .i64 x1)), (41, .v (.int .i64 c12)), (44, .v (.int .i64 x0)), (45, .v (.int .i64 (wr .i64 (c15 + 1))))] [some ⟨3, 76, [.ag [.v (.int .i64 j6.1), .v (.int .i64 j6.2.1), .sl 1 (j6.2.2.1.map cdI.enc)]], false⟩, mk 1 36 (c8.map (cdL 1 (cdL 1 cdI)).enc), mk 1 29 (c11.map (cdL 1 cdI).enc), mk 1 3 ((c14 ++ [(wr .i64 ((wr .i64 (c15 * x1)) + v18))]).map cdI.enc)] (by kernel_rfl) ?_
        exact RunS.done rfl (Wk.sel2 [0, 1, 2, 3] (by kernel_rfl) (by kernel_rfl) (by kernel_rfl) ⟨⟨_, rfl, bu_c (by kernel_rfl) (by kernel_rfl)⟩, ⟨_, rfl, bu_mk⟩, ⟨_, rfl, bu_mk⟩, ⟨_, rfl, bu_mk⟩, trivial⟩ ⟨lu (by kernel_rfl) (by kernel_rfl), lu (by kernel_rfl) (by kernel_rfl), lu (by kernel_rfl) (by kernel_rfl), lu_hd (b' := 1) (by kernel_rfl) (by kernel_rfl), lu (by kernel_rfl) (by kernel_rfl), lu_hd (b' := 2) (by kernel_rfl) (by kernel_rfl), lu (by kernel_rfl) (by kernel_rfl), lu_hd (b' := 3) (by kernel_rfl) (by kernel_rfl), lu (by kernel_rfl) (by kernel_rfl), lu (by kernel_rfl) (by kernel_rfl), lu (by kernel_rfl) (by kernel_rfl), lu (by kernel_rfl) (by kernel_rfl), lu (by kernel_rfl) (by kernel_rfl), lu (by kernel_rfl) (by kernel_rfl), trivial⟩)
      exact SemN.wk (s1 := ⟨Fr 74 [(0, .v (.int .i64 x0)), (1, .v (.int .i64 x1)), (6, .pt 0 0 0), (8, hd 1 (c8.map (cdL 1 (cdL 1 cdI)).enc)), (9, .v (.int .i64 c9)), (10, hd 2 (c11.map (cdL 1 cdI).enc)), (11, .v (.int .i64 c12)), (12, hd 3 ((c14 ++ [(wr .i64 ((wr .i64 (c15 * x1)) + v18))]).map cdI.enc)), (36, .v (.int .i64 x1)), (37, .v (.int .i64 c9)), (40, .v (.int .i64 x1)), (41, .v (.int .i64 c12)), (44, .v (.int .i64 x0)), (45, .v (.int .i64 (wr .i64 (c15 + 1))))], [some ⟨3, 76, [.ag [.v (.int .i64 j6.1), .v (.int .i64 j6.2.1), .sl 1 (j6.2.2.1.map cdI.enc)]], false⟩, mk 1 36 (c8.map (cdL 1 (cdL 1 cdI)).enc), mk 1 29 (c11.map (cdL 1 cdI).enc), mk 1 3 ((c14 ++ [(wr .i64 ((wr .i64 (c15 * x1)) + v18))]).map cdI.enc)]⟩) (Wk.sel2 [0, 1, 2, 3] (by kernel_rfl) (by kernel_rfl) (by kernel_rfl) ⟨⟨_, rfl, bu_c (by kernel_rfl) (by kernel_rfl)⟩, ⟨_, rfl, bu_mk⟩, ⟨_, rfl, bu_mk⟩, ⟨_, rfl, bu_mk⟩, trivial⟩ ⟨lu (by kernel_rfl) (by kernel_rfl), lu (by kernel_rfl) (by kernel_rfl), lu (by kernel_rfl) (by kernel_rfl), lu_hd (b' := 1) (by kernel_rfl) (by kernel_rfl), lu (by kernel_rfl) (by kernel_rfl), lu_hd (b' := 2) (by kernel_rfl) (by kernel_rfl), lu (by kernel_rfl) (by kernel_rfl), lu_hd (b' := 3) (by kernel_rfl) (by kernel_rfl), lu (by kernel_rfl) (by kernel_rfl), lu (by kernel_rfl) (by kernel_rfl), lu (by kernel_rfl) (by kernel_rfl), lu (by kernel_rfl) (by kernel_rfl), lu (by kernel_rfl) (by kernel_rfl), lu (by kernel_rfl) (by kernel_rfl), trivial⟩) (ih (c14 ++ [(wr .i64 ((wr .i64 (c15 * x1)) + v18))]) (wr .i64 (c15 + 1)) h)
    · rw [if_f hb16] at h
      refine Sem.exit ?_
      have hq := Option.some.inj h; subst hq
      exact ⟨rfl, (Wk.sel2 [0, 1, 2, 3] (by kernel_rfl) (by kernel_rfl) (by kernel_rfl) ⟨⟨_, rfl, bu_c (by kernel_rfl) (by kernel_rfl)⟩, ⟨_, rfl, bu_mk⟩, ⟨_, rfl, bu_mk⟩, ⟨_, rfl, bu_mk⟩, trivial⟩ ⟨lu (by kernel_rfl) (by kernel_rfl), lu (by kernel_rfl) (by kernel_rfl), lu (by kernel_rfl) (by kernel_rfl), lu_hd (b' := 1) (by kernel_rfl) (by kernel_rfl), lu (by kernel_rfl) (by kernel_rfl), lu_hd (b' := 2) (by kernel_rfl) (by kernel_rfl), lu_hd (b' := 3) (by kernel_rfl) (by kernel_rfl), lu (by kernel_rfl) (by kernel_rfl), lu (by kernel_rfl) (by kernel_rfl), lu (by kernel_rfl) (by kernel_rfl), lu (by kernel_rfl) (by kernel_rfl), trivial⟩)⟩
set_option maxHeartbeats 4000000 in
set_option maxRecDepth 100000 in
theorem evening_Net_2_ok (x0 : Int) (x1 : Int) (j6 : Int × Int × (List Int) × Bool) (c8 : (List (List (List Int)))) (c9 : Int) : ∀ (f : Nat) (c11 : (List (List Int))) (c12 : Int) (r : ((List (List Int)))), evening_Net_2 x0 x1 j6 c8 c9 f c11 c12 = some r → SemN e_evening_Net ⟨none, false⟩ (pc cb_evening_Net [1, 1, 1, 1, 0, 1, 0, 0, 1, 1, 0, 0, 1, 1, 0, 1, 0, 0]) f ⟨Fr 74 [(0, .v (.int .i64 x0)), (1, .v (.int .i64 x1)), (6, .pt 0 0 0), (8, hd 1 (c8.map (cdL 1 (cdL 1 cdI)).enc)), (9, .v (.int .i64 c9)), (10, hd 2 (c11.map (cdL 1 cdI).enc)), (36, .v (.int .i64 x1)), (37, .v (.int .i64 c9)), (40, .v (.int .i64 x1)), (41, .v (.int .i64 c12))], [some ⟨3, 76, [.ag [.v (.int .i64 j6.1), .v (.int .i64 j6.2.1), .sl 1 (j6.2.2.1.map cdI.enc)]], false⟩, mk 1 36 (c8.map (cdL 1 (cdL 1 cdI)).enc), mk 1 29 (c11.map (cdL 1 cdI).enc)]⟩ (fun e s => e = (.exit 2) ∧ Wk e_evening_Net s ⟨Fr 74 [(0, .v (.int .i64 x0)), (1, .v (.int .i64 x1)), (6, .pt 0 0 0), (8, hd 1 (c8.map (cdL 1 (cdL 1 cdI)).enc)), (10, hd 2 (r.map (cdL 1 cdI).enc)), (36, .v (.int .i64 x1)), (37, .v (.int .i64 c9))], [some ⟨3, 76, [.ag [.v (.int .i64 j6.1), .v (.int .i64 j6.2.1), .sl 1 (j6.2.2.1.map cdI.enc)]], false⟩, mk 1 36 (c8.map (cdL 1 (cdL 1 cdI)).enc), mk 1 29 (r.map (cdL 1 cdI).enc)]⟩) := by
  intro f
  induction f with
  | zero => intro c11 c12 r h; cases h
  | succ f ih0 =>
    intro c11 c12 r h
    have ih := fun (c11 : (List (List Int))) (c12 : Int) => ih0 c11 c12 r
    unfold evening_Net_2 at h
    refine SemN.succ ?_
    refine Sem.seq ?_
    refine Sem.runS (s1 := ⟨Fr 74 [(0, .v (.int .i64 x0)), (1, .v (.int .i64 x1)), (6, .pt 0 0 0), (8, hd 1 (c8.map (cdL 1 (cdL 1 cdI)).enc)), (9, .v (.int .i64 c9)), (10, hd 2 (c11.map (cdL 1 cdI).enc)), (36, .v (.int .i64 x1)), (37, .v (.int .i64 c9)), (40, .v (.int .i64 x1)), (41, .v (.int .i64 c12)), (42, .v (.bool (decide (c12 < x1))))], [some ⟨3, 76, [.ag [.v (.int .i64 j6.1), .v (.int .i64 j6.2.1), .sl 1 (j6.2.2.1.map cdI.enc)]], false⟩, mk 1 36 (c8.map (cdL 1 (cdL 1 cdI)).enc), mk 1 29 (c11.map (cdL 1 cdI).enc)]⟩) ?_ ?_
    · refine RunS.segF (n := 74) e_evening_Net_ok 1 [(0, .v (.int .i64 x0)), (1, .v (.int .i64 x1)), (6, .pt 0 0 0), (8, hd 1 (c8.map (cdL 1 (cdL 1 cdI)).enc)), (9, .v (.int .i64 c9)), (10, hd 2 (c11.map (cdL 1 cdI).enc)), (36, .v (.int .i64 x1)), (37, .v (.int .i64 c9)), (40, .v (.int .i64 x1)), (41, .v (.int .i64 c12)), (42, .v (.bool (decide (c12 < x1))))] [some ⟨3, 76, [.ag [.v (.int .i64 j6.1), .v (.int .i64 j6.2.1), .sl 1 (j6.2.2.1.map cdI.enc)]], false⟩, mk 1 36 (c8.map (cdL 1 (cdL 1 cdI)).enc), mk 1 29 (c11.map (cdL 1 cdI).enc)] (by kernel_rfl) ?_
      exact RunS.done rfl (Wk.sel2 [0, 1, 2] (by kernel_rfl) (by kernel_rfl) (by kernel_rfl) ⟨⟨_, rfl, bu_c (by kernel_rfl) (by kernel_rfl)⟩, ⟨_, rfl, bu_mk⟩, ⟨_, rfl, bu_mk⟩, trivial⟩ ⟨lu (by kernel_rfl) (by kernel_rfl), lu (by kernel_rfl) (by kernel_rfl), lu (by kernel_rfl) (by kernel_rfl), lu_hd (b' := 1) (by kernel_rfl) (by kernel_rfl), lu (by kernel_rfl) (by kernel_rfl), lu_hd (b' := 2) (by kernel_rfl) (by kernel_rfl), lu (by kernel_rfl) (by kernel_rfl), lu (by kernel_rfl) (by kernel_rfl), lu (by kernel_rfl) (by kernel_rfl), lu (by kernel_rfl) (by kernel_rfl), lu (by kernel_rfl) (by kernel_rfl), trivial⟩)
    refine Sem.seq ?_
    refine Sem.cond (b := (decide (c12 < x1))) (by kernel_rfl) (fun hb13 => ?_) (fun hb13 => ?_)
    · rw [if_pos hb13] at h
      refine Sem.skip ?_
      refine Sem.seq ?_
      refine Sem.block ?_
      refine Sem.seq ?_
      refine Sem.runS (s1 := ⟨Fr 74 [(0, .v (.int .i64 x0)), (1, .v (.int .i64 x1)), (6, .pt 0 0 0), (8, hd 1 (c8.map (cdL 1 (cdL 1 cdI)).enc)), (9, .v (.int .i64 c9)), (10, hd 2 (c11.map (cdL 1 cdI).enc)), (11, .v (.int .i64 c12)), (36, .v (.int .i64 x1)), (37, .v (.int .i64 c9)), (40, .v (.int .i64 x1)), (41, .v (.int .i64 c12))], [some ⟨3, 76, [.ag [.v (.int .i64 j6.1), .v (.int .i64 j6.2.1), .sl 1 (j6.2.2.1.map cdI.enc)]], false⟩, mk 1 36 (c8.map (cdL 1 (cdL 1 cdI)).enc), mk 1 29 (c11.map (cdL 1 cdI).enc)]⟩) ?_ ?_
      · refine RunS.segF (n := 74) e_evening_Net_ok 2 [(0, .v (.int .i64 x0)), (1, .v (.int .i64 x1)), (6, .pt 0 0 0), (8, hd 1 (c8.map (cdL 1 (cdL 1 cdI)).enc)), (9, .v (.int .i64 c9)), (10, hd 2 (c11.map (cdL 1 cdI).enc)), (11, .v (.int .i64 c12)), (36, .v (.int .i64 x1)), (37, .v (.int .i64 c9)), (40, .v (.int .i64 x1)), (41, .v (.int .i64 c12))] [some ⟨3, 76, [.ag [.v (.int .i64 j6.1), .v (.int .i64 j6.2.1), .sl 1 (j6.2.2.1.map cdI.enc)]], false⟩, mk 1 36 (c8.map (cdL 1 (cdL 1 cdI)).enc), mk 1 29 (c11.map (cdL 1 cdI).enc)] (by kernel_rfl) ?_
        exact RunS.done rfl (Wk.sel2 [0, 1, 2] (by kernel_rfl) (by kernel_rfl) (by kernel_rfl) ⟨⟨_, rfl, bu_c (by kernel_rfl) (by kernel_rfl)⟩, ⟨_, rfl, bu_mk⟩, ⟨_, rfl, bu_mk⟩, trivial⟩ ⟨lu (by kernel_rfl) (by kernel_rfl), lu (by kernel_rfl) (by kernel_rfl), lu (by kernel_rfl) (by kernel_rfl), lu_hd (b' := 1) (by kernel_rfl) (by kernel_rfl), lu (by kernel_rfl) (by kernel_rfl), lu_hd (b' := 2) (by kernel_rfl) (by kernel_rfl), lu (by kernel_rfl) (by kernel_rfl), lu (by kernel_rfl) (by kernel_rfl), lu (by kernel_rfl) (by kernel_rfl), lu (by kernel_rfl) (by kernel_rfl), lu (by kernel_rfl) (by kernel_rfl), trivial⟩)
      refine Sem.seq ?_
      refine Sem.runS (s1 := ⟨Fr 74 [(0, .v (.int .i64 x0)), (1, .v (.int .i64 x1)), (6, .pt 0 0 0), (8, hd 1 (c8.map (cdL 1 (cdL 1 cdI)).enc)), (9, .v (.int .i64 c9)), (10, hd 2 (c11.map (cdL 1 cdI).enc)), (11, .v (.int .i64 c12)), (12, .e0), (36, .v (.int .i64 x1)), (37, .v (.int .i64 c9)), (40, .v (.int .i64 x1)), (41, .v (.int .i64 c12))], [some ⟨3, 76, [.ag [.v (.int .i64 j6.1), .v (.int .i64 j6.2.1), .sl 1 (j6.2.2.1.map cdI.enc)]], false⟩, mk 1 36 (c8.map (cdL 1 (cdL 1 cdI)).enc), mk 1 29 (c11.map (cdL 1 cdI).enc)]⟩) ?_ ?_
      · refine RunS.segF (n := 74) e_evening_Net_ok 1 [(0, .v (.int .i64 x0)), (1, .v (.int .i64 x1)), (6, .pt 0 0 0), (8, hd 1 (c8.map (cdL 1 (cdL 1 cdI)).enc)), (9, .v (.int .i64 c9)), (10, hd 2 (c11.map (cdL 1 cdI).enc)), (11, .v (.int .i64 c12)), (12, .e0), (36, .v (.int .i64 x1)), (37, .v (.int .i64 c9)), (40, .v (.int .i64 x1)), (41, .v (.int .i64 c12))] [some ⟨3, 76, [.ag [.v (.int .i64 j6.1), .v (.int .i64 j6.2.1), .sl 1 (j6.2.2.1.map cdI.enc)]], false⟩, mk 1 36 (c8.map (cdL 1 (cdL 1 cdI)).enc), mk 1 29 (c11.map (cdL 1 cdI).enc)] (by kernel_rfl) ?_
        exact RunS.done rfl (Wk.sel2 [0, 1, 2] (by kernel_rfl) (by kernel_rfl) (by kernel_rfl) ⟨⟨_, rfl, bu_c (by kernel_rfl) (by kernel_rfl)⟩, ⟨_, rfl, bu_mk⟩, ⟨_, rfl, bu_mk⟩, trivial⟩ ⟨lu (by kernel_rfl) (by kernel_rfl), lu (by kernel_rfl) (by kernel_rfl), lu (by kernel_rfl) (by kernel_rfl), lu_hd (b' := 1) (by kernel_rfl) (by kernel_rfl), lu (by kernel_rfl) (by kernel_rfl), lu_hd (b' := 2) (by kernel_rfl) (by kernel_rfl), lu (by kernel_rfl) (by kernel_rfl), lu (by kernel_rfl) (by kernel_rfl), lu (by kernel_rfl) (by kernel_rfl), lu (by kernel_rfl) (by kernel_rfl), lu (by kernel_rfl) (by kernel_rfl), lu (by kernel_rfl) (by kernel_rfl), trivial⟩)
      refine Sem.seq ?_
      refine Sem.seq ?_
      refine Sem.runS (s1 := ⟨Fr 74 [(0, .v (.int .i64 x0)), (1, .v (.int .i64 x1)), (6, .pt 0 0 0), (8, hd 1 (c8.map (cdL 1 (cdL 1 cdI)).enc)), (9, .v (.int .i64 c9)), (10, hd 2 (c11.map (cdL 1 cdI).enc)), (11, .v (.int .i64 c12)), (12, .e0), (36, .v (.int .i64 x1)), (37, .v (.int .i64 c9)), (40, .v (.int .i64 x1)), (41, .v (.int .i64 c12)), (44, .v (.int .i64 x0)), (45, .v (.int .i64 0))], [some ⟨3, 76, [.ag [.v (.int .i64 j6.1), .v (.int .i64 j6.2.1), .sl 1 (j6.2.2.1.map cdI.enc)]], false⟩, mk 1 36 (c8.map (cdL 1 (cdL 1 cdI)).enc), mk 1 29 (c11.map (cdL 1 cdI).enc)]⟩) ?_ ?_
      · refine RunS.segF (n := 74) e_evening_Net_ok 2 [(0, .v (.int .i64 x0)), (1, .v (.int .i64 x1)), (6, .pt 0 0 0), (8, hd 1 (c8.map (cdL 1 (cdL 1 cdI)).enc)), (9, .v (.int .i64 c9)), (10, hd 2 (c11.map (cdL 1 cdI).enc)), (11, .v (.int .i64 c12)), (12, .e0), (36, .v (.int .i64 x1)), (37, .v (.int .i64 c9)), (40, .v (.int .i64 x1)), (41, .v (.int .i64 c12)), (44, .v (.int .i64 x0)), (45, .v (.int .i64 0))] [some ⟨3, 76, [.ag [.v (.int .i64 j6.1), .v (.int .i64 j6.2.1), .sl 1 (j6.2.2.1.map cdI.enc)]], false⟩, mk 1 36 (c8.map (cdL 1 (cdL 1 cdI)).enc), mk 1 29 (c11.map (cdL 1 cdI).enc)] (by kernel_rfl) ?_
        exact RunS.done rfl (Wk.sel2 [0, 1, 2] (by kernel_rfl) (by kernel_rfl) (by kernel_rfl) ⟨⟨_, rfl, bu_c (by kernel_rfl) (by kernel_rfl)⟩, ⟨_, rfl, bu_mk⟩, ⟨_, rfl, bu_mk⟩, trivial⟩ ⟨lu (by kernel_rfl) (by kernel_rfl), lu (by kernel_rfl) (by kernel_rfl), lu (by kernel_rfl) (by kernel_rfl), lu_hd (b' := 1) (by kernel_rfl) (by kernel_rfl), lu (by kernel_rfl) (by kernel_rfl), lu_hd (b' := 2) (by kernel_rfl) (by kernel_rfl), lu (by kernel_rfl) (by kernel_rfl), lu (by kernel_rfl) (by kernel_rfl), lu (by kernel_rfl) (by kernel_rfl), lu (by kernel_rfl) (by kernel_rfl), lu (by kernel_rfl) (by kernel_rfl), lu (by kernel_rfl) (by kernel_rfl), lu (by kernel_rfl) (by kernel_rfl), lu (by kernel_rfl) (by kernel_rfl), trivial⟩)
      refine Sem.block ?_
      obtain ⟨r21, hr21, h⟩ := Option.bind_eq_some_iff.1 h
      refine Sem.loop (n := 100000) ?_
      refine Sem.cutN (SemN.wk (s1 := ⟨Fr 74 [(0, .v (.int .i64 x0)), (1, .v (.int .i64 x1)), (6, .pt 0 0 0), (8, hd 1 (c8.map (cdL 1 (cdL 1 cdI)).enc)), (9, .v (.int .i64 c9)), (10, hd 2 (c11.map (cdL 1 cdI).enc)), (11, .v (.int .i64 c12)), (12, hd 3 ([].map cdI.enc)), (36, .v (.int .i64 x1)), (37, .v (.int .i64 c9)), (40, .v (.int .i64 x1)), (41, .v (.int .i64 c12)), (44, .v (.int .i64 x0)), (45, .v (.int .i64 0))], [some ⟨3, 76, [.ag [.v (.int .i64 j6.1), .v (.int .i64 j6.2.1), .sl 1 (j6.2.2.1.map cdI.enc)]], false⟩, mk 1 36 (c8.map (cdL 1 (cdL 1 cdI)).enc), mk 1 29 (c11.map (cdL 1 cdI).enc), mk 1 3 ([].map cdI.enc)]⟩) (Wk.trans (s1 := ⟨Fr 74 [(0, .v (.int .i64 x0)), (1, .v (.int .i64 x1)), (6, .pt 0 0 0), (8, hd 1 (c8.map (cdL 1 (cdL 1 cdI)).enc)), (9, .v (.int .i64 c9)), (10, hd 2 (c11.map (cdL 1 cdI).enc)), (11, .v (.int .i64 c12)), (12, hd 3 ([].map cdI.enc)), (36, .v (.int .i64 x1)), (37, .v (.int .i64 c9)), (40, .v (.int .i64 x1)), (41, .v (.int .i64 c12)), (44, .v (.int .i64 x0)), (45, .v (.int .i64 0))], [some ⟨3, 76, [.ag [.v (.int .i64 j6.1), .v (.int .i64 j6.2.1), .sl 1 (j6.2.2.1.map cdI.enc)]], false⟩, mk 1 36 (c8.map (cdL 1 (cdL 1 cdI)).enc), mk 1 29 (c11.map (cdL 1 cdI).enc), mk 1 3 ([].map cdI.enc)]⟩) Wk.none (Wk.sel2 [0, 1, 2, 3] (by kernel_rfl) (by kernel_rfl) (by kernel_rfl) ⟨⟨_, rfl, bu_c (by kernel_rfl) (by kernel_rfl)⟩, ⟨_, rfl, bu_mk⟩, ⟨_, rfl, bu_mk⟩, ⟨_, rfl, bu_none⟩, trivial⟩ ⟨lu (by kernel_rfl) (by kernel_rfl), lu (by kernel_rfl) (by kernel_rfl), lu (by kernel_rfl) (by kernel_rfl), lu_hd (b' := 1) (by kernel_rfl) (by kernel_rfl), lu (by kernel_rfl) (by kernel_rfl), lu_hd (b' := 2) (by kernel_rfl) (by kernel_rfl), lu (by kernel_rfl) (by kernel_rfl), lu (by kernel_rfl) (by kernel_rfl), lu (by kernel_rfl) (by kernel_rfl), lu (by kernel_rfl) (by kernel_rfl), lu (by kernel_rfl) (by kernel_rfl), lu (by kernel_rfl) (by kernel_rfl), lu (by kernel_rfl) (by kernel_rfl), lu (by kernel_rfl) (by kernel_rfl), trivial⟩)) (evening_Net_3_ok x0 x1 j6 c8 c9 c11 c12 _ [] 0 _ hr21)) ?_
      by_cases hk22 : (capOk 24 (c11.length + 1)) = true
      case neg => rw [if_neg hk22] at h; cases h
      rw [if_pos hk22] at h
      refine Sem.runS (s1 := ⟨Fr 74 [(0, .v (.int .i64 x0)), (1, .v (.int .i64 x1)), (6, .pt 0 0 0), (8, hd 1 (c8.map (cdL 1 (cdL 1 cdI)).enc)), (9, .v (.int .i64 c9)), (10, hd 2 ((c11 ++ [r21]).map (cdL 1 cdI).enc)), (36, .v (.int .i64 x1)), (37, .v (.int .i64 c9)), (40, .v (.int .i64 x1)), (41, .v (.int .i64 c12))], [some ⟨3, 76, [.ag [.v (.int .i64 j6.1), .v (.int .i64 j6.2.1), .sl 1 (j6.2.2.1.map cdI.enc)]], false⟩, mk 1 36 (c8.map (cdL 1 (cdL 1 cdI)).enc), mk 1 29 ((c11 ++ [r21]).map (cdL 1 cdI).enc)]⟩) ?_ ?_
      · refine RunS.segF (n := 74) e_evening_Net_ok 2 [(0, .v (.int .i64 x0)), (1, .v (.int .i64 x1)), (6, .pt 0 0 0), (8, hd 1 (c8.map (cdL 1 (cdL 1 cdI)).enc)), (9, .v (.int .i64 c9)), (36, .v (.int .i64 x1)), (37, .v (.int .i64 c9)), (40, .v (.int .i64 x1)), (41, .v (.int .i64 c12)), (63, hd 2 (c11.map (cdL 1 cdI).enc)), (64, hd 3 (r21.map cdI.enc))] [some ⟨3, 76, [.ag [.v (.int .i64 j6.1), .v (.int .i64 j6.2.1), .sl 1 (j6.2.2.1.map cdI.enc)]], false⟩, mk 1 36 (c8.map (cdL 1 (cdL 1 cdI)).enc), mk 1 29 (c11.map (cdL 1 cdI).enc), mk 1 3 (r21.map cdI.enc)] (by kernel_rfl) ?_
        refine RunS.wk (s1 := ⟨Fr 74 [(0, .v (.int .i64 x0)), (1, .v (.int .i64 x1)), (6, .pt 0 0 0), (8, hd 1 (c8.map (cdL 1 (cdL 1 cdI)).enc)), (9, .v (.int .i64 c9)), (36, .v (.int .i64 x1)), (37, .v (.int .i64 c9)), (40, .v (.int .i64 x1)), (41, .v (.int .i64 c12)), (63, hd 2 (c11.map (cdL 1 cdI).enc)), (64, .sl 1 (r21.map cdI.enc))], [some ⟨3, 76, [.ag [.v (.int .i64 j6.1), .v (.int .i64 j6.2.1), .sl 1 (j6.2.2.1.map cdI.enc)]], false⟩, mk 1 36 (c8.map (cdL 1 (cdL 1 cdI)).enc), mk 1 29 (c11.map (cdL 1 cdI).enc), none]⟩) (Wk.frzG 3 (.inl (by kernel_rfl)) ⟨.inr (.inr ⟨_, _, _, _, rfl, rfl, ⟨.inl rfl, trivial⟩⟩), .inr (.inl rfl), .inr (.inl rfl), .inl rfl, trivial⟩ ⟨⟨.v (.int .i64 x0), (by kernel_rfl), .inl rfl⟩, ⟨.v (.int .i64 x1), (by kernel_rfl), .inl rfl⟩, ⟨.pt 0 0 0, (by kernel_rfl), .inl rfl⟩, ⟨hd 1 (c8.map (cdL 1 (cdL 1 cdI)).enc), (by kernel_rfl), .inl rfl⟩, ⟨.v (.int .i64 c9), (by kernel_rfl), .inl rfl⟩, ⟨.v (.int .i64 x1), (by kernel_rfl), .inl rfl⟩, ⟨.v (.int .i64 c9), (by kernel_rfl), .inl rfl⟩, ⟨.v (.int .i64 x1), (by kernel_rfl), .inl rfl⟩, ⟨.v (.int .i64 c12), (by kernel_rfl), .inl rfl⟩, ⟨hd 2 (c11.map (cdL 1 cdI).enc), (by kernel_rfl), .inl rfl⟩, ⟨hd 3 (r21.map cdI.enc), (by kernel_rfl), fz_hd (t := 3) (by kernel_rfl) enc_ok⟩, trivial⟩) ?_
        refine RunS.segF (n := 74) e_evening_Net_ok 1 [(0, .v (.int .i64 x0)), (1, .v (.int .i64 x1)), (6, .pt 0 0 0), (8, hd 1 (c8.map (cdL 1 (cdL 1 cdI)).enc)), (9, .v (.int .i64 c9)), (36, .v (.int .i64 x1)), (37, .v (.int .i64 c9)), (40, .v (.int .i64 x1)), (41, .v (.int .i64 c12)), (63, hd 2 (c11.map (cdL 1 cdI).enc)), (65, hd 4 ([r21].map (cdL 1 cdI).enc))] [some ⟨3, 76, [.ag [.v (.int .i64 j6.1), .v (.int .i64 j6.2.1), .sl 1 (j6.2.2.1.map cdI.enc)]], false⟩, mk 1 36 (c8.map (cdL 1 (cdL 1 cdI)).enc), mk 1 29 (c11.map (cdL 1 cdI).enc), none, mk 1 29 ([r21].map (cdL 1 cdI).enc)] (by kernel_rfl) ?_
        refine RunS.one e_evening_Net_ok 0 rfl (op_w (wantedA_none rfl) rfl (by kernel_rfl) (by kernel_rfl) (w_append (a := hd 2 (c11.map (cdL 1 cdI).enc)) (b := hd 4 ([r21].map (cdL 1 cdI).enc)) (by kernel_rfl) (by kernel_rfl) (append_B (c := (cdL 1 cdI)) (xs := c11) (vs := [r21]) (k := 1) (bytes := 24) (el := 29) (by kernel_rfl) (by kernel_rfl) (elems_hd (t := 29) (by kernel_rfl)) (List.cons_ne_nil _ _) (by kernel_rfl) hk22))) ?_
        refine RunS.segF (n := 74) e_evening_Net_ok 1 [(0, .v (.int .i64 x0)), (1, .v (.int .i64 x1)), (6, .pt 0 0 0), (8, hd 1 (c8.map (cdL 1 (cdL 1 cdI)).enc)), (9, .v (.int .i64 c9)), (10, hd 5 ((c11 ++ [r21]).map (cdL 1 cdI).enc)), (36, .v (.int .i64 x1)), (37, .v (.int .i64 c9)), (40, .v (.int .i64 x1)), (41, .v (.int .i64 c12))] [some ⟨3, 76, [.ag [.v (.int .i64 j6.1), .v (.int .i64 j6.2.1), .sl 1 (j6.2.2.1.map cdI.enc)]], false⟩, mk 1 36 (c8.map (cdL 1 (cdL 1 cdI)).enc), none, none, mk 1 29 ([r21].map (cdL 1 cdI).enc), mk 1 29 ((c11 ++ [r21]).map (cdL 1 cdI).enc)] (by kernel_rfl) ?_
        exact RunS.done rfl (Wk.sel2 [0, 1, 5] (by kernel_rfl) (by kernel_rfl) (by kernel_rfl) ⟨⟨_, rfl, bu_c (by kernel_rfl) (by kernel_rfl)⟩, ⟨_, rfl, bu_mk⟩, ⟨_, rfl, bu_mk⟩, trivial⟩ ⟨lu (by kernel_rfl) (by kernel_rfl), lu (by kernel_rfl) (by kernel_rfl), lu (by kernel_rfl) (by kernel_rfl), lu_hd (b' := 1) (by kernel_rfl) (by kernel_rfl), lu (by kernel_rfl) (by kernel_rfl), lu_hd (b' := 5) (by kernel_rfl) (by kernel_rfl), lu (by kernel_rfl) (by kernel_rfl), lu (by kernel_rfl) (by kernel_rfl), lu (by kernel_rfl) (by kernel_rfl), lu (by kernel_rfl) (by kernel_rfl), trivial⟩)
      refine Sem.runS (s1 := ⟨Fr 74 [(0, .v (.int .i64 x0)), (1, .v (.int .i64 x1)), (6, .pt 0 0 0), (8, hd 1 (c8.map (cdL 1 (cdL 1 cdI)).enc)), (9, .v (.int .i64 c9)), (10, hd 2 ((c11 ++ [r21]).map (cdL 1 cdI).enc)), (36, .v (.int .i64 x1)), (37, .v (.int .i64 c9)), (40, .v (.int .i64 x1)), (41, .v (.int .i64 (wr .i64 (c12 + 1))))], [some ⟨3, 76, [.ag [.v (.int .i64 j6.1), .v (.int .i64 j6.2.1), .sl 1 (j6.2.2.1.map cdI.enc)]], false⟩, mk 1 36 (c8.map (cdL 1 (cdL 1 cdI)).enc), mk 1 29 ((c11 ++ [r21]).map (cdL 1 cdI).enc)]⟩) ?_ ?_
      · refine RunS.segF (n := 74) e_evening_Net_ok 2 [(0, .v (.int .i64 x0)), (1, .v (.int .i64 x1)), (6, .pt 0 0 0), (8, hd 1 (c8.map (cdL 1 (cdL 1 cdI)).enc)), (9, .v (.int .i64 c9)), (10, hd 2 ((c11 ++ [r21]).map (cdL 1 cdI).enc)), (36, .v (.int .i64 x1)), (37, .v (.int .i64 c9)), (40, .v (.int .i64 x1)), (41, .v (.int .i64 (wr .i64 (c12 + 1))))] [some ⟨3, 76, [.ag [.v (.int .i64 j6.1), .v (.int .i64 j6.2.1), .sl 1 (j6.2.2.1.map cdI.enc)]], false⟩, mk 1 36 (c8.map (cdL 1 (cdL 1 cdI)).enc), mk 1 29 ((c11 ++ [r21]).map (cdL 1 cdI).enc)] (by kernel_rfl) ?_
        exact RunS.done rfl (Wk.sel2 [0, 1, 2] (by kernel_rfl) (by kernel_rfl) (by kernel_rfl) ⟨⟨_, rfl, bu_c (by kernel_rfl) (by kernel_rfl)⟩, ⟨_, rfl, bu_mk⟩, ⟨_, rfl, bu_mk⟩, trivial⟩ ⟨lu (by kernel_rfl) (by kernel_rfl), lu (by kernel_rfl) (by kernel_rfl), lu (by kernel_rfl) (by kernel_rfl), lu_hd (b' := 1) (by kernel_rfl) (by kernel_rfl), lu (by kernel_rfl) (by kernel_rfl), lu_hd (b' := 2) (by kernel_rfl) (by kernel_rfl), lu (by kernel_rfl) (by kernel_rfl), lu (by kernel_rfl) (by kernel_rfl), lu (by kernel_rfl) (by kernel_rfl), lu (by kernel_rfl) (by kernel_rfl), trivial⟩)
      exact SemN.wk (s1 := ⟨Fr 74 [(0, .v (.int .i64 x0)), (1, .v (.int .i64 x1)), (6, .pt 0 0 0), (8, hd 1 (c8.map (cdL 1 (cdL 1 cdI)).enc)), (9, .v (.int .i64 c9)), (10, hd 2 ((c11 ++ [r21]).map (cdL 1 cdI).enc)), (36, .v (.int .i64 x1)), (37, .v (.int .i64 c9)), (40, .v (.int .i64 x1)), (41, .v (.int .i64 (wr .i64 (c12 + 1))))], [some ⟨3, 76, [.ag [.v (.int .i64 j6.1), .v (.int .i64 j6.2.1), .sl 1 (j6.2.2.1.map cdI.enc)]], false⟩, mk 1 36 (c8.map (cdL 1 (cdL 1 cdI)).enc), mk 1 29 ((c11 ++ [r21]).map (cdL 1 cdI).enc)]⟩) (Wk.sel2 [0, 1, 2] (by kernel_rfl) (by kernel_rfl) (by kernel_rfl) ⟨⟨_, rfl, bu_c (by kernel_rfl) (by kernel_rfl)⟩, ⟨_, rfl, bu_mk⟩, ⟨_, rfl, bu_mk⟩, trivial⟩ ⟨lu (by kernel_rfl) (by kernel_rfl), lu (by kernel_rfl) (by kernel_rfl), lu (by kernel_rfl) (by kernel_rfl), lu_hd (b' := 1) (by kernel_rfl) (by kernel_rfl), lu (by kernel_rfl) (by kernel_rfl), lu_hd (b' := 2) (by kernel_rfl) (by kernel_rfl), lu (by kernel_rfl) (by kernel_rfl), lu (by kernel_rfl) (by kernel_rfl), lu (by kernel_rfl) (by kernel_rfl), lu (by kernel_rfl) (by kernel_rfl), trivial⟩) (ih (c11 ++ [r21]) (wr .i64 (c12 + 1)) h)
    · rw [if_f hb13] at h
      refine Sem.exit ?_
      have hq := Option.some.inj h; subst hq
      exact ⟨rfl, (Wk.sel2 [0, 1, 2] (by kernel_rfl) (by kernel_rfl) (by kernel_rfl) ⟨⟨_, rfl, bu_c (by kernel_rfl) (by kernel_rfl)⟩, ⟨_, rfl, bu_mk⟩, ⟨_, rfl, bu_mk⟩, trivial⟩ ⟨lu (by kernel_rfl) (by kernel_rfl), lu (by kernel_rfl) (by kernel_rfl), lu (by kernel_rfl) (by kernel_rfl), lu_hd (b' := 1) (by kernel_rfl) (by kernel_rfl), lu_hd (b' := 2) (by kernel_rfl) (by kernel_rfl), lu (by kernel_rfl) (by kernel_rfl), lu (by kernel_rfl) (by kernel_rfl), trivial⟩)⟩
set_option maxHeartbeats 4000000 in
set_option maxRecDepth 100000 in
theorem evening_Net_1_ok (x0 : Int) (x1 : Int) (j6 : Int × Int × (List Int) × Bool) : ∀ (f : Nat) (c8 : (List (List (List Int)))) (c9 : Int) (r : ((List (List (List Int))))), evening_Net_1 x0 x1 j6 f c8 c9 = some r → SemN e_evening_Net ⟨none, false⟩ (pc cb_evening_Net [1, 1, 1, 1, 0, 1, 0, 0]) f ⟨Fr 74 [(0, .v (.int .i64 x0)), (1, .v (.int .i64 x1)), (6, .pt 0 0 0), (8, hd 1 (c8.map (cdL 1 (cdL 1 cdI)).enc)), (36, .v (.int .i64 x1)), (37, .v (.int .i64 c9))], [some ⟨3, 76, [.ag [.v (.int .i64 j6.1), .v (.int .i64 j6.2.1), .sl 1 (j6.2.2.1.map cdI.enc)]], false⟩, mk 1 36 (c8.map (cdL 1 (cdL 1 cdI)).enc)]⟩ (fun e s => e = (.exit 0) ∧ Wk e_evening_Net s ⟨Fr 74 [(8, hd 0 (r.map (cdL 1 (cdL 1 cdI)).enc))], [mk 1 36 (r.map (cdL 1 (cdL 1 cdI)).enc)]⟩) := by
  intro f
  induction f with
  | zero => intro c8 c9 r h; cases h
  | succ f ih0 =>
    intro c8 c9 r h
    have ih := fun (c8 : (List (List (List Int)))) (c9 : Int) => ih0 c8 c9 r
    unfold evening_Net_1 at h
    refine SemN.succ ?_
    refine Sem.seq ?_
    refine Sem.runS (s1 := ⟨Fr 74 [(0, .v (.int .i64 x0)), (1, .v (.int .i64 x1)), (6, .pt 0 0 0), (8, hd 1 (c8.map (cdL 1 (cdL 1 cdI)).enc)), (36, .v (.int .i64 x1)), (37, .v (.int .i64 c9)), (38, .v (.bool (decide (c9 < x1))))], [some ⟨3, 76, [.ag [.v (.int .i64 j6.1), .v (.int .i64 j6.2.1), .sl 1 (j6.2.2.1.map cdI.enc)]], false⟩, mk 1 36 (c8.map (cdL 1 (cdL 1 cdI)).enc)]⟩) ?_ ?_
    · refine RunS.segF (n := 74) e_evening_Net_ok 1 [(0, .v (.int .i64 x0)), (1, .v (.int .i64 x1)), (6, .pt 0 0 0), (8, hd 1 (c8.map (cdL 1 (cdL 1 cdI)).enc)), (36, .v (.int .i64 x1)), (37, .v (.int .i64 c9)), (38, .v (.bool (decide (c9 < x1))))] [some ⟨3, 76, [.ag [.v (.int .i64 j6.1), .v (.int .i64 j6.2.1), .sl 1 (j6.2.2.1.map cdI.enc)]], false⟩, mk 1 36 (c8.map (cdL 1 (cdL 1 cdI)).enc)] (by kernel_rfl) ?_
      exact RunS.done rfl (Wk.sel2 [0, 1] (by kernel_rfl) (by kernel_rfl) (by kernel_rfl) ⟨⟨_, rfl, bu_c (by kernel_rfl) (by kernel_rfl)⟩, ⟨_, rfl, bu_mk⟩, trivial⟩ ⟨lu (by kernel_rfl) (by kernel_rfl), lu (by kernel_rfl) (by kernel_rfl), lu (by kernel_rfl) (by kernel_rfl), lu_hd (b' := 1) (by kernel_rfl) (by kernel_rfl), lu (by kernel_rfl) (by kernel_rfl), lu (by kernel_rfl) (by kernel_rfl), lu (by kernel_rfl) (by kernel_rfl), trivial⟩)
    refine Sem.seq ?_
    refine Sem.cond (b := (decide (c9 < x1))) (by kernel_rfl) (fun hb10 => ?_) (fun hb10 => ?_)
    · rw [if_pos hb10] at h
      refine Sem.skip ?_
      refine Sem.seq ?_
      refine Sem.block ?_
      refine Sem.seq ?_
      refine Sem.runS (s1 := ⟨Fr 74 [(0, .v (.int .i64 x0)), (1, .v (.int .i64 x1)), (6, .pt 0 0 0), (8, hd 1 (c8.map (cdL 1 (cdL 1 cdI)).enc)), (9, .v (.int .i64 c9)), (36, .v (.int .i64 x1)), (37, .v (.int .i64 c9))], [some ⟨3, 76, [.ag [.v (.int .i64 j6.1), .v (.int .i64 j6.2.1), .sl 1 (j6.2.2.1.map cdI.enc)]], false⟩, mk 1 36 (c8.map (cdL 1 (cdL 1 cdI)).enc)]⟩) ?_ ?_
      · refine RunS.segF (n := 74) e_evening_Net_ok 2 [(0, .v (.int .i64 x0)), (1, .v (.int .i64 x1)), (6, .pt 0 0 0), (8, hd 1 (c8.map (cdL 1 (cdL 1 cdI)).enc)), (9, .v (.int .i64 c9)), (36, .v (.int .i64 x1)), (37, .v (.int .i64 c9))] [some ⟨3, 76, [.ag [.v (.int .i64 j6.1), .v (.int .i64 j6.2.1), .sl 1 (j6.2.2.1.map cdI.enc)]], false⟩, mk 1 36 (c8.map (cdL 1 (cdL 1 cdI)).enc)] (by kernel_rfl) ?_
        exact RunS.done rfl (Wk.sel2 [0, 1] (by kernel_rfl) (by kernel_rfl) (by kernel_rfl) ⟨⟨_, rfl, bu_c (by kernel_rfl) (by kernel_rfl)⟩, ⟨_, rfl, bu_mk⟩, trivial⟩ ⟨lu (by kernel_rfl) (by kernel_rfl), lu (by kernel_rfl) (by kernel_rfl), lu (by kernel_rfl) (by kernel_rfl), lu_hd (b' := 1) (by kernel_rfl) (by kernel_rfl), lu (by kernel_rfl) (by kernel_rfl), lu (by kernel_rfl) (by kernel_rfl), lu (by kernel_rfl) (by kernel_rfl), trivial⟩)
      refine Sem.seq ?_
      refine Sem.runS (s1 := ⟨Fr 74 [(0, .v (.int .i64 x0)), (1, .v (.int .i64 x1)), (6, .pt 0 0 0), (8, hd 1 (c8.map (cdL 1 (cdL 1 cdI)).enc)), (9, .v (.int .i64 c9)), (10, .e0), (36, .v (.int .i64 x1)), (37, .v (.int .i64 c9))], [some ⟨3, 76, [.ag [.v (.int .i64 j6.1), .v (.int .i64 j6.2.1), .sl 1 (j6.2.2.1.map cdI.enc)]], false⟩, mk 1 36 (c8.map (cdL 1 (cdL 1 cdI)).enc)]⟩) ?_ ?_
      · refine RunS.segF (n := 74) e_evening_Net_ok 1 [(0, .v (.int .i64 x0)), (1, .v (.int .i64 x1)), (6, .pt 0 0 0), (8, hd 1 (c8.map (cdL 1 (cdL 1 cdI)).enc)), (9, .v (.int .i64 c9)), (10, .e0), (36, .v (.int .i64 x1)), (37, .v (.int .i64 c9))] [some ⟨3, 76, [.ag [.v (.int .i64 j6.1), .v (.int .i64 j6.2.1), .sl 1 (j6.2.2.1.map cdI.enc)]], false⟩, mk 1 36 (c8.map (cdL 1 (cdL 1 cdI)).enc)] (by kernel_rfl) ?_
        exact RunS.done rfl (Wk.sel2 [0, 1] (by kernel_rfl) (by kernel_rfl) (by kernel_rfl) ⟨⟨_, rfl, bu_c (by kernel_rfl) (by kernel_rfl)⟩, ⟨_, rfl, bu_mk⟩, trivial⟩ ⟨lu (by kernel_rfl) (by kernel_rfl), lu (by kernel_rfl) (by kernel_rfl), lu (by kernel_rfl) (by kernel_rfl), lu_hd (b' := 1) (by kernel_rfl) (by kernel_rfl), lu (by kernel_rfl) (by kernel_rfl), lu (by kernel_rfl) (by kernel_rfl), lu (by kernel_rfl) (by kernel_rfl), lu (by kernel_rfl) (by kernel_rfl), trivial⟩)
      refine Sem.seq ?_
      refine Sem.seq ?_
      refine Sem.runS (s1 := ⟨Fr 74 [(0, .v (.int .i64 x0)), (1, .v (.int .i64 x1)), (6, .pt 0 0 0), (8, hd 1 (c8.map (cdL 1 (cdL 1 cdI)).enc)), (9, .v (.int .i64 c9)), (10, .e0), (36, .v (.int .i64 x1)), (37, .v (.int .i64 c9)), (40, .v (.int .i64 x1)), (41, .v (.int .i64 0))], [some ⟨3, 76, [.ag [.v (.int .i64 j6.1), .v (.int .i64 j6.2.1), .sl 1 (j6.2.2.1.map cdI.enc)]], false⟩, mk 1 36 (c8.map (cdL 1 (cdL 1 cdI)).enc)]⟩) ?_ ?_
      · refine RunS.segF (n := 74) e_evening_Net_ok 2 [(0, .v (.int .i64 x0)), (1, .v (.int .i64 x1)), (6, .pt 0 0 0), (8, hd 1 (c8.map (cdL 1 (cdL 1 cdI)).enc)), (9, .v (.int .i64 c9)), (10, .e0), (36, .v (.int .i64 x1)), (37, .v (.int .i64 c9)), (40, .v (.int .i64 x1)), (41, .v (.int .i64 0))] [some ⟨3, 76, [.ag [.v (.int .i64 j6.1), .v (.int .i64 j6.2.1), .sl 1 (j6.2.2.1.map cdI.enc)]], false⟩, mk 1 36 (c8.map (cdL 1 (cdL 1 cdI)).enc)] (by kernel_rfl) ?_
        exact RunS.done rfl (Wk.sel2 [0, 1] (by kernel_rfl) (by kernel_rfl) (by kernel_rfl) ⟨⟨_, rfl, bu_c (by kernel_rfl) (by kernel_rfl)⟩, ⟨_, rfl, bu_mk⟩, trivial⟩ ⟨lu (by kernel_rfl) (by kernel_rfl), lu (by kernel_rfl) (by kernel_rfl), lu (by kernel_rfl) (by kernel_rfl), lu_hd (b' := 1) (by kernel_rfl) (by kernel_rfl), lu (by kernel_rfl) (by kernel_rfl), lu (by kernel_rfl) (by kernel_rfl), lu (by kernel_rfl) (by kernel_rfl), lu (by kernel_rfl) (by kernel_rfl), lu (by kernel_rfl) (by kernel_rfl), lu (by kernel_rfl) (by kernel_rfl), trivial⟩)
      refine Sem.block ?_
      obtain ⟨r24, hr24, h⟩ := Option.bind_eq_some_iff.1 h
      refine Sem.loop (n := 100000) ?_
      refine Sem.cutN (SemN.wk (s1 := ⟨Fr 74 [(0, .v (.int .i64 x0)), (1, .v (.int .i64 x1)), (6, .pt 0 0 0), (8, hd 1 (c8.map (cdL 1 (cdL 1 cdI)).enc)), (9, .v (.int .i64 c9)), (10, hd 2 ([].map (cdL 1 cdI).enc)), (36, .v (.int .i64 x1)), (37, .v (.int .i64 c9)), (40, .v (.int .i64 x1)), (41, .v (.int .i64 0))], [some ⟨3, 76, [.ag [.v (.int .i64 j6.1), .v (.int .i64 j6.2.1), .sl 1 (j6.2.2.1.map cdI.enc)]], false⟩, mk 1 36 (c8.map (cdL 1 (cdL 1 cdI)).enc), mk 1 29 ([].map (cdL 1 cdI).enc)]⟩) (Wk.trans (s1 := ⟨Fr 74 [(0, .v (.int .i64 x0)), (1, .v (.int .i64 x1)), (6, .pt 0 0 0), (8, hd 1 (c8.map (cdL 1 (cdL 1 cdI)).enc)), (9, .v (.int .i64 c9)), (10, hd 2 ([].map (cdL 1 cdI).enc)), (36, .v (.int .i64 x1)), (37, .v (.int .i64 c9)), (40, .v (.int .i64 x1)), (41, .v (.int .i64 0))], [some ⟨3, 76, [.ag [.v (.int .i64 j6.1), .v (.int .i64 j6.2.1), .sl 1 (j6.2.2.1.map cdI.enc)]], false⟩, mk 1 36 (c8.map (cdL 1 (cdL 1 cdI)).enc), mk 1 29 ([].map (cdL 1 cdI).enc)]⟩) Wk.none (Wk.sel2 [0, 1, 2] (by kernel_rfl) (by kernel_rfl) (by kernel_rfl) ⟨⟨_, rfl, bu_c (by kernel_rfl) (by kernel_rfl)⟩, ⟨_, rfl, bu_mk⟩, ⟨_, rfl, bu_none⟩, trivial⟩ ⟨lu (by kernel_rfl) (by kernel_rfl), lu (by kernel_rfl) (by kernel_rfl), lu (by kernel_rfl) (by kernel_rfl), lu_hd (b' := 1) (by kernel_rfl) (by kernel_rfl), lu (by kernel_rfl) (by kernel_rfl), lu (by kernel_rfl) (by kernel_rfl), lu (by kernel_rfl) (by kernel_rfl), lu (by kernel_rfl) (by kernel_rfl), lu (by kernel_rfl) (by kernel_rfl), lu (by kernel_rfl) (by kernel_rfl), trivial⟩)) (evening_Net_2_ok x0 x1 j6 c8 c9 _ [] 0 _ hr24)) ?_
      by_cases hk25 : (capOk 24 (c8.length + 1)) = true
      case neg => rw [if_neg hk25] at h; cases h
      rw [if_pos hk25] at h
      refine Sem.runS (s1 := ⟨Fr 74 [(0, .v (.int .i64 x0)), (1, .v (.int .i64 x1)), (6, .pt 0 0 0), (8, hd 1 ((c8 ++ [r24]).map (cdL 1 (cdL 1 cdI)).enc)), (36, .v (.int .i64 x1)), (37, .v (.int .i64 c9))], [some ⟨3, 76, [.ag [.v (.int .i64 j6.1), .v (.int .i64 j6.2.1), .sl 1 (j6.2.2.1.map cdI.enc)]], false⟩, mk 1 36 ((c8 ++ [r24]).map (cdL 1 (cdL 1 cdI)).enc)]⟩) ?_ ?_
      · refine RunS.segF (n := 74) e_evening_Net_ok 2 [(0, .v (.int .i64 x0)), (1, .v (.int .i64 x1)), (6, .pt 0 0 0), (36, .v (.int .i64 x1)), (37, .v (.int .i64 c9)), (68, hd 1 (c8.map (cdL 1 (cdL 1 cdI)).enc)), (69, hd 2 (r24.map (cdL 1 cdI).enc))] [some ⟨3, 76, [.ag [.v (.int .i64 j6.1), .v (.int .i64 j6.2.1), .sl 1 (j6.2.2.1.map cdI.enc)]], false⟩, mk 1 36 (c8.map (cdL 1 (cdL 1 cdI)).enc), mk 1 29 (r24.map (cdL 1 cdI).enc)] (by kernel_rfl) ?_
        refine RunS.wk (s1 := ⟨Fr 74 [(0, .v (.int .i64 x0)), (1, .v (.int .i64 x1)), (6, .pt 0 0 0), (36, .v (.int .i64 x1)), (37, .v (.int .i64 c9)), (68, hd 1 (c8.map (cdL 1 (cdL 1 cdI)).enc)), (69, .sl 1 (r24.map (cdL 1 cdI).enc))], [some ⟨3, 76, [.ag [.v (.int .i64 j6.1), .v (.int .i64 j6.2.1), .sl 1 (j6.2.2.1.map cdI.enc)]], false⟩, mk 1 36 (c8.map (cdL 1 (cdL 1 cdI)).enc), none]⟩) (Wk.frzG 2 (.inl (by kernel_rfl)) ⟨.inr (.inr ⟨_, _, _, _, rfl, rfl, ⟨.inl rfl, trivial⟩⟩), .inr (.inl rfl), .inl rfl, trivial⟩ ⟨⟨.v (.int .i64 x0), (by kernel_rfl), .inl rfl⟩, ⟨.v (.int .i64 x1), (by kernel_rfl), .inl rfl⟩, ⟨.pt 0 0 0, (by kernel_rfl), .inl rfl⟩, ⟨.v (.int .i64 x1), (by kernel_rfl), .inl rfl⟩, ⟨.v (.int .i64 c9), (by kernel_rfl), .inl rfl⟩, ⟨hd 1 (c8.map (cdL 1 (cdL 1 cdI)).enc), (by kernel_rfl), .inl rfl⟩, ⟨hd 2 (r24.map (cdL 1 cdI).enc), (by kernel_rfl), fz_hd (t := 29) (by kernel_rfl) enc_ok⟩, trivial⟩) ?_
        refine RunS.segF (n := 74) e_evening_Net_ok 1 [(0, .v (.int .i64 x0)), (1, .v (.int .i64 x1)), (6, .pt 0 0 0), (36, .v (.int .i64 x1)), (37, .v (.int .i64 c9)), (68, hd 1 (c8.map (cdL 1 (cdL 1 cdI)).enc)), (70, hd 3 ([r24].map (cdL 1 (cdL 1 cdI)).enc))] [some ⟨3, 76, [.ag [.v (.int .i64 j6.1), .v (.int .i64 j6.2.1), .sl 1 (j6.2.2.1.map cdI.enc)]], false⟩, mk 1 36 (c8.map (cdL 1 (cdL 1 cdI)).enc), none, mk 1 36 ([r24].map (cdL 1 (cdL 1 cdI)).enc)] (by kernel_rfl) ?_
        refine RunS.one e_evening_Net_ok 0 rfl (op_w (wantedA_none rfl) rfl (by kernel_rfl) (by kernel_rfl) (w_append (a := hd 1 (c8.map (cdL 1 (cdL 1 cdI)).enc)) (b := hd 3 ([r24].map (cdL 1 (cdL 1 cdI)).enc)) (by kernel_rfl) (by kernel_rfl) (append_B (c := (cdL 1 (cdL 1 cdI))) (xs := c8) (vs := [r24]) (k := 1) (bytes := 24) (el := 36) (by kernel_rfl) (by kernel_rfl) (elems_hd (t := 36) (by kernel_rfl)) (List.cons_ne_nil _ _) (by kernel_rfl) hk25))) ?_
        refine RunS.segF (n := 74) e_evening_Net_ok 1 [(0, .v (.int .i64 x0)), (1, .v (.int .i64 x1)), (6, .pt 0 0 0), (8, hd 4 ((c8 ++ [r24]).map (cdL 1 (cdL 1 cdI)).enc)), (36, .v (.int .i64 x1)), (37, .v (.int .i64 c9))] [some ⟨3, 76, [.ag [.v (.int .i64 j6.1), .v (.int .i64 j6.2.1), .sl 1 (j6.2.2.1.map cdI.enc)]], false⟩, none, none, mk 1 36 ([r24].map (cdL 1 (cdL 1 cdI)).enc), mk 1 36 ((c8 ++ [r24]).map (cdL 1 (cdL 1 cdI)).enc)] (by kernel_rfl) ?_
        exact RunS.done rfl (Wk.sel2 [0, 4] (by kernel_rfl) (by kernel_rfl) (by kernel_rfl) ⟨⟨_, rfl, bu_c (by kernel_rfl) (by kernel_rfl)⟩, ⟨_, rfl, bu_mk⟩, trivial⟩ ⟨lu (by kernel_rfl) (by kernel_rfl), lu (by kernel_rfl) (by kernel_rfl), lu (by kernel_rfl) (by kernel_rfl), lu_hd (b' := 4) (by kernel_rfl) (by kernel_rfl), lu (by kernel_rfl) (by kernel_rfl), lu (by kernel_rfl) (by kernel_rfl), trivial⟩)
      refine Sem.runS (s1 := ⟨Fr 74 [(0, .v (.int .i64 x0)), (1, .v (.int .i64 x1)), (6, .pt 0 0 0), (8, hd 1 ((c8 ++ [r24]).map (cdL 1 (cdL 1 cdI)).enc)), (36, .v (.int .i64 x1)), (37, .v (.int .i64 (wr .i64 (c9 + 1))))], [some ⟨3, 76, [.ag [.v (.int .i64 j6.1), .v (.int .i64 j6.2.1), .sl 1 (j6.2.2.1.map cdI.enc)]], false⟩, mk 1 36 ((c8 ++ [r24]).map (cdL 1 (cdL 1 cdI)).enc)]⟩) ?_ ?_
      · refine RunS.segF (n := 74) e_evening_Net_ok 2 [(0, .v (.int .i64 x0)), (1, .v (.int .i64 x1)), (6, .pt 0 0 0), (8, hd 1 ((c8 ++ [r24]).map (cdL 1 (cdL 1 cdI)).enc)), (36, .v (.int .i64 x1)), (37, .v (.int .i64 (wr .i64 (c9 + 1))))] [some ⟨3, 76, [.ag [.v (.int .i64 j6.1), .v (.int .i64 j6.2.1), .sl 1 (j6.2.2.1.map cdI.enc)]], false⟩, mk 1 36 ((c8 ++ [r24]).map (cdL 1 (cdL 1 cdI)).enc)] (by kernel_rfl) ?_
        exact RunS.done rfl (Wk.sel2 [0, 1] (by kernel_rfl) (by kernel_rfl) (by kernel_rfl) ⟨⟨_, rfl, bu_c (by kernel_rfl) (by kernel_rfl)⟩, ⟨_, rfl, bu_mk⟩, trivial⟩ ⟨lu (by kernel_rfl) (by kernel_rfl), lu (by kernel_rfl) (by kernel_rfl), lu (by kernel_rfl) (by kernel_rfl), lu_hd (b' := 1) (by kernel_rfl) (by kernel_rfl), lu (by kernel_rfl) (by kernel_rfl), lu (by kernel_rfl) (by kernel_rfl), trivial⟩)
      exact SemN.wk (s1 := ⟨Fr 74 [(0, .v (.int .i64 x0)), (1, .v (.int .i64 x1)), (6, .pt 0 0 0), (8, hd 1 ((c8 ++ [r24]).map (cdL 1 (cdL 1 cdI)).enc)), (36, .v (.int .i64 x1)), (37, .v (.int .i64 (wr .i64 (c9 + 1))))], [some ⟨3, 76, [.ag [.v (.int .i64 j6.1), .v (.int .i64 j6.2.1), .sl 1 (j6.2.2.1.map cdI.enc)]], false⟩, mk 1 36 ((c8 ++ [r24]).map (cdL 1 (cdL 1 cdI)).enc)]⟩) (Wk.sel2 [0, 1] (by kernel_rfl) (by kernel_rfl) (by kernel_rfl) ⟨⟨_, rfl, bu_c (by kernel_rfl) (by kernel_rfl)⟩, ⟨_, rfl, bu_mk⟩, trivial⟩ ⟨lu (by kernel_rfl) (by kernel_rfl), lu (by kernel_rfl) (by kernel_rfl), lu (by kernel_rfl) (by kernel_rfl), lu_hd (b' := 1) (by kernel_rfl) (by kernel_rfl), lu (by kernel_rfl) (by kernel_rfl), lu (by kernel_rfl) (by kernel_rfl), trivial⟩) (ih (c8 ++ [r24]) (wr .i64 (c9 + 1)) h)
    · rw [if_f hb10] at h
      refine Sem.exit ?_
      have hq := Option.some.inj h; subst hq
      exact ⟨rfl, (Wk.sel2 [1] (by kernel_rfl) (by kernel_rfl) (by kernel_rfl) ⟨⟨_, rfl, bu_mk⟩, trivial⟩ ⟨lu_hd (b' := 1) (by kernel_rfl) (by kernel_rfl), trivial⟩)⟩
set_option maxHeartbeats 4000000 in
set_option maxRecDepth 100000 in
theorem evening_Net_sem (x0 : Int) (x1 : Int) (r : (List (List (List Int))) × Int) (h : evening_Net x0 x1 = some r) : Sem e_evening_Net ⟨none, false⟩ cb_evening_Net ⟨Fr 74 (pairs0 0 (cs_evening_Net.enc (x0, x1, ()))), []⟩ fun e s' => (e = .normal ∨ e = .ret) ∧ ∃ xs, resA e_evening_Net.P s'.fr s'.hp Tryd.f38.results.toList = some xs ∧ retA xs = er_evening_Net r := by
  unfold evening_Net at h
  refine Sem.wkQ (Sem.wk (s1 := ⟨Fr 74 [(0, .v (.int .i64 x0)), (1, .v (.int .i64 x1))], []⟩) (Wk.fr (by kernel_rfl)) ?_)
  refine Sem.seq ?_
  refine Sem.runS (s1 := ⟨Fr 74 [(0, .v (.int .i64 x0)), (1, .v (.int .i64 x1))], []⟩) ?_ ?_
  · refine RunS.segF (n := 74) e_evening_Net_ok 2 [(0, .v (.int .i64 x0)), (1, .v (.int .i64 x1))] [] (by kernel_rfl) ?_
    exact RunS.done rfl (Wk.fr (by kernel_rfl))
  refine Sem.seq ?_
  obtain ⟨v1, hv1, h⟩ := Option.bind_eq_some_iff.1 h
  refine Sem.runS (s1 := ⟨Fr 74 [(0, .v (.int .i64 x0)), (1, .v (.int .i64 x1)), (6, .pt 0 0 0), (7, .v (.bool v1.2))], [some ⟨3, 76, [.ag [.v (.int .i64 v1.1.1), .v (.int .i64 v1.1.2.1), .sl 1 (v1.1.2.2.map cdI.enc)]], false⟩]⟩) ?_ ?_
  · refine RunS.segF (n := 74) e_evening_Net_ok 1 [(0, .v (.int .i64 x0)), (1, .v (.int .i64 x1)), (15, .v (.int .i64 x1))] [] (by kernel_rfl) ?_
    refine RunS.call e_evening_Net_ok (fid := 57) (s := cs_evening_fieldOf) (F := fun a => evening_fieldOf a.1) (er := er_evening_fieldOf) (xs := [.v (.int .i64 x1)]) (a := (x1, ())) rfl (wantedA_none rfl) (by kernel_rfl) (by kernel_rfl) (by kernel_rfl) (by kernel_rfl) (Sns.cons (Sn.enc (c := cdI) (v := x1)) Sns.nil) (.inl (by kernel_rfl)) hv1 ?_
    refine RunS.segF (n := 74) e_evening_Net_ok 6 [(0, .v (.int .i64 x0)), (1, .v (.int .i64 x1)), (6, .pt 0 0 0), (7, .v (.bool v1.2))] [some ⟨3, 76, [.ag [.v (.int .i64 v1.1.1), .v (.int .i64 v1.1.2.1), .sl 1 (v1.1.2.2.map cdI.enc)]], false⟩] (by kernel_rfl) ?_
    exact RunS.done rfl (Wk.sel2 [0] (by kernel_rfl) (by kernel_rfl) (by kernel_rfl) ⟨⟨_, rfl, bu_c (by kernel_rfl) (by kernel_rfl)⟩, trivial⟩ ⟨lu (by kernel_rfl) (by kernel_rfl), lu (by kernel_rfl) (by kernel_rfl), lu (by kernel_rfl) (by kernel_rfl), lu (by kernel_rfl) (by kernel_rfl), trivial⟩)
  refine Sem.seq ?_
  refine Sem.seq ?_
  obtain ⟨j6, hj6, h⟩ := Option.bind_eq_some_iff.1 h
  refine Sem.runS (s1 := ⟨Fr 74 [(0, .v (.int .i64 x0)), (1, .v (.int .i64 x1)), (6, .pt 0 0 0), (35, .v (.bool j6.2.2.2))], [some ⟨3, 76, [.ag [.v (.int .i64 j6.1), .v (.int .i64 j6.2.1), .sl 1 (j6.2.2.1.map cdI.enc)]], false⟩]⟩) ?_ ?_
  · refine RunS.segF (n := 74) e_evening_Net_ok 3 [(0, .v (.int .i64 x0)), (1, .v (.int .i64 x1)), (6, .pt 0 0 0), (21, .v (.bool (!v1.2)))] [some ⟨3, 76, [.ag [.v (.int .i64 v1.1.1), .v (.int .i64 v1.1.2.1), .sl 1 (v1.1.2.2.map cdI.enc)]], false⟩] (by kernel_rfl) ?_
    rcases Bool.eq_false_or_eq_true (!v1.2) with hc28 | hc28
    · rw [if_pos hc28] at hj6
      rw [hc28]
      refine RunS.segF (n := 74) e_evening_Net_ok 14 [(0, .v (.int .i64 x0)), (1, .v (.int .i64 x1)), (6, .pt 0 0 0), (35, .v (.bool true))] [some ⟨3, 76, [.ag [.v (.int .i64 v1.1.1), .v (.int .i64 v1.1.2.1), .sl 1 (v1.1.2.2.map cdI.enc)]], false⟩] (by kernel_rfl) ?_
      have hq := Option.some.inj hj6; subst hq
      exact RunS.done rfl (Wk.sel2 [0] (by kernel_rfl) (by kernel_rfl) (by kernel_rfl) ⟨⟨_, rfl, bu_c (by kernel_rfl) (by kernel_rfl)⟩, trivial⟩ ⟨lu (by kernel_rfl) (by kernel_rfl), lu (by kernel_rfl) (by kernel_rfl), lu (by kernel_rfl) (by kernel_rfl), lu (by kernel_rfl) (by kernel_rfl), trivial⟩)
    · rw [if_f hc28] at hj6
      rw [hc28]
      refine RunS.segF (n := 74) e_evening_Net_ok 4 [(0, .v (.int .i64 x0)), (1, .v (.int .i64 x1)), (6, .pt 0 0 0), (25, .v (.bool (decide (x0 < 1))))] [some ⟨3, 76, [.ag [.v (.int .i64 v1.1.1), .v (.int .i64 v1.1.2.1), .sl 1 (v1.1.2.2.map cdI.enc)]], false⟩] (by kernel_rfl) ?_
      rcases Bool.eq_false_or_eq_true (decide (x0 < 1)) with hc29 | hc29
      · rw [if_pos hc29] at hj6
        rw [hc29]
        refine RunS.segF (n := 74) e_evening_Net_ok 10 [(0, .v (.int .i64 x0)), (1, .v (.int .i64 x1)), (6, .pt 0 0 0), (35, .v (.bool true))] [some ⟨3, 76, [.ag [.v (.int .i64 v1.1.1), .v (.int .i64 v1.1.2.1), .sl 1 (v1.1.2.2.map cdI.enc)]], false⟩] (by kernel_rfl) ?_
        have hq := Option.some.inj hj6; subst hq
        exact RunS.done rfl (Wk.sel2 [0] (by kernel_rfl) (by kernel_rfl) (by kernel_rfl) ⟨⟨_, rfl, bu_c (by kernel_rfl) (by kernel_rfl)⟩, trivial⟩ ⟨lu (by kernel_rfl) (by kernel_rfl), lu (by kernel_rfl) (by kernel_rfl), lu (by kernel_rfl) (by kernel_rfl), lu (by kernel_rfl) (by kernel_rfl), trivial⟩)
      · rw [if_f hc29] at hj6
        rw [hc29]
        refine RunS.segF (n := 74) e_evening_Net_ok 5 [(0, .v (.int .i64 x0)), (1, .v (.int .i64 x1)), (6, .pt 0 0 0), (30, .v (.bool (decide (x0 > x1))))] [some ⟨3, 76, [.ag [.v (.int .i64 v1.1.1), .v (.int .i64 v1.1.2.1), .sl 1 (v1.1.2.2.map cdI.enc)]], false⟩] (by kernel_rfl) ?_
        rcases Bool.eq_false_or_eq_true (decide (x0 > x1)) with hc30 | hc30
        · rw [if_pos hc30] at hj6
          rw [hc30]
          refine RunS.segF (n := 74) e_evening_Net_ok 5 [(0, .v (.int .i64 x0)), (1, .v (.int .i64 x1)), (6, .pt 0 0 0), (35, .v (.bool true))] [some ⟨3, 76, [.ag [.v (.int .i64 v1.1.1), .v (.int .i64 v1.1.2.1), .sl 1 (v1.1.2.2.map cdI.enc)]], false⟩] (by kernel_rfl) ?_
          have hq := Option.some.inj hj6; subst hq
          exact RunS.done rfl (Wk.sel2 [0] (by kernel_rfl) (by kernel_rfl) (by kernel_rfl) ⟨⟨_, rfl, bu_c (by kernel_rfl) (by kernel_rfl)⟩, trivial⟩ ⟨lu (by kernel_rfl) (by kernel_rfl), lu (by kernel_rfl) (by kernel_rfl), lu (by kernel_rfl) (by kernel_rfl), lu (by kernel_rfl) (by kernel_rfl), trivial⟩)
        · rw [if_f hc30] at hj6
          rw [hc30]
          refine RunS.segF (n := 74) e_evening_Net_ok 5 [(0, .v (.int .i64 x0)), (1, .v (.int .i64 x1)), (6, .pt 0 0 0), (35, .v (.bool (decide ((wr .i64 (x0 * x1)) > 64))))] [some ⟨3, 76, [.ag [.v (.int .i64 v1.1.1), .v (.int .i64 v1.1.2.1), .sl 1 (v1.1.2.2.map cdI.enc)]], false⟩] (by kernel_rfl) ?_
          have hq := Option.some.inj hj6; subst hq
          exact RunS.done rfl (Wk.sel2 [0] (by kernel_rfl) (by kernel_rfl) (by kernel_rfl) ⟨⟨_, rfl, bu_c (by kernel_rfl) (by kernel_rfl)⟩, trivial⟩ ⟨lu (by kernel_rfl) (by kernel_rfl), lu (by kernel_rfl) (by kernel_rfl), lu (by kernel_rfl) (by kernel_rfl), lu (by kernel_rfl) (by kernel_rfl), trivial⟩)
  refine Sem.cond (b := j6.2.2.2) (by kernel_rfl) (fun hb7 => ?_) (fun hb7 => ?_)
  · rw [if_pos hb7] at h
    refine Sem.seq ?_
    refine Sem.runS (s1 := ⟨Fr 74 [(4, .e0), (5, .v (.int .i64 90))], []⟩) ?_ ?_
    · refine RunS.segF (n := 74) e_evening_Net_ok 2 [(4, .e0), (5, .v (.int .i64 90))] [some ⟨3, 76, [.ag [.v (.int .i64 j6.1), .v (.int .i64 j6.2.1), .sl 1 (j6.2.2.1.map cdI.enc)]], false⟩] (by kernel_rfl) ?_
      exact RunS.done rfl (Wk.sel2 [] (by kernel_rfl) (by kernel_rfl) (by kernel_rfl) trivial ⟨lu (by kernel_rfl) (by kernel_rfl), lu (by kernel_rfl) (by kernel_rfl), trivial⟩)
    refine Sem.ret ?_
    have hq := Option.some.inj h; subst hq
    exact ⟨⟨Fr 74 [(4, .sl 1 ([].map (cdL 1 (cdL 1 cdI)).enc)), (5, .v (.int .i64 90))], []⟩, (Wk.trans (s1 := ⟨Fr 74 [(4, .e0), (5, .v (.int .i64 90))], []⟩) (Wk.fr (by kernel_rfl)) (Wk.trans (s1 := ⟨Fr 74 [(4, .e0), (5, .v (.int .i64 90))], [none]⟩) Wk.none (Wk.trans (s1 := ⟨Fr 74 [(4, .sl 1 ([].map (cdL 1 (cdL 1 cdI)).enc)), (5, .v (.int .i64 90))], [none]⟩) (Wk.frzG 0 (.inr (by kernel_rfl)) ⟨.inl rfl, trivial⟩ ⟨⟨.e0, (by kernel_rfl), fz_e0⟩, ⟨.v (.int .i64 90), (by kernel_rfl), .inl rfl⟩, trivial⟩) (Wk.sel2 [] (by kernel_rfl) (by kernel_rfl) (by kernel_rfl) trivial ⟨lu (by kernel_rfl) (by kernel_rfl), lu (by kernel_rfl) (by kernel_rfl), trivial⟩)))), .inr rfl, [.sl 1 ([].map (cdL 1 (cdL 1 cdI)).enc), .v (.int .i64 90)], (by kernel_rfl), (by kernel_rfl)⟩
  · rw [if_f hb7] at h
    refine Sem.skip ?_
    refine Sem.seq ?_
    refine Sem.runS (s1 := ⟨Fr 74 [(0, .v (.int .i64 x0)), (1, .v (.int .i64 x1)), (6, .pt 0 0 0), (8, .e0)], [some ⟨3, 76, [.ag [.v (.int .i64 j6.1), .v (.int .i64 j6.2.1), .sl 1 (j6.2.2.1.map cdI.enc)]], false⟩]⟩) ?_ ?_
    · refine RunS.segF (n := 74) e_evening_Net_ok 1 [(0, .v (.int .i64 x0)), (1, .v (.int .i64 x1)), (6, .pt 0 0 0), (8, .e0)] [some ⟨3, 76, [.ag [.v (.int .i64 j6.1), .v (.int .i64 j6.2.1), .sl 1 (j6.2.2.1.map cdI.enc)]], false⟩] (by kernel_rfl) ?_
      exact RunS.done rfl (Wk.sel2 [0] (by kernel_rfl) (by kernel_rfl) (by kernel_rfl) ⟨⟨_, rfl, bu_c (by kernel_rfl) (by kernel_rfl)⟩, trivial⟩ ⟨lu (by kernel_rfl) (by kernel_rfl), lu (by kernel_rfl) (by kernel_rfl), lu (by kernel_rfl) (by kernel_rfl), lu (by kernel_rfl) (by kernel_rfl), trivial⟩)
    refine Sem.seq ?_
    refine Sem.seq ?_
    refine Sem.runS (s1 := ⟨Fr 74 [(0, .v (.int .i64 x0)), (1, .v (.int .i64 x1)), (6, .pt 0 0 0), (8, .e0), (36, .v (.int .i64 x1)), (37, .v (.int .i64 0))], [some ⟨3, 76, [.ag [.v (.int .i64 j6.1), .v (.int .i64 j6.2.1), .sl 1 (j6.2.2.1.map cdI.enc)]], false⟩]⟩) ?_ ?_
    · refine RunS.segF (n := 74) e_evening_Net_ok 2 [(0, .v (.int .i64 x0)), (1, .v (.int .i64 x1)), (6, .pt 0 0 0), (8, .e0), (36, .v (.int .i64 x1)), (37, .v (.int .i64 0))] [some ⟨3, 76, [.ag [.v (.int .i64 j6.1), .v (.int .i64 j6.2.1), .sl 1 (j6.2.2.1.map cdI.enc)]], false⟩] (by kernel_rfl) ?_
      exact RunS.done rfl (Wk.sel2 [0] (by kernel_rfl) (by kernel_rfl) (by kernel_rfl) ⟨⟨_, rfl, bu_c (by kernel_rfl) (by kernel_rfl)⟩, trivial⟩ ⟨lu (by kernel_rfl) (by kernel_rfl), lu (by kernel_rfl) (by kernel_rfl), lu (by kernel_rfl) (by kernel_rfl), lu (by kernel_rfl) (by kernel_rfl), lu (by kernel_rfl) (by kernel_rfl), lu (by kernel_rfl) (by kernel_rfl), trivial⟩)
    refine Sem.block ?_
    obtain ⟨r27, hr27, h⟩ := Option.bind_eq_some_iff.1 h
    refine Sem.loop (n := 100000) ?_
    refine Sem.cutN (SemN.wk (s1 := ⟨Fr 74 [(0, .v (.int .i64 x0)), (1, .v (.int .i64 x1)), (6, .pt 0 0 0), (8, hd 1 ([].map (cdL 1 (cdL 1 cdI)).enc)), (36, .v (.int .i64 x1)), (37, .v (.int .i64 0))], [some ⟨3, 76, [.ag [.v (.int .i64 j6.1), .v (.int .i64 j6.2.1), .sl 1 (j6.2.2.1.map cdI.enc)]], false⟩, mk 1 36 ([].map (cdL 1 (cdL 1 cdI)).enc)]⟩) (Wk.trans (s1 := ⟨Fr 74 [(0, .v (.int .i64 x0)), (1, .v (.int .i64 x1)), (6, .pt 0 0 0), (8, hd 1 ([].map (cdL 1 (cdL 1 cdI)).enc)), (36, .v (.int .i64 x1)), (37, .v (.int .i64 0))], [some ⟨3, 76, [.ag [.v (.int .i64 j6.1), .v (.int .i64 j6.2.1), .sl 1 (j6.2.2.1.map cdI.enc)]], false⟩, mk 1 36 ([].map (cdL 1 (cdL 1 cdI)).enc)]⟩) Wk.none (Wk.sel2 [0, 1] (by kernel_rfl) (by kernel_rfl) (by kernel_rfl) ⟨⟨_, rfl, bu_c (by kernel_rfl) (by kernel_rfl)⟩, ⟨_, rfl, bu_none⟩, trivial⟩ ⟨lu (by kernel_rfl) (by kernel_rfl), lu (by kernel_rfl) (by kernel_rfl), lu (by kernel_rfl) (by kernel_rfl), lu (by kernel_rfl) (by kernel_rfl), lu (by kernel_rfl) (by kernel_rfl), lu (by kernel_rfl) (by kernel_rfl), trivial⟩)) (evening_Net_1_ok x0 x1 j6 _ [] 0 _ hr27)) ?_
    refine Sem.seq ?_
    refine Sem.runS (s1 := ⟨Fr 74 [(4, hd 0 (r27.map (cdL 1 (cdL 1 cdI)).enc)), (5, .v (.int .i64 0))], [mk 1 36 (r27.map (cdL 1 (cdL 1 cdI)).enc)]⟩) ?_ ?_
    · refine RunS.segF (n := 74) e_evening_Net_ok 3 [(4, hd 0 (r27.map (cdL 1 (cdL 1 cdI)).enc)), (5, .v (.int .i64 0))] [mk 1 36 (r27.map (cdL 1 (cdL 1 cdI)).enc)] (by kernel_rfl) ?_
      exact RunS.done rfl (Wk.sel2 [0] (by kernel_rfl) (by kernel_rfl) (by kernel_rfl) ⟨⟨_, rfl, bu_mk⟩, trivial⟩ ⟨lu_hd (b' := 0) (by kernel_rfl) (by kernel_rfl), lu (by kernel_rfl) (by kernel_rfl), trivial⟩)
    refine Sem.ret ?_
    have hq := Option.some.inj h; subst hq
    exact ⟨⟨Fr 74 [(4, .sl 1 (r27.map (cdL 1 (cdL 1 cdI)).enc)), (5, .v (.int .i64 0))], []⟩, (Wk.trans (s1 := ⟨Fr 74 [(4, .sl 1 (r27.map (cdL 1 (cdL 1 cdI)).enc)), (5, .v (.int .i64 0))], [none]⟩) (Wk.frzG 0 (.inl (by kernel_rfl)) ⟨.inl rfl, trivial⟩ ⟨⟨hd 0 (r27.map (cdL 1 (cdL 1 cdI)).enc), (by kernel_rfl), fz_hd (t := 36) (by kernel_rfl) enc_ok⟩, ⟨.v (.int .i64 0), (by kernel_rfl), .inl rfl⟩, trivial⟩) (Wk.sel2 [] (by kernel_rfl) (by kernel_rfl) (by kernel_rfl) trivial ⟨lu (by kernel_rfl) (by kernel_rfl), lu (by kernel_rfl) (by kernel_rfl), trivial⟩)), .inr rfl, [.sl 1 (r27.map (cdL 1 (cdL 1 cdI)).enc), .v (.int .i64 0)], (by kernel_rfl), (by kernel_rfl)⟩
def t_evening_Net : List AV → Option AV := told cs_evening_Net (fun a => evening_Net a.1 a.2.1) er_evening_Net
theorem x_evening_Net : XOk 38 t_evening_Net := by
  refine EnvOk.x (E := e_evening_Net) (contract_ok e_evening_Net_ok (fn := Tryd.f38) (c := cb_evening_Net) ?h1 ?h2 ⟨Tryd.call38⟩ cs_evening_Net (fun a => evening_Net a.1 a.2.1) er_evening_Net (fun a => (by show 2 ≤ 74; decide)) ?h3 ?h4) rfl rfl
  case h1 => kernel_rfl
  case h2 => kernel_rfl
  case h3 => intro b; kernel_rfl
  case h4 => exact fun a b h => evening_Net_sem a.1 a.2.1 b h
end Go.Proofs.YtnmkejapogklmaaDoor

namespace Go.Proofs.YtnmkejapogklmaaDoor
open Go.RowKit
def flatF : AV → Bool
  | .v _ => true
  | .st _ => true
  | .e0 => true
  | .sl _ _ => true
  | .pe _ _ => true
  | .rf _ _ _ _ => true
  | .pt _ _ _ => true
  | _ => false
def ownFz : AV → Bool
  | .ag cs => cs.all flatF
  | .tp cs => cs.all flatF
  | x => flatF x
def noRfH : Hp → Bool
  | [] => true
  | none :: r => noRfH r
  | some B :: r => !B.fz && B.es.all noRf && noRfH r
theorem noRfH_at : ∀ {h : Hp}, noRfH h = true → ∀ (b : Nat) (B : Blk), h[b]? = some (some B) → B.fz = false ∧ B.es.all noRf = true
  | [], _, b, B, hb => by simp at hb
  | none :: r, h, 0, B, hb => by simp at hb
  | none :: r, h, b + 1, B, hb => noRfH_at (h := r) h b B (by simpa using hb)
  | some C :: r, h, 0, B, hb => by
    simp at hb; subst hb
    simp only [noRfH, Bool.and_eq_true, Bool.not_eq_true'] at h
    exact h.1
  | some C :: r, h, b + 1, B, hb => by
    simp only [noRfH, Bool.and_eq_true] at h
    exact noRfH_at h.2 b B (by simpa using hb)
section
variable {w w' : World} {Z Z' : Nat → Prop} {R R' : List RI} {h h' : Hp}
theorem noRf_any {R2 : List RI} {x : AV} {u : Value} (hf : noRf x = true) (hv : VR w Z R x u) : VR w Z R2 x u := by
  cases hv with
  | v h => exact .v h
  | st h hn => exact .st h hn
  | e0 => exact .e0
  | sl hn hl hc hm ha hx => exact .sl hn hl hc hm ha hx
  | pe hs h3 h1 hu hx => exact .pe hs h3 h1 hu hx
  | _ => simp [noRf] at hf
theorem sh1_vrZ {n : Nat} (hn : R.length = n) {x : AV} {u : Value} (hf : flatF x = true) (hv : VR w Z R' x u) : VR w Z (R ++ R') (sh1 n x) u := by
  have hg : ∀ {b : Nat} {r : RI}, R'[b]? = some r → (R ++ R')[n + b]? = some r := fun {b r} hr => by
    rw [List.getElem?_append_right (by omega), ← hn, Nat.add_sub_cancel_left]; exact hr
  cases hv with
  | v h => exact .v h
  | st h hn => exact .st h hn
  | e0 => exact .e0
  | sl hn hl hc hm ha hx => exact .sl hn hl hc hm ha hx
  | pe hs h3 h1 hu hx => exact .pe hs h3 h1 hu hx
  | rf hr h0 h1 h2 hm => exact .rf (hg hr) h0 h1 h2 hm
  | pt hr => exact .pt (hg hr)
  | _ => simp [flatF] at hf
theorem shN_vrZ {n : Nat} (hn : R.length = n) {x : AV} {u : Value} (hf : ownFz x = true) (hv : VR w Z R' x u) : VR w Z (R ++ R') (shN n x) u := by
  have hl : ∀ {cs : List AV} {us : List Value}, cs.all flatF = true → (∀ (i : Nat) (x : AV) (u : Value), cs[i]? = some x → us[i]? = some u → VR w Z R' x u) → ∀ (i : Nat) (x : AV) (u : Value), (cs.map (sh1 n))[i]? = some x → us[i]? = some u → VR w Z (R ++ R') x u := fun {cs us} hc hx i x u hi hu => by
    rw [List.getElem?_map] at hi
    obtain ⟨y, hy, rfl⟩ := Option.map_eq_some_iff.1 hi
    exact sh1_vrZ hn (List.all_eq_true.1 hc y (List.mem_of_getElem? hy)) (hx i y u hy hu)
  cases hv with
  | ag h1 h2 hx => exact .ag (by simpa using h1) h2 (hl hf hx)
  | tp h1 hx => exact .tp (by simpa using h1) (hl hf hx)
  | v h => exact sh1_vrZ hn rfl (.v h)
  | st h hn' => exact sh1_vrZ hn rfl (.st h hn')
  | e0 => exact sh1_vrZ hn rfl .e0
  | sl q1 q2 q3 q4 q5 q6 => exact sh1_vrZ hn rfl (.sl q1 q2 q3 q4 q5 q6)
  | pe q1 q2 q3 q4 q5 => exact sh1_vrZ hn rfl (.pe q1 q2 q3 q4 q5)
  | rf hr h0 h1 h2 hm => exact sh1_vrZ hn rfl (.rf hr h0 h1 h2 hm)
  | pt hr => exact sh1_vrZ hn rfl (.pt hr)
  | _ => simp [ownFz, flatF] at hf
/-- What a call made stands beside what was there; what it froze is frozen. -/
theorem HR.joinZ (hh : HR w Z R h) (st : StepW w Z [] [] w' Z' R' h') (hh' : HR w' Z' R' h') (hf : noRfH h' = true) : HR w' Z' (R ++ R') (h ++ h') ∧ Step w Z R h w' Z' (R ++ R') (h ++ h') := by
  have hold : ∀ c, c < w.heap.size → w'.heap[c]? = w.heap[c]? := fun c hc => st.block c hc fun ⟨b, B, r, hb, _⟩ => by simp at hb
  have hr : ∀ (i : Nat) (x : RI), R[i]? = some x → (R ++ R')[i]? = some x := fun i x hx => by
    rw [List.getElem?_append_left (List.getElem?_eq_some_iff.1 hx).1]; exact hx
  have hnew : ∀ c, own R' h' c → w.heap.size ≤ c := fun c hc => (st.own_ c hc).resolve_left fun ⟨b, B, r, hb, _⟩ => by simp at hb
  have hzn : ∀ c, Z' c → Z c ∨ w.heap.size ≤ c := fun c hc => (st.z' c hc).elim .inl fun h2 => h2.elim (fun ⟨b, B, r, hb, _⟩ => by simp at hb) .inr
  have hlen := hh.len
  have hat : ∀ (b : Nat) (B : Blk), (h ++ h')[b]? = some (some B) → (b < h.length ∧ h[b]? = some (some B) ∧ (R ++ R')[b]? = R[b]?) ∨ (∃ j, b = h.length + j ∧ h'[j]? = some (some B) ∧ (R ++ R')[b]? = R'[j]?) := fun b B hb => by
    by_cases hlt : b < h.length
    · rw [List.getElem?_append_left hlt] at hb
      exact .inl ⟨hlt, hb, List.getElem?_append_left (by omega)⟩
    · rw [List.getElem?_append_right (by omega)] at hb
      exact .inr ⟨b - h.length, by omega, hb, by rw [List.getElem?_append_right (by omega), hlen]⟩
  have hRb : ∀ (b : Nat) (B : Blk) (r : RI), h[b]? = some (some B) → R[b]? = some r → r.c < w.heap.size := fun b B r h1 h2 => hh.rltL h1 h2
  have hRn : ∀ (j : Nat) (B : Blk) (r : RI), h'[j]? = some (some B) → R'[j]? = some r → w.heap.size ≤ r.c := fun j B r h1 h2 => hnew _ ⟨j, B, r, h1, (noRfH_at hf j B h1).1, h2, rfl⟩
  refine ⟨⟨by simp [hh.len, hh'.len], fun b B hB => ?_, fun b b' B B' r r' hB hfz hB' hfz' h1 h2 e => ?_, hh'.zlt⟩, ⟨st.os, st.tape, st.output, st.size, fun c hc _ => hold c hc, fun c hc => ?_, st.z, fun c hc => (hzn c hc).elim .inl (fun h => .inr (.inr h)), hr⟩⟩
  · rcases hat b B hB with ⟨hlt, hb, hRR⟩ | ⟨j, rfl, hb, hRR⟩
    · obtain ⟨r, arr, us, g1, g2, g3, g4, g5, g6, g7, g8, g9, g10⟩ := hh.blk b B hb
      have hlt' := hRb b B r hb g1
      exact ⟨r, arr, us, hRR.trans g1, g2, (hold _ hlt').trans g3, g4, g5, g6, fun h => st.z _ (g7 h), fun h hz' => (hzn _ hz').elim (g8 h) (fun h2 => by omega), ⟨g9.len, fun i x u hx hu => (g9.at_ i x u hx hu).mono (fun c hc => hold c (hh.zlt c hc)) st.z hr⟩, g10⟩
    · obtain ⟨r, arr, us, g1, g2, g3, g4, g5, g6, g7, g8, g9, g10⟩ := hh'.blk j B hb
      obtain ⟨f1, f2⟩ := noRfH_at hf j B hb
      exact ⟨r, arr, us, hRR.trans g1, g2, g3, g4, g5, g6, g7, g8, ⟨g9.len, fun i x u hx hu => noRf_any (List.all_eq_true.1 f2 x (List.mem_of_getElem? hx)) (g9.at_ i x u hx hu)⟩, g10⟩
  · rcases hat b B hB with ⟨_, hb, hRR⟩ | ⟨j, rfl, hb, hRR⟩ <;> rcases hat b' B' hB' with ⟨_, hb', hRR'⟩ | ⟨j', rfl, hb', hRR'⟩ <;> rw [hRR] at h1 <;> rw [hRR'] at h2
    · exact hh.inj b b' B B' r r' hb hfz hb' hfz' h1 h2 e
    · have := hRb b B r hb h1; have := hRn j' B' r' hb' h2; omega
    · have := hRb b' B' r' hb' h2; have := hRn j B r hb h1; omega
    · rw [hh'.inj j j' B B' r r' hb hfz hb' hfz' h1 h2 e]
  · obtain ⟨b, B, r, h1, h2, h3, rfl⟩ := hc
    rcases hat b B h1 with ⟨_, hb, hRR⟩ | ⟨j, rfl, hb, hRR⟩ <;> rw [hRR] at h3
    · exact .inl ⟨b, B, r, hb, h2, h3, rfl⟩
    · exact .inr (hRn j B r hb h3)
end
section
variable {E : Env} {ops : Array Oper} {rest rest' : List Oper} {K : St → Prop} {n : Nat} {l : List (Nat × AV)} {hp : Hp} {xs : List AV} {Out : AV → Hp → Prop}
theorem RunS.callZ (hP : E.P = E0.P) (hG : E.G = E0.G) {d : Nat} {f : Operand} {args : Array Operand} {tys : Array TypeId} {ty : TypeId} {pos : String} {af : Array Edge} {g : Option (Nat × Bool)} {fid : FuncId} (hs : SOk fid xs Out) (hr : rest = ⟨some d, .call ⟨.value f, args, tys⟩, ty, pos, af, g⟩ :: rest') (hw : wantedA ops (Fr n l) ⟨some d, .call ⟨.value f, args, tys⟩, ty, pos, af, g⟩ = some true)
    (hf : opA E (Fr n l) f = some (.fn fid [] [])) (ha : opds (opA E (Fr n l)) args.toList = some xs) (hv : xs.all noRf2 = true) (hfl : ∀ x h', Out x h' → ownFz x = true ∧ noRfH h' = true) (k : ∀ x h', Out x h' → RunS E ops rest' ⟨Fr n ((d, shN hp.length x) :: l), hp ++ h'⟩ K) : RunS E ops rest ⟨Fr n l, hp⟩ K := by
  obtain ⟨P, fns, G, X, I⟩ := E
  simp only at hP hG
  subst hP hG
  subst hr
  intro base Q a w Z R sr q
  have hρ : ∀ o x, opA ⟨E0.P, fns, E0.G, X, I⟩ (Fr n l) o = some x → VR w Z R x (a.eval o) := fun o x e => opA_vr sr o x e
  unfold LwL
  rw [if_pos (wantedA_eq sr hw)]
  have hva : a.eval f = .func (.func fid) ([] : List Value).toArray ([] : List Value).toArray := by
    have := hρ _ _ hf
    generalize a.eval f = vf at this
    cases this with
    | fn hl hl' hx hy =>
      rename_i u1 u2
      have e1 : u1 = [] := by simpa using hl
      have e2 : u2 = [] := by simpa using hl'
      subst e1 e2; rfl
  unfold Lw
  rw [run_call (uf := []) (uc := []) rfl hva rfl hs.1 w]
  simp only [List.nil_append, List.append_nil]
  refine Ret.mono (hs.2 w Z _ sr.hh.zlt sr.gl (noRfs_vr hv (opds_vr hρ ha))) fun v w' hS => ?_
  obtain ⟨Z', R', x, h', hO, h1, h2, st⟩ := hS
  obtain ⟨f1, f2⟩ := hfl x h' hO
  obtain ⟨j1, j2⟩ := sr.hh.joinZ st h1 f2
  have hlen : R.length = hp.length := sr.hh.len
  have hx := shN_vrZ (R := R) hlen f1 h2
  have sr' := (sr.step j1 j2).put (d := some d) hx
  rw [show putA (⟨Fr n l, hp⟩ : St).fr (some d) (shN hp.length x) = Fr n ((d, shN hp.length x) :: l) from putA_Fr n l d _] at sr'
  exact k x h' hO base Q _ w' Z' (R ++ R') sr' fun s' a' w'' Z'' R'' hK sr'' st' => q s' a' w'' Z'' R'' hK sr'' (j2.w.trans st')
/-- A growing slice and something flat are handed back. -/
def OutO (ys : List AV) (e : AV) (kk : Nat) (t : TypeId) (x : AV) (h' : Hp) : Prop := x = .tp [hd 0 ys, e] ∧ h' = [mk kk t ys]
theorem RunS.callO (hP : E.P = E0.P) (hG : E.G = E0.G) {d : Nat} {f : Operand} {args : Array Operand} {tys : Array TypeId} {ty : TypeId} {pos : String} {af : Array Edge} {g : Option (Nat × Bool)} {fid : FuncId} {ys : List AV} {e : AV} {kk : Nat} {t : TypeId} (hs : SOk fid xs (OutO ys e kk t)) (hr : rest = ⟨some d, .call ⟨.value f, args, tys⟩, ty, pos, af, g⟩ :: rest') (hw : wantedA ops (Fr n l) ⟨some d, .call ⟨.value f, args, tys⟩, ty, pos, af, g⟩ = some true)
    (hf : opA E (Fr n l) f = some (.fn fid [] [])) (ha : opds (opA E (Fr n l)) args.toList = some xs) (hv : xs.all noRf2 = true) (hy : ys.all noRf = true) (he : isFlat e = true) (k : RunS E ops rest' ⟨Fr n ((d, .tp [hd hp.length ys, e]) :: l), hp ++ [mk kk t ys]⟩ K) : RunS E ops rest ⟨Fr n l, hp⟩ K := by
  have he' : sh1 hp.length e = e := by cases e <;> first | rfl | (simp [isFlat] at he)
  have he2 : flatF e = true := by cases e <;> first | rfl | (simp [isFlat] at he)
  refine RunS.callZ hP hG hs hr hw hf ha hv (fun x h' hO => ?_) fun x h' hO => ?_
  · obtain ⟨rfl, rfl⟩ := hO
    cases ys with
    | nil => exact ⟨(by show (true && (flatF e && true)) = true; rw [he2]; rfl), rfl⟩
    | cons y ys => exact ⟨(by show (true && (flatF e && true)) = true; rw [he2]; rfl), (by show (!false && (y :: ys).all noRf && true) = true; rw [hy]; rfl)⟩
  · obtain ⟨rfl, rfl⟩ := hO
    have e1 : shN hp.length (.tp [hd 0 ys, e]) = .tp [hd hp.length ys, e] := by
      cases ys with
      | nil => show AV.tp [.e0, sh1 hp.length e] = _; rw [he']; rfl
      | cons y ys => show AV.tp [.rf (hp.length + 0) 0 _ _, sh1 hp.length e] = _; rw [he']; rfl
    rw [e1]
    exact k
theorem noRf_map {α : Type} {c : Cd α} (hc : ∀ x, noRf (c.enc x) = true) (xs : List α) : (xs.map c.enc).all noRf = true := by
  rw [List.all_eq_true]
  intro x hx
  obtain ⟨y, _, rfl⟩ := List.mem_map.1 hx
  exact hc y
end
end Go.Proofs.YtnmkejapogklmaaDoor

namespace Go.Proofs.YtnmkejapogklmaaDoor
open Go.RowKit
set_option maxHeartbeats 4000000 in
set_option maxRecDepth 100000 in
theorem evening_Net_semO (x0 : Int) (x1 : Int) (r : (List (List (List Int))) × Int) (h : evening_Net x0 x1 = some r) : Sem e_evening_Net ⟨none, false⟩ cb_evening_Net ⟨Fr 74 (pairs0 0 (cs_evening_Net.enc (x0, x1, ()))), []⟩ fun e s' => (e = .normal ∨ e = .ret) ∧ ∃ xs, resA e_evening_Net.P s'.fr s'.hp Tryd.f38.results.toList = some xs ∧ OutO (r.1.map (cdL 1 (cdL 1 cdI)).enc) (cdI.enc r.2) 1 36 (retA xs) s'.hp := by
  unfold evening_Net at h
  refine Sem.wkQ (Sem.wk (s1 := ⟨Fr 74 [(0, .v (.int .i64 x0)), (1, .v (.int .i64 x1))], []⟩) (Wk.fr (by kernel_rfl)) ?_)
  refine Sem.seq ?_
  refine Sem.runS (s1 := ⟨Fr 74 [(0, .v (.int .i64 x0)), (1, .v (.int .i64 x1))], []⟩) ?_ ?_
  · refine RunS.segF (n := 74) e_evening_Net_ok 2 [(0, .v (.int .i64 x0)), (1, .v (.int .i64 x1))] [] (by kernel_rfl) ?_
    exact RunS.done rfl (Wk.fr (by kernel_rfl))
  refine Sem.seq ?_
  obtain ⟨v1, hv1, h⟩ := Option.bind_eq_some_iff.1 h
  refine Sem.runS (s1 := ⟨Fr 74 [(0, .v (.int .i64 x0)), (1, .v (.int .i64 x1)), (6, .pt 0 0 0), (7, .v (.bool v1.2))], [some ⟨3, 76, [.ag [.v (.int .i64 v1.1.1), .v (.int .i64 v1.1.2.1), .sl 1 (v1.1.2.2.map cdI.enc)]], false⟩]⟩) ?_ ?_
  · refine RunS.segF (n := 74) e_evening_Net_ok 1 [(0, .v (.int .i64 x0)), (1, .v (.int .i64 x1)), (15, .v (.int .i64 x1))] [] (by kernel_rfl) ?_
    refine RunS.call e_evening_Net_ok (fid := 57) (s := cs_evening_fieldOf) (F := fun a => evening_fieldOf a.1) (er := er_evening_fieldOf) (xs := [.v (.int .i64 x1)]) (a := (x1, ())) rfl (wantedA_none rfl) (by kernel_rfl) (by kernel_rfl) (by kernel_rfl) (by kernel_rfl) (Sns.cons (Sn.enc (c := cdI) (v := x1)) Sns.nil) (.inl (by kernel_rfl)) hv1 ?_
    refine RunS.segF (n := 74) e_evening_Net_ok 6 [(0, .v (.int .i64 x0)), (1, .v (.int .i64 x1)), (6, .pt 0 0 0), (7, .v (.bool v1.2))] [some ⟨3, 76, [.ag [.v (.int .i64 v1.1.1), .v (.int .i64 v1.1.2.1), .sl 1 (v1.1.2.2.map cdI.enc)]], false⟩] (by kernel_rfl) ?_
    exact RunS.done rfl (Wk.sel2 [0] (by kernel_rfl) (by kernel_rfl) (by kernel_rfl) ⟨⟨_, rfl, bu_c (by kernel_rfl) (by kernel_rfl)⟩, trivial⟩ ⟨lu (by kernel_rfl) (by kernel_rfl), lu (by kernel_rfl) (by kernel_rfl), lu (by kernel_rfl) (by kernel_rfl), lu (by kernel_rfl) (by kernel_rfl), trivial⟩)
  refine Sem.seq ?_
  refine Sem.seq ?_
  obtain ⟨j6, hj6, h⟩ := Option.bind_eq_some_iff.1 h
  refine Sem.runS (s1 := ⟨Fr 74 [(0, .v (.int .i64 x0)), (1, .v (.int .i64 x1)), (6, .pt 0 0 0), (35, .v (.bool j6.2.2.2))], [some ⟨3, 76, [.ag [.v (.int .i64 j6.1), .v (.int .i64 j6.2.1), .sl 1 (j6.2.2.1.map cdI.enc)]], false⟩]⟩) ?_ ?_
  · refine RunS.segF (n := 74) e_evening_Net_ok 3 [(0, .v (.int .i64 x0)), (1, .v (.int .i64 x1)), (6, .pt 0 0 0), (21, .v (.bool (!v1.2)))] [some ⟨3, 76, [.ag [.v (.int .i64 v1.1.1), .v (.int .i64 v1.1.2.1), .sl 1 (v1.1.2.2.map cdI.enc)]], false⟩] (by kernel_rfl) ?_
    rcases Bool.eq_false_or_eq_true (!v1.2) with hc28 | hc28
    · rw [if_pos hc28] at hj6
      rw [hc28]
      refine RunS.segF (n := 74) e_evening_Net_ok 14 [(0, .v (.int .i64 x0)), (1, .v (.int .i64 x1)), (6, .pt 0 0 0), (35, .v (.bool true))] [some ⟨3, 76, [.ag [.v (.int .i64 v1.1.1), .v (.int .i64 v1.1.2.1), .sl 1 (v1.1.2.2.map cdI.enc)]], false⟩] (by kernel_rfl) ?_
      have hq := Option.some.inj hj6; subst hq
      exact RunS.done rfl (Wk.sel2 [0] (by kernel_rfl) (by kernel_rfl) (by kernel_rfl) ⟨⟨_, rfl, bu_c (by kernel_rfl) (by kernel_rfl)⟩, trivial⟩ ⟨lu (by kernel_rfl) (by kernel_rfl), lu (by kernel_rfl) (by kernel_rfl), lu (by kernel_rfl) (by kernel_rfl), lu (by kernel_rfl) (by kernel_rfl), trivial⟩)
    · rw [if_f hc28] at hj6
      rw [hc28]
      refine RunS.segF (n := 74) e_evening_Net_ok 4 [(0, .v (.int .i64 x0)), (1, .v (.int .i64 x1)), (6, .pt 0 0 0), (25, .v (.bool (decide (x0 < 1))))] [some ⟨3, 76, [.ag [.v (.int .i64 v1.1.1), .v (.int .i64 v1.1.2.1), .sl 1 (v1.1.2.2.map cdI.enc)]], false⟩] (by kernel_rfl) ?_
      rcases Bool.eq_false_or_eq_true (decide (x0 < 1)) with hc29 | hc29
      · rw [if_pos hc29] at hj6
        rw [hc29]
        refine RunS.segF (n := 74) e_evening_Net_ok 10 [(0, .v (.int .i64 x0)), (1, .v (.int .i64 x1)), (6, .pt 0 0 0), (35, .v (.bool true))] [some ⟨3, 76, [.ag [.v (.int .i64 v1.1.1), .v (.int .i64 v1.1.2.1), .sl 1 (v1.1.2.2.map cdI.enc)]], false⟩] (by kernel_rfl) ?_
        have hq := Option.some.inj hj6; subst hq
        exact RunS.done rfl (Wk.sel2 [0] (by kernel_rfl) (by kernel_rfl) (by kernel_rfl) ⟨⟨_, rfl, bu_c (by kernel_rfl) (by kernel_rfl)⟩, trivial⟩ ⟨lu (by kernel_rfl) (by kernel_rfl), lu (by kernel_rfl) (by kernel_rfl), lu (by kernel_rfl) (by kernel_rfl), lu (by kernel_rfl) (by kernel_rfl), trivial⟩)
      · rw [if_f hc29] at hj6
        rw [hc29]
        refine RunS.segF (n := 74) e_evening_Net_ok 5 [(0, .v (.int .i64 x0)), (1, .v (.int .i64 x1)), (6, .pt 0 0 0), (30, .v (.bool (decide (x0 > x1))))] [some ⟨3, 76, [.ag [.v (.int .i64 v1.1.1), .v (.int .i64 v1.1.2.1), .sl 1 (v1.1.2.2.map cdI.enc)]], false⟩] (by kernel_rfl) ?_
        rcases Bool.eq_false_or_eq_true (decide (x0 > x1)) with hc30 | hc30
        · rw [if_pos hc30] at hj6
          rw [hc30]
          refine RunS.segF (n := 74) e_evening_Net_ok 5 [(0, .v (.int .i64 x0)), (1, .v (.int .i64 x1)), (6, .pt 0 0 0), (35, .v (.bool true))] [some ⟨3, 76, [.ag [.v (.int .i64 v1.1.1), .v (.int .i64 v1.1.2.1), .sl 1 (v1.1.2.2.map cdI.enc)]], false⟩] (by kernel_rfl) ?_
          have hq := Option.some.inj hj6; subst hq
          exact RunS.done rfl (Wk.sel2 [0] (by kernel_rfl) (by kernel_rfl) (by kernel_rfl) ⟨⟨_, rfl, bu_c (by kernel_rfl) (by kernel_rfl)⟩, trivial⟩ ⟨lu (by kernel_rfl) (by kernel_rfl), lu (by kernel_rfl) (by kernel_rfl), lu (by kernel_rfl) (by kernel_rfl), lu (by kernel_rfl) (by kernel_rfl), trivial⟩)
        · rw [if_f hc30] at hj6
          rw [hc30]
          refine RunS.segF (n := 74) e_evening_Net_ok 5 [(0, .v (.int .i64 x0)), (1, .v (.int .i64 x1)), (6, .pt 0 0 0), (35, .v (.bool (decide ((wr .i64 (x0 * x1)) > 64))))] [some ⟨3, 76, [.ag [.v (.int .i64 v1.1.1), .v (.int .i64 v1.1.2.1), .sl 1 (v1.1.2.2.map cdI.enc)]], false⟩] (by kernel_rfl) ?_
          have hq := Option.some.inj hj6; subst hq
          exact RunS.done rfl (Wk.sel2 [0] (by kernel_rfl) (by kernel_rfl) (by kernel_rfl) ⟨⟨_, rfl, bu_c (by kernel_rfl) (by kernel_rfl)⟩, trivial⟩ ⟨lu (by kernel_rfl) (by kernel_rfl), lu (by kernel_rfl) (by kernel_rfl), lu (by kernel_rfl) (by kernel_rfl), lu (by kernel_rfl) (by kernel_rfl), trivial⟩)
  refine Sem.cond (b := j6.2.2.2) (by kernel_rfl) (fun hb7 => ?_) (fun hb7 => ?_)
  · rw [if_pos hb7] at h
    refine Sem.seq ?_
    refine Sem.runS (s1 := ⟨Fr 74 [(4, .e0), (5, .v (.int .i64 90))], []⟩) ?_ ?_
    · refine RunS.segF (n := 74) e_evening_Net_ok 2 [(4, .e0), (5, .v (.int .i64 90))] [some ⟨3, 76, [.ag [.v (.int .i64 j6.1), .v (.int .i64 j6.2.1), .sl 1 (j6.2.2.1.map cdI.enc)]], false⟩] (by kernel_rfl) ?_
      exact RunS.done rfl (Wk.sel2 [] (by kernel_rfl) (by kernel_rfl) (by kernel_rfl) trivial ⟨lu (by kernel_rfl) (by kernel_rfl), lu (by kernel_rfl) (by kernel_rfl), trivial⟩)
    refine Sem.ret ?_
    have hq := Option.some.inj h; subst hq
    exact ⟨⟨Fr 74 [(4, hd 0 ([].map (cdL 1 (cdL 1 cdI)).enc)), (5, .v (.int .i64 90))], [mk 1 36 ([].map (cdL 1 (cdL 1 cdI)).enc)]⟩, (Wk.trans (s1 := ⟨Fr 74 [(4, hd 0 ([].map (cdL 1 (cdL 1 cdI)).enc)), (5, .v (.int .i64 90))], [mk 1 36 ([].map (cdL 1 (cdL 1 cdI)).enc)]⟩) Wk.none (Wk.sel2 [0] (by kernel_rfl) (by kernel_rfl) (by kernel_rfl) ⟨⟨_, rfl, bu_none⟩, trivial⟩ ⟨lu (by kernel_rfl) (by kernel_rfl), lu (by kernel_rfl) (by kernel_rfl), trivial⟩)), .inr rfl, [hd 0 ([].map (cdL 1 (cdL 1 cdI)).enc), .v (.int .i64 90)], (by kernel_rfl), ⟨(by kernel_rfl), (by kernel_rfl)⟩⟩
  · rw [if_f hb7] at h
    refine Sem.skip ?_
    refine Sem.seq ?_
    refine Sem.runS (s1 := ⟨Fr 74 [(0, .v (.int .i64 x0)), (1, .v (.int .i64 x1)), (6, .pt 0 0 0), (8, .e0)], [some ⟨3, 76, [.ag [.v (.int .i64 j6.1), .v (.int .i64 j6.2.1), .sl 1 (j6.2.2.1.map cdI.enc)]], false⟩]⟩) ?_ ?_
    · refine RunS.segF (n := 74) e_evening_Net_ok 1 [(0, .v (.int .i64 x0)), (1, .v (.int .i64 x1)), (6, .pt 0 0 0), (8, .e0)] [some ⟨3, 76, [.ag [.v (.int .i64 j6.1), .v (.int .i64 j6.2.1), .sl 1 (j6.2.2.1.map cdI.enc)]], false⟩] (by kernel_rfl) ?_
      exact RunS.done rfl (Wk.sel2 [0] (by kernel_rfl) (by kernel_rfl) (by kernel_rfl) ⟨⟨_, rfl, bu_c (by kernel_rfl) (by kernel_rfl)⟩, trivial⟩ ⟨lu (by kernel_rfl) (by kernel_rfl), lu (by kernel_rfl) (by kernel_rfl), lu (by kernel_rfl) (by kernel_rfl), lu (by kernel_rfl) (by kernel_rfl), trivial⟩)
    refine Sem.seq ?_
    refine Sem.seq ?_
    refine Sem.runS (s1 := ⟨Fr 74 [(0, .v (.int .i64 x0)), (1, .v (.int .i64 x1)), (6, .pt 0 0 0), (8, .e0), (36, .v (.int .i64 x1)), (37, .v (.int .i64 0))], [some ⟨3, 76, [.ag [.v (.int .i64 j6.1), .v (.int .i64 j6.2.1), .sl 1 (j6.2.2.1.map cdI.enc)]], false⟩]⟩) ?_ ?_
    · refine RunS.segF (n := 74) e_evening_Net_ok 2 [(0, .v (.int .i64 x0)), (1, .v (.int .i64 x1)), (6, .pt 0 0 0), (8, .e0), (36, .v (.int .i64 x1)), (37, .v (.int .i64 0))] [some ⟨3, 76, [.ag [.v (.int .i64 j6.1), .v (.int .i64 j6.2.1), .sl 1 (j6.2.2.1.map cdI.enc)]], false⟩] (by kernel_rfl) ?_
      exact RunS.done rfl (Wk.sel2 [0] (by kernel_rfl) (by kernel_rfl) (by kernel_rfl) ⟨⟨_, rfl, bu_c (by kernel_rfl) (by kernel_rfl)⟩, trivial⟩ ⟨lu (by kernel_rfl) (by kernel_rfl), lu (by kernel_rfl) (by kernel_rfl), lu (by kernel_rfl) (by kernel_rfl), lu (by kernel_rfl) (by kernel_rfl), lu (by kernel_rfl) (by kernel_rfl), lu (by kernel_rfl) (by kernel_rfl), trivial⟩)
    refine Sem.block ?_
    obtain ⟨r27, hr27, h⟩ := Option.bind_eq_some_iff.1 h
    refine Sem.loop (n := 100000) ?_
    refine Sem.cutN (SemN.wk (s1 := ⟨Fr 74 [(0, .v (.int .i64 x0)), (1, .v (.int .i64 x1)), (6, .pt 0 0 0), (8, hd 1 ([].map (cdL 1 (cdL 1 cdI)).enc)), (36, .v (.int .i64 x1)), (37, .v (.int .i64 0))], [some ⟨3, 76, [.ag [.v (.int .i64 j6.1), .v (.int .i64 j6.2.1), .sl 1 (j6.2.2.1.map cdI.enc)]], false⟩, mk 1 36 ([].map (cdL 1 (cdL 1 cdI)).enc)]⟩) (Wk.trans (s1 := ⟨Fr 74 [(0, .v (.int .i64 x0)), (1, .v (.int .i64 x1)), (6, .pt 0 0 0), (8, hd 1 ([].map (cdL 1 (cdL 1 cdI)).enc)), (36, .v (.int .i64 x1)), (37, .v (.int .i64 0))], [some ⟨3, 76, [.ag [.v (.int .i64 j6.1), .v (.int .i64 j6.2.1), .sl 1 (j6.2.2.1.map cdI.enc)]], false⟩, mk 1 36 ([].map (cdL 1 (cdL 1 cdI)).enc)]⟩) Wk.none (Wk.sel2 [0, 1] (by kernel_rfl) (by kernel_rfl) (by kernel_rfl) ⟨⟨_, rfl, bu_c (by kernel_rfl) (by kernel_rfl)⟩, ⟨_, rfl, bu_none⟩, trivial⟩ ⟨lu (by kernel_rfl) (by kernel_rfl), lu (by kernel_rfl) (by kernel_rfl), lu (by kernel_rfl) (by kernel_rfl), lu (by kernel_rfl) (by kernel_rfl), lu (by kernel_rfl) (by kernel_rfl), lu (by kernel_rfl) (by kernel_rfl), trivial⟩)) (evening_Net_1_ok x0 x1 j6 _ [] 0 _ hr27)) ?_
    refine Sem.seq ?_
    refine Sem.runS (s1 := ⟨Fr 74 [(4, hd 0 (r27.map (cdL 1 (cdL 1 cdI)).enc)), (5, .v (.int .i64 0))], [mk 1 36 (r27.map (cdL 1 (cdL 1 cdI)).enc)]⟩) ?_ ?_
    · refine RunS.segF (n := 74) e_evening_Net_ok 3 [(4, hd 0 (r27.map (cdL 1 (cdL 1 cdI)).enc)), (5, .v (.int .i64 0))] [mk 1 36 (r27.map (cdL 1 (cdL 1 cdI)).enc)] (by kernel_rfl) ?_
      exact RunS.done rfl (Wk.sel2 [0] (by kernel_rfl) (by kernel_rfl) (by kernel_rfl) ⟨⟨_, rfl, bu_mk⟩, trivial⟩ ⟨lu_hd (b' := 0) (by kernel_rfl) (by kernel_rfl), lu (by kernel_rfl) (by kernel_rfl), trivial⟩)
    refine Sem.ret ?_
    have hq := Option.some.inj h; subst hq
    exact ⟨⟨Fr 74 [(4, hd 0 (r27.map (cdL 1 (cdL 1 cdI)).enc)), (5, .v (.int .i64 0))], [mk 1 36 (r27.map (cdL 1 (cdL 1 cdI)).enc)]⟩, (Wk.sel2 [0] (by kernel_rfl) (by kernel_rfl) (by kernel_rfl) ⟨⟨_, rfl, bu_mk⟩, trivial⟩ ⟨lu_hd (b' := 0) (by kernel_rfl) (by kernel_rfl), lu (by kernel_rfl) (by kernel_rfl), trivial⟩), .inr rfl, [hd 0 (r27.map (cdL 1 (cdL 1 cdI)).enc), .v (.int .i64 0)], (by kernel_rfl), ⟨(by kernel_rfl), (by kernel_rfl)⟩⟩
theorem s_evening_Net (x0 : Int) (x1 : Int) (r : (List (List (List Int))) × Int) (h : evening_Net x0 x1 = some r) : SOk 38 (cs_evening_Net.enc (x0, x1, ())) (OutO (r.1.map (cdL 1 (cdL 1 cdI)).enc) (cdI.enc r.2) 1 36) :=
  sok_of_sem e_evening_Net_ok rfl rfl (fn := Tryd.f38) (c := cb_evening_Net) (by kernel_rfl) (by kernel_rfl) ⟨Tryd.call38⟩ (by show 2 ≤ 74; decide) (evening_Net_semO x0 x1 r h)
end Go.Proofs.YtnmkejapogklmaaDoor

namespace Go.Proofs.YtnmkejapogklmaaDoor
open Go.RowKit
/- trestle/evening.Plane -/
noncomputable def e_evening_Plane : Env := (E0.withX 35 t_evening_span)
theorem e_evening_Plane_ok : EnvOk e_evening_Plane := (EnvOk.withX E0_ok x_evening_span.1 x_evening_span.2)
noncomputable def cb_evening_Plane : Code := codeOf Tryd.f30
def evening_Plane_1 (x0 : Int) (v1 : (List (List (List Int))) × Int) : Nat → (List (List Int)) → Int → Option (((List (List Int))))
  | 0, _, _ => none
  | f + 1, c3, c4 =>
    if (decide (c4 < x0)) = true then
    (evening_span (wr .i64 (c4 * x0)) x0).bind fun v6 =>
    if (capOk 24 (c3.length + 1)) = true then
    evening_Plane_1 x0 v1 f (c3 ++ [v6]) (wr .i64 (c4 + 1))
    else none
    else
    some c3
def evening_Plane (x0 : Int) : Option ((List (List (List Int))) × Int) :=
  (evening_Net x0 x0).bind fun v1 =>
  if (v1.2 != 0) = true then
  some ([], v1.2)
  else
  (evening_Plane_1 x0 v1 100000 [] 0).bind fun r9 =>
  if (capOk 24 (v1.1.length + 1)) = true then
  some ((v1.1 ++ [r9]), 0)
  else none
def cs_evening_Plane : Cs (Int × Unit) := (csC cdI csN)
def er_evening_Plane (r : (List (List (List Int))) × Int) : AV := .tp [(cdL 1 (cdL 1 (cdL 1 cdI))).enc r.1, cdI.enc r.2]
set_option maxHeartbeats 4000000 in
set_option maxRecDepth 100000 in
theorem evening_Plane_1_ok (x0 : Int) (v1 : (List (List (List Int))) × Int) : ∀ (f : Nat) (c3 : (List (List Int))) (c4 : Int) (r : ((List (List Int)))), evening_Plane_1 x0 v1 f c3 c4 = some r → SemN e_evening_Plane ⟨none, false⟩ (pc cb_evening_Plane [1, 1, 1, 1, 0, 1, 0, 0]) f ⟨Fr 34 [(0, .v (.int .i64 x0)), (4, hd 0 (v1.1.map (cdL 1 (cdL 1 cdI)).enc)), (6, hd 1 (c3.map (cdL 1 cdI).enc)), (17, .v (.int .i64 x0)), (18, .v (.int .i64 c4))], [mk 1 36 (v1.1.map (cdL 1 (cdL 1 cdI)).enc), mk 1 29 (c3.map (cdL 1 cdI).enc)]⟩ (fun e s => e = (.exit 0) ∧ Wk e_evening_Plane s ⟨Fr 34 [(4, hd 0 (v1.1.map (cdL 1 (cdL 1 cdI)).enc)), (6, hd 1 (r.map (cdL 1 cdI).enc))], [mk 1 36 (v1.1.map (cdL 1 (cdL 1 cdI)).enc), mk 1 29 (r.map (cdL 1 cdI).enc)]⟩) := by
  intro f
  induction f with
  | zero => intro c3 c4 r h; cases h
  | succ f ih0 =>
    intro c3 c4 r h
    have ih := fun (c3 : (List (List Int))) (c4 : Int) => ih0 c3 c4 r
    unfold evening_Plane_1 at h
    refine SemN.succ ?_
    refine Sem.seq ?_
    refine Sem.runS (s1 := ⟨Fr 34 [(0, .v (.int .i64 x0)), (4, hd 0 (v1.1.map (cdL 1 (cdL 1 cdI)).enc)), (6, hd 1 (c3.map (cdL 1 cdI).enc)), (17, .v (.int .i64 x0)), (18, .v (.int .i64 c4)), (19, .v (.bool (decide (c4 < x0))))], [mk 1 36 (v1.1.map (cdL 1 (cdL 1 cdI)).enc), mk 1 29 (c3.map (cdL 1 cdI).enc)]⟩) ?_ ?_
    · refine RunS.segF (n := 34) e_evening_Plane_ok 1 [(0, .v (.int .i64 x0)), (4, hd 0 (v1.1.map (cdL 1 (cdL 1 cdI)).enc)), (6, hd 1 (c3.map (cdL 1 cdI).enc)), (17, .v (.int .i64 x0)), (18, .v (.int .i64 c4)), (19, .v (.bool (decide (c4 < x0))))] [mk 1 36 (v1.1.map (cdL 1 (cdL 1 cdI)).enc), mk 1 29 (c3.map (cdL 1 cdI).enc)] (by kernel_rfl) ?_
      exact RunS.done rfl (Wk.sel2 [0, 1] (by kernel_rfl) (by kernel_rfl) (by kernel_rfl) ⟨⟨_, rfl, bu_mk⟩, ⟨_, rfl, bu_mk⟩, trivial⟩ ⟨lu (by kernel_rfl) (by kernel_rfl), lu_hd (b' := 0) (by kernel_rfl) (by kernel_rfl), lu_hd (b' := 1) (by kernel_rfl) (by kernel_rfl), lu (by kernel_rfl) (by kernel_rfl), lu (by kernel_rfl) (by kernel_rfl), lu (by kernel_rfl) (by kernel_rfl), trivial⟩)
    refine Sem.seq ?_
    refine Sem.cond (b := (decide (c4 < x0))) (by kernel_rfl) (fun hb5 => ?_) (fun hb5 => ?_)
    · rw [if_pos hb5] at h
      refine Sem.skip ?_
      refine Sem.seq ?_
      refine Sem.block ?_
      refine Sem.seq ?_
      refine Sem.runS (s1 := ⟨Fr 34 [(0, .v (.int .i64 x0)), (4, hd 0 (v1.1.map (cdL 1 (cdL 1 cdI)).enc)), (6, hd 1 (c3.map (cdL 1 cdI).enc)), (7, .v (.int .i64 c4)), (17, .v (.int .i64 x0)), (18, .v (.int .i64 c4))], [mk 1 36 (v1.1.map (cdL 1 (cdL 1 cdI)).enc), mk 1 29 (c3.map (cdL 1 cdI).enc)]⟩) ?_ ?_
      · refine RunS.segF (n := 34) e_evening_Plane_ok 2 [(0, .v (.int .i64 x0)), (4, hd 0 (v1.1.map (cdL 1 (cdL 1 cdI)).enc)), (6, hd 1 (c3.map (cdL 1 cdI).enc)), (7, .v (.int .i64 c4)), (17, .v (.int .i64 x0)), (18, .v (.int .i64 c4))] [mk 1 36 (v1.1.map (cdL 1 (cdL 1 cdI)).enc), mk 1 29 (c3.map (cdL 1 cdI).enc)] (by kernel_rfl) ?_
        exact RunS.done rfl (Wk.sel2 [0, 1] (by kernel_rfl) (by kernel_rfl) (by kernel_rfl) ⟨⟨_, rfl, bu_mk⟩, ⟨_, rfl, bu_mk⟩, trivial⟩ ⟨lu (by kernel_rfl) (by kernel_rfl), lu_hd (b' := 0) (by kernel_rfl) (by kernel_rfl), lu_hd (b' := 1) (by kernel_rfl) (by kernel_rfl), lu (by kernel_rfl) (by kernel_rfl), lu (by kernel_rfl) (by kernel_rfl), lu (by kernel_rfl) (by kernel_rfl), trivial⟩)
      obtain ⟨v6, hv6, h⟩ := Option.bind_eq_some_iff.1 h
      by_cases hk7 : (capOk 24 (c3.length + 1)) = true
      case neg => rw [if_neg hk7] at h; cases h
      rw [if_pos hk7] at h
      refine Sem.runS (s1 := ⟨Fr 34 [(0, .v (.int .i64 x0)), (4, hd 0 (v1.1.map (cdL 1 (cdL 1 cdI)).enc)), (6, hd 1 ((c3 ++ [v6]).map (cdL 1 cdI).enc)), (17, .v (.int .i64 x0)), (18, .v (.int .i64 c4))], [mk 1 36 (v1.1.map (cdL 1 (cdL 1 cdI)).enc), mk 1 29 ((c3 ++ [v6]).map (cdL 1 cdI).enc)]⟩) ?_ ?_
      · refine RunS.segF (n := 34) e_evening_Plane_ok 5 [(0, .v (.int .i64 x0)), (4, hd 0 (v1.1.map (cdL 1 (cdL 1 cdI)).enc)), (17, .v (.int .i64 x0)), (18, .v (.int .i64 c4)), (21, hd 1 (c3.map (cdL 1 cdI).enc)), (24, .v (.int .i64 (wr .i64 (c4 * x0)))), (25, .v (.int .i64 x0))] [mk 1 36 (v1.1.map (cdL 1 (cdL 1 cdI)).enc), mk 1 29 (c3.map (cdL 1 cdI).enc)] (by kernel_rfl) ?_
        refine RunS.call e_evening_Plane_ok (fid := 35) (b := v6) (s := cs_evening_span) (F := fun a => evening_span a.1 a.2.1) (er := er_evening_span) (xs := [.v (.int .i64 (wr .i64 (c4 * x0))), .v (.int .i64 x0)]) (a := ((wr .i64 (c4 * x0)), x0, ())) rfl (wantedA_none rfl) (by kernel_rfl) (by kernel_rfl) (by kernel_rfl) (by kernel_rfl) (Sns.cons (Sn.enc (c := cdI) (v := (wr .i64 (c4 * x0)))) (Sns.cons (Sn.enc (c := cdI) (v := x0)) Sns.nil)) (.inl (by kernel_rfl)) (by dsimp only; exact hv6) ?_
        refine RunS.segF (n := 34) e_evening_Plane_ok 1 [(0, .v (.int .i64 x0)), (4, hd 0 (v1.1.map (cdL 1 (cdL 1 cdI)).enc)), (17, .v (.int .i64 x0)), (18, .v (.int .i64 c4)), (21, hd 1 (c3.map (cdL 1 cdI).enc)), (27, hd 2 ([v6].map (cdL 1 cdI).enc))] [mk 1 36 (v1.1.map (cdL 1 (cdL 1 cdI)).enc), mk 1 29 (c3.map (cdL 1 cdI).enc), mk 1 29 ([v6].map (cdL 1 cdI).enc)] (by kernel_rfl) ?_
        refine RunS.one e_evening_Plane_ok 0 rfl (op_w (wantedA_none rfl) rfl (by kernel_rfl) (by kernel_rfl) (w_append (a := hd 1 (c3.map (cdL 1 cdI).enc)) (b := hd 2 ([v6].map (cdL 1 cdI).enc)) (by kernel_rfl) (by kernel_rfl) (append_B (c := (cdL 1 cdI)) (xs := c3) (vs := [v6]) (k := 1) (bytes := 24) (el := 29) (by kernel_rfl) (by kernel_rfl) (elems_hd (t := 29) (by kernel_rfl)) (List.cons_ne_nil _ _) (by kernel_rfl) hk7))) ?_
        refine RunS.segF (n := 34) e_evening_Plane_ok 1 [(0, .v (.int .i64 x0)), (4, hd 0 (v1.1.map (cdL 1 (cdL 1 cdI)).enc)), (6, hd 3 ((c3 ++ [v6]).map (cdL 1 cdI).enc)), (17, .v (.int .i64 x0)), (18, .v (.int .i64 c4))] [mk 1 36 (v1.1.map (cdL 1 (cdL 1 cdI)).enc), none, mk 1 29 ([v6].map (cdL 1 cdI).enc), mk 1 29 ((c3 ++ [v6]).map (cdL 1 cdI).enc)] (by kernel_rfl) ?_
        exact RunS.done rfl (Wk.sel2 [0, 3] (by kernel_rfl) (by kernel_rfl) (by kernel_rfl) ⟨⟨_, rfl, bu_mk⟩, ⟨_, rfl, bu_mk⟩, trivial⟩ ⟨lu (by kernel_rfl) (by kernel_rfl), lu_hd (b' := 0) (by kernel_rfl) (by kernel_rfl), lu_hd (b' := 3) (by kernel_rfl) (by kernel_rfl), lu (by kernel_rfl) (by kernel_rfl), lu (by kernel_rfl) (by kernel_rfl), trivial⟩)
      refine Sem.runS (s1 := ⟨Fr 34 [(0, .v (.int .i64 x0)), (4, hd 0 (v1.1.map (cdL 1 (cdL 1 cdI)).enc)), (6, hd 1 ((c3 ++ [v6]).map (cdL 1 cdI).enc)), (17, .v (.int .i64 x0)), (18, .v (.int .i64 (wr .i64 (c4 + 1))))], [mk 1 36 (v1.1.map (cdL 1 (cdL 1 cdI)).enc), mk 1 29 ((c3 ++ [v6]).map (cdL 1 cdI).enc)]⟩) ?_ ?_
      · refine RunS.segF (n := 34) e_evening_Plane_ok 2 [(0, .v (.int .i64 x0)), (4, hd 0 (v1.1.map (cdL 1 (cdL 1 cdI)).enc)), (6, hd 1 ((c3 ++ [v6]).map (cdL 1 cdI).enc)), (17, .v (.int .i64 x0)), (18, .v (.int .i64 (wr .i64 (c4 + 1))))] [mk 1 36 (v1.1.map (cdL 1 (cdL 1 cdI)).enc), mk 1 29 ((c3 ++ [v6]).map (cdL 1 cdI).enc)] (by kernel_rfl) ?_
        exact RunS.done rfl (Wk.sel2 [0, 1] (by kernel_rfl) (by kernel_rfl) (by kernel_rfl) ⟨⟨_, rfl, bu_mk⟩, ⟨_, rfl, bu_mk⟩, trivial⟩ ⟨lu (by kernel_rfl) (by kernel_rfl), lu_hd (b' := 0) (by kernel_rfl) (by kernel_rfl), lu_hd (b' := 1) (by kernel_rfl) (by kernel_rfl), lu (by kernel_rfl) (by kernel_rfl), lu (by kernel_rfl) (by kernel_rfl), trivial⟩)
      exact SemN.wk (s1 := ⟨Fr 34 [(0, .v (.int .i64 x0)), (4, hd 0 (v1.1.map (cdL 1 (cdL 1 cdI)).enc)), (6, hd 1 ((c3 ++ [v6]).map (cdL 1 cdI).enc)), (17, .v (.int .i64 x0)), (18, .v (.int .i64 (wr .i64 (c4 + 1))))], [mk 1 36 (v1.1.map (cdL 1 (cdL 1 cdI)).enc), mk 1 29 ((c3 ++ [v6]).map (cdL 1 cdI).enc)]⟩) (Wk.sel2 [0, 1] (by kernel_rfl) (by kernel_rfl) (by kernel_rfl) ⟨⟨_, rfl, bu_mk⟩, ⟨_, rfl, bu_mk⟩, trivial⟩ ⟨lu (by kernel_rfl) (by kernel_rfl), lu_hd (b' := 0) (by kernel_rfl) (by kernel_rfl), lu_hd (b' := 1) (by kernel_rfl) (by kernel_rfl), lu (by kernel_rfl) (by kernel_rfl), lu (by kernel_rfl) (by kernel_rfl), trivial⟩) (ih (c3 ++ [v6]) (wr .i64 (c4 + 1)) h)
    · rw [if_f hb5] at h
      refine Sem.exit ?_
      have hq := Option.some.inj h; subst hq
      exact ⟨rfl, (Wk.sel2 [0, 1] (by kernel_rfl) (by kernel_rfl) (by kernel_rfl) ⟨⟨_, rfl, bu_mk⟩, ⟨_, rfl, bu_mk⟩, trivial⟩ ⟨lu_hd (b' := 0) (by kernel_rfl) (by kernel_rfl), lu_hd (b' := 1) (by kernel_rfl) (by kernel_rfl), trivial⟩)⟩
set_option maxHeartbeats 4000000 in
set_option maxRecDepth 100000 in
theorem evening_Plane_sem (x0 : Int) (r : (List (List (List Int))) × Int) (h : evening_Plane x0 = some r) : Sem e_evening_Plane ⟨none, false⟩ cb_evening_Plane ⟨Fr 34 (pairs0 0 (cs_evening_Plane.enc (x0, ()))), []⟩ fun e s' => (e = .normal ∨ e = .ret) ∧ ∃ xs, resA e_evening_Plane.P s'.fr s'.hp Tryd.f30.results.toList = some xs ∧ retA xs = er_evening_Plane r := by
  unfold evening_Plane at h
  refine Sem.wkQ (Sem.wk (s1 := ⟨Fr 34 [(0, .v (.int .i64 x0))], []⟩) (Wk.fr (by kernel_rfl)) ?_)
  refine Sem.seq ?_
  refine Sem.runS (s1 := ⟨Fr 34 [(0, .v (.int .i64 x0))], []⟩) ?_ ?_
  · refine RunS.segF (n := 34) e_evening_Plane_ok 2 [(0, .v (.int .i64 x0))] [] (by kernel_rfl) ?_
    exact RunS.done rfl (Wk.fr (by kernel_rfl))
  refine Sem.seq ?_
  obtain ⟨v1, hv1, h⟩ := Option.bind_eq_some_iff.1 h
  refine Sem.runS (s1 := ⟨Fr 34 [(0, .v (.int .i64 x0)), (4, hd 0 (v1.1.map (cdL 1 (cdL 1 cdI)).enc)), (5, .v (.int .i64 v1.2))], [mk 1 36 (v1.1.map (cdL 1 (cdL 1 cdI)).enc)]⟩) ?_ ?_
  · refine RunS.segF (n := 34) e_evening_Plane_ok 2 [(0, .v (.int .i64 x0)), (9, .v (.int .i64 x0)), (10, .v (.int .i64 x0))] [] (by kernel_rfl) ?_
    refine RunS.callO rfl rfl (s_evening_Net x0 x0 _ hv1) rfl (wantedA_none rfl) (by kernel_rfl) (by kernel_rfl) (by kernel_rfl) (noRf_map (c := (cdL 1 (cdL 1 cdI))) (fun _ => rfl) _) (by kernel_rfl) ?_
    refine RunS.segF (n := 34) e_evening_Plane_ok 5 [(0, .v (.int .i64 x0)), (4, hd 0 (v1.1.map (cdL 1 (cdL 1 cdI)).enc)), (5, .v (.int .i64 v1.2))] [mk 1 36 (v1.1.map (cdL 1 (cdL 1 cdI)).enc)] (by kernel_rfl) ?_
    exact RunS.done rfl (Wk.sel2 [0] (by kernel_rfl) (by kernel_rfl) (by kernel_rfl) ⟨⟨_, rfl, bu_mk⟩, trivial⟩ ⟨lu (by kernel_rfl) (by kernel_rfl), lu_hd (b' := 0) (by kernel_rfl) (by kernel_rfl), lu (by kernel_rfl) (by kernel_rfl), trivial⟩)
  refine Sem.seq ?_
  refine Sem.seq ?_
  refine Sem.runS (s1 := ⟨Fr 34 [(0, .v (.int .i64 x0)), (4, hd 0 (v1.1.map (cdL 1 (cdL 1 cdI)).enc)), (5, .v (.int .i64 v1.2)), (15, .v (.bool (v1.2 != 0)))], [mk 1 36 (v1.1.map (cdL 1 (cdL 1 cdI)).enc)]⟩) ?_ ?_
  · refine RunS.segF (n := 34) e_evening_Plane_ok 2 [(0, .v (.int .i64 x0)), (4, hd 0 (v1.1.map (cdL 1 (cdL 1 cdI)).enc)), (5, .v (.int .i64 v1.2)), (15, .v (.bool (v1.2 != 0)))] [mk 1 36 (v1.1.map (cdL 1 (cdL 1 cdI)).enc)] (by kernel_rfl) ?_
    exact RunS.done rfl (Wk.sel2 [0] (by kernel_rfl) (by kernel_rfl) (by kernel_rfl) ⟨⟨_, rfl, bu_mk⟩, trivial⟩ ⟨lu (by kernel_rfl) (by kernel_rfl), lu_hd (b' := 0) (by kernel_rfl) (by kernel_rfl), lu (by kernel_rfl) (by kernel_rfl), lu (by kernel_rfl) (by kernel_rfl), trivial⟩)
  refine Sem.cond (b := (v1.2 != 0)) (by kernel_rfl) (fun hb2 => ?_) (fun hb2 => ?_)
  · rw [if_pos hb2] at h
    refine Sem.seq ?_
    refine Sem.runS (s1 := ⟨Fr 34 [(2, .e0), (3, .v (.int .i64 v1.2))], []⟩) ?_ ?_
    · refine RunS.segF (n := 34) e_evening_Plane_ok 3 [(2, .e0), (3, .v (.int .i64 v1.2))] [mk 1 36 (v1.1.map (cdL 1 (cdL 1 cdI)).enc)] (by kernel_rfl) ?_
      exact RunS.done rfl (Wk.sel2 [] (by kernel_rfl) (by kernel_rfl) (by kernel_rfl) trivial ⟨lu (by kernel_rfl) (by kernel_rfl), lu (by kernel_rfl) (by kernel_rfl), trivial⟩)
    refine Sem.ret ?_
    have hq := Option.some.inj h; subst hq
    exact ⟨⟨Fr 34 [(2, .sl 1 ([].map (cdL 1 (cdL 1 cdI)).enc)), (3, .v (.int .i64 v1.2))], []⟩, (Wk.trans (s1 := ⟨Fr 34 [(2, .e0), (3, .v (.int .i64 v1.2))], []⟩) (Wk.fr (by kernel_rfl)) (Wk.trans (s1 := ⟨Fr 34 [(2, .e0), (3, .v (.int .i64 v1.2))], [none]⟩) Wk.none (Wk.trans (s1 := ⟨Fr 34 [(2, .sl 1 ([].map (cdL 1 (cdL 1 cdI)).enc)), (3, .v (.int .i64 v1.2))], [none]⟩) (Wk.frzG 0 (.inr (by kernel_rfl)) ⟨.inl rfl, trivial⟩ ⟨⟨.e0, (by kernel_rfl), fz_e0⟩, ⟨.v (.int .i64 v1.2), (by kernel_rfl), .inl rfl⟩, trivial⟩) (Wk.sel2 [] (by kernel_rfl) (by kernel_rfl) (by kernel_rfl) trivial ⟨lu (by kernel_rfl) (by kernel_rfl), lu (by kernel_rfl) (by kernel_rfl), trivial⟩)))), .inr rfl, [.sl 1 ([].map (cdL 1 (cdL 1 cdI)).enc), .v (.int .i64 v1.2)], (by kernel_rfl), (by kernel_rfl)⟩
  · rw [if_f hb2] at h
    refine Sem.skip ?_
    refine Sem.seq ?_
    refine Sem.runS (s1 := ⟨Fr 34 [(0, .v (.int .i64 x0)), (4, hd 0 (v1.1.map (cdL 1 (cdL 1 cdI)).enc)), (6, .e0)], [mk 1 36 (v1.1.map (cdL 1 (cdL 1 cdI)).enc)]⟩) ?_ ?_
    · refine RunS.segF (n := 34) e_evening_Plane_ok 1 [(0, .v (.int .i64 x0)), (4, hd 0 (v1.1.map (cdL 1 (cdL 1 cdI)).enc)), (6, .e0)] [mk 1 36 (v1.1.map (cdL 1 (cdL 1 cdI)).enc)] (by kernel_rfl) ?_
      exact RunS.done rfl (Wk.sel2 [0] (by kernel_rfl) (by kernel_rfl) (by kernel_rfl) ⟨⟨_, rfl, bu_mk⟩, trivial⟩ ⟨lu (by kernel_rfl) (by kernel_rfl), lu_hd (b' := 0) (by kernel_rfl) (by kernel_rfl), lu (by kernel_rfl) (by kernel_rfl), trivial⟩)
    refine Sem.seq ?_
    refine Sem.seq ?_
    refine Sem.runS (s1 := ⟨Fr 34 [(0, .v (.int .i64 x0)), (4, hd 0 (v1.1.map (cdL 1 (cdL 1 cdI)).enc)), (6, .e0), (17, .v (.int .i64 x0)), (18, .v (.int .i64 0))], [mk 1 36 (v1.1.map (cdL 1 (cdL 1 cdI)).enc)]⟩) ?_ ?_
    · refine RunS.segF (n := 34) e_evening_Plane_ok 2 [(0, .v (.int .i64 x0)), (4, hd 0 (v1.1.map (cdL 1 (cdL 1 cdI)).enc)), (6, .e0), (17, .v (.int .i64 x0)), (18, .v (.int .i64 0))] [mk 1 36 (v1.1.map (cdL 1 (cdL 1 cdI)).enc)] (by kernel_rfl) ?_
      exact RunS.done rfl (Wk.sel2 [0] (by kernel_rfl) (by kernel_rfl) (by kernel_rfl) ⟨⟨_, rfl, bu_mk⟩, trivial⟩ ⟨lu (by kernel_rfl) (by kernel_rfl), lu_hd (b' := 0) (by kernel_rfl) (by kernel_rfl), lu (by kernel_rfl) (by kernel_rfl), lu (by kernel_rfl) (by kernel_rfl), lu (by kernel_rfl) (by kernel_rfl), trivial⟩)
    refine Sem.block ?_
    obtain ⟨r9, hr9, h⟩ := Option.bind_eq_some_iff.1 h
    refine Sem.loop (n := 100000) ?_
    refine Sem.cutN (SemN.wk (s1 := ⟨Fr 34 [(0, .v (.int .i64 x0)), (4, hd 0 (v1.1.map (cdL 1 (cdL 1 cdI)).enc)), (6, hd 1 ([].map (cdL 1 cdI).enc)), (17, .v (.int .i64 x0)), (18, .v (.int .i64 0))], [mk 1 36 (v1.1.map (cdL 1 (cdL 1 cdI)).enc), mk 1 29 ([].map (cdL 1 cdI).enc)]⟩) (Wk.trans (s1 := ⟨Fr 34 [(0, .v (.int .i64 x0)), (4, hd 0 (v1.1.map (cdL 1 (cdL 1 cdI)).enc)), (6, hd 1 ([].map (cdL 1 cdI).enc)), (17, .v (.int .i64 x0)), (18, .v (.int .i64 0))], [mk 1 36 (v1.1.map (cdL 1 (cdL 1 cdI)).enc), mk 1 29 ([].map (cdL 1 cdI).enc)]⟩) Wk.none (Wk.sel2 [0, 1] (by kernel_rfl) (by kernel_rfl) (by kernel_rfl) ⟨⟨_, rfl, bu_mk⟩, ⟨_, rfl, bu_none⟩, trivial⟩ ⟨lu (by kernel_rfl) (by kernel_rfl), lu_hd (b' := 0) (by kernel_rfl) (by kernel_rfl), lu (by kernel_rfl) (by kernel_rfl), lu (by kernel_rfl) (by kernel_rfl), lu (by kernel_rfl) (by kernel_rfl), trivial⟩)) (evening_Plane_1_ok x0 v1 _ [] 0 _ hr9)) ?_
    refine Sem.seq ?_
    by_cases hk10 : (capOk 24 (v1.1.length + 1)) = true
    case neg => rw [if_neg hk10] at h; cases h
    rw [if_pos hk10] at h
    refine Sem.runS (s1 := ⟨Fr 34 [(2, hd 0 ((v1.1 ++ [r9]).map (cdL 1 (cdL 1 cdI)).enc)), (3, .v (.int .i64 0))], [mk 1 36 ((v1.1 ++ [r9]).map (cdL 1 (cdL 1 cdI)).enc)]⟩) ?_ ?_
    · refine RunS.segF (n := 34) e_evening_Plane_ok 2 [(30, hd 0 (v1.1.map (cdL 1 (cdL 1 cdI)).enc)), (31, hd 1 (r9.map (cdL 1 cdI).enc))] [mk 1 36 (v1.1.map (cdL 1 (cdL 1 cdI)).enc), mk 1 29 (r9.map (cdL 1 cdI).enc)] (by kernel_rfl) ?_
      refine RunS.wk (s1 := ⟨Fr 34 [(30, hd 0 (v1.1.map (cdL 1 (cdL 1 cdI)).enc)), (31, .sl 1 (r9.map (cdL 1 cdI).enc))], [mk 1 36 (v1.1.map (cdL 1 (cdL 1 cdI)).enc), none]⟩) (Wk.frzG 1 (.inl (by kernel_rfl)) ⟨.inr (.inl rfl), .inl rfl, trivial⟩ ⟨⟨hd 0 (v1.1.map (cdL 1 (cdL 1 cdI)).enc), (by kernel_rfl), .inl rfl⟩, ⟨hd 1 (r9.map (cdL 1 cdI).enc), (by kernel_rfl), fz_hd (t := 29) (by kernel_rfl) enc_ok⟩, trivial⟩) ?_
      refine RunS.segF (n := 34) e_evening_Plane_ok 1 [(30, hd 0 (v1.1.map (cdL 1 (cdL 1 cdI)).enc)), (32, hd 2 ([r9].map (cdL 1 (cdL 1 cdI)).enc))] [mk 1 36 (v1.1.map (cdL 1 (cdL 1 cdI)).enc), none, mk 1 36 ([r9].map (cdL 1 (cdL 1 cdI)).enc)] (by kernel_rfl) ?_
      refine RunS.one e_evening_Plane_ok 0 rfl (op_w (wantedA_none rfl) rfl (by kernel_rfl) (by kernel_rfl) (w_append (a := hd 0 (v1.1.map (cdL 1 (cdL 1 cdI)).enc)) (b := hd 2 ([r9].map (cdL 1 (cdL 1 cdI)).enc)) (by kernel_rfl) (by kernel_rfl) (append_B (c := (cdL 1 (cdL 1 cdI))) (xs := v1.1) (vs := [r9]) (k := 1) (bytes := 24) (el := 36) (by kernel_rfl) (by kernel_rfl) (elems_hd (t := 36) (by kernel_rfl)) (List.cons_ne_nil _ _) (by kernel_rfl) hk10))) ?_
      refine RunS.segF (n := 34) e_evening_Plane_ok 2 [(2, hd 3 ((v1.1 ++ [r9]).map (cdL 1 (cdL 1 cdI)).enc)), (3, .v (.int .i64 0))] [none, none, mk 1 36 ([r9].map (cdL 1 (cdL 1 cdI)).enc), mk 1 36 ((v1.1 ++ [r9]).map (cdL 1 (cdL 1 cdI)).enc)] (by kernel_rfl) ?_
      exact RunS.done rfl (Wk.sel2 [3] (by kernel_rfl) (by kernel_rfl) (by kernel_rfl) ⟨⟨_, rfl, bu_mk⟩, trivial⟩ ⟨lu_hd (b' := 3) (by kernel_rfl) (by kernel_rfl), lu (by kernel_rfl) (by kernel_rfl), trivial⟩)
    refine Sem.ret ?_
    have hq := Option.some.inj h; subst hq
    exact ⟨⟨Fr 34 [(2, .sl 1 ((v1.1 ++ [r9]).map (cdL 1 (cdL 1 cdI)).enc)), (3, .v (.int .i64 0))], []⟩, (Wk.trans (s1 := ⟨Fr 34 [(2, .sl 1 ((v1.1 ++ [r9]).map (cdL 1 (cdL 1 cdI)).enc)), (3, .v (.int .i64 0))], [none]⟩) (Wk.frzG 0 (.inl (by kernel_rfl)) ⟨.inl rfl, trivial⟩ ⟨⟨hd 0 ((v1.1 ++ [r9]).map (cdL 1 (cdL 1 cdI)).enc), (by kernel_rfl), fz_hd (t := 36) (by kernel_rfl) enc_ok⟩, ⟨.v (.int .i64 0), (by kernel_rfl), .inl rfl⟩, trivial⟩) (Wk.sel2 [] (by kernel_rfl) (by kernel_rfl) (by kernel_rfl) trivial ⟨lu (by kernel_rfl) (by kernel_rfl), lu (by kernel_rfl) (by kernel_rfl), trivial⟩)), .inr rfl, [.sl 1 ((v1.1 ++ [r9]).map (cdL 1 (cdL 1 cdI)).enc), .v (.int .i64 0)], (by kernel_rfl), (by kernel_rfl)⟩
def t_evening_Plane : List AV → Option AV := told cs_evening_Plane (fun a => evening_Plane a.1) er_evening_Plane
theorem x_evening_Plane : XOk 30 t_evening_Plane := by
  refine EnvOk.x (E := e_evening_Plane) (contract_ok e_evening_Plane_ok (fn := Tryd.f30) (c := cb_evening_Plane) ?h1 ?h2 ⟨Tryd.call30⟩ cs_evening_Plane (fun a => evening_Plane a.1) er_evening_Plane (fun a => (by show 1 ≤ 34; decide)) ?h3 ?h4) rfl rfl
  case h1 => kernel_rfl
  case h2 => kernel_rfl
  case h3 => intro b; kernel_rfl
  case h4 => exact fun a b h => evening_Plane_sem a.1 b h
end Go.Proofs.YtnmkejapogklmaaDoor

namespace Go.Proofs.YtnmkejapogklmaaDoor
open Go.RowKit
/- trestle/evening.Design -/
noncomputable def e_evening_Design : Env := (((((((E0.withX 34 t_evening_guests).withX 35 t_evening_span).withX 36 t_evening_alone).withX 29 t_evening_Pairs).withX 37 t_evening_Kirkman).withX 30 t_evening_Plane).withX 38 t_evening_Net)
theorem e_evening_Design_ok : EnvOk e_evening_Design := (EnvOk.withX (EnvOk.withX (EnvOk.withX (EnvOk.withX (EnvOk.withX (EnvOk.withX (EnvOk.withX E0_ok x_evening_guests.1 x_evening_guests.2) x_evening_span.1 x_evening_span.2) x_evening_alone.1 x_evening_alone.2) x_evening_Pairs.1 x_evening_Pairs.2) x_evening_Kirkman.1 x_evening_Kirkman.2) x_evening_Plane.1 x_evening_Plane.2) x_evening_Net.1 x_evening_Net.2)
noncomputable def cb_evening_Design : Code := codeOf Tryd.f8
def evening_Design_j1 (x0 : Int) (x1 : Int) (x2 : Int) : Option (((List (List (List Int))))) :=
  if (x1 == 2) = true then
  (evening_Pairs x0).bind fun v18 =>
  some v18.1
  else
  some []
def evening_Design_j2 (x0 : Int) (x1 : Int) (x2 : Int) (r20 : (List (List (List Int)))) (j22 : Bool) : Option (((List (List (List Int))))) :=
  if j22 = true then
  evening_Kirkman.bind fun v24 =>
  some v24
  else
  some r20
def evening_Design_j3 (x0 : Int) (x1 : Int) (x2 : Int) (r26 : (List (List (List Int)))) (j28 : Bool) : Option (((List (List (List Int))))) :=
  if j28 = true then
  (evening_Plane x1).bind fun v30 =>
  some v30.1
  else
  some r26
def evening_Design_j4 (x0 : Int) (x1 : Int) (x2 : Int) (r32 : (List (List (List Int)))) : Option (((List (List (List Int))))) :=
  if (decide ((r32.length : Int) < x2)) = true then
  if x1 = (0 : Int) then none else
  (evening_Net x1 (wr .i64 (x0.tdiv x1))).bind fun v35 =>
  some v35.1
  else
  some r32
def evening_Design (x0 : Int) (x1 : Int) (x2 : Int) : Option ((List (List (List Int))) × Int) :=
  (evening_guests x0).bind fun v1 =>
  (if (!v1) = true then some true else if (decide (x1 < 1)) = true then some true else if (decide (x1 > x0)) = true then some true else if x1 = (0 : Int) then none else
  some ((x0.tmod x1) != 0)).bind fun j4 =>
  if j4 = true then
  some ([], 90)
  else
  (if (decide (x2 < 0)) = true then some true else some (decide (x2 > 64))).bind fun j7 =>
  if j7 = true then
  some ([], 2)
  else
  if (x2 == 0) = true then
  some ([], 0)
  else
  (if (x1 == x0) = true then some (x2 == 1) else some false).bind fun j11 =>
  if j11 = true then
  (evening_span 0 x0).bind fun v13 =>
  some ([[v13]], 0)
  else
  if (x1 == 1) = true then
  (evening_alone x0).bind fun v15 =>
  if (cutOk 0 x2 v15.length) = true then
  some (((v15.take x2.toNat).drop (0 : Int).toNat), 0)
  else none
  else
  (evening_Design_j1 x0 x1 x2).bind fun r20 =>
  (if (x1 == 3) = true then some (x0 == 15) else some false).bind fun j22 =>
  (evening_Design_j2 x0 x1 x2 r20 j22).bind fun r26 =>
  (if ((wr .i64 (x1 * x1)) == x0) = true then some (decide ((r26.length : Int) < x2)) else some false).bind fun j28 =>
  (evening_Design_j3 x0 x1 x2 r26 j28).bind fun r32 =>
  (evening_Design_j4 x0 x1 x2 r32).bind fun r37 =>
  if (decide ((r37.length : Int) < x2)) = true then
  some ([], 91)
  else
  if (cutOk 0 x2 r37.length) = true then
  some (((r37.take x2.toNat).drop (0 : Int).toNat), 0)
  else none
def cs_evening_Design : Cs (Int × Int × Int × Unit) := (csC cdI (csC cdI (csC cdI csN)))
def er_evening_Design (r : (List (List (List Int))) × Int) : AV := .tp [(cdL 1 (cdL 1 (cdL 1 cdI))).enc r.1, cdI.enc r.2]
set_option maxHeartbeats 4000000 in
set_option maxRecDepth 100000 in
theorem evening_Design_j1_ok (x0 : Int) (x1 : Int) (x2 : Int) (r : ((List (List (List Int))))) (h : evening_Design_j1 x0 x1 x2 = some r) : Sem e_evening_Design ⟨none, false⟩ (pc cb_evening_Design [1, 1, 1, 0, 1]) ⟨Fr 106 [(0, .v (.int .i64 x0)), (1, .v (.int .i64 x1)), (2, .v (.int .i64 x2)), (8, .e0), (58, .v (.bool (x1 == 2)))], []⟩ (fun e s => e = .normal ∧ Wk e_evening_Design s ⟨Fr 106 [(0, .v (.int .i64 x0)), (1, .v (.int .i64 x1)), (2, .v (.int .i64 x2)), (8, .sl 1 (r.map (cdL 1 (cdL 1 cdI)).enc))], []⟩) := by
  unfold evening_Design_j1 at h
  refine Sem.cond (b := (x1 == 2)) (by kernel_rfl) (fun hb17 => ?_) (fun hb17 => ?_)
  · rw [if_pos hb17] at h
    obtain ⟨v18, hv18, h⟩ := Option.bind_eq_some_iff.1 h
    refine Sem.runS (s1 := ⟨Fr 106 [(0, .v (.int .i64 x0)), (1, .v (.int .i64 x1)), (2, .v (.int .i64 x2)), (8, .sl 1 (v18.1.map (cdL 1 (cdL 1 cdI)).enc))], []⟩) ?_ ?_
    · refine RunS.segF (n := 106) e_evening_Design_ok 1 [(0, .v (.int .i64 x0)), (1, .v (.int .i64 x1)), (2, .v (.int .i64 x2)), (60, .v (.int .i64 x0))] [] (by kernel_rfl) ?_
      refine RunS.call e_evening_Design_ok (fid := 29) (s := cs_evening_Pairs) (F := fun a => evening_Pairs a.1) (er := er_evening_Pairs) (xs := [.v (.int .i64 x0)]) (a := (x0, ())) rfl (wantedA_none rfl) (by kernel_rfl) (by kernel_rfl) (by kernel_rfl) (by kernel_rfl) (Sns.cons (Sn.enc (c := cdI) (v := x0)) Sns.nil) (.inl (by kernel_rfl)) hv18 ?_
      refine RunS.segF (n := 106) e_evening_Design_ok 4 [(0, .v (.int .i64 x0)), (1, .v (.int .i64 x1)), (2, .v (.int .i64 x2)), (8, .sl 1 (v18.1.map (cdL 1 (cdL 1 cdI)).enc))] [] (by kernel_rfl) ?_
      exact RunS.done rfl (Wk.fr (by kernel_rfl))
    have hq := Option.some.inj h; subst hq
    exact ⟨rfl, (Wk.fr (by kernel_rfl))⟩
  · rw [if_f hb17] at h
    refine Sem.skip ?_
    have hq := Option.some.inj h; subst hq
    exact ⟨rfl, (Wk.trans (s1 := ⟨Fr 106 [(0, .v (.int .i64 x0)), (1, .v (.int .i64 x1)), (2, .v (.int .i64 x2)), (8, .e0)], []⟩) (Wk.fr (by kernel_rfl)) (Wk.trans (s1 := ⟨Fr 106 [(0, .v (.int .i64 x0)), (1, .v (.int .i64 x1)), (2, .v (.int .i64 x2)), (8, .e0)], [none]⟩) Wk.none (Wk.trans (s1 := ⟨Fr 106 [(0, .v (.int .i64 x0)), (1, .v (.int .i64 x1)), (2, .v (.int .i64 x2)), (8, .sl 1 ([].map (cdL 1 (cdL 1 cdI)).enc))], [none]⟩) (Wk.frzG 0 (.inr (by kernel_rfl)) ⟨.inl rfl, trivial⟩ ⟨⟨.v (.int .i64 x0), (by kernel_rfl), .inl rfl⟩, ⟨.v (.int .i64 x1), (by kernel_rfl), .inl rfl⟩, ⟨.v (.int .i64 x2), (by kernel_rfl), .inl rfl⟩, ⟨.e0, (by kernel_rfl), fz_e0⟩, trivial⟩) (Wk.sel2 [] (by kernel_rfl) (by kernel_rfl) (by kernel_rfl) trivial ⟨lu (by kernel_rfl) (by kernel_rfl), lu (by kernel_rfl) (by kernel_rfl), lu (by kernel_rfl) (by kernel_rfl), lu (by kernel_rfl) (by kernel_rfl), trivial⟩))))⟩
set_option maxHeartbeats 4000000 in
set_option maxRecDepth 100000 in
theorem evening_Design_j2_ok (x0 : Int) (x1 : Int) (x2 : Int) (r20 : (List (List (List Int)))) (j22 : Bool) (r : ((List (List (List Int))))) (h : evening_Design_j2 x0 x1 x2 r20 j22 = some r) : Sem e_evening_Design ⟨none, false⟩ (pc cb_evening_Design [1, 1, 1, 1, 0, 1]) ⟨Fr 106 [(0, .v (.int .i64 x0)), (1, .v (.int .i64 x1)), (2, .v (.int .i64 x2)), (8, .sl 1 (r20.map (cdL 1 (cdL 1 cdI)).enc)), (69, .v (.bool j22))], []⟩ (fun e s => e = .normal ∧ Wk e_evening_Design s ⟨Fr 106 [(0, .v (.int .i64 x0)), (1, .v (.int .i64 x1)), (2, .v (.int .i64 x2)), (8, .sl 1 (r.map (cdL 1 (cdL 1 cdI)).enc))], []⟩) := by
  unfold evening_Design_j2 at h
  refine Sem.cond (b := j22) (by kernel_rfl) (fun hb23 => ?_) (fun hb23 => ?_)
  · rw [if_pos hb23] at h
    obtain ⟨v24, hv24, h⟩ := Option.bind_eq_some_iff.1 h
    refine Sem.runS (s1 := ⟨Fr 106 [(0, .v (.int .i64 x0)), (1, .v (.int .i64 x1)), (2, .v (.int .i64 x2)), (8, .sl 1 (v24.map (cdL 1 (cdL 1 cdI)).enc))], []⟩) ?_ ?_
    · refine RunS.call e_evening_Design_ok (fid := 37) (s := cs_evening_Kirkman) (F := fun a => evening_Kirkman ) (er := er_evening_Kirkman) (xs := []) (a := (())) rfl (wantedA_none rfl) (by kernel_rfl) (by kernel_rfl) (by kernel_rfl) (by kernel_rfl) Sns.nil (.inl (by kernel_rfl)) hv24 ?_
      refine RunS.segF (n := 106) e_evening_Design_ok 1 [(0, .v (.int .i64 x0)), (1, .v (.int .i64 x1)), (2, .v (.int .i64 x2)), (8, .sl 1 (v24.map (cdL 1 (cdL 1 cdI)).enc))] [] (by kernel_rfl) ?_
      exact RunS.done rfl (Wk.fr (by kernel_rfl))
    have hq := Option.some.inj h; subst hq
    exact ⟨rfl, (Wk.fr (by kernel_rfl))⟩
  · rw [if_f hb23] at h
    refine Sem.skip ?_
    have hq := Option.some.inj h; subst hq
    exact ⟨rfl, (Wk.fr (by kernel_rfl))⟩
set_option maxHeartbeats 4000000 in
set_option maxRecDepth 100000 in
theorem evening_Design_j3_ok (x0 : Int) (x1 : Int) (x2 : Int) (r26 : (List (List (List Int)))) (j28 : Bool) (r : ((List (List (List Int))))) (h : evening_Design_j3 x0 x1 x2 r26 j28 = some r) : Sem e_evening_Design ⟨none, false⟩ (pc cb_evening_Design [1, 1, 1, 1, 1, 0, 1]) ⟨Fr 106 [(0, .v (.int .i64 x0)), (1, .v (.int .i64 x1)), (2, .v (.int .i64 x2)), (8, .sl 1 (r26.map (cdL 1 (cdL 1 cdI)).enc)), (81, .v (.bool j28))], []⟩ (fun e s => e = .normal ∧ Wk e_evening_Design s ⟨Fr 106 [(0, .v (.int .i64 x0)), (1, .v (.int .i64 x1)), (2, .v (.int .i64 x2)), (8, .sl 1 (r.map (cdL 1 (cdL 1 cdI)).enc))], []⟩) := by
  unfold evening_Design_j3 at h
  refine Sem.cond (b := j28) (by kernel_rfl) (fun hb29 => ?_) (fun hb29 => ?_)
  · rw [if_pos hb29] at h
    obtain ⟨v30, hv30, h⟩ := Option.bind_eq_some_iff.1 h
    refine Sem.runS (s1 := ⟨Fr 106 [(0, .v (.int .i64 x0)), (1, .v (.int .i64 x1)), (2, .v (.int .i64 x2)), (8, .sl 1 (v30.1.map (cdL 1 (cdL 1 cdI)).enc))], []⟩) ?_ ?_
    · refine RunS.segF (n := 106) e_evening_Design_ok 1 [(0, .v (.int .i64 x0)), (1, .v (.int .i64 x1)), (2, .v (.int .i64 x2)), (83, .v (.int .i64 x1))] [] (by kernel_rfl) ?_
      refine RunS.call e_evening_Design_ok (fid := 30) (s := cs_evening_Plane) (F := fun a => evening_Plane a.1) (er := er_evening_Plane) (xs := [.v (.int .i64 x1)]) (a := (x1, ())) rfl (wantedA_none rfl) (by kernel_rfl) (by kernel_rfl) (by kernel_rfl) (by kernel_rfl) (Sns.cons (Sn.enc (c := cdI) (v := x1)) Sns.nil) (.inl (by kernel_rfl)) hv30 ?_
      refine RunS.segF (n := 106) e_evening_Design_ok 4 [(0, .v (.int .i64 x0)), (1, .v (.int .i64 x1)), (2, .v (.int .i64 x2)), (8, .sl 1 (v30.1.map (cdL 1 (cdL 1 cdI)).enc))] [] (by kernel_rfl) ?_
      exact RunS.done rfl (Wk.fr (by kernel_rfl))
    have hq := Option.some.inj h; subst hq
    exact ⟨rfl, (Wk.fr (by kernel_rfl))⟩
  · rw [if_f hb29] at h
    refine Sem.skip ?_
    have hq := Option.some.inj h; subst hq
    exact ⟨rfl, (Wk.fr (by kernel_rfl))⟩
set_option maxHeartbeats 4000000 in
set_option maxRecDepth 100000 in
theorem evening_Design_j4_ok (x0 : Int) (x1 : Int) (x2 : Int) (r32 : (List (List (List Int)))) (r : ((List (List (List Int))))) (h : evening_Design_j4 x0 x1 x2 r32 = some r) : Sem e_evening_Design ⟨none, false⟩ (pc cb_evening_Design [1, 1, 1, 1, 1, 1, 0, 1]) ⟨Fr 106 [(0, .v (.int .i64 x0)), (1, .v (.int .i64 x1)), (2, .v (.int .i64 x2)), (8, .sl 1 (r32.map (cdL 1 (cdL 1 cdI)).enc)), (90, .v (.bool (decide ((r32.length : Int) < x2))))], []⟩ (fun e s => e = .normal ∧ Wk e_evening_Design s ⟨Fr 106 [(2, .v (.int .i64 x2)), (8, .sl 1 (r.map (cdL 1 (cdL 1 cdI)).enc))], []⟩) := by
  unfold evening_Design_j4 at h
  refine Sem.cond (b := (decide ((r32.length : Int) < x2))) (by kernel_rfl) (fun hb33 => ?_) (fun hb33 => ?_)
  · rw [if_pos hb33] at h
    by_cases hz34 : x1 = (0 : Int)
    · rw [if_pos hz34] at h; cases h
    rw [if_neg hz34] at h
    obtain ⟨v35, hv35, h⟩ := Option.bind_eq_some_iff.1 h
    refine Sem.runS (s1 := ⟨Fr 106 [(2, .v (.int .i64 x2)), (8, .sl 1 (v35.1.map (cdL 1 (cdL 1 cdI)).enc))], []⟩) ?_ ?_
    · refine RunS.segF (n := 106) e_evening_Design_ok 3 [(2, .v (.int .i64 x2)), (92, .v (.int .i64 x1)), (93, .v (.int .i64 x0)), (94, .v (.int .i64 x1))] [] (by kernel_rfl) ?_
      refine RunS.one e_evening_Design_ok 0 rfl (op_q (wantedA_none rfl) rfl (q_bin (a := .v (.int .i64 x0)) (b := .v (.int .i64 x1)) (by kernel_rfl) (by kernel_rfl) (bin_quo hz34))) ?_
      refine RunS.call e_evening_Design_ok (fid := 38) (b := v35) (s := cs_evening_Net) (F := fun a => evening_Net a.1 a.2.1) (er := er_evening_Net) (xs := [.v (.int .i64 x1), .v (.int .i64 (wr .i64 (x0.tdiv x1)))]) (a := (x1, (wr .i64 (x0.tdiv x1)), ())) rfl (wantedA_none rfl) (by kernel_rfl) (by kernel_rfl) (by kernel_rfl) (by kernel_rfl) (Sns.cons (Sn.enc (c := cdI) (v := x1)) (Sns.cons (Sn.enc (c := cdI) (v := (wr .i64 (x0.tdiv x1)))) Sns.nil)) (.inl (by kernel_rfl)) (by dsimp only; exact hv35) ?_
      refine RunS.segF (n := 106) e_evening_Design_ok 4 [(2, .v (.int .i64 x2)), (8, .sl 1 (v35.1.map (cdL 1 (cdL 1 cdI)).enc))] [] (by kernel_rfl) ?_
      exact RunS.done rfl (Wk.fr (by kernel_rfl))
    have hq := Option.some.inj h; subst hq
    exact ⟨rfl, (Wk.fr (by kernel_rfl))⟩
  · rw [if_f hb33] at h
    refine Sem.skip ?_
    have hq := Option.some.inj h; subst hq
    exact ⟨rfl, (Wk.fr (by kernel_rfl))⟩
set_option maxHeartbeats 4000000 in
set_option maxRecDepth 100000 in
theorem evening_Design_sem (x0 : Int) (x1 : Int) (x2 : Int) (r : (List (List (List Int))) × Int) (h : evening_Design x0 x1 x2 = some r) : Sem e_evening_Design ⟨none, false⟩ cb_evening_Design ⟨Fr 106 (pairs0 0 (cs_evening_Design.enc (x0, x1, x2, ()))), []⟩ fun e s' => (e = .normal ∨ e = .ret) ∧ ∃ xs, resA e_evening_Design.P s'.fr s'.hp Tryd.f8.results.toList = some xs ∧ retA xs = er_evening_Design r := by
  unfold evening_Design at h
  refine Sem.wkQ (Sem.wk (s1 := ⟨Fr 106 [(0, .v (.int .i64 x0)), (1, .v (.int .i64 x1)), (2, .v (.int .i64 x2))], []⟩) (Wk.fr (by kernel_rfl)) ?_)
  refine Sem.seq ?_
  refine Sem.runS (s1 := ⟨Fr 106 [(0, .v (.int .i64 x0)), (1, .v (.int .i64 x1)), (2, .v (.int .i64 x2))], []⟩) ?_ ?_
  · refine RunS.segF (n := 106) e_evening_Design_ok 2 [(0, .v (.int .i64 x0)), (1, .v (.int .i64 x1)), (2, .v (.int .i64 x2))] [] (by kernel_rfl) ?_
    exact RunS.done rfl (Wk.fr (by kernel_rfl))
  refine Sem.seq ?_
  refine Sem.block ?_
  refine Sem.seq ?_
  obtain ⟨v1, hv1, h⟩ := Option.bind_eq_some_iff.1 h
  obtain ⟨j4, hj4, h⟩ := Option.bind_eq_some_iff.1 h
  refine Sem.runS (s1 := ⟨Fr 106 [(0, .v (.int .i64 x0)), (1, .v (.int .i64 x1)), (2, .v (.int .i64 x2)), (9, .v (.bool j4))], []⟩) ?_ ?_
  · refine RunS.segF (n := 106) e_evening_Design_ok 1 [(0, .v (.int .i64 x0)), (1, .v (.int .i64 x1)), (2, .v (.int .i64 x2)), (10, .v (.int .i64 x0))] [] (by kernel_rfl) ?_
    refine RunS.call e_evening_Design_ok (fid := 34) (s := cs_evening_guests) (F := fun a => evening_guests a.1) (er := er_evening_guests) (xs := [.v (.int .i64 x0)]) (a := (x0, ())) rfl (wantedA_none rfl) (by kernel_rfl) (by kernel_rfl) (by kernel_rfl) (by kernel_rfl) (Sns.cons (Sn.enc (c := cdI) (v := x0)) Sns.nil) (.inl (by kernel_rfl)) hv1 ?_
    refine RunS.segF (n := 106) e_evening_Design_ok 2 [(0, .v (.int .i64 x0)), (1, .v (.int .i64 x1)), (2, .v (.int .i64 x2)), (13, .v (.bool (!v1)))] [] (by kernel_rfl) ?_
    rcases Bool.eq_false_or_eq_true (!v1) with hc44 | hc44
    · rw [if_pos hc44] at hj4
      rw [hc44]
      refine RunS.segF (n := 106) e_evening_Design_ok 15 [(0, .v (.int .i64 x0)), (1, .v (.int .i64 x1)), (2, .v (.int .i64 x2)), (9, .v (.bool true))] [] (by kernel_rfl) ?_
      have hq := Option.some.inj hj4; subst hq
      exact RunS.done rfl (Wk.fr (by kernel_rfl))
    · rw [if_f hc44] at hj4
      rw [hc44]
      refine RunS.segF (n := 106) e_evening_Design_ok 4 [(0, .v (.int .i64 x0)), (1, .v (.int .i64 x1)), (2, .v (.int .i64 x2)), (17, .v (.bool (decide (x1 < 1))))] [] (by kernel_rfl) ?_
      rcases Bool.eq_false_or_eq_true (decide (x1 < 1)) with hc45 | hc45
      · rw [if_pos hc45] at hj4
        rw [hc45]
        refine RunS.segF (n := 106) e_evening_Design_ok 11 [(0, .v (.int .i64 x0)), (1, .v (.int .i64 x1)), (2, .v (.int .i64 x2)), (9, .v (.bool true))] [] (by kernel_rfl) ?_
        have hq := Option.some.inj hj4; subst hq
        exact RunS.done rfl (Wk.fr (by kernel_rfl))
      · rw [if_f hc45] at hj4
        rw [hc45]
        refine RunS.segF (n := 106) e_evening_Design_ok 5 [(0, .v (.int .i64 x0)), (1, .v (.int .i64 x1)), (2, .v (.int .i64 x2)), (22, .v (.bool (decide (x1 > x0))))] [] (by kernel_rfl) ?_
        rcases Bool.eq_false_or_eq_true (decide (x1 > x0)) with hc46 | hc46
        · rw [if_pos hc46] at hj4
          rw [hc46]
          refine RunS.segF (n := 106) e_evening_Design_ok 6 [(0, .v (.int .i64 x0)), (1, .v (.int .i64 x1)), (2, .v (.int .i64 x2)), (9, .v (.bool true))] [] (by kernel_rfl) ?_
          have hq := Option.some.inj hj4; subst hq
          exact RunS.done rfl (Wk.fr (by kernel_rfl))
        · rw [if_f hc46] at hj4
          rw [hc46]
          refine RunS.segF (n := 106) e_evening_Design_ok 2 [(0, .v (.int .i64 x0)), (1, .v (.int .i64 x1)), (2, .v (.int .i64 x2)), (22, .v (.bool false)), (23, .v (.int .i64 x0)), (24, .v (.int .i64 x1))] [] (by kernel_rfl) ?_
          by_cases hz2 : x1 = (0 : Int)
          · rw [if_pos hz2] at hj4; cases hj4
          rw [if_neg hz2] at hj4
          refine RunS.one e_evening_Design_ok 0 rfl (op_q (by kernel_rfl) rfl (q_bin (a := .v (.int .i64 x0)) (b := .v (.int .i64 x1)) (by kernel_rfl) (by kernel_rfl) (bin_rem hz2))) ?_
          refine RunS.segF (n := 106) e_evening_Design_ok 3 [(0, .v (.int .i64 x0)), (1, .v (.int .i64 x1)), (2, .v (.int .i64 x2)), (9, .v (.bool ((x0.tmod x1) != 0)))] [] (by kernel_rfl) ?_
          have hq := Option.some.inj hj4; subst hq
          exact RunS.done rfl (Wk.fr (by kernel_rfl))
  refine Sem.cond (b := j4) (by kernel_rfl) (fun hb5 => ?_) (fun hb5 => ?_)
  · rw [if_pos hb5] at h
    refine Sem.seq ?_
    refine Sem.runS (s1 := ⟨Fr 106 [(6, .e0), (7, .v (.int .i64 90))], []⟩) ?_ ?_
    · refine RunS.segF (n := 106) e_evening_Design_ok 2 [(6, .e0), (7, .v (.int .i64 90))] [] (by kernel_rfl) ?_
      exact RunS.done rfl (Wk.fr (by kernel_rfl))
    refine Sem.ret ?_
    have hq := Option.some.inj h; subst hq
    exact ⟨⟨Fr 106 [(6, .sl 1 ([].map (cdL 1 (cdL 1 cdI)).enc)), (7, .v (.int .i64 90))], []⟩, (Wk.trans (s1 := ⟨Fr 106 [(6, .e0), (7, .v (.int .i64 90))], []⟩) (Wk.fr (by kernel_rfl)) (Wk.trans (s1 := ⟨Fr 106 [(6, .e0), (7, .v (.int .i64 90))], [none]⟩) Wk.none (Wk.trans (s1 := ⟨Fr 106 [(6, .sl 1 ([].map (cdL 1 (cdL 1 cdI)).enc)), (7, .v (.int .i64 90))], [none]⟩) (Wk.frzG 0 (.inr (by kernel_rfl)) ⟨.inl rfl, trivial⟩ ⟨⟨.e0, (by kernel_rfl), fz_e0⟩, ⟨.v (.int .i64 90), (by kernel_rfl), .inl rfl⟩, trivial⟩) (Wk.sel2 [] (by kernel_rfl) (by kernel_rfl) (by kernel_rfl) trivial ⟨lu (by kernel_rfl) (by kernel_rfl), lu (by kernel_rfl) (by kernel_rfl), trivial⟩)))), .inr rfl, [.sl 1 ([].map (cdL 1 (cdL 1 cdI)).enc), .v (.int .i64 90)], (by kernel_rfl), (by kernel_rfl)⟩
  · rw [if_f hb5] at h
    refine Sem.seq ?_
    obtain ⟨j7, hj7, h⟩ := Option.bind_eq_some_iff.1 h
    refine Sem.runS (s1 := ⟨Fr 106 [(0, .v (.int .i64 x0)), (1, .v (.int .i64 x1)), (2, .v (.int .i64 x2)), (28, .v (.bool j7))], []⟩) ?_ ?_
    · refine RunS.segF (n := 106) e_evening_Design_ok 3 [(0, .v (.int .i64 x0)), (1, .v (.int .i64 x1)), (2, .v (.int .i64 x2)), (31, .v (.bool (decide (x2 < 0))))] [] (by kernel_rfl) ?_
      rcases Bool.eq_false_or_eq_true (decide (x2 < 0)) with hc43 | hc43
      · rw [if_pos hc43] at hj7
        rw [hc43]
        refine RunS.segF (n := 106) e_evening_Design_ok 4 [(0, .v (.int .i64 x0)), (1, .v (.int .i64 x1)), (2, .v (.int .i64 x2)), (28, .v (.bool true))] [] (by kernel_rfl) ?_
        have hq := Option.some.inj hj7; subst hq
        exact RunS.done rfl (Wk.fr (by kernel_rfl))
      · rw [if_f hc43] at hj7
        rw [hc43]
        refine RunS.segF (n := 106) e_evening_Design_ok 4 [(0, .v (.int .i64 x0)), (1, .v (.int .i64 x1)), (2, .v (.int .i64 x2)), (28, .v (.bool (decide (x2 > 64))))] [] (by kernel_rfl) ?_
        have hq := Option.some.inj hj7; subst hq
        exact RunS.done rfl (Wk.fr (by kernel_rfl))
    refine Sem.cond (b := j7) (by kernel_rfl) (fun hb8 => ?_) (fun hb8 => ?_)
    · rw [if_pos hb8] at h
      refine Sem.seq ?_
      refine Sem.runS (s1 := ⟨Fr 106 [(6, .e0), (7, .v (.int .i64 2))], []⟩) ?_ ?_
      · refine RunS.segF (n := 106) e_evening_Design_ok 2 [(6, .e0), (7, .v (.int .i64 2))] [] (by kernel_rfl) ?_
        exact RunS.done rfl (Wk.fr (by kernel_rfl))
      refine Sem.ret ?_
      have hq := Option.some.inj h; subst hq
      exact ⟨⟨Fr 106 [(6, .sl 1 ([].map (cdL 1 (cdL 1 cdI)).enc)), (7, .v (.int .i64 2))], []⟩, (Wk.trans (s1 := ⟨Fr 106 [(6, .e0), (7, .v (.int .i64 2))], []⟩) (Wk.fr (by kernel_rfl)) (Wk.trans (s1 := ⟨Fr 106 [(6, .e0), (7, .v (.int .i64 2))], [none]⟩) Wk.none (Wk.trans (s1 := ⟨Fr 106 [(6, .sl 1 ([].map (cdL 1 (cdL 1 cdI)).enc)), (7, .v (.int .i64 2))], [none]⟩) (Wk.frzG 0 (.inr (by kernel_rfl)) ⟨.inl rfl, trivial⟩ ⟨⟨.e0, (by kernel_rfl), fz_e0⟩, ⟨.v (.int .i64 2), (by kernel_rfl), .inl rfl⟩, trivial⟩) (Wk.sel2 [] (by kernel_rfl) (by kernel_rfl) (by kernel_rfl) trivial ⟨lu (by kernel_rfl) (by kernel_rfl), lu (by kernel_rfl) (by kernel_rfl), trivial⟩)))), .inr rfl, [.sl 1 ([].map (cdL 1 (cdL 1 cdI)).enc), .v (.int .i64 2)], (by kernel_rfl), (by kernel_rfl)⟩
    · rw [if_f hb8] at h
      refine Sem.seq ?_
      refine Sem.runS (s1 := ⟨Fr 106 [(0, .v (.int .i64 x0)), (1, .v (.int .i64 x1)), (2, .v (.int .i64 x2)), (35, .v (.bool (x2 == 0)))], []⟩) ?_ ?_
      · refine RunS.segF (n := 106) e_evening_Design_ok 3 [(0, .v (.int .i64 x0)), (1, .v (.int .i64 x1)), (2, .v (.int .i64 x2)), (35, .v (.bool (x2 == 0)))] [] (by kernel_rfl) ?_
        exact RunS.done rfl (Wk.fr (by kernel_rfl))
      refine Sem.cond (b := (x2 == 0)) (by kernel_rfl) (fun hb9 => ?_) (fun hb9 => ?_)
      · rw [if_pos hb9] at h
        refine Sem.seq ?_
        refine Sem.runS (s1 := ⟨Fr 106 [(6, .e0), (7, .v (.int .i64 0))], []⟩) ?_ ?_
        · refine RunS.segF (n := 106) e_evening_Design_ok 2 [(6, .e0), (7, .v (.int .i64 0))] [] (by kernel_rfl) ?_
          exact RunS.done rfl (Wk.fr (by kernel_rfl))
        refine Sem.ret ?_
        have hq := Option.some.inj h; subst hq
        exact ⟨⟨Fr 106 [(6, .sl 1 ([].map (cdL 1 (cdL 1 cdI)).enc)), (7, .v (.int .i64 0))], []⟩, (Wk.trans (s1 := ⟨Fr 106 [(6, .e0), (7, .v (.int .i64 0))], []⟩) (Wk.fr (by kernel_rfl)) (Wk.trans (s1 := ⟨Fr 106 [(6, .e0), (7, .v (.int .i64 0))], [none]⟩) Wk.none (Wk.trans (s1 := ⟨Fr 106 [(6, .sl 1 ([].map (cdL 1 (cdL 1 cdI)).enc)), (7, .v (.int .i64 0))], [none]⟩) (Wk.frzG 0 (.inr (by kernel_rfl)) ⟨.inl rfl, trivial⟩ ⟨⟨.e0, (by kernel_rfl), fz_e0⟩, ⟨.v (.int .i64 0), (by kernel_rfl), .inl rfl⟩, trivial⟩) (Wk.sel2 [] (by kernel_rfl) (by kernel_rfl) (by kernel_rfl) trivial ⟨lu (by kernel_rfl) (by kernel_rfl), lu (by kernel_rfl) (by kernel_rfl), trivial⟩)))), .inr rfl, [.sl 1 ([].map (cdL 1 (cdL 1 cdI)).enc), .v (.int .i64 0)], (by kernel_rfl), (by kernel_rfl)⟩
      · rw [if_f hb9] at h
        refine Sem.seq ?_
        obtain ⟨j11, hj11, h⟩ := Option.bind_eq_some_iff.1 h
        refine Sem.runS (s1 := ⟨Fr 106 [(0, .v (.int .i64 x0)), (1, .v (.int .i64 x1)), (2, .v (.int .i64 x2)), (38, .v (.bool j11))], []⟩) ?_ ?_
        · refine RunS.segF (n := 106) e_evening_Design_ok 4 [(0, .v (.int .i64 x0)), (1, .v (.int .i64 x1)), (2, .v (.int .i64 x2)), (42, .v (.bool (x1 == x0)))] [] (by kernel_rfl) ?_
          rcases Bool.eq_false_or_eq_true (x1 == x0) with hc42 | hc42
          · rw [if_pos hc42] at hj11
            rw [hc42]
            refine RunS.segF (n := 106) e_evening_Design_ok 4 [(0, .v (.int .i64 x0)), (1, .v (.int .i64 x1)), (2, .v (.int .i64 x2)), (38, .v (.bool (x2 == 1)))] [] (by kernel_rfl) ?_
            have hq := Option.some.inj hj11; subst hq
            exact RunS.done rfl (Wk.fr (by kernel_rfl))
          · rw [if_f hc42] at hj11
            rw [hc42]
            refine RunS.segF (n := 106) e_evening_Design_ok 4 [(0, .v (.int .i64 x0)), (1, .v (.int .i64 x1)), (2, .v (.int .i64 x2)), (38, .v (.bool false))] [] (by kernel_rfl) ?_
            have hq := Option.some.inj hj11; subst hq
            exact RunS.done rfl (Wk.fr (by kernel_rfl))
        refine Sem.cond (b := j11) (by kernel_rfl) (fun hb12 => ?_) (fun hb12 => ?_)
        · rw [if_pos hb12] at h
          refine Sem.seq ?_
          obtain ⟨v13, hv13, h⟩ := Option.bind_eq_some_iff.1 h
          refine Sem.runS (s1 := ⟨Fr 106 [(6, hd 0 ([[v13]].map (cdL 1 (cdL 1 cdI)).enc)), (7, .v (.int .i64 0))], [mk 1 36 ([[v13]].map (cdL 1 (cdL 1 cdI)).enc)]⟩) ?_ ?_
          · refine RunS.segF (n := 106) e_evening_Design_ok 1 [(46, .v (.int .i64 x0))] [] (by kernel_rfl) ?_
            refine RunS.call e_evening_Design_ok (fid := 35) (s := cs_evening_span) (F := fun a => evening_span a.1 a.2.1) (er := er_evening_span) (xs := [.v (.int .i64 0), .v (.int .i64 x0)]) (a := (0, x0, ())) rfl (wantedA_none rfl) (by kernel_rfl) (by kernel_rfl) (by kernel_rfl) (by kernel_rfl) (Sns.cons (Sn.enc (c := cdI) (v := 0)) (Sns.cons (Sn.enc (c := cdI) (v := x0)) Sns.nil)) (.inl (by kernel_rfl)) hv13 ?_
            refine RunS.segF (n := 106) e_evening_Design_ok 4 [(6, .rf 1 0 1 1), (7, .v (.int .i64 0))] [mk 1 29 ([v13].map (cdL 1 cdI).enc), some ⟨1, 36, [hd 0 ([v13].map (cdL 1 cdI).enc)], false⟩] (by kernel_rfl) ?_
            exact RunS.done rfl (Wk.trans (s1 := ⟨Fr 106 [(6, hd 1 ([[v13]].map (cdL 1 (cdL 1 cdI)).enc)), (7, .v (.int .i64 0))], [none, mk 1 36 ([[v13]].map (cdL 1 (cdL 1 cdI)).enc)]⟩) (Wk.frzG 0 (.inl (by kernel_rfl)) ⟨.inl rfl, .inr (.inr ⟨_, _, _, _, rfl, rfl, ⟨fz_hd (t := 29) (by kernel_rfl) enc_ok, trivial⟩⟩), trivial⟩ ⟨⟨.rf 1 0 1 1, (by kernel_rfl), .inl rfl⟩, ⟨.v (.int .i64 0), (by kernel_rfl), .inl rfl⟩, trivial⟩) (Wk.sel2 [1] (by kernel_rfl) (by kernel_rfl) (by kernel_rfl) ⟨⟨_, rfl, bu_mk⟩, trivial⟩ ⟨lu_hd (b' := 1) (by kernel_rfl) (by kernel_rfl), lu (by kernel_rfl) (by kernel_rfl), trivial⟩))
          refine Sem.ret ?_
          have hq := Option.some.inj h; subst hq
          exact ⟨⟨Fr 106 [(6, .sl 1 ([[v13]].map (cdL 1 (cdL 1 cdI)).enc)), (7, .v (.int .i64 0))], []⟩, (Wk.trans (s1 := ⟨Fr 106 [(6, .sl 1 ([[v13]].map (cdL 1 (cdL 1 cdI)).enc)), (7, .v (.int .i64 0))], [none]⟩) (Wk.frzG 0 (.inl (by kernel_rfl)) ⟨.inl rfl, trivial⟩ ⟨⟨hd 0 ([[v13]].map (cdL 1 (cdL 1 cdI)).enc), (by kernel_rfl), fz_hd (t := 36) (by kernel_rfl) enc_ok⟩, ⟨.v (.int .i64 0), (by kernel_rfl), .inl rfl⟩, trivial⟩) (Wk.sel2 [] (by kernel_rfl) (by kernel_rfl) (by kernel_rfl) trivial ⟨lu (by kernel_rfl) (by kernel_rfl), lu (by kernel_rfl) (by kernel_rfl), trivial⟩)), .inr rfl, [.sl 1 ([[v13]].map (cdL 1 (cdL 1 cdI)).enc), .v (.int .i64 0)], (by kernel_rfl), (by kernel_rfl)⟩
        · rw [if_f hb12] at h
          refine Sem.seq ?_
          refine Sem.runS (s1 := ⟨Fr 106 [(0, .v (.int .i64 x0)), (1, .v (.int .i64 x1)), (2, .v (.int .i64 x2)), (50, .v (.bool (x1 == 1)))], []⟩) ?_ ?_
          · refine RunS.segF (n := 106) e_evening_Design_ok 3 [(0, .v (.int .i64 x0)), (1, .v (.int .i64 x1)), (2, .v (.int .i64 x2)), (50, .v (.bool (x1 == 1)))] [] (by kernel_rfl) ?_
            exact RunS.done rfl (Wk.fr (by kernel_rfl))
          refine Sem.cond (b := (x1 == 1)) (by kernel_rfl) (fun hb14 => ?_) (fun hb14 => ?_)
          · rw [if_pos hb14] at h
            refine Sem.seq ?_
            obtain ⟨v15, hv15, h⟩ := Option.bind_eq_some_iff.1 h
            by_cases hk16 : (cutOk 0 x2 v15.length) = true
            case neg => rw [if_neg hk16] at h; cases h
            rw [if_pos hk16] at h
            refine Sem.runS (s1 := ⟨Fr 106 [(6, .sl 1 (((v15.take x2.toNat).drop (0 : Int).toNat).map (cdL 1 (cdL 1 cdI)).enc)), (7, .v (.int .i64 0))], []⟩) ?_ ?_
            · refine RunS.segF (n := 106) e_evening_Design_ok 1 [(2, .v (.int .i64 x2)), (53, .v (.int .i64 x0))] [] (by kernel_rfl) ?_
              refine RunS.call e_evening_Design_ok (fid := 36) (s := cs_evening_alone) (F := fun a => evening_alone a.1) (er := er_evening_alone) (xs := [.v (.int .i64 x0)]) (a := (x0, ())) rfl (wantedA_none rfl) (by kernel_rfl) (by kernel_rfl) (by kernel_rfl) (by kernel_rfl) (Sns.cons (Sn.enc (c := cdI) (v := x0)) Sns.nil) (.inl (by kernel_rfl)) hv15 ?_
              refine RunS.segF (n := 106) e_evening_Design_ok 1 [(54, .sl 1 (v15.map (cdL 1 (cdL 1 cdI)).enc)), (55, .v (.int .i64 x2))] [] (by kernel_rfl) ?_
              refine RunS.one e_evening_Design_ok 0 rfl (op_q (wantedA_none rfl) rfl (q_slice (a := .sl 1 (v15.map (cdL 1 (cdL 1 cdI)).enc)) (l := none) (u := (some (.v (.int .i64 x2)))) (m := none) (by kernel_rfl) (by kernel_rfl) (by kernel_rfl) rfl (slice_sl (xs := v15) (e := (cdL 1 (cdL 1 cdI)).enc) (k := 1) (el := 36) (lo := 0) (hi := x2) (by kernel_rfl) (by kernel_rfl) rfl (natB_i (cut_hi hk16)) hk16))) ?_
              refine RunS.segF (n := 106) e_evening_Design_ok 2 [(6, .sl 1 (((v15.take x2.toNat).drop (0 : Int).toNat).map (cdL 1 (cdL 1 cdI)).enc)), (7, .v (.int .i64 0))] [] (by kernel_rfl) ?_
              exact RunS.done rfl (Wk.fr (by kernel_rfl))
            refine Sem.ret ?_
            have hq := Option.some.inj h; subst hq
            exact ⟨⟨Fr 106 [(6, .sl 1 (((v15.take x2.toNat).drop (0 : Int).toNat).map (cdL 1 (cdL 1 cdI)).enc)), (7, .v (.int .i64 0))], []⟩, (Wk.fr (by kernel_rfl)), .inr rfl, [.sl 1 (((v15.take x2.toNat).drop (0 : Int).toNat).map (cdL 1 (cdL 1 cdI)).enc), .v (.int .i64 0)], (by kernel_rfl), (by kernel_rfl)⟩
          · rw [if_f hb14] at h
            refine Sem.skip ?_
            refine Sem.seq ?_
            refine Sem.runS (s1 := ⟨Fr 106 [(0, .v (.int .i64 x0)), (1, .v (.int .i64 x1)), (2, .v (.int .i64 x2)), (8, .e0)], []⟩) ?_ ?_
            · refine RunS.segF (n := 106) e_evening_Design_ok 1 [(0, .v (.int .i64 x0)), (1, .v (.int .i64 x1)), (2, .v (.int .i64 x2)), (8, .e0)] [] (by kernel_rfl) ?_
              exact RunS.done rfl (Wk.fr (by kernel_rfl))
            refine Sem.seq ?_
            refine Sem.seq ?_
            refine Sem.runS (s1 := ⟨Fr 106 [(0, .v (.int .i64 x0)), (1, .v (.int .i64 x1)), (2, .v (.int .i64 x2)), (8, .e0), (58, .v (.bool (x1 == 2)))], []⟩) ?_ ?_
            · refine RunS.segF (n := 106) e_evening_Design_ok 2 [(0, .v (.int .i64 x0)), (1, .v (.int .i64 x1)), (2, .v (.int .i64 x2)), (8, .e0), (58, .v (.bool (x1 == 2)))] [] (by kernel_rfl) ?_
              exact RunS.done rfl (Wk.fr (by kernel_rfl))
            obtain ⟨r20, hr20, h⟩ := Option.bind_eq_some_iff.1 h
            refine Sem.cut (evening_Design_j1_ok x0 x1 x2 _ hr20) ?_
            refine Sem.seq ?_
            refine Sem.seq ?_
            obtain ⟨j22, hj22, h⟩ := Option.bind_eq_some_iff.1 h
            refine Sem.runS (s1 := ⟨Fr 106 [(0, .v (.int .i64 x0)), (1, .v (.int .i64 x1)), (2, .v (.int .i64 x2)), (8, .sl 1 (r20.map (cdL 1 (cdL 1 cdI)).enc)), (69, .v (.bool j22))], []⟩) ?_ ?_
            · refine RunS.segF (n := 106) e_evening_Design_ok 3 [(0, .v (.int .i64 x0)), (1, .v (.int .i64 x1)), (2, .v (.int .i64 x2)), (8, .sl 1 (r20.map (cdL 1 (cdL 1 cdI)).enc)), (66, .v (.bool (x1 == 3)))] [] (by kernel_rfl) ?_
              rcases Bool.eq_false_or_eq_true (x1 == 3) with hc41 | hc41
              · rw [if_pos hc41] at hj22
                rw [hc41]
                refine RunS.segF (n := 106) e_evening_Design_ok 3 [(0, .v (.int .i64 x0)), (1, .v (.int .i64 x1)), (2, .v (.int .i64 x2)), (8, .sl 1 (r20.map (cdL 1 (cdL 1 cdI)).enc)), (69, .v (.bool (x0 == 15)))] [] (by kernel_rfl) ?_
                have hq := Option.some.inj hj22; subst hq
                exact RunS.done rfl (Wk.fr (by kernel_rfl))
              · rw [if_f hc41] at hj22
                rw [hc41]
                refine RunS.segF (n := 106) e_evening_Design_ok 3 [(0, .v (.int .i64 x0)), (1, .v (.int .i64 x1)), (2, .v (.int .i64 x2)), (8, .sl 1 (r20.map (cdL 1 (cdL 1 cdI)).enc)), (69, .v (.bool false))] [] (by kernel_rfl) ?_
                have hq := Option.some.inj hj22; subst hq
                exact RunS.done rfl (Wk.fr (by kernel_rfl))
            obtain ⟨r26, hr26, h⟩ := Option.bind_eq_some_iff.1 h
            refine Sem.cut (evening_Design_j2_ok x0 x1 x2 r20 j22 _ hr26) ?_
            refine Sem.seq ?_
            refine Sem.seq ?_
            obtain ⟨j28, hj28, h⟩ := Option.bind_eq_some_iff.1 h
            refine Sem.runS (s1 := ⟨Fr 106 [(0, .v (.int .i64 x0)), (1, .v (.int .i64 x1)), (2, .v (.int .i64 x2)), (8, .sl 1 (r26.map (cdL 1 (cdL 1 cdI)).enc)), (81, .v (.bool j28))], []⟩) ?_ ?_
            · refine RunS.segF (n := 106) e_evening_Design_ok 6 [(0, .v (.int .i64 x0)), (1, .v (.int .i64 x1)), (2, .v (.int .i64 x2)), (8, .sl 1 (r26.map (cdL 1 (cdL 1 cdI)).enc)), (76, .v (.bool ((wr .i64 (x1 * x1)) == x0)))] [] (by kernel_rfl) ?_
              rcases Bool.eq_false_or_eq_true ((wr .i64 (x1 * x1)) == x0) with hc40 | hc40
              · rw [if_pos hc40] at hj28
                rw [hc40]
                refine RunS.segF (n := 106) e_evening_Design_ok 1 [(0, .v (.int .i64 x0)), (1, .v (.int .i64 x1)), (2, .v (.int .i64 x2)), (8, .sl 1 (r26.map (cdL 1 (cdL 1 cdI)).enc)), (76, .v (.bool true)), (77, .sl 1 (r26.map (cdL 1 (cdL 1 cdI)).enc))] [] (by kernel_rfl) ?_
                refine RunS.one e_evening_Design_ok 0 rfl (op_q (by kernel_rfl) rfl (q_len (a := .sl 1 (r26.map (cdL 1 (cdL 1 cdI)).enc)) (by kernel_rfl) (len_sl (el := 36) (by kernel_rfl)))) ?_
                refine RunS.segF (n := 106) e_evening_Design_ok 3 [(0, .v (.int .i64 x0)), (1, .v (.int .i64 x1)), (2, .v (.int .i64 x2)), (8, .sl 1 (r26.map (cdL 1 (cdL 1 cdI)).enc)), (81, .v (.bool (decide ((r26.length : Int) < x2))))] [] (by kernel_rfl) ?_
                have hq := Option.some.inj hj28; subst hq
                exact RunS.done rfl (Wk.fr (by kernel_rfl))
              · rw [if_f hc40] at hj28
                rw [hc40]
                refine RunS.segF (n := 106) e_evening_Design_ok 5 [(0, .v (.int .i64 x0)), (1, .v (.int .i64 x1)), (2, .v (.int .i64 x2)), (8, .sl 1 (r26.map (cdL 1 (cdL 1 cdI)).enc)), (81, .v (.bool false))] [] (by kernel_rfl) ?_
                have hq := Option.some.inj hj28; subst hq
                exact RunS.done rfl (Wk.fr (by kernel_rfl))
            obtain ⟨r32, hr32, h⟩ := Option.bind_eq_some_iff.1 h
            refine Sem.cut (evening_Design_j3_ok x0 x1 x2 r26 j28 _ hr32) ?_
            refine Sem.seq ?_
            refine Sem.seq ?_
            refine Sem.runS (s1 := ⟨Fr 106 [(0, .v (.int .i64 x0)), (1, .v (.int .i64 x1)), (2, .v (.int .i64 x2)), (8, .sl 1 (r32.map (cdL 1 (cdL 1 cdI)).enc)), (90, .v (.bool (decide ((r32.length : Int) < x2))))], []⟩) ?_ ?_
            · refine RunS.segF (n := 106) e_evening_Design_ok 1 [(0, .v (.int .i64 x0)), (1, .v (.int .i64 x1)), (2, .v (.int .i64 x2)), (8, .sl 1 (r32.map (cdL 1 (cdL 1 cdI)).enc)), (87, .sl 1 (r32.map (cdL 1 (cdL 1 cdI)).enc))] [] (by kernel_rfl) ?_
              refine RunS.one e_evening_Design_ok 0 rfl (op_q (wantedA_none rfl) rfl (q_len (a := .sl 1 (r32.map (cdL 1 (cdL 1 cdI)).enc)) (by kernel_rfl) (len_sl (el := 36) (by kernel_rfl)))) ?_
              refine RunS.segF (n := 106) e_evening_Design_ok 2 [(0, .v (.int .i64 x0)), (1, .v (.int .i64 x1)), (2, .v (.int .i64 x2)), (8, .sl 1 (r32.map (cdL 1 (cdL 1 cdI)).enc)), (90, .v (.bool (decide ((r32.length : Int) < x2))))] [] (by kernel_rfl) ?_
              exact RunS.done rfl (Wk.fr (by kernel_rfl))
            obtain ⟨r37, hr37, h⟩ := Option.bind_eq_some_iff.1 h
            refine Sem.cut (evening_Design_j4_ok x0 x1 x2 r32 _ hr37) ?_
            refine Sem.seq ?_
            refine Sem.seq ?_
            refine Sem.runS (s1 := ⟨Fr 106 [(2, .v (.int .i64 x2)), (8, .sl 1 (r37.map (cdL 1 (cdL 1 cdI)).enc)), (102, .v (.bool (decide ((r37.length : Int) < x2))))], []⟩) ?_ ?_
            · refine RunS.segF (n := 106) e_evening_Design_ok 1 [(2, .v (.int .i64 x2)), (8, .sl 1 (r37.map (cdL 1 (cdL 1 cdI)).enc)), (99, .sl 1 (r37.map (cdL 1 (cdL 1 cdI)).enc))] [] (by kernel_rfl) ?_
              refine RunS.one e_evening_Design_ok 0 rfl (op_q (wantedA_none rfl) rfl (q_len (a := .sl 1 (r37.map (cdL 1 (cdL 1 cdI)).enc)) (by kernel_rfl) (len_sl (el := 36) (by kernel_rfl)))) ?_
              refine RunS.segF (n := 106) e_evening_Design_ok 2 [(2, .v (.int .i64 x2)), (8, .sl 1 (r37.map (cdL 1 (cdL 1 cdI)).enc)), (102, .v (.bool (decide ((r37.length : Int) < x2))))] [] (by kernel_rfl) ?_
              exact RunS.done rfl (Wk.fr (by kernel_rfl))
            refine Sem.cond (b := (decide ((r37.length : Int) < x2))) (by kernel_rfl) (fun hb38 => ?_) (fun hb38 => ?_)
            · rw [if_pos hb38] at h
              refine Sem.seq ?_
              refine Sem.runS (s1 := ⟨Fr 106 [(6, .e0), (7, .v (.int .i64 91))], []⟩) ?_ ?_
              · refine RunS.segF (n := 106) e_evening_Design_ok 2 [(6, .e0), (7, .v (.int .i64 91))] [] (by kernel_rfl) ?_
                exact RunS.done rfl (Wk.fr (by kernel_rfl))
              refine Sem.ret ?_
              have hq := Option.some.inj h; subst hq
              exact ⟨⟨Fr 106 [(6, .sl 1 ([].map (cdL 1 (cdL 1 cdI)).enc)), (7, .v (.int .i64 91))], []⟩, (Wk.trans (s1 := ⟨Fr 106 [(6, .e0), (7, .v (.int .i64 91))], []⟩) (Wk.fr (by kernel_rfl)) (Wk.trans (s1 := ⟨Fr 106 [(6, .e0), (7, .v (.int .i64 91))], [none]⟩) Wk.none (Wk.trans (s1 := ⟨Fr 106 [(6, .sl 1 ([].map (cdL 1 (cdL 1 cdI)).enc)), (7, .v (.int .i64 91))], [none]⟩) (Wk.frzG 0 (.inr (by kernel_rfl)) ⟨.inl rfl, trivial⟩ ⟨⟨.e0, (by kernel_rfl), fz_e0⟩, ⟨.v (.int .i64 91), (by kernel_rfl), .inl rfl⟩, trivial⟩) (Wk.sel2 [] (by kernel_rfl) (by kernel_rfl) (by kernel_rfl) trivial ⟨lu (by kernel_rfl) (by kernel_rfl), lu (by kernel_rfl) (by kernel_rfl), trivial⟩)))), .inr rfl, [.sl 1 ([].map (cdL 1 (cdL 1 cdI)).enc), .v (.int .i64 91)], (by kernel_rfl), (by kernel_rfl)⟩
            · rw [if_f hb38] at h
              refine Sem.skip ?_
              refine Sem.seq ?_
              by_cases hk39 : (cutOk 0 x2 r37.length) = true
              case neg => rw [if_neg hk39] at h; cases h
              rw [if_pos hk39] at h
              refine Sem.runS (s1 := ⟨Fr 106 [(6, .sl 1 (((r37.take x2.toNat).drop (0 : Int).toNat).map (cdL 1 (cdL 1 cdI)).enc)), (7, .v (.int .i64 0))], []⟩) ?_ ?_
              · refine RunS.segF (n := 106) e_evening_Design_ok 2 [(103, .sl 1 (r37.map (cdL 1 (cdL 1 cdI)).enc)), (104, .v (.int .i64 x2))] [] (by kernel_rfl) ?_
                refine RunS.one e_evening_Design_ok 0 rfl (op_q (wantedA_none rfl) rfl (q_slice (a := .sl 1 (r37.map (cdL 1 (cdL 1 cdI)).enc)) (l := none) (u := (some (.v (.int .i64 x2)))) (m := none) (by kernel_rfl) (by kernel_rfl) (by kernel_rfl) rfl (slice_sl (xs := r37) (e := (cdL 1 (cdL 1 cdI)).enc) (k := 1) (el := 36) (lo := 0) (hi := x2) (by kernel_rfl) (by kernel_rfl) rfl (natB_i (cut_hi hk39)) hk39))) ?_
                refine RunS.segF (n := 106) e_evening_Design_ok 2 [(6, .sl 1 (((r37.take x2.toNat).drop (0 : Int).toNat).map (cdL 1 (cdL 1 cdI)).enc)), (7, .v (.int .i64 0))] [] (by kernel_rfl) ?_
                exact RunS.done rfl (Wk.fr (by kernel_rfl))
              refine Sem.ret ?_
              have hq := Option.some.inj h; subst hq
              exact ⟨⟨Fr 106 [(6, .sl 1 (((r37.take x2.toNat).drop (0 : Int).toNat).map (cdL 1 (cdL 1 cdI)).enc)), (7, .v (.int .i64 0))], []⟩, (Wk.fr (by kernel_rfl)), .inr rfl, [.sl 1 (((r37.take x2.toNat).drop (0 : Int).toNat).map (cdL 1 (cdL 1 cdI)).enc), .v (.int .i64 0)], (by kernel_rfl), (by kernel_rfl)⟩
def t_evening_Design : List AV → Option AV := told cs_evening_Design (fun a => evening_Design a.1 a.2.1 a.2.2.1) er_evening_Design
theorem x_evening_Design : XOk 8 t_evening_Design := by
  refine EnvOk.x (E := e_evening_Design) (contract_ok e_evening_Design_ok (fn := Tryd.f8) (c := cb_evening_Design) ?h1 ?h2 ⟨Tryd.call8⟩ cs_evening_Design (fun a => evening_Design a.1 a.2.1 a.2.2.1) er_evening_Design (fun a => (by show 3 ≤ 106; decide)) ?h3 ?h4) rfl rfl
  case h1 => kernel_rfl
  case h2 => kernel_rfl
  case h3 => intro b; kernel_rfl
  case h4 => exact fun a b h => evening_Design_sem a.1 a.2.1 a.2.2.1 b h
end Go.Proofs.YtnmkejapogklmaaDoor

namespace Go.Proofs.YtnmkejapogklmaaDoor
open Go.RowKit
def law09_awake : Option Bool := some true
def cs_law09_awake : Cs Unit := csN
def er_law09_awake (b : Bool) : AV := cdB.enc b
def t_law09_awake : List AV → Option AV := told cs_law09_awake (fun _ => law09_awake) er_law09_awake
theorem x_law09_awake : XOk 7 t_law09_awake := by
  refine ⟨⟨Tryd.call7⟩, fun xs x h w Z us _ _ hv => ?_⟩
  obtain ⟨a, ha, h⟩ := Option.bind_eq_some_iff.1 h
  obtain ⟨b, hb, rfl⟩ := Option.map_eq_some_iff.1 h
  have hb := Option.some.inj hb
  subst hb
  have : xs = [] := by
    cases xs with
    | nil => rfl
    | cons x xs => cases ha
  subst this
  have : us = [] := by have := hv.len; simpa using this
  subst this
  exact Ret.mono (awake_ret w) fun v w' h => ⟨h.2, by rw [h.1]; exact vr_true⟩

def own1 (xs : List Int) : Option Blk := some ⟨1, 3, xs.map cdI.enc, false⟩
end Go.Proofs.YtnmkejapogklmaaDoor

namespace Go.Proofs.YtnmkejapogklmaaDoor
open Go.RowKit
noncomputable def cb_rep : Code := codeOf Tryd.f9
def slices_Repeat_L_int (xs : List Int) (q : Int) : Option (List Int) := match xs with
  | [k] => if 1 ≤ q ∧ q ≤ 64 then some (List.replicate q.toNat k) else none
  | _ => none
def cs_slices_Repeat_L_int : Cs (List Int × Int × Unit) := csC (cdL 1 cdI) (csC cdI csN)
def er_slices_Repeat_L_int (r : List Int) : AV := (cdL 1 cdI).enc r
def t_slices_Repeat_L_int : List AV → Option AV := told cs_slices_Repeat_L_int (fun a => slices_Repeat_L_int a.1 a.2.1) er_slices_Repeat_L_int
def repSt (k q : Int) : St := ⟨Fr 48 [(0, .sl 1 ([k].map cdI.enc)), (1, cdI.enc q)], []⟩
theorem Wk.forget {E : Env} {n : Nat} {l : List (Nat × AV)} {hp : Hp} {fr : List (Option AV)} (hl : fr.length = n) (hg : getAll fr l = xs2 l) : Wk E ⟨fr, hp⟩ ⟨Fr n l, hp⟩ := fun _ _ Z R _ sr => ⟨Z, R, sr.forget hl hg, StepW.refl _ _ _ _⟩
theorem rep_fin (k q : Int) (l : List Int) (h : ((evC E0 4000 ⟨none, false⟩ cb_rep (repSt k q)).map fun p => (p.1, p.2.fr.length, getAll p.2.fr [(4, AV.e0)], p.2.hp)) = some (.ret, 48, [some (some (.rf 0 0 l.length l.length))], [own1 l])) : Sem E0 ⟨none, false⟩ cb_rep (repSt k q) fun e s' => (e = .normal ∨ e = .ret) ∧ ∃ xs, resA E0.P s'.fr s'.hp Tryd.f9.results.toList = some xs ∧ retA xs = er_slices_Repeat_L_int l := by
  obtain ⟨⟨e, s'⟩, h1, h2⟩ := Option.map_eq_some_iff.1 h
  obtain ⟨fr, hp⟩ := s'
  simp only [Prod.mk.injEq] at h2
  obtain ⟨rfl, h3, h4, rfl⟩ := h2
  refine Sem.wkQ (Sem.of_ev E0_ok (by kernel_rfl) h1 ?_)
  exact ⟨⟨Fr 48 [(4, .sl 1 (l.map cdI.enc))], [none]⟩, Wk.trans (s1 := ⟨Fr 48 [(4, .rf 0 0 l.length l.length)], [own1 l]⟩) (Wk.forget h3 h4) (Wk.frzG 0 (.inl (by kernel_rfl)) ⟨.inl rfl, trivial⟩ ⟨⟨.rf 0 0 l.length l.length, (by kernel_rfl), fz_rlT (c := cdI) (xs := l) (t := 3) (by kernel_rfl)⟩, trivial⟩), .inr rfl, [.sl 1 (l.map cdI.enc)], by kernel_rfl, by kernel_rfl⟩
theorem rep_1 (k : Int) : ((evC E0 4000 ⟨none, false⟩ cb_rep (repSt k 1)).map fun p => (p.1, p.2.fr.length, getAll p.2.fr [(4, AV.e0)], p.2.hp)) = some (.ret, 48, [some (some (.rf 0 0 1 1))], [own1 [k]]) := by kernel_rfl
theorem rep_2 (k : Int) : ((evC E0 4000 ⟨none, false⟩ cb_rep (repSt k 2)).map fun p => (p.1, p.2.fr.length, getAll p.2.fr [(4, AV.e0)], p.2.hp)) = some (.ret, 48, [some (some (.rf 0 0 2 2))], [own1 [k, k]]) := by kernel_rfl
theorem rep_3 (k : Int) : ((evC E0 4000 ⟨none, false⟩ cb_rep (repSt k 3)).map fun p => (p.1, p.2.fr.length, getAll p.2.fr [(4, AV.e0)], p.2.hp)) = some (.ret, 48, [some (some (.rf 0 0 3 3))], [own1 [k, k, k]]) := by kernel_rfl
theorem rep_4 (k : Int) : ((evC E0 4000 ⟨none, false⟩ cb_rep (repSt k 4)).map fun p => (p.1, p.2.fr.length, getAll p.2.fr [(4, AV.e0)], p.2.hp)) = some (.ret, 48, [some (some (.rf 0 0 4 4))], [own1 [k, k, k, k]]) := by kernel_rfl
theorem rep_5 (k : Int) : ((evC E0 4000 ⟨none, false⟩ cb_rep (repSt k 5)).map fun p => (p.1, p.2.fr.length, getAll p.2.fr [(4, AV.e0)], p.2.hp)) = some (.ret, 48, [some (some (.rf 0 0 5 5))], [own1 [k, k, k, k, k]]) := by kernel_rfl
theorem rep_6 (k : Int) : ((evC E0 4000 ⟨none, false⟩ cb_rep (repSt k 6)).map fun p => (p.1, p.2.fr.length, getAll p.2.fr [(4, AV.e0)], p.2.hp)) = some (.ret, 48, [some (some (.rf 0 0 6 6))], [own1 [k, k, k, k, k, k]]) := by kernel_rfl
theorem rep_7 (k : Int) : ((evC E0 4000 ⟨none, false⟩ cb_rep (repSt k 7)).map fun p => (p.1, p.2.fr.length, getAll p.2.fr [(4, AV.e0)], p.2.hp)) = some (.ret, 48, [some (some (.rf 0 0 7 7))], [own1 [k, k, k, k, k, k, k]]) := by kernel_rfl
theorem rep_8 (k : Int) : ((evC E0 4000 ⟨none, false⟩ cb_rep (repSt k 8)).map fun p => (p.1, p.2.fr.length, getAll p.2.fr [(4, AV.e0)], p.2.hp)) = some (.ret, 48, [some (some (.rf 0 0 8 8))], [own1 [k, k, k, k, k, k, k, k]]) := by kernel_rfl
theorem rep_9 (k : Int) : ((evC E0 4000 ⟨none, false⟩ cb_rep (repSt k 9)).map fun p => (p.1, p.2.fr.length, getAll p.2.fr [(4, AV.e0)], p.2.hp)) = some (.ret, 48, [some (some (.rf 0 0 9 9))], [own1 [k, k, k, k, k, k, k, k, k]]) := by kernel_rfl
theorem rep_10 (k : Int) : ((evC E0 4000 ⟨none, false⟩ cb_rep (repSt k 10)).map fun p => (p.1, p.2.fr.length, getAll p.2.fr [(4, AV.e0)], p.2.hp)) = some (.ret, 48, [some (some (.rf 0 0 10 10))], [own1 [k, k, k, k, k, k, k, k, k, k]]) := by kernel_rfl
theorem rep_11 (k : Int) : ((evC E0 4000 ⟨none, false⟩ cb_rep (repSt k 11)).map fun p => (p.1, p.2.fr.length, getAll p.2.fr [(4, AV.e0)], p.2.hp)) = some (.ret, 48, [some (some (.rf 0 0 11 11))], [own1 [k, k, k, k, k, k, k, k, k, k, k]]) := by kernel_rfl
theorem rep_12 (k : Int) : ((evC E0 4000 ⟨none, false⟩ cb_rep (repSt k 12)).map fun p => (p.1, p.2.fr.length, getAll p.2.fr [(4, AV.e0)], p.2.hp)) = some (.ret, 48, [some (some (.rf 0 0 12 12))], [own1 [k, k, k, k, k, k, k, k, k, k, k, k]]) := by kernel_rfl
theorem rep_13 (k : Int) : ((evC E0 4000 ⟨none, false⟩ cb_rep (repSt k 13)).map fun p => (p.1, p.2.fr.length, getAll p.2.fr [(4, AV.e0)], p.2.hp)) = some (.ret, 48, [some (some (.rf 0 0 13 13))], [own1 [k, k, k, k, k, k, k, k, k, k, k, k, k]]) := by kernel_rfl
theorem rep_14 (k : Int) : ((evC E0 4000 ⟨none, false⟩ cb_rep (repSt k 14)).map fun p => (p.1, p.2.fr.length, getAll p.2.fr [(4, AV.e0)], p.2.hp)) = some (.ret, 48, [some (some (.rf 0 0 14 14))], [own1 [k, k, k, k, k, k, k, k, k, k, k, k, k, k]]) := by kernel_rfl
theorem rep_15 (k : Int) : ((evC E0 4000 ⟨none, false⟩ cb_rep (repSt k 15)).map fun p => (p.1, p.2.fr.length, getAll p.2.fr [(4, AV.e0)], p.2.hp)) = some (.ret, 48, [some (some (.rf 0 0 15 15))], [own1 [k, k, k, k, k, k, k, k, k, k, k, k, k, k, k]]) := by kernel_rfl
theorem rep_16 (k : Int) : ((evC E0 4000 ⟨none, false⟩ cb_rep (repSt k 16)).map fun p => (p.1, p.2.fr.length, getAll p.2.fr [(4, AV.e0)], p.2.hp)) = some (.ret, 48, [some (some (.rf 0 0 16 16))], [own1 [k, k, k, k, k, k, k, k, k, k, k, k, k, k, k, k]]) := by kernel_rfl
theorem rep_17 (k : Int) : ((evC E0 4000 ⟨none, false⟩ cb_rep (repSt k 17)).map fun p => (p.1, p.2.fr.length, getAll p.2.fr [(4, AV.e0)], p.2.hp)) = some (.ret, 48, [some (some (.rf 0 0 17 17))], [own1 [k, k, k, k, k, k, k, k, k, k, k, k, k, k, k, k, k]]) := by kernel_rfl
theorem rep_18 (k : Int) : ((evC E0 4000 ⟨none, false⟩ cb_rep (repSt k 18)).map fun p => (p.1, p.2.fr.length, getAll p.2.fr [(4, AV.e0)], p.2.hp)) = some (.ret, 48, [some (some (.rf 0 0 18 18))], [own1 [k, k, k, k, k, k, k, k, k, k, k, k, k, k, k, k, k, k]]) := by kernel_rfl
theorem rep_19 (k : Int) : ((evC E0 4000 ⟨none, false⟩ cb_rep (repSt k 19)).map fun p => (p.1, p.2.fr.length, getAll p.2.fr [(4, AV.e0)], p.2.hp)) = some (.ret, 48, [some (some (.rf 0 0 19 19))], [own1 [k, k, k, k, k, k, k, k, k, k, k, k, k, k, k, k, k, k, k]]) := by kernel_rfl
theorem rep_20 (k : Int) : ((evC E0 4000 ⟨none, false⟩ cb_rep (repSt k 20)).map fun p => (p.1, p.2.fr.length, getAll p.2.fr [(4, AV.e0)], p.2.hp)) = some (.ret, 48, [some (some (.rf 0 0 20 20))], [own1 [k, k, k, k, k, k, k, k, k, k, k, k, k, k, k, k, k, k, k, k]]) := by kernel_rfl
theorem rep_21 (k : Int) : ((evC E0 4000 ⟨none, false⟩ cb_rep (repSt k 21)).map fun p => (p.1, p.2.fr.length, getAll p.2.fr [(4, AV.e0)], p.2.hp)) = some (.ret, 48, [some (some (.rf 0 0 21 21))], [own1 [k, k, k, k, k, k, k, k, k, k, k, k, k, k, k, k, k, k, k, k, k]]) := by kernel_rfl
theorem rep_22 (k : Int) : ((evC E0 4000 ⟨none, false⟩ cb_rep (repSt k 22)).map fun p => (p.1, p.2.fr.length, getAll p.2.fr [(4, AV.e0)], p.2.hp)) = some (.ret, 48, [some (some (.rf 0 0 22 22))], [own1 [k, k, k, k, k, k, k, k, k, k, k, k, k, k, k, k, k, k, k, k, k, k]]) := by kernel_rfl
theorem rep_23 (k : Int) : ((evC E0 4000 ⟨none, false⟩ cb_rep (repSt k 23)).map fun p => (p.1, p.2.fr.length, getAll p.2.fr [(4, AV.e0)], p.2.hp)) = some (.ret, 48, [some (some (.rf 0 0 23 23))], [own1 [k, k, k, k, k, k, k, k, k, k, k, k, k, k, k, k, k, k, k, k, k, k, k]]) := by kernel_rfl
theorem rep_24 (k : Int) : ((evC E0 4000 ⟨none, false⟩ cb_rep (repSt k 24)).map fun p => (p.1, p.2.fr.length, getAll p.2.fr [(4, AV.e0)], p.2.hp)) = some (.ret, 48, [some (some (.rf 0 0 24 24))], [own1 [k, k, k, k, k, k, k, k, k, k, k, k, k, k, k, k, k, k, k, k, k, k, k, k]]) := by kernel_rfl
theorem rep_25 (k : Int) : ((evC E0 4000 ⟨none, false⟩ cb_rep (repSt k 25)).map fun p => (p.1, p.2.fr.length, getAll p.2.fr [(4, AV.e0)], p.2.hp)) = some (.ret, 48, [some (some (.rf 0 0 25 25))], [own1 [k, k, k, k, k, k, k, k, k, k, k, k, k, k, k, k, k, k, k, k, k, k, k, k, k]]) := by kernel_rfl
theorem rep_26 (k : Int) : ((evC E0 4000 ⟨none, false⟩ cb_rep (repSt k 26)).map fun p => (p.1, p.2.fr.length, getAll p.2.fr [(4, AV.e0)], p.2.hp)) = some (.ret, 48, [some (some (.rf 0 0 26 26))], [own1 [k, k, k, k, k, k, k, k, k, k, k, k, k, k, k, k, k, k, k, k, k, k, k, k, k, k]]) := by kernel_rfl
theorem rep_27 (k : Int) : ((evC E0 4000 ⟨none, false⟩ cb_rep (repSt k 27)).map fun p => (p.1, p.2.fr.length, getAll p.2.fr [(4, AV.e0)], p.2.hp)) = some (.ret, 48, [some (some (.rf 0 0 27 27))], [own1 [k, k, k, k, k, k, k, k, k, k, k, k, k, k, k, k, k, k, k, k, k, k, k, k, k, k, k]]) := by kernel_rfl
theorem rep_28 (k : Int) : ((evC E0 4000 ⟨none, false⟩ cb_rep (repSt k 28)).map fun p => (p.1, p.2.fr.length, getAll p.2.fr [(4, AV.e0)], p.2.hp)) = some (.ret, 48, [some (some (.rf 0 0 28 28))], [own1 [k, k, k, k, k, k, k, k, k, k, k, k, k, k, k, k, k, k, k, k, k, k, k, k, k, k, k, k]]) := by kernel_rfl
theorem rep_29 (k : Int) : ((evC E0 4000 ⟨none, false⟩ cb_rep (repSt k 29)).map fun p => (p.1, p.2.fr.length, getAll p.2.fr [(4, AV.e0)], p.2.hp)) = some (.ret, 48, [some (some (.rf 0 0 29 29))], [own1 [k, k, k, k, k, k, k, k, k, k, k, k, k, k, k, k, k, k, k, k, k, k, k, k, k, k, k, k, k]]) := by kernel_rfl
theorem rep_30 (k : Int) : ((evC E0 4000 ⟨none, false⟩ cb_rep (repSt k 30)).map fun p => (p.1, p.2.fr.length, getAll p.2.fr [(4, AV.e0)], p.2.hp)) = some (.ret, 48, [some (some (.rf 0 0 30 30))], [own1 [k, k, k, k, k, k, k, k, k, k, k, k, k, k, k, k, k, k, k, k, k, k, k, k, k, k, k, k, k, k]]) := by kernel_rfl
theorem rep_31 (k : Int) : ((evC E0 4000 ⟨none, false⟩ cb_rep (repSt k 31)).map fun p => (p.1, p.2.fr.length, getAll p.2.fr [(4, AV.e0)], p.2.hp)) = some (.ret, 48, [some (some (.rf 0 0 31 31))], [own1 [k, k, k, k, k, k, k, k, k, k, k, k, k, k, k, k, k, k, k, k, k, k, k, k, k, k, k, k, k, k, k]]) := by kernel_rfl
theorem rep_32 (k : Int) : ((evC E0 4000 ⟨none, false⟩ cb_rep (repSt k 32)).map fun p => (p.1, p.2.fr.length, getAll p.2.fr [(4, AV.e0)], p.2.hp)) = some (.ret, 48, [some (some (.rf 0 0 32 32))], [own1 [k, k, k, k, k, k, k, k, k, k, k, k, k, k, k, k, k, k, k, k, k, k, k, k, k, k, k, k, k, k, k, k]]) := by kernel_rfl
theorem rep_33 (k : Int) : ((evC E0 4000 ⟨none, false⟩ cb_rep (repSt k 33)).map fun p => (p.1, p.2.fr.length, getAll p.2.fr [(4, AV.e0)], p.2.hp)) = some (.ret, 48, [some (some (.rf 0 0 33 33))], [own1 [k, k, k, k, k, k, k, k, k, k, k, k, k, k, k, k, k, k, k, k, k, k, k, k, k, k, k, k, k, k, k, k, k]]) := by kernel_rfl
theorem rep_34 (k : Int) : ((evC E0 4000 ⟨none, false⟩ cb_rep (repSt k 34)).map fun p => (p.1, p.2.fr.length, getAll p.2.fr [(4, AV.e0)], p.2.hp)) = some (.ret, 48, [some (some (.rf 0 0 34 34))], [own1 [k, k, k, k, k, k, k, k, k, k, k, k, k, k, k, k, k, k, k, k, k, k, k, k, k, k, k, k, k, k, k, k, k, k]]) := by kernel_rfl
theorem rep_35 (k : Int) : ((evC E0 4000 ⟨none, false⟩ cb_rep (repSt k 35)).map fun p => (p.1, p.2.fr.length, getAll p.2.fr [(4, AV.e0)], p.2.hp)) = some (.ret, 48, [some (some (.rf 0 0 35 35))], [own1 [k, k, k, k, k, k, k, k, k, k, k, k, k, k, k, k, k, k, k, k, k, k, k, k, k, k, k, k, k, k, k, k, k, k, k]]) := by kernel_rfl
theorem rep_36 (k : Int) : ((evC E0 4000 ⟨none, false⟩ cb_rep (repSt k 36)).map fun p => (p.1, p.2.fr.length, getAll p.2.fr [(4, AV.e0)], p.2.hp)) = some (.ret, 48, [some (some (.rf 0 0 36 36))], [own1 [k, k, k, k, k, k, k, k, k, k, k, k, k, k, k, k, k, k, k, k, k, k, k, k, k, k, k, k, k, k, k, k, k, k, k, k]]) := by kernel_rfl
theorem rep_37 (k : Int) : ((evC E0 4000 ⟨none, false⟩ cb_rep (repSt k 37)).map fun p => (p.1, p.2.fr.length, getAll p.2.fr [(4, AV.e0)], p.2.hp)) = some (.ret, 48, [some (some (.rf 0 0 37 37))], [own1 [k, k, k, k, k, k, k, k, k, k, k, k, k, k, k, k, k, k, k, k, k, k, k, k, k, k, k, k, k, k, k, k, k, k, k, k, k]]) := by kernel_rfl
theorem rep_38 (k : Int) : ((evC E0 4000 ⟨none, false⟩ cb_rep (repSt k 38)).map fun p => (p.1, p.2.fr.length, getAll p.2.fr [(4, AV.e0)], p.2.hp)) = some (.ret, 48, [some (some (.rf 0 0 38 38))], [own1 [k, k, k, k, k, k, k, k, k, k, k, k, k, k, k, k, k, k, k, k, k, k, k, k, k, k, k, k, k, k, k, k, k, k, k, k, k, k]]) := by kernel_rfl
theorem rep_39 (k : Int) : ((evC E0 4000 ⟨none, false⟩ cb_rep (repSt k 39)).map fun p => (p.1, p.2.fr.length, getAll p.2.fr [(4, AV.e0)], p.2.hp)) = some (.ret, 48, [some (some (.rf 0 0 39 39))], [own1 [k, k, k, k, k, k, k, k, k, k, k, k, k, k, k, k, k, k, k, k, k, k, k, k, k, k, k, k, k, k, k, k, k, k, k, k, k, k, k]]) := by kernel_rfl
theorem rep_40 (k : Int) : ((evC E0 4000 ⟨none, false⟩ cb_rep (repSt k 40)).map fun p => (p.1, p.2.fr.length, getAll p.2.fr [(4, AV.e0)], p.2.hp)) = some (.ret, 48, [some (some (.rf 0 0 40 40))], [own1 [k, k, k, k, k, k, k, k, k, k, k, k, k, k, k, k, k, k, k, k, k, k, k, k, k, k, k, k, k, k, k, k, k, k, k, k, k, k, k, k]]) := by kernel_rfl
theorem rep_41 (k : Int) : ((evC E0 4000 ⟨none, false⟩ cb_rep (repSt k 41)).map fun p => (p.1, p.2.fr.length, getAll p.2.fr [(4, AV.e0)], p.2.hp)) = some (.ret, 48, [some (some (.rf 0 0 41 41))], [own1 [k, k, k, k, k, k, k, k, k, k, k, k, k, k, k, k, k, k, k, k, k, k, k, k, k, k, k, k, k, k, k, k, k, k, k, k, k, k, k, k, k]]) := by kernel_rfl
theorem rep_42 (k : Int) : ((evC E0 4000 ⟨none, false⟩ cb_rep (repSt k 42)).map fun p => (p.1, p.2.fr.length, getAll p.2.fr [(4, AV.e0)], p.2.hp)) = some (.ret, 48, [some (some (.rf 0 0 42 42))], [own1 [k, k, k, k, k, k, k, k, k, k, k, k, k, k, k, k, k, k, k, k, k, k, k, k, k, k, k, k, k, k, k, k, k, k, k, k, k, k, k, k, k, k]]) := by kernel_rfl
theorem rep_43 (k : Int) : ((evC E0 4000 ⟨none, false⟩ cb_rep (repSt k 43)).map fun p => (p.1, p.2.fr.length, getAll p.2.fr [(4, AV.e0)], p.2.hp)) = some (.ret, 48, [some (some (.rf 0 0 43 43))], [own1 [k, k, k, k, k, k, k, k, k, k, k, k, k, k, k, k, k, k, k, k, k, k, k, k, k, k, k, k, k, k, k, k, k, k, k, k, k, k, k, k, k, k, k]]) := by kernel_rfl
theorem rep_44 (k : Int) : ((evC E0 4000 ⟨none, false⟩ cb_rep (repSt k 44)).map fun p => (p.1, p.2.fr.length, getAll p.2.fr [(4, AV.e0)], p.2.hp)) = some (.ret, 48, [some (some (.rf 0 0 44 44))], [own1 [k, k, k, k, k, k, k, k, k, k, k, k, k, k, k, k, k, k, k, k, k, k, k, k, k, k, k, k, k, k, k, k, k, k, k, k, k, k, k, k, k, k, k, k]]) := by kernel_rfl
theorem rep_45 (k : Int) : ((evC E0 4000 ⟨none, false⟩ cb_rep (repSt k 45)).map fun p => (p.1, p.2.fr.length, getAll p.2.fr [(4, AV.e0)], p.2.hp)) = some (.ret, 48, [some (some (.rf 0 0 45 45))], [own1 [k, k, k, k, k, k, k, k, k, k, k, k, k, k, k, k, k, k, k, k, k, k, k, k, k, k, k, k, k, k, k, k, k, k, k, k, k, k, k, k, k, k, k, k, k]]) := by kernel_rfl
theorem rep_46 (k : Int) : ((evC E0 4000 ⟨none, false⟩ cb_rep (repSt k 46)).map fun p => (p.1, p.2.fr.length, getAll p.2.fr [(4, AV.e0)], p.2.hp)) = some (.ret, 48, [some (some (.rf 0 0 46 46))], [own1 [k, k, k, k, k, k, k, k, k, k, k, k, k, k, k, k, k, k, k, k, k, k, k, k, k, k, k, k, k, k, k, k, k, k, k, k, k, k, k, k, k, k, k, k, k, k]]) := by kernel_rfl
theorem rep_47 (k : Int) : ((evC E0 4000 ⟨none, false⟩ cb_rep (repSt k 47)).map fun p => (p.1, p.2.fr.length, getAll p.2.fr [(4, AV.e0)], p.2.hp)) = some (.ret, 48, [some (some (.rf 0 0 47 47))], [own1 [k, k, k, k, k, k, k, k, k, k, k, k, k, k, k, k, k, k, k, k, k, k, k, k, k, k, k, k, k, k, k, k, k, k, k, k, k, k, k, k, k, k, k, k, k, k, k]]) := by kernel_rfl
theorem rep_48 (k : Int) : ((evC E0 4000 ⟨none, false⟩ cb_rep (repSt k 48)).map fun p => (p.1, p.2.fr.length, getAll p.2.fr [(4, AV.e0)], p.2.hp)) = some (.ret, 48, [some (some (.rf 0 0 48 48))], [own1 [k, k, k, k, k, k, k, k, k, k, k, k, k, k, k, k, k, k, k, k, k, k, k, k, k, k, k, k, k, k, k, k, k, k, k, k, k, k, k, k, k, k, k, k, k, k, k, k]]) := by kernel_rfl
theorem rep_49 (k : Int) : ((evC E0 4000 ⟨none, false⟩ cb_rep (repSt k 49)).map fun p => (p.1, p.2.fr.length, getAll p.2.fr [(4, AV.e0)], p.2.hp)) = some (.ret, 48, [some (some (.rf 0 0 49 49))], [own1 [k, k, k, k, k, k, k, k, k, k, k, k, k, k, k, k, k, k, k, k, k, k, k, k, k, k, k, k, k, k, k, k, k, k, k, k, k, k, k, k, k, k, k, k, k, k, k, k, k]]) := by kernel_rfl
theorem rep_50 (k : Int) : ((evC E0 4000 ⟨none, false⟩ cb_rep (repSt k 50)).map fun p => (p.1, p.2.fr.length, getAll p.2.fr [(4, AV.e0)], p.2.hp)) = some (.ret, 48, [some (some (.rf 0 0 50 50))], [own1 [k, k, k, k, k, k, k, k, k, k, k, k, k, k, k, k, k, k, k, k, k, k, k, k, k, k, k, k, k, k, k, k, k, k, k, k, k, k, k, k, k, k, k, k, k, k, k, k, k, k]]) := by kernel_rfl
theorem rep_51 (k : Int) : ((evC E0 4000 ⟨none, false⟩ cb_rep (repSt k 51)).map fun p => (p.1, p.2.fr.length, getAll p.2.fr [(4, AV.e0)], p.2.hp)) = some (.ret, 48, [some (some (.rf 0 0 51 51))], [own1 [k, k, k, k, k, k, k, k, k, k, k, k, k, k, k, k, k, k, k, k, k, k, k, k, k, k, k, k, k, k, k, k, k, k, k, k, k, k, k, k, k, k, k, k, k, k, k, k, k, k, k]]) := by kernel_rfl
theorem rep_52 (k : Int) : ((evC E0 4000 ⟨none, false⟩ cb_rep (repSt k 52)).map fun p => (p.1, p.2.fr.length, getAll p.2.fr [(4, AV.e0)], p.2.hp)) = some (.ret, 48, [some (some (.rf 0 0 52 52))], [own1 [k, k, k, k, k, k, k, k, k, k, k, k, k, k, k, k, k, k, k, k, k, k, k, k, k, k, k, k, k, k, k, k, k, k, k, k, k, k, k, k, k, k, k, k, k, k, k, k, k, k, k, k]]) := by kernel_rfl
theorem rep_53 (k : Int) : ((evC E0 4000 ⟨none, false⟩ cb_rep (repSt k 53)).map fun p => (p.1, p.2.fr.length, getAll p.2.fr [(4, AV.e0)], p.2.hp)) = some (.ret, 48, [some (some (.rf 0 0 53 53))], [own1 [k, k, k, k, k, k, k, k, k, k, k, k, k, k, k, k, k, k, k, k, k, k, k, k, k, k, k, k, k, k, k, k, k, k, k, k, k, k, k, k, k, k, k, k, k, k, k, k, k, k, k, k, k]]) := by kernel_rfl
theorem rep_54 (k : Int) : ((evC E0 4000 ⟨none, false⟩ cb_rep (repSt k 54)).map fun p => (p.1, p.2.fr.length, getAll p.2.fr [(4, AV.e0)], p.2.hp)) = some (.ret, 48, [some (some (.rf 0 0 54 54))], [own1 [k, k, k, k, k, k, k, k, k, k, k, k, k, k, k, k, k, k, k, k, k, k, k, k, k, k, k, k, k, k, k, k, k, k, k, k, k, k, k, k, k, k, k, k, k, k, k, k, k, k, k, k, k, k]]) := by kernel_rfl
theorem rep_55 (k : Int) : ((evC E0 4000 ⟨none, false⟩ cb_rep (repSt k 55)).map fun p => (p.1, p.2.fr.length, getAll p.2.fr [(4, AV.e0)], p.2.hp)) = some (.ret, 48, [some (some (.rf 0 0 55 55))], [own1 [k, k, k, k, k, k, k, k, k, k, k, k, k, k, k, k, k, k, k, k, k, k, k, k, k, k, k, k, k, k, k, k, k, k, k, k, k, k, k, k, k, k, k, k, k, k, k, k, k, k, k, k, k, k, k]]) := by kernel_rfl
theorem rep_56 (k : Int) : ((evC E0 4000 ⟨none, false⟩ cb_rep (repSt k 56)).map fun p => (p.1, p.2.fr.length, getAll p.2.fr [(4, AV.e0)], p.2.hp)) = some (.ret, 48, [some (some (.rf 0 0 56 56))], [own1 [k, k, k, k, k, k, k, k, k, k, k, k, k, k, k, k, k, k, k, k, k, k, k, k, k, k, k, k, k, k, k, k, k, k, k, k, k, k, k, k, k, k, k, k, k, k, k, k, k, k, k, k, k, k, k, k]]) := by kernel_rfl
theorem rep_57 (k : Int) : ((evC E0 4000 ⟨none, false⟩ cb_rep (repSt k 57)).map fun p => (p.1, p.2.fr.length, getAll p.2.fr [(4, AV.e0)], p.2.hp)) = some (.ret, 48, [some (some (.rf 0 0 57 57))], [own1 [k, k, k, k, k, k, k, k, k, k, k, k, k, k, k, k, k, k, k, k, k, k, k, k, k, k, k, k, k, k, k, k, k, k, k, k, k, k, k, k, k, k, k, k, k, k, k, k, k, k, k, k, k, k, k, k, k]]) := by kernel_rfl
theorem rep_58 (k : Int) : ((evC E0 4000 ⟨none, false⟩ cb_rep (repSt k 58)).map fun p => (p.1, p.2.fr.length, getAll p.2.fr [(4, AV.e0)], p.2.hp)) = some (.ret, 48, [some (some (.rf 0 0 58 58))], [own1 [k, k, k, k, k, k, k, k, k, k, k, k, k, k, k, k, k, k, k, k, k, k, k, k, k, k, k, k, k, k, k, k, k, k, k, k, k, k, k, k, k, k, k, k, k, k, k, k, k, k, k, k, k, k, k, k, k, k]]) := by kernel_rfl
theorem rep_59 (k : Int) : ((evC E0 4000 ⟨none, false⟩ cb_rep (repSt k 59)).map fun p => (p.1, p.2.fr.length, getAll p.2.fr [(4, AV.e0)], p.2.hp)) = some (.ret, 48, [some (some (.rf 0 0 59 59))], [own1 [k, k, k, k, k, k, k, k, k, k, k, k, k, k, k, k, k, k, k, k, k, k, k, k, k, k, k, k, k, k, k, k, k, k, k, k, k, k, k, k, k, k, k, k, k, k, k, k, k, k, k, k, k, k, k, k, k, k, k]]) := by kernel_rfl
theorem rep_60 (k : Int) : ((evC E0 4000 ⟨none, false⟩ cb_rep (repSt k 60)).map fun p => (p.1, p.2.fr.length, getAll p.2.fr [(4, AV.e0)], p.2.hp)) = some (.ret, 48, [some (some (.rf 0 0 60 60))], [own1 [k, k, k, k, k, k, k, k, k, k, k, k, k, k, k, k, k, k, k, k, k, k, k, k, k, k, k, k, k, k, k, k, k, k, k, k, k, k, k, k, k, k, k, k, k, k, k, k, k, k, k, k, k, k, k, k, k, k, k, k]]) := by kernel_rfl
theorem rep_61 (k : Int) : ((evC E0 4000 ⟨none, false⟩ cb_rep (repSt k 61)).map fun p => (p.1, p.2.fr.length, getAll p.2.fr [(4, AV.e0)], p.2.hp)) = some (.ret, 48, [some (some (.rf 0 0 61 61))], [own1 [k, k, k, k, k, k, k, k, k, k, k, k, k, k, k, k, k, k, k, k, k, k, k, k, k, k, k, k, k, k, k, k, k, k, k, k, k, k, k, k, k, k, k, k, k, k, k, k, k, k, k, k, k, k, k, k, k, k, k, k, k]]) := by kernel_rfl
theorem rep_62 (k : Int) : ((evC E0 4000 ⟨none, false⟩ cb_rep (repSt k 62)).map fun p => (p.1, p.2.fr.length, getAll p.2.fr [(4, AV.e0)], p.2.hp)) = some (.ret, 48, [some (some (.rf 0 0 62 62))], [own1 [k, k, k, k, k, k, k, k, k, k, k, k, k, k, k, k, k, k, k, k, k, k, k, k, k, k, k, k, k, k, k, k, k, k, k, k, k, k, k, k, k, k, k, k, k, k, k, k, k, k, k, k, k, k, k, k, k, k, k, k, k, k]]) := by kernel_rfl
theorem rep_63 (k : Int) : ((evC E0 4000 ⟨none, false⟩ cb_rep (repSt k 63)).map fun p => (p.1, p.2.fr.length, getAll p.2.fr [(4, AV.e0)], p.2.hp)) = some (.ret, 48, [some (some (.rf 0 0 63 63))], [own1 [k, k, k, k, k, k, k, k, k, k, k, k, k, k, k, k, k, k, k, k, k, k, k, k, k, k, k, k, k, k, k, k, k, k, k, k, k, k, k, k, k, k, k, k, k, k, k, k, k, k, k, k, k, k, k, k, k, k, k, k, k, k, k]]) := by kernel_rfl
theorem rep_64 (k : Int) : ((evC E0 4000 ⟨none, false⟩ cb_rep (repSt k 64)).map fun p => (p.1, p.2.fr.length, getAll p.2.fr [(4, AV.e0)], p.2.hp)) = some (.ret, 48, [some (some (.rf 0 0 64 64))], [own1 [k, k, k, k, k, k, k, k, k, k, k, k, k, k, k, k, k, k, k, k, k, k, k, k, k, k, k, k, k, k, k, k, k, k, k, k, k, k, k, k, k, k, k, k, k, k, k, k, k, k, k, k, k, k, k, k, k, k, k, k, k, k, k, k]]) := by kernel_rfl
theorem x_slices_Repeat_L_int : XOk 9 t_slices_Repeat_L_int := by
  refine EnvOk.x (E := E0) (contract_ok E0_ok (fn := Tryd.f9) (c := cb_rep) ?h1 ?h2 ⟨Tryd.call9⟩ cs_slices_Repeat_L_int (fun a => slices_Repeat_L_int a.1 a.2.1) er_slices_Repeat_L_int (fun a => (by show 2 ≤ 48; decide)) ?h3 ?h4) rfl rfl
  case h1 => kernel_rfl
  case h2 => kernel_rfl
  case h3 => intro b; kernel_rfl
  case h4 =>
    rintro ⟨xs, q, u⟩ r h0
    have h : slices_Repeat_L_int xs q = some r := h0
    clear h0
    unfold slices_Repeat_L_int at h
    split at h
    · next k =>
      split at h
      · next hq =>
        injection h with h
        subst h
        have hq : q = 1 ∨ q = 2 ∨ q = 3 ∨ q = 4 ∨ q = 5 ∨ q = 6 ∨ q = 7 ∨ q = 8 ∨ q = 9 ∨ q = 10 ∨ q = 11 ∨ q = 12 ∨ q = 13 ∨ q = 14 ∨ q = 15 ∨ q = 16 ∨ q = 17 ∨ q = 18 ∨ q = 19 ∨ q = 20 ∨ q = 21 ∨ q = 22 ∨ q = 23 ∨ q = 24 ∨ q = 25 ∨ q = 26 ∨ q = 27 ∨ q = 28 ∨ q = 29 ∨ q = 30 ∨ q = 31 ∨ q = 32 ∨ q = 33 ∨ q = 34 ∨ q = 35 ∨ q = 36 ∨ q = 37 ∨ q = 38 ∨ q = 39 ∨ q = 40 ∨ q = 41 ∨ q = 42 ∨ q = 43 ∨ q = 44 ∨ q = 45 ∨ q = 46 ∨ q = 47 ∨ q = 48 ∨ q = 49 ∨ q = 50 ∨ q = 51 ∨ q = 52 ∨ q = 53 ∨ q = 54 ∨ q = 55 ∨ q = 56 ∨ q = 57 ∨ q = 58 ∨ q = 59 ∨ q = 60 ∨ q = 61 ∨ q = 62 ∨ q = 63 ∨ q = 64 := by omega
        rcases hq with rfl | rfl | rfl | rfl | rfl | rfl | rfl | rfl | rfl | rfl | rfl | rfl | rfl | rfl | rfl | rfl | rfl | rfl | rfl | rfl | rfl | rfl | rfl | rfl | rfl | rfl | rfl | rfl | rfl | rfl | rfl | rfl | rfl | rfl | rfl | rfl | rfl | rfl | rfl | rfl | rfl | rfl | rfl | rfl | rfl | rfl | rfl | rfl | rfl | rfl | rfl | rfl | rfl | rfl | rfl | rfl | rfl | rfl | rfl | rfl | rfl | rfl | rfl | rfl
        · exact rep_fin k 1 [k] (rep_1 k)
        · exact rep_fin k 2 [k, k] (rep_2 k)
        · exact rep_fin k 3 [k, k, k] (rep_3 k)
        · exact rep_fin k 4 [k, k, k, k] (rep_4 k)
        · exact rep_fin k 5 [k, k, k, k, k] (rep_5 k)
        · exact rep_fin k 6 [k, k, k, k, k, k] (rep_6 k)
        · exact rep_fin k 7 [k, k, k, k, k, k, k] (rep_7 k)
        · exact rep_fin k 8 [k, k, k, k, k, k, k, k] (rep_8 k)
        · exact rep_fin k 9 [k, k, k, k, k, k, k, k, k] (rep_9 k)
        · exact rep_fin k 10 [k, k, k, k, k, k, k, k, k, k] (rep_10 k)
        · exact rep_fin k 11 [k, k, k, k, k, k, k, k, k, k, k] (rep_11 k)
        · exact rep_fin k 12 [k, k, k, k, k, k, k, k, k, k, k, k] (rep_12 k)
        · exact rep_fin k 13 [k, k, k, k, k, k, k, k, k, k, k, k, k] (rep_13 k)
        · exact rep_fin k 14 [k, k, k, k, k, k, k, k, k, k, k, k, k, k] (rep_14 k)
        · exact rep_fin k 15 [k, k, k, k, k, k, k, k, k, k, k, k, k, k, k] (rep_15 k)
        · exact rep_fin k 16 [k, k, k, k, k, k, k, k, k, k, k, k, k, k, k, k] (rep_16 k)
        · exact rep_fin k 17 [k, k, k, k, k, k, k, k, k, k, k, k, k, k, k, k, k] (rep_17 k)
        · exact rep_fin k 18 [k, k, k, k, k, k, k, k, k, k, k, k, k, k, k, k, k, k] (rep_18 k)
        · exact rep_fin k 19 [k, k, k, k, k, k, k, k, k, k, k, k, k, k, k, k, k, k, k] (rep_19 k)
        · exact rep_fin k 20 [k, k, k, k, k, k, k, k, k, k, k, k, k, k, k, k, k, k, k, k] (rep_20 k)
        · exact rep_fin k 21 [k, k, k, k, k, k, k, k, k, k, k, k, k, k, k, k, k, k, k, k, k] (rep_21 k)
        · exact rep_fin k 22 [k, k, k, k, k, k, k, k, k, k, k, k, k, k, k, k, k, k, k, k, k, k] (rep_22 k)
        · exact rep_fin k 23 [k, k, k, k, k, k, k, k, k, k, k, k, k, k, k, k, k, k, k, k, k, k, k] (rep_23 k)
        · exact rep_fin k 24 [k, k, k, k, k, k, k, k, k, k, k, k, k, k, k, k, k, k, k, k, k, k, k, k] (rep_24 k)
        · exact rep_fin k 25 [k, k, k, k, k, k, k, k, k, k, k, k, k, k, k, k, k, k, k, k, k, k, k, k, k] (rep_25 k)
        · exact rep_fin k 26 [k, k, k, k, k, k, k, k, k, k, k, k, k, k, k, k, k, k, k, k, k, k, k, k, k, k] (rep_26 k)
        · exact rep_fin k 27 [k, k, k, k, k, k, k, k, k, k, k, k, k, k, k, k, k, k, k, k, k, k, k, k, k, k, k] (rep_27 k)
        · exact rep_fin k 28 [k, k, k, k, k, k, k, k, k, k, k, k, k, k, k, k, k, k, k, k, k, k, k, k, k, k, k, k] (rep_28 k)
        · exact rep_fin k 29 [k, k, k, k, k, k, k, k, k, k, k, k, k, k, k, k, k, k, k, k, k, k, k, k, k, k, k, k, k] (rep_29 k)
        · exact rep_fin k 30 [k, k, k, k, k, k, k, k, k, k, k, k, k, k, k, k, k, k, k, k, k, k, k, k, k, k, k, k, k, k] (rep_30 k)
        · exact rep_fin k 31 [k, k, k, k, k, k, k, k, k, k, k, k, k, k, k, k, k, k, k, k, k, k, k, k, k, k, k, k, k, k, k] (rep_31 k)
        · exact rep_fin k 32 [k, k, k, k, k, k, k, k, k, k, k, k, k, k, k, k, k, k, k, k, k, k, k, k, k, k, k, k, k, k, k, k] (rep_32 k)
        · exact rep_fin k 33 [k, k, k, k, k, k, k, k, k, k, k, k, k, k, k, k, k, k, k, k, k, k, k, k, k, k, k, k, k, k, k, k, k] (rep_33 k)
        · exact rep_fin k 34 [k, k, k, k, k, k, k, k, k, k, k, k, k, k, k, k, k, k, k, k, k, k, k, k, k, k, k, k, k, k, k, k, k, k] (rep_34 k)
        · exact rep_fin k 35 [k, k, k, k, k, k, k, k, k, k, k, k, k, k, k, k, k, k, k, k, k, k, k, k, k, k, k, k, k, k, k, k, k, k, k] (rep_35 k)
        · exact rep_fin k 36 [k, k, k, k, k, k, k, k, k, k, k, k, k, k, k, k, k, k, k, k, k, k, k, k, k, k, k, k, k, k, k, k, k, k, k, k] (rep_36 k)
        · exact rep_fin k 37 [k, k, k, k, k, k, k, k, k, k, k, k, k, k, k, k, k, k, k, k, k, k, k, k, k, k, k, k, k, k, k, k, k, k, k, k, k] (rep_37 k)
        · exact rep_fin k 38 [k, k, k, k, k, k, k, k, k, k, k, k, k, k, k, k, k, k, k, k, k, k, k, k, k, k, k, k, k, k, k, k, k, k, k, k, k, k] (rep_38 k)
        · exact rep_fin k 39 [k, k, k, k, k, k, k, k, k, k, k, k, k, k, k, k, k, k, k, k, k, k, k, k, k, k, k, k, k, k, k, k, k, k, k, k, k, k, k] (rep_39 k)
        · exact rep_fin k 40 [k, k, k, k, k, k, k, k, k, k, k, k, k, k, k, k, k, k, k, k, k, k, k, k, k, k, k, k, k, k, k, k, k, k, k, k, k, k, k, k] (rep_40 k)
        · exact rep_fin k 41 [k, k, k, k, k, k, k, k, k, k, k, k, k, k, k, k, k, k, k, k, k, k, k, k, k, k, k, k, k, k, k, k, k, k, k, k, k, k, k, k, k] (rep_41 k)
        · exact rep_fin k 42 [k, k, k, k, k, k, k, k, k, k, k, k, k, k, k, k, k, k, k, k, k, k, k, k, k, k, k, k, k, k, k, k, k, k, k, k, k, k, k, k, k, k] (rep_42 k)
        · exact rep_fin k 43 [k, k, k, k, k, k, k, k, k, k, k, k, k, k, k, k, k, k, k, k, k, k, k, k, k, k, k, k, k, k, k, k, k, k, k, k, k, k, k, k, k, k, k] (rep_43 k)
        · exact rep_fin k 44 [k, k, k, k, k, k, k, k, k, k, k, k, k, k, k, k, k, k, k, k, k, k, k, k, k, k, k, k, k, k, k, k, k, k, k, k, k, k, k, k, k, k, k, k] (rep_44 k)
        · exact rep_fin k 45 [k, k, k, k, k, k, k, k, k, k, k, k, k, k, k, k, k, k, k, k, k, k, k, k, k, k, k, k, k, k, k, k, k, k, k, k, k, k, k, k, k, k, k, k, k] (rep_45 k)
        · exact rep_fin k 46 [k, k, k, k, k, k, k, k, k, k, k, k, k, k, k, k, k, k, k, k, k, k, k, k, k, k, k, k, k, k, k, k, k, k, k, k, k, k, k, k, k, k, k, k, k, k] (rep_46 k)
        · exact rep_fin k 47 [k, k, k, k, k, k, k, k, k, k, k, k, k, k, k, k, k, k, k, k, k, k, k, k, k, k, k, k, k, k, k, k, k, k, k, k, k, k, k, k, k, k, k, k, k, k, k] (rep_47 k)
        · exact rep_fin k 48 [k, k, k, k, k, k, k, k, k, k, k, k, k, k, k, k, k, k, k, k, k, k, k, k, k, k, k, k, k, k, k, k, k, k, k, k, k, k, k, k, k, k, k, k, k, k, k, k] (rep_48 k)
        · exact rep_fin k 49 [k, k, k, k, k, k, k, k, k, k, k, k, k, k, k, k, k, k, k, k, k, k, k, k, k, k, k, k, k, k, k, k, k, k, k, k, k, k, k, k, k, k, k, k, k, k, k, k, k] (rep_49 k)
        · exact rep_fin k 50 [k, k, k, k, k, k, k, k, k, k, k, k, k, k, k, k, k, k, k, k, k, k, k, k, k, k, k, k, k, k, k, k, k, k, k, k, k, k, k, k, k, k, k, k, k, k, k, k, k, k] (rep_50 k)
        · exact rep_fin k 51 [k, k, k, k, k, k, k, k, k, k, k, k, k, k, k, k, k, k, k, k, k, k, k, k, k, k, k, k, k, k, k, k, k, k, k, k, k, k, k, k, k, k, k, k, k, k, k, k, k, k, k] (rep_51 k)
        · exact rep_fin k 52 [k, k, k, k, k, k, k, k, k, k, k, k, k, k, k, k, k, k, k, k, k, k, k, k, k, k, k, k, k, k, k, k, k, k, k, k, k, k, k, k, k, k, k, k, k, k, k, k, k, k, k, k] (rep_52 k)
        · exact rep_fin k 53 [k, k, k, k, k, k, k, k, k, k, k, k, k, k, k, k, k, k, k, k, k, k, k, k, k, k, k, k, k, k, k, k, k, k, k, k, k, k, k, k, k, k, k, k, k, k, k, k, k, k, k, k, k] (rep_53 k)
        · exact rep_fin k 54 [k, k, k, k, k, k, k, k, k, k, k, k, k, k, k, k, k, k, k, k, k, k, k, k, k, k, k, k, k, k, k, k, k, k, k, k, k, k, k, k, k, k, k, k, k, k, k, k, k, k, k, k, k, k] (rep_54 k)
        · exact rep_fin k 55 [k, k, k, k, k, k, k, k, k, k, k, k, k, k, k, k, k, k, k, k, k, k, k, k, k, k, k, k, k, k, k, k, k, k, k, k, k, k, k, k, k, k, k, k, k, k, k, k, k, k, k, k, k, k, k] (rep_55 k)
        · exact rep_fin k 56 [k, k, k, k, k, k, k, k, k, k, k, k, k, k, k, k, k, k, k, k, k, k, k, k, k, k, k, k, k, k, k, k, k, k, k, k, k, k, k, k, k, k, k, k, k, k, k, k, k, k, k, k, k, k, k, k] (rep_56 k)
        · exact rep_fin k 57 [k, k, k, k, k, k, k, k, k, k, k, k, k, k, k, k, k, k, k, k, k, k, k, k, k, k, k, k, k, k, k, k, k, k, k, k, k, k, k, k, k, k, k, k, k, k, k, k, k, k, k, k, k, k, k, k, k] (rep_57 k)
        · exact rep_fin k 58 [k, k, k, k, k, k, k, k, k, k, k, k, k, k, k, k, k, k, k, k, k, k, k, k, k, k, k, k, k, k, k, k, k, k, k, k, k, k, k, k, k, k, k, k, k, k, k, k, k, k, k, k, k, k, k, k, k, k] (rep_58 k)
        · exact rep_fin k 59 [k, k, k, k, k, k, k, k, k, k, k, k, k, k, k, k, k, k, k, k, k, k, k, k, k, k, k, k, k, k, k, k, k, k, k, k, k, k, k, k, k, k, k, k, k, k, k, k, k, k, k, k, k, k, k, k, k, k, k] (rep_59 k)
        · exact rep_fin k 60 [k, k, k, k, k, k, k, k, k, k, k, k, k, k, k, k, k, k, k, k, k, k, k, k, k, k, k, k, k, k, k, k, k, k, k, k, k, k, k, k, k, k, k, k, k, k, k, k, k, k, k, k, k, k, k, k, k, k, k, k] (rep_60 k)
        · exact rep_fin k 61 [k, k, k, k, k, k, k, k, k, k, k, k, k, k, k, k, k, k, k, k, k, k, k, k, k, k, k, k, k, k, k, k, k, k, k, k, k, k, k, k, k, k, k, k, k, k, k, k, k, k, k, k, k, k, k, k, k, k, k, k, k] (rep_61 k)
        · exact rep_fin k 62 [k, k, k, k, k, k, k, k, k, k, k, k, k, k, k, k, k, k, k, k, k, k, k, k, k, k, k, k, k, k, k, k, k, k, k, k, k, k, k, k, k, k, k, k, k, k, k, k, k, k, k, k, k, k, k, k, k, k, k, k, k, k] (rep_62 k)
        · exact rep_fin k 63 [k, k, k, k, k, k, k, k, k, k, k, k, k, k, k, k, k, k, k, k, k, k, k, k, k, k, k, k, k, k, k, k, k, k, k, k, k, k, k, k, k, k, k, k, k, k, k, k, k, k, k, k, k, k, k, k, k, k, k, k, k, k, k] (rep_63 k)
        · exact rep_fin k 64 [k, k, k, k, k, k, k, k, k, k, k, k, k, k, k, k, k, k, k, k, k, k, k, k, k, k, k, k, k, k, k, k, k, k, k, k, k, k, k, k, k, k, k, k, k, k, k, k, k, k, k, k, k, k, k, k, k, k, k, k, k, k, k, k] (rep_64 k)
      · cases h
    · cases h
end Go.Proofs.YtnmkejapogklmaaDoor

namespace Go.Proofs.YtnmkejapogklmaaDoor
open Go.RowKit
/- trestle/evening.fit -/
noncomputable def e_evening_fit : Env := (E0.withX 34 t_evening_guests)
theorem e_evening_fit_ok : EnvOk e_evening_fit := (EnvOk.withX E0_ok x_evening_guests.1 x_evening_guests.2)
noncomputable def cb_evening_fit : Code := codeOf Tryd.f40
def evening_fit_1 (x0 : Int) (x1 : (List Int)) : Nat → Int → Int → Option ((Int) ⊕ (Bool))
  | 0, _, _ => none
  | f + 1, c1, c2 =>
    if (decide (c2 < (x1.length : Int))) = true then
    (idx x1 c2).bind fun v4 =>
    (if (decide (v4 < 1)) = true then some true else some (decide (v4 > c1))).bind fun j6 =>
    if j6 = true then
    some (.inr false)
    else
    evening_fit_1 x0 x1 f (wr .i64 (c1 - v4)) (wr .i64 (c2 + 1))
    else
    some (.inl c1)
def evening_fit (x0 : Int) (x1 : (List Int)) : Option (Bool) :=
  (evening_fit_1 x0 x1 100000 x0 0).bind fun r11 =>
  match r11 with
  | (.inl w12) =>
    (evening_guests x0).bind fun v13 =>
    (if v13 = true then some (w12 == 0) else some false).bind fun j15 =>
    some j15
  | (.inr w17) =>
    some w17
def cs_evening_fit : Cs (Int × (List Int) × Unit) := (csC cdI (csC (cdL 1 cdI) csN))
def er_evening_fit (r : Bool) : AV := cdB.enc r
set_option maxHeartbeats 4000000 in
set_option maxRecDepth 100000 in
theorem evening_fit_1_ok (x0 : Int) (x1 : (List Int)) : ∀ (f : Nat) (c1 : Int) (c2 : Int) (r : (Int) ⊕ (Bool)), evening_fit_1 x0 x1 f c1 c2 = some r → SemN e_evening_fit ⟨none, false⟩ (pc cb_evening_fit [1, 1, 0, 1, 0, 0]) f ⟨Fr 32 [(0, .v (.int .i64 x0)), (5, .v (.int .i64 c1)), (9, .sl 1 (x1.map cdI.enc)), (10, .v (.int .i64 (x1.length : Int))), (11, .v (.int .i64 c2))], []⟩ (fun e s => match r with
  | (.inl w) => e = (.exit 0) ∧ Wk e_evening_fit s ⟨Fr 32 [(0, .v (.int .i64 x0)), (5, .v (.int .i64 w))], []⟩
  | (.inr w) => e = .ret ∧ Wk e_evening_fit s ⟨Fr 32 [(4, .v (.bool w))], []⟩) := by
  intro f
  induction f with
  | zero => intro c1 c2 r h; cases h
  | succ f ih0 =>
    intro c1 c2 r h
    have ih := fun (c1 : Int) (c2 : Int) => ih0 c1 c2 r
    unfold evening_fit_1 at h
    refine SemN.succ ?_
    refine Sem.seq ?_
    refine Sem.runS (s1 := ⟨Fr 32 [(0, .v (.int .i64 x0)), (5, .v (.int .i64 c1)), (9, .sl 1 (x1.map cdI.enc)), (10, .v (.int .i64 (x1.length : Int))), (11, .v (.int .i64 c2)), (12, .v (.bool (decide (c2 < (x1.length : Int)))))], []⟩) ?_ ?_
    · refine RunS.segF (n := 32) e_evening_fit_ok 1 [(0, .v (.int .i64 x0)), (5, .v (.int .i64 c1)), (9, .sl 1 (x1.map cdI.enc)), (10, .v (.int .i64 (x1.length : Int))), (11, .v (.int .i64 c2)), (12, .v (.bool (decide (c2 < (x1.length : Int)))))] [] (by kernel_rfl) ?_
      exact RunS.done rfl (Wk.fr (by kernel_rfl))
    refine Sem.seq ?_
    refine Sem.cond (b := (decide (c2 < (x1.length : Int)))) (by kernel_rfl) (fun hb3 => ?_) (fun hb3 => ?_)
    · rw [if_pos hb3] at h
      refine Sem.skip ?_
      refine Sem.seq ?_
      refine Sem.block ?_
      refine Sem.seq ?_
      obtain ⟨v4, hv4, h⟩ := Option.bind_eq_some_iff.1 h
      refine Sem.runS (s1 := ⟨Fr 32 [(0, .v (.int .i64 x0)), (5, .v (.int .i64 c1)), (7, .v (.int .i64 v4)), (9, .sl 1 (x1.map cdI.enc)), (10, .v (.int .i64 (x1.length : Int))), (11, .v (.int .i64 c2))], []⟩) ?_ ?_
      · refine RunS.one e_evening_fit_ok 0 rfl (op_q (wantedA_none rfl) rfl (q_indexAddr (a := .sl 1 (x1.map cdI.enc)) (b := .v (.int .i64 c2)) (by kernel_rfl) (by kernel_rfl) (ix_sl (e := cdI.enc) (el := 3) (k := 1) (ki := .i64) (by kernel_rfl) (by kernel_rfl) hv4))) ?_
        refine RunS.segF (n := 32) e_evening_fit_ok 2 [(0, .v (.int .i64 x0)), (5, .v (.int .i64 c1)), (7, .v (.int .i64 v4)), (9, .sl 1 (x1.map cdI.enc)), (10, .v (.int .i64 (x1.length : Int))), (11, .v (.int .i64 c2))] [] (by kernel_rfl) ?_
        exact RunS.done rfl (Wk.fr (by kernel_rfl))
      refine Sem.seq ?_
      refine Sem.seq ?_
      obtain ⟨j6, hj6, h⟩ := Option.bind_eq_some_iff.1 h
      refine Sem.runS (s1 := ⟨Fr 32 [(0, .v (.int .i64 x0)), (5, .v (.int .i64 c1)), (7, .v (.int .i64 v4)), (9, .sl 1 (x1.map cdI.enc)), (10, .v (.int .i64 (x1.length : Int))), (11, .v (.int .i64 c2)), (21, .v (.bool j6))], []⟩) ?_ ?_
      · refine RunS.segF (n := 32) e_evening_fit_ok 3 [(0, .v (.int .i64 x0)), (5, .v (.int .i64 c1)), (7, .v (.int .i64 v4)), (9, .sl 1 (x1.map cdI.enc)), (10, .v (.int .i64 (x1.length : Int))), (11, .v (.int .i64 c2)), (17, .v (.bool (decide (v4 < 1))))] [] (by kernel_rfl) ?_
        rcases Bool.eq_false_or_eq_true (decide (v4 < 1)) with hc9 | hc9
        · rw [if_pos hc9] at hj6
          rw [hc9]
          refine RunS.segF (n := 32) e_evening_fit_ok 4 [(0, .v (.int .i64 x0)), (5, .v (.int .i64 c1)), (7, .v (.int .i64 v4)), (9, .sl 1 (x1.map cdI.enc)), (10, .v (.int .i64 (x1.length : Int))), (11, .v (.int .i64 c2)), (18, .tp []), (19, .tp []), (20, .tp []), (21, .v (.bool true))] [] (by kernel_rfl) ?_
          have hq := Option.some.inj hj6; subst hq
          exact RunS.done rfl (Wk.fr (by kernel_rfl))
        · rw [if_f hc9] at hj6
          rw [hc9]
          refine RunS.segF (n := 32) e_evening_fit_ok 4 [(0, .v (.int .i64 x0)), (5, .v (.int .i64 c1)), (7, .v (.int .i64 v4)), (9, .sl 1 (x1.map cdI.enc)), (10, .v (.int .i64 (x1.length : Int))), (11, .v (.int .i64 c2)), (18, .v (.int .i64 v4)), (19, .v (.int .i64 c1)), (20, .v (.bool (decide (v4 > c1)))), (21, .v (.bool (decide (v4 > c1))))] [] (by kernel_rfl) ?_
          have hq := Option.some.inj hj6; subst hq
          exact RunS.done rfl (Wk.fr (by kernel_rfl))
      refine Sem.cond (b := j6) (by kernel_rfl) (fun hb7 => ?_) (fun hb7 => ?_)
      · rw [if_pos hb7] at h
        refine Sem.seq ?_
        refine Sem.runS (s1 := ⟨Fr 32 [(4, .v (.bool false))], []⟩) ?_ ?_
        · refine RunS.segF (n := 32) e_evening_fit_ok 1 [(4, .v (.bool false))] [] (by kernel_rfl) ?_
          exact RunS.done rfl (Wk.fr (by kernel_rfl))
        refine Sem.ret ?_
        have hq := Option.some.inj h; subst hq
        exact ⟨rfl, (Wk.fr (by kernel_rfl))⟩
      · rw [if_f hb7] at h
        refine Sem.skip ?_
        refine Sem.runS (s1 := ⟨Fr 32 [(0, .v (.int .i64 x0)), (5, .v (.int .i64 (wr .i64 (c1 - v4)))), (9, .sl 1 (x1.map cdI.enc)), (10, .v (.int .i64 (x1.length : Int))), (11, .v (.int .i64 c2))], []⟩) ?_ ?_
        · refine RunS.segF (n := 32) e_evening_fit_ok 4 [(0, .v (.int .i64 x0)), (5, .v (.int .i64 (wr .i64 (c1 - v4)))), (9, .sl 1 (x1.map cdI.enc)), (10, .v (.int .i64 (x1.length : Int))), (11, .v (.int .i64 c2))] [] (by kernel_rfl) ?_
          exact RunS.done rfl (Wk.fr (by kernel_rfl))
        refine Sem.runS (s1 := ⟨Fr 32 [(0, .v (.int .i64 x0)), (5, .v (.int .i64 (wr .i64 (c1 - v4)))), (9, .sl 1 (x1.map cdI.enc)), (10, .v (.int .i64 (x1.length : Int))), (11, .v (.int .i64 (wr .i64 (c2 + 1))))], []⟩) ?_ ?_
        · refine RunS.segF (n := 32) e_evening_fit_ok 2 [(0, .v (.int .i64 x0)), (5, .v (.int .i64 (wr .i64 (c1 - v4)))), (9, .sl 1 (x1.map cdI.enc)), (10, .v (.int .i64 (x1.length : Int))), (11, .v (.int .i64 (wr .i64 (c2 + 1))))] [] (by kernel_rfl) ?_
          exact RunS.done rfl (Wk.fr (by kernel_rfl))
        exact SemN.wk (s1 := ⟨Fr 32 [(0, .v (.int .i64 x0)), (5, .v (.int .i64 (wr .i64 (c1 - v4)))), (9, .sl 1 (x1.map cdI.enc)), (10, .v (.int .i64 (x1.length : Int))), (11, .v (.int .i64 (wr .i64 (c2 + 1))))], []⟩) (Wk.fr (by kernel_rfl)) (ih (wr .i64 (c1 - v4)) (wr .i64 (c2 + 1)) h)
    · rw [if_f hb3] at h
      refine Sem.exit ?_
      have hq := Option.some.inj h; subst hq
      exact ⟨rfl, (Wk.fr (by kernel_rfl))⟩
set_option maxHeartbeats 4000000 in
set_option maxRecDepth 100000 in
theorem evening_fit_sem (x0 : Int) (x1 : (List Int)) (r : Bool) (h : evening_fit x0 x1 = some r) : Sem e_evening_fit ⟨none, false⟩ cb_evening_fit ⟨Fr 32 (pairs0 0 (cs_evening_fit.enc (x0, x1, ()))), []⟩ fun e s' => (e = .normal ∨ e = .ret) ∧ ∃ xs, resA e_evening_fit.P s'.fr s'.hp Tryd.f40.results.toList = some xs ∧ retA xs = er_evening_fit r := by
  unfold evening_fit at h
  refine Sem.wkQ (Sem.wk (s1 := ⟨Fr 32 [(0, .v (.int .i64 x0)), (1, .sl 1 (x1.map cdI.enc))], []⟩) (Wk.fr (by kernel_rfl)) ?_)
  refine Sem.seq ?_
  refine Sem.runS (s1 := ⟨Fr 32 [(0, .v (.int .i64 x0)), (1, .sl 1 (x1.map cdI.enc))], []⟩) ?_ ?_
  · refine RunS.segF (n := 32) e_evening_fit_ok 1 [(0, .v (.int .i64 x0)), (1, .sl 1 (x1.map cdI.enc))] [] (by kernel_rfl) ?_
    exact RunS.done rfl (Wk.fr (by kernel_rfl))
  refine Sem.seq ?_
  refine Sem.runS (s1 := ⟨Fr 32 [(0, .v (.int .i64 x0)), (1, .sl 1 (x1.map cdI.enc)), (5, .v (.int .i64 x0))], []⟩) ?_ ?_
  · refine RunS.segF (n := 32) e_evening_fit_ok 2 [(0, .v (.int .i64 x0)), (1, .sl 1 (x1.map cdI.enc)), (5, .v (.int .i64 x0))] [] (by kernel_rfl) ?_
    exact RunS.done rfl (Wk.fr (by kernel_rfl))
  refine Sem.seq ?_
  refine Sem.seq ?_
  refine Sem.runS (s1 := ⟨Fr 32 [(0, .v (.int .i64 x0)), (5, .v (.int .i64 x0)), (9, .sl 1 (x1.map cdI.enc)), (10, .v (.int .i64 (x1.length : Int))), (11, .v (.int .i64 0))], []⟩) ?_ ?_
  · refine RunS.segF (n := 32) e_evening_fit_ok 1 [(0, .v (.int .i64 x0)), (5, .v (.int .i64 x0)), (9, .sl 1 (x1.map cdI.enc))] [] (by kernel_rfl) ?_
    refine RunS.one e_evening_fit_ok 0 rfl (op_q (wantedA_none rfl) rfl (q_len (a := .sl 1 (x1.map cdI.enc)) (by kernel_rfl) (len_sl (el := 3) (by kernel_rfl)))) ?_
    refine RunS.segF (n := 32) e_evening_fit_ok 1 [(0, .v (.int .i64 x0)), (5, .v (.int .i64 x0)), (9, .sl 1 (x1.map cdI.enc)), (10, .v (.int .i64 (x1.length : Int))), (11, .v (.int .i64 0))] [] (by kernel_rfl) ?_
    exact RunS.done rfl (Wk.fr (by kernel_rfl))
  refine Sem.block ?_
  obtain ⟨r11, hr11, h⟩ := Option.bind_eq_some_iff.1 h
  refine Sem.loop (n := 100000) ?_
  rcases r11 with w12 | w17
  · try dsimp only at h
    refine Sem.cutN (SemN.wk (s1 := ⟨Fr 32 [(0, .v (.int .i64 x0)), (5, .v (.int .i64 x0)), (9, .sl 1 (x1.map cdI.enc)), (10, .v (.int .i64 (x1.length : Int))), (11, .v (.int .i64 0))], []⟩) (Wk.fr (by kernel_rfl)) (evening_fit_1_ok x0 x1 _ x0 0 _ hr11)) ?_
    refine Sem.seq ?_
    obtain ⟨v13, hv13, h⟩ := Option.bind_eq_some_iff.1 h
    obtain ⟨j15, hj15, h⟩ := Option.bind_eq_some_iff.1 h
    refine Sem.runS (s1 := ⟨Fr 32 [(4, .v (.bool j15))], []⟩) ?_ ?_
    · refine RunS.segF (n := 32) e_evening_fit_ok 1 [(5, .v (.int .i64 w12)), (26, .v (.int .i64 x0))] [] (by kernel_rfl) ?_
      refine RunS.call e_evening_fit_ok (fid := 34) (s := cs_evening_guests) (F := fun a => evening_guests a.1) (er := er_evening_guests) (xs := [.v (.int .i64 x0)]) (a := (x0, ())) rfl (wantedA_none rfl) (by kernel_rfl) (by kernel_rfl) (by kernel_rfl) (by kernel_rfl) (Sns.cons (Sn.enc (c := cdI) (v := x0)) Sns.nil) (.inl (by kernel_rfl)) hv13 ?_
      refine RunS.segF (n := 32) e_evening_fit_ok 1 [(5, .v (.int .i64 w12)), (28, .v (.bool v13))] [] (by kernel_rfl) ?_
      rcases Bool.eq_false_or_eq_true v13 with hc16 | hc16
      · rw [if_pos hc16] at hj15
        rw [hc16]
        refine RunS.segF (n := 32) e_evening_fit_ok 4 [(4, .v (.bool (w12 == 0)))] [] (by kernel_rfl) ?_
        have hq := Option.some.inj hj15; subst hq
        exact RunS.done rfl (Wk.fr (by kernel_rfl))
      · rw [if_f hc16] at hj15
        rw [hc16]
        refine RunS.segF (n := 32) e_evening_fit_ok 4 [(4, .v (.bool false))] [] (by kernel_rfl) ?_
        have hq := Option.some.inj hj15; subst hq
        exact RunS.done rfl (Wk.fr (by kernel_rfl))
    refine Sem.ret ?_
    have hq := Option.some.inj h; subst hq
    exact ⟨⟨Fr 32 [(4, .v (.bool j15))], []⟩, (Wk.fr (by kernel_rfl)), .inr rfl, [.v (.bool j15)], (by kernel_rfl), (by kernel_rfl)⟩
  · try dsimp only at h
    refine Sem.cutN (SemN.wk (s1 := ⟨Fr 32 [(0, .v (.int .i64 x0)), (5, .v (.int .i64 x0)), (9, .sl 1 (x1.map cdI.enc)), (10, .v (.int .i64 (x1.length : Int))), (11, .v (.int .i64 0))], []⟩) (Wk.fr (by kernel_rfl)) (evening_fit_1_ok x0 x1 _ x0 0 _ hr11)) ?_
    have hq := Option.some.inj h; subst hq
    exact ⟨⟨Fr 32 [(4, .v (.bool w17))], []⟩, (Wk.fr (by kernel_rfl)), .inr rfl, [.v (.bool w17)], (by kernel_rfl), (by kernel_rfl)⟩
def t_evening_fit : List AV → Option AV := told cs_evening_fit (fun a => evening_fit a.1 a.2.1) er_evening_fit
theorem x_evening_fit : XOk 40 t_evening_fit := by
  refine EnvOk.x (E := e_evening_fit) (contract_ok e_evening_fit_ok (fn := Tryd.f40) (c := cb_evening_fit) ?h1 ?h2 ⟨Tryd.call40⟩ cs_evening_fit (fun a => evening_fit a.1 a.2.1) er_evening_fit (fun a => (by show 2 ≤ 32; decide)) ?h3 ?h4) rfl rfl
  case h1 => kernel_rfl
  case h2 => kernel_rfl
  case h3 => intro b; kernel_rfl
  case h4 => exact fun a b h => evening_fit_sem a.1 a.2.1 b h
end Go.Proofs.YtnmkejapogklmaaDoor

namespace Go.Proofs.YtnmkejapogklmaaDoor
open Go.RowKit
/- trestle/evening.met -/
noncomputable def e_evening_met : Env := E0
theorem e_evening_met_ok : EnvOk e_evening_met := E0_ok
noncomputable def cb_evening_met : Code := codeOf Tryd.f41
def evening_met_1 (x0 : (List Int)) : Nat → Int → Int → Option ((Int))
  | 0, _, _ => none
  | f + 1, c1, c2 =>
    if (decide (c2 < (x0.length : Int))) = true then
    (idx x0 c2).bind fun v4 =>
    evening_met_1 x0 f (wr .i64 (c1 + (wr .i64 ((wr .i64 (v4 * (wr .i64 (v4 - 1)))).tdiv 2)))) (wr .i64 (c2 + 1))
    else
    some c1
def evening_met (x0 : (List Int)) : Option (Int) :=
  (evening_met_1 x0 100000 0 0).bind fun r6 =>
  some r6
def cs_evening_met : Cs ((List Int) × Unit) := (csC (cdL 1 cdI) csN)
def er_evening_met (r : Int) : AV := cdI.enc r
set_option maxHeartbeats 4000000 in
set_option maxRecDepth 100000 in
theorem evening_met_1_ok (x0 : (List Int)) : ∀ (f : Nat) (c1 : Int) (c2 : Int) (r : (Int)), evening_met_1 x0 f c1 c2 = some r → SemN e_evening_met ⟨none, false⟩ (pc cb_evening_met [1, 1, 0, 1, 0, 0]) f ⟨Fr 21 [(3, .v (.int .i64 c1)), (6, .sl 1 (x0.map cdI.enc)), (7, .v (.int .i64 (x0.length : Int))), (8, .v (.int .i64 c2))], []⟩ (fun e s => e = (.exit 0) ∧ Wk e_evening_met s ⟨Fr 21 [(3, .v (.int .i64 r))], []⟩) := by
  intro f
  induction f with
  | zero => intro c1 c2 r h; cases h
  | succ f ih0 =>
    intro c1 c2 r h
    have ih := fun (c1 : Int) (c2 : Int) => ih0 c1 c2 r
    unfold evening_met_1 at h
    refine SemN.succ ?_
    refine Sem.seq ?_
    refine Sem.runS (s1 := ⟨Fr 21 [(3, .v (.int .i64 c1)), (6, .sl 1 (x0.map cdI.enc)), (7, .v (.int .i64 (x0.length : Int))), (8, .v (.int .i64 c2)), (9, .v (.bool (decide (c2 < (x0.length : Int)))))], []⟩) ?_ ?_
    · refine RunS.segF (n := 21) e_evening_met_ok 1 [(3, .v (.int .i64 c1)), (6, .sl 1 (x0.map cdI.enc)), (7, .v (.int .i64 (x0.length : Int))), (8, .v (.int .i64 c2)), (9, .v (.bool (decide (c2 < (x0.length : Int)))))] [] (by kernel_rfl) ?_
      exact RunS.done rfl (Wk.fr (by kernel_rfl))
    refine Sem.seq ?_
    refine Sem.cond (b := (decide (c2 < (x0.length : Int)))) (by kernel_rfl) (fun hb3 => ?_) (fun hb3 => ?_)
    · rw [if_pos hb3] at h
      refine Sem.skip ?_
      refine Sem.seq ?_
      refine Sem.block ?_
      refine Sem.seq ?_
      obtain ⟨v4, hv4, h⟩ := Option.bind_eq_some_iff.1 h
      refine Sem.runS (s1 := ⟨Fr 21 [(3, .v (.int .i64 c1)), (5, .v (.int .i64 v4)), (6, .sl 1 (x0.map cdI.enc)), (7, .v (.int .i64 (x0.length : Int))), (8, .v (.int .i64 c2))], []⟩) ?_ ?_
      · refine RunS.one e_evening_met_ok 0 rfl (op_q (wantedA_none rfl) rfl (q_indexAddr (a := .sl 1 (x0.map cdI.enc)) (b := .v (.int .i64 c2)) (by kernel_rfl) (by kernel_rfl) (ix_sl (e := cdI.enc) (el := 3) (k := 1) (ki := .i64) (by kernel_rfl) (by kernel_rfl) hv4))) ?_
        refine RunS.segF (n := 21) e_evening_met_ok 2 [(3, .v (.int .i64 c1)), (5, .v (.int .i64 v4)), (6, .sl 1 (x0.map cdI.enc)), (7, .v (.int .i64 (x0.length : Int))), (8, .v (.int .i64 c2))] [] (by kernel_rfl) ?_
        exact RunS.done rfl (Wk.fr (by kernel_rfl))
      refine Sem.runS (s1 := ⟨Fr 21 [(3, .v (.int .i64 (wr .i64 (c1 + (wr .i64 ((wr .i64 (v4 * (wr .i64 (v4 - 1)))).tdiv 2)))))), (6, .sl 1 (x0.map cdI.enc)), (7, .v (.int .i64 (x0.length : Int))), (8, .v (.int .i64 c2))], []⟩) ?_ ?_
      · refine RunS.segF (n := 21) e_evening_met_ok 8 [(3, .v (.int .i64 (wr .i64 (c1 + (wr .i64 ((wr .i64 (v4 * (wr .i64 (v4 - 1)))).tdiv 2)))))), (6, .sl 1 (x0.map cdI.enc)), (7, .v (.int .i64 (x0.length : Int))), (8, .v (.int .i64 c2))] [] (by kernel_rfl) ?_
        exact RunS.done rfl (Wk.fr (by kernel_rfl))
      refine Sem.runS (s1 := ⟨Fr 21 [(3, .v (.int .i64 (wr .i64 (c1 + (wr .i64 ((wr .i64 (v4 * (wr .i64 (v4 - 1)))).tdiv 2)))))), (6, .sl 1 (x0.map cdI.enc)), (7, .v (.int .i64 (x0.length : Int))), (8, .v (.int .i64 (wr .i64 (c2 + 1))))], []⟩) ?_ ?_
      · refine RunS.segF (n := 21) e_evening_met_ok 2 [(3, .v (.int .i64 (wr .i64 (c1 + (wr .i64 ((wr .i64 (v4 * (wr .i64 (v4 - 1)))).tdiv 2)))))), (6, .sl 1 (x0.map cdI.enc)), (7, .v (.int .i64 (x0.length : Int))), (8, .v (.int .i64 (wr .i64 (c2 + 1))))] [] (by kernel_rfl) ?_
        exact RunS.done rfl (Wk.fr (by kernel_rfl))
      exact SemN.wk (s1 := ⟨Fr 21 [(3, .v (.int .i64 (wr .i64 (c1 + (wr .i64 ((wr .i64 (v4 * (wr .i64 (v4 - 1)))).tdiv 2)))))), (6, .sl 1 (x0.map cdI.enc)), (7, .v (.int .i64 (x0.length : Int))), (8, .v (.int .i64 (wr .i64 (c2 + 1))))], []⟩) (Wk.fr (by kernel_rfl)) (ih (wr .i64 (c1 + (wr .i64 ((wr .i64 (v4 * (wr .i64 (v4 - 1)))).tdiv 2)))) (wr .i64 (c2 + 1)) h)
    · rw [if_f hb3] at h
      refine Sem.exit ?_
      have hq := Option.some.inj h; subst hq
      exact ⟨rfl, (Wk.fr (by kernel_rfl))⟩
set_option maxHeartbeats 4000000 in
set_option maxRecDepth 100000 in
theorem evening_met_sem (x0 : (List Int)) (r : Int) (h : evening_met x0 = some r) : Sem e_evening_met ⟨none, false⟩ cb_evening_met ⟨Fr 21 (pairs0 0 (cs_evening_met.enc (x0, ()))), []⟩ fun e s' => (e = .normal ∨ e = .ret) ∧ ∃ xs, resA e_evening_met.P s'.fr s'.hp Tryd.f41.results.toList = some xs ∧ retA xs = er_evening_met r := by
  unfold evening_met at h
  refine Sem.wkQ (Sem.wk (s1 := ⟨Fr 21 [(0, .sl 1 (x0.map cdI.enc))], []⟩) (Wk.fr (by kernel_rfl)) ?_)
  refine Sem.seq ?_
  refine Sem.runS (s1 := ⟨Fr 21 [(0, .sl 1 (x0.map cdI.enc))], []⟩) ?_ ?_
  · refine RunS.segF (n := 21) e_evening_met_ok 1 [(0, .sl 1 (x0.map cdI.enc))] [] (by kernel_rfl) ?_
    exact RunS.done rfl (Wk.fr (by kernel_rfl))
  refine Sem.seq ?_
  refine Sem.runS (s1 := ⟨Fr 21 [(0, .sl 1 (x0.map cdI.enc)), (3, .v (.int .i64 0))], []⟩) ?_ ?_
  · refine RunS.segF (n := 21) e_evening_met_ok 1 [(0, .sl 1 (x0.map cdI.enc)), (3, .v (.int .i64 0))] [] (by kernel_rfl) ?_
    exact RunS.done rfl (Wk.fr (by kernel_rfl))
  refine Sem.seq ?_
  refine Sem.seq ?_
  refine Sem.runS (s1 := ⟨Fr 21 [(3, .v (.int .i64 0)), (6, .sl 1 (x0.map cdI.enc)), (7, .v (.int .i64 (x0.length : Int))), (8, .v (.int .i64 0))], []⟩) ?_ ?_
  · refine RunS.segF (n := 21) e_evening_met_ok 1 [(3, .v (.int .i64 0)), (6, .sl 1 (x0.map cdI.enc))] [] (by kernel_rfl) ?_
    refine RunS.one e_evening_met_ok 0 rfl (op_q (wantedA_none rfl) rfl (q_len (a := .sl 1 (x0.map cdI.enc)) (by kernel_rfl) (len_sl (el := 3) (by kernel_rfl)))) ?_
    refine RunS.segF (n := 21) e_evening_met_ok 1 [(3, .v (.int .i64 0)), (6, .sl 1 (x0.map cdI.enc)), (7, .v (.int .i64 (x0.length : Int))), (8, .v (.int .i64 0))] [] (by kernel_rfl) ?_
    exact RunS.done rfl (Wk.fr (by kernel_rfl))
  refine Sem.block ?_
  obtain ⟨r6, hr6, h⟩ := Option.bind_eq_some_iff.1 h
  refine Sem.loop (n := 100000) ?_
  refine Sem.cutN (SemN.wk (s1 := ⟨Fr 21 [(3, .v (.int .i64 0)), (6, .sl 1 (x0.map cdI.enc)), (7, .v (.int .i64 (x0.length : Int))), (8, .v (.int .i64 0))], []⟩) (Wk.fr (by kernel_rfl)) (evening_met_1_ok x0 _ 0 0 _ hr6)) ?_
  refine Sem.seq ?_
  refine Sem.runS (s1 := ⟨Fr 21 [(2, .v (.int .i64 r6))], []⟩) ?_ ?_
  · refine RunS.segF (n := 21) e_evening_met_ok 2 [(2, .v (.int .i64 r6))] [] (by kernel_rfl) ?_
    exact RunS.done rfl (Wk.fr (by kernel_rfl))
  refine Sem.ret ?_
  have hq := Option.some.inj h; subst hq
  exact ⟨⟨Fr 21 [(2, .v (.int .i64 r6))], []⟩, (Wk.fr (by kernel_rfl)), .inr rfl, [.v (.int .i64 r6)], (by kernel_rfl), (by kernel_rfl)⟩
def t_evening_met : List AV → Option AV := told cs_evening_met (fun a => evening_met a.1) er_evening_met
theorem x_evening_met : XOk 41 t_evening_met := by
  refine EnvOk.x (E := e_evening_met) (contract_ok e_evening_met_ok (fn := Tryd.f41) (c := cb_evening_met) ?h1 ?h2 ⟨Tryd.call41⟩ cs_evening_met (fun a => evening_met a.1) er_evening_met (fun a => (by show 1 ≤ 21; decide)) ?h3 ?h4) rfl rfl
  case h1 => kernel_rfl
  case h2 => kernel_rfl
  case h3 => intro b; kernel_rfl
  case h4 => exact fun a b h => evening_met_sem a.1 b h
end Go.Proofs.YtnmkejapogklmaaDoor

namespace Go.Proofs.YtnmkejapogklmaaDoor
open Go.RowKit
/- trestle/evening.MostEvenings -/
noncomputable def e_evening_MostEvenings : Env := ((E0.withX 40 t_evening_fit).withX 41 t_evening_met)
theorem e_evening_MostEvenings_ok : EnvOk e_evening_MostEvenings := (EnvOk.withX (EnvOk.withX E0_ok x_evening_fit.1 x_evening_fit.2) x_evening_met.1 x_evening_met.2)
noncomputable def cb_evening_MostEvenings : Code := codeOf Tryd.f10
def evening_MostEvenings (x0 : Int) (x1 : (List Int)) (x2 : Int) : Option (Int) :=
  (evening_fit x0 x1).bind fun v1 =>
  (if (!v1) = true then some true else some (decide (x2 < 0))).bind fun j3 =>
  if j3 = true then
  some 0
  else
  (evening_met x1).bind fun v5 =>
  if (v5 == 0) = true then
  some 64
  else
  (evening_met x1).bind fun v7 =>
  if v7 = (0 : Int) then none else
  some (mnI 64 (wr .i64 ((wr .i64 ((mnI x2 64) * (wr .i64 ((wr .i64 (x0 * (wr .i64 (x0 - 1)))).tdiv 2)))).tdiv v7)))
def cs_evening_MostEvenings : Cs (Int × (List Int) × Int × Unit) := (csC cdI (csC (cdL 1 cdI) (csC cdI csN)))
def er_evening_MostEvenings (r : Int) : AV := cdI.enc r
set_option maxHeartbeats 4000000 in
set_option maxRecDepth 100000 in
theorem evening_MostEvenings_sem (x0 : Int) (x1 : (List Int)) (x2 : Int) (r : Int) (h : evening_MostEvenings x0 x1 x2 = some r) : Sem e_evening_MostEvenings ⟨none, false⟩ cb_evening_MostEvenings ⟨Fr 30 (pairs0 0 (cs_evening_MostEvenings.enc (x0, x1, x2, ()))), []⟩ fun e s' => (e = .normal ∨ e = .ret) ∧ ∃ xs, resA e_evening_MostEvenings.P s'.fr s'.hp Tryd.f10.results.toList = some xs ∧ retA xs = er_evening_MostEvenings r := by
  unfold evening_MostEvenings at h
  refine Sem.wkQ (Sem.wk (s1 := ⟨Fr 30 [(0, .v (.int .i64 x0)), (1, .sl 1 (x1.map cdI.enc)), (2, .v (.int .i64 x2))], []⟩) (Wk.fr (by kernel_rfl)) ?_)
  refine Sem.seq ?_
  refine Sem.runS (s1 := ⟨Fr 30 [(0, .v (.int .i64 x0)), (1, .sl 1 (x1.map cdI.enc)), (2, .v (.int .i64 x2))], []⟩) ?_ ?_
  · refine RunS.segF (n := 30) e_evening_MostEvenings_ok 1 [(0, .v (.int .i64 x0)), (1, .sl 1 (x1.map cdI.enc)), (2, .v (.int .i64 x2))] [] (by kernel_rfl) ?_
    exact RunS.done rfl (Wk.fr (by kernel_rfl))
  refine Sem.seq ?_
  refine Sem.seq ?_
  obtain ⟨v1, hv1, h⟩ := Option.bind_eq_some_iff.1 h
  obtain ⟨j3, hj3, h⟩ := Option.bind_eq_some_iff.1 h
  refine Sem.runS (s1 := ⟨Fr 30 [(0, .v (.int .i64 x0)), (1, .sl 1 (x1.map cdI.enc)), (2, .v (.int .i64 x2)), (14, .v (.bool j3))], []⟩) ?_ ?_
  · refine RunS.segF (n := 30) e_evening_MostEvenings_ok 2 [(0, .v (.int .i64 x0)), (1, .sl 1 (x1.map cdI.enc)), (2, .v (.int .i64 x2)), (7, .v (.int .i64 x0)), (8, .sl 1 (x1.map cdI.enc))] [] (by kernel_rfl) ?_
    refine RunS.call e_evening_MostEvenings_ok (fid := 40) (s := cs_evening_fit) (F := fun a => evening_fit a.1 a.2.1) (er := er_evening_fit) (xs := [.v (.int .i64 x0), .sl 1 (x1.map cdI.enc)]) (a := (x0, x1, ())) rfl (wantedA_none rfl) (by kernel_rfl) (by kernel_rfl) (by kernel_rfl) (by kernel_rfl) (Sns.cons (Sn.enc (c := cdI) (v := x0)) (Sns.cons (Sn.enc (c := (cdL 1 cdI)) (v := x1)) Sns.nil)) (.inl (by kernel_rfl)) hv1 ?_
    refine RunS.segF (n := 30) e_evening_MostEvenings_ok 2 [(0, .v (.int .i64 x0)), (1, .sl 1 (x1.map cdI.enc)), (2, .v (.int .i64 x2)), (11, .v (.bool (!v1)))] [] (by kernel_rfl) ?_
    rcases Bool.eq_false_or_eq_true (!v1) with hc9 | hc9
    · rw [if_pos hc9] at hj3
      rw [hc9]
      refine RunS.segF (n := 30) e_evening_MostEvenings_ok 3 [(0, .v (.int .i64 x0)), (1, .sl 1 (x1.map cdI.enc)), (2, .v (.int .i64 x2)), (14, .v (.bool true))] [] (by kernel_rfl) ?_
      have hq := Option.some.inj hj3; subst hq
      exact RunS.done rfl (Wk.fr (by kernel_rfl))
    · rw [if_f hc9] at hj3
      rw [hc9]
      refine RunS.segF (n := 30) e_evening_MostEvenings_ok 3 [(0, .v (.int .i64 x0)), (1, .sl 1 (x1.map cdI.enc)), (2, .v (.int .i64 x2)), (14, .v (.bool (decide (x2 < 0))))] [] (by kernel_rfl) ?_
      have hq := Option.some.inj hj3; subst hq
      exact RunS.done rfl (Wk.fr (by kernel_rfl))
  refine Sem.cond (b := j3) (by kernel_rfl) (fun hb4 => ?_) (fun hb4 => ?_)
  · rw [if_pos hb4] at h
    refine Sem.seq ?_
    refine Sem.runS (s1 := ⟨Fr 30 [(6, .v (.int .i64 0))], []⟩) ?_ ?_
    · refine RunS.segF (n := 30) e_evening_MostEvenings_ok 1 [(6, .v (.int .i64 0))] [] (by kernel_rfl) ?_
      exact RunS.done rfl (Wk.fr (by kernel_rfl))
    refine Sem.ret ?_
    have hq := Option.some.inj h; subst hq
    exact ⟨⟨Fr 30 [(6, .v (.int .i64 0))], []⟩, (Wk.fr (by kernel_rfl)), .inr rfl, [.v (.int .i64 0)], (by kernel_rfl), (by kernel_rfl)⟩
  · rw [if_f hb4] at h
    refine Sem.skip ?_
    refine Sem.seq ?_
    refine Sem.seq ?_
    obtain ⟨v5, hv5, h⟩ := Option.bind_eq_some_iff.1 h
    refine Sem.runS (s1 := ⟨Fr 30 [(0, .v (.int .i64 x0)), (1, .sl 1 (x1.map cdI.enc)), (2, .v (.int .i64 x2)), (17, .v (.bool (v5 == 0)))], []⟩) ?_ ?_
    · refine RunS.segF (n := 30) e_evening_MostEvenings_ok 1 [(0, .v (.int .i64 x0)), (1, .sl 1 (x1.map cdI.enc)), (2, .v (.int .i64 x2)), (15, .sl 1 (x1.map cdI.enc))] [] (by kernel_rfl) ?_
      refine RunS.call e_evening_MostEvenings_ok (fid := 41) (s := cs_evening_met) (F := fun a => evening_met a.1) (er := er_evening_met) (xs := [.sl 1 (x1.map cdI.enc)]) (a := (x1, ())) rfl (wantedA_none rfl) (by kernel_rfl) (by kernel_rfl) (by kernel_rfl) (by kernel_rfl) (Sns.cons (Sn.enc (c := (cdL 1 cdI)) (v := x1)) Sns.nil) (.inl (by kernel_rfl)) hv5 ?_
      refine RunS.segF (n := 30) e_evening_MostEvenings_ok 1 [(0, .v (.int .i64 x0)), (1, .sl 1 (x1.map cdI.enc)), (2, .v (.int .i64 x2)), (17, .v (.bool (v5 == 0)))] [] (by kernel_rfl) ?_
      exact RunS.done rfl (Wk.fr (by kernel_rfl))
    refine Sem.cond (b := (v5 == 0)) (by kernel_rfl) (fun hb6 => ?_) (fun hb6 => ?_)
    · rw [if_pos hb6] at h
      refine Sem.seq ?_
      refine Sem.runS (s1 := ⟨Fr 30 [(6, .v (.int .i64 64))], []⟩) ?_ ?_
      · refine RunS.segF (n := 30) e_evening_MostEvenings_ok 1 [(6, .v (.int .i64 64))] [] (by kernel_rfl) ?_
        exact RunS.done rfl (Wk.fr (by kernel_rfl))
      refine Sem.ret ?_
      have hq := Option.some.inj h; subst hq
      exact ⟨⟨Fr 30 [(6, .v (.int .i64 64))], []⟩, (Wk.fr (by kernel_rfl)), .inr rfl, [.v (.int .i64 64)], (by kernel_rfl), (by kernel_rfl)⟩
    · rw [if_f hb6] at h
      refine Sem.skip ?_
      refine Sem.seq ?_
      obtain ⟨v7, hv7, h⟩ := Option.bind_eq_some_iff.1 h
      by_cases hz8 : v7 = (0 : Int)
      · rw [if_pos hz8] at h; cases h
      rw [if_neg hz8] at h
      refine Sem.runS (s1 := ⟨Fr 30 [(6, .v (.int .i64 (mnI 64 (wr .i64 ((wr .i64 ((mnI x2 64) * (wr .i64 ((wr .i64 (x0 * (wr .i64 (x0 - 1)))).tdiv 2)))).tdiv v7)))))], []⟩) ?_ ?_
      · refine RunS.segF (n := 30) e_evening_MostEvenings_ok 9 [(25, .v (.int .i64 (wr .i64 ((mnI x2 64) * (wr .i64 ((wr .i64 (x0 * (wr .i64 (x0 - 1)))).tdiv 2)))))), (26, .sl 1 (x1.map cdI.enc))] [] (by kernel_rfl) ?_
        refine RunS.call e_evening_MostEvenings_ok (fid := 41) (s := cs_evening_met) (F := fun a => evening_met a.1) (er := er_evening_met) (xs := [.sl 1 (x1.map cdI.enc)]) (a := (x1, ())) rfl (wantedA_none rfl) (by kernel_rfl) (by kernel_rfl) (by kernel_rfl) (by kernel_rfl) (Sns.cons (Sn.enc (c := (cdL 1 cdI)) (v := x1)) Sns.nil) (.inl (by kernel_rfl)) hv7 ?_
        refine RunS.one e_evening_MostEvenings_ok 0 rfl (op_q (wantedA_none rfl) rfl (q_bin (a := .v (.int .i64 (wr .i64 ((mnI x2 64) * (wr .i64 ((wr .i64 (x0 * (wr .i64 (x0 - 1)))).tdiv 2)))))) (b := .v (.int .i64 v7)) (by kernel_rfl) (by kernel_rfl) (bin_quo hz8))) ?_
        refine RunS.segF (n := 30) e_evening_MostEvenings_ok 2 [(6, .v (.int .i64 (mnI 64 (wr .i64 ((wr .i64 ((mnI x2 64) * (wr .i64 ((wr .i64 (x0 * (wr .i64 (x0 - 1)))).tdiv 2)))).tdiv v7)))))] [] (by kernel_rfl) ?_
        exact RunS.done rfl (Wk.fr (by kernel_rfl))
      refine Sem.ret ?_
      have hq := Option.some.inj h; subst hq
      exact ⟨⟨Fr 30 [(6, .v (.int .i64 (mnI 64 (wr .i64 ((wr .i64 ((mnI x2 64) * (wr .i64 ((wr .i64 (x0 * (wr .i64 (x0 - 1)))).tdiv 2)))).tdiv v7)))))], []⟩, (Wk.fr (by kernel_rfl)), .inr rfl, [.v (.int .i64 (mnI 64 (wr .i64 ((wr .i64 ((mnI x2 64) * (wr .i64 ((wr .i64 (x0 * (wr .i64 (x0 - 1)))).tdiv 2)))).tdiv v7))))], (by kernel_rfl), (by kernel_rfl)⟩
def t_evening_MostEvenings : List AV → Option AV := told cs_evening_MostEvenings (fun a => evening_MostEvenings a.1 a.2.1 a.2.2.1) er_evening_MostEvenings
theorem x_evening_MostEvenings : XOk 10 t_evening_MostEvenings := by
  refine EnvOk.x (E := e_evening_MostEvenings) (contract_ok e_evening_MostEvenings_ok (fn := Tryd.f10) (c := cb_evening_MostEvenings) ?h1 ?h2 ⟨Tryd.call10⟩ cs_evening_MostEvenings (fun a => evening_MostEvenings a.1 a.2.1 a.2.2.1) er_evening_MostEvenings (fun a => (by show 3 ≤ 30; decide)) ?h3 ?h4) rfl rfl
  case h1 => kernel_rfl
  case h2 => kernel_rfl
  case h3 => intro b; kernel_rfl
  case h4 => exact fun a b h => evening_MostEvenings_sem a.1 a.2.1 a.2.2.1 b h
end Go.Proofs.YtnmkejapogklmaaDoor
