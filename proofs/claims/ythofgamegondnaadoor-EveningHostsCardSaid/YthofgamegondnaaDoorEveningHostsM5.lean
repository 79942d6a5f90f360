/- Proved: the tied card of the statement EveningHosts, with no condition of its own: for every list of uint8 values and every list of lists of pairs of them the check of the hosts answers true. -/
import Derived.Test.YthofgamegondnaaDoorEveningHostsM1
import Derived.Test.YthofgamegondnaaDoorEveningHostsM2
import Derived.Test.YthofgamegondnaaDoorEveningHostsM3
import Derived.Test.YthofgamegondnaaDoorEveningHostsM4
import Derived.Test.YthofgamegondnaaDoorProg
import Derived.Laws.CopyOwn
import Derived.Laws.Slices
import Derived.Laws.StructEq
namespace Go.Proofs.YthofgamegondnaaDoor
open Go.RowKit
/- trestle/trestlelaw09.EveningHosts -/
noncomputable def e_law09_EveningHosts : Env := ((((E0.withX 41 t_law09_Made).withX 42 t_evening_Hosts).withX 43 t_slices_Contains_L_int).withX 16 t_law09_awake)
theorem e_law09_EveningHosts_ok : EnvOk e_law09_EveningHosts := (EnvOk.withX (EnvOk.withX (EnvOk.withX (EnvOk.withX E0_ok x_law09_Made.1 x_law09_Made.2) x_evening_Hosts.1 x_evening_Hosts.2) x_slices_Contains_L_int.1 x_slices_Contains_L_int.2) x_law09_awake.1 x_law09_awake.2)
noncomputable def cb_law09_EveningHosts : Code := codeOf Tryd.f9
def law09_EveningHosts_3 (v1 : (List (List (List Int))) × (List Int) × Int) (v2 : (List (List Int))) (c6 : Int) (v8 : (List (List Int))) (c12 : (List Int)) (c13 : Int) (v15 : (List Int)) (v17 : Int) : Nat → Int → Option ((Unit) ⊕ (Bool))
  | 0, _ => none
  | f + 1, c21 =>
    if (decide (c21 < (v15.length : Int))) = true then
    (idx v15 c21).bind fun v23 =>
    (idx c12 v23).bind fun v24 =>
    (idx c12 v17).bind fun v25 =>
    (if (decide (v24 < v25)) = true then some true else (idx c12 v23).bind fun v26 =>
    (idx c12 v17).bind fun v27 =>
    if (v26 == v27) = true then some (decide (v23 < v17)) else some false).bind fun j31 =>
    if j31 = true then
    some (.inr false)
    else
    law09_EveningHosts_3 v1 v2 c6 v8 c12 c13 v15 v17 f (wr .i64 (c21 + 1))
    else
    some (.inl ())
def law09_EveningHosts_2 (v1 : (List (List (List Int))) × (List Int) × Int) (v2 : (List (List Int))) (c6 : Int) (v8 : (List (List Int))) : Nat → (List Int) → Int → Option (((List Int)) ⊕ (Bool))
  | 0, _, _ => none
  | f + 1, c12, c13 =>
    if (decide (c13 < (v8.length : Int))) = true then
    (idx v8 c13).bind fun v15 =>
    (idx v2 c6).bind fun v16 =>
    (idx v16 c13).bind fun v17 =>
    (slices_Contains_L_int v15 v17).bind fun v18 =>
    if (!v18) = true then
    some (.inr false)
    else
    (law09_EveningHosts_3 v1 v2 c6 v8 c12 c13 v15 v17 100000 0).bind fun r36 =>
    match r36 with
    | (.inl w37) =>
      (idx c12 v17).bind fun v38 =>
      (idx c12 v17).bind fun v39 =>
      law09_EveningHosts_2 v1 v2 c6 v8 f (c12.set v17.toNat (wr .i64 (v38 + 1))) (wr .i64 (c13 + 1))
    | (.inr w40) =>
      some (.inr w40)
    else
    some (.inl c12)
def law09_EveningHosts_1 (v1 : (List (List (List Int))) × (List Int) × Int) (v2 : (List (List Int))) : Nat → (List Int) → Int → Option ((Unit) ⊕ (Bool))
  | 0, _, _ => none
  | f + 1, c5, c6 =>
    if (decide (c6 < (v1.1.length : Int))) = true then
    (idx v1.1 c6).bind fun v8 =>
    (idx v2 c6).bind fun v9 =>
    if ((v9.length : Int) != (v8.length : Int)) = true then
    some (.inr false)
    else
    (law09_EveningHosts_2 v1 v2 c6 v8 100000 c5 0).bind fun r42 =>
    match r42 with
    | (.inl w43) =>
      law09_EveningHosts_1 v1 v2 f w43 (wr .i64 (c6 + 1))
    | (.inr w44) =>
      some (.inr w44)
    else
    some (.inl ())
def law09_EveningHosts (x0 : (List Int)) (x1 : (List (List (Int × Int)))) : Option (Bool) :=
  (law09_Made x0 x1).bind fun v1 =>
  (evening_Hosts v1.2.2 v1.1).bind fun v2 =>
  if ((v2.length : Int) != (v1.1.length : Int)) = true then
  some false
  else
  if (mkOk 8 v1.2.2) = true then
  (law09_EveningHosts_1 v1 v2 100000 (List.replicate v1.2.2.toNat (0 : Int)) 0).bind fun r45 =>
  match r45 with
  | (.inl w46) =>
    law09_awake.bind fun v47 =>
    some v47
  | (.inr w48) =>
    some w48
  else none
def cs_law09_EveningHosts : Cs ((List Int) × (List (List (Int × Int))) × Unit) := (csC (cdL 1 (cdK .u8)) (csC (cdL 1 (cdL 2 (cdG2 (cdK .u8) (cdK .u8) (fun _ => rfl) (fun _ => rfl)))) csN))
def er_law09_EveningHosts (r : Bool) : AV := cdB.enc r
set_option maxHeartbeats 4000000 in
set_option maxRecDepth 100000 in
theorem law09_EveningHosts_3_ok (v1 : (List (List (List Int))) × (List Int) × Int) (v2 : (List (List Int))) (c6 : Int) (v8 : (List (List Int))) (c12 : (List Int)) (c13 : Int) (v15 : (List Int)) (v17 : Int) : ∀ (f : Nat) (c21 : Int) (r : (Unit) ⊕ (Bool)), law09_EveningHosts_3 v1 v2 c6 v8 c12 c13 v15 v17 f c21 = some r → SemN e_law09_EveningHosts ⟨none, false⟩ (pc cb_law09_EveningHosts [1, 1, 1, 1, 1, 0, 1, 0, 0, 1, 1, 0, 0, 1, 1, 1, 0, 0, 1, 1, 0, 0, 1, 1, 1, 0, 1, 0, 0]) f ⟨Fr 108 [(8, .sl 1 (v2.map (cdL 1 cdI).enc)), (9, .rf 0 0 c12.length c12.length), (10, .v (.int .i64 c6)), (14, .v (.int .i64 v17)), (34, .sl 1 (v1.1.map (cdL 1 (cdL 1 cdI)).enc)), (35, .v (.int .i64 (v1.1.length : Int))), (36, .v (.int .i64 c6)), (49, .sl 1 (v8.map (cdL 1 cdI).enc)), (50, .v (.int .i64 (v8.length : Int))), (51, .v (.int .i64 c13)), (67, .sl 1 (v15.map cdI.enc)), (68, .v (.int .i64 (v15.length : Int))), (69, .v (.int .i64 c21))], [some ⟨1, 3, (c12.map cdI.enc), false⟩]⟩ (fun e s => match r with
  | (.inl w) => e = (.exit 4) ∧ Wk e_law09_EveningHosts s ⟨Fr 108 [(8, .sl 1 (v2.map (cdL 1 cdI).enc)), (9, .rf 0 0 c12.length c12.length), (10, .v (.int .i64 c6)), (14, .v (.int .i64 v17)), (34, .sl 1 (v1.1.map (cdL 1 (cdL 1 cdI)).enc)), (35, .v (.int .i64 (v1.1.length : Int))), (36, .v (.int .i64 c6)), (49, .sl 1 (v8.map (cdL 1 cdI).enc)), (50, .v (.int .i64 (v8.length : Int))), (51, .v (.int .i64 c13))], [some ⟨1, 3, (c12.map cdI.enc), false⟩]⟩
  | (.inr w) => e = .ret ∧ Wk e_law09_EveningHosts s ⟨Fr 108 [(4, .v (.bool w))], []⟩) := by
  intro f
  induction f with
  | zero => intro c21 r h; cases h
  | succ f ih0 =>
    intro c21 r h
    have ih := fun (c21 : Int) => ih0 c21 r
    unfold law09_EveningHosts_3 at h
    refine SemN.succ ?_
    refine Sem.seq ?_
    refine Sem.runS (s1 := ⟨Fr 108 [(8, .sl 1 (v2.map (cdL 1 cdI).enc)), (9, .rf 0 0 c12.length c12.length), (10, .v (.int .i64 c6)), (14, .v (.int .i64 v17)), (34, .sl 1 (v1.1.map (cdL 1 (cdL 1 cdI)).enc)), (35, .v (.int .i64 (v1.1.length : Int))), (36, .v (.int .i64 c6)), (49, .sl 1 (v8.map (cdL 1 cdI).enc)), (50, .v (.int .i64 (v8.length : Int))), (51, .v (.int .i64 c13)), (67, .sl 1 (v15.map cdI.enc)), (68, .v (.int .i64 (v15.length : Int))), (69, .v (.int .i64 c21)), (70, .v (.bool (decide (c21 < (v15.length : Int)))))], [some ⟨1, 3, (c12.map cdI.enc), false⟩]⟩) ?_ ?_
    · refine RunS.segF (n := 108) e_law09_EveningHosts_ok 1 [(8, .sl 1 (v2.map (cdL 1 cdI).enc)), (9, .rf 0 0 c12.length c12.length), (10, .v (.int .i64 c6)), (14, .v (.int .i64 v17)), (34, .sl 1 (v1.1.map (cdL 1 (cdL 1 cdI)).enc)), (35, .v (.int .i64 (v1.1.length : Int))), (36, .v (.int .i64 c6)), (49, .sl 1 (v8.map (cdL 1 cdI).enc)), (50, .v (.int .i64 (v8.length : Int))), (51, .v (.int .i64 c13)), (67, .sl 1 (v15.map cdI.enc)), (68, .v (.int .i64 (v15.length : Int))), (69, .v (.int .i64 c21)), (70, .v (.bool (decide (c21 < (v15.length : Int)))))] [some ⟨1, 3, (c12.map cdI.enc), false⟩] (by kernel_rfl) ?_
      exact RunS.done rfl (Wk.sel2 [0] (by kernel_rfl) (by kernel_rfl) (by kernel_rfl) ⟨⟨_, rfl, bu_own⟩, trivial⟩ ⟨lu (by kernel_rfl) (by kernel_rfl), lu (by kernel_rfl) (by kernel_rfl), lu (by kernel_rfl) (by kernel_rfl), lu (by kernel_rfl) (by kernel_rfl), lu (by kernel_rfl) (by kernel_rfl), lu (by kernel_rfl) (by kernel_rfl), lu (by kernel_rfl) (by kernel_rfl), lu (by kernel_rfl) (by kernel_rfl), lu (by kernel_rfl) (by kernel_rfl), lu (by kernel_rfl) (by kernel_rfl), lu (by kernel_rfl) (by kernel_rfl), lu (by kernel_rfl) (by kernel_rfl), lu (by kernel_rfl) (by kernel_rfl), lu (by kernel_rfl) (by kernel_rfl), trivial⟩)
    refine Sem.seq ?_
    refine Sem.cond (b := (decide (c21 < (v15.length : Int)))) (by kernel_rfl) (fun hb22 => ?_) (fun hb22 => ?_)
    · rw [if_pos hb22] at h
      refine Sem.skip ?_
      refine Sem.seq ?_
      refine Sem.block ?_
      refine Sem.seq ?_
      obtain ⟨v23, hv23, h⟩ := Option.bind_eq_some_iff.1 h
      refine Sem.runS (s1 := ⟨Fr 108 [(8, .sl 1 (v2.map (cdL 1 cdI).enc)), (9, .rf 0 0 c12.length c12.length), (10, .v (.int .i64 c6)), (14, .v (.int .i64 v17)), (16, .v (.int .i64 v23)), (34, .sl 1 (v1.1.map (cdL 1 (cdL 1 cdI)).enc)), (35, .v (.int .i64 (v1.1.length : Int))), (36, .v (.int .i64 c6)), (49, .sl 1 (v8.map (cdL 1 cdI).enc)), (50, .v (.int .i64 (v8.length : Int))), (51, .v (.int .i64 c13)), (67, .sl 1 (v15.map cdI.enc)), (68, .v (.int .i64 (v15.length : Int))), (69, .v (.int .i64 c21))], [some ⟨1, 3, (c12.map cdI.enc), false⟩]⟩) ?_ ?_
      · refine RunS.one e_law09_EveningHosts_ok 0 rfl (op_q (wantedA_none rfl) rfl (q_indexAddr (a := .sl 1 (v15.map cdI.enc)) (b := .v (.int .i64 c21)) (by kernel_rfl) (by kernel_rfl) (ix_sl (e := cdI.enc) (el := 3) (k := 1) (ki := .i64) (by kernel_rfl) (by kernel_rfl) hv23))) ?_
        refine RunS.segF (n := 108) e_law09_EveningHosts_ok 2 [(8, .sl 1 (v2.map (cdL 1 cdI).enc)), (9, .rf 0 0 c12.length c12.length), (10, .v (.int .i64 c6)), (14, .v (.int .i64 v17)), (16, .v (.int .i64 v23)), (34, .sl 1 (v1.1.map (cdL 1 (cdL 1 cdI)).enc)), (35, .v (.int .i64 (v1.1.length : Int))), (36, .v (.int .i64 c6)), (49, .sl 1 (v8.map (cdL 1 cdI).enc)), (50, .v (.int .i64 (v8.length : Int))), (51, .v (.int .i64 c13)), (67, .sl 1 (v15.map cdI.enc)), (68, .v (.int .i64 (v15.length : Int))), (69, .v (.int .i64 c21))] [some ⟨1, 3, (c12.map cdI.enc), false⟩] (by kernel_rfl) ?_
        exact RunS.done rfl (Wk.sel2 [0] (by kernel_rfl) (by kernel_rfl) (by kernel_rfl) ⟨⟨_, rfl, bu_own⟩, trivial⟩ ⟨lu (by kernel_rfl) (by kernel_rfl), lu (by kernel_rfl) (by kernel_rfl), lu (by kernel_rfl) (by kernel_rfl), lu (by kernel_rfl) (by kernel_rfl), lu (by kernel_rfl) (by kernel_rfl), lu (by kernel_rfl) (by kernel_rfl), lu (by kernel_rfl) (by kernel_rfl), lu (by kernel_rfl) (by kernel_rfl), lu (by kernel_rfl) (by kernel_rfl), lu (by kernel_rfl) (by kernel_rfl), lu (by kernel_rfl) (by kernel_rfl), lu (by kernel_rfl) (by kernel_rfl), lu (by kernel_rfl) (by kernel_rfl), lu (by kernel_rfl) (by kernel_rfl), trivial⟩)
      refine Sem.seq ?_
      obtain ⟨v24, hv24, h⟩ := Option.bind_eq_some_iff.1 h
      obtain ⟨v25, hv25, h⟩ := Option.bind_eq_some_iff.1 h
      obtain ⟨j31, hj31, h⟩ := Option.bind_eq_some_iff.1 h
      refine Sem.runDS e_law09_EveningHosts_ok (s1 := ⟨Fr 108 [(8, .sl 1 (v2.map (cdL 1 cdI).enc)), (9, .rf 0 0 c12.length c12.length), (10, .v (.int .i64 c6)), (14, .v (.int .i64 v17)), (34, .sl 1 (v1.1.map (cdL 1 (cdL 1 cdI)).enc)), (35, .v (.int .i64 (v1.1.length : Int))), (36, .v (.int .i64 c6)), (49, .sl 1 (v8.map (cdL 1 cdI).enc)), (50, .v (.int .i64 (v8.length : Int))), (51, .v (.int .i64 c13)), (67, .sl 1 (v15.map cdI.enc)), (68, .v (.int .i64 (v15.length : Int))), (69, .v (.int .i64 c21)), (97, .v (.bool j31))], [some ⟨1, 3, (c12.map cdI.enc), false⟩]⟩) (by kernel_rfl) ?_ ?_
      · refine RunDS.segF (n := 108) e_law09_EveningHosts_ok 2 [(8, .sl 1 (v2.map (cdL 1 cdI).enc)), (9, .rf 0 0 c12.length c12.length), (10, .v (.int .i64 c6)), (14, .v (.int .i64 v17)), (16, .v (.int .i64 v23)), (34, .sl 1 (v1.1.map (cdL 1 (cdL 1 cdI)).enc)), (35, .v (.int .i64 (v1.1.length : Int))), (36, .v (.int .i64 c6)), (49, .sl 1 (v8.map (cdL 1 cdI).enc)), (50, .v (.int .i64 (v8.length : Int))), (51, .v (.int .i64 c13)), (67, .sl 1 (v15.map cdI.enc)), (68, .v (.int .i64 (v15.length : Int))), (69, .v (.int .i64 c21)), (73, .rf 0 0 c12.length c12.length), (74, .v (.int .i64 v23))] [some ⟨1, 3, (c12.map cdI.enc), false⟩] (by kernel_rfl) (by kernel_rfl) ?_
        refine RunDS.one e_law09_EveningHosts_ok rfl (by kernel_rfl) (opd_q (by kernel_rfl) (wantedA_none rfl) rfl (q_indexAddr (a := .rf 0 0 c12.length c12.length) (b := .v (.int .i64 v23)) (by kernel_rfl) (by kernel_rfl) (ix_rl (e := cdI.enc) (xs := c12) (t' := 3) (el := 3) (k := 1) (ki := .i64) (by kernel_rfl) (by kernel_rfl) (by kernel_rfl) hv24)) (by kernel_rfl)) ?_
        refine RunDS.one e_law09_EveningHosts_ok rfl (by kernel_rfl) (opd_q (by kernel_rfl) (wantedA_none rfl) rfl (q_load (p := .pt 0 v23.toNat 0) (by kernel_rfl) (ld_blk (B := ⟨1, 3, (c12.map cdI.enc), false⟩) (m := 1) (g := false) (e := cdI.enc) (xs := c12) (by kernel_rfl) (by kernel_rfl) (by kernel_rfl) rfl (idx_at hv24).2 (by kernel_rfl))) (by kernel_rfl)) ?_
        refine RunDS.segF (n := 108) e_law09_EveningHosts_ok 2 [(8, .sl 1 (v2.map (cdL 1 cdI).enc)), (9, .rf 0 0 c12.length c12.length), (10, .v (.int .i64 c6)), (14, .v (.int .i64 v17)), (16, .v (.int .i64 v23)), (34, .sl 1 (v1.1.map (cdL 1 (cdL 1 cdI)).enc)), (35, .v (.int .i64 (v1.1.length : Int))), (36, .v (.int .i64 c6)), (49, .sl 1 (v8.map (cdL 1 cdI).enc)), (50, .v (.int .i64 (v8.length : Int))), (51, .v (.int .i64 c13)), (67, .sl 1 (v15.map cdI.enc)), (68, .v (.int .i64 (v15.length : Int))), (69, .v (.int .i64 c21)), (76, .v (.int .i64 v24)), (77, .rf 0 0 c12.length c12.length), (78, .v (.int .i64 v17))] [some ⟨1, 3, (c12.map cdI.enc), false⟩] (by kernel_rfl) (by kernel_rfl) ?_
        refine RunDS.one e_law09_EveningHosts_ok rfl (by kernel_rfl) (opd_q (by kernel_rfl) (wantedA_none rfl) rfl (q_indexAddr (a := .rf 0 0 c12.length c12.length) (b := .v (.int .i64 v17)) (by kernel_rfl) (by kernel_rfl) (ix_rl (e := cdI.enc) (xs := c12) (t' := 3) (el := 3) (k := 1) (ki := .i64) (by kernel_rfl) (by kernel_rfl) (by kernel_rfl) hv25)) (by kernel_rfl)) ?_
        refine RunDS.one e_law09_EveningHosts_ok rfl (by kernel_rfl) (opd_q (by kernel_rfl) (wantedA_none rfl) rfl (q_load (p := .pt 0 v17.toNat 0) (by kernel_rfl) (ld_blk (B := ⟨1, 3, (c12.map cdI.enc), false⟩) (m := 1) (g := false) (e := cdI.enc) (xs := c12) (by kernel_rfl) (by kernel_rfl) (by kernel_rfl) rfl (idx_at hv25).2 (by kernel_rfl))) (by kernel_rfl)) ?_
        refine RunDS.segF (n := 108) e_law09_EveningHosts_ok 2 [(8, .sl 1 (v2.map (cdL 1 cdI).enc)), (9, .rf 0 0 c12.length c12.length), (10, .v (.int .i64 c6)), (14, .v (.int .i64 v17)), (16, .v (.int .i64 v23)), (34, .sl 1 (v1.1.map (cdL 1 (cdL 1 cdI)).enc)), (35, .v (.int .i64 (v1.1.length : Int))), (36, .v (.int .i64 c6)), (49, .sl 1 (v8.map (cdL 1 cdI).enc)), (50, .v (.int .i64 (v8.length : Int))), (51, .v (.int .i64 c13)), (67, .sl 1 (v15.map cdI.enc)), (68, .v (.int .i64 (v15.length : Int))), (69, .v (.int .i64 c21)), (82, .v (.bool (decide (v24 < v25))))] [some ⟨1, 3, (c12.map cdI.enc), false⟩] (by kernel_rfl) (by kernel_rfl) ?_
        rcases Bool.eq_false_or_eq_true (decide (v24 < v25)) with hc34 | hc34
        · rw [if_pos hc34] at hj31
          rw [hc34]
          refine RunDS.segF (n := 108) e_law09_EveningHosts_ok 15 [(8, .sl 1 (v2.map (cdL 1 cdI).enc)), (9, .rf 0 0 c12.length c12.length), (10, .v (.int .i64 c6)), (14, .v (.int .i64 v17)), (34, .sl 1 (v1.1.map (cdL 1 (cdL 1 cdI)).enc)), (35, .v (.int .i64 (v1.1.length : Int))), (36, .v (.int .i64 c6)), (49, .sl 1 (v8.map (cdL 1 cdI).enc)), (50, .v (.int .i64 (v8.length : Int))), (51, .v (.int .i64 c13)), (67, .sl 1 (v15.map cdI.enc)), (68, .v (.int .i64 (v15.length : Int))), (69, .v (.int .i64 c21)), (83, .tp []), (84, .tp []), (85, .tp []), (86, .tp []), (87, .tp []), (88, .tp []), (89, .tp []), (90, .tp []), (91, .tp []), (92, .tp []), (93, .tp []), (94, .tp []), (95, .tp []), (96, .tp []), (97, .v (.bool true))] [some ⟨1, 3, (c12.map cdI.enc), false⟩] (by kernel_rfl) (by kernel_rfl) ?_
          have hq := Option.some.inj hj31; subst hq
          exact RunDS.done rfl (Wk.sel2 [0] (by kernel_rfl) (by kernel_rfl) (by kernel_rfl) ⟨⟨_, rfl, bu_own⟩, trivial⟩ ⟨lu (by kernel_rfl) (by kernel_rfl), lu (by kernel_rfl) (by kernel_rfl), lu (by kernel_rfl) (by kernel_rfl), lu (by kernel_rfl) (by kernel_rfl), lu (by kernel_rfl) (by kernel_rfl), lu (by kernel_rfl) (by kernel_rfl), lu (by kernel_rfl) (by kernel_rfl), lu (by kernel_rfl) (by kernel_rfl), lu (by kernel_rfl) (by kernel_rfl), lu (by kernel_rfl) (by kernel_rfl), lu (by kernel_rfl) (by kernel_rfl), lu (by kernel_rfl) (by kernel_rfl), lu (by kernel_rfl) (by kernel_rfl), lu (by kernel_rfl) (by kernel_rfl), trivial⟩)
        · rw [if_f hc34] at hj31
          rw [hc34]
          refine RunDS.segF (n := 108) e_law09_EveningHosts_ok 2 [(8, .sl 1 (v2.map (cdL 1 cdI).enc)), (9, .rf 0 0 c12.length c12.length), (10, .v (.int .i64 c6)), (14, .v (.int .i64 v17)), (16, .v (.int .i64 v23)), (34, .sl 1 (v1.1.map (cdL 1 (cdL 1 cdI)).enc)), (35, .v (.int .i64 (v1.1.length : Int))), (36, .v (.int .i64 c6)), (49, .sl 1 (v8.map (cdL 1 cdI).enc)), (50, .v (.int .i64 (v8.length : Int))), (51, .v (.int .i64 c13)), (67, .sl 1 (v15.map cdI.enc)), (68, .v (.int .i64 (v15.length : Int))), (69, .v (.int .i64 c21)), (82, .v (.bool false)), (83, .rf 0 0 c12.length c12.length), (84, .v (.int .i64 v23))] [some ⟨1, 3, (c12.map cdI.enc), false⟩] (by kernel_rfl) (by kernel_rfl) ?_
          obtain ⟨v26, hv26, hj31⟩ := Option.bind_eq_some_iff.1 hj31
          refine RunDS.one e_law09_EveningHosts_ok rfl (by kernel_rfl) (opd_q (by kernel_rfl) (by kernel_rfl) rfl (q_indexAddr (a := .rf 0 0 c12.length c12.length) (b := .v (.int .i64 v23)) (by kernel_rfl) (by kernel_rfl) (ix_rl (e := cdI.enc) (xs := c12) (t' := 3) (el := 3) (k := 1) (ki := .i64) (by kernel_rfl) (by kernel_rfl) (by kernel_rfl) hv26)) (by kernel_rfl)) ?_
          refine RunDS.one e_law09_EveningHosts_ok rfl (by kernel_rfl) (opd_q (by kernel_rfl) (by kernel_rfl) rfl (q_load (p := .pt 0 v23.toNat 0) (by kernel_rfl) (ld_blk (B := ⟨1, 3, (c12.map cdI.enc), false⟩) (m := 1) (g := false) (e := cdI.enc) (xs := c12) (by kernel_rfl) (by kernel_rfl) (by kernel_rfl) rfl (idx_at hv26).2 (by kernel_rfl))) (by kernel_rfl)) ?_
          refine RunDS.segF (n := 108) e_law09_EveningHosts_ok 2 [(8, .sl 1 (v2.map (cdL 1 cdI).enc)), (9, .rf 0 0 c12.length c12.length), (10, .v (.int .i64 c6)), (14, .v (.int .i64 v17)), (16, .v (.int .i64 v23)), (34, .sl 1 (v1.1.map (cdL 1 (cdL 1 cdI)).enc)), (35, .v (.int .i64 (v1.1.length : Int))), (36, .v (.int .i64 c6)), (49, .sl 1 (v8.map (cdL 1 cdI).enc)), (50, .v (.int .i64 (v8.length : Int))), (51, .v (.int .i64 c13)), (67, .sl 1 (v15.map cdI.enc)), (68, .v (.int .i64 (v15.length : Int))), (69, .v (.int .i64 c21)), (82, .v (.bool false)), (83, .rf 0 0 c12.length c12.length), (84, .v (.int .i64 v23)), (85, .pt 0 v23.toNat 0), (86, .v (.int .i64 v26)), (87, .rf 0 0 c12.length c12.length), (88, .v (.int .i64 v17))] [some ⟨1, 3, (c12.map cdI.enc), false⟩] (by kernel_rfl) (by kernel_rfl) ?_
          obtain ⟨v27, hv27, hj31⟩ := Option.bind_eq_some_iff.1 hj31
          refine RunDS.one e_law09_EveningHosts_ok rfl (by kernel_rfl) (opd_q (by kernel_rfl) (by kernel_rfl) rfl (q_indexAddr (a := .rf 0 0 c12.length c12.length) (b := .v (.int .i64 v17)) (by kernel_rfl) (by kernel_rfl) (ix_rl (e := cdI.enc) (xs := c12) (t' := 3) (el := 3) (k := 1) (ki := .i64) (by kernel_rfl) (by kernel_rfl) (by kernel_rfl) hv27)) (by kernel_rfl)) ?_
          refine RunDS.one e_law09_EveningHosts_ok rfl (by kernel_rfl) (opd_q (by kernel_rfl) (by kernel_rfl) rfl (q_load (p := .pt 0 v17.toNat 0) (by kernel_rfl) (ld_blk (B := ⟨1, 3, (c12.map cdI.enc), false⟩) (m := 1) (g := false) (e := cdI.enc) (xs := c12) (by kernel_rfl) (by kernel_rfl) (by kernel_rfl) rfl (idx_at hv27).2 (by kernel_rfl))) (by kernel_rfl)) ?_
          refine RunDS.segF (n := 108) e_law09_EveningHosts_ok 2 [(8, .sl 1 (v2.map (cdL 1 cdI).enc)), (9, .rf 0 0 c12.length c12.length), (10, .v (.int .i64 c6)), (14, .v (.int .i64 v17)), (16, .v (.int .i64 v23)), (34, .sl 1 (v1.1.map (cdL 1 (cdL 1 cdI)).enc)), (35, .v (.int .i64 (v1.1.length : Int))), (36, .v (.int .i64 c6)), (49, .sl 1 (v8.map (cdL 1 cdI).enc)), (50, .v (.int .i64 (v8.length : Int))), (51, .v (.int .i64 c13)), (67, .sl 1 (v15.map cdI.enc)), (68, .v (.int .i64 (v15.length : Int))), (69, .v (.int .i64 c21)), (82, .v (.bool false)), (83, .rf 0 0 c12.length c12.length), (84, .v (.int .i64 v23)), (85, .pt 0 v23.toNat 0), (86, .v (.int .i64 v26)), (87, .rf 0 0 c12.length c12.length), (88, .v (.int .i64 v17)), (89, .pt 0 v17.toNat 0), (90, .v (.int .i64 v27)), (91, .v (.bool (v26 == v27))), (92, .v (.bool (v26 == v27)))] [some ⟨1, 3, (c12.map cdI.enc), false⟩] (by kernel_rfl) (by kernel_rfl) ?_
          rcases Bool.eq_false_or_eq_true (v26 == v27) with hc35 | hc35
          · rw [if_pos hc35] at hj31
            rw [hc35]
            refine RunDS.segF (n := 108) e_law09_EveningHosts_ok 5 [(8, .sl 1 (v2.map (cdL 1 cdI).enc)), (9, .rf 0 0 c12.length c12.length), (10, .v (.int .i64 c6)), (14, .v (.int .i64 v17)), (34, .sl 1 (v1.1.map (cdL 1 (cdL 1 cdI)).enc)), (35, .v (.int .i64 (v1.1.length : Int))), (36, .v (.int .i64 c6)), (49, .sl 1 (v8.map (cdL 1 cdI).enc)), (50, .v (.int .i64 (v8.length : Int))), (51, .v (.int .i64 c13)), (67, .sl 1 (v15.map cdI.enc)), (68, .v (.int .i64 (v15.length : Int))), (69, .v (.int .i64 c21)), (83, .rf 0 0 c12.length c12.length), (84, .v (.int .i64 v23)), (85, .pt 0 v23.toNat 0), (86, .v (.int .i64 v26)), (87, .rf 0 0 c12.length c12.length), (88, .v (.int .i64 v17)), (89, .pt 0 v17.toNat 0), (90, .v (.int .i64 v27)), (91, .v (.bool true)), (92, .v (.bool true)), (93, .v (.int .i64 v23)), (94, .v (.int .i64 v17)), (95, .v (.bool (decide (v23 < v17)))), (96, .v (.bool (decide (v23 < v17)))), (97, .v (.bool (decide (v23 < v17))))] [some ⟨1, 3, (c12.map cdI.enc), false⟩] (by kernel_rfl) (by kernel_rfl) ?_
            have hq := Option.some.inj hj31; subst hq
            exact RunDS.done rfl (Wk.sel2 [0] (by kernel_rfl) (by kernel_rfl) (by kernel_rfl) ⟨⟨_, rfl, bu_own⟩, trivial⟩ ⟨lu (by kernel_rfl) (by kernel_rfl), lu (by kernel_rfl) (by kernel_rfl), lu (by kernel_rfl) (by kernel_rfl), lu (by kernel_rfl) (by kernel_rfl), lu (by kernel_rfl) (by kernel_rfl), lu (by kernel_rfl) (by kernel_rfl), lu (by kernel_rfl) (by kernel_rfl), lu (by kernel_rfl) (by kernel_rfl), lu (by kernel_rfl) (by kernel_rfl), lu (by kernel_rfl) (by kernel_rfl), lu (by kernel_rfl) (by kernel_rfl), lu (by kernel_rfl) (by kernel_rfl), lu (by kernel_rfl) (by kernel_rfl), lu (by kernel_rfl) (by kernel_rfl), trivial⟩)
          · rw [if_f hc35] at hj31
            rw [hc35]
            refine RunDS.segF (n := 108) e_law09_EveningHosts_ok 5 [(8, .sl 1 (v2.map (cdL 1 cdI).enc)), (9, .rf 0 0 c12.length c12.length), (10, .v (.int .i64 c6)), (14, .v (.int .i64 v17)), (34, .sl 1 (v1.1.map (cdL 1 (cdL 1 cdI)).enc)), (35, .v (.int .i64 (v1.1.length : Int))), (36, .v (.int .i64 c6)), (49, .sl 1 (v8.map (cdL 1 cdI).enc)), (50, .v (.int .i64 (v8.length : Int))), (51, .v (.int .i64 c13)), (67, .sl 1 (v15.map cdI.enc)), (68, .v (.int .i64 (v15.length : Int))), (69, .v (.int .i64 c21)), (83, .rf 0 0 c12.length c12.length), (84, .v (.int .i64 v23)), (85, .pt 0 v23.toNat 0), (86, .v (.int .i64 v26)), (87, .rf 0 0 c12.length c12.length), (88, .v (.int .i64 v17)), (89, .pt 0 v17.toNat 0), (90, .v (.int .i64 v27)), (91, .v (.bool false)), (92, .v (.bool false)), (93, .tp []), (94, .tp []), (95, .tp []), (96, .v (.bool false)), (97, .v (.bool false))] [some ⟨1, 3, (c12.map cdI.enc), false⟩] (by kernel_rfl) (by kernel_rfl) ?_
            have hq := Option.some.inj hj31; subst hq
            exact RunDS.done rfl (Wk.sel2 [0] (by kernel_rfl) (by kernel_rfl) (by kernel_rfl) ⟨⟨_, rfl, bu_own⟩, trivial⟩ ⟨lu (by kernel_rfl) (by kernel_rfl), lu (by kernel_rfl) (by kernel_rfl), lu (by kernel_rfl) (by kernel_rfl), lu (by kernel_rfl) (by kernel_rfl), lu (by kernel_rfl) (by kernel_rfl), lu (by kernel_rfl) (by kernel_rfl), lu (by kernel_rfl) (by kernel_rfl), lu (by kernel_rfl) (by kernel_rfl), lu (by kernel_rfl) (by kernel_rfl), lu (by kernel_rfl) (by kernel_rfl), lu (by kernel_rfl) (by kernel_rfl), lu (by kernel_rfl) (by kernel_rfl), lu (by kernel_rfl) (by kernel_rfl), lu (by kernel_rfl) (by kernel_rfl), trivial⟩)
      refine Sem.cond (b := j31) (by kernel_rfl) (fun hb32 => ?_) (fun hb32 => ?_)
      · rw [if_pos hb32] at h
        refine Sem.seq ?_
        refine Sem.runS (s1 := ⟨Fr 108 [(4, .v (.bool false))], []⟩) ?_ ?_
        · refine RunS.segF (n := 108) e_law09_EveningHosts_ok 1 [(4, .v (.bool false))] [some ⟨1, 3, (c12.map cdI.enc), false⟩] (by kernel_rfl) ?_
          exact RunS.done rfl (Wk.sel2 [] (by kernel_rfl) (by kernel_rfl) (by kernel_rfl) trivial ⟨lu (by kernel_rfl) (by kernel_rfl), trivial⟩)
        refine Sem.ret ?_
        have hq := Option.some.inj h; subst hq
        exact ⟨rfl, (Wk.fr (by kernel_rfl))⟩
      · rw [if_f hb32] at h
        refine Sem.skip ?_
        refine Sem.runS (s1 := ⟨Fr 108 [(8, .sl 1 (v2.map (cdL 1 cdI).enc)), (9, .rf 0 0 c12.length c12.length), (10, .v (.int .i64 c6)), (14, .v (.int .i64 v17)), (34, .sl 1 (v1.1.map (cdL 1 (cdL 1 cdI)).enc)), (35, .v (.int .i64 (v1.1.length : Int))), (36, .v (.int .i64 c6)), (49, .sl 1 (v8.map (cdL 1 cdI).enc)), (50, .v (.int .i64 (v8.length : Int))), (51, .v (.int .i64 c13)), (67, .sl 1 (v15.map cdI.enc)), (68, .v (.int .i64 (v15.length : Int))), (69, .v (.int .i64 (wr .i64 (c21 + 1))))], [some ⟨1, 3, (c12.map cdI.enc), false⟩]⟩) ?_ ?_
        · refine RunS.segF (n := 108) e_law09_EveningHosts_ok 2 [(8, .sl 1 (v2.map (cdL 1 cdI).enc)), (9, .rf 0 0 c12.length c12.length), (10, .v (.int .i64 c6)), (14, .v (.int .i64 v17)), (34, .sl 1 (v1.1.map (cdL 1 (cdL 1 cdI)).enc)), (35, .v (.int .i64 (v1.1.length : Int))), (36, .v (.int .i64 c6)), (49, .sl 1 (v8.map (cdL 1 cdI).enc)), (50, .v (.int .i64 (v8.length : Int))), (51, .v (.int .i64 c13)), (67, .sl 1 (v15.map cdI.enc)), (68, .v (.int .i64 (v15.length : Int))), (69, .v (.int .i64 (wr .i64 (c21 + 1))))] [some ⟨1, 3, (c12.map cdI.enc), false⟩] (by kernel_rfl) ?_
          exact RunS.done rfl (Wk.sel2 [0] (by kernel_rfl) (by kernel_rfl) (by kernel_rfl) ⟨⟨_, rfl, bu_own⟩, trivial⟩ ⟨lu (by kernel_rfl) (by kernel_rfl), lu (by kernel_rfl) (by kernel_rfl), lu (by kernel_rfl) (by kernel_rfl), lu (by kernel_rfl) (by kernel_rfl), lu (by kernel_rfl) (by kernel_rfl), lu (by kernel_rfl) (by kernel_rfl), lu (by kernel_rfl) (by kernel_rfl), lu (by kernel_rfl) (by kernel_rfl), lu (by kernel_rfl) (by kernel_rfl), lu (by kernel_rfl) (by kernel_rfl), lu (by kernel_rfl) (by kernel_rfl), lu (by kernel_rfl) (by kernel_rfl), lu (by kernel_rfl) (by kernel_rfl), trivial⟩)
        exact SemN.wk (s1 := ⟨Fr 108 [(8, .sl 1 (v2.map (cdL 1 cdI).enc)), (9, .rf 0 0 c12.length c12.length), (10, .v (.int .i64 c6)), (14, .v (.int .i64 v17)), (34, .sl 1 (v1.1.map (cdL 1 (cdL 1 cdI)).enc)), (35, .v (.int .i64 (v1.1.length : Int))), (36, .v (.int .i64 c6)), (49, .sl 1 (v8.map (cdL 1 cdI).enc)), (50, .v (.int .i64 (v8.length : Int))), (51, .v (.int .i64 c13)), (67, .sl 1 (v15.map cdI.enc)), (68, .v (.int .i64 (v15.length : Int))), (69, .v (.int .i64 (wr .i64 (c21 + 1))))], [some ⟨1, 3, (c12.map cdI.enc), false⟩]⟩) (Wk.sel2 [0] (by kernel_rfl) (by kernel_rfl) (by kernel_rfl) ⟨⟨_, rfl, bu_own⟩, trivial⟩ ⟨lu (by kernel_rfl) (by kernel_rfl), lu (by kernel_rfl) (by kernel_rfl), lu (by kernel_rfl) (by kernel_rfl), lu (by kernel_rfl) (by kernel_rfl), lu (by kernel_rfl) (by kernel_rfl), lu (by kernel_rfl) (by kernel_rfl), lu (by kernel_rfl) (by kernel_rfl), lu (by kernel_rfl) (by kernel_rfl), lu (by kernel_rfl) (by kernel_rfl), lu (by kernel_rfl) (by kernel_rfl), lu (by kernel_rfl) (by kernel_rfl), lu (by kernel_rfl) (by kernel_rfl), lu (by kernel_rfl) (by kernel_rfl), trivial⟩) (ih (wr .i64 (c21 + 1)) h)
    · rw [if_f hb22] at h
      refine Sem.exit ?_
      have hq := Option.some.inj h; subst hq
      exact ⟨rfl, (Wk.sel2 [0] (by kernel_rfl) (by kernel_rfl) (by kernel_rfl) ⟨⟨_, rfl, bu_own⟩, trivial⟩ ⟨lu (by kernel_rfl) (by kernel_rfl), lu (by kernel_rfl) (by kernel_rfl), lu (by kernel_rfl) (by kernel_rfl), lu (by kernel_rfl) (by kernel_rfl), lu (by kernel_rfl) (by kernel_rfl), lu (by kernel_rfl) (by kernel_rfl), lu (by kernel_rfl) (by kernel_rfl), lu (by kernel_rfl) (by kernel_rfl), lu (by kernel_rfl) (by kernel_rfl), lu (by kernel_rfl) (by kernel_rfl), trivial⟩)⟩
set_option maxHeartbeats 4000000 in
set_option maxRecDepth 100000 in
theorem law09_EveningHosts_2_ok (v1 : (List (List (List Int))) × (List Int) × Int) (v2 : (List (List Int))) (c6 : Int) (v8 : (List (List Int))) : ∀ (f : Nat) (c12 : (List Int)) (c13 : Int) (r : ((List Int)) ⊕ (Bool)), law09_EveningHosts_2 v1 v2 c6 v8 f c12 c13 = some r → SemN e_law09_EveningHosts ⟨none, false⟩ (pc cb_law09_EveningHosts [1, 1, 1, 1, 1, 0, 1, 0, 0, 1, 1, 0, 0, 1, 1, 1, 0, 0]) f ⟨Fr 108 [(8, .sl 1 (v2.map (cdL 1 cdI).enc)), (9, .rf 0 0 c12.length c12.length), (10, .v (.int .i64 c6)), (34, .sl 1 (v1.1.map (cdL 1 (cdL 1 cdI)).enc)), (35, .v (.int .i64 (v1.1.length : Int))), (36, .v (.int .i64 c6)), (49, .sl 1 (v8.map (cdL 1 cdI).enc)), (50, .v (.int .i64 (v8.length : Int))), (51, .v (.int .i64 c13))], [some ⟨1, 3, (c12.map cdI.enc), false⟩]⟩ (fun e s => match r with
  | (.inl w) => e = (.exit 2) ∧ Wk e_law09_EveningHosts s ⟨Fr 108 [(8, .sl 1 (v2.map (cdL 1 cdI).enc)), (9, .rf 0 0 w.length w.length), (34, .sl 1 (v1.1.map (cdL 1 (cdL 1 cdI)).enc)), (35, .v (.int .i64 (v1.1.length : Int))), (36, .v (.int .i64 c6))], [some ⟨1, 3, (w.map cdI.enc), false⟩]⟩
  | (.inr w) => e = .ret ∧ Wk e_law09_EveningHosts s ⟨Fr 108 [(4, .v (.bool w))], []⟩) := by
  intro f
  induction f with
  | zero => intro c12 c13 r h; cases h
  | succ f ih0 =>
    intro c12 c13 r h
    have ih := fun (c12 : (List Int)) (c13 : Int) => ih0 c12 c13 r
    unfold law09_EveningHosts_2 at h
    refine SemN.succ ?_
    refine Sem.seq ?_
    refine Sem.runS (s1 := ⟨Fr 108 [(8, .sl 1 (v2.map (cdL 1 cdI).enc)), (9, .rf 0 0 c12.length c12.length), (10, .v (.int .i64 c6)), (34, .sl 1 (v1.1.map (cdL 1 (cdL 1 cdI)).enc)), (35, .v (.int .i64 (v1.1.length : Int))), (36, .v (.int .i64 c6)), (49, .sl 1 (v8.map (cdL 1 cdI).enc)), (50, .v (.int .i64 (v8.length : Int))), (51, .v (.int .i64 c13)), (52, .v (.bool (decide (c13 < (v8.length : Int)))))], [some ⟨1, 3, (c12.map cdI.enc), false⟩]⟩) ?_ ?_
    · refine RunS.segF (n := 108) e_law09_EveningHosts_ok 1 [(8, .sl 1 (v2.map (cdL 1 cdI).enc)), (9, .rf 0 0 c12.length c12.length), (10, .v (.int .i64 c6)), (34, .sl 1 (v1.1.map (cdL 1 (cdL 1 cdI)).enc)), (35, .v (.int .i64 (v1.1.length : Int))), (36, .v (.int .i64 c6)), (49, .sl 1 (v8.map (cdL 1 cdI).enc)), (50, .v (.int .i64 (v8.length : Int))), (51, .v (.int .i64 c13)), (52, .v (.bool (decide (c13 < (v8.length : Int)))))] [some ⟨1, 3, (c12.map cdI.enc), false⟩] (by kernel_rfl) ?_
      exact RunS.done rfl (Wk.sel2 [0] (by kernel_rfl) (by kernel_rfl) (by kernel_rfl) ⟨⟨_, rfl, bu_own⟩, trivial⟩ ⟨lu (by kernel_rfl) (by kernel_rfl), lu (by kernel_rfl) (by kernel_rfl), lu (by kernel_rfl) (by kernel_rfl), lu (by kernel_rfl) (by kernel_rfl), lu (by kernel_rfl) (by kernel_rfl), lu (by kernel_rfl) (by kernel_rfl), lu (by kernel_rfl) (by kernel_rfl), lu (by kernel_rfl) (by kernel_rfl), lu (by kernel_rfl) (by kernel_rfl), lu (by kernel_rfl) (by kernel_rfl), trivial⟩)
    refine Sem.seq ?_
    refine Sem.cond (b := (decide (c13 < (v8.length : Int)))) (by kernel_rfl) (fun hb14 => ?_) (fun hb14 => ?_)
    · rw [if_pos hb14] at h
      refine Sem.skip ?_
      refine Sem.seq ?_
      refine Sem.block ?_
      refine Sem.seq ?_
      obtain ⟨v15, hv15, h⟩ := Option.bind_eq_some_iff.1 h
      refine Sem.runS (s1 := ⟨Fr 108 [(8, .sl 1 (v2.map (cdL 1 cdI).enc)), (9, .rf 0 0 c12.length c12.length), (10, .v (.int .i64 c6)), (12, .v (.int .i64 c13)), (13, .sl 1 (v15.map cdI.enc)), (34, .sl 1 (v1.1.map (cdL 1 (cdL 1 cdI)).enc)), (35, .v (.int .i64 (v1.1.length : Int))), (36, .v (.int .i64 c6)), (49, .sl 1 (v8.map (cdL 1 cdI).enc)), (50, .v (.int .i64 (v8.length : Int))), (51, .v (.int .i64 c13))], [some ⟨1, 3, (c12.map cdI.enc), false⟩]⟩) ?_ ?_
      · refine RunS.segF (n := 108) e_law09_EveningHosts_ok 1 [(8, .sl 1 (v2.map (cdL 1 cdI).enc)), (9, .rf 0 0 c12.length c12.length), (10, .v (.int .i64 c6)), (34, .sl 1 (v1.1.map (cdL 1 (cdL 1 cdI)).enc)), (35, .v (.int .i64 (v1.1.length : Int))), (36, .v (.int .i64 c6)), (49, .sl 1 (v8.map (cdL 1 cdI).enc)), (50, .v (.int .i64 (v8.length : Int))), (51, .v (.int .i64 c13)), (53, .v (.int .i64 c13))] [some ⟨1, 3, (c12.map cdI.enc), false⟩] (by kernel_rfl) ?_
        refine RunS.one e_law09_EveningHosts_ok 0 rfl (op_q (wantedA_none rfl) rfl (q_indexAddr (a := .sl 1 (v8.map (cdL 1 cdI).enc)) (b := .v (.int .i64 c13)) (by kernel_rfl) (by kernel_rfl) (ix_sl (e := (cdL 1 cdI).enc) (el := 24) (k := 1) (ki := .i64) (by kernel_rfl) (by kernel_rfl) hv15))) ?_
        refine RunS.segF (n := 108) e_law09_EveningHosts_ok 3 [(8, .sl 1 (v2.map (cdL 1 cdI).enc)), (9, .rf 0 0 c12.length c12.length), (10, .v (.int .i64 c6)), (12, .v (.int .i64 c13)), (13, .sl 1 (v15.map cdI.enc)), (34, .sl 1 (v1.1.map (cdL 1 (cdL 1 cdI)).enc)), (35, .v (.int .i64 (v1.1.length : Int))), (36, .v (.int .i64 c6)), (49, .sl 1 (v8.map (cdL 1 cdI).enc)), (50, .v (.int .i64 (v8.length : Int))), (51, .v (.int .i64 c13))] [some ⟨1, 3, (c12.map cdI.enc), false⟩] (by kernel_rfl) ?_
        exact RunS.done rfl (Wk.sel2 [0] (by kernel_rfl) (by kernel_rfl) (by kernel_rfl) ⟨⟨_, rfl, bu_own⟩, trivial⟩ ⟨lu (by kernel_rfl) (by kernel_rfl), lu (by kernel_rfl) (by kernel_rfl), lu (by kernel_rfl) (by kernel_rfl), lu (by kernel_rfl) (by kernel_rfl), lu (by kernel_rfl) (by kernel_rfl), lu (by kernel_rfl) (by kernel_rfl), lu (by kernel_rfl) (by kernel_rfl), lu (by kernel_rfl) (by kernel_rfl), lu (by kernel_rfl) (by kernel_rfl), lu (by kernel_rfl) (by kernel_rfl), lu (by kernel_rfl) (by kernel_rfl), trivial⟩)
      refine Sem.seq ?_
      obtain ⟨v16, hv16, h⟩ := Option.bind_eq_some_iff.1 h
      obtain ⟨v17, hv17, h⟩ := Option.bind_eq_some_iff.1 h
      refine Sem.runS (s1 := ⟨Fr 108 [(8, .sl 1 (v2.map (cdL 1 cdI).enc)), (9, .rf 0 0 c12.length c12.length), (10, .v (.int .i64 c6)), (13, .sl 1 (v15.map cdI.enc)), (14, .v (.int .i64 v17)), (34, .sl 1 (v1.1.map (cdL 1 (cdL 1 cdI)).enc)), (35, .v (.int .i64 (v1.1.length : Int))), (36, .v (.int .i64 c6)), (49, .sl 1 (v8.map (cdL 1 cdI).enc)), (50, .v (.int .i64 (v8.length : Int))), (51, .v (.int .i64 c13))], [some ⟨1, 3, (c12.map cdI.enc), false⟩]⟩) ?_ ?_
      · refine RunS.segF (n := 108) e_law09_EveningHosts_ok 2 [(8, .sl 1 (v2.map (cdL 1 cdI).enc)), (9, .rf 0 0 c12.length c12.length), (10, .v (.int .i64 c6)), (12, .v (.int .i64 c13)), (13, .sl 1 (v15.map cdI.enc)), (34, .sl 1 (v1.1.map (cdL 1 (cdL 1 cdI)).enc)), (35, .v (.int .i64 (v1.1.length : Int))), (36, .v (.int .i64 c6)), (49, .sl 1 (v8.map (cdL 1 cdI).enc)), (50, .v (.int .i64 (v8.length : Int))), (51, .v (.int .i64 c13)), (56, .sl 1 (v2.map (cdL 1 cdI).enc)), (57, .v (.int .i64 c6))] [some ⟨1, 3, (c12.map cdI.enc), false⟩] (by kernel_rfl) ?_
        refine RunS.one e_law09_EveningHosts_ok 0 rfl (op_q (wantedA_none rfl) rfl (q_indexAddr (a := .sl 1 (v2.map (cdL 1 cdI).enc)) (b := .v (.int .i64 c6)) (by kernel_rfl) (by kernel_rfl) (ix_sl (e := (cdL 1 cdI).enc) (el := 24) (k := 1) (ki := .i64) (by kernel_rfl) (by kernel_rfl) hv16))) ?_
        refine RunS.segF (n := 108) e_law09_EveningHosts_ok 2 [(8, .sl 1 (v2.map (cdL 1 cdI).enc)), (9, .rf 0 0 c12.length c12.length), (10, .v (.int .i64 c6)), (13, .sl 1 (v15.map cdI.enc)), (34, .sl 1 (v1.1.map (cdL 1 (cdL 1 cdI)).enc)), (35, .v (.int .i64 (v1.1.length : Int))), (36, .v (.int .i64 c6)), (49, .sl 1 (v8.map (cdL 1 cdI).enc)), (50, .v (.int .i64 (v8.length : Int))), (51, .v (.int .i64 c13)), (59, .sl 1 (v16.map cdI.enc)), (60, .v (.int .i64 c13))] [some ⟨1, 3, (c12.map cdI.enc), false⟩] (by kernel_rfl) ?_
        refine RunS.one e_law09_EveningHosts_ok 0 rfl (op_q (wantedA_none rfl) rfl (q_indexAddr (a := .sl 1 (v16.map cdI.enc)) (b := .v (.int .i64 c13)) (by kernel_rfl) (by kernel_rfl) (ix_sl (e := cdI.enc) (el := 3) (k := 1) (ki := .i64) (by kernel_rfl) (by kernel_rfl) hv17))) ?_
        refine RunS.segF (n := 108) e_law09_EveningHosts_ok 2 [(8, .sl 1 (v2.map (cdL 1 cdI).enc)), (9, .rf 0 0 c12.length c12.length), (10, .v (.int .i64 c6)), (13, .sl 1 (v15.map cdI.enc)), (14, .v (.int .i64 v17)), (34, .sl 1 (v1.1.map (cdL 1 (cdL 1 cdI)).enc)), (35, .v (.int .i64 (v1.1.length : Int))), (36, .v (.int .i64 c6)), (49, .sl 1 (v8.map (cdL 1 cdI).enc)), (50, .v (.int .i64 (v8.length : Int))), (51, .v (.int .i64 c13))] [some ⟨1, 3, (c12.map cdI.enc), false⟩] (by kernel_rfl) ?_
        exact RunS.done rfl (Wk.sel2 [0] (by kernel_rfl) (by kernel_rfl) (by kernel_rfl) ⟨⟨_, rfl, bu_own⟩, trivial⟩ ⟨lu (by kernel_rfl) (by kernel_rfl), lu (by kernel_rfl) (by kernel_rfl), lu (by kernel_rfl) (by kernel_rfl), lu (by kernel_rfl) (by kernel_rfl), lu (by kernel_rfl) (by kernel_rfl), lu (by kernel_rfl) (by kernel_rfl), lu (by kernel_rfl) (by kernel_rfl), lu (by kernel_rfl) (by kernel_rfl), lu (by kernel_rfl) (by kernel_rfl), lu (by kernel_rfl) (by kernel_rfl), lu (by kernel_rfl) (by kernel_rfl), trivial⟩)
      refine Sem.seq ?_
      refine Sem.seq ?_
      obtain ⟨v18, hv18, h⟩ := Option.bind_eq_some_iff.1 h
      refine Sem.runS (s1 := ⟨Fr 108 [(8, .sl 1 (v2.map (cdL 1 cdI).enc)), (9, .rf 0 0 c12.length c12.length), (10, .v (.int .i64 c6)), (13, .sl 1 (v15.map cdI.enc)), (14, .v (.int .i64 v17)), (34, .sl 1 (v1.1.map (cdL 1 (cdL 1 cdI)).enc)), (35, .v (.int .i64 (v1.1.length : Int))), (36, .v (.int .i64 c6)), (49, .sl 1 (v8.map (cdL 1 cdI).enc)), (50, .v (.int .i64 (v8.length : Int))), (51, .v (.int .i64 c13)), (66, .v (.bool (!v18)))], [some ⟨1, 3, (c12.map cdI.enc), false⟩]⟩) ?_ ?_
      · refine RunS.segF (n := 108) e_law09_EveningHosts_ok 2 [(8, .sl 1 (v2.map (cdL 1 cdI).enc)), (9, .rf 0 0 c12.length c12.length), (10, .v (.int .i64 c6)), (13, .sl 1 (v15.map cdI.enc)), (14, .v (.int .i64 v17)), (34, .sl 1 (v1.1.map (cdL 1 (cdL 1 cdI)).enc)), (35, .v (.int .i64 (v1.1.length : Int))), (36, .v (.int .i64 c6)), (49, .sl 1 (v8.map (cdL 1 cdI).enc)), (50, .v (.int .i64 (v8.length : Int))), (51, .v (.int .i64 c13)), (63, .sl 1 (v15.map cdI.enc)), (64, .v (.int .i64 v17))] [some ⟨1, 3, (c12.map cdI.enc), false⟩] (by kernel_rfl) ?_
        refine RunS.call e_law09_EveningHosts_ok (fid := 43) (s := cs_slices_Contains_L_int) (F := fun a => slices_Contains_L_int a.1 a.2.1) (er := er_slices_Contains_L_int) (xs := [.sl 1 (v15.map cdI.enc), .v (.int .i64 v17)]) (a := (v15, v17, ())) rfl (wantedA_none rfl) (by kernel_rfl) (by kernel_rfl) (by kernel_rfl) (by kernel_rfl) (Sns.cons (Sn.enc (c := (cdL 1 cdI)) (v := v15)) (Sns.cons (Sn.enc (c := cdI) (v := v17)) Sns.nil)) (.inl (by kernel_rfl)) hv18 ?_
        refine RunS.segF (n := 108) e_law09_EveningHosts_ok 1 [(8, .sl 1 (v2.map (cdL 1 cdI).enc)), (9, .rf 0 0 c12.length c12.length), (10, .v (.int .i64 c6)), (13, .sl 1 (v15.map cdI.enc)), (14, .v (.int .i64 v17)), (34, .sl 1 (v1.1.map (cdL 1 (cdL 1 cdI)).enc)), (35, .v (.int .i64 (v1.1.length : Int))), (36, .v (.int .i64 c6)), (49, .sl 1 (v8.map (cdL 1 cdI).enc)), (50, .v (.int .i64 (v8.length : Int))), (51, .v (.int .i64 c13)), (66, .v (.bool (!v18)))] [some ⟨1, 3, (c12.map cdI.enc), false⟩] (by kernel_rfl) ?_
        exact RunS.done rfl (Wk.sel2 [0] (by kernel_rfl) (by kernel_rfl) (by kernel_rfl) ⟨⟨_, rfl, bu_own⟩, trivial⟩ ⟨lu (by kernel_rfl) (by kernel_rfl), lu (by kernel_rfl) (by kernel_rfl), lu (by kernel_rfl) (by kernel_rfl), lu (by kernel_rfl) (by kernel_rfl), lu (by kernel_rfl) (by kernel_rfl), lu (by kernel_rfl) (by kernel_rfl), lu (by kernel_rfl) (by kernel_rfl), lu (by kernel_rfl) (by kernel_rfl), lu (by kernel_rfl) (by kernel_rfl), lu (by kernel_rfl) (by kernel_rfl), lu (by kernel_rfl) (by kernel_rfl), lu (by kernel_rfl) (by kernel_rfl), trivial⟩)
      refine Sem.cond (b := (!v18)) (by kernel_rfl) (fun hb19 => ?_) (fun hb19 => ?_)
      · rw [if_pos hb19] at h
        refine Sem.seq ?_
        refine Sem.runS (s1 := ⟨Fr 108 [(4, .v (.bool false))], []⟩) ?_ ?_
        · refine RunS.segF (n := 108) e_law09_EveningHosts_ok 1 [(4, .v (.bool false))] [some ⟨1, 3, (c12.map cdI.enc), false⟩] (by kernel_rfl) ?_
          exact RunS.done rfl (Wk.sel2 [] (by kernel_rfl) (by kernel_rfl) (by kernel_rfl) trivial ⟨lu (by kernel_rfl) (by kernel_rfl), trivial⟩)
        refine Sem.ret ?_
        have hq := Option.some.inj h; subst hq
        exact ⟨rfl, (Wk.fr (by kernel_rfl))⟩
      · rw [if_f hb19] at h
        refine Sem.skip ?_
        refine Sem.seq ?_
        refine Sem.seq ?_
        refine Sem.runS (s1 := ⟨Fr 108 [(8, .sl 1 (v2.map (cdL 1 cdI).enc)), (9, .rf 0 0 c12.length c12.length), (10, .v (.int .i64 c6)), (14, .v (.int .i64 v17)), (34, .sl 1 (v1.1.map (cdL 1 (cdL 1 cdI)).enc)), (35, .v (.int .i64 (v1.1.length : Int))), (36, .v (.int .i64 c6)), (49, .sl 1 (v8.map (cdL 1 cdI).enc)), (50, .v (.int .i64 (v8.length : Int))), (51, .v (.int .i64 c13)), (67, .sl 1 (v15.map cdI.enc)), (68, .v (.int .i64 (v15.length : Int))), (69, .v (.int .i64 0))], [some ⟨1, 3, (c12.map cdI.enc), false⟩]⟩) ?_ ?_
        · refine RunS.segF (n := 108) e_law09_EveningHosts_ok 1 [(8, .sl 1 (v2.map (cdL 1 cdI).enc)), (9, .rf 0 0 c12.length c12.length), (10, .v (.int .i64 c6)), (14, .v (.int .i64 v17)), (34, .sl 1 (v1.1.map (cdL 1 (cdL 1 cdI)).enc)), (35, .v (.int .i64 (v1.1.length : Int))), (36, .v (.int .i64 c6)), (49, .sl 1 (v8.map (cdL 1 cdI).enc)), (50, .v (.int .i64 (v8.length : Int))), (51, .v (.int .i64 c13)), (67, .sl 1 (v15.map cdI.enc))] [some ⟨1, 3, (c12.map cdI.enc), false⟩] (by kernel_rfl) ?_
          refine RunS.one e_law09_EveningHosts_ok 0 rfl (op_q (wantedA_none rfl) rfl (q_len (a := .sl 1 (v15.map cdI.enc)) (by kernel_rfl) (len_sl (el := 3) (by kernel_rfl)))) ?_
          refine RunS.segF (n := 108) e_law09_EveningHosts_ok 1 [(8, .sl 1 (v2.map (cdL 1 cdI).enc)), (9, .rf 0 0 c12.length c12.length), (10, .v (.int .i64 c6)), (14, .v (.int .i64 v17)), (34, .sl 1 (v1.1.map (cdL 1 (cdL 1 cdI)).enc)), (35, .v (.int .i64 (v1.1.length : Int))), (36, .v (.int .i64 c6)), (49, .sl 1 (v8.map (cdL 1 cdI).enc)), (50, .v (.int .i64 (v8.length : Int))), (51, .v (.int .i64 c13)), (67, .sl 1 (v15.map cdI.enc)), (68, .v (.int .i64 (v15.length : Int))), (69, .v (.int .i64 0))] [some ⟨1, 3, (c12.map cdI.enc), false⟩] (by kernel_rfl) ?_
          exact RunS.done rfl (Wk.sel2 [0] (by kernel_rfl) (by kernel_rfl) (by kernel_rfl) ⟨⟨_, rfl, bu_own⟩, trivial⟩ ⟨lu (by kernel_rfl) (by kernel_rfl), lu (by kernel_rfl) (by kernel_rfl), lu (by kernel_rfl) (by kernel_rfl), lu (by kernel_rfl) (by kernel_rfl), lu (by kernel_rfl) (by kernel_rfl), lu (by kernel_rfl) (by kernel_rfl), lu (by kernel_rfl) (by kernel_rfl), lu (by kernel_rfl) (by kernel_rfl), lu (by kernel_rfl) (by kernel_rfl), lu (by kernel_rfl) (by kernel_rfl), lu (by kernel_rfl) (by kernel_rfl), lu (by kernel_rfl) (by kernel_rfl), lu (by kernel_rfl) (by kernel_rfl), trivial⟩)
        refine Sem.block ?_
        obtain ⟨r36, hr36, h⟩ := Option.bind_eq_some_iff.1 h
        refine Sem.loop (n := 100000) ?_
        rcases r36 with w37 | w40
        · try dsimp only at h
          refine Sem.cutN (SemN.wk (s1 := ⟨Fr 108 [(8, .sl 1 (v2.map (cdL 1 cdI).enc)), (9, .rf 0 0 c12.length c12.length), (10, .v (.int .i64 c6)), (14, .v (.int .i64 v17)), (34, .sl 1 (v1.1.map (cdL 1 (cdL 1 cdI)).enc)), (35, .v (.int .i64 (v1.1.length : Int))), (36, .v (.int .i64 c6)), (49, .sl 1 (v8.map (cdL 1 cdI).enc)), (50, .v (.int .i64 (v8.length : Int))), (51, .v (.int .i64 c13)), (67, .sl 1 (v15.map cdI.enc)), (68, .v (.int .i64 (v15.length : Int))), (69, .v (.int .i64 0))], [some ⟨1, 3, (c12.map cdI.enc), false⟩]⟩) (Wk.sel2 [0] (by kernel_rfl) (by kernel_rfl) (by kernel_rfl) ⟨⟨_, rfl, bu_own⟩, trivial⟩ ⟨lu (by kernel_rfl) (by kernel_rfl), lu (by kernel_rfl) (by kernel_rfl), lu (by kernel_rfl) (by kernel_rfl), lu (by kernel_rfl) (by kernel_rfl), lu (by kernel_rfl) (by kernel_rfl), lu (by kernel_rfl) (by kernel_rfl), lu (by kernel_rfl) (by kernel_rfl), lu (by kernel_rfl) (by kernel_rfl), lu (by kernel_rfl) (by kernel_rfl), lu (by kernel_rfl) (by kernel_rfl), lu (by kernel_rfl) (by kernel_rfl), lu (by kernel_rfl) (by kernel_rfl), lu (by kernel_rfl) (by kernel_rfl), trivial⟩) (law09_EveningHosts_3_ok v1 v2 c6 v8 c12 c13 v15 v17 _ 0 _ hr36)) ?_
          obtain ⟨v38, hv38, h⟩ := Option.bind_eq_some_iff.1 h
          obtain ⟨v39, hv39, h⟩ := Option.bind_eq_some_iff.1 h
          refine Sem.runS (s1 := ⟨Fr 108 [(8, .sl 1 (v2.map (cdL 1 cdI).enc)), (9, .rf 0 0 (c12.set v17.toNat (wr .i64 (v38 + 1))).length (c12.set v17.toNat (wr .i64 (v38 + 1))).length), (10, .v (.int .i64 c6)), (34, .sl 1 (v1.1.map (cdL 1 (cdL 1 cdI)).enc)), (35, .v (.int .i64 (v1.1.length : Int))), (36, .v (.int .i64 c6)), (49, .sl 1 (v8.map (cdL 1 cdI).enc)), (50, .v (.int .i64 (v8.length : Int))), (51, .v (.int .i64 c13))], [some ⟨1, 3, ((c12.set v17.toNat (wr .i64 (v38 + 1))).map cdI.enc), false⟩]⟩) ?_ ?_
          · refine RunS.segF (n := 108) e_law09_EveningHosts_ok 2 [(8, .sl 1 (v2.map (cdL 1 cdI).enc)), (9, .rf 0 0 c12.length c12.length), (10, .v (.int .i64 c6)), (34, .sl 1 (v1.1.map (cdL 1 (cdL 1 cdI)).enc)), (35, .v (.int .i64 (v1.1.length : Int))), (36, .v (.int .i64 c6)), (49, .sl 1 (v8.map (cdL 1 cdI).enc)), (50, .v (.int .i64 (v8.length : Int))), (51, .v (.int .i64 c13)), (99, .rf 0 0 c12.length c12.length), (100, .v (.int .i64 v17))] [some ⟨1, 3, (c12.map cdI.enc), false⟩] (by kernel_rfl) ?_
            refine RunS.one e_law09_EveningHosts_ok 0 rfl (op_q (wantedA_none rfl) rfl (q_indexAddr (a := .rf 0 0 c12.length c12.length) (b := .v (.int .i64 v17)) (by kernel_rfl) (by kernel_rfl) (ix_rl (e := cdI.enc) (xs := c12) (t' := 3) (el := 3) (k := 1) (ki := .i64) (by kernel_rfl) (by kernel_rfl) (by kernel_rfl) hv38))) ?_
            refine RunS.one e_law09_EveningHosts_ok 0 rfl (op_q (wantedA_none rfl) rfl (q_load (p := .pt 0 v17.toNat 0) (by kernel_rfl) (ld_blk (B := ⟨1, 3, (c12.map cdI.enc), false⟩) (m := 1) (g := false) (e := cdI.enc) (xs := c12) (by kernel_rfl) (by kernel_rfl) (by kernel_rfl) rfl (idx_at hv38).2 (by kernel_rfl)))) ?_
            refine RunS.segF (n := 108) e_law09_EveningHosts_ok 1 [(8, .sl 1 (v2.map (cdL 1 cdI).enc)), (9, .rf 0 0 c12.length c12.length), (10, .v (.int .i64 c6)), (34, .sl 1 (v1.1.map (cdL 1 (cdL 1 cdI)).enc)), (35, .v (.int .i64 (v1.1.length : Int))), (36, .v (.int .i64 c6)), (49, .sl 1 (v8.map (cdL 1 cdI).enc)), (50, .v (.int .i64 (v8.length : Int))), (51, .v (.int .i64 c13)), (99, .rf 0 0 c12.length c12.length), (100, .v (.int .i64 v17)), (103, .v (.int .i64 (wr .i64 (v38 + 1))))] [some ⟨1, 3, (c12.map cdI.enc), false⟩] (by kernel_rfl) ?_
            refine RunS.one e_law09_EveningHosts_ok 0 rfl (op_q (wantedA_none rfl) rfl (q_indexAddr (a := .rf 0 0 c12.length c12.length) (b := .v (.int .i64 v17)) (by kernel_rfl) (by kernel_rfl) (ix_rl (e := cdI.enc) (xs := c12) (t' := 3) (el := 3) (k := 1) (ki := .i64) (by kernel_rfl) (by kernel_rfl) (by kernel_rfl) hv39))) ?_
            refine RunS.store e_law09_EveningHosts_ok (y := .pt 0 v17.toNat 0) (z := .v (.int .i64 (wr .i64 (v38 + 1)))) rfl (wantedA_none rfl) (by kernel_rfl) (by kernel_rfl) (st_blk (t' := 3) (k := 1) (e := cdI.enc) (xs := c12) (v := v39) (v' := (wr .i64 (v38 + 1))) (by kernel_rfl) (idx_at hv39).2 (by kernel_rfl) (by kernel_rfl) (by kernel_rfl)) ?_
            exact RunS.done rfl (Wk.sel2 [0] (by kernel_rfl) (by kernel_rfl) (by kernel_rfl) ⟨⟨_, rfl, bu_own⟩, trivial⟩ ⟨lu (by kernel_rfl) (by kernel_rfl), lu_rl (b' := 0) (n := c12.length) (by kernel_rfl) (by simp) (by kernel_rfl), lu (by kernel_rfl) (by kernel_rfl), lu (by kernel_rfl) (by kernel_rfl), lu (by kernel_rfl) (by kernel_rfl), lu (by kernel_rfl) (by kernel_rfl), lu (by kernel_rfl) (by kernel_rfl), lu (by kernel_rfl) (by kernel_rfl), lu (by kernel_rfl) (by kernel_rfl), trivial⟩)
          refine Sem.runS (s1 := ⟨Fr 108 [(8, .sl 1 (v2.map (cdL 1 cdI).enc)), (9, .rf 0 0 (c12.set v17.toNat (wr .i64 (v38 + 1))).length (c12.set v17.toNat (wr .i64 (v38 + 1))).length), (10, .v (.int .i64 c6)), (34, .sl 1 (v1.1.map (cdL 1 (cdL 1 cdI)).enc)), (35, .v (.int .i64 (v1.1.length : Int))), (36, .v (.int .i64 c6)), (49, .sl 1 (v8.map (cdL 1 cdI).enc)), (50, .v (.int .i64 (v8.length : Int))), (51, .v (.int .i64 (wr .i64 (c13 + 1))))], [some ⟨1, 3, ((c12.set v17.toNat (wr .i64 (v38 + 1))).map cdI.enc), false⟩]⟩) ?_ ?_
          · refine RunS.segF (n := 108) e_law09_EveningHosts_ok 2 [(8, .sl 1 (v2.map (cdL 1 cdI).enc)), (9, .rf 0 0 (c12.set v17.toNat (wr .i64 (v38 + 1))).length (c12.set v17.toNat (wr .i64 (v38 + 1))).length), (10, .v (.int .i64 c6)), (34, .sl 1 (v1.1.map (cdL 1 (cdL 1 cdI)).enc)), (35, .v (.int .i64 (v1.1.length : Int))), (36, .v (.int .i64 c6)), (49, .sl 1 (v8.map (cdL 1 cdI).enc)), (50, .v (.int .i64 (v8.length : Int))), (51, .v (.int .i64 (wr .i64 (c13 + 1))))] [some ⟨1, 3, ((c12.set v17.toNat (wr .i64 (v38 + 1))).map cdI.enc), false⟩] (by kernel_rfl) ?_
            exact RunS.done rfl (Wk.sel2 [0] (by kernel_rfl) (by kernel_rfl) (by kernel_rfl) ⟨⟨_, rfl, bu_own⟩, trivial⟩ ⟨lu (by kernel_rfl) (by kernel_rfl), lu (by kernel_rfl) (by kernel_rfl), lu (by kernel_rfl) (by kernel_rfl), lu (by kernel_rfl) (by kernel_rfl), lu (by kernel_rfl) (by kernel_rfl), lu (by kernel_rfl) (by kernel_rfl), lu (by kernel_rfl) (by kernel_rfl), lu (by kernel_rfl) (by kernel_rfl), lu (by kernel_rfl) (by kernel_rfl), trivial⟩)
          exact SemN.wk (s1 := ⟨Fr 108 [(8, .sl 1 (v2.map (cdL 1 cdI).enc)), (9, .rf 0 0 (c12.set v17.toNat (wr .i64 (v38 + 1))).length (c12.set v17.toNat (wr .i64 (v38 + 1))).length), (10, .v (.int .i64 c6)), (34, .sl 1 (v1.1.map (cdL 1 (cdL 1 cdI)).enc)), (35, .v (.int .i64 (v1.1.length : Int))), (36, .v (.int .i64 c6)), (49, .sl 1 (v8.map (cdL 1 cdI).enc)), (50, .v (.int .i64 (v8.length : Int))), (51, .v (.int .i64 (wr .i64 (c13 + 1))))], [some ⟨1, 3, ((c12.set v17.toNat (wr .i64 (v38 + 1))).map cdI.enc), false⟩]⟩) (Wk.sel2 [0] (by kernel_rfl) (by kernel_rfl) (by kernel_rfl) ⟨⟨_, rfl, bu_own⟩, trivial⟩ ⟨lu (by kernel_rfl) (by kernel_rfl), lu (by kernel_rfl) (by kernel_rfl), lu (by kernel_rfl) (by kernel_rfl), lu (by kernel_rfl) (by kernel_rfl), lu (by kernel_rfl) (by kernel_rfl), lu (by kernel_rfl) (by kernel_rfl), lu (by kernel_rfl) (by kernel_rfl), lu (by kernel_rfl) (by kernel_rfl), lu (by kernel_rfl) (by kernel_rfl), trivial⟩) (ih (c12.set v17.toNat (wr .i64 (v38 + 1))) (wr .i64 (c13 + 1)) h)
        · try dsimp only at h
          refine Sem.cutN (SemN.wk (s1 := ⟨Fr 108 [(8, .sl 1 (v2.map (cdL 1 cdI).enc)), (9, .rf 0 0 c12.length c12.length), (10, .v (.int .i64 c6)), (14, .v (.int .i64 v17)), (34, .sl 1 (v1.1.map (cdL 1 (cdL 1 cdI)).enc)), (35, .v (.int .i64 (v1.1.length : Int))), (36, .v (.int .i64 c6)), (49, .sl 1 (v8.map (cdL 1 cdI).enc)), (50, .v (.int .i64 (v8.length : Int))), (51, .v (.int .i64 c13)), (67, .sl 1 (v15.map cdI.enc)), (68, .v (.int .i64 (v15.length : Int))), (69, .v (.int .i64 0))], [some ⟨1, 3, (c12.map cdI.enc), false⟩]⟩) (Wk.sel2 [0] (by kernel_rfl) (by kernel_rfl) (by kernel_rfl) ⟨⟨_, rfl, bu_own⟩, trivial⟩ ⟨lu (by kernel_rfl) (by kernel_rfl), lu (by kernel_rfl) (by kernel_rfl), lu (by kernel_rfl) (by kernel_rfl), lu (by kernel_rfl) (by kernel_rfl), lu (by kernel_rfl) (by kernel_rfl), lu (by kernel_rfl) (by kernel_rfl), lu (by kernel_rfl) (by kernel_rfl), lu (by kernel_rfl) (by kernel_rfl), lu (by kernel_rfl) (by kernel_rfl), lu (by kernel_rfl) (by kernel_rfl), lu (by kernel_rfl) (by kernel_rfl), lu (by kernel_rfl) (by kernel_rfl), lu (by kernel_rfl) (by kernel_rfl), trivial⟩) (law09_EveningHosts_3_ok v1 v2 c6 v8 c12 c13 v15 v17 _ 0 _ hr36)) ?_
          have hq := Option.some.inj h; subst hq
          exact ⟨rfl, (Wk.fr (by kernel_rfl))⟩
    · rw [if_f hb14] at h
      refine Sem.exit ?_
      have hq := Option.some.inj h; subst hq
      exact ⟨rfl, (Wk.sel2 [0] (by kernel_rfl) (by kernel_rfl) (by kernel_rfl) ⟨⟨_, rfl, bu_own⟩, trivial⟩ ⟨lu (by kernel_rfl) (by kernel_rfl), lu (by kernel_rfl) (by kernel_rfl), lu (by kernel_rfl) (by kernel_rfl), lu (by kernel_rfl) (by kernel_rfl), lu (by kernel_rfl) (by kernel_rfl), trivial⟩)⟩
set_option maxHeartbeats 4000000 in
set_option maxRecDepth 100000 in
theorem law09_EveningHosts_1_ok (v1 : (List (List (List Int))) × (List Int) × Int) (v2 : (List (List Int))) : ∀ (f : Nat) (c5 : (List Int)) (c6 : Int) (r : (Unit) ⊕ (Bool)), law09_EveningHosts_1 v1 v2 f c5 c6 = some r → SemN e_law09_EveningHosts ⟨none, false⟩ (pc cb_law09_EveningHosts [1, 1, 1, 1, 1, 0, 1, 0, 0]) f ⟨Fr 108 [(8, .sl 1 (v2.map (cdL 1 cdI).enc)), (9, .rf 0 0 c5.length c5.length), (34, .sl 1 (v1.1.map (cdL 1 (cdL 1 cdI)).enc)), (35, .v (.int .i64 (v1.1.length : Int))), (36, .v (.int .i64 c6))], [some ⟨1, 3, (c5.map cdI.enc), false⟩]⟩ (fun e s => match r with
  | (.inl w) => e = (.exit 0) ∧ Wk e_law09_EveningHosts s ⟨Fr 108 [], []⟩
  | (.inr w) => e = .ret ∧ Wk e_law09_EveningHosts s ⟨Fr 108 [(4, .v (.bool w))], []⟩) := by
  intro f
  induction f with
  | zero => intro c5 c6 r h; cases h
  | succ f ih0 =>
    intro c5 c6 r h
    have ih := fun (c5 : (List Int)) (c6 : Int) => ih0 c5 c6 r
    unfold law09_EveningHosts_1 at h
    refine SemN.succ ?_
    refine Sem.seq ?_
    refine Sem.runS (s1 := ⟨Fr 108 [(8, .sl 1 (v2.map (cdL 1 cdI).enc)), (9, .rf 0 0 c5.length c5.length), (34, .sl 1 (v1.1.map (cdL 1 (cdL 1 cdI)).enc)), (35, .v (.int .i64 (v1.1.length : Int))), (36, .v (.int .i64 c6)), (37, .v (.bool (decide (c6 < (v1.1.length : Int)))))], [some ⟨1, 3, (c5.map cdI.enc), false⟩]⟩) ?_ ?_
    · refine RunS.segF (n := 108) e_law09_EveningHosts_ok 1 [(8, .sl 1 (v2.map (cdL 1 cdI).enc)), (9, .rf 0 0 c5.length c5.length), (34, .sl 1 (v1.1.map (cdL 1 (cdL 1 cdI)).enc)), (35, .v (.int .i64 (v1.1.length : Int))), (36, .v (.int .i64 c6)), (37, .v (.bool (decide (c6 < (v1.1.length : Int)))))] [some ⟨1, 3, (c5.map cdI.enc), false⟩] (by kernel_rfl) ?_
      exact RunS.done rfl (Wk.sel2 [0] (by kernel_rfl) (by kernel_rfl) (by kernel_rfl) ⟨⟨_, rfl, bu_own⟩, trivial⟩ ⟨lu (by kernel_rfl) (by kernel_rfl), lu (by kernel_rfl) (by kernel_rfl), lu (by kernel_rfl) (by kernel_rfl), lu (by kernel_rfl) (by kernel_rfl), lu (by kernel_rfl) (by kernel_rfl), lu (by kernel_rfl) (by kernel_rfl), trivial⟩)
    refine Sem.seq ?_
    refine Sem.cond (b := (decide (c6 < (v1.1.length : Int)))) (by kernel_rfl) (fun hb7 => ?_) (fun hb7 => ?_)
    · rw [if_pos hb7] at h
      refine Sem.skip ?_
      refine Sem.seq ?_
      refine Sem.block ?_
      refine Sem.seq ?_
      obtain ⟨v8, hv8, h⟩ := Option.bind_eq_some_iff.1 h
      refine Sem.runS (s1 := ⟨Fr 108 [(8, .sl 1 (v2.map (cdL 1 cdI).enc)), (9, .rf 0 0 c5.length c5.length), (10, .v (.int .i64 c6)), (11, .sl 1 (v8.map (cdL 1 cdI).enc)), (34, .sl 1 (v1.1.map (cdL 1 (cdL 1 cdI)).enc)), (35, .v (.int .i64 (v1.1.length : Int))), (36, .v (.int .i64 c6))], [some ⟨1, 3, (c5.map cdI.enc), false⟩]⟩) ?_ ?_
      · refine RunS.segF (n := 108) e_law09_EveningHosts_ok 1 [(8, .sl 1 (v2.map (cdL 1 cdI).enc)), (9, .rf 0 0 c5.length c5.length), (34, .sl 1 (v1.1.map (cdL 1 (cdL 1 cdI)).enc)), (35, .v (.int .i64 (v1.1.length : Int))), (36, .v (.int .i64 c6)), (38, .v (.int .i64 c6))] [some ⟨1, 3, (c5.map cdI.enc), false⟩] (by kernel_rfl) ?_
        refine RunS.one e_law09_EveningHosts_ok 0 rfl (op_q (wantedA_none rfl) rfl (q_indexAddr (a := .sl 1 (v1.1.map (cdL 1 (cdL 1 cdI)).enc)) (b := .v (.int .i64 c6)) (by kernel_rfl) (by kernel_rfl) (ix_sl (e := (cdL 1 (cdL 1 cdI)).enc) (el := 49) (k := 1) (ki := .i64) (by kernel_rfl) (by kernel_rfl) hv8))) ?_
        refine RunS.segF (n := 108) e_law09_EveningHosts_ok 3 [(8, .sl 1 (v2.map (cdL 1 cdI).enc)), (9, .rf 0 0 c5.length c5.length), (10, .v (.int .i64 c6)), (11, .sl 1 (v8.map (cdL 1 cdI).enc)), (34, .sl 1 (v1.1.map (cdL 1 (cdL 1 cdI)).enc)), (35, .v (.int .i64 (v1.1.length : Int))), (36, .v (.int .i64 c6))] [some ⟨1, 3, (c5.map cdI.enc), false⟩] (by kernel_rfl) ?_
        exact RunS.done rfl (Wk.sel2 [0] (by kernel_rfl) (by kernel_rfl) (by kernel_rfl) ⟨⟨_, rfl, bu_own⟩, trivial⟩ ⟨lu (by kernel_rfl) (by kernel_rfl), lu (by kernel_rfl) (by kernel_rfl), lu (by kernel_rfl) (by kernel_rfl), lu (by kernel_rfl) (by kernel_rfl), lu (by kernel_rfl) (by kernel_rfl), lu (by kernel_rfl) (by kernel_rfl), lu (by kernel_rfl) (by kernel_rfl), trivial⟩)
      refine Sem.seq ?_
      refine Sem.seq ?_
      obtain ⟨v9, hv9, h⟩ := Option.bind_eq_some_iff.1 h
      refine Sem.runS (s1 := ⟨Fr 108 [(8, .sl 1 (v2.map (cdL 1 cdI).enc)), (9, .rf 0 0 c5.length c5.length), (10, .v (.int .i64 c6)), (11, .sl 1 (v8.map (cdL 1 cdI).enc)), (34, .sl 1 (v1.1.map (cdL 1 (cdL 1 cdI)).enc)), (35, .v (.int .i64 (v1.1.length : Int))), (36, .v (.int .i64 c6)), (48, .v (.bool ((v9.length : Int) != (v8.length : Int))))], [some ⟨1, 3, (c5.map cdI.enc), false⟩]⟩) ?_ ?_
      · refine RunS.segF (n := 108) e_law09_EveningHosts_ok 2 [(8, .sl 1 (v2.map (cdL 1 cdI).enc)), (9, .rf 0 0 c5.length c5.length), (10, .v (.int .i64 c6)), (11, .sl 1 (v8.map (cdL 1 cdI).enc)), (34, .sl 1 (v1.1.map (cdL 1 (cdL 1 cdI)).enc)), (35, .v (.int .i64 (v1.1.length : Int))), (36, .v (.int .i64 c6)), (41, .sl 1 (v2.map (cdL 1 cdI).enc)), (42, .v (.int .i64 c6))] [some ⟨1, 3, (c5.map cdI.enc), false⟩] (by kernel_rfl) ?_
        refine RunS.one e_law09_EveningHosts_ok 0 rfl (op_q (wantedA_none rfl) rfl (q_indexAddr (a := .sl 1 (v2.map (cdL 1 cdI).enc)) (b := .v (.int .i64 c6)) (by kernel_rfl) (by kernel_rfl) (ix_sl (e := (cdL 1 cdI).enc) (el := 24) (k := 1) (ki := .i64) (by kernel_rfl) (by kernel_rfl) hv9))) ?_
        refine RunS.segF (n := 108) e_law09_EveningHosts_ok 1 [(8, .sl 1 (v2.map (cdL 1 cdI).enc)), (9, .rf 0 0 c5.length c5.length), (10, .v (.int .i64 c6)), (11, .sl 1 (v8.map (cdL 1 cdI).enc)), (34, .sl 1 (v1.1.map (cdL 1 (cdL 1 cdI)).enc)), (35, .v (.int .i64 (v1.1.length : Int))), (36, .v (.int .i64 c6)), (44, .sl 1 (v9.map cdI.enc))] [some ⟨1, 3, (c5.map cdI.enc), false⟩] (by kernel_rfl) ?_
        refine RunS.one e_law09_EveningHosts_ok 0 rfl (op_q (wantedA_none rfl) rfl (q_len (a := .sl 1 (v9.map cdI.enc)) (by kernel_rfl) (len_sl (el := 3) (by kernel_rfl)))) ?_
        refine RunS.segF (n := 108) e_law09_EveningHosts_ok 1 [(8, .sl 1 (v2.map (cdL 1 cdI).enc)), (9, .rf 0 0 c5.length c5.length), (10, .v (.int .i64 c6)), (11, .sl 1 (v8.map (cdL 1 cdI).enc)), (34, .sl 1 (v1.1.map (cdL 1 (cdL 1 cdI)).enc)), (35, .v (.int .i64 (v1.1.length : Int))), (36, .v (.int .i64 c6)), (45, .v (.int .i64 (v9.length : Int))), (46, .sl 1 (v8.map (cdL 1 cdI).enc))] [some ⟨1, 3, (c5.map cdI.enc), false⟩] (by kernel_rfl) ?_
        refine RunS.one e_law09_EveningHosts_ok 0 rfl (op_q (wantedA_none rfl) rfl (q_len (a := .sl 1 (v8.map (cdL 1 cdI).enc)) (by kernel_rfl) (len_sl (el := 24) (by kernel_rfl)))) ?_
        refine RunS.segF (n := 108) e_law09_EveningHosts_ok 1 [(8, .sl 1 (v2.map (cdL 1 cdI).enc)), (9, .rf 0 0 c5.length c5.length), (10, .v (.int .i64 c6)), (11, .sl 1 (v8.map (cdL 1 cdI).enc)), (34, .sl 1 (v1.1.map (cdL 1 (cdL 1 cdI)).enc)), (35, .v (.int .i64 (v1.1.length : Int))), (36, .v (.int .i64 c6)), (48, .v (.bool ((v9.length : Int) != (v8.length : Int))))] [some ⟨1, 3, (c5.map cdI.enc), false⟩] (by kernel_rfl) ?_
        exact RunS.done rfl (Wk.sel2 [0] (by kernel_rfl) (by kernel_rfl) (by kernel_rfl) ⟨⟨_, rfl, bu_own⟩, trivial⟩ ⟨lu (by kernel_rfl) (by kernel_rfl), lu (by kernel_rfl) (by kernel_rfl), lu (by kernel_rfl) (by kernel_rfl), lu (by kernel_rfl) (by kernel_rfl), lu (by kernel_rfl) (by kernel_rfl), lu (by kernel_rfl) (by kernel_rfl), lu (by kernel_rfl) (by kernel_rfl), lu (by kernel_rfl) (by kernel_rfl), trivial⟩)
      refine Sem.cond (b := ((v9.length : Int) != (v8.length : Int))) (by kernel_rfl) (fun hb10 => ?_) (fun hb10 => ?_)
      · rw [if_pos hb10] at h
        refine Sem.seq ?_
        refine Sem.runS (s1 := ⟨Fr 108 [(4, .v (.bool false))], []⟩) ?_ ?_
        · refine RunS.segF (n := 108) e_law09_EveningHosts_ok 1 [(4, .v (.bool false))] [some ⟨1, 3, (c5.map cdI.enc), false⟩] (by kernel_rfl) ?_
          exact RunS.done rfl (Wk.sel2 [] (by kernel_rfl) (by kernel_rfl) (by kernel_rfl) trivial ⟨lu (by kernel_rfl) (by kernel_rfl), trivial⟩)
        refine Sem.ret ?_
        have hq := Option.some.inj h; subst hq
        exact ⟨rfl, (Wk.fr (by kernel_rfl))⟩
      · rw [if_f hb10] at h
        refine Sem.skip ?_
        refine Sem.seq ?_
        refine Sem.runS (s1 := ⟨Fr 108 [(8, .sl 1 (v2.map (cdL 1 cdI).enc)), (9, .rf 0 0 c5.length c5.length), (10, .v (.int .i64 c6)), (34, .sl 1 (v1.1.map (cdL 1 (cdL 1 cdI)).enc)), (35, .v (.int .i64 (v1.1.length : Int))), (36, .v (.int .i64 c6)), (49, .sl 1 (v8.map (cdL 1 cdI).enc)), (50, .v (.int .i64 (v8.length : Int))), (51, .v (.int .i64 0))], [some ⟨1, 3, (c5.map cdI.enc), false⟩]⟩) ?_ ?_
        · refine RunS.segF (n := 108) e_law09_EveningHosts_ok 1 [(8, .sl 1 (v2.map (cdL 1 cdI).enc)), (9, .rf 0 0 c5.length c5.length), (10, .v (.int .i64 c6)), (34, .sl 1 (v1.1.map (cdL 1 (cdL 1 cdI)).enc)), (35, .v (.int .i64 (v1.1.length : Int))), (36, .v (.int .i64 c6)), (49, .sl 1 (v8.map (cdL 1 cdI).enc))] [some ⟨1, 3, (c5.map cdI.enc), false⟩] (by kernel_rfl) ?_
          refine RunS.one e_law09_EveningHosts_ok 0 rfl (op_q (wantedA_none rfl) rfl (q_len (a := .sl 1 (v8.map (cdL 1 cdI).enc)) (by kernel_rfl) (len_sl (el := 24) (by kernel_rfl)))) ?_
          refine RunS.segF (n := 108) e_law09_EveningHosts_ok 1 [(8, .sl 1 (v2.map (cdL 1 cdI).enc)), (9, .rf 0 0 c5.length c5.length), (10, .v (.int .i64 c6)), (34, .sl 1 (v1.1.map (cdL 1 (cdL 1 cdI)).enc)), (35, .v (.int .i64 (v1.1.length : Int))), (36, .v (.int .i64 c6)), (49, .sl 1 (v8.map (cdL 1 cdI).enc)), (50, .v (.int .i64 (v8.length : Int))), (51, .v (.int .i64 0))] [some ⟨1, 3, (c5.map cdI.enc), false⟩] (by kernel_rfl) ?_
          exact RunS.done rfl (Wk.sel2 [0] (by kernel_rfl) (by kernel_rfl) (by kernel_rfl) ⟨⟨_, rfl, bu_own⟩, trivial⟩ ⟨lu (by kernel_rfl) (by kernel_rfl), lu (by kernel_rfl) (by kernel_rfl), lu (by kernel_rfl) (by kernel_rfl), lu (by kernel_rfl) (by kernel_rfl), lu (by kernel_rfl) (by kernel_rfl), lu (by kernel_rfl) (by kernel_rfl), lu (by kernel_rfl) (by kernel_rfl), lu (by kernel_rfl) (by kernel_rfl), lu (by kernel_rfl) (by kernel_rfl), trivial⟩)
        refine Sem.block ?_
        obtain ⟨r42, hr42, h⟩ := Option.bind_eq_some_iff.1 h
        refine Sem.loop (n := 100000) ?_
        rcases r42 with w43 | w44
        · try dsimp only at h
          refine Sem.cutN (SemN.wk (s1 := ⟨Fr 108 [(8, .sl 1 (v2.map (cdL 1 cdI).enc)), (9, .rf 0 0 c5.length c5.length), (10, .v (.int .i64 c6)), (34, .sl 1 (v1.1.map (cdL 1 (cdL 1 cdI)).enc)), (35, .v (.int .i64 (v1.1.length : Int))), (36, .v (.int .i64 c6)), (49, .sl 1 (v8.map (cdL 1 cdI).enc)), (50, .v (.int .i64 (v8.length : Int))), (51, .v (.int .i64 0))], [some ⟨1, 3, (c5.map cdI.enc), false⟩]⟩) (Wk.sel2 [0] (by kernel_rfl) (by kernel_rfl) (by kernel_rfl) ⟨⟨_, rfl, bu_own⟩, trivial⟩ ⟨lu (by kernel_rfl) (by kernel_rfl), lu (by kernel_rfl) (by kernel_rfl), lu (by kernel_rfl) (by kernel_rfl), lu (by kernel_rfl) (by kernel_rfl), lu (by kernel_rfl) (by kernel_rfl), lu (by kernel_rfl) (by kernel_rfl), lu (by kernel_rfl) (by kernel_rfl), lu (by kernel_rfl) (by kernel_rfl), lu (by kernel_rfl) (by kernel_rfl), trivial⟩) (law09_EveningHosts_2_ok v1 v2 c6 v8 _ c5 0 _ hr42)) ?_
          refine Sem.runS (s1 := ⟨Fr 108 [(8, .sl 1 (v2.map (cdL 1 cdI).enc)), (9, .rf 0 0 w43.length w43.length), (34, .sl 1 (v1.1.map (cdL 1 (cdL 1 cdI)).enc)), (35, .v (.int .i64 (v1.1.length : Int))), (36, .v (.int .i64 (wr .i64 (c6 + 1))))], [some ⟨1, 3, (w43.map cdI.enc), false⟩]⟩) ?_ ?_
          · refine RunS.segF (n := 108) e_law09_EveningHosts_ok 2 [(8, .sl 1 (v2.map (cdL 1 cdI).enc)), (9, .rf 0 0 w43.length w43.length), (34, .sl 1 (v1.1.map (cdL 1 (cdL 1 cdI)).enc)), (35, .v (.int .i64 (v1.1.length : Int))), (36, .v (.int .i64 (wr .i64 (c6 + 1))))] [some ⟨1, 3, (w43.map cdI.enc), false⟩] (by kernel_rfl) ?_
            exact RunS.done rfl (Wk.sel2 [0] (by kernel_rfl) (by kernel_rfl) (by kernel_rfl) ⟨⟨_, rfl, bu_own⟩, trivial⟩ ⟨lu (by kernel_rfl) (by kernel_rfl), lu (by kernel_rfl) (by kernel_rfl), lu (by kernel_rfl) (by kernel_rfl), lu (by kernel_rfl) (by kernel_rfl), lu (by kernel_rfl) (by kernel_rfl), trivial⟩)
          exact SemN.wk (s1 := ⟨Fr 108 [(8, .sl 1 (v2.map (cdL 1 cdI).enc)), (9, .rf 0 0 w43.length w43.length), (34, .sl 1 (v1.1.map (cdL 1 (cdL 1 cdI)).enc)), (35, .v (.int .i64 (v1.1.length : Int))), (36, .v (.int .i64 (wr .i64 (c6 + 1))))], [some ⟨1, 3, (w43.map cdI.enc), false⟩]⟩) (Wk.sel2 [0] (by kernel_rfl) (by kernel_rfl) (by kernel_rfl) ⟨⟨_, rfl, bu_own⟩, trivial⟩ ⟨lu (by kernel_rfl) (by kernel_rfl), lu (by kernel_rfl) (by kernel_rfl), lu (by kernel_rfl) (by kernel_rfl), lu (by kernel_rfl) (by kernel_rfl), lu (by kernel_rfl) (by kernel_rfl), trivial⟩) (ih w43 (wr .i64 (c6 + 1)) h)
        · try dsimp only at h
          refine Sem.cutN (SemN.wk (s1 := ⟨Fr 108 [(8, .sl 1 (v2.map (cdL 1 cdI).enc)), (9, .rf 0 0 c5.length c5.length), (10, .v (.int .i64 c6)), (34, .sl 1 (v1.1.map (cdL 1 (cdL 1 cdI)).enc)), (35, .v (.int .i64 (v1.1.length : Int))), (36, .v (.int .i64 c6)), (49, .sl 1 (v8.map (cdL 1 cdI).enc)), (50, .v (.int .i64 (v8.length : Int))), (51, .v (.int .i64 0))], [some ⟨1, 3, (c5.map cdI.enc), false⟩]⟩) (Wk.sel2 [0] (by kernel_rfl) (by kernel_rfl) (by kernel_rfl) ⟨⟨_, rfl, bu_own⟩, trivial⟩ ⟨lu (by kernel_rfl) (by kernel_rfl), lu (by kernel_rfl) (by kernel_rfl), lu (by kernel_rfl) (by kernel_rfl), lu (by kernel_rfl) (by kernel_rfl), lu (by kernel_rfl) (by kernel_rfl), lu (by kernel_rfl) (by kernel_rfl), lu (by kernel_rfl) (by kernel_rfl), lu (by kernel_rfl) (by kernel_rfl), lu (by kernel_rfl) (by kernel_rfl), trivial⟩) (law09_EveningHosts_2_ok v1 v2 c6 v8 _ c5 0 _ hr42)) ?_
          have hq := Option.some.inj h; subst hq
          exact ⟨rfl, (Wk.fr (by kernel_rfl))⟩
    · rw [if_f hb7] at h
      refine Sem.exit ?_
      have hq := Option.some.inj h; subst hq
      exact ⟨rfl, (Wk.sel2 [] (by kernel_rfl) (by kernel_rfl) (by kernel_rfl) trivial trivial)⟩
set_option maxHeartbeats 4000000 in
set_option maxRecDepth 100000 in
theorem law09_EveningHosts_sem (x0 : (List Int)) (x1 : (List (List (Int × Int)))) (r : Bool) (h : law09_EveningHosts x0 x1 = some r) : Sem e_law09_EveningHosts ⟨none, false⟩ cb_law09_EveningHosts ⟨Fr 108 (pairs0 0 (cs_law09_EveningHosts.enc (x0, x1, ()))), []⟩ fun e s' => (e = .normal ∨ e = .ret) ∧ ∃ xs, resA e_law09_EveningHosts.P s'.fr s'.hp Tryd.f9.results.toList = some xs ∧ retA xs = er_law09_EveningHosts r := by
  unfold law09_EveningHosts at h
  refine Sem.wkQ (Sem.wk (s1 := ⟨Fr 108 [(0, .sl 1 (x0.map (cdK .u8).enc)), (1, .sl 1 (x1.map (cdL 2 (cdG2 (cdK .u8) (cdK .u8) (fun _ => rfl) (fun _ => rfl))).enc))], []⟩) (Wk.fr (by kernel_rfl)) ?_)
  refine Sem.seq ?_
  refine Sem.runS (s1 := ⟨Fr 108 [(0, .sl 1 (x0.map (cdK .u8).enc)), (1, .sl 1 (x1.map (cdL 2 (cdG2 (cdK .u8) (cdK .u8) (fun _ => rfl) (fun _ => rfl))).enc))], []⟩) ?_ ?_
  · refine RunS.segF (n := 108) e_law09_EveningHosts_ok 1 [(0, .sl 1 (x0.map (cdK .u8).enc)), (1, .sl 1 (x1.map (cdL 2 (cdG2 (cdK .u8) (cdK .u8) (fun _ => rfl) (fun _ => rfl))).enc))] [] (by kernel_rfl) ?_
    exact RunS.done rfl (Wk.fr (by kernel_rfl))
  refine Sem.seq ?_
  obtain ⟨v1, hv1, h⟩ := Option.bind_eq_some_iff.1 h
  refine Sem.runS (s1 := ⟨Fr 108 [(5, .sl 1 (v1.1.map (cdL 1 (cdL 1 cdI)).enc)), (7, .v (.int .i64 v1.2.2))], []⟩) ?_ ?_
  · refine RunS.segF (n := 108) e_law09_EveningHosts_ok 2 [(18, .sl 1 (x0.map (cdK .u8).enc)), (19, .sl 1 (x1.map (cdL 2 (cdG2 (cdK .u8) (cdK .u8) (fun _ => rfl) (fun _ => rfl))).enc))] [] (by kernel_rfl) ?_
    refine RunS.call e_law09_EveningHosts_ok (fid := 41) (s := cs_law09_Made) (F := fun a => law09_Made a.1 a.2.1) (er := er_law09_Made) (xs := [.sl 1 (x0.map (cdK .u8).enc), .sl 1 (x1.map (cdL 2 (cdG2 (cdK .u8) (cdK .u8) (fun _ => rfl) (fun _ => rfl))).enc)]) (a := (x0, x1, ())) rfl (wantedA_none rfl) (by kernel_rfl) (by kernel_rfl) (by kernel_rfl) (by kernel_rfl) (Sns.cons (Sn.enc (c := (cdL 1 (cdK .u8))) (v := x0)) (Sns.cons (Sn.enc (c := (cdL 1 (cdL 2 (cdG2 (cdK .u8) (cdK .u8) (fun _ => rfl) (fun _ => rfl))))) (v := x1)) Sns.nil)) (.inl (by kernel_rfl)) hv1 ?_
    refine RunS.segF (n := 108) e_law09_EveningHosts_ok 7 [(5, .sl 1 (v1.1.map (cdL 1 (cdL 1 cdI)).enc)), (7, .v (.int .i64 v1.2.2))] [] (by kernel_rfl) ?_
    exact RunS.done rfl (Wk.fr (by kernel_rfl))
  refine Sem.seq ?_
  obtain ⟨v2, hv2, h⟩ := Option.bind_eq_some_iff.1 h
  refine Sem.runS (s1 := ⟨Fr 108 [(5, .sl 1 (v1.1.map (cdL 1 (cdL 1 cdI)).enc)), (7, .v (.int .i64 v1.2.2)), (8, .sl 1 (v2.map (cdL 1 cdI).enc))], []⟩) ?_ ?_
  · refine RunS.segF (n := 108) e_law09_EveningHosts_ok 2 [(5, .sl 1 (v1.1.map (cdL 1 (cdL 1 cdI)).enc)), (7, .v (.int .i64 v1.2.2)), (24, .v (.int .i64 v1.2.2)), (25, .sl 1 (v1.1.map (cdL 1 (cdL 1 cdI)).enc))] [] (by kernel_rfl) ?_
    refine RunS.call e_law09_EveningHosts_ok (fid := 42) (s := cs_evening_Hosts) (F := fun a => evening_Hosts a.1 a.2.1) (er := er_evening_Hosts) (xs := [.v (.int .i64 v1.2.2), .sl 1 (v1.1.map (cdL 1 (cdL 1 cdI)).enc)]) (a := (v1.2.2, v1.1, ())) rfl (wantedA_none rfl) (by kernel_rfl) (by kernel_rfl) (by kernel_rfl) (by kernel_rfl) (Sns.cons (Sn.enc (c := cdI) (v := v1.2.2)) (Sns.cons (Sn.enc (c := (cdL 1 (cdL 1 (cdL 1 cdI)))) (v := v1.1)) Sns.nil)) (.inl (by kernel_rfl)) hv2 ?_
    refine RunS.segF (n := 108) e_law09_EveningHosts_ok 1 [(5, .sl 1 (v1.1.map (cdL 1 (cdL 1 cdI)).enc)), (7, .v (.int .i64 v1.2.2)), (8, .sl 1 (v2.map (cdL 1 cdI).enc))] [] (by kernel_rfl) ?_
    exact RunS.done rfl (Wk.fr (by kernel_rfl))
  refine Sem.seq ?_
  refine Sem.seq ?_
  refine Sem.runS (s1 := ⟨Fr 108 [(5, .sl 1 (v1.1.map (cdL 1 (cdL 1 cdI)).enc)), (7, .v (.int .i64 v1.2.2)), (8, .sl 1 (v2.map (cdL 1 cdI).enc)), (31, .v (.bool ((v2.length : Int) != (v1.1.length : Int))))], []⟩) ?_ ?_
  · refine RunS.segF (n := 108) e_law09_EveningHosts_ok 1 [(5, .sl 1 (v1.1.map (cdL 1 (cdL 1 cdI)).enc)), (7, .v (.int .i64 v1.2.2)), (8, .sl 1 (v2.map (cdL 1 cdI).enc)), (27, .sl 1 (v2.map (cdL 1 cdI).enc))] [] (by kernel_rfl) ?_
    refine RunS.one e_law09_EveningHosts_ok 0 rfl (op_q (wantedA_none rfl) rfl (q_len (a := .sl 1 (v2.map (cdL 1 cdI).enc)) (by kernel_rfl) (len_sl (el := 24) (by kernel_rfl)))) ?_
    refine RunS.segF (n := 108) e_law09_EveningHosts_ok 1 [(5, .sl 1 (v1.1.map (cdL 1 (cdL 1 cdI)).enc)), (7, .v (.int .i64 v1.2.2)), (8, .sl 1 (v2.map (cdL 1 cdI).enc)), (28, .v (.int .i64 (v2.length : Int))), (29, .sl 1 (v1.1.map (cdL 1 (cdL 1 cdI)).enc))] [] (by kernel_rfl) ?_
    refine RunS.one e_law09_EveningHosts_ok 0 rfl (op_q (wantedA_none rfl) rfl (q_len (a := .sl 1 (v1.1.map (cdL 1 (cdL 1 cdI)).enc)) (by kernel_rfl) (len_sl (el := 49) (by kernel_rfl)))) ?_
    refine RunS.segF (n := 108) e_law09_EveningHosts_ok 1 [(5, .sl 1 (v1.1.map (cdL 1 (cdL 1 cdI)).enc)), (7, .v (.int .i64 v1.2.2)), (8, .sl 1 (v2.map (cdL 1 cdI).enc)), (31, .v (.bool ((v2.length : Int) != (v1.1.length : Int))))] [] (by kernel_rfl) ?_
    exact RunS.done rfl (Wk.fr (by kernel_rfl))
  refine Sem.cond (b := ((v2.length : Int) != (v1.1.length : Int))) (by kernel_rfl) (fun hb3 => ?_) (fun hb3 => ?_)
  · rw [if_pos hb3] at h
    refine Sem.seq ?_
    refine Sem.runS (s1 := ⟨Fr 108 [(4, .v (.bool false))], []⟩) ?_ ?_
    · refine RunS.segF (n := 108) e_law09_EveningHosts_ok 1 [(4, .v (.bool false))] [] (by kernel_rfl) ?_
      exact RunS.done rfl (Wk.fr (by kernel_rfl))
    refine Sem.ret ?_
    have hq := Option.some.inj h; subst hq
    exact ⟨⟨Fr 108 [(4, .v (.bool false))], []⟩, (Wk.fr (by kernel_rfl)), .inr rfl, [.v (.bool false)], (by kernel_rfl), (by kernel_rfl)⟩
  · rw [if_f hb3] at h
    refine Sem.skip ?_
    refine Sem.seq ?_
    by_cases hk4 : (mkOk 8 v1.2.2) = true
    case neg => rw [if_neg hk4] at h; cases h
    rw [if_pos hk4] at h
    refine Sem.runS (s1 := ⟨Fr 108 [(5, .sl 1 (v1.1.map (cdL 1 (cdL 1 cdI)).enc)), (8, .sl 1 (v2.map (cdL 1 cdI).enc)), (9, .rf 0 0 (List.replicate v1.2.2.toNat (0 : Int)).length (List.replicate v1.2.2.toNat (0 : Int)).length)], [some ⟨1, 3, ((List.replicate v1.2.2.toNat (0 : Int)).map cdI.enc), false⟩]⟩) ?_ ?_
    · refine RunS.segF (n := 108) e_law09_EveningHosts_ok 1 [(5, .sl 1 (v1.1.map (cdL 1 (cdL 1 cdI)).enc)), (8, .sl 1 (v2.map (cdL 1 cdI).enc)), (32, .v (.int .i64 v1.2.2))] [] (by kernel_rfl) ?_
      refine RunS.one e_law09_EveningHosts_ok 0 rfl (op_n (wantedA_none rfl) rfl (by kernel_rfl) (n_make (x := .v (.int .i64 v1.2.2)) (y := .v (.int .i64 v1.2.2)) (by kernel_rfl) (by kernel_rfl) (make_B (c := cdI) (z := (0 : Int)) (k := 1) (bytes := 8) (el := 3) (by kernel_rfl) (by kernel_rfl) hk4))) ?_
      refine RunS.segF (n := 108) e_law09_EveningHosts_ok 1 [(5, .sl 1 (v1.1.map (cdL 1 (cdL 1 cdI)).enc)), (8, .sl 1 (v2.map (cdL 1 cdI).enc)), (9, .rf 0 0 (List.replicate v1.2.2.toNat (0 : Int)).length (List.replicate v1.2.2.toNat (0 : Int)).length)] [some ⟨1, 3, ((List.replicate v1.2.2.toNat (0 : Int)).map cdI.enc), false⟩] (by kernel_rfl) ?_
      exact RunS.done rfl (Wk.sel2 [0] (by kernel_rfl) (by kernel_rfl) (by kernel_rfl) ⟨⟨_, rfl, bu_own⟩, trivial⟩ ⟨lu (by kernel_rfl) (by kernel_rfl), lu (by kernel_rfl) (by kernel_rfl), lu (by kernel_rfl) (by kernel_rfl), trivial⟩)
    refine Sem.seq ?_
    refine Sem.seq ?_
    refine Sem.runS (s1 := ⟨Fr 108 [(8, .sl 1 (v2.map (cdL 1 cdI).enc)), (9, .rf 0 0 (List.replicate v1.2.2.toNat (0 : Int)).length (List.replicate v1.2.2.toNat (0 : Int)).length), (34, .sl 1 (v1.1.map (cdL 1 (cdL 1 cdI)).enc)), (35, .v (.int .i64 (v1.1.length : Int))), (36, .v (.int .i64 0))], [some ⟨1, 3, ((List.replicate v1.2.2.toNat (0 : Int)).map cdI.enc), false⟩]⟩) ?_ ?_
    · refine RunS.segF (n := 108) e_law09_EveningHosts_ok 1 [(8, .sl 1 (v2.map (cdL 1 cdI).enc)), (9, .rf 0 0 (List.replicate v1.2.2.toNat (0 : Int)).length (List.replicate v1.2.2.toNat (0 : Int)).length), (34, .sl 1 (v1.1.map (cdL 1 (cdL 1 cdI)).enc))] [some ⟨1, 3, ((List.replicate v1.2.2.toNat (0 : Int)).map cdI.enc), false⟩] (by kernel_rfl) ?_
      refine RunS.one e_law09_EveningHosts_ok 0 rfl (op_q (wantedA_none rfl) rfl (q_len (a := .sl 1 (v1.1.map (cdL 1 (cdL 1 cdI)).enc)) (by kernel_rfl) (len_sl (el := 49) (by kernel_rfl)))) ?_
      refine RunS.segF (n := 108) e_law09_EveningHosts_ok 1 [(8, .sl 1 (v2.map (cdL 1 cdI).enc)), (9, .rf 0 0 (List.replicate v1.2.2.toNat (0 : Int)).length (List.replicate v1.2.2.toNat (0 : Int)).length), (34, .sl 1 (v1.1.map (cdL 1 (cdL 1 cdI)).enc)), (35, .v (.int .i64 (v1.1.length : Int))), (36, .v (.int .i64 0))] [some ⟨1, 3, ((List.replicate v1.2.2.toNat (0 : Int)).map cdI.enc), false⟩] (by kernel_rfl) ?_
      exact RunS.done rfl (Wk.sel2 [0] (by kernel_rfl) (by kernel_rfl) (by kernel_rfl) ⟨⟨_, rfl, bu_own⟩, trivial⟩ ⟨lu (by kernel_rfl) (by kernel_rfl), lu (by kernel_rfl) (by kernel_rfl), lu (by kernel_rfl) (by kernel_rfl), lu (by kernel_rfl) (by kernel_rfl), lu (by kernel_rfl) (by kernel_rfl), trivial⟩)
    refine Sem.block ?_
    obtain ⟨r45, hr45, h⟩ := Option.bind_eq_some_iff.1 h
    refine Sem.loop (n := 100000) ?_
    rcases r45 with w46 | w48
    · try dsimp only at h
      refine Sem.cutN (SemN.wk (s1 := ⟨Fr 108 [(8, .sl 1 (v2.map (cdL 1 cdI).enc)), (9, .rf 0 0 (List.replicate v1.2.2.toNat (0 : Int)).length (List.replicate v1.2.2.toNat (0 : Int)).length), (34, .sl 1 (v1.1.map (cdL 1 (cdL 1 cdI)).enc)), (35, .v (.int .i64 (v1.1.length : Int))), (36, .v (.int .i64 0))], [some ⟨1, 3, ((List.replicate v1.2.2.toNat (0 : Int)).map cdI.enc), false⟩]⟩) (Wk.sel2 [0] (by kernel_rfl) (by kernel_rfl) (by kernel_rfl) ⟨⟨_, rfl, bu_own⟩, trivial⟩ ⟨lu (by kernel_rfl) (by kernel_rfl), lu (by kernel_rfl) (by kernel_rfl), lu (by kernel_rfl) (by kernel_rfl), lu (by kernel_rfl) (by kernel_rfl), lu (by kernel_rfl) (by kernel_rfl), trivial⟩) (law09_EveningHosts_1_ok v1 v2 _ (List.replicate v1.2.2.toNat (0 : Int)) 0 _ hr45)) ?_
      refine Sem.seq ?_
      obtain ⟨v47, hv47, h⟩ := Option.bind_eq_some_iff.1 h
      refine Sem.runS (s1 := ⟨Fr 108 [(4, .v (.bool v47))], []⟩) ?_ ?_
      · refine RunS.call e_law09_EveningHosts_ok (fid := 16) (s := cs_law09_awake) (F := fun a => law09_awake ) (er := er_law09_awake) (xs := []) (a := (())) rfl (wantedA_none rfl) (by kernel_rfl) (by kernel_rfl) (by kernel_rfl) (by kernel_rfl) Sns.nil (.inl (by kernel_rfl)) hv47 ?_
        refine RunS.segF (n := 108) e_law09_EveningHosts_ok 1 [(4, .v (.bool v47))] [] (by kernel_rfl) ?_
        exact RunS.done rfl (Wk.fr (by kernel_rfl))
      refine Sem.ret ?_
      have hq := Option.some.inj h; subst hq
      exact ⟨⟨Fr 108 [(4, .v (.bool v47))], []⟩, (Wk.fr (by kernel_rfl)), .inr rfl, [.v (.bool v47)], (by kernel_rfl), (by kernel_rfl)⟩
    · try dsimp only at h
      refine Sem.cutN (SemN.wk (s1 := ⟨Fr 108 [(8, .sl 1 (v2.map (cdL 1 cdI).enc)), (9, .rf 0 0 (List.replicate v1.2.2.toNat (0 : Int)).length (List.replicate v1.2.2.toNat (0 : Int)).length), (34, .sl 1 (v1.1.map (cdL 1 (cdL 1 cdI)).enc)), (35, .v (.int .i64 (v1.1.length : Int))), (36, .v (.int .i64 0))], [some ⟨1, 3, ((List.replicate v1.2.2.toNat (0 : Int)).map cdI.enc), false⟩]⟩) (Wk.sel2 [0] (by kernel_rfl) (by kernel_rfl) (by kernel_rfl) ⟨⟨_, rfl, bu_own⟩, trivial⟩ ⟨lu (by kernel_rfl) (by kernel_rfl), lu (by kernel_rfl) (by kernel_rfl), lu (by kernel_rfl) (by kernel_rfl), lu (by kernel_rfl) (by kernel_rfl), lu (by kernel_rfl) (by kernel_rfl), trivial⟩) (law09_EveningHosts_1_ok v1 v2 _ (List.replicate v1.2.2.toNat (0 : Int)) 0 _ hr45)) ?_
      have hq := Option.some.inj h; subst hq
      exact ⟨⟨Fr 108 [(4, .v (.bool w48))], []⟩, (Wk.fr (by kernel_rfl)), .inr rfl, [.v (.bool w48)], (by kernel_rfl), (by kernel_rfl)⟩
def t_law09_EveningHosts : List AV → Option AV := told cs_law09_EveningHosts (fun a => law09_EveningHosts a.1 a.2.1) er_law09_EveningHosts
theorem x_law09_EveningHosts : XOk 9 t_law09_EveningHosts := by
  refine EnvOk.x (E := e_law09_EveningHosts) (contract_ok e_law09_EveningHosts_ok (fn := Tryd.f9) (c := cb_law09_EveningHosts) ?h1 ?h2 ⟨Tryd.call9⟩ cs_law09_EveningHosts (fun a => law09_EveningHosts a.1 a.2.1) er_law09_EveningHosts (fun a => (by show 2 ≤ 108; decide)) ?h3 ?h4) rfl rfl
  case h1 => kernel_rfl
  case h2 => kernel_rfl
  case h3 => intro b; kernel_rfl
  case h4 => exact fun a b h => law09_EveningHosts_sem a.1 a.2.1 b h
end Go.Proofs.YthofgamegondnaaDoor

namespace Go.Proofs.YthofgamegondnaaDoor
open Go.RowKit
def in64 (n : Int) : Prop := -9223372036854775808 ≤ n ∧ n ≤ 9223372036854775807
theorem wr_i {n : Int} (h1 : -9223372036854775808 ≤ n) (h2 : n ≤ 9223372036854775807) : wr .i64 n = n := by
  show (if _ then n else _) = n
  rw [if_pos ⟨h1, h2⟩]
theorem idx_app {α : Type} (pre : List α) (v : α) (r : List α) : idx (pre ++ v :: r) (pre.length : Int) = some v := by
  unfold idx
  rw [if_pos (by omega)]
  simp
theorem idx_lt {α : Type} {xs : List α} {i : Nat} (h : i < xs.length) : idx xs (i : Int) = some xs[i] := by
  unfold idx
  rw [if_pos (by omega)]
  simp [h]
theorem snoc_len {α : Type} (pre : List α) (v : α) : ((pre.length : Int) + 1) = ((pre ++ [v]).length : Int) := by simp
theorem snoc_app {α : Type} (pre : List α) (v : α) (r : List α) : pre ++ v :: r = (pre ++ [v]) ++ r := by simp
theorem wr_snoc {α : Type} (pre : List α) (v : α) (r : List α) (h : (pre ++ v :: r).length ≤ 1000000000) : wr .i64 ((pre.length : Int) + 1) = ((pre ++ [v]).length : Int) := by
  simp at h
  rw [wr_i (by omega) (by omega)]; simp
theorem lt_len {α : Type} (pre : List α) (v : α) (r : List α) : decide ((pre.length : Int) < ((pre ++ v :: r).length : Int)) = true := by
  simp; omega
theorem nlt_len {α : Type} (pre : List α) : decide ((pre.length : Int) < ((pre ++ []).length : Int)) = false := by simp
theorem capOk_le {b n : Nat} (hb : b ≤ 1000) (h : n ≤ 1000000000) : capOk b n = true := by
  have h1 : n * b ≤ 1000000000 * 1000 := Nat.mul_le_mul h hb
  unfold capOk
  rw [Bool.and_eq_true]
  exact ⟨Nat.ble_eq_true_of_le (by omega), Nat.ble_eq_true_of_le (by omega)⟩
end Go.Proofs.YthofgamegondnaaDoor

namespace Go.Proofs.YthofgamegondnaaDoor
open Go.RowKit
def inc (cs : List Int) (i : Nat) : List Int := cs.set i (cs.getD i 0 + 1)
def incs (cs : List Int) (L : List Nat) : List Int := L.foldl inc cs
theorem inc_len (cs : List Int) (i : Nat) : (inc cs i).length = cs.length := by simp [inc]
theorem inc_get (cs : List Int) (i j : Nat) (h : j < cs.length) : (inc cs i).getD j 0 = cs.getD j 0 + (if i = j then 1 else 0) := by
  unfold inc
  by_cases e : i = j
  · subst e
    simp [List.getD_eq_getElem?_getD, h]
  · simp [List.getD_eq_getElem?_getD, e]
def zeros (n : Nat) : List Int := List.replicate n 0
theorem zeros_get (n j : Nat) : (zeros n).getD j 0 = 0 := by
  simp only [zeros, List.getD_eq_getElem?_getD, List.getElem?_replicate]
  split <;> rfl
/-- A bit of a number. -/
def tb (m i : Nat) : Bool := Nat.beq (Nat.mod (Nat.shiftRight m i) 2) 1
/-- The numbers of a list as bits; none if one stands there twice. -/
def bits : List Nat → Nat → Option Nat
  | [], m => some m
  | i :: L, m => bif tb m i then none else bits L (Nat.lor m (Nat.shiftLeft 1 i))
end Go.Proofs.YthofgamegondnaaDoor

namespace Go.Proofs.YthofgamegondnaaDoor
open Go.RowKit
/- trestle/trestleref09.times -/
def ref09_times_j3 (x0 : (List (List Int))) (x1 : Int) (c2 : Int) (c4 : Int) (c5 : Int) (v9 : Int) : Option ((Int)) :=
  if (v9 == x1) = true then
  some (wr .i64 (c4 + 1))
  else
  some c4
def ref09_times_2 (x0 : (List (List Int))) (x1 : Int) (c2 : Int) : Nat → Int → Int → Option ((Int))
  | 0, _, _ => none
  | f + 1, c4, c5 =>
    (idx x0 c2).bind fun v6 =>
    if (decide (c5 < (v6.length : Int))) = true then
    (idx x0 c2).bind fun v8 =>
    (idx v8 c5).bind fun v9 =>
    (ref09_times_j3 x0 x1 c2 c4 c5 v9).bind fun r12 =>
    ref09_times_2 x0 x1 c2 f r12 (wr .i64 (c5 + 1))
    else
    some c4
def ref09_times_1 (x0 : (List (List Int))) (x1 : Int) : Nat → Int → Int → Option ((Int))
  | 0, _, _ => none
  | f + 1, c1, c2 =>
    if (decide (c2 < (x0.length : Int))) = true then
    (ref09_times_2 x0 x1 c2 100000 c1 0).bind fun r14 =>
    ref09_times_1 x0 x1 f r14 (wr .i64 (c2 + 1))
    else
    some c1
def ref09_times (x0 : (List (List Int))) (x1 : Int) : Option (Int) :=
  (ref09_times_1 x0 x1 100000 0 0).bind fun r16 =>
  some r16
end Go.Proofs.YthofgamegondnaaDoor

namespace Go.Proofs.YthofgamegondnaaDoor
open Go.RowKit
/- trestle/trestleref09.CheckEvening -/
def ref09_CheckEvening_1 (x0 : Int) (x1 : (List Int)) (x2 : (List (List Int))) : Nat → Int → Option ((Unit) ⊕ (Int))
  | 0, _ => none
  | f + 1, c4 =>
    if (decide (c4 < (x2.length : Int))) = true then
    (idx x2 c4).bind fun v6 =>
    (if ((v6.length : Int) == 0) = true then some true else if (decide ((x1.length : Int) > 0)) = true then (idx x1 c4).bind fun v7 =>
    (idx x2 c4).bind fun v8 =>
    some (v7 != (v8.length : Int)) else some false).bind fun j10 =>
    if j10 = true then
    some (.inr 2)
    else
    ref09_CheckEvening_1 x0 x1 x2 f (wr .i64 (c4 + 1))
    else
    some (.inl ())
def ref09_CheckEvening_3 (x0 : Int) (x2 : (List (List Int))) (c17 : Int) : Nat → Int → Option ((Unit) ⊕ (Int))
  | 0, _ => none
  | f + 1, c19 =>
    (idx x2 c17).bind fun v20 =>
    if (decide (c19 < (v20.length : Int))) = true then
    (idx x2 c17).bind fun v22 =>
    (idx v22 c19).bind fun v23 =>
    (if (decide (v23 < 0)) = true then some true else (idx x2 c17).bind fun v24 =>
    (idx v24 c19).bind fun v25 =>
    some (decide (v25 ≥ x0))).bind fun j27 =>
    if j27 = true then
    some (.inr 6)
    else
    ref09_CheckEvening_3 x0 x2 c17 f (wr .i64 (c19 + 1))
    else
    some (.inl ())
def ref09_CheckEvening_2 (x0 : Int) (x2 : (List (List Int))) : Nat → Int → Option ((Unit) ⊕ (Int))
  | 0, _ => none
  | f + 1, c17 =>
    if (decide (c17 < (x2.length : Int))) = true then
    (ref09_CheckEvening_3 x0 x2 c17 100000 0).bind fun r31 =>
    match r31 with
    | (.inl w32) =>
      ref09_CheckEvening_2 x0 x2 f (wr .i64 (c17 + 1))
    | (.inr w33) =>
      some (.inr w33)
    else
    some (.inl ())
def ref09_CheckEvening_4 (x0 : Int) (x2 : (List (List Int))) : Nat → Int → Option ((Unit) ⊕ (Int))
  | 0, _ => none
  | f + 1, c37 =>
    if (decide (c37 < x0)) = true then
    (ref09_times x2 c37).bind fun v39 =>
    if (decide (v39 > 1)) = true then
    some (.inr 5)
    else
    ref09_CheckEvening_4 x0 x2 f (wr .i64 (c37 + 1))
    else
    some (.inl ())
def ref09_CheckEvening_5 (x0 : Int) (x2 : (List (List Int))) : Nat → Int → Option ((Unit) ⊕ (Int))
  | 0, _ => none
  | f + 1, c44 =>
    if (decide (c44 < x0)) = true then
    (ref09_times x2 c44).bind fun v46 =>
    if (v46 == 0) = true then
    some (.inr 2)
    else
    ref09_CheckEvening_5 x0 x2 f (wr .i64 (c44 + 1))
    else
    some (.inl ())
def ref09_CheckEvening (x0 : Int) (x1 : (List Int)) (x2 : (List (List Int))) : Option (Int) :=
  (if (decide ((x1.length : Int) > 0)) = true then some ((x1.length : Int) != (x2.length : Int)) else some false).bind fun j2 =>
  if j2 = true then
  some 2
  else
  (ref09_CheckEvening_1 x0 x1 x2 100000 0).bind fun r15 =>
  match r15 with
  | (.inl w16) =>
    (ref09_CheckEvening_2 x0 x2 100000 0).bind fun r35 =>
    match r35 with
    | (.inl w36) =>
      (ref09_CheckEvening_4 x0 x2 100000 0).bind fun r42 =>
      match r42 with
      | (.inl w43) =>
        (ref09_CheckEvening_5 x0 x2 100000 0).bind fun r49 =>
        match r49 with
        | (.inl w50) =>
          some 0
        | (.inr w51) =>
          some w51
      | (.inr w52) =>
        some w52
    | (.inr w53) =>
      some w53
  | (.inr w54) =>
    some w54
end Go.Proofs.YthofgamegondnaaDoor

namespace Go.Proofs.YthofgamegondnaaDoor
open Go.RowKit
/- trestle/trestleref09.Fit -/
def ref09_Fit_1 (x0 : Int) (x1 : (List Int)) : Nat → Int → Int → Option ((Int) ⊕ (Bool))
  | 0, _, _ => none
  | f + 1, c1, c2 =>
    if (decide (c2 < (x1.length : Int))) = true then
    (idx x1 c2).bind fun v4 =>
    (if (decide (v4 < 1)) = true then some true else (idx x1 c2).bind fun v5 =>
    if (decide (v5 > 64)) = true then some true else some (decide (c1 > 64))).bind fun j7 =>
    if j7 = true then
    some (.inr false)
    else
    (idx x1 c2).bind fun v10 =>
    ref09_Fit_1 x0 x1 f (wr .i64 (c1 + v10)) (wr .i64 (c2 + 1))
    else
    some (.inl c1)
def ref09_Fit (x0 : Int) (x1 : (List Int)) : Option (Bool) :=
  (ref09_Fit_1 x0 x1 100000 0 0).bind fun r14 =>
  match r14 with
  | (.inl w15) =>
    (if (decide (x0 ≥ 1)) = true then if (decide (x0 ≤ 64)) = true then some (w15 == x0) else some false else some false).bind fun j17 =>
    some j17
  | (.inr w20) =>
    some w20
end Go.Proofs.YthofgamegondnaaDoor

namespace Go.Proofs.YthofgamegondnaaDoor
open Go.RowKit
/- trestle/trestleref09.Check -/
def ref09_Check_1 (x0 : Int) (x1 : (List Int)) (x2 : (List (List (List Int)))) : Nat → Int → Option ((Unit) ⊕ (Int × Int))
  | 0, _ => none
  | f + 1, c6 =>
    if (decide (c6 < (x2.length : Int))) = true then
    (idx x2 c6).bind fun v8 =>
    (ref09_CheckEvening x0 x1 v8).bind fun v9 =>
    if (v9 != 0) = true then
    some (.inr (c6, v9))
    else
    ref09_Check_1 x0 x1 x2 f (wr .i64 (c6 + 1))
    else
    some (.inl ())
def ref09_Check (x0 : Int) (x1 : (List Int)) (x2 : (List (List (List Int)))) : Option (Int × Int) :=
  (if (decide (x0 < 1)) = true then some true else if (decide (x0 > 64)) = true then some true else if (decide ((x1.length : Int) > 0)) = true then (ref09_Fit x0 x1).bind fun v1 =>
  some (!v1) else some false).bind fun j3 =>
  if j3 = true then
  some (0, 90)
  else
  if (decide ((x2.length : Int) > 64)) = true then
  some (0, 7)
  else
  (ref09_Check_1 x0 x1 x2 100000 0).bind fun r13 =>
  match r13 with
  | (.inl w14) =>
    some (0, 0)
  | (.inr w15) =>
    some (w15.1, w15.2)
end Go.Proofs.YthofgamegondnaaDoor

namespace Go.Proofs.YthofgamegondnaaDoor
open Go.RowKit
/- slices.Equal[[]int,int] -/
end Go.Proofs.YthofgamegondnaaDoor

namespace Go.Proofs.YthofgamegondnaaDoor
open Go.RowKit
/- trestle/evening.met -/
end Go.Proofs.YthofgamegondnaaDoor

namespace Go.Proofs.YthofgamegondnaaDoor
open Go.RowKit
def sumL : List Int → Int
  | [] => 0
  | v :: r => v + sumL r
/-- Do sizes fit? -/
def fitP (n : Int) (xs : List Int) : Bool := xs.all (fun v => decide (1 ≤ v)) && decide (sumL xs = n) && decide (1 ≤ n) && decide (n ≤ 64)
def fitL : Int → List Int → Int ⊕ Bool
  | c, [] => .inl c
  | c, v :: r => if v < 1 ∨ v > c then .inr false else fitL (c - v) r
theorem fit_1 (n : Int) (xs : List Int) (hxs : xs.length ≤ 1000) : ∀ (r pre : List Int) (c : Int) (f : Nat), xs = pre ++ r → r.length < f → -9223372036854775808 ≤ c → c ≤ 9223372036854775807 → evening_fit_1 n xs f c pre.length = some (fitL c r)
  | [], pre, c, f + 1, h, _, _, _ => by
    subst h
    unfold evening_fit_1
    rw [nlt_len]
    rfl
  | v :: r, pre, c, f + 1, h, hf, h1, h2 => by
    subst h
    unfold evening_fit_1
    rw [if_pos (lt_len pre v r), idx_app]
    simp only [Option.bind_some]
    rw [wr_snoc pre v r (by omega)]
    unfold fitL
    by_cases ha : v < 1
    · simp [ha]
    · by_cases hb : v > c
      · simp [ha, hb]
      · simp only [ha, hb, decide_false, Bool.false_eq_true, if_false, Option.bind_some, false_or]
        rw [wr_i (by omega) (by omega)]
        rw [snoc_app]
        exact fit_1 n _ (by rw [← snoc_app]; exact hxs) r (pre ++ [v]) (c - v) f rfl (by simp at hf; omega) (by omega) (by omega)
theorem fitL_eq : ∀ (xs : List Int) (c : Int), (∃ d, fitL c xs = .inl d ∧ d = c - sumL xs ∧ (xs.all fun v => decide (1 ≤ v)) = true ∧ (0 ≤ c → 0 ≤ d)) ∨ (fitL c xs = .inr false ∧ ((xs.all fun v => decide (1 ≤ v)) = true → c < sumL xs))
  | [], c => .inl ⟨c, rfl, by simp [sumL], rfl, fun h => h⟩
  | v :: r, c => by
    unfold fitL
    by_cases hv : v < 1 ∨ v > c
    · rw [if_pos hv]
      refine .inr ⟨rfl, fun h => ?_⟩
      simp only [List.all_cons, Bool.and_eq_true, decide_eq_true_eq] at h
      have : ∀ (l : List Int), (l.all fun v => decide (1 ≤ v)) = true → 0 ≤ sumL l := by
        intro l
        induction l with
        | nil => intro _; simp [sumL]
        | cons a l ih => intro h; simp only [List.all_cons, Bool.and_eq_true, decide_eq_true_eq] at h; have := ih h.2; simp only [sumL]; omega
      have := this r h.2
      simp only [sumL]
      omega
    · rw [if_neg hv]
      rcases fitL_eq r (c - v) with ⟨d, h1, h2, h3, h4⟩ | ⟨h1, h2⟩
      · refine .inl ⟨d, h1, by simp only [sumL]; omega, ?_, fun h => h4 (by omega)⟩
        simp only [List.all_cons, Bool.and_eq_true, decide_eq_true_eq]
        exact ⟨by omega, h3⟩
      · refine .inr ⟨h1, fun h => ?_⟩
        simp only [List.all_cons, Bool.and_eq_true, decide_eq_true_eq] at h
        have := h2 h.2
        simp only [sumL]
        omega
theorem evening_fit_eq (n : Int) (hn : in64 n) (xs : List Int) (hxs : xs.length ≤ 1000) : evening_fit n xs = some (fitP n xs) := by
  unfold evening_fit
  rw [show (0 : Int) = (([] : List Int).length : Int) from rfl, fit_1 n xs hxs xs [] n 100000 rfl (by omega) hn.1 hn.2]
  simp only [Option.bind_some]
  rcases fitL_eq xs n with ⟨d, h1, h2, h3, h4⟩ | ⟨h1, h2⟩
  · rw [h1]
    simp only [evening_guests, Option.bind_some]
    unfold fitP
    rw [h3]
    by_cases ha : 1 ≤ n
    · by_cases hb : n ≤ 64
      · have : (d == 0) = decide (sumL xs = n) := by
          by_cases hd : d = 0
          · rw [hd]; simp; omega
          · have : ¬ sumL xs = n := by omega
            simp [this, hd]
        simp [ha, hb, this]
      · simp [ha, hb]
    · simp [ha]
  · rw [h1]
    simp only [Option.bind_some]
    unfold fitP
    cases hall : xs.all (fun v => decide (1 ≤ v)) with
    | false => simp
    | true => have := h2 hall; have : ¬ sumL xs = n := by omega
              simp [this]

def fitR : Int → List Int → Int ⊕ Bool
  | c, [] => .inl c
  | c, v :: r => if v < 1 ∨ v > 64 ∨ c > 64 then .inr false else fitR (c + v) r
theorem Fit_1 (n : Int) (xs : List Int) (hxs : xs.length ≤ 1000) : ∀ (r pre : List Int) (c : Int) (f : Nat), xs = pre ++ r → r.length < f → 0 ≤ c → ref09_Fit_1 n xs f c pre.length = some (fitR c r)
  | [], pre, c, f + 1, h, _, _ => by
    subst h
    unfold ref09_Fit_1
    rw [nlt_len]
    rfl
  | v :: r, pre, c, f + 1, h, hf, h1 => by
    subst h
    unfold ref09_Fit_1
    rw [if_pos (lt_len pre v r), idx_app]
    simp only [Option.bind_some]
    rw [wr_snoc pre v r (by omega)]
    unfold fitR
    by_cases ha : v < 1
    · simp [ha]
    · by_cases hb : v > 64
      · simp [ha, hb]
      · by_cases hc : c > 64
        · simp [ha, hb, hc]
        · simp only [ha, hb, hc, decide_false, Bool.false_eq_true, if_false, Option.bind_some, false_or]
          rw [wr_i (by omega) (by omega)]
          rw [snoc_app]
          exact Fit_1 n _ (by rw [← snoc_app]; exact hxs) r (pre ++ [v]) (c + v) f rfl (by simp at hf; omega) (by omega)
theorem sum_nn : ∀ (l : List Int), (l.all fun v => decide (1 ≤ v)) = true → 0 ≤ sumL l
  | [], _ => by simp [sumL]
  | a :: l, h => by
    simp only [List.all_cons, Bool.and_eq_true, decide_eq_true_eq] at h
    have := sum_nn l h.2
    simp only [sumL]; omega
theorem fitR_eq : ∀ (xs : List Int) (c : Int), 0 ≤ c → (∃ d, fitR c xs = .inl d ∧ d = c + sumL xs ∧ (xs.all fun v => decide (1 ≤ v)) = true) ∨ (fitR c xs = .inr false ∧ ((xs.all fun v => decide (1 ≤ v)) = true → 64 < c + sumL xs))
  | [], c, _ => .inl ⟨c, rfl, by simp [sumL], rfl⟩
  | v :: r, c, h0 => by
    unfold fitR
    by_cases hv : v < 1 ∨ v > 64 ∨ c > 64
    · rw [if_pos hv]
      refine .inr ⟨rfl, fun h => ?_⟩
      simp only [List.all_cons, Bool.and_eq_true, decide_eq_true_eq] at h
      have := sum_nn r h.2
      simp only [sumL]
      omega
    · rw [if_neg hv]
      rcases fitR_eq r (c + v) (by omega) with ⟨d, h1, h2, h3⟩ | ⟨h1, h2⟩
      · refine .inl ⟨d, h1, by simp only [sumL]; omega, ?_⟩
        simp only [List.all_cons, Bool.and_eq_true, decide_eq_true_eq]
        exact ⟨by omega, h3⟩
      · refine .inr ⟨h1, fun h => ?_⟩
        simp only [List.all_cons, Bool.and_eq_true, decide_eq_true_eq] at h
        have := h2 h.2
        simp only [sumL]
        omega
theorem ref09_Fit_eq (n : Int) (xs : List Int) (hxs : xs.length ≤ 1000) : ref09_Fit n xs = some (fitP n xs) := by
  unfold ref09_Fit
  have e0 := Fit_1 n xs hxs xs [] 0 100000 rfl (by omega) (by omega)
  rw [show ((([] : List Int).length : Nat) : Int) = 0 from rfl] at e0
  rw [e0]
  simp only [Option.bind_some]
  rcases fitR_eq xs 0 (by omega) with ⟨d, h1, h2, h3⟩ | ⟨h1, h2⟩
  · rw [h1]
    unfold fitP
    rw [h3]
    by_cases ha : 1 ≤ n
    · by_cases hb : n ≤ 64
      · have : (d == n) = decide (sumL xs = n) := by
          by_cases hd : d = n
          · rw [hd]; simp; omega
          · have : ¬ sumL xs = n := by omega
            simp [this, hd]
        simp [ha, hb, this]
      · simp [ha, hb]
    · simp [ha]
  · rw [h1]
    unfold fitP
    cases hall : xs.all (fun v => decide (1 ≤ v)) with
    | false => simp
    | true =>
      have := h2 hall
      by_cases hs : sumL xs = n
      · have : ¬ n ≤ 64 := by omega
        simp [hs, this]
      · simp [hs]

end Go.Proofs.YthofgamegondnaaDoor

namespace Go.Proofs.YthofgamegondnaaDoor
open Go.RowKit
/-- How often a number sits on an evening. -/
theorem times_2 (ev : List (List Int)) (x c2 : Int) (t : List Int) (ht : idx ev c2 = some t) (hl : t.length ≤ 50000) : ∀ (r pre : List Int) (f : Nat) (c : Int), t = pre ++ r → r.length < f → 0 ≤ c → c + r.length ≤ 1000000 → ref09_times_2 ev x c2 f c pre.length = some (c + (r.count x : Int))
  | [], pre, f + 1, c, h, _, _, _ => by
    unfold ref09_times_2
    rw [ht]
    subst h
    simp only [Option.bind_some]
    rw [nlt_len]
    simp
  | v :: r, pre, f + 1, c, h, hf, h0, h1 => by
    unfold ref09_times_2
    rw [ht]
    simp only [List.length_cons] at h1
    by_cases hv : v = x
    · have ih := times_2 ev x c2 t ht hl r (pre ++ [v]) f (c + 1) (by rw [h]; simp) (by simp at hf; omega) (by omega) (by omega)
      subst h hv
      simp only [Option.bind_some]
      rw [if_pos (lt_len pre v r), idx_app]
      simp only [Option.bind_some, ref09_times_j3, beq_self_eq_true, if_true]
      rw [wr_snoc pre v r (by omega), wr_i (by omega) (by omega), ih, List.count_cons_self]
      congr 1; omega
    · have ih := times_2 ev x c2 t ht hl r (pre ++ [v]) f c (by rw [h]; simp) (by simp at hf; omega) (by omega) (by omega)
      have hb : (v == x) = false := by simpa using hv
      subst h
      simp only [Option.bind_some]
      rw [if_pos (lt_len pre v r), idx_app]
      simp only [Option.bind_some, ref09_times_j3, hb, Bool.false_eq_true, if_false]
      rw [wr_snoc pre v r (by omega), ih, List.count_cons_of_ne hv]
theorem len_mem {α : Type} : ∀ {ev : List (List α)} {t : List α}, t ∈ ev → t.length ≤ ev.flatten.length
  | a :: ev, t, h => by
    simp only [List.flatten_cons, List.length_append]
    rcases List.mem_cons.1 h with rfl | h
    · omega
    · have := len_mem h; omega
theorem times_eq (ev : List (List Int)) (x : Int) (hl : ev.length ≤ 50000) (hfl : ev.flatten.length ≤ 50000) : ref09_times ev x = some (ev.flatten.count x : Int) := by
  unfold ref09_times
  have hm : ∀ t ∈ ev, t.length ≤ 50000 := fun t ht => by
    have := len_mem ht; omega
  have key : ∀ (r pre : List (List Int)) (f : Nat) (c : Int), ev = pre ++ r → r.length < f → 0 ≤ c → c + r.flatten.length ≤ 50000 → ref09_times_1 ev x f c pre.length = some (c + (r.flatten.count x : Int)) := by
    intro r
    induction r with
    | nil =>
      intro pre f c h hf h0 h1
      obtain ⟨f, rfl⟩ : ∃ g, f = g + 1 := ⟨f - 1, by simp at hf; omega⟩
      subst h
      unfold ref09_times_1
      rw [nlt_len]
      simp
    | cons t r ih =>
      intro pre f c h hf h0 h1
      obtain ⟨f, rfl⟩ : ∃ g, f = g + 1 := ⟨f - 1, by simp at hf; omega⟩
      have ht := hm t (by rw [h]; simp)
      subst h
      unfold ref09_times_1
      rw [if_pos (lt_len pre t r)]
      simp only [List.flatten_cons, List.length_append] at h1
      have hc : (t.count x) ≤ t.length := List.count_le_length
      have h2 := times_2 (pre ++ t :: r) x pre.length t (idx_app pre t r) (by omega) t [] 100000 c rfl (by omega) h0 (by omega)
      rw [show ((([] : List Int).length : Nat) : Int) = 0 from rfl] at h2
      rw [h2]
      simp only [Option.bind_some]
      simp at hl
      rw [wr_snoc pre t r (by simp; omega), ih (pre ++ [t]) f _ (by simp) (by simp at hf; omega) (by omega) (by omega)]
      simp only [List.flatten_cons, List.count_append]
      congr 1; omega
  have := key ev [] 100000 0 rfl (by omega) (by omega) (by omega)
  rw [show ((([] : List (List Int)).length : Nat) : Int) = 0 from rfl, Int.zero_add] at this
  rw [this]
  rfl

/-- Is the shape of an evening wrong? -/
def sbad (sizes : List Int) : List (List Int) → Int → Bool
  | [], _ => false
  | t :: r, i => ((t.length : Int) == 0) || (decide ((sizes.length : Int) > 0) && (match idx sizes i with | some v => ((t.length : Int) != v) | none => false)) || sbad sizes r (i + 1)
abbrev CSt := Int × Bool × Bool × List Bool
def stepC (n : Int) (s : CSt) (v : Int) : CSt := if v < 0 ∨ v ≥ n then (s.1, s.2.1, true, s.2.2.2) else ((if (s.2.2.2)[v.toNat]?.getD false then s.1 else s.1 + 1), s.2.1 || (s.2.2.2)[v.toNat]?.getD false, s.2.2.1, s.2.2.2.set v.toNat true)
theorem stepC_len (n : Int) (s : CSt) (v : Int) : (stepC n s v).2.2.2.length = s.2.2.2.length := by
  unfold stepC; split <;> simp
theorem stepC_le (n : Int) (s : CSt) (v : Int) : (stepC n s v).1 ≤ s.1 + 1 ∧ s.1 ≤ (stepC n s v).1 := by
  unfold stepC; split
  · show s.1 ≤ s.1 + 1 ∧ s.1 ≤ s.1; omega
  · simp only; split <;> omega
theorem check_2 (n : Int) (sizes : List Int) (ev : List (List Int)) (c9 : Int) (hn0 : 0 ≤ n) : ∀ (r pre : List Int) (s : CSt) (f : Nat) (t : List Int), t = pre ++ r → t.length ≤ 50000 → r.length < f → s.2.2.2.length = n.toNat → 0 ≤ s.1 → s.1 ≤ 1000000 + (pre.length : Int) → evening_check_2 n sizes ev c9 t f s.1 s.2.1 s.2.2.1 s.2.2.2 pre.length = some (r.foldl (stepC n) s)
  | [], pre, s, f + 1, t, ht, _, _, _, _, _ => by
    subst ht
    unfold evening_check_2
    rw [nlt_len]
    rfl
  | v :: r, pre, s, f + 1, t, ht, hl, hf, hs, h0, h1 => by
    obtain ⟨m, tw, un, seen⟩ := s
    simp only at hs h0 h1 ⊢
    have ih := check_2 n sizes ev c9 hn0 r (pre ++ [v]) (stepC n (m, tw, un, seen) v) f t (by rw [ht]; simp) hl (by simp at hf; omega) (by rw [stepC_len]; exact hs) (by have := (stepC_le n (m, tw, un, seen) v).2; simp only at this; omega) (by have := (stepC_le n (m, tw, un, seen) v).1; simp only at this; simp; omega)
    subst ht
    unfold evening_check_2
    rw [if_pos (lt_len pre v r), idx_app]
    simp only [Option.bind_some]
    rw [wr_snoc pre v r (by omega)]
    rw [List.foldl_cons]
    by_cases hv : v < 0 ∨ v ≥ n
    · have hst : stepC n (m, tw, un, seen) v = (m, tw, true, seen) := by unfold stepC; rw [if_pos hv]
      rw [hst] at ih ⊢
      by_cases hv0 : v < 0
      · simp only [hv0, decide_true, if_true, Option.bind_some]
        exact ih
      · have : v ≥ n := by omega
        simp only [hv0, this, decide_false, decide_true, Bool.false_eq_true, if_false, if_true, Option.bind_some]
        exact ih
    · have hv0 : ¬ v < 0 := by omega
      have hv1 : ¬ v ≥ n := by omega
      have hlt : v.toNat < seen.length := by omega
      have hidx : idx seen v = some (seen[v.toNat]'hlt) := by
        unfold idx; rw [if_pos (by omega)]; exact List.getElem?_eq_getElem hlt
      have hg : seen[v.toNat]?.getD false = seen[v.toNat]'hlt := by rw [List.getElem?_eq_getElem hlt]; rfl
      have hst : stepC n (m, tw, un, seen) v = ((if (seen[v.toNat]'hlt) then m else m + 1), tw || (seen[v.toNat]'hlt), un, seen.set v.toNat true) := by
        unfold stepC; rw [if_neg hv]; simp only [hg]
      rw [hst] at ih ⊢
      have hm1 : wr .i64 (m + 1) = m + 1 := wr_i (by omega) (by simp at hl; omega)
      simp only [hv0, hv1, decide_false, Bool.false_eq_true, if_false, Option.bind_some, hidx, evening_check_j3]
      cases htw : tw <;> cases hse : seen[v.toNat]'hlt <;> simp only [htw, hse, Bool.false_eq_true, if_false, if_true, Option.bind_some, Bool.not_true, Bool.not_false, hidx, hm1, Bool.or_true, Bool.or_false] at ih ⊢ <;> exact ih
theorem shape_j (sizes : List Int) (ev : List (List Int)) (t : List Int) (i : Nat) (hs : (sizes.length : Int) > 0 → i < sizes.length) {β : Type} (b : β) : (if ((t.length : Int) == 0) = true then some (b, true) else if (decide ((sizes.length : Int) > 0)) = true then (idx sizes i).bind fun v12 => some (b, ((t.length : Int) != v12)) else some (b, false)) = some (b, ((t.length : Int) == 0) || (decide ((sizes.length : Int) > 0) && (match idx sizes i with | some v => ((t.length : Int) != v) | none => false))) := by
  cases h1 : ((t.length : Int) == 0) with
  | true => simp
  | false =>
    by_cases h2 : (sizes.length : Int) > 0
    · have := hs h2
      rw [idx_lt this]
      have h3 : 0 < sizes.length := by omega
      simp [h3]
    · have h3 : ¬ 0 < sizes.length := by omega
      simp [h3]
theorem check_1 (n : Int) (sizes : List Int) (ev : List (List Int)) (hn0 : 0 ≤ n) (hl : ev.length ≤ 50000) (hsz : (sizes.length : Int) > 0 → sizes.length = ev.length) : ∀ (r pre : List (List Int)) (s : CSt) (f : Nat), ev = pre ++ r → r.length < f → s.2.2.2.length = n.toNat → 0 ≤ s.1 → s.1 + r.flatten.length ≤ 50000 → evening_check_1 n sizes ev f s.1 s.2.1 s.2.2.1 s.2.2.2 pre.length = some (if sbad sizes r pre.length then .inr 2 else let q := r.flatten.foldl (stepC n) s; .inl (q.1, q.2.1, q.2.2.1))
  | [], pre, s, f + 1, h, _, _, _, _ => by
    subst h
    unfold evening_check_1
    rw [nlt_len]
    rfl
  | t :: r, pre, s, f + 1, h, hf, hs, h0, h1 => by
    obtain ⟨m, tw, un, seen⟩ := s
    simp only at hs h0 h1 ⊢
    subst h
    unfold evening_check_1
    rw [if_pos (lt_len pre t r), idx_app]
    simp only [Option.bind_some]
    rw [shape_j sizes (pre ++ t :: r) t pre.length (fun h => by rw [hsz h]; simp)]
    simp only [Option.bind_some]
    simp only [List.flatten_cons, List.length_append] at h1
    cases hb : (((t.length : Int) == 0) || (decide ((sizes.length : Int) > 0) && (match idx sizes (pre.length : Int) with | some v => ((t.length : Int) != v) | none => false))) with
    | true =>
      simp only [sbad, hb, Bool.true_or, if_true]
    | false =>
      simp only [sbad, hb, Bool.false_or, Bool.false_eq_true, if_false]
      have h2 := check_2 n sizes (pre ++ t :: r) pre.length hn0 t [] (m, tw, un, seen) 100000 t rfl (by omega) (by omega) hs h0 (by simp; omega)
      rw [show ((([] : List Int).length : Nat) : Int) = 0 from rfl] at h2
      simp only at h2
      rw [h2]
      simp only [Option.bind_some]
      have hfold : ∀ (l : List Int) (s : CSt), (l.foldl (stepC n) s).2.2.2.length = s.2.2.2.length ∧ (l.foldl (stepC n) s).1 ≤ s.1 + l.length ∧ s.1 ≤ (l.foldl (stepC n) s).1 := by
        intro l
        induction l with
        | nil => intro s; simp
        | cons a l ih =>
          intro s
          obtain ⟨a1, a2, a3⟩ := ih (stepC n s a)
          have := stepC_le n s a
          rw [List.foldl_cons]
          refine ⟨a1.trans (stepC_len n s a), ?_, ?_⟩
          · simp; omega
          · omega
      obtain ⟨a1, a2, a3⟩ := hfold t (m, tw, un, seen)
      simp only at a1 a2 a3
      rw [wr_snoc pre t r (by omega), check_1 n sizes (pre ++ t :: r) hn0 hl hsz r (pre ++ [t]) (t.foldl (stepC n) (m, tw, un, seen)) f (by simp) (by simp at hf; omega) (by omega) (by omega) (by omega)]
      rw [← snoc_len]
      simp only [List.flatten_cons, List.foldl_append]
end Go.Proofs.YthofgamegondnaaDoor

namespace Go.Proofs.YthofgamegondnaaDoor
open Go.RowKit
def badV (n v : Int) : Bool := decide (v < 0 ∨ v ≥ n)
theorem un_eq (n : Int) : ∀ (L : List Int) (s : CSt), (L.foldl (stepC n) s).2.2.1 = (s.2.2.1 || L.any (badV n))
  | [], s => by simp
  | v :: L, s => by
    rw [List.foldl_cons, un_eq n L, List.any_cons]
    by_cases hv : v < 0 ∨ v ≥ n
    · have hb : badV n v = true := by simp only [badV, decide_eq_true_eq]; exact hv
      have hs : (stepC n s v).2.2.1 = true := by unfold stepC; rw [if_pos hv]
      rw [hb, hs]; simp
    · have hb : badV n v = false := by simp only [badV, decide_eq_false_iff_not]; exact hv
      have hs : (stepC n s v).2.2.1 = s.2.2.1 := by unfold stepC; rw [if_neg hv]
      rw [hb, hs]; simp
structure InvC (N : Nat) (P : List Int) (s : CSt) : Prop where
  len : s.2.2.2.length = N
  seen : ∀ k, k < N → s.2.2.2[k]?.getD false = decide ((k : Int) ∈ P)
  tw : s.2.1 = true ↔ ∃ x, 2 ≤ P.count x
  many : s.1 = (s.2.2.2.count true : Int)
theorem count_set : ∀ (l : List Bool) (k : Nat), k < l.length → ((l.set k true).count true : Int) = l.count true + (if l[k]?.getD false then 0 else 1)
  | [], k, h => by simp at h
  | b :: l, 0, _ => by cases b <;> simp
  | b :: l, k + 1, h => by
    have := count_set l k (by simpa using h)
    simp only [List.set_cons_succ, List.getElem?_cons_succ]
    cases b
    · simpa using this
    · simp only [List.count_cons_self]; push_cast; omega
theorem InvC.step {n : Int} {P : List Int} {s : CSt} (i : InvC n.toNat P s) {v : Int} (h0 : 0 ≤ v) (h1 : v < n) : InvC n.toNat (P ++ [v]) (stepC n s v) := by
  obtain ⟨m, tw, un, seen⟩ := s
  obtain ⟨i1, i2, i3, i4⟩ := i
  simp only at i1 i2 i3 i4
  have hst : stepC n (m, tw, un, seen) v = ((if seen[v.toNat]?.getD false then m else m + 1), tw || seen[v.toNat]?.getD false, un, seen.set v.toNat true) := by
    unfold stepC; rw [if_neg (by omega)]
  have hlt : v.toNat < seen.length := by clear i3; omega
  have hv := i2 v.toNat (by clear i3; omega)
  have hvv : ((v.toNat : Nat) : Int) = v := by clear i3; omega
  rw [hvv] at hv
  rw [hst]
  refine ⟨by simpa using i1, fun k hk => ?_, ?_, ?_⟩
  · simp only [List.getElem?_set]
    by_cases hkv : v.toNat = k
    · subst hkv
      simp [hlt, hvv]
    · rw [if_neg hkv, i2 k hk]
      have : ¬ (k : Int) = v := by clear i3; omega
      simp [this]
  · simp only [Bool.or_eq_true, i3, hv, decide_eq_true_eq]
    clear i3 i4
    constructor
    · rintro (⟨x, hx⟩ | hm)
      · exact ⟨x, by rw [List.count_append]; omega⟩
      · exact ⟨v, by rw [List.count_append]; have := List.count_pos_iff.2 hm; have e : [v].count v = 1 := (by simp); omega⟩
    · rintro ⟨x, hx⟩
      rw [List.count_append] at hx
      by_cases hxv : v = x
      · subst hxv
        have e : [v].count v = 1 := by simp
        rw [e] at hx
        exact .inr (List.count_pos_iff.1 (by omega))
      · rw [List.count_cons_of_ne hxv] at hx
        exact .inl ⟨x, by simpa using hx⟩
  · simp only
    rw [count_set seen v.toNat hlt, i4]
    split <;> simp
theorem inv_all {n : Int} : ∀ (L P : List Int) (s : CSt), InvC n.toNat P s → (∀ v ∈ L, 0 ≤ v ∧ v < n) → InvC n.toNat (P ++ L) (L.foldl (stepC n) s)
  | [], P, s, h, _ => by simpa using h
  | v :: L, P, s, h, hv => by
    obtain ⟨h0, h1⟩ := hv v (by simp)
    have := inv_all L (P ++ [v]) (stepC n s v) (h.step h0 h1) fun w hw => hv w (by simp [hw])
    simpa using this
theorem inv_0 (N : Nat) : InvC N [] (0, false, false, List.replicate N false) := by
  refine ⟨by simp, fun k hk => by simp [hk], by simp, ?_⟩
  simp [List.count_replicate]
theorem count_true_lt : ∀ (l : List Bool), l.count true ≤ l.length ∧ (l.count true < l.length ↔ ∃ k, k < l.length ∧ l[k]?.getD false = false)
  | [] => by simp
  | b :: l => by
    obtain ⟨h1, h2⟩ := count_true_lt l
    cases b with
    | false =>
      refine ⟨by simp; omega, ?_⟩
      simp only [List.count_cons_of_ne (show (false : Bool) ≠ true by decide), List.length_cons]
      exact ⟨fun _ => ⟨0, by omega, rfl⟩, fun _ => by omega⟩
    | true =>
      refine ⟨by simp; omega, ?_⟩
      simp only [List.count_cons_self, List.length_cons, Nat.add_lt_add_iff_right, h2]
      constructor
      · rintro ⟨k, a, b⟩; exact ⟨k + 1, by omega, by simpa using b⟩
      · rintro ⟨k, a, b⟩
        cases k with
        | zero => simp at b
        | succ k => exact ⟨k, by omega, by simpa using b⟩
/-- Some number of a stretch. -/
def anyN (p : Int → Bool) : Nat → Int → Bool
  | 0, _ => false
  | k + 1, i => p i || anyN p k (i + 1)
theorem anyN_iff (p : Int → Bool) : ∀ (k : Nat) (i : Int), anyN p k i = true ↔ ∃ x, i ≤ x ∧ x < i + k ∧ p x = true
  | 0, i => by simp [anyN]; intro x h1 h2; omega
  | k + 1, i => by
    simp only [anyN, Bool.or_eq_true, anyN_iff p k]
    constructor
    · rintro (h | ⟨x, h1, h2, h3⟩)
      · exact ⟨i, by omega, by omega, h⟩
      · exact ⟨x, by omega, by omega, h3⟩
    · rintro ⟨x, h1, h2, h3⟩
      by_cases hx : x = i
      · subst hx; exact .inl h3
      · exact .inr ⟨x, by omega, by omega, h3⟩
/-- What an evening's check answers. -/
def chk (n : Int) (sizes : List Int) (ev : List (List Int)) : Int :=
  if (decide ((sizes.length : Int) > 0) && ((sizes.length : Int) != (ev.length : Int))) = true then 2 else
  if sbad sizes ev 0 then 2 else
  if ev.flatten.any (badV n) then 6 else
  if anyN (fun x => decide ((ev.flatten.count x : Int) > 1)) n.toNat 0 then 5 else
  if anyN (fun x => ((ev.flatten.count x : Int) == 0)) n.toNat 0 then 2 else 0
theorem evening_check_eq (n : Int) (hn0 : 0 ≤ n) (hn : n ≤ 64) (sizes : List Int) (ev : List (List Int)) (hl : ev.length ≤ 50000) (hf : ev.flatten.length ≤ 50000) : evening_check n sizes ev = some (chk n sizes ev) := by
  unfold evening_check chk
  by_cases hs : (decide ((sizes.length : Int) > 0) && ((sizes.length : Int) != (ev.length : Int))) = true
  · rw [if_pos hs]
    simp only [Bool.and_eq_true, decide_eq_true_eq] at hs
    rw [if_pos (by simpa using hs.1)]
    simp only [Option.bind_some, hs.2, if_true]
  · rw [if_neg hs]
    have hsz : (sizes.length : Int) > 0 → sizes.length = ev.length := fun h => by
      simp only [Bool.and_eq_true, decide_eq_true_eq, not_and, Bool.not_eq_true, bne_eq_false_iff_eq] at hs
      have := hs h; omega
    have e1 : (if (decide ((sizes.length : Int) > 0)) = true then some ((sizes.length : Int) != (ev.length : Int)) else some false) = some false := by
      by_cases h : (sizes.length : Int) > 0
      · have := hsz h; simp [this]
      · have h' : ¬ 0 < sizes.length := by omega
        simp [h']
    rw [e1]
    simp only [Option.bind_some, Bool.false_eq_true, if_false]
    have hmk : mkOk 1 n = true := by
      simp only [mkOk, Bool.and_eq_true, decide_eq_true_eq]; omega
    rw [if_pos hmk]
    have h1 := check_1 n sizes ev hn0 hl hsz ev [] (0, false, false, List.replicate n.toNat false) 100000 rfl (by omega) (by simp) (by simp) (by simp only; omega)
    rw [show ((([] : List (List Int)).length : Nat) : Int) = 0 from rfl] at h1
    simp only at h1
    rw [h1]
    simp only [Option.bind_some]
    cases hb : sbad sizes ev 0 with
    | true => simp
    | false =>
      simp only [Bool.false_eq_true, if_false]
      rw [un_eq]
      simp only [Bool.false_or]
      cases hu : ev.flatten.any (badV n) with
      | true => simp
      | false =>
        simp only [Bool.false_eq_true, if_false]
        have hval : ∀ v ∈ ev.flatten, 0 ≤ v ∧ v < n := fun v hv => by
          have := List.any_eq_false.1 hu v hv
          simp only [badV, decide_eq_true_eq] at this
          omega
        obtain ⟨j1, j2, j3, j4⟩ := inv_all ev.flatten [] _ (inv_0 n.toNat) hval
        rw [List.nil_append] at j2 j3
        generalize ev.flatten.foldl (stepC n) (0, false, false, List.replicate n.toNat false) = q at *
        have t1 : q.2.1 = anyN (fun x => decide ((ev.flatten.count x : Int) > 1)) n.toNat 0 := by
          rw [Bool.eq_iff_iff, j3, anyN_iff]
          constructor
          · rintro ⟨x, hx⟩
            have := hval x (List.count_pos_iff.1 (by omega))
            exact ⟨x, by omega, by omega, by simp; omega⟩
          · rintro ⟨x, _, _, hx⟩
            simp at hx
            exact ⟨x, by omega⟩
        have t2 : decide (q.1 < n) = anyN (fun x => ((ev.flatten.count x : Int) == 0)) n.toNat 0 := by
          rw [Bool.eq_iff_iff, anyN_iff, decide_eq_true_eq, j4]
          have hc := count_true_lt q.2.2.2
          rw [j1] at hc
          constructor
          · intro h
            obtain ⟨k, k1, k2⟩ := hc.2.1 (by omega)
            rw [j2 k k1] at k2
            have hm : ¬ (k : Int) ∈ ev.flatten := by simpa using k2
            exact ⟨k, by omega, by omega, by rw [List.count_eq_zero.2 hm]; rfl⟩
          · rintro ⟨x, h1, h2, h3⟩
            have h3 : ev.flatten.count x = 0 := by simpa using h3
            have hm := List.count_eq_zero.1 h3
            have := hc.2.2 ⟨x.toNat, by omega, by rw [j2 _ (by omega), show ((x.toNat : Nat) : Int) = x by omega]; simpa using hm⟩
            omega
        rw [t1, t2]
        cases anyN (fun x => decide ((ev.flatten.count x : Int) > 1)) n.toNat 0 <;> cases anyN (fun x => ((ev.flatten.count x : Int) == 0)) n.toNat 0 <;> simp
theorem shape_r (sizes : List Int) (t : List Int) (i : Nat) (hs : (sizes.length : Int) > 0 → i < sizes.length) : (if ((t.length : Int) == 0) = true then some true else if (decide ((sizes.length : Int) > 0)) = true then (idx sizes i).bind fun v7 => some (v7 != (t.length : Int)) else some false) = some (((t.length : Int) == 0) || (decide ((sizes.length : Int) > 0) && (match idx sizes i with | some v => ((t.length : Int) != v) | none => false))) := by
  cases h1 : ((t.length : Int) == 0) with
  | true => simp
  | false =>
    by_cases h2 : (sizes.length : Int) > 0
    · have := hs h2
      rw [idx_lt this]
      have h3 : 0 < sizes.length := by omega
      simp [h3, bne_comm]
    · have h3 : ¬ 0 < sizes.length := by omega
      simp [h3]
theorem or_if {c : Int} (X Y : Bool) : (if X = true then some (Sum.inr c) else some (if Y = true then Sum.inr c else Sum.inl ())) = some (if (X || Y) = true then Sum.inr c else Sum.inl ()) := by
  cases X <;> simp
theorem rCheck_1 (n : Int) (sizes : List Int) (ev : List (List Int)) (hl : ev.length ≤ 50000) (hsz : (sizes.length : Int) > 0 → sizes.length = ev.length) : ∀ (r pre : List (List Int)) (f : Nat), ev = pre ++ r → r.length < f → ref09_CheckEvening_1 n sizes ev f pre.length = some (if sbad sizes r pre.length then .inr 2 else .inl ())
  | [], pre, f + 1, h, _ => by
    subst h
    unfold ref09_CheckEvening_1
    rw [nlt_len]
    rfl
  | t :: r, pre, f + 1, h, hf => by
    have ih := rCheck_1 n sizes ev hl hsz r (pre ++ [t]) f (by rw [h]; simp) (by simp at hf; omega)
    subst h
    unfold ref09_CheckEvening_1
    rw [if_pos (lt_len pre t r), idx_app]
    simp only [Option.bind_some]
    rw [wr_snoc pre t r (by omega), ih, ← snoc_len, shape_r sizes t pre.length (fun h => by rw [hsz h]; simp)]
    simp only [Option.bind_some, sbad]
    exact or_if _ _
theorem rCheck_3 (n : Int) (ev : List (List Int)) (c : Int) (t : List Int) (ht : idx ev c = some t) (hl : t.length ≤ 50000) : ∀ (r pre : List Int) (f : Nat), t = pre ++ r → r.length < f → ref09_CheckEvening_3 n ev c f pre.length = some (if r.any (badV n) then .inr 6 else .inl ())
  | [], pre, f + 1, h, _ => by
    unfold ref09_CheckEvening_3
    rw [ht]
    subst h
    simp only [Option.bind_some]
    rw [nlt_len]
    rfl
  | v :: r, pre, f + 1, h, hf => by
    have ih := rCheck_3 n ev c t ht hl r (pre ++ [v]) f (by rw [h]; simp) (by simp at hf; omega)
    unfold ref09_CheckEvening_3
    rw [ht]
    subst h
    simp only [Option.bind_some]
    rw [if_pos (lt_len pre v r), idx_app]
    simp only [Option.bind_some]
    rw [wr_snoc pre v r (by omega), ih]
    simp only [List.any_cons, badV]
    by_cases h1 : v < 0
    · simp [h1]
    · by_cases h2 : v ≥ n
      · simp [h1, h2]
      · simp [h1, h2]
theorem rCheck_2 (n : Int) (ev : List (List Int)) (hl : ev.length ≤ 50000) (hm : ∀ t ∈ ev, t.length ≤ 50000) : ∀ (r pre : List (List Int)) (f : Nat), ev = pre ++ r → r.length < f → ref09_CheckEvening_2 n ev f pre.length = some (if r.flatten.any (badV n) then .inr 6 else .inl ())
  | [], pre, f + 1, h, _ => by
    subst h
    unfold ref09_CheckEvening_2
    rw [nlt_len]
    rfl
  | t :: r, pre, f + 1, h, hf => by
    have ih := rCheck_2 n ev hl hm r (pre ++ [t]) f (by rw [h]; simp) (by simp at hf; omega)
    have ht := hm t (by rw [h]; simp)
    subst h
    unfold ref09_CheckEvening_2
    rw [if_pos (lt_len pre t r)]
    have h3 := rCheck_3 n (pre ++ t :: r) pre.length t (idx_app pre t r) ht t [] 100000 rfl (by omega)
    rw [show ((([] : List Int).length : Nat) : Int) = 0 from rfl] at h3
    rw [h3]
    simp only [Option.bind_some, List.flatten_cons, List.any_append]
    cases t.any (badV n) with
    | true => simp
    | false =>
      simp only [Bool.false_eq_true, if_false, Bool.false_or]
      rw [wr_snoc pre t r (by omega), ih]
theorem rCheck_45 (n : Int) (hn : n ≤ 64) (ev : List (List Int)) (hl : ev.length ≤ 50000) (hf : ev.flatten.length ≤ 50000) :
    (∀ (k : Nat) (i : Int) (f : Nat), (k : Int) = n - i → 0 ≤ i → k < f → ref09_CheckEvening_4 n ev f i = some (if anyN (fun x => decide ((ev.flatten.count x : Int) > 1)) k i then .inr 5 else .inl ())) ∧
    (∀ (k : Nat) (i : Int) (f : Nat), (k : Int) = n - i → 0 ≤ i → k < f → ref09_CheckEvening_5 n ev f i = some (if anyN (fun x => ((ev.flatten.count x : Int) == 0)) k i then .inr 2 else .inl ())) := by
  constructor
  · intro k
    induction k with
    | zero =>
      intro i f hk hi hf'
      obtain ⟨f, rfl⟩ : ∃ g, f = g + 1 := ⟨f - 1, by omega⟩
      unfold ref09_CheckEvening_4
      rw [if_neg (by simp; omega)]
      rfl
    | succ k ih =>
      intro i f hk hi hf'
      obtain ⟨f, rfl⟩ : ∃ g, f = g + 1 := ⟨f - 1, by omega⟩
      unfold ref09_CheckEvening_4
      rw [if_pos (by simp; omega), times_eq ev i hl hf]
      simp only [Option.bind_some, anyN]
      rw [wr_i (by omega) (by omega), ih (i + 1) f (by omega) (by omega) (by omega)]
      exact or_if _ _
  · intro k
    induction k with
    | zero =>
      intro i f hk hi hf'
      obtain ⟨f, rfl⟩ : ∃ g, f = g + 1 := ⟨f - 1, by omega⟩
      unfold ref09_CheckEvening_5
      rw [if_neg (by simp; omega)]
      rfl
    | succ k ih =>
      intro i f hk hi hf'
      obtain ⟨f, rfl⟩ : ∃ g, f = g + 1 := ⟨f - 1, by omega⟩
      unfold ref09_CheckEvening_5
      rw [if_pos (by simp; omega), times_eq ev i hl hf]
      simp only [Option.bind_some, anyN]
      rw [wr_i (by omega) (by omega), ih (i + 1) f (by omega) (by omega) (by omega)]
      exact or_if _ _
theorem ref09_CheckEvening_eq (n : Int) (hn0 : 0 ≤ n) (hn : n ≤ 64) (sizes : List Int) (ev : List (List Int)) (hl : ev.length ≤ 50000) (hf : ev.flatten.length ≤ 50000) : ref09_CheckEvening n sizes ev = some (chk n sizes ev) := by
  unfold ref09_CheckEvening chk
  by_cases hs : (decide ((sizes.length : Int) > 0) && ((sizes.length : Int) != (ev.length : Int))) = true
  · rw [if_pos hs]
    simp only [Bool.and_eq_true, decide_eq_true_eq] at hs
    rw [if_pos (by simpa using hs.1)]
    simp only [Option.bind_some, hs.2, if_true]
  · rw [if_neg hs]
    have hsz : (sizes.length : Int) > 0 → sizes.length = ev.length := fun h => by
      simp only [Bool.and_eq_true, decide_eq_true_eq, not_and, Bool.not_eq_true, bne_eq_false_iff_eq] at hs
      have := hs h; omega
    have e1 : (if (decide ((sizes.length : Int) > 0)) = true then some ((sizes.length : Int) != (ev.length : Int)) else some false) = some false := by
      by_cases h : (sizes.length : Int) > 0
      · have := hsz h; simp [this]
      · have h' : ¬ 0 < sizes.length := by omega
        simp [h']
    rw [e1]
    simp only [Option.bind_some, Bool.false_eq_true, if_false]
    have hm : ∀ t ∈ ev, t.length ≤ 50000 := fun t ht => by
      have := len_mem ht; omega
    have h1 := rCheck_1 n sizes ev hl hsz ev [] 100000 rfl (by omega)
    have h2 := rCheck_2 n ev hl hm ev [] 100000 rfl (by omega)
    rw [show ((([] : List (List Int)).length : Nat) : Int) = 0 from rfl] at h1 h2
    obtain ⟨h4, h5⟩ := rCheck_45 n hn ev hl hf
    have h4 := h4 n.toNat 0 100000 (by omega) (by omega) (by omega)
    have h5 := h5 n.toNat 0 100000 (by omega) (by omega) (by omega)
    rw [h1]
    simp only [Option.bind_some]
    cases sbad sizes ev 0 with
    | true => simp
    | false =>
      simp only [Bool.false_eq_true, if_false]
      rw [h2]
      simp only [Option.bind_some]
      cases ev.flatten.any (badV n) with
      | true => simp
      | false =>
        simp only [Bool.false_eq_true, if_false]
        rw [h4]
        simp only [Option.bind_some]
        cases anyN (fun x => decide ((ev.flatten.count x : Int) > 1)) n.toNat 0 with
        | true => simp
        | false =>
          simp only [Bool.false_eq_true, if_false]
          rw [h5]
          simp only [Option.bind_some]
          cases anyN (fun x => ((ev.flatten.count x : Int) == 0)) n.toNat 0 <;> simp
end Go.Proofs.YthofgamegondnaaDoor

namespace Go.Proofs.YthofgamegondnaaDoor
open Go.RowKit
/-- The schedule's check, told by that of its evenings. -/
def chkS (n : Int) (sizes : List Int) : List (List (List Int)) → Int → Int × Int
  | [], _ => (0, 0)
  | ev :: r, i => if chk n sizes ev != 0 then (i, chk n sizes ev) else chkS n sizes r (i + 1)
def chkAll (n : Int) (sizes : List Int) (s : List (List (List Int))) : Int × Int :=
  if (decide (n < 1) || decide (n > 64) || (decide ((sizes.length : Int) > 0) && !fitP n sizes)) = true then (0, 90) else if s.length > 64 then (0, 7) else chkS n sizes s 0
theorem check_loop (n : Int) (hn0 : 0 ≤ n) (hn : n ≤ 64) (sizes : List Int) (s : List (List (List Int))) (hs : s.length ≤ 50000) (hl : ∀ ev ∈ s, ev.length ≤ 50000 ∧ ev.flatten.length ≤ 50000) : ∀ (r pre : List (List (List Int))) (f : Nat), s = pre ++ r → r.length < f →
    (∃ q, evening_Check_1 n sizes s f pre.length = some q ∧ ref09_Check_1 n sizes s f pre.length = some q ∧ (match q with | .inl _ => chkS n sizes r pre.length = (0, 0) | .inr w => chkS n sizes r pre.length = w))
  | [], pre, f + 1, h, _ => by
    subst h
    refine ⟨.inl (), ?_, ?_, rfl⟩
    · unfold evening_Check_1; rw [nlt_len]; rfl
    · unfold ref09_Check_1; rw [nlt_len]; rfl
  | ev :: r, pre, f + 1, h, hf => by
    obtain ⟨h1, h2⟩ := hl ev (by rw [h]; simp)
    obtain ⟨q, a1, a2, a3⟩ := check_loop n hn0 hn sizes s hs hl r (pre ++ [ev]) f (by rw [h]; simp) (by simp at hf; omega)
    have e1 := evening_check_eq n hn0 hn sizes ev h1 h2
    have e2 := ref09_CheckEvening_eq n hn0 hn sizes ev h1 h2
    rw [← snoc_len] at a3
    cases hc : (chk n sizes ev != 0) with
    | true =>
      refine ⟨.inr ((pre.length : Int), chk n sizes ev), ?_, ?_, by simp [chkS, hc]⟩
      · subst h
        unfold evening_Check_1
        rw [if_pos (lt_len pre ev r), idx_app]
        simp only [Option.bind_some]
        rw [e1]
        simp only [Option.bind_some, hc, if_true]
      · subst h
        unfold ref09_Check_1
        rw [if_pos (lt_len pre ev r), idx_app]
        simp only [Option.bind_some]
        rw [e2]
        simp only [Option.bind_some, hc, if_true]
    | false =>
      refine ⟨q, ?_, ?_, ?_⟩
      · subst h
        unfold evening_Check_1
        rw [if_pos (lt_len pre ev r), idx_app]
        simp only [Option.bind_some]
        rw [e1]
        simp only [Option.bind_some, hc, Bool.false_eq_true, if_false]
        rw [wr_snoc pre ev r (by omega)]
        exact a1
      · subst h
        unfold ref09_Check_1
        rw [if_pos (lt_len pre ev r), idx_app]
        simp only [Option.bind_some]
        rw [e2]
        simp only [Option.bind_some, hc, Bool.false_eq_true, if_false]
        rw [wr_snoc pre ev r (by omega)]
        exact a2
      · simp only [chkS, hc, Bool.false_eq_true, if_false]
        exact a3
theorem check_both (n : Int) (hn : in64 n) (sizes : List Int) (hsz : sizes.length ≤ 1000) (s : List (List (List Int))) (hs : s.length ≤ 50000) (hl : ∀ ev ∈ s, ev.length ≤ 50000 ∧ ev.flatten.length ≤ 50000) : evening_Check n sizes s = some (chkAll n sizes s) ∧ ref09_Check n sizes s = some (chkAll n sizes s) := by
  have hg : evening_guests n = some (decide (1 ≤ n) && decide (n ≤ 64)) := by
    unfold evening_guests
    by_cases h : 1 ≤ n
    · simp [h]
    · simp [h]
  unfold evening_Check ref09_Check chkAll
  rw [hg, evening_fit_eq n hn sizes hsz, ref09_Fit_eq n sizes hsz]
  simp only [Option.bind_some]
  by_cases h1 : n < 1
  · have h1' : ¬ 1 ≤ n := by omega
    simp [h1, h1']
  · by_cases h2 : n > 64
    · have h2' : ¬ n ≤ 64 := by omega
      simp [h1, h2, h2']
    · have h1' : 1 ≤ n := by omega
      have h2' : n ≤ 64 := by omega
      simp only [h1, h2, h1', h2', decide_true, decide_false, Bool.and_self, Bool.not_true, Bool.false_eq_true, if_false, Bool.false_or]
      by_cases h3 : (sizes.length : Int) > 0
      · cases hf : fitP n sizes with
        | false =>
          have h3' : 0 < sizes.length := by omega
          simp [h3']
        | true =>
          simp only [h3, decide_true, if_true, Bool.not_true, Option.bind_some, Bool.and_false, Bool.false_eq_true, if_false]
          by_cases h4 : s.length > 64
          · have h4' : decide ((s.length : Int) > 64) = true := by simp; omega
            simp only [h4', h4, if_true, and_self]
          · have h4' : decide ((s.length : Int) > 64) = false := by simp; omega
            simp only [h4', h4, if_false, Bool.false_eq_true]
            obtain ⟨q, a1, a2, a3⟩ := check_loop n (by omega) h2' sizes s hs hl s [] 100000 rfl (by omega)
            rw [show ((([] : List (List (List Int))).length : Nat) : Int) = 0 from rfl] at a1 a2 a3
            rw [a1, a2]
            cases q with
            | inl w => simp only at a3; simp [a3]
            | inr w => simp only at a3; simp [a3]
      · simp only [h3, decide_false, Bool.false_eq_true, if_false, Option.bind_some, Bool.false_and]
        by_cases h4 : s.length > 64
        · have h4' : decide ((s.length : Int) > 64) = true := by simp; omega
          simp only [h4', h4, if_true, and_self]
        · have h4' : decide ((s.length : Int) > 64) = false := by simp; omega
          simp only [h4', h4, if_false, Bool.false_eq_true]
          obtain ⟨q, a1, a2, a3⟩ := check_loop n (by omega) h2' sizes s hs hl s [] 100000 rfl (by omega)
          rw [show ((([] : List (List (List Int))).length : Nat) : Int) = 0 from rfl] at a1 a2 a3
          rw [a1, a2]
          cases q with
          | inl w => simp only at a3; simp [a3]
          | inr w => simp only at a3; simp [a3]
end Go.Proofs.YthofgamegondnaaDoor

namespace Go.Proofs.YthofgamegondnaaDoor
open Go.RowKit
def toI1 (t : List Nat) : List Int := t.map Int.ofNat
def toI2 (ev : List (List Nat)) : List (List Int) := ev.map toI1
def toI3 (s : List (List (List Nat))) : List (List (List Int)) := s.map toI2
theorem toI1_len (t : List Nat) : (toI1 t).length = t.length := by simp [toI1]
theorem toI2_len (t : List (List Nat)) : (toI2 t).length = t.length := by simp [toI2]
theorem toI3_len (t : List (List (List Nat))) : (toI3 t).length = t.length := by simp [toI3]
theorem toI2_flat : ∀ (ev : List (List Nat)), (toI2 ev).flatten = toI1 ev.flatten
  | [] => rfl
  | t :: ev => by
    show toI1 t ++ (toI2 ev).flatten = toI1 (t ++ ev.flatten)
    rw [toI2_flat ev]; simp [toI1]
theorem toI1_count (L : List Nat) (x : Nat) : (toI1 L).count (x : Int) = L.count x := by
  induction L with
  | nil => rfl
  | cons v L ih =>
    show (Int.ofNat v :: toI1 L).count (x : Int) = _
    rw [List.count_cons, List.count_cons, ih]
    congr 1
    by_cases h : v = x
    · subst h; simp
    · have : ¬ (Int.ofNat v) = (x : Int) := fun e => h (Int.ofNat.inj e)
      simp [h]
      omega
theorem sbad_ok : ∀ (r : List (List Int)) (pre : List Int) (sz : List Int), (sz = [] ∨ sz = pre ++ r.map (fun t => (t.length : Int))) → (∀ t ∈ r, t.length ≠ 0) → sbad sz r pre.length = false
  | [], _, _, _, _ => rfl
  | t :: r, pre, sz, h, hne => by
    have h0 : ((t.length : Int) == 0) = false := by have := hne t (by simp); simp; intro h; subst h; simp at this
    have ih := sbad_ok r (pre ++ [(t.length : Int)]) sz (h.imp id fun h => by rw [h]; simp) (fun t ht => hne t (by simp [ht]))
    unfold sbad
    rw [h0, Bool.false_or]
    rw [← snoc_len] at ih
    rw [ih, Bool.or_false]
    rcases h with h | h
    · subst h; simp
    · rw [h, List.map_cons, idx_app]; simp
theorem mem_toI1 {L : List Nat} {v : Int} (h : v ∈ toI1 L) : ∃ j ∈ L, v = Int.ofNat j := by
  obtain ⟨j, h1, h2⟩ := List.mem_map.1 h
  exact ⟨j, h1, h2.symm⟩
theorem anyN_false (p : Int → Bool) (k : Nat) (h : ∀ x : Nat, x < k → p x = false) : anyN p k 0 = false := by
  cases e : anyN p k 0 with
  | false => rfl
  | true =>
    obtain ⟨x, h1, h2, h3⟩ := (anyN_iff p k 0).1 e
    have := h x.toNat (by omega)
    rw [show ((x.toNat : Nat) : Int) = x by omega, h3] at this
    cases this
theorem chkS_ok (n : Int) (sz : List Int) : ∀ (s : List (List (List Int))) (i : Int), (∀ ev ∈ s, chk n sz ev = 0) → chkS n sz s i = (0, 0)
  | [], _, _ => rfl
  | ev :: s, i, h => by
    unfold chkS
    rw [h ev (by simp)]
    exact chkS_ok n sz s (i + 1) fun e he => h e (by simp [he])
end Go.Proofs.YthofgamegondnaaDoor

namespace Go.Proofs.YthofgamegondnaaDoor
open Go.RowKit
/- (trestle/evening.square[int]).rows -/
end Go.Proofs.YthofgamegondnaaDoor

namespace Go.Proofs.YthofgamegondnaaDoor
open Go.RowKit
/-- The cells after some counts. -/
def cel (n : Nat) (L : List Nat) : List Int := incs (zeros (n * n)) L
theorem toI1_app (a b : List Nat) : toI1 (a ++ b) = toI1 a ++ toI1 b := by simp [toI1]
theorem idx_toI1 (pre : List Nat) (x : Nat) (r : List Nat) : idx (toI1 (pre ++ x :: r)) (pre.length : Int) = some (x : Int) := by
  rw [toI1_app, ← toI1_len pre]
  exact idx_app _ _ _
theorem idx_toI2 (pre : List (List Nat)) (x : List Nat) (r : List (List Nat)) : idx (toI2 (pre ++ x :: r)) (pre.length : Int) = some (toI1 x) := by
  have : toI2 (pre ++ x :: r) = toI2 pre ++ toI1 x :: toI2 r := by simp [toI2]
  rw [this, ← toI2_len pre]
  exact idx_app _ _ _
theorem idx_toI3 (pre : List (List (List Nat))) (x : List (List Nat)) (r : List (List (List Nat))) : idx (toI3 (pre ++ x :: r)) (pre.length : Int) = some (toI2 x) := by
  have : toI3 (pre ++ x :: r) = toI3 pre ++ toI2 x :: toI3 r := by simp [toI3]
  rw [this, ← toI3_len pre]
  exact idx_app _ _ _
theorem wr_nat {k : Nat} (h : k ≤ 1000000000) : wr .i64 ((k : Int) + 1) = ((k + 1 : Nat) : Int) := by
  rw [wr_i (by omega) (by omega)]; simp
theorem len_flat {ev : List (List Nat)} (h : ∀ t ∈ ev, t.length ≠ 0) : ev.length ≤ ev.flatten.length := by
  induction ev with
  | nil => simp
  | cons t ev ih =>
    have := ih fun u hu => h u (by simp [hu])
    have := h t (by simp)
    simp only [List.flatten_cons, List.length_append, List.length_cons]; omega
end Go.Proofs.YthofgamegondnaaDoor

namespace Go.Proofs.YthofgamegondnaaDoor
open Go.RowKit
/-- An evening of these sizes, everybody once. -/
structure Evn (n : Nat) (sz : List Nat) (ev : List (List Nat)) : Prop where
  sz_ : ev.map List.length = sz
  ne : ∀ t ∈ ev, t.length ≠ 0
  cnt : ∀ j, ev.flatten.count j = if j < n then 1 else 0
section
variable {n : Nat} {sz : List Nat} {ev : List (List Nat)} {s : List (List (List Nat))}
theorem Evn.flt (h : Evn n sz ev) {j : Nat} (hj : j ∈ ev.flatten) : j < n := by
  have := h.cnt j
  have := List.count_pos_iff.2 hj
  split at * <;> omega
theorem Evn.lt (h : Evn n sz ev) : ∀ t ∈ ev, ∀ x ∈ t, x < n := fun t ht _ hx => h.flt (List.mem_flatten.2 ⟨t, ht, hx⟩)
theorem Evn.len (h : Evn n sz ev) : ev.flatten.length = sz.sum := by rw [List.length_flatten, h.sz_]
theorem chk_evn (h : Evn n sz ev) (zs : List Int) (hs : zs = [] ∨ zs = toI1 sz) : chk n zs (toI2 ev) = 0 := by
  have hz : zs = [] ∨ zs = (toI2 ev).map (fun t => (t.length : Int)) := hs.imp id fun e => by rw [e, ← h.sz_]; simp [toI1, toI2]
  unfold chk
  have h1 : (decide ((zs.length : Int) > 0) && ((zs.length : Int) != ((toI2 ev).length : Int))) = false := by
    rcases hz with h | h
    · subst h; rfl
    · rw [h]; simp
  have h2 : sbad zs (toI2 ev) 0 = false := sbad_ok (toI2 ev) [] zs (by simpa using hz) (fun t ht => by
    obtain ⟨u, hu, rfl⟩ := List.mem_map.1 ht
    rw [toI1_len]; exact h.ne u hu)
  have h3 : (toI2 ev).flatten.any (badV n) = false := by
    rw [toI2_flat]
    refine List.any_eq_false.2 fun v hv => ?_
    obtain ⟨j, hj, rfl⟩ := mem_toI1 hv
    have := h.flt hj
    simp only [badV, decide_eq_true_eq]
    simp
    omega
  have h4 : anyN (fun x => decide (((toI2 ev).flatten.count x : Int) > 1)) (n : Int).toNat 0 = false := anyN_false _ _ fun x hx => by
    rw [toI2_flat, toI1_count, h.cnt]
    simp only [decide_eq_false_iff_not]
    split <;> simp
  have h5 : anyN (fun x => (((toI2 ev).flatten.count x : Int) == 0)) (n : Int).toNat 0 = false := anyN_false _ _ fun x hx => by
    rw [toI2_flat, toI1_count, h.cnt, if_pos (by simpa using hx)]
    rfl
  rw [h1, h2, h3, h4, h5]
  rfl
theorem chkAll_evn (h1 : 1 ≤ n) (h2 : n ≤ 64) (zs : List Int) (hz : zs = [] ∨ (zs = toI1 sz ∧ fitP n zs = true)) (hs : s.length ≤ 64) (hv : ∀ ev ∈ s, Evn n sz ev) : chkAll n zs (toI3 s) = (0, 0) := by
  unfold chkAll
  have e1 : decide ((n : Int) < 1) = false := by simp; omega
  have e2 : decide ((n : Int) > 64) = false := by simp; omega
  have e3 : (decide ((zs.length : Int) > 0) && !fitP n zs) = false := by
    rcases hz with h | h
    · subst h; rfl
    · rw [h.2]; simp
  rw [e1, e2, e3]
  simp only [Bool.or_self, Bool.false_eq_true, if_false]
  rw [if_neg (by rw [toI3_len]; omega)]
  refine chkS_ok n zs (toI3 s) 0 fun ev he => ?_
  obtain ⟨u, hu, rfl⟩ := List.mem_map.1 he
  exact chk_evn (hv u hu) zs (hz.imp id fun h => h.1)
theorem evn_check (h1 : 1 ≤ n) (hn : n ≤ 64) (hs : s.length ≤ 64) (hv : ∀ ev ∈ s, Evn n sz ev) (hsum : sz.sum ≤ 64) (hf : fitP n (toI1 sz) = true) (hzl : sz.length ≤ 64) : evening_Check n (toI1 sz) (toI3 s) = some (0, 0) ∧ evening_valid n (toI3 s) = some true := by
  have hl : ∀ ev ∈ toI3 s, ev.length ≤ 50000 ∧ ev.flatten.length ≤ 50000 := fun ev he => by
    obtain ⟨u, hu, rfl⟩ := List.mem_map.1 he
    have h := hv u hu
    have e : u.flatten.length ≤ 64 := by rw [h.len]; exact hsum
    have := len_flat h.ne
    rw [toI2_len, toI2_flat, toI1_len]
    omega
  have c1 := (check_both n ⟨by omega, by omega⟩ (toI1 sz) (by rw [toI1_len]; omega) (toI3 s) (by rw [toI3_len]; omega) hl).1
  have c2 := (check_both n ⟨by omega, by omega⟩ [] (by simp) (toI3 s) (by rw [toI3_len]; omega) hl).1
  rw [chkAll_evn h1 hn (toI1 sz) (.inr ⟨rfl, hf⟩) hs hv] at c1
  rw [chkAll_evn h1 hn [] (.inl rfl) hs hv] at c2
  refine ⟨c1, ?_⟩
  unfold evening_valid
  rw [c2]
  rfl
end
theorem fit_sum {n : Nat} {sz : List Nat} (h1 : 1 ≤ n) (hn : n ≤ 64) (hp : ∀ k ∈ sz, 1 ≤ k) (hs : sz.sum = n) : fitP n (toI1 sz) = true := by
  have key : ∀ sz : List Nat, sumL (toI1 sz) = ((sz.sum : Nat) : Int) := fun sz => by
    induction sz with
    | nil => rfl
    | cons k sz ih =>
      show (k : Int) + sumL (toI1 sz) = _
      rw [ih, List.sum_cons]; push_cast; rfl
  simp only [fitP, Bool.and_eq_true, decide_eq_true_eq]
  refine ⟨⟨⟨List.all_eq_true.2 fun v hv => ?_, ?_⟩, by omega⟩, by omega⟩
  · obtain ⟨j, hj, rfl⟩ := mem_toI1 hv
    have := hp j hj
    simp; omega
  · rw [key, hs]
end Go.Proofs.YthofgamegondnaaDoor

namespace Go.Proofs.YthofgamegondnaaDoor
open Go.RowKit
def szOf (codes : List Int) : List Nat := (codes.take 8).map fun c => 1 + (c % 6).toNat
theorem cut_0 {α : Type} (xs : List α) (k : Nat) (K : Int) (hK : K = (k : Int)) (h : xs.length ≤ 140737488355328) : cutOk 0 (mnI (xs.length : Int) K) xs.length = true ∧ (xs.take (mnI (xs.length : Int) K).toNat).drop (0 : Int).toNat = xs.take k := by
  subst hK
  have h1 : mnI (xs.length : Int) k = ((min xs.length k : Nat) : Int) := by unfold mnI; split <;> omega
  rw [h1]
  refine ⟨?_, ?_⟩
  · simp only [cutOk, Bool.and_eq_true, decide_eq_true_eq]; omega
  · rw [Int.toNat_natCast]
    show ((xs.take (min xs.length k)).drop 0) = _
    rw [List.drop_zero]
    by_cases hk : k ≤ xs.length
    · rw [Nat.min_eq_right hk]
    · rw [Nat.min_eq_left (by omega), List.take_of_length_le (Nat.le_refl _), List.take_of_length_le (by omega)]
theorem sizes_1 (x0 ys : List Int) (hy : (x0.take (mnI (x0.length : Int) 8).toNat).drop (0 : Int).toNat = ys) (hl : ys.length ≤ 8) (hc : ∀ c ∈ ys, 0 ≤ c ∧ c ≤ 255) : ∀ (r pre : List Int) (f : Nat) (out : List Nat) (m : Nat), ys = pre ++ r → r.length < f → out.length ≤ pre.length → m ≤ 6 * pre.length → law09_Sizes_1 x0 f (toI1 out) m pre.length = some (toI1 (out ++ r.map fun c => 1 + (c % 6).toNat), ((m + (r.map fun c => 1 + (c % 6).toNat).sum : Nat) : Int))
  | [], pre, f + 1, out, m, h, _, _, _ => by
    unfold law09_Sizes_1
    rw [hy, if_neg (by rw [h]; simp)]
    simp
  | c :: r, pre, f + 1, out, m, h, hf, ho, hm => by
    obtain ⟨c0, c1⟩ := hc c (by rw [h]; simp)
    have hp : pre.length < ys.length := by rw [h]; simp
    have e6 : c.tmod 6 = c % 6 := Int.tmod_eq_emod_of_nonneg c0
    have b1 := Int.emod_nonneg c (show (6 : Int) ≠ 0 by decide)
    have b2 := Int.emod_lt_of_pos c (show (0 : Int) < 6 by decide)
    have e : wr .i64 (1 + wr .i64 (c.tmod 6)) = ((1 + (c % 6).toNat : Nat) : Int) := by
      have q : wr .i64 (c % 6) = c % 6 := wr_i (by omega) (by omega)
      rw [e6, q, wr_i (by omega) (by omega)]; omega
    have ih := sizes_1 x0 ys hy hl hc r (pre ++ [c]) f (out ++ [1 + (c % 6).toNat]) (m + (1 + (c % 6).toNat)) (by rw [h]; simp) (by simp at hf; omega) (by simp; omega) (by simp; omega)
    unfold law09_Sizes_1
    rw [hy, if_pos (by rw [h]; simp; omega), show idx ys (pre.length : Int) = some c by rw [h]; exact idx_app pre c r]
    simp only [Option.bind_some]
    rw [if_pos (capOk_le (by omega) (by rw [toI1_len]; omega)), e, wr_nat (by omega), wr_i (n := (m : Int) + _) (by omega) (by omega)]
    have a1 : toI1 out ++ [((1 + (c % 6).toNat : Nat) : Int)] = toI1 (out ++ [1 + (c % 6).toNat]) := by simp [toI1]
    have a2 : (m : Int) + ((1 + (c % 6).toNat : Nat) : Int) = ((m + (1 + (c % 6).toNat) : Nat) : Int) := by push_cast; rfl
    have a3 : ((pre.length + 1 : Nat) : Int) = ((pre ++ [c]).length : Int) := by simp
    rw [a1, a2, a3, ih]
    simp only [List.map_cons, List.sum_cons, List.append_assoc, List.cons_append, List.nil_append]
    rw [Nat.add_assoc]
structure SzOk (sz : List Nat) (n : Nat) : Prop where
  sum : sz.sum = n
  pos : ∀ k ∈ sz, 1 ≤ k
  len : sz.length ≤ 8
  n1 : 1 ≤ n
  n48 : n ≤ 48
theorem sizes_eq (codes : List Int) (hl : codes.length ≤ 140737488355328) (hc : ∀ c ∈ codes, 0 ≤ c ∧ c ≤ 255) : ∃ sz n, law09_Sizes codes = some (toI1 sz, ((n : Nat) : Int)) ∧ SzOk sz n := by
  obtain ⟨k1, k2⟩ := cut_0 codes 8 8 rfl hl
  have hc' : ∀ c ∈ codes.take 8, 0 ≤ c ∧ c ≤ 255 := fun c h => hc c (List.mem_of_mem_take h)
  have hl8 : (codes.take 8).length ≤ 8 := by simp; omega
  have h1 := sizes_1 codes (codes.take 8) k2 hl8 hc' (codes.take 8) [] 100000 [] 0 rfl (by omega) (by simp) (by simp)
  have hpos : ∀ k ∈ szOf codes, 1 ≤ k ∧ k ≤ 6 := fun k hk => by
    obtain ⟨c, hc1, rfl⟩ := List.mem_map.1 hk
    obtain ⟨c0, _⟩ := hc' c hc1
    have b1 := Int.emod_nonneg c (show (6 : Int) ≠ 0 by decide)
    have b2 := Int.emod_lt_of_pos c (show (0 : Int) < 6 by decide)
    omega
  have hsum : ∀ l : List Nat, (∀ k ∈ l, 1 ≤ k ∧ k ≤ 6) → l.sum ≤ 6 * l.length ∧ l.length ≤ l.sum := fun l => by
    induction l with
    | nil => intro _; simp
    | cons k l ih =>
      intro h
      have := ih fun j hj => h j (by simp [hj])
      have := h k (by simp)
      simp only [List.sum_cons, List.length_cons]; omega
  obtain ⟨s1, s2⟩ := hsum _ hpos
  have hlen : (szOf codes).length ≤ 8 := by unfold szOf; rw [List.length_map]; exact hl8
  rw [show toI1 [] = [] from rfl, show ((0 : Nat) : Int) = 0 from rfl, show ((([] : List Int).length : Nat) : Int) = 0 from rfl, List.nil_append, Nat.zero_add] at h1
  unfold law09_Sizes
  rw [if_pos k1, h1]
  simp only [Option.bind_some]
  by_cases h0 : (szOf codes).sum = 0
  · refine ⟨[1], 1, ?_, ⟨rfl, by simp, by simp, by omega, by omega⟩⟩
    have : ((((codes.take 8).map fun c => 1 + (c % 6).toNat).sum : Nat) : Int) = 0 := by
      show (((szOf codes).sum : Nat) : Int) = 0
      rw [h0]; rfl
    rw [this]
    rfl
  · refine ⟨szOf codes, (szOf codes).sum, ?_, ⟨rfl, fun k hk => (hpos k hk).1, hlen, by omega, by omega⟩⟩
    have : ((((codes.take 8).map fun c => 1 + (c % 6).toNat).sum : Nat) : Int) = (((szOf codes).sum : Nat) : Int) := rfl
    rw [this, if_neg (by simpa using h0)]
    rfl
theorem made_1 (x1 : List (List (Int × Int))) (v1 : List Int × Int) (n : Nat) (hv : v1.2 = (n : Int)) (hn : n ≤ 64) : ∀ (k i f : Nat) (c : List Int), i + k = n → k < f → c.length = n → (∀ j, j < i → c[j]? = some (j : Int)) → law09_Made_1 x1 v1 f c i = some (toI1 (List.range n))
  | 0, i, f + 1, c, h, _, hl, hc => by
    unfold law09_Made_1
    rw [if_neg (by rw [hv]; simp; omega)]
    congr 1
    apply List.ext_getElem?
    intro j
    by_cases hj : j < n
    · rw [hc j (by omega)]
      simp [toI1, hj]
    · rw [List.getElem?_eq_none (by omega), List.getElem?_eq_none (by simp [toI1]; omega)]
  | k + 1, i, f + 1, c, h, hf, hl, hc => by
    have ih := made_1 x1 v1 n hv hn k (i + 1) f (c.set i (i : Int)) (by omega) (by omega) (by simpa using hl) (fun j hj => by
      by_cases e : i = j
      · subst e; rw [List.getElem?_set_self (by omega)]
      · rw [List.getElem?_set_ne e]; exact hc j (by omega))
    unfold law09_Made_1
    rw [if_pos (by rw [hv]; simp; omega), idx_lt (show i < c.length by omega)]
    simp only [Option.bind_some]
    rw [wr_nat (by omega), Int.toNat_natCast, ih]
/-- Orders of n guests. -/
structure Ord (n : Nat) (o : List Nat) : Prop where
  len : o.length = n
  perm : o.Perm (List.range n)
theorem made_3 (x1 : List (List (Int × Int))) (v1 : List Int × Int) (c12 : Int) (n : Nat) (hv : v1.2 = (n : Int)) (hn1 : 1 ≤ n) (v14 ys : List (Int × Int)) (hy : (v14.take (mnI (v14.length : Int) 20).toNat).drop (0 : Int).toNat = ys) (hyl : ys.length ≤ 20) (hc : ∀ p ∈ ys, (0 ≤ p.1 ∧ p.1 ≤ 255) ∧ 0 ≤ p.2 ∧ p.2 ≤ 255) (c17 : List (List (List Int))) : ∀ (r pre : List (Int × Int)) (f : Nat) (o : List Nat), ys = pre ++ r → r.length < f → Ord n o → ∃ o', law09_Made_3 x1 v1 c12 v14 f (toI1 o) c17 pre.length = some (toI1 o', c17) ∧ Ord n o'
  | [], pre, f + 1, o, h, _, ho => by
    refine ⟨o, ?_, ho⟩
    unfold law09_Made_3
    rw [hy, if_neg (by rw [h]; simp)]
  | p :: r, pre, f + 1, o, h, hf, ho => by
    obtain ⟨⟨p1, p2⟩, p3, p4⟩ := hc p (by rw [h]; simp)
    have hp : pre.length < ys.length := by rw [h]; simp
    have hn0 : ¬ v1.2 = 0 := by omega
    have ix : ∀ x : Int, 0 ≤ x → x ≤ 255 → ∃ a : Nat, a < n ∧ (wr .i64 x).tmod v1.2 = (a : Int) := fun x h0 h1 => by
      rw [wr_i (by omega) (by omega), hv, Int.tmod_eq_emod_of_nonneg h0]
      have b1 := Int.emod_nonneg x (show (n : Int) ≠ 0 by omega)
      have b2 := Int.emod_lt_of_pos x (show (0 : Int) < n by omega)
      exact ⟨(x % (n : Int)).toNat, by omega, by omega⟩
    obtain ⟨a, ha, ea⟩ := ix p.1 p1 p2
    obtain ⟨b, hb, eb⟩ := ix p.2 p3 p4
    have hla : a < o.length := by rw [ho.len]; exact ha
    have hlb : b < o.length := by rw [ho.len]; exact hb
    have hI : ∀ (l : List Nat) (j : Nat) (hj : j < l.length), idx (toI1 l) (j : Int) = some ((l[j] : Nat) : Int) := fun l j hj => by
      have hj' : j < (toI1 l).length := by rw [toI1_len]; exact hj
      rw [idx_lt hj']
      simp [toI1]
    have hS : ∀ (l : List Nat) (j v : Nat), (toI1 l).set j (v : Int) = toI1 (l.set j v) := fun l j v => by
      simp [toI1, List.map_set]
    have ho' : Ord n ((o.set a o[b]).set b o[a]) := ⟨by simp [ho.len], (List.set_set_perm hla hlb).trans ho.perm⟩
    obtain ⟨o', e1, e2⟩ := made_3 x1 v1 c12 n hv hn1 v14 ys hy hyl hc c17 r (pre ++ [p]) f _ (by rw [h]; simp) (by simp at hf; omega) ho'
    refine ⟨o', ?_, e2⟩
    unfold law09_Made_3
    rw [hy, if_pos (by rw [h]; simp; omega), show idx ys (pre.length : Int) = some p by rw [h]; exact idx_app pre p r]
    simp only [Option.bind_some]
    rw [if_neg hn0, if_neg hn0, ea, eb, hI o b hlb, hI o a hla]
    simp only [Option.bind_some]
    rw [Int.toNat_natCast, hS]
    have hlb' : b < (o.set a o[b]).length := by simpa using hlb
    rw [hI _ b hlb']
    simp only [Option.bind_some]
    rw [Int.toNat_natCast, hS, wr_nat (by omega)]
    have a3 : ((pre.length + 1 : Nat) : Int) = ((pre ++ [p]).length : Int) := by simp
    rw [a3]
    exact e1
/-- The tables of an order, of these sizes. -/
def cutT (o : List Nat) : List Nat → Nat → List (List Nat)
  | [], _ => []
  | k :: sz, i => ((o.take (i + k)).drop i) :: cutT o sz (i + k)
theorem made_4 (x1 : List (List (Int × Int))) (v1 : List Int × Int) (c12 : Int) (r29 : List Int × List (List (List Int))) (o : List Nat) (hr : r29.1 = toI1 o) (sz : List Nat) (hv : v1.1 = toI1 sz) (hsz : ∀ k ∈ sz, 1 ≤ k) (hsl : sz.length ≤ 8) (hol : o.length ≤ 48) : ∀ (r pre : List Nat) (f i : Nat) (out : List (List Nat)), sz = pre ++ r → r.length < f → i + r.sum = o.length → out.length ≤ pre.length → law09_Made_4 x1 v1 c12 r29 f (toI2 out) i pre.length = some (toI2 (out ++ cutT o r i))
  | [], pre, f + 1, i, out, h, _, _, _ => by
    unfold law09_Made_4
    rw [hv, if_neg (by rw [toI1_len, h]; simp)]
    simp [cutT]
  | k :: r, pre, f + 1, i, out, h, hf, hs, ho => by
    have hk := hsz k (by rw [h]; simp)
    have hp : pre.length < sz.length := by rw [h]; simp
    rw [List.sum_cons] at hs
    have ih := made_4 x1 v1 c12 r29 o hr sz hv hsz hsl hol r (pre ++ [k]) f (i + k) (out ++ [(o.take (i + k)).drop i]) (by rw [h]; simp) (by simp at hf; omega) (by omega) (by simp; omega)
    have e1 : wr .i64 ((i : Int) + (k : Int)) = ((i + k : Nat) : Int) := by rw [wr_i (by omega) (by omega)]; simp
    have hpk : Go.Proofs.YthofgamegondnaaDoor.partOk (i : Int) ((i + k : Nat) : Int) (toI1 o).length = true := by
      simp only [partOk, cutOk, Bool.and_eq_true, decide_eq_true_eq, toI1_len]; omega
    have ht : ((toI1 o).take (i + k)).drop i = toI1 ((o.take (i + k)).drop i) := by simp [toI1, List.map_take, List.map_drop]
    unfold law09_Made_4
    rw [hv, if_pos (by rw [toI1_len, h]; simp; omega), show idx (toI1 sz) (pre.length : Int) = some (k : Int) by rw [h]; exact idx_toI1 pre k r]
    simp only [Option.bind_some]
    rw [e1, hr, if_pos hpk, Int.toNat_natCast, Int.toNat_natCast, ht, if_pos (capOk_le (by omega) (by rw [toI1_len, List.length_drop, List.length_take]; omega)), if_pos (capOk_le (by omega) (by rw [toI2_len]; omega)), wr_nat (by omega)]
    have a1 : toI2 out ++ [toI1 ((o.take (i + k)).drop i)] = toI2 (out ++ [(o.take (i + k)).drop i]) := by simp [toI2]
    have a3 : ((pre.length + 1 : Nat) : Int) = ((pre ++ [k]).length : Int) := by simp
    rw [a1, a3, ih]
    simp [cutT]
theorem cutT_evn {o : List Nat} : ∀ (sz : List Nat) (i : Nat), i + sz.sum = o.length → (∀ k ∈ sz, 1 ≤ k) → (cutT o sz i).map List.length = sz ∧ (∀ t ∈ cutT o sz i, t.length ≠ 0) ∧ (cutT o sz i).flatten = o.drop i
  | [], i, h, _ => by
    refine ⟨rfl, fun t ht => by simp [cutT] at ht, ?_⟩
    simp at h
    simp [cutT, h]
  | k :: sz, i, h, hp => by
    rw [List.sum_cons] at h
    obtain ⟨a, b, c⟩ := cutT_evn (o := o) sz (i + k) (by omega) fun j hj => hp j (by simp [hj])
    have hk := hp k (by simp)
    have hl : ((o.take (i + k)).drop i).length = k := by rw [List.length_drop, List.length_take]; omega
    refine ⟨by simp only [cutT, List.map_cons, a, hl], fun t ht => ?_, ?_⟩
    · simp only [cutT] at ht
      rcases List.mem_cons.1 ht with rfl | ht
      · rw [hl]; omega
      · exact b t ht
    · simp only [cutT, List.flatten_cons, c]
      rw [List.drop_take, Nat.add_sub_cancel_left, ← List.drop_drop, List.take_append_drop]
theorem made_2 (x1 : List (List (Int × Int))) (hx1 : ∀ l ∈ x1, l.length ≤ 140737488355328 ∧ ∀ p ∈ l, (0 ≤ p.1 ∧ p.1 ≤ 255) ∧ 0 ≤ p.2 ∧ p.2 ≤ 255) (v1 : List Int × Int) (n : Nat) (sz : List Nat) (hv : v1 = (toI1 sz, (n : Int))) (hs : SzOk sz n) (ys : List (List (Int × Int))) (hy : (x1.take (mnI (x1.length : Int) 10).toNat).drop (0 : Int).toNat = ys) (hyl : ys.length ≤ 10) (hym : ∀ l ∈ ys, l ∈ x1) : ∀ (r pre : List (List (Int × Int))) (f : Nat) (o : List Nat) (out : List (List (List Nat))), ys = pre ++ r → r.length < f → Ord n o → out.length = pre.length → (∀ ev ∈ out, Evn n sz ev) → ∃ out', law09_Made_2 x1 v1 f (toI1 o) (toI3 out) pre.length = some (toI3 out') ∧ (∀ ev ∈ out', Evn n sz ev) ∧ out'.length = ys.length
  | [], pre, f + 1, o, out, h, _, _, hl, hev => by
    refine ⟨out, ?_, hev, by rw [hl, h]; simp⟩
    unfold law09_Made_2
    rw [hy, if_neg (by rw [h]; simp)]
  | l :: r, pre, f + 1, o, out, h, hf, ho, hl, hev => by
    obtain ⟨l1, l2⟩ := hx1 l (hym l (by rw [h]; simp))
    have hp : pre.length < ys.length := by rw [h]; simp
    obtain ⟨k1, k2⟩ := cut_0 l 20 20 rfl l1
    have hn1 := hs.n1
    have hn48 := hs.n48
    have hs8 := hs.len
    obtain ⟨o', e1, e2⟩ := made_3 x1 v1 pre.length n (by rw [hv]) hs.n1 l (l.take 20) k2 (by simp; omega) (fun p hp => l2 p (List.mem_of_mem_take hp)) (toI3 out) (l.take 20) [] 100000 o rfl (by simp; omega) ho
    rw [show ((([] : List (Int × Int)).length : Nat) : Int) = 0 from rfl] at e1
    have h4 := made_4 x1 v1 pre.length (toI1 o', toI3 out) o' rfl sz (by rw [hv]) hs.pos hs8 (by rw [e2.len]; exact hn48) sz [] 100000 0 [] rfl (by omega) (by rw [e2.len, hs.sum]; omega) (by simp)
    rw [show toI2 [] = [] from rfl, show ((0 : Nat) : Int) = 0 from rfl, show ((([] : List Nat).length : Nat) : Int) = 0 from rfl, List.nil_append] at h4
    obtain ⟨c1, c2, c3⟩ := cutT_evn (o := o') sz 0 (by rw [e2.len, hs.sum]; omega) hs.pos
    have hevn : Evn n sz (cutT o' sz 0) := ⟨c1, c2, fun j => by
      rw [c3, List.drop_zero, e2.perm.count_eq, List.count_range]⟩
    obtain ⟨out', g1, g2, g3⟩ := made_2 x1 hx1 v1 n sz hv hs ys hy hyl hym r (pre ++ [l]) f o' (out ++ [cutT o' sz 0]) (by rw [h]; simp) (by simp at hf; omega) e2 (by simp [hl]) (fun ev he => by
      rcases List.mem_append.1 he with he | he
      · exact hev ev he
      · rw [List.mem_singleton.1 he]; exact hevn)
    refine ⟨out', ?_, g2, g3⟩
    unfold law09_Made_2
    rw [hy, if_pos (by rw [h]; simp; omega), show idx ys (pre.length : Int) = some l by rw [h]; exact idx_app pre l r]
    simp only [Option.bind_some]
    rw [if_pos k1, e1]
    simp only [Option.bind_some]
    rw [h4]
    simp only [Option.bind_some]
    rw [if_pos (capOk_le (by omega) (by rw [toI3_len]; omega)), wr_nat (by omega)]
    have a1 : toI3 out ++ [toI2 (cutT o' sz 0)] = toI3 (out ++ [cutT o' sz 0]) := by simp [toI3]
    have a3 : ((pre.length + 1 : Nat) : Int) = ((pre ++ [l]).length : Int) := by simp
    rw [a1, a3]
    exact g1
/-- What Made returns. -/
structure MadeOk (s : List (List (List Nat))) (sz : List Nat) (n : Nat) : Prop where
  sz_ : SzOk sz n
  ev : ∀ ev ∈ s, Evn n sz ev
  len : s.length ≤ 10
theorem made_eq (codes : List Int) (hl : codes.length ≤ 140737488355328) (hc : ∀ c ∈ codes, 0 ≤ c ∧ c ≤ 255) (swaps : List (List (Int × Int))) (hsl : swaps.length ≤ 140737488355328) (hx1 : ∀ l ∈ swaps, l.length ≤ 140737488355328 ∧ ∀ p ∈ l, (0 ≤ p.1 ∧ p.1 ≤ 255) ∧ 0 ≤ p.2 ∧ p.2 ≤ 255) : ∃ s sz n, law09_Made codes swaps = some (toI3 s, toI1 sz, ((n : Nat) : Int)) ∧ MadeOk s sz n := by
  obtain ⟨sz, n, h1, hs⟩ := sizes_eq codes hl hc
  obtain ⟨k1, k2⟩ := cut_0 swaps 10 10 rfl hsl
  have hn1 := hs.n1
  have hn48 := hs.n48
  have m1 := made_1 swaps (toI1 sz, (n : Int)) n rfl (by omega) n 0 100000 (List.replicate n 0) (by omega) (by omega) (by simp) (fun j hj => by omega)
  rw [show ((0 : Nat) : Int) = 0 from rfl] at m1
  obtain ⟨s, g1, g2, g3⟩ := made_2 swaps hx1 (toI1 sz, (n : Int)) n sz rfl hs (swaps.take 10) k2 (by simp; omega) (fun l hl => List.mem_of_mem_take hl) (swaps.take 10) [] 100000 (List.range n) [] rfl (by simp; omega) ⟨by simp, List.Perm.refl _⟩ rfl (fun ev he => by cases he)
  rw [show toI3 [] = [] from rfl, show ((([] : List (List (Int × Int))).length : Nat) : Int) = 0 from rfl] at g1
  refine ⟨s, sz, n, ?_, hs, g2, by rw [g3]; simp; omega⟩
  have hmk : mkOk 8 (n : Int) = true := by
    simp only [mkOk, Bool.and_eq_true, decide_eq_true_eq]; omega
  unfold law09_Made
  rw [h1]
  simp only [Option.bind_some]
  rw [if_pos hmk, Int.toNat_natCast, m1]
  simp only [Option.bind_some]
  rw [if_pos k1, g1]
  rfl
end Go.Proofs.YthofgamegondnaaDoor

namespace Go.Proofs.YthofgamegondnaaDoor
open Go.RowKit
/- trestle/evening.meetings -/
end Go.Proofs.YthofgamegondnaaDoor

namespace Go.Proofs.YthofgamegondnaaDoor
open Go.RowKit
/- trestle/evening.Meet -/
end Go.Proofs.YthofgamegondnaaDoor

namespace Go.Proofs.YthofgamegondnaaDoor
open Go.RowKit
/- Meetings. -/
end Go.Proofs.YthofgamegondnaaDoor

namespace Go.Proofs.YthofgamegondnaaDoor
open Go.RowKit
end Go.Proofs.YthofgamegondnaaDoor

namespace Go.Proofs.YthofgamegondnaaDoor

/-! ## Fields -/
/-! ## Products -/
/-! ## The reference's fields -/
end Go.Proofs.YthofgamegondnaaDoor

namespace Go.Proofs.YthofgamegondnaaDoor
open Go.RowKit

section guards
variable {P : Program} {Q : Exit → Act → World → Prop} {F : Frm} {l : List (Nat × Value)} {w : World} {ops : Array Oper} {rest : List Oper}
end guards

section rules
variable {P : Program} {Q : Exit → Act → World → Prop} {F : Frm} {l : List (Nat × Value)} {w : World} {ops : Array Oper} {rest : List Oper}
variable {X : List Oper → Frm → List (Nat × Value) → World → Prop} [inst : Runs P X]
variable {d : Nat} {ty t T e : TypeId} {pos : String} {af : Array Edge} {x y : Operand} {ds dT : TypeDesc} {sz by_ sT bT : Nat} {z zT : Value}

end rules
end Go.Proofs.YthofgamegondnaaDoor

namespace Go.Proofs.YthofgamegondnaaDoor
open Go.RowKit
set_option linter.unusedSimpArgs false
set_option linter.unusedVariables false

end Go.Proofs.YthofgamegondnaaDoor

namespace Go.Proofs.YthofgamegondnaaDoor
open Go.RowKit
set_option linter.unusedSimpArgs false
set_option linter.unusedVariables false

end Go.Proofs.YthofgamegondnaaDoor

namespace Go.Proofs.YthofgamegondnaaDoor
open Go.RowKit
set_option linter.unusedSimpArgs false
set_option linter.unusedVariables false

end Go.Proofs.YthofgamegondnaaDoor

namespace Go.Proofs.YthofgamegondnaaDoor
open Go.RowKit
section
variable {E : Env} {ops : Array Oper} {rest rest' : List Oper} {K : St → Prop} {n n0 k : Nat} {l : List (Nat × AV)} {hp : Hp}
end
end Go.Proofs.YthofgamegondnaaDoor

namespace Go.Proofs.YthofgamegondnaaDoor
open Go.RowKit
end Go.Proofs.YthofgamegondnaaDoor

namespace Go.Proofs.YthofgamegondnaaDoor
open Go.RowKit
/- trestle/evening.extremes -/
end Go.Proofs.YthofgamegondnaaDoor

namespace Go.Proofs.YthofgamegondnaaDoor
open Go.RowKit
/- trestle/evening.Most -/
end Go.Proofs.YthofgamegondnaaDoor

namespace Go.Proofs.YthofgamegondnaaDoor
open Go.RowKit
/- trestle/evening.Least -/
end Go.Proofs.YthofgamegondnaaDoor

namespace Go.Proofs.YthofgamegondnaaDoor
open Go.RowKit
/- trestle/evening.Strain -/
end Go.Proofs.YthofgamegondnaaDoor

namespace Go.Proofs.YthofgamegondnaaDoor
open Go.RowKit
end Go.Proofs.YthofgamegondnaaDoor

namespace Go.Proofs.YthofgamegondnaaDoor
open Go.RowKit
/- trestle/evening.Together -/
end Go.Proofs.YthofgamegondnaaDoor

namespace Go.Proofs.YthofgamegondnaaDoor
open Go.RowKit
/- Together. -/
theorem index_1 (xs : List Int) (v : Int) (hl : xs.length ≤ 90000) : ∀ (r pre : List Int) (f : Nat), xs = pre ++ r → r.length < f → (v ∈ r → ∃ p : Nat, slices_Index_L_int_1 xs v f pre.length = some (.inr (p : Int))) ∧ (¬ v ∈ r → slices_Index_L_int_1 xs v f pre.length = some (.inl ()))
  | [], pre, f + 1, h, _ => by
    refine ⟨fun h => by simp at h, fun _ => ?_⟩
    unfold slices_Index_L_int_1
    rw [if_neg (by rw [h]; simp)]
  | u :: r, pre, f + 1, h, hf => by
    obtain ⟨ih1, ih2⟩ := index_1 xs v hl r (pre ++ [u]) f (by rw [h]; simp) (by simp at hf; omega)
    have hp : pre.length < xs.length := by rw [h]; simp
    have a3 : ((pre.length + 1 : Nat) : Int) = ((pre ++ [u]).length : Int) := by simp
    have st : slices_Index_L_int_1 xs v (f + 1) pre.length = if (v == u) = true then some (.inr (pre.length : Int)) else slices_Index_L_int_1 xs v f ((pre ++ [u]).length : Int) := by
      conv => lhs; unfold slices_Index_L_int_1
      rw [if_pos (by rw [h]; simp; omega), show idx xs (pre.length : Int) = some u by rw [h]; exact idx_app pre u r]
      simp only [Option.bind_some]
      rw [wr_nat (by omega), a3]
    rw [st]
    by_cases e : v = u
    · subst e
      simp only [beq_self_eq_true, if_true]
      exact ⟨fun _ => ⟨_, rfl⟩, fun h => absurd (List.mem_cons_self) h⟩
    · have : (v == u) = false := by simpa using e
      simp only [this, Bool.false_eq_true, if_false]
      exact ⟨fun h => ih1 (by simpa [e] using h), fun h => ih2 (by simpa [e] using h)⟩
theorem contains_eq (xs : List Int) (v : Int) (hl : xs.length ≤ 90000) : slices_Contains_L_int xs v = some (decide (v ∈ xs)) := by
  obtain ⟨h1, h2⟩ := index_1 xs v hl xs [] 100000 rfl (by omega)
  rw [show ((([] : List Int).length : Nat) : Int) = 0 from rfl] at h1 h2
  unfold slices_Contains_L_int slices_Index_L_int
  by_cases h : v ∈ xs
  · obtain ⟨p, hp⟩ := h1 h
    rw [hp]
    simp [h]
  · rw [h2 h]
    simp [h]
theorem mem_toI {t : List Nat} {x : Nat} : ((x : Int) ∈ toI1 t) ↔ x ∈ t := by
  constructor
  · intro h
    obtain ⟨j, hj, e⟩ := mem_toI1 h
    have : x = j := by
      have : (x : Int) = (j : Int) := e
      omega
    rw [this]; exact hj
  · intro h
    exact List.mem_map.2 ⟨x, h, rfl⟩
end Go.Proofs.YthofgamegondnaaDoor

namespace Go.Proofs.YthofgamegondnaaDoor
open Go.RowKit
/-- Who is host: one at the table whom nobody there is ahead of. -/
structure Best (O : List Int) (t : List Nat) (h : Nat) : Prop where
  mem : h ∈ t
  le : ∀ x ∈ t, O.getD h 0 < O.getD x 0 ∨ (O.getD h 0 = O.getD x 0 ∧ h ≤ x)
def ChE : List Int → List (List Nat) → List Nat → List Int → Prop
  | O, [], [], O' => O' = O
  | O, t :: ev, h :: hs, O' => Best O t h ∧ ChE (inc O h) ev hs O'
  | _, _, _, _ => False
def ChS : List Int → List (List (List Nat)) → List (List Nat) → Prop
  | _, [], [] => True
  | O, ev :: s, hs :: rows => ∃ O', ChE O ev hs O' ∧ ChS O' s rows
  | _, _, _ => False
structure Bd (n : Nat) (O : List Int) (b : Nat) : Prop where
  len : O.length = n
  bd : ∀ x, 0 ≤ O.getD x 0 ∧ O.getD x 0 ≤ b
theorem Bd.inc {n : Nat} {O : List Int} {b h : Nat} (d : Bd n O b) (hh : h < n) : Bd n (inc O h) (b + 1) := by
  refine ⟨by rw [inc_len]; exact d.len, fun x => ?_⟩
  by_cases hx : x < O.length
  · have := d.bd x
    rw [inc_get O h x hx]
    split <;> omega
  · rw [List.getD_eq_getElem?_getD, List.getElem?_eq_none (by rw [inc_len]; omega)]
    simp
    omega
theorem o_idx {n : Nat} {O : List Int} {b x : Nat} (d : Bd n O b) (hx : x < n) : idx O (x : Int) = some (O.getD x 0) := by
  have h : x < O.length := by rw [d.len]; exact hx
  rw [idx_lt h, List.getD_eq_getElem?_getD, List.getElem?_eq_getElem h]
  rfl
theorem o_set {n : Nat} {O : List Int} {b x : Nat} (d : Bd n O b) (hb : b ≤ 1000000) : O.set ((x : Int)).toNat (wr .i64 (O.getD x 0 + 1)) = inc O x := by
  have := d.bd x
  rw [wr_i (by omega) (by omega), Int.toNat_natCast]
  rfl
theorem cmp_eq {n : Nat} {O : List Int} {b x y : Nat} (d : Bd n O b) (hb : b ≤ 1000000) (hn : n ≤ 64) (hx : x < n) (hy : y < n) (c5 : List (List Int)) (c23 : List Int) : ∃ v, evening_Hosts_k1_k1 O c5 c23 x y = some v ∧ (v < 0 ↔ (O.getD x 0 < O.getD y 0 ∨ (O.getD x 0 = O.getD y 0 ∧ x < y))) := by
  have h1 := d.bd x
  have h2 := d.bd y
  unfold evening_Hosts_k1_k1
  rw [o_idx d hx, o_idx d hy]
  simp only [Option.bind_some]
  by_cases e : O.getD x 0 = O.getD y 0
  · have : (O.getD x 0 != O.getD y 0) = false := by rw [e, bne_self_eq_false]
    rw [this]
    refine ⟨_, rfl, ?_⟩
    rw [wr_i (by omega) (by omega)]
    omega
  · have : (O.getD x 0 != O.getD y 0) = true := by simpa using e
    rw [this]
    refine ⟨_, rfl, ?_⟩
    rw [wr_i (by omega) (by omega)]
    omega
theorem min_1 {n : Nat} {O : List Int} {b : Nat} (d : Bd n O b) (hb : b ≤ 1000000) (hn : n ≤ 64) (c5 : List (List Int)) (c23 : List Int) (t : List Nat) (ht : ∀ x ∈ t, x < n) (htl : t.length ≤ 90000) : ∀ (r pre : List Nat) (f h : Nat), t = pre ++ r → r.length < f → Best O pre h → ∃ h', evening_Hosts_k1_1 O c5 c23 (toI1 t) f h pre.length = some ((h' : Nat) : Int) ∧ Best O t h'
  | [], pre, f + 1, h, e, _, hB => by
    refine ⟨h, ?_, by rw [e, List.append_nil]; exact hB⟩
    unfold evening_Hosts_k1_1
    rw [if_neg (by rw [toI1_len, e]; simp)]
  | x :: r, pre, f + 1, h, e, hf, hB => by
    have hx : x < n := ht x (by rw [e]; simp)
    have hh : h < n := ht h (by rw [e]; simp [hB.mem])
    have hp : pre.length < t.length := by rw [e]; simp
    obtain ⟨v, c1, c2⟩ := cmp_eq d hb hn hx hh c5 c23
    have hi : idx (toI1 t) (pre.length : Int) = some (x : Int) := by rw [e]; exact idx_toI1 pre x r
    have a3 : ((pre.length + 1 : Nat) : Int) = ((pre ++ [x]).length : Int) := by simp
    have key : ∀ h2 : Nat, evening_Hosts_k1_j2 O c5 c23 (toI1 t) h pre.length v = some (h2 : Int) → Best O (pre ++ [x]) h2 → ∃ h', evening_Hosts_k1_1 O c5 c23 (toI1 t) (f + 1) h pre.length = some ((h' : Nat) : Int) ∧ Best O t h' := fun h2 hj hB2 => by
      obtain ⟨h', e1, e2⟩ := min_1 d hb hn c5 c23 t ht htl r (pre ++ [x]) f h2 (by rw [e]; simp) (by simp at hf; omega) hB2
      refine ⟨h', ?_, e2⟩
      unfold evening_Hosts_k1_1
      rw [if_pos (by rw [toI1_len, e]; simp; omega), hi]
      simp only [Option.bind_some]
      rw [c1]
      simp only [Option.bind_some]
      rw [hj]
      simp only [Option.bind_some]
      rw [wr_nat (by omega), a3]
      exact e1
    by_cases hv : v < 0
    · refine key x ?_ ⟨by simp, fun y hy => ?_⟩
      · unfold evening_Hosts_k1_j2
        rw [if_pos (by simpa using hv), hi]
        rfl
      · have := c2.1 hv
        rcases List.mem_append.1 hy with hy | hy
        · have := hB.le y hy
          omega
        · rw [List.mem_singleton.1 hy]
          exact .inr ⟨rfl, Nat.le_refl _⟩
    · refine key h ?_ ⟨by simp [hB.mem], fun y hy => ?_⟩
      · unfold evening_Hosts_k1_j2
        rw [if_neg (by simpa using hv)]
      · have : ¬ (O.getD x 0 < O.getD h 0 ∨ (O.getD x 0 = O.getD h 0 ∧ x < h)) := fun h => hv (c2.2 h)
        rcases List.mem_append.1 hy with hy | hy
        · exact hB.le y hy
        · rw [List.mem_singleton.1 hy]
          omega
theorem min_eq {n : Nat} {O : List Int} {b : Nat} (d : Bd n O b) (hb : b ≤ 1000000) (hn : n ≤ 64) (c5 : List (List Int)) (c23 : List Int) (t : List Nat) (ht : ∀ x ∈ t, x < n) (htl : t.length ≤ 90000) (h0 : t.length ≠ 0) : ∃ h', evening_Hosts_k1 O c5 c23 (toI1 t) = some ((h' : Nat) : Int) ∧ Best O t h' := by
  obtain ⟨x, r, rfl⟩ : ∃ x r, t = x :: r := by
    cases t with
    | nil => exact absurd rfl h0
    | cons x r => exact ⟨x, r, rfl⟩
  obtain ⟨h', e1, e2⟩ := min_1 d hb hn c5 c23 (x :: r) ht htl r [x] 100000 x rfl (by simp at htl; omega) ⟨by simp, fun y hy => by rw [List.mem_singleton.1 hy]; exact .inr ⟨rfl, Nat.le_refl _⟩⟩
  refine ⟨h', ?_, e2⟩
  unfold evening_Hosts_k1
  rw [if_neg (by rw [toI1_len]; simp; omega), show idx (toI1 (x :: r)) 0 = some (x : Int) from idx_toI1 [] x r]
  simp only [Option.bind_some]
  rw [show (([x] : List Nat).length : Int) = 1 from rfl] at e1
  rw [e1]
  rfl
theorem hosts_2 {n : Nat} (hn : n ≤ 64) (x1 : List (List (List Int))) (c5 : List (List Int)) (c6 : Int) (ev : List (List Nat)) (hev : ∀ t ∈ ev, (∀ x ∈ t, x < n) ∧ t.length ≤ 90000 ∧ t.length ≠ 0) (hel : ev.length ≤ 64) : ∀ (r pre : List (List Nat)) (f : Nat) (O : List Int) (out : List Nat) (b : Nat), ev = pre ++ r → r.length < f → Bd n O b → b + r.length ≤ 1000000 → out.length = pre.length → ∃ hs O', evening_Hosts_2 x1 c5 c6 (toI2 ev) f O (toI1 out) pre.length = some (O', toI1 (out ++ hs)) ∧ ChE O r hs O' ∧ Bd n O' (b + r.length) ∧ hs.length = r.length
  | [], pre, f + 1, O, out, b, h, _, d, _, _ => by
    refine ⟨[], O, ?_, rfl, d, rfl⟩
    unfold evening_Hosts_2
    rw [if_neg (by rw [toI2_len, h]; simp)]
    simp
  | t :: r, pre, f + 1, O, out, b, h, hf, d, hb, ho => by
    obtain ⟨t1, t2, t3⟩ := hev t (by rw [h]; simp)
    have hp : pre.length < ev.length := by rw [h]; simp
    simp only [List.length_cons] at hb hf
    obtain ⟨h', e1, e2⟩ := min_eq d (by omega) hn c5 (toI1 out) t t1 t2 t3
    have hh := t1 h' e2.mem
    obtain ⟨hs, O', g1, g2, g3, g4⟩ := hosts_2 hn x1 c5 c6 ev hev hel r (pre ++ [t]) f (inc O h') (out ++ [h']) (b + 1) (by rw [h]; simp) (by omega) (d.inc hh) (by omega) (by simp [ho])
    refine ⟨h' :: hs, O', ?_, ⟨e2, g2⟩, ?_, by simp [g4]⟩
    · unfold evening_Hosts_2
      rw [if_pos (by rw [toI2_len, h]; simp; omega), show idx (toI2 ev) (pre.length : Int) = some (toI1 t) by rw [h]; exact idx_toI2 pre t r]
      simp only [Option.bind_some]
      rw [e1]
      simp only [Option.bind_some]
      rw [o_idx d hh]
      simp only [Option.bind_some]
      rw [if_pos (capOk_le (by omega) (by rw [toI1_len]; omega)), o_set d (by omega), wr_nat (by omega)]
      have a1 : toI1 out ++ [(h' : Int)] = toI1 (out ++ [h']) := by simp [toI1]
      have a3 : ((pre.length + 1 : Nat) : Int) = ((pre ++ [t]).length : Int) := by simp
      rw [a1, a3, g1]
      simp
    · have : b + 1 + r.length = b + (r.length + 1) := by omega
      rw [List.length_cons, ← this]; exact g3
theorem hosts_1 {n : Nat} {sz : List Nat} (hn : n ≤ 64) (hsum : sz.sum = n) (s : List (List (List Nat))) (hev : ∀ ev ∈ s, Evn n sz ev) (hs : s.length ≤ 64) : ∀ (r pre : List (List (List Nat))) (f : Nat) (O : List Int) (out : List (List Nat)) (b : Nat), s = pre ++ r → r.length < f → Bd n O b → b + 64 * r.length ≤ 10000 → out.length = pre.length → ∃ rows, evening_Hosts_1 (toI3 s) f O (toI2 out) pre.length = some (toI2 (out ++ rows)) ∧ ChS O r rows ∧ rows.length = r.length
  | [], pre, f + 1, O, out, b, h, _, d, _, _ => by
    refine ⟨[], ?_, trivial, rfl⟩
    unfold evening_Hosts_1
    rw [if_neg (by rw [toI3_len, h]; simp)]
    simp
  | ev :: r, pre, f + 1, O, out, b, h, hf, d, hb, ho => by
    have hE := hev ev (by rw [h]; simp)
    have hp : pre.length < s.length := by rw [h]; simp
    simp only [List.length_cons] at hb hf
    have hel : ev.length ≤ 64 := by
      have a := len_flat hE.ne
      have b := hE.len
      omega
    obtain ⟨hsx, O', g1, g2, g3, g4⟩ := hosts_2 hn (toI3 s) (toI2 out) pre.length ev (fun t ht => ⟨hE.lt t ht, by
      have a := len_mem ht
      have b := hE.len
      omega, hE.ne t ht⟩) hel ev [] 100000 O [] b rfl (by omega) d (by omega) rfl
    rw [show toI1 [] = [] from rfl, show ((([] : List (List Nat)).length : Nat) : Int) = 0 from rfl, List.nil_append] at g1
    obtain ⟨rows, k1, k2, k3⟩ := hosts_1 hn hsum s hev hs r (pre ++ [ev]) f O' (out ++ [hsx]) (b + ev.length) (by rw [h]; simp) (by omega) g3 (by omega) (by simp [ho])
    refine ⟨hsx :: rows, ?_, ⟨O', g2, k2⟩, by simp [k3]⟩
    unfold evening_Hosts_1
    rw [if_pos (by rw [toI3_len, h]; simp; omega), show idx (toI3 s) (pre.length : Int) = some (toI2 ev) by rw [h]; exact idx_toI3 pre ev r]
    simp only [Option.bind_some]
    rw [g1]
    simp only [Option.bind_some]
    rw [if_pos (capOk_le (by omega) (by rw [toI2_len]; omega)), wr_nat (by omega)]
    have a1 : toI2 out ++ [toI1 hsx] = toI2 (out ++ [hsx]) := by simp [toI2]
    have a3 : ((pre.length + 1 : Nat) : Int) = ((pre ++ [ev]).length : Int) := by simp
    rw [a1, a3, k1]
    simp
theorem ChE.len : ∀ {O : List Int} {ev : List (List Nat)} {hs : List Nat} {O' : List Int}, ChE O ev hs O' → hs.length = ev.length
  | _, [], [], _, _ => rfl
  | _, _ :: _, _ :: _, _, h => by simp [ChE.len h.2]
  | _, [], _ :: _, _, h => h.elim
  | _, _ :: _, [], _, h => h.elim
/- The law's own loops. -/
theorem lh_3 {n : Nat} {O : List Int} {b : Nat} (d : Bd n O b) (v1 : List (List (List Int)) × List Int × Int) (v2 : List (List Int)) (c6 : Int) (v8 : List (List Int)) (c13 : Int) (t : List Nat) (ht : ∀ x ∈ t, x < n) (htl : t.length ≤ 90000) (h : Nat) (hB : Best O t h) : ∀ (r pre : List Nat) (f : Nat), t = pre ++ r → r.length < f → law09_EveningHosts_3 v1 v2 c6 v8 O c13 (toI1 t) h f pre.length = some (.inl ())
  | [], pre, f + 1, e, _ => by
    unfold law09_EveningHosts_3
    rw [if_neg (by rw [toI1_len, e]; simp)]
  | x :: r, pre, f + 1, e, hf => by
    have hxm : x ∈ t := by rw [e]; simp
    have hp : pre.length < t.length := by rw [e]; simp
    have hle := hB.le x hxm
    have ih := lh_3 d v1 v2 c6 v8 c13 t ht htl h hB r (pre ++ [x]) f (by rw [e]; simp) (by simp at hf; omega)
    have a3 : ((pre.length + 1 : Nat) : Int) = ((pre ++ [x]).length : Int) := by simp
    unfold law09_EveningHosts_3
    rw [if_pos (by rw [toI1_len, e]; simp; omega), show idx (toI1 t) (pre.length : Int) = some (x : Int) by rw [e]; exact idx_toI1 pre x r]
    simp only [Option.bind_some]
    rw [o_idx d (ht x hxm), o_idx d (ht h hB.mem)]
    simp only [Option.bind_some]
    have hj : (if (decide (O.getD x 0 < O.getD h 0)) = true then some true else if (O.getD x 0 == O.getD h 0) = true then some (decide ((x : Int) < (h : Int))) else some false) = some false := by
      rw [if_neg (by rw [decide_eq_true_eq]; omega)]
      by_cases e2 : O.getD x 0 = O.getD h 0
      · have : decide ((x : Int) < (h : Int)) = false := by simp; omega
        rw [this]; split <;> rfl
      · rw [if_neg (by rw [beq_iff_eq]; exact e2)]
    rw [hj]
    simp only [Option.bind_some, Bool.false_eq_true, if_false]
    rw [wr_nat (by omega), a3, ih]
theorem lh_2 {n : Nat} (v1 : List (List (List Int)) × List Int × Int) (v2 : List (List Int)) (c6 : Int) (row : List Nat) (hrow : idx v2 c6 = some (toI1 row)) (ev : List (List Nat)) (hev : ∀ t ∈ ev, (∀ x ∈ t, x < n) ∧ t.length ≤ 90000) (hel : ev.length ≤ 64) : ∀ (r pre : List (List Nat)) (hr hpre : List Nat) (f : Nat) (O O' : List Int) (b : Nat), ev = pre ++ r → row = hpre ++ hr → hpre.length = pre.length → r.length < f → Bd n O b → b + r.length ≤ 1000000 → ChE O r hr O' → law09_EveningHosts_2 v1 v2 c6 (toI2 ev) f O pre.length = some (.inl O') ∧ Bd n O' (b + r.length)
  | [], pre, [], hpre, f + 1, O, O', b, h, _, _, _, d, _, hc => by
    have hc : O' = O := hc
    subst hc
    refine ⟨?_, d⟩
    unfold law09_EveningHosts_2
    rw [if_neg (by rw [toI2_len, h]; simp)]
  | t :: r, pre, g :: hr, hpre, f + 1, O, O', b, h, hh, hl, hf, d, hb, hc => by
    obtain ⟨hB, hc⟩ := hc
    obtain ⟨t1, t2⟩ := hev t (by rw [h]; simp)
    have hp : pre.length < ev.length := by rw [h]; simp
    simp only [List.length_cons] at hb hf
    have hg := t1 g hB.mem
    obtain ⟨k1, k2⟩ := lh_2 v1 v2 c6 row hrow ev hev hel r (pre ++ [t]) hr (hpre ++ [g]) f (inc O g) O' (b + 1) (by rw [h]; simp) (by rw [hh]; simp) (by simp [hl]) (by omega) (d.inc hg) (by omega) hc
    have h3 := lh_3 d v1 v2 c6 (toI2 ev) pre.length t t1 t2 g hB t [] 100000 rfl (by omega)
    rw [show ((([] : List Nat).length : Nat) : Int) = 0 from rfl] at h3
    have hi : idx (toI1 row) (pre.length : Int) = some (g : Int) := by rw [hh, ← hl]; exact idx_toI1 hpre g hr
    have a3 : ((pre.length + 1 : Nat) : Int) = ((pre ++ [t]).length : Int) := by simp
    refine ⟨?_, by
      have : b + 1 + r.length = b + (r.length + 1) := by omega
      rw [List.length_cons, ← this]; exact k2⟩
    unfold law09_EveningHosts_2
    rw [if_pos (by rw [toI2_len, h]; simp; omega), show idx (toI2 ev) (pre.length : Int) = some (toI1 t) by rw [h]; exact idx_toI2 pre t r]
    simp only [Option.bind_some]
    rw [hrow]
    simp only [Option.bind_some]
    rw [hi]
    simp only [Option.bind_some]
    rw [contains_eq _ _ (by rw [toI1_len]; omega)]
    have hm : decide ((g : Int) ∈ toI1 t) = true := decide_eq_true (mem_toI.2 hB.mem)
    simp only [Option.bind_some, hm, Bool.not_true, Bool.false_eq_true, if_false]
    rw [h3]
    simp only [Option.bind_some]
    rw [o_idx d hg]
    simp only [Option.bind_some]
    rw [o_set d (by omega), wr_nat (by omega), a3, k1]
  | [], _, _ :: _, _, _, _, _, _, _, _, _, _, _, _, hc => hc.elim
  | _ :: _, _, [], _, _, _, _, _, _, _, _, _, _, _, hc => hc.elim
theorem lh_1 {n : Nat} {sz : List Nat} (hn : n ≤ 64) (hsum : sz.sum = n) (v1 : List (List (List Int)) × List Int × Int) (s : List (List (List Nat))) (hv : v1.1 = toI3 s) (hev : ∀ ev ∈ s, Evn n sz ev) (hs : s.length ≤ 64) (rows : List (List Nat)) : ∀ (r pre : List (List (List Nat))) (rr rpre : List (List Nat)) (f : Nat) (O : List Int) (b : Nat), s = pre ++ r → rows = rpre ++ rr → rpre.length = pre.length → r.length < f → Bd n O b → b + 64 * r.length ≤ 10000 → ChS O r rr → law09_EveningHosts_1 v1 (toI2 rows) f O pre.length = some (.inl ())
  | [], pre, [], rpre, f + 1, O, b, h, _, _, _, _, _, _ => by
    unfold law09_EveningHosts_1
    rw [hv, if_neg (by rw [toI3_len, h]; simp)]
  | ev :: r, pre, row :: rr, rpre, f + 1, O, b, h, hh, hl, hf, d, hb, hc => by
    obtain ⟨O', hc1, hc2⟩ := hc
    have hE := hev ev (by rw [h]; simp)
    have hp : pre.length < s.length := by rw [h]; simp
    simp only [List.length_cons] at hb hf
    have hel : ev.length ≤ 64 := by
      have a := len_flat hE.ne
      have b := hE.len
      omega
    have hi : idx (toI2 rows) (pre.length : Int) = some (toI1 row) := by rw [hh, ← hl]; exact idx_toI2 rpre row rr
    obtain ⟨k1, k2⟩ := lh_2 v1 (toI2 rows) pre.length row hi ev (fun t ht => ⟨hE.lt t ht, by
      have a := len_mem ht
      have b := hE.len
      omega⟩) hel ev [] row [] 100000 O O' b rfl rfl rfl (by omega) d (by omega) hc1
    rw [show ((([] : List (List Nat)).length : Nat) : Int) = 0 from rfl] at k1
    have ih := lh_1 hn hsum v1 s hv hev hs rows r (pre ++ [ev]) rr (rpre ++ [row]) f O' (b + ev.length) (by rw [h]; simp) (by rw [hh]; simp) (by simp [hl]) (by omega) k2 (by omega) hc2
    have a3 : ((pre.length + 1 : Nat) : Int) = ((pre ++ [ev]).length : Int) := by simp
    have hne : (((toI1 row).length : Int) != ((toI2 ev).length : Int)) = false := by
      rw [toI1_len, toI2_len, hc1.len]; simp
    unfold law09_EveningHosts_1
    rw [hv, if_pos (by rw [toI3_len, h]; simp; omega), show idx (toI3 s) (pre.length : Int) = some (toI2 ev) by rw [h]; exact idx_toI3 pre ev r]
    simp only [Option.bind_some]
    rw [hi]
    simp only [Option.bind_some]
    rw [hne]
    simp only [Bool.false_eq_true, if_false]
    rw [k1]
    simp only [Option.bind_some]
    rw [wr_nat (by omega), a3, ih]
  | [], _, _ :: _, _, _, _, _, _, _, _, _, _, _, hc => hc.elim
  | _ :: _, _, [], _, _, _, _, _, _, _, _, _, _, hc => hc.elim
theorem hosts_law (codes : List Int) (hl : codes.length ≤ 140737488355328) (hc : ∀ c ∈ codes, 0 ≤ c ∧ c ≤ 255) (swaps : List (List (Int × Int))) (hsl : swaps.length ≤ 140737488355328) (hx1 : ∀ l ∈ swaps, l.length ≤ 140737488355328 ∧ ∀ p ∈ l, (0 ≤ p.1 ∧ p.1 ≤ 255) ∧ 0 ≤ p.2 ∧ p.2 ≤ 255) : law09_EveningHosts codes swaps = some true := by
  obtain ⟨s, sz, n, hmade, ⟨hsz, hev, hlen⟩⟩ := made_eq codes hl hc swaps hsl hx1
  obtain ⟨zsum, zpos, zlen, n1, n48⟩ := hsz
  have hf : fitP n (toI1 sz) = true := fit_sum n1 (by omega) zpos zsum
  obtain ⟨c1, c2⟩ := evn_check n1 (by omega) (by omega) hev (by omega) hf (by omega)
  have d0 : Bd n (List.replicate n 0) 0 := by
    refine ⟨by simp, fun x => ?_⟩
    have : (List.replicate n (0 : Int)).getD x 0 = 0 := zeros_get n x
    rw [this]; simp
  obtain ⟨rows, h1, h2, h3⟩ := hosts_1 (show n ≤ 64 by omega) zsum s hev (by omega) s [] 100000 (List.replicate n 0) [] 0 rfl (by omega) d0 (by omega) rfl
  rw [show toI2 [] = [] from rfl, show ((([] : List (List (List Nat))).length : Nat) : Int) = 0 from rfl, List.nil_append] at h1
  have h4 := lh_1 (show n ≤ 64 by omega) zsum (toI3 s, toI1 sz, (n : Int)) s rfl hev (by omega) rows s [] rows [] 100000 (List.replicate n 0) 0 rfl rfl rfl (by omega) d0 (by omega) h2
  rw [show ((([] : List (List (List Nat))).length : Nat) : Int) = 0 from rfl] at h4
  have hmk : mkOk 8 (n : Int) = true := by
    simp only [mkOk, Bool.and_eq_true, decide_eq_true_eq]; omega
  have hH : evening_Hosts n (toI3 s) = some (toI2 rows) := by
    unfold evening_Hosts
    rw [c2]
    simp only [Option.bind_some, Bool.not_true, Bool.false_eq_true, if_false]
    rw [if_pos hmk, Int.toNat_natCast, h1]
    rfl
  unfold law09_EveningHosts
  rw [hmade]
  simp only [Option.bind_some]
  rw [hH]
  simp only [Option.bind_some]
  have hne : (((toI2 rows).length : Int) != ((toI3 s).length : Int)) = false := by
    rw [toI2_len, toI3_len, h3]; simp
  rw [hne]
  simp only [Bool.false_eq_true, if_false]
  rw [if_pos hmk, Int.toNat_natCast, h4]
  rfl
end Go.Proofs.YthofgamegondnaaDoor

namespace Go.Proofs.YthofgamegondnaaDoor.eveningHosts
open Go.ChangeShapes Go.WideShapes Go.ChangeAt Go.RowKit
theorem law_ret (a0 : (List Int)) (a1 : (List (List (Int × Int)))) (h : law09_EveningHosts a0 a1 = some true) {w : World} {v0 v1 : Value} (h0 : VR w (fun c => c < w.heap.size) [] ((cdL 1 (cdK .u8)).enc a0) v0) (h1 : VR w (fun c => c < w.heap.size) [] ((cdL 1 (cdL 2 (cdG2 (cdK .u8) (cdK .u8) (fun _ => rfl) (fun _ => rfl)))).enc a1) v1) : Ret Tryd.prog 9 #[v0, v1] w fun v w' => v = .bool true ∧ w.grownBy w' none :=
  Ret.mono (x_law09_EveningHosts.2 (cs_law09_EveningHosts.enc (a0, a1, ())) (er_law09_EveningHosts true) (told_enc (s := cs_law09_EveningHosts) (a := (a0, a1, ())) h) w (fun c => c < w.heap.size) [v0, v1] (fun c hc => hc) (fun g x h => by cases h) (.cons h0 (.cons h1 .nil))) fun v w' h => ⟨h.2.v_inv, h.1⟩
set_option maxRecDepth 100000 in
theorem contract (H : Type) (enc : TypeId × Value → H) (W : World) (base : Nat) (args : Array Value) (ds gs : List (DataW H)) (before : List MemPlace)
    (hval : ∀ (j : Nat) t v, Tryd.f9.params[j]? = some t → args[j]? = some v → Value.okWide Tryd.prog W .any base t v)
    (hW : DataW.Whole enc Tryd.prog Tryd.f9.params.toList Rows.eveningHostsSpec.vars false W args.toList ds gs before)
    (hsz : (DataW.weightsEach Tryd.prog (Tryd.f9.params.toList ++ (OpenSpec.ofChange Rows.eveningHostsSpec).bare.plain.varTypes Tryd.prog) (ds ++ gs)).all (· ≤ reachBytes) = true) :
    Calls Tryd.prog 9 args W fun e W' => ∃ v, e = .returned v ∧ Rows.eveningHostsSpec.post enc Tryd.prog Tryd.f9 false true false false W args v W' := by
  have hW' := hW
  obtain ⟨p, q, hA0, hV, rfl, hfz, hnd⟩ := hW
  have hA : DataW.TrodAll enc Tryd.prog W 0 (fun _ => true) true Tryd.f9.params.toList args.toList ds p := hA0
  have hpar : Tryd.f9.params = #[52, 53] := by kernel_rfl
  rw [hpar] at hA hval
  obtain ⟨v0, vs0, d0, ds0, p0, q0, hargs, rfl, rfl, h0, r0⟩ := trodAll_cons hA
  obtain ⟨v1, vs1, d1, ds1, p1, q1, rfl, rfl, rfl, h1, r1⟩ := trodAll_cons r0
  obtain ⟨rfl, rfl, rfl⟩ := trodAll_nil r1
  obtain rfl : args = #[v0, v1] := by apply Array.ext'; simpa using hargs
  obtain ⟨a0, k0, g0⟩ := rd_arg (rd_slice (by kernel_rfl : Tryd.prog.underlying 52 = some (.slice 5)) (by kernel_rfl) (by kernel_rfl) (rd_int (by kernel_rfl : Tryd.prog.underlying 5 = some (.int .u8)))) (one_slice (by kernel_rfl : Tryd.prog.underlying 52 = some (.slice 5)) (hval 0 52 v0 rfl rfl)) h0 hsz (j := 0) (by kernel_rfl) rfl
  obtain ⟨a1, k1, g1⟩ := rd_arg (rd_slice (by kernel_rfl : Tryd.prog.underlying 53 = some (.slice 99)) (by kernel_rfl) (by kernel_rfl) (rd_pairs (by kernel_rfl : Tryd.prog.underlying 99 = some (.slice 100)) (by kernel_rfl : Tryd.prog.underlying 100 = some (.array 2 5)) (by kernel_rfl : Tryd.prog.underlying 5 = some (.int .u8)) (by kernel_rfl) (by kernel_rfl) (by kernel_rfl))) (one_slice (by kernel_rfl : Tryd.prog.underlying 53 = some (.slice 99)) (hval 1 53 v1 rfl rfl)) h1 hsz (j := 1) (by kernel_rfl) rfl
  have hc := law_ret a0 a1 (hosts_law a0 g0.1 (fun c hc => bounds_u8 (g0.2 c hc)) a1 g1.1 (fun l hl => ⟨(g1.2 l hl).1, fun p hp => ⟨bounds_u8 ((g1.2 l hl).2 p hp).1, bounds_u8 ((g1.2 l hl).2 p hp).2⟩⟩)) k0 k1
  unfold Ret at hc
  refine hc.mono fun e W' he => ?_
  cases e with
  | returned v =>
    obtain ⟨rfl, hg⟩ := he
    exact ⟨_, rfl, post_true laidOut (fun t ht => ⟨mem_of_laid (fun t => Tryd.prog.readableRec t) (by kernel_rfl) ht, of_decide_eq_true (mem_of_laid (fun t => decide (t < Tryd.prog.types.size)) (by kernel_rfl) ht)⟩) hW' rfl (by kernel_rfl) (by kernel_rfl : Tryd.prog.underlying 4 = some .bool) rfl hg⟩
  | panicked c => exact he.elim
  | outgrown => exact he.elim
theorem laid_met (os : Os) : laidMet Tryd.prog Rows.eveningHostsRow.laid ((laidWorld os).forCall (fun _ _ => 0) ⟨#[], #[Value.slice none 0 0, Value.slice none 0 0], []⟩).memory :=
  laidMet_of_run' 8 (by kernel_rfl) (by kernel_rfl)
theorem reads (os : Os) {H : Type} (enc : TypeId × Value → H) : ∃ places, DataW.whole enc Tryd.prog ((laidWorld os).forCall (fun _ _ => 0) ⟨#[], #[Value.slice none 0 0, Value.slice none 0 0], []⟩).memory Tryd.f9.params.toList Rows.eveningHostsSpec.vars false #[Value.slice none 0 0, Value.slice none 0 0].toList 8 = some ([.nil, .nil], [], places) :=
  ⟨[], by kernel_rfl⟩
set_option maxRecDepth 100000 in
theorem lifted (os : Os) (started : os.Started) (H : Type) (enc : TypeId × Value → H) (F : Stop.Interp) :
    ReturnsInHanded {} Tryd.checked os 9 .any ((OpenSpec.ofChange Rows.eveningHostsSpec).preRow enc Tryd.prog Tryd.f9 Rows.eveningHostsRow.domain false Rows.eveningHostsRow.laid) (((OpenSpec.ofChange Rows.eveningHostsSpec).at F).post enc Tryd.prog Tryd.f9 false true false false) := by
  obtain ⟨places, hx⟩ := reads os enc
  refine returnsInHanded_of_row (C := Tryd.checked) (s := OpenSpec.ofChange Rows.eveningHostsSpec) ownKnob0 started (by kernel_rfl) Tryd.func9
    (witness_row_at (enc := enc) (C := Tryd.checked) false (laidWorld os) #[Value.slice none 0 0, Value.slice none 0 0] rfl (by kernel_rfl) (by kernel_rfl) (by kernel_rfl)
      (OpenSpec.preRow_of_cond 8 hx (by kernel_rfl) (fun k hk => by cases hk) (by kernel_rfl) (laid_met os))) ?_
  intro W base args ds gs before hval hW _ _ hsz _ _ _
  exact contract H enc W base args ds gs before hval hW hsz
theorem said : Rows.EveningHostsSaid :=
  OpenClaim.holds_of_cond 9 Tryd.f9 rfl rfl rfl rfl rfl rfl rfl ⟨rfl, rfl, rfl, rfl, rfl⟩ rfl rfl rfl rfl rfl (by kernel_rfl) Tryd.func9 (by kernel_rfl)
    (of_decide_eq_true (by kernel_rfl)) (by unfold Func.isWrapper; first | (rw [if_pos (by decide +kernel)]; kernel_rfl) | (rw [if_neg (by decide +kernel)]; exact ⟨rfl, rfl⟩))
    (fun os started H enc _ F => by rw [OpenClaim.pre_eq_preRow]; exact lifted os started H enc F)
theorem plain (f : FuncId) (fn : Func) (hf : Tryd.pinned.checked.prog.funcNamed "trestle/trestlelaw09.EveningHosts" = some f) (hfn : Tryd.pinned.checked.prog.funcs[f]? = some fn) :
    false = Tryd.pinned.checked.prog.looks [] ∧ ∀ (j : Nat) t, fn.params[j]? = some t → Tryd.pinned.checked.prog.wantsStandIn t = false := by
  obtain rfl : f = 9 := Option.some.inj ((show Tryd.prog.funcNamed "trestle/trestlelaw09.EveningHosts" = some 9 by kernel_rfl).symm.trans hf) |>.symm
  obtain rfl : fn = Tryd.f9 := (Option.some.inj (Tryd.func9.symm.trans hfn)).symm
  refine ⟨by kernel_rfl, fun j t ht => ?_⟩
  have hm : t ∈ Tryd.f9.params.toList := by simpa using Array.mem_of_getElem? ht
  exact (show Tryd.prog.wantsStandIn t = false from Bool.not_eq_true' _ |>.mp (mem_of_laid (fun t => !Tryd.prog.wantsStandIn t) (by kernel_rfl) hm))
theorem card : Rows.EveningHostsCardSaid :=
  Claim7.holds_tied_plain_at .later [] _ _ _ _ said (fun _ h => by cases h) (by kernel_rfl) (fun _ h => by cases h) eveningHosts_row_tie rfl ⟨rfl, rfl⟩ (by kernel_rfl) rfl plain (by kernel_rfl)
end Go.Proofs.YthofgamegondnaaDoor.eveningHosts
