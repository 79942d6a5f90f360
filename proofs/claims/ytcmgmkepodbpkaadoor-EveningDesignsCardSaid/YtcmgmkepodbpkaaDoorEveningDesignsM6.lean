/- Lemmas for the proof. -/
import Derived.Test.YtcmgmkepodbpkaaDoorEveningDesignsM1
import Derived.Test.YtcmgmkepodbpkaaDoorEveningDesignsM2
import Derived.Test.YtcmgmkepodbpkaaDoorEveningDesignsM3
import Derived.Test.YtcmgmkepodbpkaaDoorEveningDesignsM4
import Derived.Test.YtcmgmkepodbpkaaDoorEveningDesignsM5
namespace Go.Proofs.YtcmgmkepodbpkaaDoor
open Go.RowKit
def evening_Net_3 (x0 : Int) (x1 : Int) (j6 : Int × Int × (List Int) × Bool) (c8 : (List (List (List Int)))) (c9 : Int) (c11 : (List (List Int))) (c12 : Int) : Nat → (List Int) → Int → Option (((List Int)))
 | 0, _, _ => none
 | f + 1, c14, c15 =>
  if (decide (c15 < x0)) = true then
  (evening_field_mul (j6.1, j6.2.1, j6.2.2.1) c9 c15).bind fun v17 =>
  (evening_field_add (j6.1, j6.2.1, j6.2.2.1) v17 c12).bind fun v18 =>
  if (capOk 8 (c14.length + 1)) = true then
  evening_Net_3 x0 x1 j6 c8 c9 c11 c12 f (c14 ++ [(wr .i64 ((wr .i64 (c15 * x1)) + v18))]) (wr .i64 (c15 + 1))
  else none
  else
  some c14
def evening_Net_2 (x0 : Int) (x1 : Int) (j6 : Int × Int × (List Int) × Bool) (c8 : (List (List (List Int)))) (c9 : Int) : Nat → (List (List Int)) → Int → Option (((List (List Int))))
 | 0, _, _ => none
 | f + 1, c11, c12 =>
  if (decide (c12 < x1)) = true then
  (evening_Net_3 x0 x1 j6 c8 c9 c11 c12 100000 [] 0).bind fun r21 =>
  if (capOk 24 (c11.length + 1)) = true then
  evening_Net_2 x0 x1 j6 c8 c9 f (c11 ++ [r21]) (wr .i64 (c12 + 1))
  else none
  else
  some c11
def evening_Net_1 (x0 : Int) (x1 : Int) (j6 : Int × Int × (List Int) × Bool) : Nat → (List (List (List Int))) → Int → Option (((List (List (List Int)))))
 | 0, _, _ => none
 | f + 1, c8, c9 =>
  if (decide (c9 < x1)) = true then
  (evening_Net_2 x0 x1 j6 c8 c9 100000 [] 0).bind fun r24 =>
  if (capOk 24 (c8.length + 1)) = true then
  evening_Net_1 x0 x1 j6 f (c8 ++ [r24]) (wr .i64 (c9 + 1))
  else none
  else
  some c8
def evening_Net (x0 : Int) (x1 : Int) : Option ((List (List (List Int))) × Int) :=
 (evening_fieldOf x1).bind fun v1 =>
 (if (!v1.2) = true then some (v1.1.1, v1.1.2.1, v1.1.2.2, true) else if (decide (x0 < 1)) = true then some (v1.1.1, v1.1.2.1, v1.1.2.2, true) else if (decide (x0 > x1)) = true then some (v1.1.1, v1.1.2.1, v1.1.2.2, true) else some (v1.1.1, v1.1.2.1, v1.1.2.2, (decide ((wr .i64 (x0 * x1)) > 64)))).bind fun j6 =>
 if j6.2.2.2 = true then
 some ([], 90)
 else
 (evening_Net_1 x0 x1 j6 100000 [] 0).bind fun r27 =>
 some (r27, 0)
def cs_evening_Net : Cs (Int × Int × Unit) := (csC cdI (csC cdI csN))
def er_evening_Net (r : (List (List (List Int))) × Int) : AV := .tp [(cdL 1 (cdL 1 (cdL 1 cdI))).enc r.1, cdI.enc r.2]
theorem dn_3 (k q : Int) (v : (Int × Int × List Int) × Bool) (b : Bool) (a : List (List (List Int))) (c : Int) (l2 : List (List Int)) (c2 : Int) : ∀ (f : Nat) (i : Int) (l : List Int), evening_Net_3 k q (v.1.1, v.1.2.1, v.1.2.2, b) a c l2 c2 f l i = evening_Net_d_3 k q v c c2 f i l
 | 0, _, _ => rfl
 | f + 1, i, l => by
  unfold evening_Net_3 evening_Net_d_3
  simp only [List.length_singleton, dn_3 k q v b a c l2 c2 f]
theorem dn_2 (k q : Int) (v : (Int × Int × List Int) × Bool) (b : Bool) (a : List (List (List Int))) (c : Int) : ∀ (f : Nat) (i : Int) (l : List (List Int)), evening_Net_2 k q (v.1.1, v.1.2.1, v.1.2.2, b) a c f l i = evening_Net_d_2 k q v c f i l
 | 0, _, _ => rfl
 | f + 1, i, l => by
  unfold evening_Net_2 evening_Net_d_2
  simp only [List.length_singleton, dn_2 k q v b a c f, dn_3]
theorem dn_1 (k q : Int) (v : (Int × Int × List Int) × Bool) (b : Bool) : ∀ (f : Nat) (i : Int) (l : List (List (List Int))), evening_Net_1 k q (v.1.1, v.1.2.1, v.1.2.2, b) f l i = evening_Net_d_1 k q v f i l
 | 0, _, _ => rfl
 | f + 1, i, l => by
  unfold evening_Net_1 evening_Net_d_1
  simp only [List.length_singleton, dn_1 k q v b f, dn_2]
theorem dnet (k q : Int) : evening_Net k q = sw (evening_Net_d k q) := by
 unfold evening_Net evening_Net_d
 cases evening_fieldOf q with
 | none => rfl
 | some v =>
  simp only [Option.bind_some]
  have hq : ∀ b : Bool, (if b = true then some (([] : List (List (List Int))), (90 : Int)) else (evening_Net_1 k q (v.1.1, v.1.2.1, v.1.2.2, b) 100000 [] 0).bind fun r27 => some (r27, 0)) = sw (if b = true then some (90, []) else (evening_Net_d_1 k q v 100000 0 []).bind fun r92 => some (0, r92)) := fun b => by
   rw [dn_1]
   cases b
   ·simp only [Bool.false_eq_true, if_false]
    cases evening_Net_d_1 k q v 100000 0 [] <;> rfl
   ·rfl
  by_cases h1 : (!v.2) = true
  ·rw [if_pos h1, if_pos h1]; exact hq true
  ·rw [if_neg h1, if_neg h1]
   by_cases h2 : decide (k < 1) = true
   ·rw [if_pos h2, if_pos h2]; exact hq true
   ·rw [if_neg h2, if_neg h2]
    by_cases h3 : decide (k > q) = true
    ·rw [if_pos h3, if_pos h3]; exact hq true
    ·rw [if_neg h3, if_neg h3]; exact hq _
def t_evening_Net : List AV → Option AV := told cs_evening_Net (fun a => evening_Net a.1 a.2.1) er_evening_Net
theorem x_evening_Net : XOk 60 t_evening_Net := by
 refine EnvOk.x (E := e_evening_Net_d) (contract_ok e_evening_Net_d_ok (fn := Tryd.f60) (c := cb_evening_Net_d) ?h1 ?h2 ⟨Tryd.call60⟩ cs_evening_Net (fun a => evening_Net a.1 a.2.1) er_evening_Net (fun a => (by show 2 ≤ 74; decide)) ?h3 ?h4) rfl rfl
 case h1 => kernel_rfl
 case h2 => kernel_rfl
 case h3 => intro b; kernel_rfl
 case h4 =>
  intro a b h
  have hd : evening_Net_d a.1 a.2.1 = some (b.2, b.1) := sw_some (by rw [← dnet]; exact h)
  exact sem_frz2 (r0 := 4) (r1 := 5) (by decide) (SemY.mono (evening_Net_d_sem (L := []) (hp := []) a.1 a.2.1 _ hd T.nil) fun e s' hs => hs)
def evening_Plane_1 (x0 : Int) (v1 : (List (List (List Int))) × Int) : Nat → (List (List Int)) → Int → Option (((List (List Int))))
 | 0, _, _ => none
 | f + 1, c3, c4 =>
  if (decide (c4 < x0)) = true then
  (evening_span (wr .i64 (c4 * x0)) x0).bind fun v6 =>
  if (capOk 24 (c3.length + 1)) = true then
  evening_Plane_1 x0 v1 f (c3 ++ [v6]) (wr .i64 (c4 + 1))
  else none
  else
  some c3
def evening_Plane (x0 : Int) : Option ((List (List (List Int))) × Int) :=
 (evening_Net x0 x0).bind fun v1 =>
 if (v1.2 != 0) = true then
 some ([], v1.2)
 else
 (evening_Plane_1 x0 v1 100000 [] 0).bind fun r9 =>
 if (capOk 24 (v1.1.length + 1)) = true then
 some ((v1.1 ++ [r9]), 0)
 else none
def cs_evening_Plane : Cs (Int × Unit) := (csC cdI csN)
def er_evening_Plane (r : (List (List (List Int))) × Int) : AV := .tp [(cdL 1 (cdL 1 (cdL 1 cdI))).enc r.1, cdI.enc r.2]
theorem dsp_1 (a k : Int) : ∀ (f : Nat) (i : Int) (l : List Int), evening_span_1 a k f l i = evening_span_d_1 a k f i l
 | 0, _, _ => rfl
 | f + 1, i, l => by
  unfold evening_span_1 evening_span_d_1
  simp only [List.length_singleton, dsp_1 a k f]
theorem dspan (a k : Int) : evening_span a k = evening_span_d a k := by
 unfold evening_span evening_span_d
 simp only [dsp_1]
theorem dpl_1 (n : Int) (v : List (List (List Int)) × Int) : ∀ (f : Nat) (i : Int) (l : List (List Int)), evening_Plane_1 n v f l i = evening_Plane_d_1 n f i l
 | 0, _, _ => rfl
 | f + 1, i, l => by
  unfold evening_Plane_1 evening_Plane_d_1
  simp only [List.length_singleton, dpl_1 n v f, dspan]
theorem dplane (n : Int) : evening_Plane n = sw (evening_Plane_d n) := by
 unfold evening_Plane evening_Plane_d
 rw [dnet]
 simp only [dpl_1]
 cases evening_Net_d n n with
 | none => rfl
 | some v =>
  show (if (v.1 != 0) = true then _ else _) = sw (if (v.1 != 0) = true then _ else _)
  split
  ·rfl
  ·show ((evening_Plane_d_1 n 100000 0 []).bind _) = _
   cases evening_Plane_d_1 n 100000 0 [] with
   | none => rfl
   | some r =>
    show (if capOk 24 (v.2.length + 1) = true then _ else _) = sw (if capOk 24 (v.2.length + 1) = true then _ else _)
    split <;> rfl
def t_evening_Plane : List AV → Option AV := told cs_evening_Plane (fun a => evening_Plane a.1) er_evening_Plane
theorem x_evening_Plane : XOk 45 t_evening_Plane := by
 refine EnvOk.x (E := e_evening_Plane_d) (contract_ok e_evening_Plane_d_ok (fn := Tryd.f45) (c := cb_evening_Plane_d) ?h1 ?h2 ⟨Tryd.call45⟩ cs_evening_Plane (fun a => evening_Plane a.1) er_evening_Plane (fun a => (by show 1 ≤ 34; decide)) ?h3 ?h4) rfl rfl
 case h1 => kernel_rfl
 case h2 => kernel_rfl
 case h3 => intro b; kernel_rfl
 case h4 =>
  intro a b h
  have hd : evening_Plane_d a.1 = some (b.2, b.1) := sw_some (by rw [← dplane]; exact h)
  exact sem_frz2 (r0 := 2) (r1 := 3) (by decide) (SemY.mono (evening_Plane_d_sem (L := []) (hp := []) a.1 _ hd T.nil) fun e s' hs => hs)
/- trestle/evening.Design -/
noncomputable def e_evening_Design : Env := (((((((E0.withX 82 t_evening_guests).withX 69 t_evening_span).withX 105 t_evening_alone).withX 44 t_evening_Pairs).withX 106 t_evening_Kirkman).withX 45 t_evening_Plane).withX 60 t_evening_Net)
theorem e_evening_Design_ok : EnvOk e_evening_Design := (EnvOk.withX (EnvOk.withX (EnvOk.withX (EnvOk.withX (EnvOk.withX (EnvOk.withX (EnvOk.withX E0_ok x_evening_guests.1 x_evening_guests.2) x_evening_span.1 x_evening_span.2) x_evening_alone.1 x_evening_alone.2) x_evening_Pairs.1 x_evening_Pairs.2) x_evening_Kirkman.1 x_evening_Kirkman.2) x_evening_Plane.1 x_evening_Plane.2) x_evening_Net.1 x_evening_Net.2)
noncomputable def cb_evening_Design : Code := codeOf Tryd.f63
def evening_Design_j1 (x0 : Int) (x1 : Int) (x2 : Int) : Option (((List (List (List Int))))) :=
 if (x1 == 2) = true then
 (evening_Pairs x0).bind fun v18 =>
 some v18.1
 else
 some []
def evening_Design_j2 (x0 : Int) (x1 : Int) (x2 : Int) (r20 : (List (List (List Int)))) (j22 : Bool) : Option (((List (List (List Int))))) :=
 if j22 = true then
 evening_Kirkman.bind fun v24 =>
 some v24
 else
 some r20
def evening_Design_j3 (x0 : Int) (x1 : Int) (x2 : Int) (r26 : (List (List (List Int)))) (j28 : Bool) : Option (((List (List (List Int))))) :=
 if j28 = true then
 (evening_Plane x1).bind fun v30 =>
 some v30.1
 else
 some r26
def evening_Design_j4 (x0 : Int) (x1 : Int) (x2 : Int) (r32 : (List (List (List Int)))) : Option (((List (List (List Int))))) :=
 if (decide ((r32.length : Int) < x2)) = true then
 if x1 = (0 : Int) then none else
 (evening_Net x1 (wr .i64 (x0.tdiv x1))).bind fun v35 =>
 some v35.1
 else
 some r32
def evening_Design (x0 : Int) (x1 : Int) (x2 : Int) : Option ((List (List (List Int))) × Int) :=
 (evening_guests x0).bind fun v1 =>
 (if (!v1) = true then some true else if (decide (x1 < 1)) = true then some true else if (decide (x1 > x0)) = true then some true else if x1 = (0 : Int) then none else
 some ((x0.tmod x1) != 0)).bind fun j4 =>
 if j4 = true then
 some ([], 90)
 else
 (if (decide (x2 < 0)) = true then some true else some (decide (x2 > 64))).bind fun j7 =>
 if j7 = true then
 some ([], 2)
 else
 if (x2 == 0) = true then
 some ([], 0)
 else
 (if (x1 == x0) = true then some (x2 == 1) else some false).bind fun j11 =>
 if j11 = true then
 (evening_span 0 x0).bind fun v13 =>
 some ([[v13]], 0)
 else
 if (x1 == 1) = true then
 (evening_alone x0).bind fun v15 =>
 if (cutOk 0 x2 v15.length) = true then
 some (((v15.take x2.toNat).drop (0 : Int).toNat), 0)
 else none
 else
 (evening_Design_j1 x0 x1 x2).bind fun r20 =>
 (if (x1 == 3) = true then some (x0 == 15) else some false).bind fun j22 =>
 (evening_Design_j2 x0 x1 x2 r20 j22).bind fun r26 =>
 (if ((wr .i64 (x1 * x1)) == x0) = true then some (decide ((r26.length : Int) < x2)) else some false).bind fun j28 =>
 (evening_Design_j3 x0 x1 x2 r26 j28).bind fun r32 =>
 (evening_Design_j4 x0 x1 x2 r32).bind fun r37 =>
 if (decide ((r37.length : Int) < x2)) = true then
 some ([], 91)
 else
 if (cutOk 0 x2 r37.length) = true then
 some (((r37.take x2.toNat).drop (0 : Int).toNat), 0)
 else none
def cs_evening_Design : Cs (Int × Int × Int × Unit) := (csC cdI (csC cdI (csC cdI csN)))
def er_evening_Design (r : (List (List (List Int))) × Int) : AV := .tp [(cdL 1 (cdL 1 (cdL 1 cdI))).enc r.1, cdI.enc r.2]
set_option maxHeartbeats 4000000 in
set_option maxRecDepth 100000 in
theorem evening_Design_j1_ok (x0 : Int) (x1 : Int) (x2 : Int) (r : ((List (List (List Int))))) (h : evening_Design_j1 x0 x1 x2 = some r) : Sem e_evening_Design ⟨none, false⟩ (pc cb_evening_Design [1, 1, 1, 0, 1]) ⟨Fr 106 [(0, .v (.int .i64 x0)), (1, .v (.int .i64 x1)), (2, .v (.int .i64 x2)), (8, .e0), (58, .v (.bool (x1 == 2)))], []⟩ (fun e s => e = .normal ∧ Wk e_evening_Design s ⟨Fr 106 [(0, .v (.int .i64 x0)), (1, .v (.int .i64 x1)), (2, .v (.int .i64 x2)), (8, .sl 1 (r.map (cdL 1 (cdL 1 cdI)).enc))], []⟩) := by
 have he := e_evening_Design_ok
 unfold evening_Design_j1 at h
 refine Sem.cond (b := (x1 == 2)) kr (fun hb17 => ?_) (fun hb17 => ?_)
 ·rw [if_pos hb17] at h
  obtain ⟨v18, hv18, h⟩ := Option.bind_eq_some_iff.1 h
  refine Sem.runS (s1 := ⟨Fr 106 [(0, .v (.int .i64 x0)), (1, .v (.int .i64 x1)), (2, .v (.int .i64 x2)), (8, .sl 1 (v18.1.map (cdL 1 (cdL 1 cdI)).enc))], []⟩) ?_ ?_
  ·refine RunS.segF (n := 106) he 1 [(0, .v (.int .i64 x0)), (1, .v (.int .i64 x1)), (2, .v (.int .i64 x2)), (60, .v (.int .i64 x0))] [] kr ?_
   refine RunS.call he (fid := 44) (s := cs_evening_Pairs) (F := fun a => evening_Pairs a.1) (er := er_evening_Pairs) (xs := [.v (.int .i64 x0)]) (a := (x0, ())) rfl (wantedA_none rfl) kr kr kr kr (Sns.cons (Sn.enc (c := cdI) (v := x0)) Sns.nil) (.inl kr) hv18 ?_
   exact RunS.last he
  have hq := Option.some.inj h; subst hq
  exact ⟨rfl, (Wk.fr kr)⟩
 ·rw [if_f hb17] at h
  refine Sem.skip ?_
  have hq := Option.some.inj h; subst hq
  let p1 : Nat × AV := (2, .v (.int .i64 x2))
  let p2 : Nat × AV := (1, .v (.int .i64 x1))
  let p3 : Nat × AV := (0, .v (.int .i64 x0))
  exact ⟨rfl, (Wk.trans (s1 := ⟨Fr 106 [p3, p2, p1, (8, .e0)], []⟩) (Wk.fr kr) (Wk.trans (s1 := ⟨Fr 106 [p3, p2, p1, (8, .e0)], [none]⟩) Wk.none (Wk.trans (s1 := ⟨Fr 106 [p3, p2, p1, (8, .sl 1 ([].map (cdL 1 (cdL 1 cdI)).enc))], [none]⟩) (Wk.frzG 0 (.inr kr) ⟨.inl rfl, trivial⟩ ⟨⟨.v (.int .i64 x0), kr, .inl rfl⟩, ⟨.v (.int .i64 x1), kr, .inl rfl⟩, ⟨.v (.int .i64 x2), kr, .inl rfl⟩, ⟨.e0, kr, fz_e0⟩, trivial⟩) (Wk.sel2 [] kr kr kr trivial ⟨lu kr kr, lu kr kr, lu kr kr, lu kr kr, trivial⟩))))⟩
set_option maxHeartbeats 4000000 in
set_option maxRecDepth 100000 in
theorem evening_Design_j2_ok (x0 : Int) (x1 : Int) (x2 : Int) (r20 : (List (List (List Int)))) (j22 : Bool) (r : ((List (List (List Int))))) (h : evening_Design_j2 x0 x1 x2 r20 j22 = some r) : Sem e_evening_Design ⟨none, false⟩ (pc cb_evening_Design [1, 1, 1, 1, 0, 1]) ⟨Fr 106 [(0, .v (.int .i64 x0)), (1, .v (.int .i64 x1)), (2, .v (.int .i64 x2)), (8, .sl 1 (r20.map (cdL 1 (cdL 1 cdI)).enc)), (69, .v (.bool j22))], []⟩ (fun e s => e = .normal ∧ Wk e_evening_Design s ⟨Fr 106 [(0, .v (.int .i64 x0)), (1, .v (.int .i64 x1)), (2, .v (.int .i64 x2)), (8, .sl 1 (r.map (cdL 1 (cdL 1 cdI)).enc))], []⟩) := by
 unfold evening_Design_j2 at h
 refine Sem.cond (b := j22) kr (fun hb23 => ?_) (fun hb23 => ?_)
 ·rw [if_pos hb23] at h
  obtain ⟨v24, hv24, h⟩ := Option.bind_eq_some_iff.1 h
  refine Sem.runS (s1 := ⟨Fr 106 [(0, .v (.int .i64 x0)), (1, .v (.int .i64 x1)), (2, .v (.int .i64 x2)), (8, .sl 1 (v24.map (cdL 1 (cdL 1 cdI)).enc))], []⟩) ?_ ?_
  ·refine RunS.call e_evening_Design_ok (fid := 106) (s := cs_evening_Kirkman) (F := fun a => evening_Kirkman ) (er := er_evening_Kirkman) (xs := []) (a := (())) rfl (wantedA_none rfl) kr kr kr kr Sns.nil (.inl kr) hv24 ?_
   exact RunS.last e_evening_Design_ok
  have hq := Option.some.inj h; subst hq
  exact ⟨rfl, (Wk.fr kr)⟩
 ·rw [if_f hb23] at h
  refine Sem.skip ?_
  have hq := Option.some.inj h; subst hq
  exact ⟨rfl, (Wk.fr kr)⟩
set_option maxHeartbeats 4000000 in
set_option maxRecDepth 100000 in
theorem evening_Design_j3_ok (x0 : Int) (x1 : Int) (x2 : Int) (r26 : (List (List (List Int)))) (j28 : Bool) (r : ((List (List (List Int))))) (h : evening_Design_j3 x0 x1 x2 r26 j28 = some r) : Sem e_evening_Design ⟨none, false⟩ (pc cb_evening_Design [1, 1, 1, 1, 1, 0, 1]) ⟨Fr 106 [(0, .v (.int .i64 x0)), (1, .v (.int .i64 x1)), (2, .v (.int .i64 x2)), (8, .sl 1 (r26.map (cdL 1 (cdL 1 cdI)).enc)), (81, .v (.bool j28))], []⟩ (fun e s => e = .normal ∧ Wk e_evening_Design s ⟨Fr 106 [(0, .v (.int .i64 x0)), (1, .v (.int .i64 x1)), (2, .v (.int .i64 x2)), (8, .sl 1 (r.map (cdL 1 (cdL 1 cdI)).enc))], []⟩) := by
 have he := e_evening_Design_ok
 unfold evening_Design_j3 at h
 refine Sem.cond (b := j28) kr (fun hb29 => ?_) (fun hb29 => ?_)
 ·rw [if_pos hb29] at h
  obtain ⟨v30, hv30, h⟩ := Option.bind_eq_some_iff.1 h
  refine Sem.runS (s1 := ⟨Fr 106 [(0, .v (.int .i64 x0)), (1, .v (.int .i64 x1)), (2, .v (.int .i64 x2)), (8, .sl 1 (v30.1.map (cdL 1 (cdL 1 cdI)).enc))], []⟩) ?_ ?_
  ·refine RunS.segF (n := 106) he 1 [(0, .v (.int .i64 x0)), (1, .v (.int .i64 x1)), (2, .v (.int .i64 x2)), (83, .v (.int .i64 x1))] [] kr ?_
   refine RunS.call he (fid := 45) (s := cs_evening_Plane) (F := fun a => evening_Plane a.1) (er := er_evening_Plane) (xs := [.v (.int .i64 x1)]) (a := (x1, ())) rfl (wantedA_none rfl) kr kr kr kr (Sns.cons (Sn.enc (c := cdI) (v := x1)) Sns.nil) (.inl kr) hv30 ?_
   exact RunS.last he
  have hq := Option.some.inj h; subst hq
  exact ⟨rfl, (Wk.fr kr)⟩
 ·rw [if_f hb29] at h
  refine Sem.skip ?_
  have hq := Option.some.inj h; subst hq
  exact ⟨rfl, (Wk.fr kr)⟩
set_option maxHeartbeats 4000000 in
set_option maxRecDepth 100000 in
theorem evening_Design_j4_ok (x0 : Int) (x1 : Int) (x2 : Int) (r32 : (List (List (List Int)))) (r : ((List (List (List Int))))) (h : evening_Design_j4 x0 x1 x2 r32 = some r) : Sem e_evening_Design ⟨none, false⟩ (pc cb_evening_Design [1, 1, 1, 1, 1, 1, 0, 1]) ⟨Fr 106 [(0, .v (.int .i64 x0)), (1, .v (.int .i64 x1)), (2, .v (.int .i64 x2)), (8, .sl 1 (r32.map (cdL 1 (cdL 1 cdI)).enc)), (90, .v (.bool (decide ((r32.length : Int) < x2))))], []⟩ (fun e s => e = .normal ∧ Wk e_evening_Design s ⟨Fr 106 [(2, .v (.int .i64 x2)), (8, .sl 1 (r.map (cdL 1 (cdL 1 cdI)).enc))], []⟩) := by
 have he := e_evening_Design_ok
 unfold evening_Design_j4 at h
 refine Sem.cond (b := (decide ((r32.length : Int) < x2))) kr (fun hb33 => ?_) (fun hb33 => ?_)
 ·rw [if_pos hb33] at h
  by_cases hz34 : x1 = (0 : Int)
  ·rw [if_pos hz34] at h; cases h
  rw [if_neg hz34] at h
  obtain ⟨v35, hv35, h⟩ := Option.bind_eq_some_iff.1 h
  refine Sem.runS (s1 := ⟨Fr 106 [(2, .v (.int .i64 x2)), (8, .sl 1 (v35.1.map (cdL 1 (cdL 1 cdI)).enc))], []⟩) ?_ ?_
  ·refine RunS.segF (n := 106) he 3 [(2, .v (.int .i64 x2)), (92, .v (.int .i64 x1)), (93, .v (.int .i64 x0)), (94, .v (.int .i64 x1))] [] kr ?_
   refine RunS.one he 0 rfl (op_q (wantedA_none rfl) rfl (q_bin (a := .v (.int .i64 x0)) (b := .v (.int .i64 x1)) kr kr (bin_quo hz34))) ?_
   refine RunS.call he (fid := 60) (b := v35) (s := cs_evening_Net) (F := fun a => evening_Net a.1 a.2.1) (er := er_evening_Net) (xs := [.v (.int .i64 x1), .v (.int .i64 (wr .i64 (x0.tdiv x1)))]) (a := (x1, (wr .i64 (x0.tdiv x1)), ())) rfl (wantedA_none rfl) kr kr kr kr (Sns.cons (Sn.enc (c := cdI) (v := x1)) (Sns.cons (Sn.enc (c := cdI) (v := (wr .i64 (x0.tdiv x1)))) Sns.nil)) (.inl kr) (by dsimp only; exact hv35) ?_
   exact RunS.last he
  have hq := Option.some.inj h; subst hq
  exact ⟨rfl, (Wk.fr kr)⟩
 ·rw [if_f hb33] at h
  refine Sem.skip ?_
  have hq := Option.some.inj h; subst hq
  exact ⟨rfl, (Wk.fr kr)⟩
set_option maxHeartbeats 4000000 in
set_option maxRecDepth 100000 in
theorem evening_Design_sem (x0 : Int) (x1 : Int) (x2 : Int) (r : (List (List (List Int))) × Int) (h : evening_Design x0 x1 x2 = some r) : Sem e_evening_Design ⟨none, false⟩ cb_evening_Design ⟨Fr 106 (pairs0 0 (cs_evening_Design.enc (x0, x1, x2, ()))), []⟩ fun e s' => (e = .normal ∨ e = .ret) ∧ ∃ xs, resA e_evening_Design.P s'.fr s'.hp Tryd.f63.results.toList = some xs ∧ retA xs = er_evening_Design r := by
 have he := e_evening_Design_ok
 unfold evening_Design at h
 let p1 : Nat × AV := (2, .v (.int .i64 x2))
 let p2 : Nat × AV := (1, .v (.int .i64 x1))
 let p3 : Nat × AV := (0, .v (.int .i64 x0))
 refine Sem.wkQ (Sem.wk (s1 := ⟨Fr 106 [p3, p2, p1], []⟩) (Wk.fr kr) ?_)
 refine Sem.sq he [p3, p2, p1] [] ?_
 refine Sem.seq ?_
 refine Sem.block ?_
 refine Sem.seq ?_
 obtain ⟨v1, hv1, h⟩ := Option.bind_eq_some_iff.1 h
 obtain ⟨j4, hj4, h⟩ := Option.bind_eq_some_iff.1 h
 refine Sem.runS (s1 := ⟨Fr 106 [p3, p2, p1, (9, .v (.bool j4))], []⟩) ?_ ?_
 ·refine RunS.segF (n := 106) he 1 [p3, p2, p1, (10, .v (.int .i64 x0))] [] kr ?_
  refine RunS.call he (fid := 82) (s := cs_evening_guests) (F := fun a => evening_guests a.1) (er := er_evening_guests) (xs := [.v (.int .i64 x0)]) (a := (x0, ())) rfl (wantedA_none rfl) kr kr kr kr (Sns.cons (Sn.enc (c := cdI) (v := x0)) Sns.nil) (.inl kr) hv1 ?_
  refine RunS.segF (n := 106) he 2 [p3, p2, p1, (13, .v (.bool (!v1)))] [] kr ?_
  rcases Bool.eq_false_or_eq_true (!v1) with hc44 | hc44
  ·rw [if_pos hc44] at hj4
   rw [hc44]
   refine RunS.segF (n := 106) he 15 [p3, p2, p1, (9, .v (.bool true))] [] kr ?_
   have hq := Option.some.inj hj4; subst hq
   exact RunS.done rfl (Wk.fr kr)
  ·rw [if_f hc44] at hj4
   rw [hc44]
   refine RunS.segF (n := 106) he 4 [p3, p2, p1, (17, .v (.bool (decide (x1 < 1))))] [] kr ?_
   rcases Bool.eq_false_or_eq_true (decide (x1 < 1)) with hc45 | hc45
   ·rw [if_pos hc45] at hj4
    rw [hc45]
    refine RunS.segF (n := 106) he 11 [p3, p2, p1, (9, .v (.bool true))] [] kr ?_
    have hq := Option.some.inj hj4; subst hq
    exact RunS.done rfl (Wk.fr kr)
   ·rw [if_f hc45] at hj4
    rw [hc45]
    refine RunS.segF (n := 106) he 5 [p3, p2, p1, (22, .v (.bool (decide (x1 > x0))))] [] kr ?_
    rcases Bool.eq_false_or_eq_true (decide (x1 > x0)) with hc46 | hc46
    ·rw [if_pos hc46] at hj4
     rw [hc46]
     refine RunS.segF (n := 106) he 6 [p3, p2, p1, (9, .v (.bool true))] [] kr ?_
     have hq := Option.some.inj hj4; subst hq
     exact RunS.done rfl (Wk.fr kr)
    ·rw [if_f hc46] at hj4
     rw [hc46]
     refine RunS.segF (n := 106) he 2 [p3, p2, p1, (22, .v (.bool false)), (23, .v (.int .i64 x0)), (24, .v (.int .i64 x1))] [] kr ?_
     by_cases hz2 : x1 = (0 : Int)
     ·rw [if_pos hz2] at hj4; cases hj4
     rw [if_neg hz2] at hj4
     refine RunS.one he 0 rfl (op_q kr rfl (q_bin (a := .v (.int .i64 x0)) (b := .v (.int .i64 x1)) kr kr (bin_rem hz2))) ?_
     refine RunS.segF (n := 106) he 3 [p3, p2, p1, (9, .v (.bool ((x0.tmod x1) != 0)))] [] kr ?_
     have hq := Option.some.inj hj4; subst hq
     exact RunS.done rfl (Wk.fr kr)
 refine Sem.cond (b := j4) kr (fun hb5 => ?_) (fun hb5 => ?_)
 ·rw [if_pos hb5] at h
  let p4 : Nat × AV := (7, .v (.int .i64 90))
  refine Sem.sq he [(6, .e0), p4] [] ?_
  refine Sem.ret ?_
  have hq := Option.some.inj h; subst hq
  let p5 : Nat × AV := (6, .sl 1 ([].map (cdL 1 (cdL 1 cdI)).enc))
  exact ⟨⟨Fr 106 [p5, p4], []⟩, (Wk.trans (s1 := ⟨Fr 106 [(6, .e0), p4], []⟩) (Wk.fr kr) (Wk.trans (s1 := ⟨Fr 106 [(6, .e0), p4], [none]⟩) Wk.none (Wk.trans (s1 := ⟨Fr 106 [p5, p4], [none]⟩) (Wk.frzG 0 (.inr kr) ⟨.inl rfl, trivial⟩ ⟨⟨.e0, kr, fz_e0⟩, ⟨.v (.int .i64 90), kr, .inl rfl⟩, trivial⟩) (Wk.sel2 [] kr kr kr trivial ⟨lu kr kr, lu kr kr, trivial⟩)))), .inr rfl, [.sl 1 ([].map (cdL 1 (cdL 1 cdI)).enc), .v (.int .i64 90)], kr, kr⟩
 ·rw [if_f hb5] at h
  refine Sem.seq ?_
  obtain ⟨j7, hj7, h⟩ := Option.bind_eq_some_iff.1 h
  refine Sem.runS (s1 := ⟨Fr 106 [p3, p2, p1, (28, .v (.bool j7))], []⟩) ?_ ?_
  ·refine RunS.segF (n := 106) he 3 [p3, p2, p1, (31, .v (.bool (decide (x2 < 0))))] [] kr ?_
   rcases Bool.eq_false_or_eq_true (decide (x2 < 0)) with hc43 | hc43
   ·rw [if_pos hc43] at hj7
    rw [hc43]
    refine RunS.segF (n := 106) he 4 [p3, p2, p1, (28, .v (.bool true))] [] kr ?_
    have hq := Option.some.inj hj7; subst hq
    exact RunS.done rfl (Wk.fr kr)
   ·rw [if_f hc43] at hj7
    rw [hc43]
    refine RunS.segF (n := 106) he 4 [p3, p2, p1, (28, .v (.bool (decide (x2 > 64))))] [] kr ?_
    have hq := Option.some.inj hj7; subst hq
    exact RunS.done rfl (Wk.fr kr)
  refine Sem.cond (b := j7) kr (fun hb8 => ?_) (fun hb8 => ?_)
  ·rw [if_pos hb8] at h
   let p6 : Nat × AV := (7, .v (.int .i64 2))
   refine Sem.sq he [(6, .e0), p6] [] ?_
   refine Sem.ret ?_
   have hq := Option.some.inj h; subst hq
   let p7 : Nat × AV := (6, .sl 1 ([].map (cdL 1 (cdL 1 cdI)).enc))
   exact ⟨⟨Fr 106 [p7, p6], []⟩, (Wk.trans (s1 := ⟨Fr 106 [(6, .e0), p6], []⟩) (Wk.fr kr) (Wk.trans (s1 := ⟨Fr 106 [(6, .e0), p6], [none]⟩) Wk.none (Wk.trans (s1 := ⟨Fr 106 [p7, p6], [none]⟩) (Wk.frzG 0 (.inr kr) ⟨.inl rfl, trivial⟩ ⟨⟨.e0, kr, fz_e0⟩, ⟨.v (.int .i64 2), kr, .inl rfl⟩, trivial⟩) (Wk.sel2 [] kr kr kr trivial ⟨lu kr kr, lu kr kr, trivial⟩)))), .inr rfl, [.sl 1 ([].map (cdL 1 (cdL 1 cdI)).enc), .v (.int .i64 2)], kr, kr⟩
  ·rw [if_f hb8] at h
   refine Sem.sq he [p3, p2, p1, (35, .v (.bool (x2 == 0)))] [] ?_
   refine Sem.cond (b := (x2 == 0)) kr (fun hb9 => ?_) (fun hb9 => ?_)
   ·rw [if_pos hb9] at h
    let p8 : Nat × AV := (7, .v (.int .i64 0))
    refine Sem.sq he [(6, .e0), p8] [] ?_
    refine Sem.ret ?_
    have hq := Option.some.inj h; subst hq
    let p9 : Nat × AV := (6, .sl 1 ([].map (cdL 1 (cdL 1 cdI)).enc))
    exact ⟨⟨Fr 106 [p9, p8], []⟩, (Wk.trans (s1 := ⟨Fr 106 [(6, .e0), p8], []⟩) (Wk.fr kr) (Wk.trans (s1 := ⟨Fr 106 [(6, .e0), p8], [none]⟩) Wk.none (Wk.trans (s1 := ⟨Fr 106 [p9, p8], [none]⟩) (Wk.frzG 0 (.inr kr) ⟨.inl rfl, trivial⟩ ⟨⟨.e0, kr, fz_e0⟩, ⟨.v (.int .i64 0), kr, .inl rfl⟩, trivial⟩) (Wk.sel2 [] kr kr kr trivial ⟨lu kr kr, lu kr kr, trivial⟩)))), .inr rfl, [.sl 1 ([].map (cdL 1 (cdL 1 cdI)).enc), .v (.int .i64 0)], kr, kr⟩
   ·rw [if_f hb9] at h
    refine Sem.seq ?_
    obtain ⟨j11, hj11, h⟩ := Option.bind_eq_some_iff.1 h
    refine Sem.runS (s1 := ⟨Fr 106 [p3, p2, p1, (38, .v (.bool j11))], []⟩) ?_ ?_
    ·refine RunS.segF (n := 106) he 4 [p3, p2, p1, (42, .v (.bool (x1 == x0)))] [] kr ?_
     rcases Bool.eq_false_or_eq_true (x1 == x0) with hc42 | hc42
     ·rw [if_pos hc42] at hj11
      rw [hc42]
      refine RunS.segF (n := 106) he 4 [p3, p2, p1, (38, .v (.bool (x2 == 1)))] [] kr ?_
      have hq := Option.some.inj hj11; subst hq
      exact RunS.done rfl (Wk.fr kr)
     ·rw [if_f hc42] at hj11
      rw [hc42]
      refine RunS.segF (n := 106) he 4 [p3, p2, p1, (38, .v (.bool false))] [] kr ?_
      have hq := Option.some.inj hj11; subst hq
      exact RunS.done rfl (Wk.fr kr)
    refine Sem.cond (b := j11) kr (fun hb12 => ?_) (fun hb12 => ?_)
    ·rw [if_pos hb12] at h
     refine Sem.seq ?_
     obtain ⟨v13, hv13, h⟩ := Option.bind_eq_some_iff.1 h
     let p10 : Option Blk := mk 1 50 ([[v13]].map (cdL 1 (cdL 1 cdI)).enc)
     let p11 : Nat × AV := (7, .v (.int .i64 0))
     refine Sem.runS (s1 := ⟨Fr 106 [(6, hd 0 ([[v13]].map (cdL 1 (cdL 1 cdI)).enc)), p11], [p10]⟩) ?_ ?_
     ·refine RunS.segF (n := 106) he 1 [(46, .v (.int .i64 x0))] [] kr ?_
      refine RunS.call he (fid := 69) (s := cs_evening_span) (F := fun a => evening_span a.1 a.2.1) (er := er_evening_span) (xs := [.v (.int .i64 0), .v (.int .i64 x0)]) (a := (0, x0, ())) rfl (wantedA_none rfl) kr kr kr kr (Sns.cons (Sn.enc (c := cdI) (v := 0)) (Sns.cons (Sn.enc (c := cdI) (v := x0)) Sns.nil)) (.inl kr) hv13 ?_
      refine RunS.segF (n := 106) he 4 [(6, .rf 1 0 1 1), p11] [mk 1 31 ([v13].map (cdL 1 cdI).enc), some ⟨1, 50, [hd 0 ([v13].map (cdL 1 cdI).enc)], false⟩] kr ?_
      exact RunS.done rfl (Wk.trans (s1 := ⟨Fr 106 [(6, hd 1 ([[v13]].map (cdL 1 (cdL 1 cdI)).enc)), p11], [none, p10]⟩) (Wk.frzG 0 (.inl kr) ⟨.inl rfl, .inr (.inr ⟨_, _, _, _, rfl, rfl, ⟨fz_hd (t := 31) kr enc_ok, trivial⟩⟩), trivial⟩ ⟨⟨.rf 1 0 1 1, kr, .inl rfl⟩, ⟨.v (.int .i64 0), kr, .inl rfl⟩, trivial⟩) (Wk.sel2 [1] kr kr kr ⟨⟨_, rfl, bu_mk⟩, trivial⟩ ⟨lu_hd (b' := 1) kr kr, lu kr kr, trivial⟩))
     refine Sem.ret ?_
     have hq := Option.some.inj h; subst hq
     let p12 : Nat × AV := (6, .sl 1 ([[v13]].map (cdL 1 (cdL 1 cdI)).enc))
     exact ⟨⟨Fr 106 [p12, p11], []⟩, (Wk.trans (s1 := ⟨Fr 106 [p12, p11], [none]⟩) (Wk.frzG 0 (.inl kr) ⟨.inl rfl, trivial⟩ ⟨⟨hd 0 ([[v13]].map (cdL 1 (cdL 1 cdI)).enc), kr, fz_hd (t := 50) kr enc_ok⟩, ⟨.v (.int .i64 0), kr, .inl rfl⟩, trivial⟩) (Wk.sel2 [] kr kr kr trivial ⟨lu kr kr, lu kr kr, trivial⟩)), .inr rfl, [.sl 1 ([[v13]].map (cdL 1 (cdL 1 cdI)).enc), .v (.int .i64 0)], kr, kr⟩
    ·rw [if_f hb12] at h
     refine Sem.sq he [p3, p2, p1, (50, .v (.bool (x1 == 1)))] [] ?_
     refine Sem.cond (b := (x1 == 1)) kr (fun hb14 => ?_) (fun hb14 => ?_)
     ·rw [if_pos hb14] at h
      refine Sem.seq ?_
      obtain ⟨v15, hv15, h⟩ := Option.bind_eq_some_iff.1 h
      by_cases hk16 : (cutOk 0 x2 v15.length) = true
      case neg => rw [if_neg hk16] at h; cases h
      rw [if_pos hk16] at h
      let p13 : Nat × AV := (6, .sl 1 (((v15.take x2.toNat).drop (0 : Int).toNat).map (cdL 1 (cdL 1 cdI)).enc))
      refine Sem.runS (s1 := ⟨Fr 106 [p13, (7, .v (.int .i64 0))], []⟩) ?_ ?_
      ·refine RunS.segF (n := 106) he 1 [p1, (53, .v (.int .i64 x0))] [] kr ?_
       refine RunS.call he (fid := 105) (s := cs_evening_alone) (F := fun a => evening_alone a.1) (er := er_evening_alone) (xs := [.v (.int .i64 x0)]) (a := (x0, ())) rfl (wantedA_none rfl) kr kr kr kr (Sns.cons (Sn.enc (c := cdI) (v := x0)) Sns.nil) (.inl kr) hv15 ?_
       refine RunS.segF (n := 106) he 1 [(54, .sl 1 (v15.map (cdL 1 (cdL 1 cdI)).enc)), (55, .v (.int .i64 x2))] [] kr ?_
       refine RunS.one he 0 rfl (op_q (wantedA_none rfl) rfl (q_slice (a := .sl 1 (v15.map (cdL 1 (cdL 1 cdI)).enc)) (l := none) (u := (some (.v (.int .i64 x2)))) (m := none) kr kr kr rfl (slice_sl (xs := v15) (e := (cdL 1 (cdL 1 cdI)).enc) (k := 1) (el := 50) (lo := 0) (hi := x2) kr kr rfl (natB_i (cut_hi hk16)) hk16))) ?_
       exact RunS.last he
      refine Sem.ret ?_
      have hq := Option.some.inj h; subst hq
      exact ⟨⟨Fr 106 [p13, (7, .v (.int .i64 0))], []⟩, (Wk.fr kr), .inr rfl, [.sl 1 (((v15.take x2.toNat).drop (0 : Int).toNat).map (cdL 1 (cdL 1 cdI)).enc), .v (.int .i64 0)], kr, kr⟩
     ·rw [if_f hb14] at h
      refine Sem.skip ?_
      refine Sem.sq he [p3, p2, p1, (8, .e0)] [] ?_
      refine Sem.seq ?_
      refine Sem.sq he [p3, p2, p1, (8, .e0), (58, .v (.bool (x1 == 2)))] [] ?_
      obtain ⟨r20, hr20, h⟩ := Option.bind_eq_some_iff.1 h
      refine Sem.cut (evening_Design_j1_ok x0 x1 x2 _ hr20) ?_
      refine Sem.seq ?_
      refine Sem.seq ?_
      obtain ⟨j22, hj22, h⟩ := Option.bind_eq_some_iff.1 h
      let p14 : Nat × AV := (8, .sl 1 (r20.map (cdL 1 (cdL 1 cdI)).enc))
      refine Sem.runS (s1 := ⟨Fr 106 [p3, p2, p1, p14, (69, .v (.bool j22))], []⟩) ?_ ?_
      ·refine RunS.segF (n := 106) he 3 [p3, p2, p1, p14, (66, .v (.bool (x1 == 3)))] [] kr ?_
       rcases Bool.eq_false_or_eq_true (x1 == 3) with hc41 | hc41
       ·rw [if_pos hc41] at hj22
        rw [hc41]
        refine RunS.segF (n := 106) he 3 [p3, p2, p1, p14, (69, .v (.bool (x0 == 15)))] [] kr ?_
        have hq := Option.some.inj hj22; subst hq
        exact RunS.done rfl (Wk.fr kr)
       ·rw [if_f hc41] at hj22
        rw [hc41]
        refine RunS.segF (n := 106) he 3 [p3, p2, p1, p14, (69, .v (.bool false))] [] kr ?_
        have hq := Option.some.inj hj22; subst hq
        exact RunS.done rfl (Wk.fr kr)
      obtain ⟨r26, hr26, h⟩ := Option.bind_eq_some_iff.1 h
      refine Sem.cut (evening_Design_j2_ok x0 x1 x2 r20 j22 _ hr26) ?_
      refine Sem.seq ?_
      refine Sem.seq ?_
      obtain ⟨j28, hj28, h⟩ := Option.bind_eq_some_iff.1 h
      let p15 : Nat × AV := (8, .sl 1 (r26.map (cdL 1 (cdL 1 cdI)).enc))
      refine Sem.runS (s1 := ⟨Fr 106 [p3, p2, p1, p15, (81, .v (.bool j28))], []⟩) ?_ ?_
      ·refine RunS.segF (n := 106) he 6 [p3, p2, p1, p15, (76, .v (.bool ((wr .i64 (x1 * x1)) == x0)))] [] kr ?_
       rcases Bool.eq_false_or_eq_true ((wr .i64 (x1 * x1)) == x0) with hc40 | hc40
       ·rw [if_pos hc40] at hj28
        rw [hc40]
        refine RunS.segF (n := 106) he 1 [p3, p2, p1, p15, (76, .v (.bool true)), (77, .sl 1 (r26.map (cdL 1 (cdL 1 cdI)).enc))] [] kr ?_
        refine RunS.one he 0 rfl (op_q kr rfl (q_len (a := .sl 1 (r26.map (cdL 1 (cdL 1 cdI)).enc)) kr (len_sl (el := 50) kr))) ?_
        refine RunS.segF (n := 106) he 3 [p3, p2, p1, p15, (81, .v (.bool (decide ((r26.length : Int) < x2))))] [] kr ?_
        have hq := Option.some.inj hj28; subst hq
        exact RunS.done rfl (Wk.fr kr)
       ·rw [if_f hc40] at hj28
        rw [hc40]
        refine RunS.segF (n := 106) he 5 [p3, p2, p1, p15, (81, .v (.bool false))] [] kr ?_
        have hq := Option.some.inj hj28; subst hq
        exact RunS.done rfl (Wk.fr kr)
      obtain ⟨r32, hr32, h⟩ := Option.bind_eq_some_iff.1 h
      refine Sem.cut (evening_Design_j3_ok x0 x1 x2 r26 j28 _ hr32) ?_
      refine Sem.seq ?_
      refine Sem.seq ?_
      let p16 : Nat × AV := (8, .sl 1 (r32.map (cdL 1 (cdL 1 cdI)).enc))
      refine Sem.runS (s1 := ⟨Fr 106 [p3, p2, p1, p16, (90, .v (.bool (decide ((r32.length : Int) < x2))))], []⟩) ?_ ?_
      ·refine RunS.segF (n := 106) he 1 [p3, p2, p1, p16, (87, .sl 1 (r32.map (cdL 1 (cdL 1 cdI)).enc))] [] kr ?_
       refine RunS.one he 0 rfl (op_q (wantedA_none rfl) rfl (q_len (a := .sl 1 (r32.map (cdL 1 (cdL 1 cdI)).enc)) kr (len_sl (el := 50) kr))) ?_
       exact RunS.last he
      obtain ⟨r37, hr37, h⟩ := Option.bind_eq_some_iff.1 h
      refine Sem.cut (evening_Design_j4_ok x0 x1 x2 r32 _ hr37) ?_
      refine Sem.seq ?_
      refine Sem.seq ?_
      let p17 : Nat × AV := (8, .sl 1 (r37.map (cdL 1 (cdL 1 cdI)).enc))
      refine Sem.runS (s1 := ⟨Fr 106 [p1, p17, (102, .v (.bool (decide ((r37.length : Int) < x2))))], []⟩) ?_ ?_
      ·refine RunS.segF (n := 106) he 1 [p1, p17, (99, .sl 1 (r37.map (cdL 1 (cdL 1 cdI)).enc))] [] kr ?_
       refine RunS.one he 0 rfl (op_q (wantedA_none rfl) rfl (q_len (a := .sl 1 (r37.map (cdL 1 (cdL 1 cdI)).enc)) kr (len_sl (el := 50) kr))) ?_
       exact RunS.last he
      refine Sem.cond (b := (decide ((r37.length : Int) < x2))) kr (fun hb38 => ?_) (fun hb38 => ?_)
      ·rw [if_pos hb38] at h
       let p18 : Nat × AV := (7, .v (.int .i64 91))
       refine Sem.sq he [(6, .e0), p18] [] ?_
       refine Sem.ret ?_
       have hq := Option.some.inj h; subst hq
       let p19 : Nat × AV := (6, .sl 1 ([].map (cdL 1 (cdL 1 cdI)).enc))
       exact ⟨⟨Fr 106 [p19, p18], []⟩, (Wk.trans (s1 := ⟨Fr 106 [(6, .e0), p18], []⟩) (Wk.fr kr) (Wk.trans (s1 := ⟨Fr 106 [(6, .e0), p18], [none]⟩) Wk.none (Wk.trans (s1 := ⟨Fr 106 [p19, p18], [none]⟩) (Wk.frzG 0 (.inr kr) ⟨.inl rfl, trivial⟩ ⟨⟨.e0, kr, fz_e0⟩, ⟨.v (.int .i64 91), kr, .inl rfl⟩, trivial⟩) (Wk.sel2 [] kr kr kr trivial ⟨lu kr kr, lu kr kr, trivial⟩)))), .inr rfl, [.sl 1 ([].map (cdL 1 (cdL 1 cdI)).enc), .v (.int .i64 91)], kr, kr⟩
      ·rw [if_f hb38] at h
       refine Sem.skip ?_
       refine Sem.seq ?_
       by_cases hk39 : (cutOk 0 x2 r37.length) = true
       case neg => rw [if_neg hk39] at h; cases h
       rw [if_pos hk39] at h
       let p20 : Nat × AV := (6, .sl 1 (((r37.take x2.toNat).drop (0 : Int).toNat).map (cdL 1 (cdL 1 cdI)).enc))
       refine Sem.runS (s1 := ⟨Fr 106 [p20, (7, .v (.int .i64 0))], []⟩) ?_ ?_
       ·refine RunS.segF (n := 106) he 2 [(103, .sl 1 (r37.map (cdL 1 (cdL 1 cdI)).enc)), (104, .v (.int .i64 x2))] [] kr ?_
        refine RunS.one he 0 rfl (op_q (wantedA_none rfl) rfl (q_slice (a := .sl 1 (r37.map (cdL 1 (cdL 1 cdI)).enc)) (l := none) (u := (some (.v (.int .i64 x2)))) (m := none) kr kr kr rfl (slice_sl (xs := r37) (e := (cdL 1 (cdL 1 cdI)).enc) (k := 1) (el := 50) (lo := 0) (hi := x2) kr kr rfl (natB_i (cut_hi hk39)) hk39))) ?_
        exact RunS.last he
       refine Sem.ret ?_
       have hq := Option.some.inj h; subst hq
       exact ⟨⟨Fr 106 [p20, (7, .v (.int .i64 0))], []⟩, (Wk.fr kr), .inr rfl, [.sl 1 (((r37.take x2.toNat).drop (0 : Int).toNat).map (cdL 1 (cdL 1 cdI)).enc), .v (.int .i64 0)], kr, kr⟩
def t_evening_Design : List AV → Option AV := told cs_evening_Design (fun a => evening_Design a.1 a.2.1 a.2.2.1) er_evening_Design
theorem x_evening_Design : XOk 63 t_evening_Design := by
 refine EnvOk.x (E := e_evening_Design) (contract_ok e_evening_Design_ok (fn := Tryd.f63) (c := cb_evening_Design) ?h1 ?h2 ⟨Tryd.call63⟩ cs_evening_Design (fun a => evening_Design a.1 a.2.1 a.2.2.1) er_evening_Design (fun a => (by show 3 ≤ 106; decide)) ?h3 ?h4) rfl rfl
 case h1 => kernel_rfl
 case h2 => kernel_rfl
 case h3 => intro b; kernel_rfl
 case h4 => exact fun a b h => evening_Design_sem a.1 a.2.1 a.2.2.1 b h
/- trestle/trestleref09.from -/
noncomputable def e_ref09_from : Env := E0
theorem e_ref09_from_ok : EnvOk e_ref09_from := E0_ok
noncomputable def cb_ref09_from : Code := codeOf Tryd.f127
def ref09_from_1 (x0 : Int) : Nat → (List Int) → Int → Option (((List Int)))
 | 0, _, _ => none
 | f + 1, c1, c2 =>
  if (decide (c2 < x0)) = true then
  if (capOk 8 (c1.length + 1)) = true then
  ref09_from_1 x0 f (c1 ++ [c2]) (wr .i64 (c2 + 1))
  else none
  else
  some c1
def ref09_from (x0 : Int) : Option ((List Int)) :=
 (ref09_from_1 x0 100000 [] 0).bind fun r6 =>
 some r6
def cs_ref09_from : Cs (Int × Unit) := (csC cdI csN)
def er_ref09_from (r : (List Int)) : AV := (cdL 1 cdI).enc r
set_option maxHeartbeats 4000000 in
set_option maxRecDepth 100000 in
theorem ref09_from_1_ok (x0 : Int) : ∀ (f : Nat) (c1 : (List Int)) (c2 : Int) (r : ((List Int))), ref09_from_1 x0 f c1 c2 = some r → SemN e_ref09_from ⟨none, false⟩ (pc cb_ref09_from [1, 1, 0, 1, 0, 0]) f ⟨Fr 15 [(0, .v (.int .i64 x0)), (3, hd 0 (c1.map cdI.enc)), (4, .v (.int .i64 c2))], [mk 1 3 (c1.map cdI.enc)]⟩ (fun e s => e = (.exit 0) ∧ Wk e_ref09_from s ⟨Fr 15 [(3, hd 0 (r.map cdI.enc))], [mk 1 3 (r.map cdI.enc)]⟩) := by
 have he := e_ref09_from_ok
 intro f
 induction f with
 | zero => intro c1 c2 r h; cases h
 | succ f ih0 =>
  intro c1 c2 r h
  have ih := fun (c1 : (List Int)) (c2 : Int) => ih0 c1 c2 r
  unfold ref09_from_1 at h
  refine SemN.succ ?_
  refine Sem.seq ?_
  let p1 : Nat × AV := (4, .v (.int .i64 c2))
  let p2 : Nat × AV := (0, .v (.int .i64 x0))
  refine Sem.sq he [p2, (3, hd 0 (c1.map cdI.enc)), p1, (7, .v (.bool (decide (c2 < x0))))] [mk 1 3 (c1.map cdI.enc)] ?_
  refine Sem.cond (b := (decide (c2 < x0))) kr (fun hb3 => ?_) (fun hb3 => ?_)
  ·rw [if_pos hb3] at h
   refine Sem.skip ?_
   refine Sem.seq ?_
   refine Sem.block ?_
   by_cases hk4 : (capOk 8 (c1.length + 1)) = true
   case neg => rw [if_neg hk4] at h; cases h
   rw [if_pos hk4] at h
   let p3 : Option Blk := mk 1 3 ((c1 ++ [c2]).map cdI.enc)
   let p4 : Nat × AV := (3, hd 0 ((c1 ++ [c2]).map cdI.enc))
   refine Sem.runS (s1 := ⟨Fr 15 [p2, p4, p1], [p3]⟩) ?_ ?_
   ·refine RunS.segF (n := 15) he 3 [p2, p1, (10, hd 0 (c1.map cdI.enc)), (12, hd 1 ([c2].map cdI.enc))] [mk 1 3 (c1.map cdI.enc), mk 1 3 ([c2].map cdI.enc)] kr ?_
    refine RunS.one he 0 rfl (op_w (wantedA_none rfl) rfl kr kr (w_append (a := hd 0 (c1.map cdI.enc)) (b := hd 1 ([c2].map cdI.enc)) kr kr (append_B (c := cdI) (xs := c1) (vs := [c2]) (k := 1) (bytes := 8) (el := 3) kr kr (elems_hd (t := 3) kr) (List.cons_ne_nil _ _) kr hk4))) ?_
    refine RunS.segF (n := 15) he 1 [p2, (3, hd 2 ((c1 ++ [c2]).map cdI.enc)), p1] [none, mk 1 3 ([c2].map cdI.enc), p3] kr ?_
    exact RunS.done rfl (Wk.sel2 [2] kr kr kr ⟨⟨_, rfl, bu_mk⟩, trivial⟩ ⟨lu kr kr, lu_hd (b' := 2) kr kr, lu kr kr, trivial⟩)
   let p5 : Nat × AV := (4, .v (.int .i64 (wr .i64 (c2 + 1))))
   refine Sem.rg he [p2, p4, p5] [p3] ?_
   exact SemN.wk (s1 := ⟨Fr 15 [p2, p4, p5], [p3]⟩) (Wk.sel2 [0] kr kr kr ⟨⟨_, rfl, bu_mk⟩, trivial⟩ ⟨lu kr kr, lu_hd (b' := 0) kr kr, lu kr kr, trivial⟩) (ih (c1 ++ [c2]) (wr .i64 (c2 + 1)) h)
  ·rw [if_f hb3] at h
   refine Sem.exit ?_
   have hq := Option.some.inj h; subst hq
   exact ⟨rfl, (Wk.sel2 [0] kr kr kr ⟨⟨_, rfl, bu_mk⟩, trivial⟩ ⟨lu_hd (b' := 0) kr kr, trivial⟩)⟩
set_option maxHeartbeats 4000000 in
set_option maxRecDepth 100000 in
theorem ref09_from_sem (x0 : Int) (r : (List Int)) (h : ref09_from x0 = some r) : Sem e_ref09_from ⟨none, false⟩ cb_ref09_from ⟨Fr 15 (pairs0 0 (cs_ref09_from.enc (x0, ()))), []⟩ fun e s' => (e = .normal ∨ e = .ret) ∧ ∃ xs, resA e_ref09_from.P s'.fr s'.hp Tryd.f127.results.toList = some xs ∧ retA xs = er_ref09_from r := by
 have he := e_ref09_from_ok
 unfold ref09_from at h
 let p1 : Nat × AV := (0, .v (.int .i64 x0))
 refine Sem.wkQ (Sem.wk (s1 := ⟨Fr 15 [p1], []⟩) (Wk.fr kr) ?_)
 refine Sem.sq he [p1] [] ?_
 refine Sem.sq he [p1, (3, .e0)] [] ?_
 refine Sem.seq ?_
 let p2 : Nat × AV := (4, .v (.int .i64 0))
 refine Sem.sq he [p1, (3, .e0), p2] [] ?_
 refine Sem.block ?_
 obtain ⟨r6, hr6, h⟩ := Option.bind_eq_some_iff.1 h
 refine Sem.loop (n := 100000) ?_
 refine Sem.cutN (SemN.wk (s1 := ⟨Fr 15 [p1, (3, hd 0 ([].map cdI.enc)), p2], [mk 1 3 ([].map cdI.enc)]⟩) (Wk.trans (s1 := ⟨Fr 15 [p1, (3, hd 0 ([].map cdI.enc)), p2], [mk 1 3 ([].map cdI.enc)]⟩) Wk.none (Wk.sel2 [0] kr kr kr ⟨⟨_, rfl, bu_none⟩, trivial⟩ ⟨lu kr kr, lu kr kr, lu kr kr, trivial⟩)) (ref09_from_1_ok x0 _ [] 0 _ hr6)) ?_
 refine Sem.sq he [(2, hd 0 (r6.map cdI.enc))] [mk 1 3 (r6.map cdI.enc)] ?_
 refine Sem.ret ?_
 have hq := Option.some.inj h; subst hq
 exact ⟨⟨Fr 15 [(2, .sl 1 (r6.map cdI.enc))], []⟩, (Wk.trans (s1 := ⟨Fr 15 [(2, .sl 1 (r6.map cdI.enc))], [none]⟩) (Wk.frzG 0 (.inl kr) ⟨.inl rfl, trivial⟩ ⟨⟨hd 0 (r6.map cdI.enc), kr, fz_hd (t := 3) kr enc_ok⟩, trivial⟩) (Wk.sel2 [] kr kr kr trivial ⟨lu kr kr, trivial⟩)), .inr rfl, [.sl 1 (r6.map cdI.enc)], kr, kr⟩
def t_ref09_from : List AV → Option AV := told cs_ref09_from (fun a => ref09_from a.1) er_ref09_from
theorem x_ref09_from : XOk 127 t_ref09_from := by
 refine EnvOk.x (E := e_ref09_from) (contract_ok e_ref09_from_ok (fn := Tryd.f127) (c := cb_ref09_from) ?h1 ?h2 ⟨Tryd.call127⟩ cs_ref09_from (fun a => ref09_from a.1) er_ref09_from (fun a => (by show 1 ≤ 15; decide)) ?h3 ?h4) rfl rfl
 case h1 => kernel_rfl
 case h2 => kernel_rfl
 case h3 => intro b; kernel_rfl
 case h4 => exact fun a b h => ref09_from_sem a.1 b h
/- trestle/trestleref09.Kirkman -/
noncomputable def e_ref09_Kirkman : Env := E0
theorem e_ref09_Kirkman_ok : EnvOk e_ref09_Kirkman := E0_ok
noncomputable def cb_ref09_Kirkman : Code := codeOf Tryd.f128
def ref09_Kirkman_j5 (c1 : (List (List (List Int)))) (c2 : Int) (c4 : (List (List Int))) (c5 : Int) (c7 : (List Int)) (c8 : Int) (v11 : Int) : Option ((Int)) :=
 if (decide (v11 ≥ 20)) = true then
 some (wr .i64 (7 + ((wr .i64 ((wr .i64 (v11 - 20)) + c2)).tmod 7)))
 else
 some ((wr .i64 (v11 + c2)).tmod 7)
def ref09_Kirkman_j4 (c1 : (List (List (List Int)))) (c2 : Int) (c4 : (List (List Int))) (c5 : Int) (c7 : (List Int)) (c8 : Int) (v11 : Int) : Option ((Int)) :=
 if (v11 == 100) = true then
 some 14
 else
 (ref09_Kirkman_j5 c1 c2 c4 c5 c7 c8 v11).bind fun r16 =>
 some r16
def ref09_Kirkman_3 (c1 : (List (List (List Int)))) (c2 : Int) (c4 : (List (List Int))) (c5 : Int) : Nat → (List Int) → Int → Option (((List Int)))
 | 0, _, _ => none
 | f + 1, c7, c8 =>
  if (decide (c8 < 3)) = true then
  (idx [[100, 0, 20], [1, 6, 25], [2, 5, 23], [3, 4, 26], [21, 22, 24]] c5).bind fun v10 =>
  (idx v10 c8).bind fun v11 =>
  (ref09_Kirkman_j4 c1 c2 c4 c5 c7 c8 v11).bind fun r17 =>
  if (capOk 8 (c7.length + 1)) = true then
  ref09_Kirkman_3 c1 c2 c4 c5 f (c7 ++ [r17]) (wr .i64 (c8 + 1))
  else none
  else
  some c7
def ref09_Kirkman_2 (c1 : (List (List (List Int)))) (c2 : Int) : Nat → (List (List Int)) → Int → Option (((List (List Int))))
 | 0, _, _ => none
 | f + 1, c4, c5 =>
  if (decide (c5 < ([[100, 0, 20], [1, 6, 25], [2, 5, 23], [3, 4, 26], [21, 22, 24]].length : Int))) = true then
  (ref09_Kirkman_3 c1 c2 c4 c5 100000 [] 0).bind fun r20 =>
  if (capOk 24 (c4.length + 1)) = true then
  ref09_Kirkman_2 c1 c2 f (c4 ++ [r20]) (wr .i64 (c5 + 1))
  else none
  else
  some c4
def ref09_Kirkman_1  : Nat → (List (List (List Int))) → Int → Option (((List (List (List Int)))))
 | 0, _, _ => none
 | f + 1, c1, c2 =>
  if (decide (c2 < 7)) = true then
  (ref09_Kirkman_2 c1 c2 100000 [] 0).bind fun r23 =>
  if (capOk 24 (c1.length + 1)) = true then
  ref09_Kirkman_1 f (c1 ++ [r23]) (wr .i64 (c2 + 1))
  else none
  else
  some c1
def ref09_Kirkman  : Option ((List (List (List Int)))) :=
 (ref09_Kirkman_1  100000 [] 0).bind fun r26 =>
 some r26
def cs_ref09_Kirkman : Cs (Unit) := csN
def er_ref09_Kirkman (r : (List (List (List Int)))) : AV := (cdL 1 (cdL 1 (cdL 1 cdI))).enc r
set_option maxHeartbeats 4000000 in
set_option maxRecDepth 100000 in
theorem ref09_Kirkman_j5_ok (c1 : (List (List (List Int)))) (c2 : Int) (c4 : (List (List Int))) (c5 : Int) (c7 : (List Int)) (c8 : Int) (v11 : Int) (r : (Int)) (h : ref09_Kirkman_j5 c1 c2 c4 c5 c7 c8 v11 = some r) : Sem e_ref09_Kirkman ⟨none, false⟩ (pc cb_ref09_Kirkman [1, 1, 1, 0, 1, 0, 0, 1, 0, 0, 1, 0, 1, 0, 0, 1, 0, 0, 1, 0, 1, 0, 0, 1, 0, 0, 1, 0, 0, 1, 1, 1]) ⟨Fr 65 [(1, hd 0 ([[100, 0, 20], [1, 6, 25], [2, 5, 23], [3, 4, 26], [21, 22, 24]].map (cdL 1 cdI).enc)), (2, hd 1 (c1.map (cdL 1 (cdL 1 cdI)).enc)), (3, .v (.int .i64 c2)), (4, hd 2 (c4.map (cdL 1 cdI).enc)), (5, .v (.int .i64 c5)), (6, hd 3 (c7.map cdI.enc)), (7, .v (.int .i64 c8)), (8, .v (.int .i64 v11)), (43, .v (.bool (decide (v11 ≥ 20))))], [mk 1 31 ([[100, 0, 20], [1, 6, 25], [2, 5, 23], [3, 4, 26], [21, 22, 24]].map (cdL 1 cdI).enc), mk 1 50 (c1.map (cdL 1 (cdL 1 cdI)).enc), mk 1 31 (c4.map (cdL 1 cdI).enc), mk 1 3 (c7.map cdI.enc)]⟩ (fun e s => e = .normal ∧ Wk e_ref09_Kirkman s ⟨Fr 65 [(1, hd 0 ([[100, 0, 20], [1, 6, 25], [2, 5, 23], [3, 4, 26], [21, 22, 24]].map (cdL 1 cdI).enc)), (2, hd 1 (c1.map (cdL 1 (cdL 1 cdI)).enc)), (3, .v (.int .i64 c2)), (4, hd 2 (c4.map (cdL 1 cdI).enc)), (5, .v (.int .i64 c5)), (6, hd 3 (c7.map cdI.enc)), (7, .v (.int .i64 c8)), (8, .v (.int .i64 r))], [mk 1 31 ([[100, 0, 20], [1, 6, 25], [2, 5, 23], [3, 4, 26], [21, 22, 24]].map (cdL 1 cdI).enc), mk 1 50 (c1.map (cdL 1 (cdL 1 cdI)).enc), mk 1 31 (c4.map (cdL 1 cdI).enc), mk 1 3 (c7.map cdI.enc)]⟩) := by
 unfold ref09_Kirkman_j5 at h
 refine Sem.cond (b := (decide (v11 ≥ 20))) kr (fun hb14 => ?_) (fun hb14 => ?_)
 ·rw [if_pos hb14] at h
  refine Sem.rg e_ref09_Kirkman_ok [(1, hd 0 ([[100, 0, 20], [1, 6, 25], [2, 5, 23], [3, 4, 26], [21, 22, 24]].map (cdL 1 cdI).enc)), (2, hd 1 (c1.map (cdL 1 (cdL 1 cdI)).enc)), (3, .v (.int .i64 c2)), (4, hd 2 (c4.map (cdL 1 cdI).enc)), (5, .v (.int .i64 c5)), (6, hd 3 (c7.map cdI.enc)), (7, .v (.int .i64 c8)), (8, .v (.int .i64 (wr .i64 (7 + ((wr .i64 ((wr .i64 (v11 - 20)) + c2)).tmod 7)))))] [mk 1 31 ([[100, 0, 20], [1, 6, 25], [2, 5, 23], [3, 4, 26], [21, 22, 24]].map (cdL 1 cdI).enc), mk 1 50 (c1.map (cdL 1 (cdL 1 cdI)).enc), mk 1 31 (c4.map (cdL 1 cdI).enc), mk 1 3 (c7.map cdI.enc)] ?_
  have hq := Option.some.inj h; subst hq
  exact ⟨rfl, (Wk.sel2 [0, 1, 2, 3] kr kr kr ⟨⟨_, rfl, bu_mk⟩, ⟨_, rfl, bu_mk⟩, ⟨_, rfl, bu_mk⟩, ⟨_, rfl, bu_mk⟩, trivial⟩ ⟨lu_hd (b' := 0) kr kr, lu_hd (b' := 1) kr kr, lu kr kr, lu_hd (b' := 2) kr kr, lu kr kr, lu_hd (b' := 3) kr kr, lu kr kr, lu kr kr, trivial⟩)⟩
 ·rw [if_f hb14] at h
  refine Sem.rg e_ref09_Kirkman_ok [(1, hd 0 ([[100, 0, 20], [1, 6, 25], [2, 5, 23], [3, 4, 26], [21, 22, 24]].map (cdL 1 cdI).enc)), (2, hd 1 (c1.map (cdL 1 (cdL 1 cdI)).enc)), (3, .v (.int .i64 c2)), (4, hd 2 (c4.map (cdL 1 cdI).enc)), (5, .v (.int .i64 c5)), (6, hd 3 (c7.map cdI.enc)), (7, .v (.int .i64 c8)), (8, .v (.int .i64 ((wr .i64 (v11 + c2)).tmod 7)))] [mk 1 31 ([[100, 0, 20], [1, 6, 25], [2, 5, 23], [3, 4, 26], [21, 22, 24]].map (cdL 1 cdI).enc), mk 1 50 (c1.map (cdL 1 (cdL 1 cdI)).enc), mk 1 31 (c4.map (cdL 1 cdI).enc), mk 1 3 (c7.map cdI.enc)] ?_
  have hq := Option.some.inj h; subst hq
  exact ⟨rfl, (Wk.sel2 [0, 1, 2, 3] kr kr kr ⟨⟨_, rfl, bu_mk⟩, ⟨_, rfl, bu_mk⟩, ⟨_, rfl, bu_mk⟩, ⟨_, rfl, bu_mk⟩, trivial⟩ ⟨lu_hd (b' := 0) kr kr, lu_hd (b' := 1) kr kr, lu kr kr, lu_hd (b' := 2) kr kr, lu kr kr, lu_hd (b' := 3) kr kr, lu kr kr, lu kr kr, trivial⟩)⟩
set_option maxHeartbeats 4000000 in
set_option maxRecDepth 100000 in
theorem ref09_Kirkman_j4_ok (c1 : (List (List (List Int)))) (c2 : Int) (c4 : (List (List Int))) (c5 : Int) (c7 : (List Int)) (c8 : Int) (v11 : Int) (r : (Int)) (h : ref09_Kirkman_j4 c1 c2 c4 c5 c7 c8 v11 = some r) : Sem e_ref09_Kirkman ⟨none, false⟩ (pc cb_ref09_Kirkman [1, 1, 1, 0, 1, 0, 0, 1, 0, 0, 1, 0, 1, 0, 0, 1, 0, 0, 1, 0, 1, 0, 0, 1, 0, 0, 1, 0, 0, 1]) ⟨Fr 65 [(1, hd 0 ([[100, 0, 20], [1, 6, 25], [2, 5, 23], [3, 4, 26], [21, 22, 24]].map (cdL 1 cdI).enc)), (2, hd 1 (c1.map (cdL 1 (cdL 1 cdI)).enc)), (3, .v (.int .i64 c2)), (4, hd 2 (c4.map (cdL 1 cdI).enc)), (5, .v (.int .i64 c5)), (6, hd 3 (c7.map cdI.enc)), (7, .v (.int .i64 c8)), (8, .v (.int .i64 v11)), (40, .v (.bool (v11 == 100)))], [mk 1 31 ([[100, 0, 20], [1, 6, 25], [2, 5, 23], [3, 4, 26], [21, 22, 24]].map (cdL 1 cdI).enc), mk 1 50 (c1.map (cdL 1 (cdL 1 cdI)).enc), mk 1 31 (c4.map (cdL 1 cdI).enc), mk 1 3 (c7.map cdI.enc)]⟩ (fun e s => e = .normal ∧ Wk e_ref09_Kirkman s ⟨Fr 65 [(1, hd 0 ([[100, 0, 20], [1, 6, 25], [2, 5, 23], [3, 4, 26], [21, 22, 24]].map (cdL 1 cdI).enc)), (2, hd 1 (c1.map (cdL 1 (cdL 1 cdI)).enc)), (3, .v (.int .i64 c2)), (4, hd 2 (c4.map (cdL 1 cdI).enc)), (5, .v (.int .i64 c5)), (6, hd 3 (c7.map cdI.enc)), (7, .v (.int .i64 c8)), (8, .v (.int .i64 r))], [mk 1 31 ([[100, 0, 20], [1, 6, 25], [2, 5, 23], [3, 4, 26], [21, 22, 24]].map (cdL 1 cdI).enc), mk 1 50 (c1.map (cdL 1 (cdL 1 cdI)).enc), mk 1 31 (c4.map (cdL 1 cdI).enc), mk 1 3 (c7.map cdI.enc)]⟩) := by
 unfold ref09_Kirkman_j4 at h
 refine Sem.cond (b := (v11 == 100)) kr (fun hb12 => ?_) (fun hb12 => ?_)
 ·rw [if_pos hb12] at h
  refine Sem.rg e_ref09_Kirkman_ok [(1, hd 0 ([[100, 0, 20], [1, 6, 25], [2, 5, 23], [3, 4, 26], [21, 22, 24]].map (cdL 1 cdI).enc)), (2, hd 1 (c1.map (cdL 1 (cdL 1 cdI)).enc)), (3, .v (.int .i64 c2)), (4, hd 2 (c4.map (cdL 1 cdI).enc)), (5, .v (.int .i64 c5)), (6, hd 3 (c7.map cdI.enc)), (7, .v (.int .i64 c8)), (8, .v (.int .i64 14))] [mk 1 31 ([[100, 0, 20], [1, 6, 25], [2, 5, 23], [3, 4, 26], [21, 22, 24]].map (cdL 1 cdI).enc), mk 1 50 (c1.map (cdL 1 (cdL 1 cdI)).enc), mk 1 31 (c4.map (cdL 1 cdI).enc), mk 1 3 (c7.map cdI.enc)] ?_
  have hq := Option.some.inj h; subst hq
  exact ⟨rfl, (Wk.sel2 [0, 1, 2, 3] kr kr kr ⟨⟨_, rfl, bu_mk⟩, ⟨_, rfl, bu_mk⟩, ⟨_, rfl, bu_mk⟩, ⟨_, rfl, bu_mk⟩, trivial⟩ ⟨lu_hd (b' := 0) kr kr, lu_hd (b' := 1) kr kr, lu kr kr, lu_hd (b' := 2) kr kr, lu kr kr, lu_hd (b' := 3) kr kr, lu kr kr, lu kr kr, trivial⟩)⟩
 ·rw [if_f hb12] at h
  refine Sem.sq e_ref09_Kirkman_ok [(1, hd 0 ([[100, 0, 20], [1, 6, 25], [2, 5, 23], [3, 4, 26], [21, 22, 24]].map (cdL 1 cdI).enc)), (2, hd 1 (c1.map (cdL 1 (cdL 1 cdI)).enc)), (3, .v (.int .i64 c2)), (4, hd 2 (c4.map (cdL 1 cdI).enc)), (5, .v (.int .i64 c5)), (6, hd 3 (c7.map cdI.enc)), (7, .v (.int .i64 c8)), (8, .v (.int .i64 v11)), (43, .v (.bool (decide (v11 ≥ 20))))] [mk 1 31 ([[100, 0, 20], [1, 6, 25], [2, 5, 23], [3, 4, 26], [21, 22, 24]].map (cdL 1 cdI).enc), mk 1 50 (c1.map (cdL 1 (cdL 1 cdI)).enc), mk 1 31 (c4.map (cdL 1 cdI).enc), mk 1 3 (c7.map cdI.enc)] ?_
  obtain ⟨r16, hr16, h⟩ := Option.bind_eq_some_iff.1 h
  refine Sem.cut (ref09_Kirkman_j5_ok c1 c2 c4 c5 c7 c8 v11 _ hr16) ?_
  have hq := Option.some.inj h; subst hq
  exact ⟨rfl, (Wk.sel2 [0, 1, 2, 3] kr kr kr ⟨⟨_, rfl, bu_mk⟩, ⟨_, rfl, bu_mk⟩, ⟨_, rfl, bu_mk⟩, ⟨_, rfl, bu_mk⟩, trivial⟩ ⟨lu_hd (b' := 0) kr kr, lu_hd (b' := 1) kr kr, lu kr kr, lu_hd (b' := 2) kr kr, lu kr kr, lu_hd (b' := 3) kr kr, lu kr kr, lu kr kr, trivial⟩)⟩
set_option maxHeartbeats 4000000 in
set_option maxRecDepth 100000 in
theorem ref09_Kirkman_3_ok (c1 : (List (List (List Int)))) (c2 : Int) (c4 : (List (List Int))) (c5 : Int) : ∀ (f : Nat) (c7 : (List Int)) (c8 : Int) (r : ((List Int))), ref09_Kirkman_3 c1 c2 c4 c5 f c7 c8 = some r → SemN e_ref09_Kirkman ⟨none, false⟩ (pc cb_ref09_Kirkman [1, 1, 1, 0, 1, 0, 0, 1, 0, 0, 1, 0, 1, 0, 0, 1, 0, 0, 1, 0, 1, 0, 0]) f ⟨Fr 65 [(1, hd 0 ([[100, 0, 20], [1, 6, 25], [2, 5, 23], [3, 4, 26], [21, 22, 24]].map (cdL 1 cdI).enc)), (2, hd 1 (c1.map (cdL 1 (cdL 1 cdI)).enc)), (3, .v (.int .i64 c2)), (4, hd 2 (c4.map (cdL 1 cdI).enc)), (5, .v (.int .i64 c5)), (6, hd 3 (c7.map cdI.enc)), (7, .v (.int .i64 c8))], [mk 1 31 ([[100, 0, 20], [1, 6, 25], [2, 5, 23], [3, 4, 26], [21, 22, 24]].map (cdL 1 cdI).enc), mk 1 50 (c1.map (cdL 1 (cdL 1 cdI)).enc), mk 1 31 (c4.map (cdL 1 cdI).enc), mk 1 3 (c7.map cdI.enc)]⟩ (fun e s => e = (.exit 4) ∧ Wk e_ref09_Kirkman s ⟨Fr 65 [(1, hd 0 ([[100, 0, 20], [1, 6, 25], [2, 5, 23], [3, 4, 26], [21, 22, 24]].map (cdL 1 cdI).enc)), (2, hd 1 (c1.map (cdL 1 (cdL 1 cdI)).enc)), (3, .v (.int .i64 c2)), (4, hd 2 (c4.map (cdL 1 cdI).enc)), (5, .v (.int .i64 c5)), (6, hd 3 (r.map cdI.enc))], [mk 1 31 ([[100, 0, 20], [1, 6, 25], [2, 5, 23], [3, 4, 26], [21, 22, 24]].map (cdL 1 cdI).enc), mk 1 50 (c1.map (cdL 1 (cdL 1 cdI)).enc), mk 1 31 (c4.map (cdL 1 cdI).enc), mk 1 3 (r.map cdI.enc)]⟩) := by
 have he := e_ref09_Kirkman_ok
 intro f
 induction f with
 | zero => intro c7 c8 r h; cases h
 | succ f ih0 =>
  intro c7 c8 r h
  have ih := fun (c7 : (List Int)) (c8 : Int) => ih0 c7 c8 r
  unfold ref09_Kirkman_3 at h
  refine SemN.succ ?_
  refine Sem.seq ?_
  let p1 : Option Blk := mk 1 3 (c7.map cdI.enc)
  let p2 : Option Blk := mk 1 31 (c4.map (cdL 1 cdI).enc)
  let p3 : Option Blk := mk 1 50 (c1.map (cdL 1 (cdL 1 cdI)).enc)
  let p4 : Option Blk := mk 1 31 ([[100, 0, 20], [1, 6, 25], [2, 5, 23], [3, 4, 26], [21, 22, 24]].map (cdL 1 cdI).enc)
  let p5 : Nat × AV := (7, .v (.int .i64 c8))
  let p6 : Nat × AV := (6, hd 3 (c7.map cdI.enc))
  let p7 : Nat × AV := (5, .v (.int .i64 c5))
  let p8 : Nat × AV := (4, hd 2 (c4.map (cdL 1 cdI).enc))
  let p9 : Nat × AV := (3, .v (.int .i64 c2))
  let p10 : Nat × AV := (2, hd 1 (c1.map (cdL 1 (cdL 1 cdI)).enc))
  let p11 : Nat × AV := (1, hd 0 ([[100, 0, 20], [1, 6, 25], [2, 5, 23], [3, 4, 26], [21, 22, 24]].map (cdL 1 cdI).enc))
  refine Sem.sq he [p11, p10, p9, p8, p7, p6, p5, (26, .v (.bool (decide (c8 < 3))))] [p4, p3, p2, p1] ?_
  refine Sem.cond (b := (decide (c8 < 3))) kr (fun hb9 => ?_) (fun hb9 => ?_)
  ·rw [if_pos hb9] at h
   refine Sem.skip ?_
   refine Sem.seq ?_
   refine Sem.block ?_
   refine Sem.seq ?_
   obtain ⟨v10, hv10, h⟩ := Option.bind_eq_some_iff.1 h
   obtain ⟨v11, hv11, h⟩ := Option.bind_eq_some_iff.1 h
   refine Sem.runS (s1 := ⟨Fr 65 [p11, p10, p9, p8, p7, p6, p5, (8, .v (.int .i64 v11))], [p4, p3, p2, p1]⟩) ?_ ?_
   ·refine RunS.segF (n := 65) he 2 [p11, p10, p9, p8, p7, p6, p5, (29, hd 0 ([[100, 0, 20], [1, 6, 25], [2, 5, 23], [3, 4, 26], [21, 22, 24]].map (cdL 1 cdI).enc)), (30, .v (.int .i64 c5))] [p4, p3, p2, p1] kr ?_
    refine RunS.one he 0 rfl (op_q (wantedA_none rfl) rfl (q_indexAddr (a := hd 0 ([[100, 0, 20], [1, 6, 25], [2, 5, 23], [3, 4, 26], [21, 22, 24]].map (cdL 1 cdI).enc)) (b := .v (.int .i64 c5)) kr kr (ix_hd (e := (cdL 1 cdI).enc) (xs := [[100, 0, 20], [1, 6, 25], [2, 5, 23], [3, 4, 26], [21, 22, 24]]) (t' := 31) (el := 31) (k := 1) (ki := .i64) kr kr kr hv10))) ?_
    refine RunS.one he 0 rfl (op_q (wantedA_none rfl) rfl (q_load (p := .pt 0 c5.toNat 0) kr (ld_mk (t' := 31) (k := 1) (m := 1) (g := false) (e := (cdL 1 cdI).enc) (xs := [[100, 0, 20], [1, 6, 25], [2, 5, 23], [3, 4, 26], [21, 22, 24]]) kr kr kr (idx_at hv10).2 kr))) ?_
    refine RunS.segF (n := 65) he 1 [p11, p10, p9, p8, p7, p6, p5, (32, .sl 1 (v10.map cdI.enc)), (33, .v (.int .i64 c8))] [p4, p3, p2, p1] kr ?_
    refine RunS.one he 0 rfl (op_q (wantedA_none rfl) rfl (q_indexAddr (a := .sl 1 (v10.map cdI.enc)) (b := .v (.int .i64 c8)) kr kr (ix_sl (e := cdI.enc) (el := 3) (k := 1) (ki := .i64) kr kr hv11))) ?_
    exact RunS.last he
   refine Sem.seq ?_
   refine Sem.block ?_
   refine Sem.sq he [p11, p10, p9, p8, p7, p6, p5, (8, .v (.int .i64 v11)), (40, .v (.bool (v11 == 100)))] [p4, p3, p2, p1] ?_
   obtain ⟨r17, hr17, h⟩ := Option.bind_eq_some_iff.1 h
   refine Sem.cut (ref09_Kirkman_j4_ok c1 c2 c4 c5 c7 c8 v11 _ hr17) ?_
   by_cases hk18 : (capOk 8 (c7.length + 1)) = true
   case neg => rw [if_neg hk18] at h; cases h
   rw [if_pos hk18] at h
   let p12 : Option Blk := mk 1 3 ((c7 ++ [r17]).map cdI.enc)
   let p13 : Nat × AV := (6, hd 3 ((c7 ++ [r17]).map cdI.enc))
   refine Sem.runS (s1 := ⟨Fr 65 [p11, p10, p9, p8, p7, p13, p5], [p4, p3, p2, p12]⟩) ?_ ?_
   ·refine RunS.segF (n := 65) he 3 [p11, p10, p9, p8, p7, p5, (52, hd 3 (c7.map cdI.enc)), (54, hd 4 ([r17].map cdI.enc))] [p4, p3, p2, p1, mk 1 3 ([r17].map cdI.enc)] kr ?_
    refine RunS.one he 0 rfl (op_w (wantedA_none rfl) rfl kr kr (w_append (a := hd 3 (c7.map cdI.enc)) (b := hd 4 ([r17].map cdI.enc)) kr kr (append_B (c := cdI) (xs := c7) (vs := [r17]) (k := 1) (bytes := 8) (el := 3) kr kr (elems_hd (t := 3) kr) (List.cons_ne_nil _ _) kr hk18))) ?_
    refine RunS.segF (n := 65) he 1 [p11, p10, p9, p8, p7, (6, hd 5 ((c7 ++ [r17]).map cdI.enc)), p5] [p4, p3, p2, none, mk 1 3 ([r17].map cdI.enc), p12] kr ?_
    exact RunS.done rfl (Wk.sel2 [0, 1, 2, 5] kr kr kr ⟨⟨_, rfl, bu_mk⟩, ⟨_, rfl, bu_mk⟩, ⟨_, rfl, bu_mk⟩, ⟨_, rfl, bu_mk⟩, trivial⟩ ⟨lu_hd (b' := 0) kr kr, lu_hd (b' := 1) kr kr, lu kr kr, lu_hd (b' := 2) kr kr, lu kr kr, lu_hd (b' := 5) kr kr, lu kr kr, trivial⟩)
   let p14 : Nat × AV := (7, .v (.int .i64 (wr .i64 (c8 + 1))))
   refine Sem.rg he [p11, p10, p9, p8, p7, p13, p14] [p4, p3, p2, p12] ?_
   exact SemN.wk (s1 := ⟨Fr 65 [p11, p10, p9, p8, p7, p13, p14], [p4, p3, p2, p12]⟩) (Wk.sel2 [0, 1, 2, 3] kr kr kr ⟨⟨_, rfl, bu_mk⟩, ⟨_, rfl, bu_mk⟩, ⟨_, rfl, bu_mk⟩, ⟨_, rfl, bu_mk⟩, trivial⟩ ⟨lu_hd (b' := 0) kr kr, lu_hd (b' := 1) kr kr, lu kr kr, lu_hd (b' := 2) kr kr, lu kr kr, lu_hd (b' := 3) kr kr, lu kr kr, trivial⟩) (ih (c7 ++ [r17]) (wr .i64 (c8 + 1)) h)
  ·rw [if_f hb9] at h
   refine Sem.exit ?_
   have hq := Option.some.inj h; subst hq
   exact ⟨rfl, (Wk.sel2 [0, 1, 2, 3] kr kr kr ⟨⟨_, rfl, bu_mk⟩, ⟨_, rfl, bu_mk⟩, ⟨_, rfl, bu_mk⟩, ⟨_, rfl, bu_mk⟩, trivial⟩ ⟨lu_hd (b' := 0) kr kr, lu_hd (b' := 1) kr kr, lu kr kr, lu_hd (b' := 2) kr kr, lu kr kr, lu_hd (b' := 3) kr kr, trivial⟩)⟩
set_option maxHeartbeats 4000000 in
set_option maxRecDepth 100000 in
theorem ref09_Kirkman_2_ok (c1 : (List (List (List Int)))) (c2 : Int) : ∀ (f : Nat) (c4 : (List (List Int))) (c5 : Int) (r : ((List (List Int)))), ref09_Kirkman_2 c1 c2 f c4 c5 = some r → SemN e_ref09_Kirkman ⟨none, false⟩ (pc cb_ref09_Kirkman [1, 1, 1, 0, 1, 0, 0, 1, 0, 0, 1, 0, 1, 0, 0]) f ⟨Fr 65 [(1, hd 0 ([[100, 0, 20], [1, 6, 25], [2, 5, 23], [3, 4, 26], [21, 22, 24]].map (cdL 1 cdI).enc)), (2, hd 1 (c1.map (cdL 1 (cdL 1 cdI)).enc)), (3, .v (.int .i64 c2)), (4, hd 2 (c4.map (cdL 1 cdI).enc)), (5, .v (.int .i64 c5))], [mk 1 31 ([[100, 0, 20], [1, 6, 25], [2, 5, 23], [3, 4, 26], [21, 22, 24]].map (cdL 1 cdI).enc), mk 1 50 (c1.map (cdL 1 (cdL 1 cdI)).enc), mk 1 31 (c4.map (cdL 1 cdI).enc)]⟩ (fun e s => e = (.exit 2) ∧ Wk e_ref09_Kirkman s ⟨Fr 65 [(1, hd 0 ([[100, 0, 20], [1, 6, 25], [2, 5, 23], [3, 4, 26], [21, 22, 24]].map (cdL 1 cdI).enc)), (2, hd 1 (c1.map (cdL 1 (cdL 1 cdI)).enc)), (3, .v (.int .i64 c2)), (4, hd 2 (r.map (cdL 1 cdI).enc))], [mk 1 31 ([[100, 0, 20], [1, 6, 25], [2, 5, 23], [3, 4, 26], [21, 22, 24]].map (cdL 1 cdI).enc), mk 1 50 (c1.map (cdL 1 (cdL 1 cdI)).enc), mk 1 31 (r.map (cdL 1 cdI).enc)]⟩) := by
 have he := e_ref09_Kirkman_ok
 intro f
 induction f with
 | zero => intro c4 c5 r h; cases h
 | succ f ih0 =>
  intro c4 c5 r h
  have ih := fun (c4 : (List (List Int))) (c5 : Int) => ih0 c4 c5 r
  unfold ref09_Kirkman_2 at h
  refine SemN.succ ?_
  refine Sem.seq ?_
  refine Sem.seq ?_
  let p1 : Option Blk := mk 1 31 (c4.map (cdL 1 cdI).enc)
  let p2 : Option Blk := mk 1 50 (c1.map (cdL 1 (cdL 1 cdI)).enc)
  let p3 : Option Blk := mk 1 31 ([[100, 0, 20], [1, 6, 25], [2, 5, 23], [3, 4, 26], [21, 22, 24]].map (cdL 1 cdI).enc)
  let p4 : Nat × AV := (5, .v (.int .i64 c5))
  let p5 : Nat × AV := (4, hd 2 (c4.map (cdL 1 cdI).enc))
  let p6 : Nat × AV := (3, .v (.int .i64 c2))
  let p7 : Nat × AV := (2, hd 1 (c1.map (cdL 1 (cdL 1 cdI)).enc))
  let p8 : Nat × AV := (1, hd 0 ([[100, 0, 20], [1, 6, 25], [2, 5, 23], [3, 4, 26], [21, 22, 24]].map (cdL 1 cdI).enc))
  refine Sem.runS (s1 := ⟨Fr 65 [p8, p7, p6, p5, p4, (22, .v (.bool (decide (c5 < ([[100, 0, 20], [1, 6, 25], [2, 5, 23], [3, 4, 26], [21, 22, 24]].length : Int)))))], [p3, p2, p1]⟩) ?_ ?_
  ·refine RunS.segF (n := 65) he 2 [p8, p7, p6, p5, p4, (19, .v (.int .i64 c5)), (20, hd 0 ([[100, 0, 20], [1, 6, 25], [2, 5, 23], [3, 4, 26], [21, 22, 24]].map (cdL 1 cdI).enc))] [p3, p2, p1] kr ?_
   refine RunS.one he 0 rfl (op_q (wantedA_none rfl) rfl (q_len (a := hd 0 ([[100, 0, 20], [1, 6, 25], [2, 5, 23], [3, 4, 26], [21, 22, 24]].map (cdL 1 cdI).enc)) kr (len_hd' (xs := [[100, 0, 20], [1, 6, 25], [2, 5, 23], [3, 4, 26], [21, 22, 24]]) (e := (cdL 1 cdI).enc) (el := 31) kr))) ?_
   exact RunS.last he
  refine Sem.cond (b := (decide (c5 < ([[100, 0, 20], [1, 6, 25], [2, 5, 23], [3, 4, 26], [21, 22, 24]].length : Int)))) kr (fun hb6 => ?_) (fun hb6 => ?_)
  ·rw [if_pos hb6] at h
   refine Sem.skip ?_
   refine Sem.seq ?_
   refine Sem.block ?_
   refine Sem.sq he [p8, p7, p6, p5, p4, (6, .e0)] [p3, p2, p1] ?_
   refine Sem.seq ?_
   let p9 : Nat × AV := (7, .v (.int .i64 0))
   refine Sem.sq he [p8, p7, p6, p5, p4, (6, .e0), p9] [p3, p2, p1] ?_
   refine Sem.block ?_
   obtain ⟨r20, hr20, h⟩ := Option.bind_eq_some_iff.1 h
   refine Sem.loop (n := 100000) ?_
   refine Sem.cutN (SemN.wk (s1 := ⟨Fr 65 [p8, p7, p6, p5, p4, (6, hd 3 ([].map cdI.enc)), p9], [p3, p2, p1, mk 1 3 ([].map cdI.enc)]⟩) (Wk.trans (s1 := ⟨Fr 65 [p8, p7, p6, p5, p4, (6, hd 3 ([].map cdI.enc)), p9], [p3, p2, p1, mk 1 3 ([].map cdI.enc)]⟩) Wk.none (Wk.sel2 [0, 1, 2, 3] kr kr kr ⟨⟨_, rfl, bu_mk⟩, ⟨_, rfl, bu_mk⟩, ⟨_, rfl, bu_mk⟩, ⟨_, rfl, bu_none⟩, trivial⟩ ⟨lu_hd (b' := 0) kr kr, lu_hd (b' := 1) kr kr, lu kr kr, lu_hd (b' := 2) kr kr, lu kr kr, lu kr kr, lu kr kr, trivial⟩)) (ref09_Kirkman_3_ok c1 c2 c4 c5 _ [] 0 _ hr20)) ?_
   by_cases hk21 : (capOk 24 (c4.length + 1)) = true
   case neg => rw [if_neg hk21] at h; cases h
   rw [if_pos hk21] at h
   let p10 : Option Blk := mk 1 31 ((c4 ++ [r20]).map (cdL 1 cdI).enc)
   let p11 : Nat × AV := (4, hd 2 ((c4 ++ [r20]).map (cdL 1 cdI).enc))
   refine Sem.runS (s1 := ⟨Fr 65 [p8, p7, p6, p11, p4], [p3, p2, p10]⟩) ?_ ?_
   ·let p12 : Nat × AV := (56, hd 2 (c4.map (cdL 1 cdI).enc))
    refine RunS.segF (n := 65) he 2 [p8, p7, p6, p4, p12, (57, hd 3 (r20.map cdI.enc))] [p3, p2, p1, mk 1 3 (r20.map cdI.enc)] kr ?_
    refine RunS.wk (s1 := ⟨Fr 65 [p8, p7, p6, p4, p12, (57, .sl 1 (r20.map cdI.enc))], [p3, p2, p1, none]⟩) (Wk.frzG 3 (.inl kr) ⟨.inr (.inl rfl), .inr (.inl rfl), .inr (.inl rfl), .inl rfl, trivial⟩ ⟨⟨hd 0 ([[100, 0, 20], [1, 6, 25], [2, 5, 23], [3, 4, 26], [21, 22, 24]].map (cdL 1 cdI).enc), kr, .inl rfl⟩, ⟨hd 1 (c1.map (cdL 1 (cdL 1 cdI)).enc), kr, .inl rfl⟩, ⟨.v (.int .i64 c2), kr, .inl rfl⟩, ⟨.v (.int .i64 c5), kr, .inl rfl⟩, ⟨hd 2 (c4.map (cdL 1 cdI).enc), kr, .inl rfl⟩, ⟨hd 3 (r20.map cdI.enc), kr, fz_hd (t := 3) kr enc_ok⟩, trivial⟩) ?_
    refine RunS.segF (n := 65) he 1 [p8, p7, p6, p4, p12, (58, hd 4 ([r20].map (cdL 1 cdI).enc))] [p3, p2, p1, none, mk 1 31 ([r20].map (cdL 1 cdI).enc)] kr ?_
    refine RunS.one he 0 rfl (op_w (wantedA_none rfl) rfl kr kr (w_append (a := hd 2 (c4.map (cdL 1 cdI).enc)) (b := hd 4 ([r20].map (cdL 1 cdI).enc)) kr kr (append_B (c := (cdL 1 cdI)) (xs := c4) (vs := [r20]) (k := 1) (bytes := 24) (el := 31) kr kr (elems_hd (t := 31) kr) (List.cons_ne_nil _ _) kr hk21))) ?_
    refine RunS.segF (n := 65) he 1 [p8, p7, p6, (4, hd 5 ((c4 ++ [r20]).map (cdL 1 cdI).enc)), p4] [p3, p2, none, none, mk 1 31 ([r20].map (cdL 1 cdI).enc), p10] kr ?_
    exact RunS.done rfl (Wk.sel2 [0, 1, 5] kr kr kr ⟨⟨_, rfl, bu_mk⟩, ⟨_, rfl, bu_mk⟩, ⟨_, rfl, bu_mk⟩, trivial⟩ ⟨lu_hd (b' := 0) kr kr, lu_hd (b' := 1) kr kr, lu kr kr, lu_hd (b' := 5) kr kr, lu kr kr, trivial⟩)
   let p13 : Nat × AV := (5, .v (.int .i64 (wr .i64 (c5 + 1))))
   refine Sem.rg he [p8, p7, p6, p11, p13] [p3, p2, p10] ?_
   exact SemN.wk (s1 := ⟨Fr 65 [p8, p7, p6, p11, p13], [p3, p2, p10]⟩) (Wk.sel2 [0, 1, 2] kr kr kr ⟨⟨_, rfl, bu_mk⟩, ⟨_, rfl, bu_mk⟩, ⟨_, rfl, bu_mk⟩, trivial⟩ ⟨lu_hd (b' := 0) kr kr, lu_hd (b' := 1) kr kr, lu kr kr, lu_hd (b' := 2) kr kr, lu kr kr, trivial⟩) (ih (c4 ++ [r20]) (wr .i64 (c5 + 1)) h)
  ·rw [if_f hb6] at h
   refine Sem.exit ?_
   have hq := Option.some.inj h; subst hq
   exact ⟨rfl, (Wk.sel2 [0, 1, 2] kr kr kr ⟨⟨_, rfl, bu_mk⟩, ⟨_, rfl, bu_mk⟩, ⟨_, rfl, bu_mk⟩, trivial⟩ ⟨lu_hd (b' := 0) kr kr, lu_hd (b' := 1) kr kr, lu kr kr, lu_hd (b' := 2) kr kr, trivial⟩)⟩
set_option maxHeartbeats 4000000 in
set_option maxRecDepth 100000 in
theorem ref09_Kirkman_1_ok  : ∀ (f : Nat) (c1 : (List (List (List Int)))) (c2 : Int) (r : ((List (List (List Int))))), ref09_Kirkman_1  f c1 c2 = some r → SemN e_ref09_Kirkman ⟨none, false⟩ (pc cb_ref09_Kirkman [1, 1, 1, 0, 1, 0, 0]) f ⟨Fr 65 [(1, hd 0 ([[100, 0, 20], [1, 6, 25], [2, 5, 23], [3, 4, 26], [21, 22, 24]].map (cdL 1 cdI).enc)), (2, hd 1 (c1.map (cdL 1 (cdL 1 cdI)).enc)), (3, .v (.int .i64 c2))], [mk 1 31 ([[100, 0, 20], [1, 6, 25], [2, 5, 23], [3, 4, 26], [21, 22, 24]].map (cdL 1 cdI).enc), mk 1 50 (c1.map (cdL 1 (cdL 1 cdI)).enc)]⟩ (fun e s => e = (.exit 0) ∧ Wk e_ref09_Kirkman s ⟨Fr 65 [(2, hd 0 (r.map (cdL 1 (cdL 1 cdI)).enc))], [mk 1 50 (r.map (cdL 1 (cdL 1 cdI)).enc)]⟩) := by
 have he := e_ref09_Kirkman_ok
 intro f
 induction f with
 | zero => intro c1 c2 r h; cases h
 | succ f ih0 =>
  intro c1 c2 r h
  have ih := fun (c1 : (List (List (List Int)))) (c2 : Int) => ih0 c1 c2 r
  unfold ref09_Kirkman_1 at h
  refine SemN.succ ?_
  refine Sem.seq ?_
  let p1 : Option Blk := mk 1 50 (c1.map (cdL 1 (cdL 1 cdI)).enc)
  let p2 : Option Blk := mk 1 31 ([[100, 0, 20], [1, 6, 25], [2, 5, 23], [3, 4, 26], [21, 22, 24]].map (cdL 1 cdI).enc)
  let p3 : Nat × AV := (3, .v (.int .i64 c2))
  let p4 : Nat × AV := (2, hd 1 (c1.map (cdL 1 (cdL 1 cdI)).enc))
  let p5 : Nat × AV := (1, hd 0 ([[100, 0, 20], [1, 6, 25], [2, 5, 23], [3, 4, 26], [21, 22, 24]].map (cdL 1 cdI).enc))
  refine Sem.sq he [p5, p4, p3, (16, .v (.bool (decide (c2 < 7))))] [p2, p1] ?_
  refine Sem.cond (b := (decide (c2 < 7))) kr (fun hb3 => ?_) (fun hb3 => ?_)
  ·rw [if_pos hb3] at h
   refine Sem.skip ?_
   refine Sem.seq ?_
   refine Sem.block ?_
   refine Sem.sq he [p5, p4, p3, (4, .e0)] [p2, p1] ?_
   refine Sem.seq ?_
   let p6 : Nat × AV := (5, .v (.int .i64 0))
   refine Sem.sq he [p5, p4, p3, (4, .e0), p6] [p2, p1] ?_
   refine Sem.block ?_
   obtain ⟨r23, hr23, h⟩ := Option.bind_eq_some_iff.1 h
   refine Sem.loop (n := 100000) ?_
   refine Sem.cutN (SemN.wk (s1 := ⟨Fr 65 [p5, p4, p3, (4, hd 2 ([].map (cdL 1 cdI).enc)), p6], [p2, p1, mk 1 31 ([].map (cdL 1 cdI).enc)]⟩) (Wk.trans (s1 := ⟨Fr 65 [p5, p4, p3, (4, hd 2 ([].map (cdL 1 cdI).enc)), p6], [p2, p1, mk 1 31 ([].map (cdL 1 cdI).enc)]⟩) Wk.none (Wk.sel2 [0, 1, 2] kr kr kr ⟨⟨_, rfl, bu_mk⟩, ⟨_, rfl, bu_mk⟩, ⟨_, rfl, bu_none⟩, trivial⟩ ⟨lu_hd (b' := 0) kr kr, lu_hd (b' := 1) kr kr, lu kr kr, lu kr kr, lu kr kr, trivial⟩)) (ref09_Kirkman_2_ok c1 c2 _ [] 0 _ hr23)) ?_
   by_cases hk24 : (capOk 24 (c1.length + 1)) = true
   case neg => rw [if_neg hk24] at h; cases h
   rw [if_pos hk24] at h
   let p7 : Option Blk := mk 1 50 ((c1 ++ [r23]).map (cdL 1 (cdL 1 cdI)).enc)
   let p8 : Nat × AV := (2, hd 1 ((c1 ++ [r23]).map (cdL 1 (cdL 1 cdI)).enc))
   refine Sem.runS (s1 := ⟨Fr 65 [p5, p8, p3], [p2, p7]⟩) ?_ ?_
   ·let p9 : Nat × AV := (60, hd 1 (c1.map (cdL 1 (cdL 1 cdI)).enc))
    refine RunS.segF (n := 65) he 2 [p5, p3, p9, (61, hd 2 (r23.map (cdL 1 cdI).enc))] [p2, p1, mk 1 31 (r23.map (cdL 1 cdI).enc)] kr ?_
    refine RunS.wk (s1 := ⟨Fr 65 [p5, p3, p9, (61, .sl 1 (r23.map (cdL 1 cdI).enc))], [p2, p1, none]⟩) (Wk.frzG 2 (.inl kr) ⟨.inr (.inl rfl), .inr (.inl rfl), .inl rfl, trivial⟩ ⟨⟨hd 0 ([[100, 0, 20], [1, 6, 25], [2, 5, 23], [3, 4, 26], [21, 22, 24]].map (cdL 1 cdI).enc), kr, .inl rfl⟩, ⟨.v (.int .i64 c2), kr, .inl rfl⟩, ⟨hd 1 (c1.map (cdL 1 (cdL 1 cdI)).enc), kr, .inl rfl⟩, ⟨hd 2 (r23.map (cdL 1 cdI).enc), kr, fz_hd (t := 31) kr enc_ok⟩, trivial⟩) ?_
    let p10 : Option Blk := mk 1 50 ([r23].map (cdL 1 (cdL 1 cdI)).enc)
    refine RunS.segF (n := 65) he 1 [p5, p3, p9, (62, hd 3 ([r23].map (cdL 1 (cdL 1 cdI)).enc))] [p2, p1, none, p10] kr ?_
    refine RunS.one he 0 rfl (op_w (wantedA_none rfl) rfl kr kr (w_append (a := hd 1 (c1.map (cdL 1 (cdL 1 cdI)).enc)) (b := hd 3 ([r23].map (cdL 1 (cdL 1 cdI)).enc)) kr kr (append_B (c := (cdL 1 (cdL 1 cdI))) (xs := c1) (vs := [r23]) (k := 1) (bytes := 24) (el := 50) kr kr (elems_hd (t := 50) kr) (List.cons_ne_nil _ _) kr hk24))) ?_
    refine RunS.segF (n := 65) he 1 [p5, (2, hd 4 ((c1 ++ [r23]).map (cdL 1 (cdL 1 cdI)).enc)), p3] [p2, none, none, p10, p7] kr ?_
    exact RunS.done rfl (Wk.sel2 [0, 4] kr kr kr ⟨⟨_, rfl, bu_mk⟩, ⟨_, rfl, bu_mk⟩, trivial⟩ ⟨lu_hd (b' := 0) kr kr, lu_hd (b' := 4) kr kr, lu kr kr, trivial⟩)
   let p11 : Nat × AV := (3, .v (.int .i64 (wr .i64 (c2 + 1))))
   refine Sem.rg he [p5, p8, p11] [p2, p7] ?_
   exact SemN.wk (s1 := ⟨Fr 65 [p5, p8, p11], [p2, p7]⟩) (Wk.sel2 [0, 1] kr kr kr ⟨⟨_, rfl, bu_mk⟩, ⟨_, rfl, bu_mk⟩, trivial⟩ ⟨lu_hd (b' := 0) kr kr, lu_hd (b' := 1) kr kr, lu kr kr, trivial⟩) (ih (c1 ++ [r23]) (wr .i64 (c2 + 1)) h)
  ·rw [if_f hb3] at h
   refine Sem.exit ?_
   have hq := Option.some.inj h; subst hq
   exact ⟨rfl, (Wk.sel2 [1] kr kr kr ⟨⟨_, rfl, bu_mk⟩, trivial⟩ ⟨lu_hd (b' := 1) kr kr, trivial⟩)⟩
set_option maxHeartbeats 4000000 in
set_option maxRecDepth 100000 in
theorem ref09_Kirkman_sem  (r : (List (List (List Int)))) (h : ref09_Kirkman  = some r) : Sem e_ref09_Kirkman ⟨none, false⟩ cb_ref09_Kirkman ⟨Fr 65 (pairs0 0 (cs_ref09_Kirkman.enc (()))), []⟩ fun e s' => (e = .normal ∨ e = .ret) ∧ ∃ xs, resA e_ref09_Kirkman.P s'.fr s'.hp Tryd.f128.results.toList = some xs ∧ retA xs = er_ref09_Kirkman r := by
 have he := e_ref09_Kirkman_ok
 unfold ref09_Kirkman at h
 refine Sem.wkQ (Sem.wk (s1 := ⟨Fr 65 [], []⟩) (Wk.fr kr) ?_)
 refine Sem.sq he [] [] ?_
 refine Sem.seq ?_
 let p1 : Option Blk := mk 1 31 ([[100, 0, 20], [1, 6, 25], [2, 5, 23], [3, 4, 26], [21, 22, 24]].map (cdL 1 cdI).enc)
 let p2 : Nat × AV := (1, hd 0 ([[100, 0, 20], [1, 6, 25], [2, 5, 23], [3, 4, 26], [21, 22, 24]].map (cdL 1 cdI).enc))
 refine Sem.runS (s1 := ⟨Fr 65 [p2], [p1]⟩) ?_ ?_
 ·let p3 : Option Blk := mk 1 3 ([21, 22, 24].map cdI.enc)
  let p4 : Option Blk := mk 1 3 ([3, 4, 26].map cdI.enc)
  let p5 : Option Blk := mk 1 3 ([2, 5, 23].map cdI.enc)
  let p6 : Nat × AV := (1, .rf 5 0 5 5)
  refine RunS.segF (n := 65) he 7 [p6] [mk 1 3 ([100, 0, 20].map cdI.enc), mk 1 3 ([1, 6, 25].map cdI.enc), p5, p4, p3, some ⟨1, 31, [hd 0 ([100, 0, 20].map cdI.enc), hd 1 ([1, 6, 25].map cdI.enc), hd 2 ([2, 5, 23].map cdI.enc), hd 3 ([3, 4, 26].map cdI.enc), hd 4 ([21, 22, 24].map cdI.enc)], false⟩] kr ?_
  exact RunS.done rfl (Wk.trans (s1 := ⟨Fr 65 [p6], [none, mk 1 3 ([1, 6, 25].map cdI.enc), p5, p4, p3, some ⟨1, 31, [.sl 1 ([100, 0, 20].map cdI.enc), hd 1 ([1, 6, 25].map cdI.enc), hd 2 ([2, 5, 23].map cdI.enc), hd 3 ([3, 4, 26].map cdI.enc), hd 4 ([21, 22, 24].map cdI.enc)], false⟩]⟩) (Wk.frzG 0 (.inl kr) ⟨.inl rfl, .inr (.inl rfl), .inr (.inl rfl), .inr (.inl rfl), .inr (.inl rfl), .inr (.inr ⟨_, _, _, _, rfl, rfl, ⟨fz_hd (t := 3) kr enc_ok, .inl rfl, .inl rfl, .inl rfl, .inl rfl, trivial⟩⟩), trivial⟩ ⟨⟨.rf 5 0 5 5, kr, .inl rfl⟩, trivial⟩) (Wk.trans (s1 := ⟨Fr 65 [p6], [none, none, p5, p4, p3, some ⟨1, 31, [.sl 1 ([100, 0, 20].map cdI.enc), .sl 1 ([1, 6, 25].map cdI.enc), hd 2 ([2, 5, 23].map cdI.enc), hd 3 ([3, 4, 26].map cdI.enc), hd 4 ([21, 22, 24].map cdI.enc)], false⟩]⟩) (Wk.frzG 1 (.inl kr) ⟨.inl rfl, .inl rfl, .inr (.inl rfl), .inr (.inl rfl), .inr (.inl rfl), .inr (.inr ⟨_, _, _, _, rfl, rfl, ⟨.inl rfl, fz_hd (t := 3) kr enc_ok, .inl rfl, .inl rfl, .inl rfl, trivial⟩⟩), trivial⟩ ⟨⟨.rf 5 0 5 5, kr, .inl rfl⟩, trivial⟩) (Wk.trans (s1 := ⟨Fr 65 [p6], [none, none, none, p4, p3, some ⟨1, 31, [.sl 1 ([100, 0, 20].map cdI.enc), .sl 1 ([1, 6, 25].map cdI.enc), .sl 1 ([2, 5, 23].map cdI.enc), hd 3 ([3, 4, 26].map cdI.enc), hd 4 ([21, 22, 24].map cdI.enc)], false⟩]⟩) (Wk.frzG 2 (.inl kr) ⟨.inl rfl, .inl rfl, .inl rfl, .inr (.inl rfl), .inr (.inl rfl), .inr (.inr ⟨_, _, _, _, rfl, rfl, ⟨.inl rfl, .inl rfl, fz_hd (t := 3) kr enc_ok, .inl rfl, .inl rfl, trivial⟩⟩), trivial⟩ ⟨⟨.rf 5 0 5 5, kr, .inl rfl⟩, trivial⟩) (Wk.trans (s1 := ⟨Fr 65 [p6], [none, none, none, none, p3, some ⟨1, 31, [.sl 1 ([100, 0, 20].map cdI.enc), .sl 1 ([1, 6, 25].map cdI.enc), .sl 1 ([2, 5, 23].map cdI.enc), .sl 1 ([3, 4, 26].map cdI.enc), hd 4 ([21, 22, 24].map cdI.enc)], false⟩]⟩) (Wk.frzG 3 (.inl kr) ⟨.inl rfl, .inl rfl, .inl rfl, .inl rfl, .inr (.inl rfl), .inr (.inr ⟨_, _, _, _, rfl, rfl, ⟨.inl rfl, .inl rfl, .inl rfl, fz_hd (t := 3) kr enc_ok, .inl rfl, trivial⟩⟩), trivial⟩ ⟨⟨.rf 5 0 5 5, kr, .inl rfl⟩, trivial⟩) (Wk.trans (s1 := ⟨Fr 65 [(1, hd 5 ([[100, 0, 20], [1, 6, 25], [2, 5, 23], [3, 4, 26], [21, 22, 24]].map (cdL 1 cdI).enc))], [none, none, none, none, none, p1]⟩) (Wk.frzG 4 (.inl kr) ⟨.inl rfl, .inl rfl, .inl rfl, .inl rfl, .inl rfl, .inr (.inr ⟨_, _, _, _, rfl, rfl, ⟨.inl rfl, .inl rfl, .inl rfl, .inl rfl, fz_hd (t := 3) kr enc_ok, trivial⟩⟩), trivial⟩ ⟨⟨.rf 5 0 5 5, kr, .inl rfl⟩, trivial⟩) (Wk.sel2 [5] kr kr kr ⟨⟨_, rfl, bu_mk⟩, trivial⟩ ⟨lu_hd (b' := 5) kr kr, trivial⟩))))))
 refine Sem.sq he [p2, (2, .e0)] [p1] ?_
 refine Sem.seq ?_
 let p7 : Nat × AV := (3, .v (.int .i64 0))
 refine Sem.sq he [p2, (2, .e0), p7] [p1] ?_
 refine Sem.block ?_
 obtain ⟨r26, hr26, h⟩ := Option.bind_eq_some_iff.1 h
 refine Sem.loop (n := 100000) ?_
 let p8 : Option Blk := mk 1 50 ([].map (cdL 1 (cdL 1 cdI)).enc)
 let p9 : Nat × AV := (2, hd 1 ([].map (cdL 1 (cdL 1 cdI)).enc))
 refine Sem.cutN (SemN.wk (s1 := ⟨Fr 65 [p2, p9, p7], [p1, p8]⟩) (Wk.trans (s1 := ⟨Fr 65 [p2, p9, p7], [p1, p8]⟩) Wk.none (Wk.sel2 [0, 1] kr kr kr ⟨⟨_, rfl, bu_mk⟩, ⟨_, rfl, bu_none⟩, trivial⟩ ⟨lu_hd (b' := 0) kr kr, lu kr kr, lu kr kr, trivial⟩)) (ref09_Kirkman_1_ok  _ [] 0 _ hr26)) ?_
 refine Sem.sq he [(0, hd 0 (r26.map (cdL 1 (cdL 1 cdI)).enc))] [mk 1 50 (r26.map (cdL 1 (cdL 1 cdI)).enc)] ?_
 refine Sem.ret ?_
 have hq := Option.some.inj h; subst hq
 let p10 : Nat × AV := (0, .sl 1 (r26.map (cdL 1 (cdL 1 cdI)).enc))
 exact ⟨⟨Fr 65 [p10], []⟩, (Wk.trans (s1 := ⟨Fr 65 [p10], [none]⟩) (Wk.frzG 0 (.inl kr) ⟨.inl rfl, trivial⟩ ⟨⟨hd 0 (r26.map (cdL 1 (cdL 1 cdI)).enc), kr, fz_hd (t := 50) kr enc_ok⟩, trivial⟩) (Wk.sel2 [] kr kr kr trivial ⟨lu kr kr, trivial⟩)), .inr rfl, [.sl 1 (r26.map (cdL 1 (cdL 1 cdI)).enc)], kr, kr⟩
def t_ref09_Kirkman : List AV → Option AV := told cs_ref09_Kirkman (fun a => ref09_Kirkman ) er_ref09_Kirkman
theorem x_ref09_Kirkman : XOk 128 t_ref09_Kirkman := by
 refine EnvOk.x (E := e_ref09_Kirkman) (contract_ok e_ref09_Kirkman_ok (fn := Tryd.f128) (c := cb_ref09_Kirkman) ?h1 ?h2 ⟨Tryd.call128⟩ cs_ref09_Kirkman (fun a => ref09_Kirkman ) er_ref09_Kirkman (fun a => (by show 0 ≤ 65; decide)) ?h3 ?h4) rfl rfl
 case h1 => kernel_rfl
 case h2 => kernel_rfl
 case h3 => intro b; kernel_rfl
 case h4 => exact fun a b h => ref09_Kirkman_sem  b h
/- trestle/trestleref09.candidate -/
noncomputable def e_ref09_candidate : Env := (((((E0.withX 127 t_ref09_from).withX 57 t_ref09_Pairs).withX 128 t_ref09_Kirkman).withX 62 t_ref09_Plane).withX 61 t_ref09_Net)
theorem e_ref09_candidate_ok : EnvOk e_ref09_candidate := (EnvOk.withX (EnvOk.withX (EnvOk.withX (EnvOk.withX (EnvOk.withX E0_ok x_ref09_from.1 x_ref09_from.2) x_ref09_Pairs.1 x_ref09_Pairs.2) x_ref09_Kirkman.1 x_ref09_Kirkman.2) x_ref09_Plane.1 x_ref09_Plane.2) x_ref09_Net.1 x_ref09_Net.2)
noncomputable def cb_ref09_candidate : Code := codeOf Tryd.f107
def ref09_candidate_j22 (x0 : Int) (x1 : Int) : Option (((List (List (List Int))))) :=
 if (x1 == x0) = true then
 (ref09_from x0).bind fun v111 =>
 some [[v111]]
 else
 some []
def ref09_candidate_25 (x0 : Int) (x1 : Int) (c118 : Int) (j121 : (List (List (List Int))) × Bool) : Nat → (List (List Int)) → Int → Option (((List (List Int))))
 | 0, _, _ => none
 | f + 1, c123, c124 =>
  if (decide (c124 < x0)) = true then
  if (capOk 24 (c123.length + 1)) = true then
  ref09_candidate_25 x0 x1 c118 j121 f (c123 ++ [[c124]]) (wr .i64 (c124 + 1))
  else none
  else
  some c123
def ref09_candidate_24 (x0 : Int) (x1 : Int) : Nat → (List (List (List Int))) → Int → Option (((List (List (List Int)))))
 | 0, _, _ => none
 | f + 1, c117, c118 =>
  (if (decide (c118 < 64)) = true then some (c117, (x1 == 1)) else some (c117, false)).bind fun j121 =>
  if j121.2 = true then
  (ref09_candidate_25 x0 x1 c118 j121 100000 [] 0).bind fun r128 =>
  if (capOk 24 (j121.1.length + 1)) = true then
  ref09_candidate_24 x0 x1 f (j121.1 ++ [r128]) (wr .i64 (c118 + 1))
  else none
  else
  some j121.1
def ref09_candidate_j27 (x0 : Int) (j136 : Bool) : Option (((List (List (List Int))))) :=
 if j136 = true then
 (ref09_Pairs x0).bind fun v138 =>
 some v138.1
 else
 some []
def ref09_candidate_j29 (j145 : Bool) : Option (((List (List (List Int))))) :=
 if j145 = true then
 ref09_Kirkman.bind fun v147 =>
 some v147
 else
 some []
def ref09_candidate_j31 (x0 : Int) (x1 : Int) : Option (((List (List (List Int))))) :=
 if (x0 == (wr .i64 (x1 * x1))) = true then
 (ref09_Plane x1).bind fun v154 =>
 some v154.1
 else
 some []
def ref09_candidate_j32 (x0 : Int) (x1 : Int) (x2 : Int) : Option (((List (List (List Int))))) :=
 if (x2 == 6) = true then
 if x1 = (0 : Int) then none else
 (ref09_Net x1 (wr .i64 (x0.tdiv x1))).bind fun v160 =>
 some v160.1
 else
 some []
def ref09_candidate_j30 (x0 : Int) (x1 : Int) (x2 : Int) : Option (((List (List (List Int))))) :=
 if (x2 == 5) = true then
 (ref09_candidate_j31 x0 x1).bind fun r156 =>
 some r156
 else
 (ref09_candidate_j32 x0 x1 x2).bind fun r162 =>
 some r162
def ref09_candidate_j28 (x0 : Int) (x1 : Int) (x2 : Int) : Option (((List (List (List Int))))) :=
 if (x2 == 4) = true then
 (if (x1 == 3) = true then some (x0 == 15) else some false).bind fun j145 =>
 (ref09_candidate_j29 j145).bind fun r149 =>
 some r149
 else
 (ref09_candidate_j30 x0 x1 x2).bind fun r163 =>
 some r163
def ref09_candidate_j26 (x0 : Int) (x1 : Int) (x2 : Int) : Option (((List (List (List Int))))) :=
 if (x2 == 3) = true then
 (if (x1 == 2) = true then some ((x0.tmod 2) == 0) else some false).bind fun j136 =>
 (ref09_candidate_j27 x0 j136).bind fun r140 =>
 some r140
 else
 (ref09_candidate_j28 x0 x1 x2).bind fun r164 =>
 some r164
def ref09_candidate_j23 (x0 : Int) (x1 : Int) (x2 : Int) : Option (((List (List (List Int))))) :=
 if (x2 == 2) = true then
 (ref09_candidate_24 x0 x1 100000 [] 0).bind fun r132 =>
 some r132
 else
 (ref09_candidate_j26 x0 x1 x2).bind fun r165 =>
 some r165
def ref09_candidate_j1 (x0 : Int) (x1 : Int) (x2 : Int) : Option (((List (List (List Int))))) :=
 if (x2 == 1) = true then
 (ref09_candidate_j22 x0 x1).bind fun r114 =>
 some r114
 else
 (ref09_candidate_j23 x0 x1 x2).bind fun r166 =>
 some r166
def ref09_candidate (x0 : Int) (x1 : Int) (x2 : Int) : Option ((List (List (List Int)))) :=
 (ref09_candidate_j1 x0 x1 x2).bind fun r167 =>
 some r167
def cs_ref09_candidate : Cs (Int × Int × Int × Unit) := (csC cdI (csC cdI (csC cdI csN)))
def er_ref09_candidate (r : (List (List (List Int)))) : AV := (cdL 1 (cdL 1 (cdL 1 cdI))).enc r
set_option maxHeartbeats 4000000 in
set_option maxRecDepth 100000 in
theorem ref09_candidate_j22_ok (x0 : Int) (x1 : Int) (r : ((List (List (List Int))))) (h : ref09_candidate_j22 x0 x1 = some r) : Sem e_ref09_candidate ⟨none, false⟩ (pc cb_ref09_candidate [1, 1, 0, 1, 0, 1, 0, 1]) ⟨Fr 93 [(0, .v (.int .i64 x0)), (7, .e0), (16, .v (.bool (x1 == x0)))], []⟩ (fun e s => e = .normal ∧ Wk e_ref09_candidate s ⟨Fr 93 [(7, hd 0 (r.map (cdL 1 (cdL 1 cdI)).enc))], [mk 1 50 (r.map (cdL 1 (cdL 1 cdI)).enc)]⟩) := by
 have he := e_ref09_candidate_ok
 unfold ref09_candidate_j22 at h
 refine Sem.cond (b := (x1 == x0)) kr (fun hb110 => ?_) (fun hb110 => ?_)
 ·rw [if_pos hb110] at h
  obtain ⟨v111, hv111, h⟩ := Option.bind_eq_some_iff.1 h
  let p1 : Option Blk := mk 1 50 ([[v111]].map (cdL 1 (cdL 1 cdI)).enc)
  refine Sem.runS (s1 := ⟨Fr 93 [(7, hd 0 ([[v111]].map (cdL 1 (cdL 1 cdI)).enc))], [p1]⟩) ?_ ?_
  ·refine RunS.segF (n := 93) he 2 [(17, .e0), (18, .v (.int .i64 x0))] [] kr ?_
   refine RunS.call he (fid := 127) (s := cs_ref09_from) (F := fun a => ref09_from a.1) (er := er_ref09_from) (xs := [.v (.int .i64 x0)]) (a := (x0, ())) rfl (wantedA_none rfl) kr kr kr kr (Sns.cons (Sn.enc (c := cdI) (v := x0)) Sns.nil) (.inl kr) hv111 ?_
   refine RunS.segF (n := 93) he 2 [(17, .e0), (21, .rf 1 0 1 1)] [mk 1 31 ([v111].map (cdL 1 cdI).enc), some ⟨1, 50, [hd 0 ([v111].map (cdL 1 cdI).enc)], false⟩] kr ?_
   refine RunS.wk (s1 := ⟨Fr 93 [(17, .e0), (21, hd 1 ([[v111]].map (cdL 1 (cdL 1 cdI)).enc))], [none, p1]⟩) (Wk.frzG 0 (.inl kr) ⟨.inl rfl, .inr (.inr ⟨_, _, _, _, rfl, rfl, ⟨fz_hd (t := 31) kr enc_ok, trivial⟩⟩), trivial⟩ ⟨⟨.e0, kr, .inl rfl⟩, ⟨.rf 1 0 1 1, kr, .inl rfl⟩, trivial⟩) ?_
   refine RunS.one he 0 rfl (op_w (wantedA_none rfl) rfl kr kr (w_append (a := .e0) (b := hd 1 ([[v111]].map (cdL 1 (cdL 1 cdI)).enc)) kr kr (append_E (c := (cdL 1 (cdL 1 cdI))) (vs := [[v111]]) (k := 1) (bytes := 24) (el := 50) kr kr (elems_hd (t := 50) kr) (List.cons_ne_nil _ _) kr))) ?_
   refine RunS.segF (n := 93) he 1 [(7, hd 2 ([[v111]].map (cdL 1 (cdL 1 cdI)).enc))] [none, p1, p1] kr ?_
   exact RunS.done rfl (Wk.sel2 [2] kr kr kr ⟨⟨_, rfl, bu_mk⟩, trivial⟩ ⟨lu_hd (b' := 2) kr kr, trivial⟩)
  have hq := Option.some.inj h; subst hq
  exact ⟨rfl, (Wk.sel2 [0] kr kr kr ⟨⟨_, rfl, bu_mk⟩, trivial⟩ ⟨lu_hd (b' := 0) kr kr, trivial⟩)⟩
 ·rw [if_f hb110] at h
  refine Sem.skip ?_
  have hq := Option.some.inj h; subst hq
  exact ⟨rfl, (Wk.trans (s1 := ⟨Fr 93 [(0, .v (.int .i64 x0)), (7, hd 0 ([].map (cdL 1 (cdL 1 cdI)).enc)), (16, .v (.bool (x1 == x0)))], [mk 1 50 ([].map (cdL 1 (cdL 1 cdI)).enc)]⟩) Wk.none (Wk.sel2 [0] kr kr kr ⟨⟨_, rfl, bu_none⟩, trivial⟩ ⟨lu kr kr, trivial⟩))⟩
set_option maxHeartbeats 4000000 in
set_option maxRecDepth 100000 in
theorem ref09_candidate_25_ok (x0 : Int) (x1 : Int) (c118 : Int) (j121 : (List (List (List Int))) × Bool) : ∀ (f : Nat) (c123 : (List (List Int))) (c124 : Int) (r : ((List (List Int)))), ref09_candidate_25 x0 x1 c118 j121 f c123 c124 = some r → SemN e_ref09_candidate ⟨none, false⟩ (pc cb_ref09_candidate [1, 1, 0, 1, 0, 1, 1, 1, 0, 1, 0, 0, 1, 0, 0, 1, 0, 1, 0, 0]) f ⟨Fr 93 [(0, .v (.int .i64 x0)), (1, .v (.int .i64 x1)), (7, hd 0 (j121.1.map (cdL 1 (cdL 1 cdI)).enc)), (8, .v (.int .i64 c118)), (9, hd 1 (c123.map (cdL 1 cdI).enc)), (10, .v (.int .i64 c124))], [mk 1 50 (j121.1.map (cdL 1 (cdL 1 cdI)).enc), mk 1 31 (c123.map (cdL 1 cdI).enc)]⟩ (fun e s => e = (.exit 3) ∧ Wk e_ref09_candidate s ⟨Fr 93 [(0, .v (.int .i64 x0)), (1, .v (.int .i64 x1)), (7, hd 0 (j121.1.map (cdL 1 (cdL 1 cdI)).enc)), (8, .v (.int .i64 c118)), (9, hd 1 (r.map (cdL 1 cdI).enc))], [mk 1 50 (j121.1.map (cdL 1 (cdL 1 cdI)).enc), mk 1 31 (r.map (cdL 1 cdI).enc)]⟩) := by
 have he := e_ref09_candidate_ok
 intro f
 induction f with
 | zero => intro c123 c124 r h; cases h
 | succ f ih0 =>
  intro c123 c124 r h
  have ih := fun (c123 : (List (List Int))) (c124 : Int) => ih0 c123 c124 r
  unfold ref09_candidate_25 at h
  refine SemN.succ ?_
  refine Sem.seq ?_
  let p1 : Option Blk := mk 1 31 (c123.map (cdL 1 cdI).enc)
  let p2 : Option Blk := mk 1 50 (j121.1.map (cdL 1 (cdL 1 cdI)).enc)
  let p3 : Nat × AV := (10, .v (.int .i64 c124))
  let p4 : Nat × AV := (8, .v (.int .i64 c118))
  let p5 : Nat × AV := (7, hd 0 (j121.1.map (cdL 1 (cdL 1 cdI)).enc))
  let p6 : Nat × AV := (1, .v (.int .i64 x1))
  let p7 : Nat × AV := (0, .v (.int .i64 x0))
  refine Sem.sq he [p7, p6, p5, p4, (9, hd 1 (c123.map (cdL 1 cdI).enc)), p3, (35, .v (.bool (decide (c124 < x0))))] [p2, p1] ?_
  refine Sem.cond (b := (decide (c124 < x0))) kr (fun hb125 => ?_) (fun hb125 => ?_)
  ·rw [if_pos hb125] at h
   refine Sem.skip ?_
   refine Sem.seq ?_
   refine Sem.block ?_
   by_cases hk126 : (capOk 24 (c123.length + 1)) = true
   case neg => rw [if_neg hk126] at h; cases h
   rw [if_pos hk126] at h
   let p8 : Option Blk := mk 1 31 ((c123 ++ [[c124]]).map (cdL 1 cdI).enc)
   let p9 : Nat × AV := (9, hd 1 ((c123 ++ [[c124]]).map (cdL 1 cdI).enc))
   refine Sem.runS (s1 := ⟨Fr 93 [p7, p6, p5, p4, p9, p3], [p2, p8]⟩) ?_ ?_
   ·let p10 : Nat × AV := (38, hd 1 (c123.map (cdL 1 cdI).enc))
    refine RunS.segF (n := 93) he 4 [p7, p6, p5, p4, p3, p10, (41, .rf 3 0 1 1)] [p2, p1, mk 1 3 ([c124].map cdI.enc), some ⟨1, 31, [hd 2 ([c124].map cdI.enc)], false⟩] kr ?_
    let p11 : Option Blk := mk 1 31 ([[c124]].map (cdL 1 cdI).enc)
    refine RunS.wk (s1 := ⟨Fr 93 [p7, p6, p5, p4, p3, p10, (41, hd 3 ([[c124]].map (cdL 1 cdI).enc))], [p2, p1, none, p11]⟩) (Wk.frzG 2 (.inl kr) ⟨.inr (.inl rfl), .inr (.inl rfl), .inl rfl, .inr (.inr ⟨_, _, _, _, rfl, rfl, ⟨fz_hd (t := 3) kr enc_ok, trivial⟩⟩), trivial⟩ ⟨⟨.v (.int .i64 x0), kr, .inl rfl⟩, ⟨.v (.int .i64 x1), kr, .inl rfl⟩, ⟨hd 0 (j121.1.map (cdL 1 (cdL 1 cdI)).enc), kr, .inl rfl⟩, ⟨.v (.int .i64 c118), kr, .inl rfl⟩, ⟨.v (.int .i64 c124), kr, .inl rfl⟩, ⟨hd 1 (c123.map (cdL 1 cdI).enc), kr, .inl rfl⟩, ⟨.rf 3 0 1 1, kr, .inl rfl⟩, trivial⟩) ?_
    refine RunS.one he 0 rfl (op_w (wantedA_none rfl) rfl kr kr (w_append (a := hd 1 (c123.map (cdL 1 cdI).enc)) (b := hd 3 ([[c124]].map (cdL 1 cdI).enc)) kr kr (append_B (c := (cdL 1 cdI)) (xs := c123) (vs := [[c124]]) (k := 1) (bytes := 24) (el := 31) kr kr (elems_hd (t := 31) kr) (List.cons_ne_nil _ _) kr hk126))) ?_
    refine RunS.segF (n := 93) he 1 [p7, p6, p5, p4, (9, hd 4 ((c123 ++ [[c124]]).map (cdL 1 cdI).enc)), p3] [p2, none, none, p11, p8] kr ?_
    exact RunS.done rfl (Wk.sel2 [0, 4] kr kr kr ⟨⟨_, rfl, bu_mk⟩, ⟨_, rfl, bu_mk⟩, trivial⟩ ⟨lu kr kr, lu kr kr, lu_hd (b' := 0) kr kr, lu kr kr, lu_hd (b' := 4) kr kr, lu kr kr, trivial⟩)
   let p12 : Nat × AV := (10, .v (.int .i64 (wr .i64 (c124 + 1))))
   refine Sem.rg he [p7, p6, p5, p4, p9, p12] [p2, p8] ?_
   exact SemN.wk (s1 := ⟨Fr 93 [p7, p6, p5, p4, p9, p12], [p2, p8]⟩) (Wk.sel2 [0, 1] kr kr kr ⟨⟨_, rfl, bu_mk⟩, ⟨_, rfl, bu_mk⟩, trivial⟩ ⟨lu kr kr, lu kr kr, lu_hd (b' := 0) kr kr, lu kr kr, lu_hd (b' := 1) kr kr, lu kr kr, trivial⟩) (ih (c123 ++ [[c124]]) (wr .i64 (c124 + 1)) h)
  ·rw [if_f hb125] at h
   refine Sem.exit ?_
   have hq := Option.some.inj h; subst hq
   exact ⟨rfl, (Wk.sel2 [0, 1] kr kr kr ⟨⟨_, rfl, bu_mk⟩, ⟨_, rfl, bu_mk⟩, trivial⟩ ⟨lu kr kr, lu kr kr, lu_hd (b' := 0) kr kr, lu kr kr, lu_hd (b' := 1) kr kr, trivial⟩)⟩
set_option maxHeartbeats 4000000 in
set_option maxRecDepth 100000 in
theorem ref09_candidate_24_ok (x0 : Int) (x1 : Int) : ∀ (f : Nat) (c117 : (List (List (List Int)))) (c118 : Int) (r : ((List (List (List Int))))), ref09_candidate_24 x0 x1 f c117 c118 = some r → SemN e_ref09_candidate ⟨none, false⟩ (pc cb_ref09_candidate [1, 1, 0, 1, 0, 1, 1, 1, 0, 1, 0, 0]) f ⟨Fr 93 [(0, .v (.int .i64 x0)), (1, .v (.int .i64 x1)), (7, hd 0 (c117.map (cdL 1 (cdL 1 cdI)).enc)), (8, .v (.int .i64 c118))], [mk 1 50 (c117.map (cdL 1 (cdL 1 cdI)).enc)]⟩ (fun e s => e = (.exit 1) ∧ Wk e_ref09_candidate s ⟨Fr 93 [(7, hd 0 (r.map (cdL 1 (cdL 1 cdI)).enc))], [mk 1 50 (r.map (cdL 1 (cdL 1 cdI)).enc)]⟩) := by
 have he := e_ref09_candidate_ok
 intro f
 induction f with
 | zero => intro c117 c118 r h; cases h
 | succ f ih0 =>
  intro c117 c118 r h
  have ih := fun (c117 : (List (List (List Int)))) (c118 : Int) => ih0 c117 c118 r
  unfold ref09_candidate_24 at h
  refine SemN.succ ?_
  refine Sem.seq ?_
  refine Sem.seq ?_
  obtain ⟨j121, hj121, h⟩ := Option.bind_eq_some_iff.1 h
  let p1 : Option Blk := mk 1 50 (j121.1.map (cdL 1 (cdL 1 cdI)).enc)
  let p2 : Nat × AV := (8, .v (.int .i64 c118))
  let p3 : Nat × AV := (7, hd 0 (j121.1.map (cdL 1 (cdL 1 cdI)).enc))
  let p4 : Nat × AV := (1, .v (.int .i64 x1))
  let p5 : Nat × AV := (0, .v (.int .i64 x0))
  refine Sem.runS (s1 := ⟨Fr 93 [p5, p4, p3, p2, (30, .v (.bool j121.2))], [p1]⟩) ?_ ?_
  ·let p6 : Option Blk := mk 1 50 (c117.map (cdL 1 (cdL 1 cdI)).enc)
   let p7 : Nat × AV := (7, hd 0 (c117.map (cdL 1 (cdL 1 cdI)).enc))
   refine RunS.segF (n := 93) he 3 [p5, p4, p7, p2, (27, .v (.bool (decide (c118 < 64))))] [p6] kr ?_
   rcases Bool.eq_false_or_eq_true (decide (c118 < 64)) with hc131 | hc131
   ·rw [if_pos hc131] at hj121
    rw [hc131]
    refine RunS.segF (n := 93) he 3 [p5, p4, p7, p2, (28, .v (.int .i64 x1)), (29, .v (.bool (x1 == 1))), (30, .v (.bool (x1 == 1)))] [p6] kr ?_
    have hq := Option.some.inj hj121; subst hq
    exact RunS.done rfl (Wk.sel2 [0] kr kr kr ⟨⟨_, rfl, bu_mk⟩, trivial⟩ ⟨lu kr kr, lu kr kr, lu_hd (b' := 0) kr kr, lu kr kr, lu kr kr, trivial⟩)
   ·rw [if_f hc131] at hj121
    rw [hc131]
    refine RunS.segF (n := 93) he 3 [p5, p4, p7, p2, (28, .tp []), (29, .tp []), (30, .v (.bool false))] [p6] kr ?_
    have hq := Option.some.inj hj121; subst hq
    exact RunS.done rfl (Wk.sel2 [0] kr kr kr ⟨⟨_, rfl, bu_mk⟩, trivial⟩ ⟨lu kr kr, lu kr kr, lu_hd (b' := 0) kr kr, lu kr kr, lu kr kr, trivial⟩)
  refine Sem.cond (b := j121.2) kr (fun hb122 => ?_) (fun hb122 => ?_)
  ·rw [if_pos hb122] at h
   refine Sem.skip ?_
   refine Sem.seq ?_
   refine Sem.block ?_
   refine Sem.sq he [p5, p4, p3, p2, (9, .e0)] [p1] ?_
   refine Sem.seq ?_
   let p8 : Nat × AV := (10, .v (.int .i64 0))
   refine Sem.sq he [p5, p4, p3, p2, (9, .e0), p8] [p1] ?_
   refine Sem.block ?_
   obtain ⟨r128, hr128, h⟩ := Option.bind_eq_some_iff.1 h
   refine Sem.loop (n := 100000) ?_
   refine Sem.cutN (SemN.wk (s1 := ⟨Fr 93 [p5, p4, p3, p2, (9, hd 1 ([].map (cdL 1 cdI).enc)), p8], [p1, mk 1 31 ([].map (cdL 1 cdI).enc)]⟩) (Wk.trans (s1 := ⟨Fr 93 [p5, p4, p3, p2, (9, hd 1 ([].map (cdL 1 cdI).enc)), p8], [p1, mk 1 31 ([].map (cdL 1 cdI).enc)]⟩) Wk.none (Wk.sel2 [0, 1] kr kr kr ⟨⟨_, rfl, bu_mk⟩, ⟨_, rfl, bu_none⟩, trivial⟩ ⟨lu kr kr, lu kr kr, lu_hd (b' := 0) kr kr, lu kr kr, lu kr kr, lu kr kr, trivial⟩)) (ref09_candidate_25_ok x0 x1 c118 j121 _ [] 0 _ hr128)) ?_
   by_cases hk129 : (capOk 24 (j121.1.length + 1)) = true
   case neg => rw [if_neg hk129] at h; cases h
   rw [if_pos hk129] at h
   let p9 : Option Blk := mk 1 50 ((j121.1 ++ [r128]).map (cdL 1 (cdL 1 cdI)).enc)
   let p10 : Nat × AV := (7, hd 0 ((j121.1 ++ [r128]).map (cdL 1 (cdL 1 cdI)).enc))
   refine Sem.runS (s1 := ⟨Fr 93 [p5, p4, p10, p2], [p9]⟩) ?_ ?_
   ·let p11 : Nat × AV := (43, hd 0 (j121.1.map (cdL 1 (cdL 1 cdI)).enc))
    refine RunS.segF (n := 93) he 2 [p5, p4, p2, p11, (44, hd 1 (r128.map (cdL 1 cdI).enc))] [p1, mk 1 31 (r128.map (cdL 1 cdI).enc)] kr ?_
    refine RunS.wk (s1 := ⟨Fr 93 [p5, p4, p2, p11, (44, .sl 1 (r128.map (cdL 1 cdI).enc))], [p1, none]⟩) (Wk.frzG 1 (.inl kr) ⟨.inr (.inl rfl), .inl rfl, trivial⟩ ⟨⟨.v (.int .i64 x0), kr, .inl rfl⟩, ⟨.v (.int .i64 x1), kr, .inl rfl⟩, ⟨.v (.int .i64 c118), kr, .inl rfl⟩, ⟨hd 0 (j121.1.map (cdL 1 (cdL 1 cdI)).enc), kr, .inl rfl⟩, ⟨hd 1 (r128.map (cdL 1 cdI).enc), kr, fz_hd (t := 31) kr enc_ok⟩, trivial⟩) ?_
    let p12 : Option Blk := mk 1 50 ([r128].map (cdL 1 (cdL 1 cdI)).enc)
    refine RunS.segF (n := 93) he 1 [p5, p4, p2, p11, (45, hd 2 ([r128].map (cdL 1 (cdL 1 cdI)).enc))] [p1, none, p12] kr ?_
    refine RunS.one he 0 rfl (op_w (wantedA_none rfl) rfl kr kr (w_append (a := hd 0 (j121.1.map (cdL 1 (cdL 1 cdI)).enc)) (b := hd 2 ([r128].map (cdL 1 (cdL 1 cdI)).enc)) kr kr (append_B (c := (cdL 1 (cdL 1 cdI))) (xs := j121.1) (vs := [r128]) (k := 1) (bytes := 24) (el := 50) kr kr (elems_hd (t := 50) kr) (List.cons_ne_nil _ _) kr hk129))) ?_
    refine RunS.segF (n := 93) he 1 [p5, p4, (7, hd 3 ((j121.1 ++ [r128]).map (cdL 1 (cdL 1 cdI)).enc)), p2] [none, none, p12, p9] kr ?_
    exact RunS.done rfl (Wk.sel2 [3] kr kr kr ⟨⟨_, rfl, bu_mk⟩, trivial⟩ ⟨lu kr kr, lu kr kr, lu_hd (b' := 3) kr kr, lu kr kr, trivial⟩)
   let p13 : Nat × AV := (8, .v (.int .i64 (wr .i64 (c118 + 1))))
   refine Sem.rg he [p5, p4, p10, p13] [p9] ?_
   exact SemN.wk (s1 := ⟨Fr 93 [p5, p4, p10, p13], [p9]⟩) (Wk.sel2 [0] kr kr kr ⟨⟨_, rfl, bu_mk⟩, trivial⟩ ⟨lu kr kr, lu kr kr, lu_hd (b' := 0) kr kr, lu kr kr, trivial⟩) (ih (j121.1 ++ [r128]) (wr .i64 (c118 + 1)) h)
  ·rw [if_f hb122] at h
   refine Sem.exit ?_
   have hq := Option.some.inj h; subst hq
   exact ⟨rfl, (Wk.sel2 [0] kr kr kr ⟨⟨_, rfl, bu_mk⟩, trivial⟩ ⟨lu_hd (b' := 0) kr kr, trivial⟩)⟩
set_option maxHeartbeats 4000000 in
set_option maxRecDepth 100000 in
theorem ref09_candidate_j27_ok (x0 : Int) (j136 : Bool) (r : ((List (List (List Int))))) (h : ref09_candidate_j27 x0 j136 = some r) : Sem e_ref09_candidate ⟨none, false⟩ (pc cb_ref09_candidate [1, 1, 0, 1, 0, 1, 1, 1, 1, 1, 0, 1]) ⟨Fr 93 [(0, .v (.int .i64 x0)), (7, .e0), (55, .v (.bool j136))], []⟩ (fun e s => e = .normal ∧ Wk e_ref09_candidate s ⟨Fr 93 [(7, .sl 1 (r.map (cdL 1 (cdL 1 cdI)).enc))], []⟩) := by
 have he := e_ref09_candidate_ok
 unfold ref09_candidate_j27 at h
 refine Sem.cond (b := j136) kr (fun hb137 => ?_) (fun hb137 => ?_)
 ·rw [if_pos hb137] at h
  obtain ⟨v138, hv138, h⟩ := Option.bind_eq_some_iff.1 h
  refine Sem.runS (s1 := ⟨Fr 93 [(7, .sl 1 (v138.1.map (cdL 1 (cdL 1 cdI)).enc))], []⟩) ?_ ?_
  ·refine RunS.segF (n := 93) he 1 [(57, .v (.int .i64 x0))] [] kr ?_
   refine RunS.call he (fid := 57) (s := cs_ref09_Pairs) (F := fun a => ref09_Pairs a.1) (er := er_ref09_Pairs) (xs := [.v (.int .i64 x0)]) (a := (x0, ())) rfl (wantedA_none rfl) kr kr kr kr (Sns.cons (Sn.enc (c := cdI) (v := x0)) Sns.nil) (.inl kr) hv138 ?_
   exact RunS.last he
  have hq := Option.some.inj h; subst hq
  exact ⟨rfl, (Wk.fr kr)⟩
 ·rw [if_f hb137] at h
  refine Sem.skip ?_
  have hq := Option.some.inj h; subst hq
  exact ⟨rfl, (Wk.trans (s1 := ⟨Fr 93 [(7, .e0)], []⟩) (Wk.fr kr) (Wk.trans (s1 := ⟨Fr 93 [(7, .e0)], [none]⟩) Wk.none (Wk.trans (s1 := ⟨Fr 93 [(7, .sl 1 ([].map (cdL 1 (cdL 1 cdI)).enc))], [none]⟩) (Wk.frzG 0 (.inr kr) ⟨.inl rfl, trivial⟩ ⟨⟨.e0, kr, fz_e0⟩, trivial⟩) (Wk.sel2 [] kr kr kr trivial ⟨lu kr kr, trivial⟩))))⟩
set_option maxHeartbeats 4000000 in
set_option maxRecDepth 100000 in
theorem ref09_candidate_j29_ok (j145 : Bool) (r : ((List (List (List Int))))) (h : ref09_candidate_j29 j145 = some r) : Sem e_ref09_candidate ⟨none, false⟩ (pc cb_ref09_candidate [1, 1, 0, 1, 0, 1, 1, 1, 1, 1, 1, 1, 0, 1]) ⟨Fr 93 [(7, .e0), (68, .v (.bool j145))], []⟩ (fun e s => e = .normal ∧ Wk e_ref09_candidate s ⟨Fr 93 [(7, .sl 1 (r.map (cdL 1 (cdL 1 cdI)).enc))], []⟩) := by
 unfold ref09_candidate_j29 at h
 refine Sem.cond (b := j145) kr (fun hb146 => ?_) (fun hb146 => ?_)
 ·rw [if_pos hb146] at h
  obtain ⟨v147, hv147, h⟩ := Option.bind_eq_some_iff.1 h
  refine Sem.runS (s1 := ⟨Fr 93 [(7, .sl 1 (v147.map (cdL 1 (cdL 1 cdI)).enc))], []⟩) ?_ ?_
  ·refine RunS.call e_ref09_candidate_ok (fid := 128) (s := cs_ref09_Kirkman) (F := fun a => ref09_Kirkman ) (er := er_ref09_Kirkman) (xs := []) (a := (())) rfl (wantedA_none rfl) kr kr kr kr Sns.nil (.inl kr) hv147 ?_
   exact RunS.last e_ref09_candidate_ok
  have hq := Option.some.inj h; subst hq
  exact ⟨rfl, (Wk.fr kr)⟩
 ·rw [if_f hb146] at h
  refine Sem.skip ?_
  have hq := Option.some.inj h; subst hq
  exact ⟨rfl, (Wk.trans (s1 := ⟨Fr 93 [(7, .e0)], []⟩) (Wk.fr kr) (Wk.trans (s1 := ⟨Fr 93 [(7, .e0)], [none]⟩) Wk.none (Wk.trans (s1 := ⟨Fr 93 [(7, .sl 1 ([].map (cdL 1 (cdL 1 cdI)).enc))], [none]⟩) (Wk.frzG 0 (.inr kr) ⟨.inl rfl, trivial⟩ ⟨⟨.e0, kr, fz_e0⟩, trivial⟩) (Wk.sel2 [] kr kr kr trivial ⟨lu kr kr, trivial⟩))))⟩
set_option maxHeartbeats 4000000 in
set_option maxRecDepth 100000 in
theorem ref09_candidate_j31_ok (x0 : Int) (x1 : Int) (r : ((List (List (List Int))))) (h : ref09_candidate_j31 x0 x1 = some r) : Sem e_ref09_candidate ⟨none, false⟩ (pc cb_ref09_candidate [1, 1, 0, 1, 0, 1, 1, 1, 1, 1, 1, 1, 1, 1, 0, 1]) ⟨Fr 93 [(1, .v (.int .i64 x1)), (7, .e0), (76, .v (.bool (x0 == (wr .i64 (x1 * x1)))))], []⟩ (fun e s => e = .normal ∧ Wk e_ref09_candidate s ⟨Fr 93 [(7, .sl 1 (r.map (cdL 1 (cdL 1 cdI)).enc))], []⟩) := by
 have he := e_ref09_candidate_ok
 unfold ref09_candidate_j31 at h
 refine Sem.cond (b := (x0 == (wr .i64 (x1 * x1)))) kr (fun hb153 => ?_) (fun hb153 => ?_)
 ·rw [if_pos hb153] at h
  obtain ⟨v154, hv154, h⟩ := Option.bind_eq_some_iff.1 h
  refine Sem.runS (s1 := ⟨Fr 93 [(7, .sl 1 (v154.1.map (cdL 1 (cdL 1 cdI)).enc))], []⟩) ?_ ?_
  ·refine RunS.segF (n := 93) he 1 [(78, .v (.int .i64 x1))] [] kr ?_
   refine RunS.call he (fid := 62) (s := cs_ref09_Plane) (F := fun a => ref09_Plane a.1) (er := er_ref09_Plane) (xs := [.v (.int .i64 x1)]) (a := (x1, ())) rfl (wantedA_none rfl) kr kr kr kr (Sns.cons (Sn.enc (c := cdI) (v := x1)) Sns.nil) (.inl kr) hv154 ?_
   exact RunS.last he
  have hq := Option.some.inj h; subst hq
  exact ⟨rfl, (Wk.fr kr)⟩
 ·rw [if_f hb153] at h
  refine Sem.skip ?_
  have hq := Option.some.inj h; subst hq
  exact ⟨rfl, (Wk.trans (s1 := ⟨Fr 93 [(7, .e0)], []⟩) (Wk.fr kr) (Wk.trans (s1 := ⟨Fr 93 [(7, .e0)], [none]⟩) Wk.none (Wk.trans (s1 := ⟨Fr 93 [(7, .sl 1 ([].map (cdL 1 (cdL 1 cdI)).enc))], [none]⟩) (Wk.frzG 0 (.inr kr) ⟨.inl rfl, trivial⟩ ⟨⟨.e0, kr, fz_e0⟩, trivial⟩) (Wk.sel2 [] kr kr kr trivial ⟨lu kr kr, trivial⟩))))⟩
set_option maxHeartbeats 4000000 in
set_option maxRecDepth 100000 in
theorem ref09_candidate_j32_ok (x0 : Int) (x1 : Int) (x2 : Int) (r : ((List (List (List Int))))) (h : ref09_candidate_j32 x0 x1 x2 = some r) : Sem e_ref09_candidate ⟨none, false⟩ (pc cb_ref09_candidate [1, 1, 0, 1, 0, 1, 1, 1, 1, 1, 1, 1, 1, 1, 1, 1]) ⟨Fr 93 [(0, .v (.int .i64 x0)), (1, .v (.int .i64 x1)), (7, .e0), (82, .v (.bool (x2 == 6)))], []⟩ (fun e s => e = .normal ∧ Wk e_ref09_candidate s ⟨Fr 93 [(7, .sl 1 (r.map (cdL 1 (cdL 1 cdI)).enc))], []⟩) := by
 have he := e_ref09_candidate_ok
 unfold ref09_candidate_j32 at h
 refine Sem.cond (b := (x2 == 6)) kr (fun hb158 => ?_) (fun hb158 => ?_)
 ·rw [if_pos hb158] at h
  by_cases hz159 : x1 = (0 : Int)
  ·rw [if_pos hz159] at h; cases h
  rw [if_neg hz159] at h
  obtain ⟨v160, hv160, h⟩ := Option.bind_eq_some_iff.1 h
  refine Sem.runS (s1 := ⟨Fr 93 [(7, .sl 1 (v160.1.map (cdL 1 (cdL 1 cdI)).enc))], []⟩) ?_ ?_
  ·refine RunS.segF (n := 93) he 3 [(85, .v (.int .i64 x1)), (86, .v (.int .i64 x0)), (87, .v (.int .i64 x1))] [] kr ?_
   refine RunS.one he 0 rfl (op_q (wantedA_none rfl) rfl (q_bin (a := .v (.int .i64 x0)) (b := .v (.int .i64 x1)) kr kr (bin_quo hz159))) ?_
   refine RunS.call he (fid := 61) (b := v160) (s := cs_ref09_Net) (F := fun a => ref09_Net a.1 a.2.1) (er := er_ref09_Net) (xs := [.v (.int .i64 x1), .v (.int .i64 (wr .i64 (x0.tdiv x1)))]) (a := (x1, (wr .i64 (x0.tdiv x1)), ())) rfl (wantedA_none rfl) kr kr kr kr (Sns.cons (Sn.enc (c := cdI) (v := x1)) (Sns.cons (Sn.enc (c := cdI) (v := (wr .i64 (x0.tdiv x1)))) Sns.nil)) (.inl kr) (by dsimp only; exact hv160) ?_
   exact RunS.last he
  have hq := Option.some.inj h; subst hq
  exact ⟨rfl, (Wk.fr kr)⟩
 ·rw [if_f hb158] at h
  refine Sem.skip ?_
  have hq := Option.some.inj h; subst hq
  exact ⟨rfl, (Wk.trans (s1 := ⟨Fr 93 [(7, .e0)], []⟩) (Wk.fr kr) (Wk.trans (s1 := ⟨Fr 93 [(7, .e0)], [none]⟩) Wk.none (Wk.trans (s1 := ⟨Fr 93 [(7, .sl 1 ([].map (cdL 1 (cdL 1 cdI)).enc))], [none]⟩) (Wk.frzG 0 (.inr kr) ⟨.inl rfl, trivial⟩ ⟨⟨.e0, kr, fz_e0⟩, trivial⟩) (Wk.sel2 [] kr kr kr trivial ⟨lu kr kr, trivial⟩))))⟩
set_option maxHeartbeats 4000000 in
set_option maxRecDepth 100000 in
theorem ref09_candidate_j30_ok (x0 : Int) (x1 : Int) (x2 : Int) (r : ((List (List (List Int))))) (h : ref09_candidate_j30 x0 x1 x2 = some r) : Sem e_ref09_candidate ⟨none, false⟩ (pc cb_ref09_candidate [1, 1, 0, 1, 0, 1, 1, 1, 1, 1, 1, 1, 1, 1]) ⟨Fr 93 [(0, .v (.int .i64 x0)), (1, .v (.int .i64 x1)), (7, .e0), (11, .v (.int .i64 x2)), (70, .v (.bool (x2 == 5)))], []⟩ (fun e s => e = .normal ∧ Wk e_ref09_candidate s ⟨Fr 93 [(7, .sl 1 (r.map (cdL 1 (cdL 1 cdI)).enc))], []⟩) := by
 unfold ref09_candidate_j30 at h
 refine Sem.cond (b := (x2 == 5)) kr (fun hb152 => ?_) (fun hb152 => ?_)
 ·rw [if_pos hb152] at h
  refine Sem.sq e_ref09_candidate_ok [(1, .v (.int .i64 x1)), (7, .e0), (76, .v (.bool (x0 == (wr .i64 (x1 * x1)))))] [] ?_
  obtain ⟨r156, hr156, h⟩ := Option.bind_eq_some_iff.1 h
  refine Sem.cut (ref09_candidate_j31_ok x0 x1 _ hr156) ?_
  have hq := Option.some.inj h; subst hq
  exact ⟨rfl, (Wk.fr kr)⟩
 ·rw [if_f hb152] at h
  refine Sem.sq e_ref09_candidate_ok [(0, .v (.int .i64 x0)), (1, .v (.int .i64 x1)), (7, .e0), (82, .v (.bool (x2 == 6)))] [] ?_
  obtain ⟨r162, hr162, h⟩ := Option.bind_eq_some_iff.1 h
  refine Sem.cut (ref09_candidate_j32_ok x0 x1 x2 _ hr162) ?_
  have hq := Option.some.inj h; subst hq
  exact ⟨rfl, (Wk.fr kr)⟩
set_option maxHeartbeats 4000000 in
set_option maxRecDepth 100000 in
theorem ref09_candidate_j28_ok (x0 : Int) (x1 : Int) (x2 : Int) (r : ((List (List (List Int))))) (h : ref09_candidate_j28 x0 x1 x2 = some r) : Sem e_ref09_candidate ⟨none, false⟩ (pc cb_ref09_candidate [1, 1, 0, 1, 0, 1, 1, 1, 1, 1, 1, 1]) ⟨Fr 93 [(0, .v (.int .i64 x0)), (1, .v (.int .i64 x1)), (7, .e0), (11, .v (.int .i64 x2)), (61, .v (.bool (x2 == 4)))], []⟩ (fun e s => e = .normal ∧ Wk e_ref09_candidate s ⟨Fr 93 [(7, .sl 1 (r.map (cdL 1 (cdL 1 cdI)).enc))], []⟩) := by
 have he := e_ref09_candidate_ok
 unfold ref09_candidate_j28 at h
 refine Sem.cond (b := (x2 == 4)) kr (fun hb143 => ?_) (fun hb143 => ?_)
 ·rw [if_pos hb143] at h
  refine Sem.seq ?_
  obtain ⟨j145, hj145, h⟩ := Option.bind_eq_some_iff.1 h
  refine Sem.runS (s1 := ⟨Fr 93 [(7, .e0), (68, .v (.bool j145))], []⟩) ?_ ?_
  ·refine RunS.segF (n := 93) he 3 [(0, .v (.int .i64 x0)), (7, .e0), (65, .v (.bool (x1 == 3)))] [] kr ?_
   rcases Bool.eq_false_or_eq_true (x1 == 3) with hc151 | hc151
   ·rw [if_pos hc151] at hj145
    rw [hc151]
    refine RunS.segF (n := 93) he 3 [(7, .e0), (68, .v (.bool (x0 == 15)))] [] kr ?_
    have hq := Option.some.inj hj145; subst hq
    exact RunS.done rfl (Wk.fr kr)
   ·rw [if_f hc151] at hj145
    rw [hc151]
    refine RunS.segF (n := 93) he 3 [(7, .e0), (68, .v (.bool false))] [] kr ?_
    have hq := Option.some.inj hj145; subst hq
    exact RunS.done rfl (Wk.fr kr)
  obtain ⟨r149, hr149, h⟩ := Option.bind_eq_some_iff.1 h
  refine Sem.cut (ref09_candidate_j29_ok j145 _ hr149) ?_
  have hq := Option.some.inj h; subst hq
  exact ⟨rfl, (Wk.fr kr)⟩
 ·rw [if_f hb143] at h
  refine Sem.sq he [(0, .v (.int .i64 x0)), (1, .v (.int .i64 x1)), (7, .e0), (11, .v (.int .i64 x2)), (70, .v (.bool (x2 == 5)))] [] ?_
  obtain ⟨r163, hr163, h⟩ := Option.bind_eq_some_iff.1 h
  refine Sem.cut (ref09_candidate_j30_ok x0 x1 x2 _ hr163) ?_
  have hq := Option.some.inj h; subst hq
  exact ⟨rfl, (Wk.fr kr)⟩
set_option maxHeartbeats 4000000 in
set_option maxRecDepth 100000 in
theorem ref09_candidate_j26_ok (x0 : Int) (x1 : Int) (x2 : Int) (r : ((List (List (List Int))))) (h : ref09_candidate_j26 x0 x1 x2 = some r) : Sem e_ref09_candidate ⟨none, false⟩ (pc cb_ref09_candidate [1, 1, 0, 1, 0, 1, 1, 1, 1, 1]) ⟨Fr 93 [(0, .v (.int .i64 x0)), (1, .v (.int .i64 x1)), (7, .e0), (11, .v (.int .i64 x2)), (47, .v (.bool (x2 == 3)))], []⟩ (fun e s => e = .normal ∧ Wk e_ref09_candidate s ⟨Fr 93 [(7, .sl 1 (r.map (cdL 1 (cdL 1 cdI)).enc))], []⟩) := by
 have he := e_ref09_candidate_ok
 unfold ref09_candidate_j26 at h
 refine Sem.cond (b := (x2 == 3)) kr (fun hb134 => ?_) (fun hb134 => ?_)
 ·rw [if_pos hb134] at h
  refine Sem.seq ?_
  obtain ⟨j136, hj136, h⟩ := Option.bind_eq_some_iff.1 h
  let p1 : Nat × AV := (0, .v (.int .i64 x0))
  refine Sem.runS (s1 := ⟨Fr 93 [p1, (7, .e0), (55, .v (.bool j136))], []⟩) ?_ ?_
  ·refine RunS.segF (n := 93) he 3 [p1, (7, .e0), (51, .v (.bool (x1 == 2)))] [] kr ?_
   rcases Bool.eq_false_or_eq_true (x1 == 2) with hc142 | hc142
   ·rw [if_pos hc142] at hj136
    rw [hc142]
    refine RunS.segF (n := 93) he 4 [p1, (7, .e0), (55, .v (.bool ((x0.tmod 2) == 0)))] [] kr ?_
    have hq := Option.some.inj hj136; subst hq
    exact RunS.done rfl (Wk.fr kr)
   ·rw [if_f hc142] at hj136
    rw [hc142]
    refine RunS.segF (n := 93) he 4 [p1, (7, .e0), (55, .v (.bool false))] [] kr ?_
    have hq := Option.some.inj hj136; subst hq
    exact RunS.done rfl (Wk.fr kr)
  obtain ⟨r140, hr140, h⟩ := Option.bind_eq_some_iff.1 h
  refine Sem.cut (ref09_candidate_j27_ok x0 j136 _ hr140) ?_
  have hq := Option.some.inj h; subst hq
  exact ⟨rfl, (Wk.fr kr)⟩
 ·rw [if_f hb134] at h
  refine Sem.sq he [(0, .v (.int .i64 x0)), (1, .v (.int .i64 x1)), (7, .e0), (11, .v (.int .i64 x2)), (61, .v (.bool (x2 == 4)))] [] ?_
  obtain ⟨r164, hr164, h⟩ := Option.bind_eq_some_iff.1 h
  refine Sem.cut (ref09_candidate_j28_ok x0 x1 x2 _ hr164) ?_
  have hq := Option.some.inj h; subst hq
  exact ⟨rfl, (Wk.fr kr)⟩
set_option maxHeartbeats 4000000 in
set_option maxRecDepth 100000 in
theorem ref09_candidate_j23_ok (x0 : Int) (x1 : Int) (x2 : Int) (r : ((List (List (List Int))))) (h : ref09_candidate_j23 x0 x1 x2 = some r) : Sem e_ref09_candidate ⟨none, false⟩ (pc cb_ref09_candidate [1, 1, 0, 1, 0, 1, 1, 1]) ⟨Fr 93 [(0, .v (.int .i64 x0)), (1, .v (.int .i64 x1)), (7, .e0), (11, .v (.int .i64 x2)), (23, .v (.bool (x2 == 2)))], []⟩ (fun e s => e = .normal ∧ Wk e_ref09_candidate s ⟨Fr 93 [(7, .sl 1 (r.map (cdL 1 (cdL 1 cdI)).enc))], []⟩) := by
 unfold ref09_candidate_j23 at h
 refine Sem.cond (b := (x2 == 2)) kr (fun hb116 => ?_) (fun hb116 => ?_)
 ·rw [if_pos hb116] at h
  let p1 : Nat × AV := (8, .v (.int .i64 0))
  let p2 : Nat × AV := (1, .v (.int .i64 x1))
  let p3 : Nat × AV := (0, .v (.int .i64 x0))
  refine Sem.sq e_ref09_candidate_ok [p3, p2, (7, .e0), p1] [] ?_
  refine Sem.block ?_
  obtain ⟨r132, hr132, h⟩ := Option.bind_eq_some_iff.1 h
  refine Sem.loop (n := 100000) ?_
  let p4 : Option Blk := mk 1 50 ([].map (cdL 1 (cdL 1 cdI)).enc)
  let p5 : Nat × AV := (7, hd 0 ([].map (cdL 1 (cdL 1 cdI)).enc))
  refine Sem.cutN (SemN.wk (s1 := ⟨Fr 93 [p3, p2, p5, p1], [p4]⟩) (Wk.trans (s1 := ⟨Fr 93 [p3, p2, p5, p1], [p4]⟩) Wk.none (Wk.sel2 [0] kr kr kr ⟨⟨_, rfl, bu_none⟩, trivial⟩ ⟨lu kr kr, lu kr kr, lu kr kr, lu kr kr, trivial⟩)) (ref09_candidate_24_ok x0 x1 _ [] 0 _ hr132)) ?_
  have hq := Option.some.inj h; subst hq
  exact ⟨rfl, (Wk.trans (s1 := ⟨Fr 93 [(7, .sl 1 (r132.map (cdL 1 (cdL 1 cdI)).enc))], [none]⟩) (Wk.frzG 0 (.inl kr) ⟨.inl rfl, trivial⟩ ⟨⟨hd 0 (r132.map (cdL 1 (cdL 1 cdI)).enc), kr, fz_hd (t := 50) kr enc_ok⟩, trivial⟩) (Wk.sel2 [] kr kr kr trivial ⟨lu kr kr, trivial⟩))⟩
 ·rw [if_f hb116] at h
  refine Sem.sq e_ref09_candidate_ok [(0, .v (.int .i64 x0)), (1, .v (.int .i64 x1)), (7, .e0), (11, .v (.int .i64 x2)), (47, .v (.bool (x2 == 3)))] [] ?_
  obtain ⟨r165, hr165, h⟩ := Option.bind_eq_some_iff.1 h
  refine Sem.cut (ref09_candidate_j26_ok x0 x1 x2 _ hr165) ?_
  have hq := Option.some.inj h; subst hq
  exact ⟨rfl, (Wk.fr kr)⟩
set_option maxHeartbeats 4000000 in
set_option maxRecDepth 100000 in
theorem ref09_candidate_j1_ok (x0 : Int) (x1 : Int) (x2 : Int) (r : ((List (List (List Int))))) (h : ref09_candidate_j1 x0 x1 x2 = some r) : Sem e_ref09_candidate ⟨none, false⟩ (pc cb_ref09_candidate [1, 1, 0, 1, 0, 1]) ⟨Fr 93 [(0, .v (.int .i64 x0)), (1, .v (.int .i64 x1)), (7, .e0), (11, .v (.int .i64 x2)), (12, .v (.bool (x2 == 1)))], []⟩ (fun e s => e = .normal ∧ Wk e_ref09_candidate s ⟨Fr 93 [(7, .sl 1 (r.map (cdL 1 (cdL 1 cdI)).enc))], []⟩) := by
 unfold ref09_candidate_j1 at h
 refine Sem.cond (b := (x2 == 1)) kr (fun hb109 => ?_) (fun hb109 => ?_)
 ·rw [if_pos hb109] at h
  refine Sem.sq e_ref09_candidate_ok [(0, .v (.int .i64 x0)), (7, .e0), (16, .v (.bool (x1 == x0)))] [] ?_
  obtain ⟨r114, hr114, h⟩ := Option.bind_eq_some_iff.1 h
  refine Sem.cut (ref09_candidate_j22_ok x0 x1 _ hr114) ?_
  have hq := Option.some.inj h; subst hq
  exact ⟨rfl, (Wk.trans (s1 := ⟨Fr 93 [(7, .sl 1 (r114.map (cdL 1 (cdL 1 cdI)).enc))], [none]⟩) (Wk.frzG 0 (.inl kr) ⟨.inl rfl, trivial⟩ ⟨⟨hd 0 (r114.map (cdL 1 (cdL 1 cdI)).enc), kr, fz_hd (t := 50) kr enc_ok⟩, trivial⟩) (Wk.sel2 [] kr kr kr trivial ⟨lu kr kr, trivial⟩))⟩
 ·rw [if_f hb109] at h
  refine Sem.sq e_ref09_candidate_ok [(0, .v (.int .i64 x0)), (1, .v (.int .i64 x1)), (7, .e0), (11, .v (.int .i64 x2)), (23, .v (.bool (x2 == 2)))] [] ?_
  obtain ⟨r166, hr166, h⟩ := Option.bind_eq_some_iff.1 h
  refine Sem.cut (ref09_candidate_j23_ok x0 x1 x2 _ hr166) ?_
  have hq := Option.some.inj h; subst hq
  exact ⟨rfl, (Wk.fr kr)⟩
set_option maxHeartbeats 4000000 in
set_option maxRecDepth 100000 in
theorem ref09_candidate_sem (x0 : Int) (x1 : Int) (x2 : Int) (r : (List (List (List Int)))) (h : ref09_candidate x0 x1 x2 = some r) : Sem e_ref09_candidate ⟨none, false⟩ cb_ref09_candidate ⟨Fr 93 (pairs0 0 (cs_ref09_candidate.enc (x0, x1, x2, ()))), []⟩ fun e s' => (e = .normal ∨ e = .ret) ∧ ∃ xs, resA e_ref09_candidate.P s'.fr s'.hp Tryd.f107.results.toList = some xs ∧ retA xs = er_ref09_candidate r := by
 have he := e_ref09_candidate_ok
 unfold ref09_candidate at h
 let p1 : Nat × AV := (2, .v (.int .i64 x2))
 let p2 : Nat × AV := (1, .v (.int .i64 x1))
 let p3 : Nat × AV := (0, .v (.int .i64 x0))
 refine Sem.wkQ (Sem.wk (s1 := ⟨Fr 93 [p3, p2, p1], []⟩) (Wk.fr kr) ?_)
 refine Sem.sq he [p3, p2, p1] [] ?_
 refine Sem.sq he [p3, p2, p1, (7, .e0)] [] ?_
 refine Sem.seq ?_
 refine Sem.sq he [p3, p2, (7, .e0), (11, .v (.int .i64 x2))] [] ?_
 refine Sem.block ?_
 refine Sem.sq he [p3, p2, (7, .e0), (11, .v (.int .i64 x2)), (12, .v (.bool (x2 == 1)))] [] ?_
 obtain ⟨r167, hr167, h⟩ := Option.bind_eq_some_iff.1 h
 refine Sem.cut (ref09_candidate_j1_ok x0 x1 x2 _ hr167) ?_
 let p4 : Nat × AV := (6, .sl 1 (r167.map (cdL 1 (cdL 1 cdI)).enc))
 refine Sem.sq he [p4] [] ?_
 refine Sem.ret ?_
 have hq := Option.some.inj h; subst hq
 exact ⟨⟨Fr 93 [p4], []⟩, (Wk.fr kr), .inr rfl, [.sl 1 (r167.map (cdL 1 (cdL 1 cdI)).enc)], kr, kr⟩
def t_ref09_candidate : List AV → Option AV := told cs_ref09_candidate (fun a => ref09_candidate a.1 a.2.1 a.2.2.1) er_ref09_candidate
theorem x_ref09_candidate : XOk 107 t_ref09_candidate := by
 refine EnvOk.x (E := e_ref09_candidate) (contract_ok e_ref09_candidate_ok (fn := Tryd.f107) (c := cb_ref09_candidate) ?h1 ?h2 ⟨Tryd.call107⟩ cs_ref09_candidate (fun a => ref09_candidate a.1 a.2.1 a.2.2.1) er_ref09_candidate (fun a => (by show 3 ≤ 93; decide)) ?h3 ?h4) rfl rfl
 case h1 => kernel_rfl
 case h2 => kernel_rfl
 case h3 => intro b; kernel_rfl
 case h4 => exact fun a b h => ref09_candidate_sem a.1 a.2.1 a.2.2.1 b h
/- trestle/trestleref09.Design -/
noncomputable def e_ref09_Design : Env := (E0.withX 107 t_ref09_candidate)
theorem e_ref09_Design_ok : EnvOk e_ref09_Design := (EnvOk.withX E0_ok x_ref09_candidate.1 x_ref09_candidate.2)
noncomputable def cb_ref09_Design : Code := codeOf Tryd.f64
def ref09_Design_1 (x0 : Int) (x1 : Int) (x2 : Int) : Nat → Int → Option ((Unit) ⊕ ((List (List (List Int))) × Int))
 | 0, _ => none
 | f + 1, c9 =>
  if (decide (c9 ≤ 6)) = true then
  (ref09_candidate x0 x1 c9).bind fun v11 =>
  if (decide ((v11.length : Int) ≥ x2)) = true then
  if (cutOk 0 x2 v11.length) = true then
  some (.inr (((v11.take x2.toNat).drop (0 : Int).toNat), 0))
  else none
  else
  ref09_Design_1 x0 x1 x2 f (wr .i64 (c9 + 1))
  else
  some (.inl ())
def ref09_Design (x0 : Int) (x1 : Int) (x2 : Int) : Option ((List (List (List Int))) × Int) :=
 (if (decide (x0 < 1)) = true then some true else if (decide (x0 > 64)) = true then some true else if (decide (x1 < 1)) = true then some true else if (decide (x1 > x0)) = true then some true else if x1 = (0 : Int) then none else
 some (decide ((x0.tmod x1) > 0))).bind fun j3 =>
 if j3 = true then
 some ([], 90)
 else
 (if (decide (x2 < 0)) = true then some true else some (decide (x2 > 64))).bind fun j6 =>
 if j6 = true then
 some ([], 2)
 else
 if (x2 == 0) = true then
 some ([], 0)
 else
 (ref09_Design_1 x0 x1 x2 100000 1).bind fun r16 =>
 match r16 with
 | (.inl w17) =>
  some ([], 91)
 | (.inr w18) =>
  some (w18.1, w18.2)
def cs_ref09_Design : Cs (Int × Int × Int × Unit) := (csC cdI (csC cdI (csC cdI csN)))
def er_ref09_Design (r : (List (List (List Int))) × Int) : AV := .tp [(cdL 1 (cdL 1 (cdL 1 cdI))).enc r.1, cdI.enc r.2]
set_option maxHeartbeats 4000000 in
set_option maxRecDepth 100000 in
theorem ref09_Design_1_ok (x0 : Int) (x1 : Int) (x2 : Int) : ∀ (f : Nat) (c9 : Int) (r : (Unit) ⊕ ((List (List (List Int))) × Int)), ref09_Design_1 x0 x1 x2 f c9 = some r → SemN e_ref09_Design ⟨none, false⟩ (pc cb_ref09_Design [1, 1, 1, 1, 0, 1, 0, 0]) f ⟨Fr 54 [(0, .v (.int .i64 x0)), (1, .v (.int .i64 x1)), (2, .v (.int .i64 x2)), (8, .v (.int .i64 c9))], []⟩ (fun e s => match r with
 | (.inl w) => e = (.exit 0) ∧ Wk e_ref09_Design s ⟨Fr 54 [], []⟩
 | (.inr w) => e = .ret ∧ Wk e_ref09_Design s ⟨Fr 54 [(6, .sl 1 (w.1.map (cdL 1 (cdL 1 cdI)).enc)), (7, .v (.int .i64 w.2))], []⟩) := by
 have he := e_ref09_Design_ok
 intro f
 induction f with
 | zero => intro c9 r h; cases h
 | succ f ih0 =>
  intro c9 r h
  have ih := fun (c9 : Int) => ih0 c9 r
  unfold ref09_Design_1 at h
  refine SemN.succ ?_
  refine Sem.seq ?_
  let p1 : Nat × AV := (8, .v (.int .i64 c9))
  let p2 : Nat × AV := (2, .v (.int .i64 x2))
  let p3 : Nat × AV := (1, .v (.int .i64 x1))
  let p4 : Nat × AV := (0, .v (.int .i64 x0))
  refine Sem.sq he [p4, p3, p2, p1, (40, .v (.bool (decide (c9 ≤ 6))))] [] ?_
  refine Sem.cond (b := (decide (c9 ≤ 6))) kr (fun hb10 => ?_) (fun hb10 => ?_)
  ·rw [if_pos hb10] at h
   refine Sem.skip ?_
   refine Sem.seq ?_
   refine Sem.block ?_
   refine Sem.seq ?_
   obtain ⟨v11, hv11, h⟩ := Option.bind_eq_some_iff.1 h
   let p5 : Nat × AV := (9, .sl 1 (v11.map (cdL 1 (cdL 1 cdI)).enc))
   refine Sem.runS (s1 := ⟨Fr 54 [p4, p3, p2, p1, p5], []⟩) ?_ ?_
   ·refine RunS.segF (n := 54) he 3 [p4, p3, p2, p1, (43, .v (.int .i64 x0)), (44, .v (.int .i64 x1)), (45, .v (.int .i64 c9))] [] kr ?_
    refine RunS.call he (fid := 107) (s := cs_ref09_candidate) (F := fun a => ref09_candidate a.1 a.2.1 a.2.2.1) (er := er_ref09_candidate) (xs := [.v (.int .i64 x0), .v (.int .i64 x1), .v (.int .i64 c9)]) (a := (x0, x1, c9, ())) rfl (wantedA_none rfl) kr kr kr kr (Sns.cons (Sn.enc (c := cdI) (v := x0)) (Sns.cons (Sn.enc (c := cdI) (v := x1)) (Sns.cons (Sn.enc (c := cdI) (v := c9)) Sns.nil))) (.inl kr) hv11 ?_
    exact RunS.last he
   refine Sem.seq ?_
   refine Sem.runS (s1 := ⟨Fr 54 [p4, p3, p2, p1, p5, (50, .v (.bool (decide ((v11.length : Int) ≥ x2))))], []⟩) ?_ ?_
   ·refine RunS.segF (n := 54) he 1 [p4, p3, p2, p1, p5, (47, .sl 1 (v11.map (cdL 1 (cdL 1 cdI)).enc))] [] kr ?_
    refine RunS.one he 0 rfl (op_q (wantedA_none rfl) rfl (q_len (a := .sl 1 (v11.map (cdL 1 (cdL 1 cdI)).enc)) kr (len_sl (el := 50) kr))) ?_
    exact RunS.last he
   refine Sem.cond (b := (decide ((v11.length : Int) ≥ x2))) kr (fun hb12 => ?_) (fun hb12 => ?_)
   ·rw [if_pos hb12] at h
    refine Sem.seq ?_
    by_cases hk13 : (cutOk 0 x2 v11.length) = true
    case neg => rw [if_neg hk13] at h; cases h
    rw [if_pos hk13] at h
    refine Sem.runS (s1 := ⟨Fr 54 [(6, .sl 1 (((v11.take x2.toNat).drop (0 : Int).toNat).map (cdL 1 (cdL 1 cdI)).enc)), (7, .v (.int .i64 0))], []⟩) ?_ ?_
    ·refine RunS.segF (n := 54) he 2 [(51, .sl 1 (v11.map (cdL 1 (cdL 1 cdI)).enc)), (52, .v (.int .i64 x2))] [] kr ?_
     refine RunS.one he 0 rfl (op_q (wantedA_none rfl) rfl (q_slice (a := .sl 1 (v11.map (cdL 1 (cdL 1 cdI)).enc)) (l := none) (u := (some (.v (.int .i64 x2)))) (m := none) kr kr kr rfl (slice_sl (xs := v11) (e := (cdL 1 (cdL 1 cdI)).enc) (k := 1) (el := 50) (lo := 0) (hi := x2) kr kr rfl (natB_i (cut_hi hk13)) hk13))) ?_
     exact RunS.last he
    refine Sem.ret ?_
    have hq := Option.some.inj h; subst hq
    exact ⟨rfl, (Wk.fr kr)⟩
   ·rw [if_f hb12] at h
    refine Sem.skip ?_
    let p6 : Nat × AV := (8, .v (.int .i64 (wr .i64 (c9 + 1))))
    refine Sem.rg he [p4, p3, p2, p6] [] ?_
    exact SemN.wk (s1 := ⟨Fr 54 [p4, p3, p2, p6], []⟩) (Wk.fr kr) (ih (wr .i64 (c9 + 1)) h)
  ·rw [if_f hb10] at h
   refine Sem.exit ?_
   have hq := Option.some.inj h; subst hq
   exact ⟨rfl, (Wk.fr kr)⟩
set_option maxHeartbeats 4000000 in
set_option maxRecDepth 100000 in
theorem ref09_Design_sem (x0 : Int) (x1 : Int) (x2 : Int) (r : (List (List (List Int))) × Int) (h : ref09_Design x0 x1 x2 = some r) : Sem e_ref09_Design ⟨none, false⟩ cb_ref09_Design ⟨Fr 54 (pairs0 0 (cs_ref09_Design.enc (x0, x1, x2, ()))), []⟩ fun e s' => (e = .normal ∨ e = .ret) ∧ ∃ xs, resA e_ref09_Design.P s'.fr s'.hp Tryd.f64.results.toList = some xs ∧ retA xs = er_ref09_Design r := by
 have he := e_ref09_Design_ok
 unfold ref09_Design at h
 let p1 : Nat × AV := (2, .v (.int .i64 x2))
 let p2 : Nat × AV := (1, .v (.int .i64 x1))
 let p3 : Nat × AV := (0, .v (.int .i64 x0))
 refine Sem.wkQ (Sem.wk (s1 := ⟨Fr 54 [p3, p2, p1], []⟩) (Wk.fr kr) ?_)
 refine Sem.sq he [p3, p2, p1] [] ?_
 refine Sem.seq ?_
 refine Sem.seq ?_
 obtain ⟨j3, hj3, h⟩ := Option.bind_eq_some_iff.1 h
 refine Sem.runS (s1 := ⟨Fr 54 [p3, p2, p1, (30, .v (.bool j3))], []⟩) ?_ ?_
 ·refine RunS.segF (n := 54) he 3 [p3, p2, p1, (12, .v (.bool (decide (x0 < 1))))] [] kr ?_
  rcases Bool.eq_false_or_eq_true (decide (x0 < 1)) with hc20 | hc20
  ·rw [if_pos hc20] at hj3
   rw [hc20]
   refine RunS.segF (n := 54) he 18 [p3, p2, p1, (30, .v (.bool true))] [] kr ?_
   have hq := Option.some.inj hj3; subst hq
   exact RunS.done rfl (Wk.fr kr)
  ·rw [if_f hc20] at hj3
   rw [hc20]
   refine RunS.segF (n := 54) he 4 [p3, p2, p1, (16, .v (.bool (decide (x0 > 64))))] [] kr ?_
   rcases Bool.eq_false_or_eq_true (decide (x0 > 64)) with hc21 | hc21
   ·rw [if_pos hc21] at hj3
    rw [hc21]
    refine RunS.segF (n := 54) he 14 [p3, p2, p1, (30, .v (.bool true))] [] kr ?_
    have hq := Option.some.inj hj3; subst hq
    exact RunS.done rfl (Wk.fr kr)
   ·rw [if_f hc21] at hj3
    rw [hc21]
    refine RunS.segF (n := 54) he 4 [p3, p2, p1, (20, .v (.bool (decide (x1 < 1))))] [] kr ?_
    rcases Bool.eq_false_or_eq_true (decide (x1 < 1)) with hc22 | hc22
    ·rw [if_pos hc22] at hj3
     rw [hc22]
     refine RunS.segF (n := 54) he 10 [p3, p2, p1, (30, .v (.bool true))] [] kr ?_
     have hq := Option.some.inj hj3; subst hq
     exact RunS.done rfl (Wk.fr kr)
    ·rw [if_f hc22] at hj3
     rw [hc22]
     refine RunS.segF (n := 54) he 5 [p3, p2, p1, (25, .v (.bool (decide (x1 > x0))))] [] kr ?_
     rcases Bool.eq_false_or_eq_true (decide (x1 > x0)) with hc23 | hc23
     ·rw [if_pos hc23] at hj3
      rw [hc23]
      refine RunS.segF (n := 54) he 5 [p3, p2, p1, (30, .v (.bool true))] [] kr ?_
      have hq := Option.some.inj hj3; subst hq
      exact RunS.done rfl (Wk.fr kr)
     ·rw [if_f hc23] at hj3
      rw [hc23]
      refine RunS.segF (n := 54) he 2 [p3, p2, p1, (25, .v (.bool false)), (26, .v (.int .i64 x0)), (27, .v (.int .i64 x1))] [] kr ?_
      by_cases hz1 : x1 = (0 : Int)
      ·rw [if_pos hz1] at hj3; cases hj3
      rw [if_neg hz1] at hj3
      refine RunS.one he 0 rfl (op_q kr rfl (q_bin (a := .v (.int .i64 x0)) (b := .v (.int .i64 x1)) kr kr (bin_rem hz1))) ?_
      refine RunS.segF (n := 54) he 2 [p3, p2, p1, (30, .v (.bool (decide ((x0.tmod x1) > 0))))] [] kr ?_
      have hq := Option.some.inj hj3; subst hq
      exact RunS.done rfl (Wk.fr kr)
 refine Sem.cond (b := j3) kr (fun hb4 => ?_) (fun hb4 => ?_)
 ·rw [if_pos hb4] at h
  let p4 : Nat × AV := (7, .v (.int .i64 90))
  refine Sem.sq he [(6, .e0), p4] [] ?_
  refine Sem.ret ?_
  have hq := Option.some.inj h; subst hq
  let p5 : Nat × AV := (6, .sl 1 ([].map (cdL 1 (cdL 1 cdI)).enc))
  exact ⟨⟨Fr 54 [p5, p4], []⟩, (Wk.trans (s1 := ⟨Fr 54 [(6, .e0), p4], []⟩) (Wk.fr kr) (Wk.trans (s1 := ⟨Fr 54 [(6, .e0), p4], [none]⟩) Wk.none (Wk.trans (s1 := ⟨Fr 54 [p5, p4], [none]⟩) (Wk.frzG 0 (.inr kr) ⟨.inl rfl, trivial⟩ ⟨⟨.e0, kr, fz_e0⟩, ⟨.v (.int .i64 90), kr, .inl rfl⟩, trivial⟩) (Wk.sel2 [] kr kr kr trivial ⟨lu kr kr, lu kr kr, trivial⟩)))), .inr rfl, [.sl 1 ([].map (cdL 1 (cdL 1 cdI)).enc), .v (.int .i64 90)], kr, kr⟩
 ·rw [if_f hb4] at h
  refine Sem.skip ?_
  refine Sem.seq ?_
  refine Sem.seq ?_
  obtain ⟨j6, hj6, h⟩ := Option.bind_eq_some_iff.1 h
  refine Sem.runS (s1 := ⟨Fr 54 [p3, p2, p1, (36, .v (.bool j6))], []⟩) ?_ ?_
  ·refine RunS.segF (n := 54) he 3 [p3, p2, p1, (33, .v (.bool (decide (x2 < 0))))] [] kr ?_
   rcases Bool.eq_false_or_eq_true (decide (x2 < 0)) with hc19 | hc19
   ·rw [if_pos hc19] at hj6
    rw [hc19]
    refine RunS.segF (n := 54) he 3 [p3, p2, p1, (36, .v (.bool true))] [] kr ?_
    have hq := Option.some.inj hj6; subst hq
    exact RunS.done rfl (Wk.fr kr)
   ·rw [if_f hc19] at hj6
    rw [hc19]
    refine RunS.segF (n := 54) he 3 [p3, p2, p1, (36, .v (.bool (decide (x2 > 64))))] [] kr ?_
    have hq := Option.some.inj hj6; subst hq
    exact RunS.done rfl (Wk.fr kr)
  refine Sem.cond (b := j6) kr (fun hb7 => ?_) (fun hb7 => ?_)
  ·rw [if_pos hb7] at h
   let p6 : Nat × AV := (7, .v (.int .i64 2))
   refine Sem.sq he [(6, .e0), p6] [] ?_
   refine Sem.ret ?_
   have hq := Option.some.inj h; subst hq
   let p7 : Nat × AV := (6, .sl 1 ([].map (cdL 1 (cdL 1 cdI)).enc))
   exact ⟨⟨Fr 54 [p7, p6], []⟩, (Wk.trans (s1 := ⟨Fr 54 [(6, .e0), p6], []⟩) (Wk.fr kr) (Wk.trans (s1 := ⟨Fr 54 [(6, .e0), p6], [none]⟩) Wk.none (Wk.trans (s1 := ⟨Fr 54 [p7, p6], [none]⟩) (Wk.frzG 0 (.inr kr) ⟨.inl rfl, trivial⟩ ⟨⟨.e0, kr, fz_e0⟩, ⟨.v (.int .i64 2), kr, .inl rfl⟩, trivial⟩) (Wk.sel2 [] kr kr kr trivial ⟨lu kr kr, lu kr kr, trivial⟩)))), .inr rfl, [.sl 1 ([].map (cdL 1 (cdL 1 cdI)).enc), .v (.int .i64 2)], kr, kr⟩
  ·rw [if_f hb7] at h
   refine Sem.skip ?_
   refine Sem.seq ?_
   refine Sem.sq he [p3, p2, p1, (38, .v (.bool (x2 == 0)))] [] ?_
   refine Sem.cond (b := (x2 == 0)) kr (fun hb8 => ?_) (fun hb8 => ?_)
   ·rw [if_pos hb8] at h
    let p8 : Nat × AV := (7, .v (.int .i64 0))
    refine Sem.sq he [(6, .e0), p8] [] ?_
    refine Sem.ret ?_
    have hq := Option.some.inj h; subst hq
    let p9 : Nat × AV := (6, .sl 1 ([].map (cdL 1 (cdL 1 cdI)).enc))
    exact ⟨⟨Fr 54 [p9, p8], []⟩, (Wk.trans (s1 := ⟨Fr 54 [(6, .e0), p8], []⟩) (Wk.fr kr) (Wk.trans (s1 := ⟨Fr 54 [(6, .e0), p8], [none]⟩) Wk.none (Wk.trans (s1 := ⟨Fr 54 [p9, p8], [none]⟩) (Wk.frzG 0 (.inr kr) ⟨.inl rfl, trivial⟩ ⟨⟨.e0, kr, fz_e0⟩, ⟨.v (.int .i64 0), kr, .inl rfl⟩, trivial⟩) (Wk.sel2 [] kr kr kr trivial ⟨lu kr kr, lu kr kr, trivial⟩)))), .inr rfl, [.sl 1 ([].map (cdL 1 (cdL 1 cdI)).enc), .v (.int .i64 0)], kr, kr⟩
   ·rw [if_f hb8] at h
    refine Sem.skip ?_
    refine Sem.seq ?_
    let p10 : Nat × AV := (8, .v (.int .i64 1))
    refine Sem.sq he [p3, p2, p1, p10] [] ?_
    refine Sem.block ?_
    obtain ⟨r16, hr16, h⟩ := Option.bind_eq_some_iff.1 h
    refine Sem.loop (n := 100000) ?_
    rcases r16 with w17 | w18
    ·try dsimp only at h
     refine Sem.cutN (SemN.wk (s1 := ⟨Fr 54 [p3, p2, p1, p10], []⟩) (Wk.fr kr) (ref09_Design_1_ok x0 x1 x2 _ 1 _ hr16)) ?_
     let p11 : Nat × AV := (7, .v (.int .i64 91))
     refine Sem.sq he [(6, .e0), p11] [] ?_
     refine Sem.ret ?_
     have hq := Option.some.inj h; subst hq
     let p12 : Nat × AV := (6, .sl 1 ([].map (cdL 1 (cdL 1 cdI)).enc))
     exact ⟨⟨Fr 54 [p12, p11], []⟩, (Wk.trans (s1 := ⟨Fr 54 [(6, .e0), p11], []⟩) (Wk.fr kr) (Wk.trans (s1 := ⟨Fr 54 [(6, .e0), p11], [none]⟩) Wk.none (Wk.trans (s1 := ⟨Fr 54 [p12, p11], [none]⟩) (Wk.frzG 0 (.inr kr) ⟨.inl rfl, trivial⟩ ⟨⟨.e0, kr, fz_e0⟩, ⟨.v (.int .i64 91), kr, .inl rfl⟩, trivial⟩) (Wk.sel2 [] kr kr kr trivial ⟨lu kr kr, lu kr kr, trivial⟩)))), .inr rfl, [.sl 1 ([].map (cdL 1 (cdL 1 cdI)).enc), .v (.int .i64 91)], kr, kr⟩
    ·try dsimp only at h
     refine Sem.cutN (SemN.wk (s1 := ⟨Fr 54 [p3, p2, p1, p10], []⟩) (Wk.fr kr) (ref09_Design_1_ok x0 x1 x2 _ 1 _ hr16)) ?_
     have hq := Option.some.inj h; subst hq
     exact ⟨⟨Fr 54 [(6, .sl 1 (w18.1.map (cdL 1 (cdL 1 cdI)).enc)), (7, .v (.int .i64 w18.2))], []⟩, (Wk.fr kr), .inr rfl, [.sl 1 (w18.1.map (cdL 1 (cdL 1 cdI)).enc), .v (.int .i64 w18.2)], kr, kr⟩
def t_ref09_Design : List AV → Option AV := told cs_ref09_Design (fun a => ref09_Design a.1 a.2.1 a.2.2.1) er_ref09_Design
theorem x_ref09_Design : XOk 64 t_ref09_Design := by
 refine EnvOk.x (E := e_ref09_Design) (contract_ok e_ref09_Design_ok (fn := Tryd.f64) (c := cb_ref09_Design) ?h1 ?h2 ⟨Tryd.call64⟩ cs_ref09_Design (fun a => ref09_Design a.1 a.2.1 a.2.2.1) er_ref09_Design (fun a => (by show 3 ≤ 54; decide)) ?h3 ?h4) rfl rfl
 case h1 => kernel_rfl
 case h2 => kernel_rfl
 case h3 => intro b; kernel_rfl
 case h4 => exact fun a b h => ref09_Design_sem a.1 a.2.1 a.2.2.1 b h
/- trestle/evening.Rings -/
noncomputable def e_evening_Rings_d : Env := E0
theorem e_evening_Rings_d_ok : EnvOk e_evening_Rings_d := E0_ok
noncomputable def cb_evening_Rings_d : Code := codeOf Tryd.f58
def evening_Rings_d_j3 (x0 : Int) (c10 : Int) (c18 : Int) (c20 : (List Int)) : Option (((List Int))) :=
 if (decide (c18 < (wr .i64 (x0.tdiv 2)))) = true then
 if (wr .i64 (2 * (wr .i64 (x0.tdiv 2)))) = (0 : Int) then none else
 if (capOk 8 ((c20 ++ ([((wr .i64 (c10 + c18)).tmod (wr .i64 (2 * (wr .i64 (x0.tdiv 2)))))] : List Int)).length + ([((wr .i64 ((wr .i64 (c10 - c18)) + (wr .i64 (2 * (wr .i64 (x0.tdiv 2)))))).tmod (wr .i64 (2 * (wr .i64 (x0.tdiv 2)))))] : List Int).length)) = true then
 some ((c20 ++ ([((wr .i64 (c10 + c18)).tmod (wr .i64 (2 * (wr .i64 (x0.tdiv 2)))))] : List Int)) ++ ([((wr .i64 ((wr .i64 (c10 - c18)) + (wr .i64 (2 * (wr .i64 (x0.tdiv 2)))))).tmod (wr .i64 (2 * (wr .i64 (x0.tdiv 2)))))] : List Int))
 else none
 else
 some (c20 ++ ([((wr .i64 (c10 + c18)).tmod (wr .i64 (2 * (wr .i64 (x0.tdiv 2)))))] : List Int))
def evening_Rings_d_2 (x0 : Int) (c10 : Int) : Nat → Int → (List Int) → Option (((List Int)))
 | 0, _, _ => none
 | f + 1, c18, c20 =>
  if (decide (c18 ≤ (wr .i64 (x0.tdiv 2)))) = true then
  if (wr .i64 (2 * (wr .i64 (x0.tdiv 2)))) = (0 : Int) then none else
  if (capOk 8 (c20.length + ([((wr .i64 (c10 + c18)).tmod (wr .i64 (2 * (wr .i64 (x0.tdiv 2)))))] : List Int).length)) = true then
  (evening_Rings_d_j3 x0 c10 c18 c20).bind fun r49 =>
  evening_Rings_d_2 x0 c10 f (wr .i64 (c18 + 1)) r49
  else none
  else
  some c20
def evening_Rings_d_1 (x0 : Int) : Nat → Int → (List (List (List Int))) → Option (((List (List (List Int)))))
 | 0, _, _ => none
 | f + 1, c10, c12 =>
  if (decide (c10 < (wr .i64 (x0.tdiv 2)))) = true then
  (evening_Rings_d_2 x0 c10 100000 1 ([(wr .i64 (x0 - 1)), c10] : List Int)).bind fun r56 =>
  if (capOk 24 (c12.length + ([([r56] : List (List Int))] : List (List (List Int))).length)) = true then
  evening_Rings_d_1 x0 f (wr .i64 (c10 + 1)) (c12 ++ ([([r56] : List (List Int))] : List (List (List Int))))
  else none
  else
  some c12
def evening_Rings_d (x0 : Int) : Option (Int × (List (List (List Int)))) :=
 (if (decide (x0 < 3)) = true then some true else some (decide (x0 > 64))).bind fun j1 =>
 if j1 = true then
 some (90, ([] : (List (List (List Int)))))
 else
 if ((x0.tmod 2) == 0) = true then
 some (91, ([] : (List (List (List Int)))))
 else
 (evening_Rings_d_1 x0 100000 0 ([] : (List (List (List Int))))).bind fun r79 =>
 some (0, r79)
set_option maxHeartbeats 4000000 in
set_option maxRecDepth 100000 in
theorem evening_Rings_d_j3_ok {L : List Asn} {hp : Hp} (x0 : Int) (c10 : Int) (c18 : Int) (c20 : (List Int)) (e11 : AV) (c12 : (List (List (List Int)))) (e30 : AV) (r : ((List Int))) (h : evening_Rings_d_j3 x0 c10 c18 c20 = some r) (hT : T hp ((own_ (ocL 1 3 (ocV cdI)) e30 (c20 ++ ([((wr .i64 (c10 + c18)).tmod (wr .i64 (2 * (wr .i64 (x0.tdiv 2)))))] : List Int))) :: (own_ (ocL 1 50 (ocL 1 31 (ocL 1 3 (ocV cdI)))) e11 c12) :: L)) : SemY e_evening_Rings_d ⟨none, false⟩ (pc cb_evening_Rings_d [1, 1, 1, 1, 0, 1, 0, 0, 1, 1, 0, 0, 1, 1, 0, 1, 0, 0, 1, 0, 0, 1, 1]) ⟨Fr 66 [(0, .v (.int .i64 x0)), (4, .v (.int .i64 (wr .i64 (x0.tdiv 2)))), (5, e11), (6, .v (.int .i64 c10)), (7, e30), (8, .v (.int .i64 c18)), (22, .v (.int .i64 (wr .i64 (x0.tdiv 2)))), (23, .v (.int .i64 c10)), (46, .v (.bool (decide (c18 < (wr .i64 (x0.tdiv 2))))))], hp⟩ (fun e s => e = .normal ∧ ∃ s2, (∃ (e45 : AV) (h' : Hp), T h' ((own_ (ocL 1 50 (ocL 1 31 (ocL 1 3 (ocV cdI)))) e11 c12) :: (own_ (ocL 1 3 (ocV cdI)) e45 r) :: L) ∧ s2 = ⟨Fr 66 [(0, .v (.int .i64 x0)), (4, .v (.int .i64 (wr .i64 (x0.tdiv 2)))), (5, e11), (6, .v (.int .i64 c10)), (7, e45), (8, .v (.int .i64 c18)), (22, .v (.int .i64 (wr .i64 (x0.tdiv 2)))), (23, .v (.int .i64 c10))], h'⟩) ∧ WkY e_evening_Rings_d s s2) := by
 have he := e_evening_Rings_d_ok
 unfold evening_Rings_d_j3 at h
 refine SemY.cond (b := (decide (c18 < (wr .i64 (x0.tdiv 2))))) kr (fun hb33 => ?_) (fun hb33 => ?_)
 ·rw [if_pos hb33] at h
  refine SemY.regionL ?_
  refine RunL.sg he 9 ?_
  by_cases hz34 : (wr .i64 (2 * (wr .i64 (x0.tdiv 2)))) = (0 : Int)
  ·rw [if_pos hz34] at h; cases h
  rw [if_neg hz34] at h
  refine RunL.one he 0 rfl (op_q (wantedA_none rfl) rfl (q_bin (a := .v (.int .i64 (wr .i64 ((wr .i64 (c10 - c18)) + (wr .i64 (2 * (wr .i64 (x0.tdiv 2)))))))) (b := .v (.int .i64 (wr .i64 (2 * (wr .i64 (x0.tdiv 2)))))) kr kr (bin_rem hz34))) ?_
  obtain ⟨e38, hp35, hb36, hT37⟩ := lit_ownB (P := Tryd.prog) (bytes := 8) (k := 1) (t := 3) (ty := 31) (xs := ([((wr .i64 ((wr .i64 (c10 - c18)) + (wr .i64 (2 * (wr .i64 (x0.tdiv 2)))))).tmod (wr .i64 (2 * (wr .i64 (x0.tdiv 2)))))] : List Int)) (n := 1) (fit_V (k := 1) (fun _ => ⟨rfl, rfl, rfl⟩)) (els_leaf (c := cdI) (xs := ([((wr .i64 ((wr .i64 (c10 - c18)) + (wr .i64 (2 * (wr .i64 (x0.tdiv 2)))))).tmod (wr .i64 (2 * (wr .i64 (x0.tdiv 2)))))] : List Int)) hT) rfl kr kr kr
  refine RunL.one he 0 rfl (op_n (wantedA_none rfl) rfl kr (n_lit (xs := enumA 0 [.v (.int .i64 ((wr .i64 ((wr .i64 (c10 - c18)) + (wr .i64 (2 * (wr .i64 (x0.tdiv 2)))))).tmod (wr .i64 (2 * (wr .i64 (x0.tdiv 2))))))]) kr hb36)) ?_
  by_cases hk43 : (capOk 8 ((c20 ++ ([((wr .i64 (c10 + c18)).tmod (wr .i64 (2 * (wr .i64 (x0.tdiv 2)))))] : List Int)).length + ([((wr .i64 ((wr .i64 (c10 - c18)) + (wr .i64 (2 * (wr .i64 (x0.tdiv 2)))))).tmod (wr .i64 (2 * (wr .i64 (x0.tdiv 2)))))] : List Int).length)) = true
  case neg => rw [if_neg hk43] at h; cases h
  rw [if_pos hk43] at h
  have hT44 := ((hT37.front 0 rfl).front 1 rfl)
  obtain ⟨e42, hp39, hb40, hT41⟩ := app_ownB (P := Tryd.prog) (ty := 31) (ty2 := 31) (bytes := 8) hT44 kr kr hk43
  refine RunL.one he 0 rfl (op_w (wantedA_none rfl) rfl kr kr (w_append (a := e30) (b := e38) kr kr hb40)) ?_
  refine RunL.sg he 1 ?_
  refine RunL.done rfl ?_
  have hq := Option.some.inj h; subst hq
  have hT47 := (hT41.front 1 rfl)
  exact ⟨rfl, _, ⟨e42, hp39, hT47, rfl⟩, (WkY.fr kr)⟩
 ·rw [if_f hb33] at h
  refine SemY.skip ?_
  have hq := Option.some.inj h; subst hq
  have hT48 := (hT.front 1 rfl)
  exact ⟨rfl, _, ⟨e30, hp, hT48, rfl⟩, (WkY.fr kr)⟩
set_option maxHeartbeats 4000000 in
set_option maxRecDepth 100000 in
theorem evening_Rings_d_2_ok {L : List Asn} (x0 : Int) (c10 : Int) (e11 : AV) (c12 : (List (List (List Int)))) : ∀ (f : Nat) (c18 : Int) (c20 : (List Int)) (r : ((List Int))), evening_Rings_d_2 x0 c10 f c18 c20 = some r → ∀ (e19 : AV) (hp : Hp), T hp ((own_ (ocL 1 50 (ocL 1 31 (ocL 1 3 (ocV cdI)))) e11 c12) :: (own_ (ocL 1 3 (ocV cdI)) e19 c20) :: L) → SemYN e_evening_Rings_d ⟨none, false⟩ (pc cb_evening_Rings_d [1, 1, 1, 1, 0, 1, 0, 0, 1, 1, 0, 0, 1, 1, 0, 1, 0, 0]) f ⟨Fr 66 [(0, .v (.int .i64 x0)), (4, .v (.int .i64 (wr .i64 (x0.tdiv 2)))), (5, e11), (6, .v (.int .i64 c10)), (7, e19), (8, .v (.int .i64 c18)), (22, .v (.int .i64 (wr .i64 (x0.tdiv 2)))), (23, .v (.int .i64 c10))], hp⟩ (fun e s => e = (.exit 3) ∧ ∃ s2, (∃ (e53 : AV) (h' : Hp), T h' ((own_ (ocL 1 50 (ocL 1 31 (ocL 1 3 (ocV cdI)))) e11 c12) :: (own_ (ocL 1 3 (ocV cdI)) e53 r) :: L) ∧ s2 = ⟨Fr 66 [(0, .v (.int .i64 x0)), (4, .v (.int .i64 (wr .i64 (x0.tdiv 2)))), (5, e11), (7, e53), (22, .v (.int .i64 (wr .i64 (x0.tdiv 2)))), (23, .v (.int .i64 c10))], h'⟩) ∧ WkY e_evening_Rings_d s s2) := by
 have he := e_evening_Rings_d_ok
 intro f
 induction f with
 | zero => intro c18 c20 r h; cases h
 | succ f ih0 =>
  intro c18 c20 r h e19 hp hT
  unfold evening_Rings_d_2 at h
  refine SemYN.succ ?_
  refine SemY.seq ?_
  let p1 : Nat × AV := (23, .v (.int .i64 c10))
  let p2 : Nat × AV := (22, .v (.int .i64 (wr .i64 (x0.tdiv 2))))
  let p3 : Nat × AV := (8, .v (.int .i64 c18))
  let p4 : Nat × AV := (6, .v (.int .i64 c10))
  let p5 : Nat × AV := (4, .v (.int .i64 (wr .i64 (x0.tdiv 2))))
  let p6 : Nat × AV := (0, .v (.int .i64 x0))
  refine SemY.sq he [p6, p5, (5, e11), p4, (7, e19), p3, p2, p1, (32, .v (.bool (decide (c18 ≤ (wr .i64 (x0.tdiv 2))))))] ?_
  refine SemY.cond (b := (decide (c18 ≤ (wr .i64 (x0.tdiv 2))))) kr (fun hb21 => ?_) (fun hb21 => ?_)
  ·rw [if_pos hb21] at h
   refine SemY.skip ?_
   refine SemY.seq ?_
   refine SemY.block ?_
   refine SemY.seq ?_
   refine SemY.regionL ?_
   refine RunL.sg he 6 ?_
   by_cases hz22 : (wr .i64 (2 * (wr .i64 (x0.tdiv 2)))) = (0 : Int)
   ·rw [if_pos hz22] at h; cases h
   rw [if_neg hz22] at h
   refine RunL.one he 0 rfl (op_q (wantedA_none rfl) rfl (q_bin (a := .v (.int .i64 (wr .i64 (c10 + c18)))) (b := .v (.int .i64 (wr .i64 (2 * (wr .i64 (x0.tdiv 2)))))) kr kr (bin_rem hz22))) ?_
   obtain ⟨e26, hp23, hb24, hT25⟩ := lit_ownB (P := Tryd.prog) (bytes := 8) (k := 1) (t := 3) (ty := 31) (xs := ([((wr .i64 (c10 + c18)).tmod (wr .i64 (2 * (wr .i64 (x0.tdiv 2)))))] : List Int)) (n := 1) (fit_V (k := 1) (fun _ => ⟨rfl, rfl, rfl⟩)) (els_leaf (c := cdI) (xs := ([((wr .i64 (c10 + c18)).tmod (wr .i64 (2 * (wr .i64 (x0.tdiv 2)))))] : List Int)) hT) rfl kr kr kr
   refine RunL.one he 0 rfl (op_n (wantedA_none rfl) rfl kr (n_lit (xs := enumA 0 [.v (.int .i64 ((wr .i64 (c10 + c18)).tmod (wr .i64 (2 * (wr .i64 (x0.tdiv 2))))))]) kr hb24)) ?_
   by_cases hk31 : (capOk 8 (c20.length + ([((wr .i64 (c10 + c18)).tmod (wr .i64 (2 * (wr .i64 (x0.tdiv 2)))))] : List Int).length)) = true
   case neg => rw [if_neg hk31] at h; cases h
   rw [if_pos hk31] at h
   have hT32 := ((hT25.front 0 rfl).front 2 rfl)
   obtain ⟨e30, hp27, hb28, hT29⟩ := app_ownB (P := Tryd.prog) (ty := 31) (ty2 := 31) (bytes := 8) hT32 kr kr hk31
   refine RunL.one he 0 rfl (op_w (wantedA_none rfl) rfl kr kr (w_append (a := e19) (b := e26) kr kr hb28)) ?_
   refine RunL.fin he [p6, p5, (5, e11), p4, (7, e30), p3, p2, p1] ?_
   refine SemY.sq he [p6, p5, (5, e11), p4, (7, e30), p3, p2, p1, (46, .v (.bool (decide (c18 < (wr .i64 (x0.tdiv 2))))))] ?_
   obtain ⟨r49, hr49, h⟩ := Option.bind_eq_some_iff.1 h
   refine SemY.cutT (evening_Rings_d_j3_ok x0 c10 c18 c20 e11 c12 e30 _ hr49 hT29) ?_
   rintro _ ⟨e50, hp51, hT52, rfl⟩
   refine SemY.regionL ?_
   refine RunL.sg he 3 ?_
   refine RunL.done rfl ?_
   exact SemYN.wk (WkY.fr kr) (ih0 (wr .i64 (c18 + 1)) r49 _ h e50 hp51 hT52)
  ·rw [if_f hb21] at h
   refine SemY.exit ?_
   have hq := Option.some.inj h; subst hq
   exact ⟨rfl, _, ⟨e19, hp, hT, rfl⟩, (WkY.fr kr)⟩
set_option maxHeartbeats 4000000 in
set_option maxRecDepth 100000 in
theorem evening_Rings_d_1_ok {L : List Asn} (x0 : Int) : ∀ (f : Nat) (c10 : Int) (c12 : (List (List (List Int)))) (r : ((List (List (List Int))))), evening_Rings_d_1 x0 f c10 c12 = some r → ∀ (e11 : AV) (hp : Hp), T hp ((own_ (ocL 1 50 (ocL 1 31 (ocL 1 3 (ocV cdI)))) e11 c12) :: L) → SemYN e_evening_Rings_d ⟨none, false⟩ (pc cb_evening_Rings_d [1, 1, 1, 1, 0, 1, 0, 0]) f ⟨Fr 66 [(0, .v (.int .i64 x0)), (4, .v (.int .i64 (wr .i64 (x0.tdiv 2)))), (5, e11), (22, .v (.int .i64 (wr .i64 (x0.tdiv 2)))), (23, .v (.int .i64 c10))], hp⟩ (fun e s => e = (.exit 1) ∧ ∃ s2, (∃ (e77 : AV) (h' : Hp), T h' ((own_ (ocL 1 50 (ocL 1 31 (ocL 1 3 (ocV cdI)))) e77 r) :: L) ∧ s2 = ⟨Fr 66 [(5, e77)], h'⟩) ∧ WkY e_evening_Rings_d s s2) := by
 have he := e_evening_Rings_d_ok
 intro f
 induction f with
 | zero => intro c10 c12 r h; cases h
 | succ f ih0 =>
  intro c10 c12 r h e11 hp hT
  unfold evening_Rings_d_1 at h
  refine SemYN.succ ?_
  let p1 : Nat × AV := (23, .v (.int .i64 c10))
  let p2 : Nat × AV := (22, .v (.int .i64 (wr .i64 (x0.tdiv 2))))
  let p3 : Nat × AV := (4, .v (.int .i64 (wr .i64 (x0.tdiv 2))))
  let p4 : Nat × AV := (0, .v (.int .i64 x0))
  refine SemY.sq he [p4, p3, (5, e11), p2, p1, (24, .v (.bool (decide (c10 < (wr .i64 (x0.tdiv 2))))))] ?_
  refine SemY.seq ?_
  refine SemY.cond (b := (decide (c10 < (wr .i64 (x0.tdiv 2))))) kr (fun hb13 => ?_) (fun hb13 => ?_)
  ·rw [if_pos hb13] at h
   refine SemY.skip ?_
   refine SemY.seq ?_
   refine SemY.block ?_
   let p5 : Nat × AV := (6, .v (.int .i64 c10))
   refine SemY.sq he [p4, p3, (5, e11), p5, p2, p1] ?_
   refine SemY.seq ?_
   refine SemY.regionL ?_
   refine RunL.sg he 3 ?_
   obtain ⟨e17, hp14, hb15, hT16⟩ := lit_ownB (P := Tryd.prog) (bytes := 8) (k := 1) (t := 3) (ty := 31) (xs := ([(wr .i64 (x0 - 1)), c10] : List Int)) (n := 2) (fit_V (k := 1) (fun _ => ⟨rfl, rfl, rfl⟩)) (els_leaf (c := cdI) (xs := ([(wr .i64 (x0 - 1)), c10] : List Int)) hT) rfl kr kr kr
   refine RunL.one he 0 rfl (op_n (wantedA_none rfl) rfl kr (n_lit (xs := enumA 0 [.v (.int .i64 (wr .i64 (x0 - 1))), .v (.int .i64 c10)]) kr hb15)) ?_
   refine RunL.fin he [p4, p3, (5, e11), p5, (7, e17), p2, p1] ?_
   refine SemY.seq ?_
   refine SemY.sq he [p4, p3, (5, e11), p5, (7, e17), (8, .v (.int .i64 1)), p2, p1] ?_
   refine SemY.block ?_
   have hT55 := (hT16.front 1 rfl)
   refine SemY.loop (n := 100000) ?_
   obtain ⟨r56, hr56, h⟩ := Option.bind_eq_some_iff.1 h
   refine SemYN.cutT (SemYN.wk (WkY.fr kr) (evening_Rings_d_2_ok x0 c10 e11 c12 _ 1 ([(wr .i64 (x0 - 1)), c10] : List Int) _ hr56 e17 hp14 hT55)) ?_
   rintro _ ⟨e57, hp58, hT59, rfl⟩
   refine SemY.regionL ?_
   refine RunL.sg he 2 ?_
   have hT64 := (hT59.front 1 rfl)
   have hl65 : evLen Tryd.prog 31 e57 = some (eI r56.length) := len_B hT64 kr
   obtain ⟨e63, hp60, hb61, hT62⟩ := lit_ownB (P := Tryd.prog) (bytes := 24) (k := 1) (t := 31) (ty := 50) (xs := ([r56] : List (List Int))) (n := 1) fit_L (els_cons ((els_nil (o := (ocL 1 3 (ocV cdI))) hT64).front 1 rfl)) rfl kr kr kr
   refine RunL.one he 0 rfl (op_n (wantedA_none rfl) rfl kr (n_lit (xs := enumA 0 [e57]) kr hb61)) ?_
   have hl70 : evLen Tryd.prog 50 e63 = some (eI ([r56] : List (List Int)).length) := len_B hT62 kr
   obtain ⟨e69, hp66, hb67, hT68⟩ := lit_ownB (P := Tryd.prog) (bytes := 24) (k := 1) (t := 50) (ty := 22) (xs := ([([r56] : List (List Int))] : List (List (List Int)))) (n := 1) fit_L (els_cons ((els_nil (o := (ocL 1 31 (ocL 1 3 (ocV cdI)))) hT62).front 1 rfl)) rfl kr kr kr
   refine RunL.one he 0 rfl (op_n (wantedA_none rfl) rfl kr (n_lit (xs := enumA 0 [e63]) kr hb67)) ?_
   by_cases hk75 : (capOk 24 (c12.length + ([([r56] : List (List Int))] : List (List (List Int))).length)) = true
   case neg => rw [if_neg hk75] at h; cases h
   rw [if_pos hk75] at h
   have hT76 := ((hT68.front 0 rfl).front 1 rfl)
   obtain ⟨e74, hp71, hb72, hT73⟩ := app_ownB (P := Tryd.prog) (ty := 22) (ty2 := 22) (bytes := 24) hT76 kr kr hk75
   refine RunL.one he 0 rfl (op_w (wantedA_none rfl) rfl kr kr (w_append (a := e11) (b := e69) kr kr hb72)) ?_
   refine RunL.fin he [p4, p3, (5, e74), p2, p1] ?_
   refine SemY.regionL ?_
   refine RunL.sg he 2 ?_
   refine RunL.done rfl ?_
   exact SemYN.wk (WkY.fr kr) (ih0 (wr .i64 (c10 + 1)) (c12 ++ ([([r56] : List (List Int))] : List (List (List Int)))) _ h e74 hp71 hT73)
  ·rw [if_f hb13] at h
   refine SemY.exit ?_
   have hq := Option.some.inj h; subst hq
   exact ⟨rfl, _, ⟨e11, hp, hT, rfl⟩, (WkY.fr kr)⟩
set_option maxHeartbeats 4000000 in
set_option maxRecDepth 100000 in
theorem evening_Rings_d_sem {L : List Asn} {hp : Hp} (x0 : Int) (r : Int × (List (List (List Int)))) (h : evening_Rings_d x0 = some r) (hT : T hp (L)) : SemY e_evening_Rings_d ⟨none, false⟩ cb_evening_Rings_d ⟨Fr 66 (pairs0 0 [.v (.int .i64 x0)]), hp⟩ fun x s' => (x = .normal ∨ x = .ret) ∧ ∃ ys, resA e_evening_Rings_d.P s'.fr s'.hp Tryd.f58.results.toList = some ys ∧ (fun v h' => ∃ (z0 : AV), v = .tp [z0, .v (.int .i64 r.1)] ∧ T h' ((own_ (ocL 1 50 (ocL 1 31 (ocL 1 3 (ocV cdI)))) z0 r.2) :: L)) (retA ys) s'.hp := by
 have he := e_evening_Rings_d_ok
 unfold evening_Rings_d at h
 let p1 : Nat × AV := (0, .v (.int .i64 x0))
 refine SemY.wkQ (SemY.wk (s1 := ⟨Fr 66 [p1], hp⟩) (WkY.fr kr) ?_)
 refine SemY.sq he [p1] ?_
 refine SemY.seq ?_
 refine SemY.block ?_
 refine SemY.seq ?_
 obtain ⟨j1, hj1, h⟩ := Option.bind_eq_some_iff.1 h
 refine SemY.regT (A := fun s1 => ∃ (h' : Hp), T h' (L) ∧ s1 = ⟨Fr 66 [p1, (9, .v (.bool j1))], h'⟩) ?_ ?_
 ·refine RunL.segF (n := 66) he 3 [p1, (12, .v (.bool (decide (x0 < 3))))] hp kr ?_
  rcases Bool.eq_false_or_eq_true (decide (x0 < 3)) with hc83 | hc83
  ·rw [if_pos hc83] at hj1
   rw [hc83]
   refine RunL.sg he 4 ?_
   have hq := Option.some.inj hj1; subst hq
   exact RunL.done rfl ⟨_, ⟨hp, hT, rfl⟩, (WkY.fr kr)⟩
  ·rw [if_f hc83] at hj1
   rw [hc83]
   refine RunL.sg he 4 ?_
   have hq := Option.some.inj hj1; subst hq
   exact RunL.done rfl ⟨_, ⟨hp, hT, rfl⟩, (WkY.fr kr)⟩
 rintro _ ⟨hp3, hT4, rfl⟩
 refine SemY.cond (b := j1) kr (fun hb5 => ?_) (fun hb5 => ?_)
 ·rw [if_pos hb5] at h
  refine SemY.sq he [(2, .e0), (3, .v (.int .i64 90))] ?_
  refine SemY.ret ?_
  have hq := Option.some.inj h; subst hq
  have hT6 := (T.e0 (k := 1) (ty := 50) (o := (ocL 1 31 (ocL 1 3 (ocV cdI)))) hT4)
  exact ⟨⟨Fr 66 [(2, .e0), (3, .v (.int .i64 90))], hp3⟩, (WkY.fr kr), .inr rfl, [.e0, .v (.int .i64 90)], kr, ⟨.e0, rfl, hT6⟩⟩
 ·rw [if_f hb5] at h
  refine SemY.sq he [p1, (16, .v (.bool ((x0.tmod 2) == 0)))] ?_
  refine SemY.cond (b := ((x0.tmod 2) == 0)) kr (fun hb7 => ?_) (fun hb7 => ?_)
  ·rw [if_pos hb7] at h
   refine SemY.sq he [(2, .e0), (3, .v (.int .i64 91))] ?_
   refine SemY.ret ?_
   have hq := Option.some.inj h; subst hq
   have hT8 := (T.e0 (k := 1) (ty := 50) (o := (ocL 1 31 (ocL 1 3 (ocV cdI)))) hT4)
   exact ⟨⟨Fr 66 [(2, .e0), (3, .v (.int .i64 91))], hp3⟩, (WkY.fr kr), .inr rfl, [.e0, .v (.int .i64 91)], kr, ⟨.e0, rfl, hT8⟩⟩
  ·rw [if_f hb7] at h
   refine SemY.skip ?_
   let p2 : Nat × AV := (4, .v (.int .i64 (wr .i64 (x0.tdiv 2))))
   refine SemY.sq he [p1, p2] ?_
   refine SemY.sq he [p1, p2, (5, .e0)] ?_
   refine SemY.seq ?_
   refine SemY.sq he [p1, p2, (5, .e0), (22, .v (.int .i64 (wr .i64 (x0.tdiv 2)))), (23, .v (.int .i64 0))] ?_
   refine SemY.block ?_
   have hT9 := (T.e0 (k := 1) (ty := 50) (o := (ocL 1 31 (ocL 1 3 (ocV cdI)))) hT4)
   refine SemY.loop (n := 100000) ?_
   obtain ⟨r79, hr79, h⟩ := Option.bind_eq_some_iff.1 h
   refine SemYN.cutT (SemYN.wk (WkY.fr kr) (evening_Rings_d_1_ok x0 _ 0 ([] : (List (List (List Int)))) _ hr79 .e0 hp3 hT9)) ?_
   rintro _ ⟨e80, hp81, hT82, rfl⟩
   refine SemY.sq he [(2, e80), (3, .v (.int .i64 0))] ?_
   refine SemY.ret ?_
   have hq := Option.some.inj h; subst hq
   exact ⟨⟨Fr 66 [(2, e80), (3, .v (.int .i64 0))], hp81⟩, (WkY.fr kr), .inr rfl, [e80, .v (.int .i64 0)], kr, ⟨e80, rfl, hT82⟩⟩
def evening_Rings_j3 (x0 : Int) (c5 : (List (List (List Int)))) (c6 : Int) (c8 : (List Int)) (c9 : Int) : Option (((List Int))) :=
 if (decide (c9 < (wr .i64 (x0.tdiv 2)))) = true then
 if (wr .i64 (2 * (wr .i64 (x0.tdiv 2)))) = (0 : Int) then none else
 if (capOk 8 ((c8 ++ [((wr .i64 (c6 + c9)).tmod (wr .i64 (2 * (wr .i64 (x0.tdiv 2)))))]).length + 1)) = true then
 some ((c8 ++ [((wr .i64 (c6 + c9)).tmod (wr .i64 (2 * (wr .i64 (x0.tdiv 2)))))]) ++ [((wr .i64 ((wr .i64 (c6 - c9)) + (wr .i64 (2 * (wr .i64 (x0.tdiv 2)))))).tmod (wr .i64 (2 * (wr .i64 (x0.tdiv 2)))))])
 else none
 else
 some (c8 ++ [((wr .i64 (c6 + c9)).tmod (wr .i64 (2 * (wr .i64 (x0.tdiv 2)))))])
def evening_Rings_2 (x0 : Int) (c5 : (List (List (List Int)))) (c6 : Int) : Nat → (List Int) → Int → Option (((List Int)))
 | 0, _, _ => none
 | f + 1, c8, c9 =>
  if (decide (c9 ≤ (wr .i64 (x0.tdiv 2)))) = true then
  if (wr .i64 (2 * (wr .i64 (x0.tdiv 2)))) = (0 : Int) then none else
  if (capOk 8 (c8.length + 1)) = true then
  (evening_Rings_j3 x0 c5 c6 c8 c9).bind fun r17 =>
  evening_Rings_2 x0 c5 c6 f r17 (wr .i64 (c9 + 1))
  else none
  else
  some c8
def evening_Rings_1 (x0 : Int) : Nat → (List (List (List Int))) → Int → Option (((List (List (List Int)))))
 | 0, _, _ => none
 | f + 1, c5, c6 =>
  if (decide (c6 < (wr .i64 (x0.tdiv 2)))) = true then
  (evening_Rings_2 x0 c5 c6 100000 [(wr .i64 (x0 - 1)), c6] 1).bind fun r19 =>
  if (capOk 24 (c5.length + 1)) = true then
  evening_Rings_1 x0 f (c5 ++ [[r19]]) (wr .i64 (c6 + 1))
  else none
  else
  some c5
def evening_Rings (x0 : Int) : Option ((List (List (List Int))) × Int) :=
 (if (decide (x0 < 3)) = true then some true else some (decide (x0 > 64))).bind fun j2 =>
 if j2 = true then
 some ([], 90)
 else
 if ((x0.tmod 2) == 0) = true then
 some ([], 91)
 else
 (evening_Rings_1 x0 100000 [] 0).bind fun r22 =>
 some (r22, 0)
def cs_evening_Rings : Cs (Int × Unit) := (csC cdI csN)
def er_evening_Rings (r : (List (List (List Int))) × Int) : AV := .tp [(cdL 1 (cdL 1 (cdL 1 cdI))).enc r.1, cdI.enc r.2]
theorem dr_j (n : Int) (a : List (List (List Int))) (c : Int) (l : List Int) (i : Int) : evening_Rings_j3 n a c l i = evening_Rings_d_j3 n c i l := rfl
theorem dr_2 (n : Int) (a : List (List (List Int))) (c : Int) : ∀ (f : Nat) (i : Int) (l : List Int), evening_Rings_2 n a c f l i = evening_Rings_d_2 n c f i l
 | 0, _, _ => rfl
 | f + 1, i, l => by
  unfold evening_Rings_2 evening_Rings_d_2
  simp only [List.length_singleton, dr_2 n a c f, dr_j]
theorem dr_1 (n : Int) : ∀ (f : Nat) (i : Int) (l : List (List (List Int))), evening_Rings_1 n f l i = evening_Rings_d_1 n f i l
 | 0, _, _ => rfl
 | f + 1, i, l => by
  unfold evening_Rings_1 evening_Rings_d_1
  simp only [List.length_singleton, dr_1 n f, dr_2]
theorem drings (n : Int) : evening_Rings n = sw (evening_Rings_d n) := by
 unfold evening_Rings evening_Rings_d
 simp only [dr_1]
 generalize (if decide (n < 3) = true then some true else some (decide (n > 64))) = j
 cases j with
 | none => rfl
 | some b =>
  cases b
  ·simp only [Option.bind_some, Bool.false_eq_true, if_false]
   split
   ·rfl
   ·cases evening_Rings_d_1 n 100000 0 [] <;> rfl
  ·rfl
def t_evening_Rings : List AV → Option AV := told cs_evening_Rings (fun a => evening_Rings a.1) er_evening_Rings
theorem x_evening_Rings : XOk 58 t_evening_Rings := by
 refine EnvOk.x (E := e_evening_Rings_d) (contract_ok e_evening_Rings_d_ok (fn := Tryd.f58) (c := cb_evening_Rings_d) ?h1 ?h2 ⟨Tryd.call58⟩ cs_evening_Rings (fun a => evening_Rings a.1) er_evening_Rings (fun a => (by show 1 ≤ 66; decide)) ?h3 ?h4) rfl rfl
 case h1 => kernel_rfl
 case h2 => kernel_rfl
 case h3 => intro b; kernel_rfl
 case h4 =>
  intro a b h
  have hd : evening_Rings_d a.1 = some (b.2, b.1) := sw_some (by rw [← drings]; exact h)
  exact sem_frz2 (r0 := 2) (r1 := 3) (by decide) (SemY.mono (evening_Rings_d_sem (L := []) (hp := []) a.1 _ hd T.nil) fun e s' hs => hs)
/- trestle/trestlekit.SameInts -/
noncomputable def e_kit_SameInts : Env := E0
theorem e_kit_SameInts_ok : EnvOk e_kit_SameInts := E0_ok
noncomputable def cb_kit_SameInts : Code := codeOf Tryd.f43
def kit_SameInts_1 (x0 : (List Int)) (x1 : (List Int)) : Nat → Int → Option ((Unit) ⊕ (Bool))
 | 0, _ => none
 | f + 1, c2 =>
  if (decide (c2 < (x0.length : Int))) = true then
  (idx x0 c2).bind fun v4 =>
  (idx x1 c2).bind fun v5 =>
  if (v4 != v5) = true then
  some (.inr false)
  else
  kit_SameInts_1 x0 x1 f (wr .i64 (c2 + 1))
  else
  some (.inl ())
def kit_SameInts (x0 : (List Int)) (x1 : (List Int)) : Option (Bool) :=
 if ((x0.length : Int) != (x1.length : Int)) = true then
 some false
 else
 (kit_SameInts_1 x0 x1 100000 0).bind fun r8 =>
 match r8 with
 | (.inl w9) =>
  some true
 | (.inr w10) =>
  some w10
def cs_kit_SameInts : Cs ((List Int) × (List Int) × Unit) := (csC (cdL 1 cdI) (csC (cdL 1 cdI) csN))
def er_kit_SameInts (r : Bool) : AV := cdB.enc r
set_option maxHeartbeats 4000000 in
set_option maxRecDepth 100000 in
theorem kit_SameInts_1_ok (x0 : (List Int)) (x1 : (List Int)) : ∀ (f : Nat) (c2 : Int) (r : (Unit) ⊕ (Bool)), kit_SameInts_1 x0 x1 f c2 = some r → SemN e_kit_SameInts ⟨none, false⟩ (pc cb_kit_SameInts [1, 1, 0, 1, 0, 0]) f ⟨Fr 26 [(0, .sl 1 (x0.map cdI.enc)), (1, .sl 1 (x1.map cdI.enc)), (5, .v (.int .i64 c2))], []⟩ (fun e s => match r with
 | (.inl w) => e = (.exit 0) ∧ Wk e_kit_SameInts s ⟨Fr 26 [], []⟩
 | (.inr w) => e = .ret ∧ Wk e_kit_SameInts s ⟨Fr 26 [(4, .v (.bool w))], []⟩) := by
 have he := e_kit_SameInts_ok
 intro f
 induction f with
 | zero => intro c2 r h; cases h
 | succ f ih0 =>
  intro c2 r h
  have ih := fun (c2 : Int) => ih0 c2 r
  unfold kit_SameInts_1 at h
  refine SemN.succ ?_
  refine Sem.seq ?_
  refine Sem.seq ?_
  let p1 : Nat × AV := (5, .v (.int .i64 c2))
  let p2 : Nat × AV := (1, .sl 1 (x1.map cdI.enc))
  let p3 : Nat × AV := (0, .sl 1 (x0.map cdI.enc))
  refine Sem.runS (s1 := ⟨Fr 26 [p3, p2, p1, (14, .v (.bool (decide (c2 < (x0.length : Int)))))], []⟩) ?_ ?_
  ·refine RunS.segF (n := 26) he 2 [p3, p2, p1, (11, .v (.int .i64 c2)), (12, .sl 1 (x0.map cdI.enc))] [] kr ?_
   refine RunS.one he 0 rfl (op_q (wantedA_none rfl) rfl (q_len (a := .sl 1 (x0.map cdI.enc)) kr (len_sl (el := 3) kr))) ?_
   exact RunS.last he
  refine Sem.cond (b := (decide (c2 < (x0.length : Int)))) kr (fun hb3 => ?_) (fun hb3 => ?_)
  ·rw [if_pos hb3] at h
   refine Sem.skip ?_
   refine Sem.seq ?_
   refine Sem.block ?_
   refine Sem.seq ?_
   obtain ⟨v4, hv4, h⟩ := Option.bind_eq_some_iff.1 h
   obtain ⟨v5, hv5, h⟩ := Option.bind_eq_some_iff.1 h
   refine Sem.runDS he (s1 := ⟨Fr 26 [p3, p2, p1, (25, .v (.bool (v4 != v5)))], []⟩) kr ?_ ?_
   ·refine RunDS.segF (n := 26) he 2 [p3, p2, p1, (17, .sl 1 (x0.map cdI.enc)), (18, .v (.int .i64 c2))] [] kr kr ?_
    refine RunDS.one he rfl kr (opd_q kr (wantedA_none rfl) rfl (q_indexAddr (a := .sl 1 (x0.map cdI.enc)) (b := .v (.int .i64 c2)) kr kr (ix_sl (e := cdI.enc) (el := 3) (k := 1) (ki := .i64) kr kr hv4)) kr) ?_
    refine RunDS.segF (n := 26) he 3 [p3, p2, p1, (20, .v (.int .i64 v4)), (21, .sl 1 (x1.map cdI.enc)), (22, .v (.int .i64 c2))] [] kr kr ?_
    refine RunDS.one he rfl kr (opd_q kr (wantedA_none rfl) rfl (q_indexAddr (a := .sl 1 (x1.map cdI.enc)) (b := .v (.int .i64 c2)) kr kr (ix_sl (e := cdI.enc) (el := 3) (k := 1) (ki := .i64) kr kr hv5)) kr) ?_
    refine RunDS.segF (n := 26) he 2 [p3, p2, p1, (25, .v (.bool (v4 != v5)))] [] kr kr ?_
    exact RunDS.done rfl (Wk.fr kr)
   refine Sem.cond (b := (v4 != v5)) kr (fun hb6 => ?_) (fun hb6 => ?_)
   ·rw [if_pos hb6] at h
    refine Sem.sq he [(4, .v (.bool false))] [] ?_
    refine Sem.ret ?_
    have hq := Option.some.inj h; subst hq
    exact ⟨rfl, (Wk.fr kr)⟩
   ·rw [if_f hb6] at h
    refine Sem.skip ?_
    let p4 : Nat × AV := (5, .v (.int .i64 (wr .i64 (c2 + 1))))
    refine Sem.rg he [p3, p2, p4] [] ?_
    exact SemN.wk (s1 := ⟨Fr 26 [p3, p2, p4], []⟩) (Wk.fr kr) (ih (wr .i64 (c2 + 1)) h)
  ·rw [if_f hb3] at h
   refine Sem.exit ?_
   have hq := Option.some.inj h; subst hq
   exact ⟨rfl, (Wk.fr kr)⟩
set_option maxHeartbeats 4000000 in
set_option maxRecDepth 100000 in
theorem kit_SameInts_sem (x0 : (List Int)) (x1 : (List Int)) (r : Bool) (h : kit_SameInts x0 x1 = some r) : Sem e_kit_SameInts ⟨none, false⟩ cb_kit_SameInts ⟨Fr 26 (pairs0 0 (cs_kit_SameInts.enc (x0, x1, ()))), []⟩ fun e s' => (e = .normal ∨ e = .ret) ∧ ∃ xs, resA e_kit_SameInts.P s'.fr s'.hp Tryd.f43.results.toList = some xs ∧ retA xs = er_kit_SameInts r := by
 have he := e_kit_SameInts_ok
 unfold kit_SameInts at h
 let p1 : Nat × AV := (1, .sl 1 (x1.map cdI.enc))
 let p2 : Nat × AV := (0, .sl 1 (x0.map cdI.enc))
 refine Sem.wkQ (Sem.wk (s1 := ⟨Fr 26 [p2, p1], []⟩) (Wk.fr kr) ?_)
 refine Sem.sq he [p2, p1] [] ?_
 refine Sem.seq ?_
 refine Sem.seq ?_
 refine Sem.runS (s1 := ⟨Fr 26 [p2, p1, (10, .v (.bool ((x0.length : Int) != (x1.length : Int))))], []⟩) ?_ ?_
 ·refine RunS.segF (n := 26) he 1 [p2, p1, (6, .sl 1 (x0.map cdI.enc))] [] kr ?_
  refine RunS.one he 0 rfl (op_q (wantedA_none rfl) rfl (q_len (a := .sl 1 (x0.map cdI.enc)) kr (len_sl (el := 3) kr))) ?_
  refine RunS.segF (n := 26) he 1 [p2, p1, (7, .v (.int .i64 (x0.length : Int))), (8, .sl 1 (x1.map cdI.enc))] [] kr ?_
  refine RunS.one he 0 rfl (op_q (wantedA_none rfl) rfl (q_len (a := .sl 1 (x1.map cdI.enc)) kr (len_sl (el := 3) kr))) ?_
  exact RunS.last he
 refine Sem.cond (b := ((x0.length : Int) != (x1.length : Int))) kr (fun hb1 => ?_) (fun hb1 => ?_)
 ·rw [if_pos hb1] at h
  refine Sem.sq he [(4, .v (.bool false))] [] ?_
  refine Sem.ret ?_
  have hq := Option.some.inj h; subst hq
  exact ⟨⟨Fr 26 [(4, .v (.bool false))], []⟩, (Wk.fr kr), .inr rfl, [.v (.bool false)], kr, kr⟩
 ·rw [if_f hb1] at h
  refine Sem.skip ?_
  refine Sem.seq ?_
  let p3 : Nat × AV := (5, .v (.int .i64 0))
  refine Sem.sq he [p2, p1, p3] [] ?_
  refine Sem.block ?_
  obtain ⟨r8, hr8, h⟩ := Option.bind_eq_some_iff.1 h
  refine Sem.loop (n := 100000) ?_
  rcases r8 with w9 | w10
  ·try dsimp only at h
   refine Sem.cutN (SemN.wk (s1 := ⟨Fr 26 [p2, p1, p3], []⟩) (Wk.fr kr) (kit_SameInts_1_ok x0 x1 _ 0 _ hr8)) ?_
   refine Sem.sq he [(4, .v (.bool true))] [] ?_
   refine Sem.ret ?_
   have hq := Option.some.inj h; subst hq
   exact ⟨⟨Fr 26 [(4, .v (.bool true))], []⟩, (Wk.fr kr), .inr rfl, [.v (.bool true)], kr, kr⟩
  ·try dsimp only at h
   refine Sem.cutN (SemN.wk (s1 := ⟨Fr 26 [p2, p1, p3], []⟩) (Wk.fr kr) (kit_SameInts_1_ok x0 x1 _ 0 _ hr8)) ?_
   have hq := Option.some.inj h; subst hq
   exact ⟨⟨Fr 26 [(4, .v (.bool w10))], []⟩, (Wk.fr kr), .inr rfl, [.v (.bool w10)], kr, kr⟩
def t_kit_SameInts : List AV → Option AV := told cs_kit_SameInts (fun a => kit_SameInts a.1 a.2.1) er_kit_SameInts
theorem x_kit_SameInts : XOk 43 t_kit_SameInts := by
 refine EnvOk.x (E := e_kit_SameInts) (contract_ok e_kit_SameInts_ok (fn := Tryd.f43) (c := cb_kit_SameInts) ?h1 ?h2 ⟨Tryd.call43⟩ cs_kit_SameInts (fun a => kit_SameInts a.1 a.2.1) er_kit_SameInts (fun a => (by show 2 ≤ 26; decide)) ?h3 ?h4) rfl rfl
 case h1 => kernel_rfl
 case h2 => kernel_rfl
 case h3 => intro b; kernel_rfl
 case h4 => exact fun a b h => kit_SameInts_sem a.1 a.2.1 b h
/- trestle/trestlekit.SameLists -/
noncomputable def e_kit_SameLists : Env := (E0.withX 43 t_kit_SameInts)
theorem e_kit_SameLists_ok : EnvOk e_kit_SameLists := (EnvOk.withX E0_ok x_kit_SameInts.1 x_kit_SameInts.2)
noncomputable def cb_kit_SameLists : Code := codeOf Tryd.f56
def kit_SameLists_1 (x0 : (List (List Int))) (x1 : (List (List Int))) : Nat → Int → Option ((Unit) ⊕ (Bool))
 | 0, _ => none
 | f + 1, c2 =>
  if (decide (c2 < (x0.length : Int))) = true then
  (idx x0 c2).bind fun v4 =>
  (idx x1 c2).bind fun v5 =>
  (kit_SameInts v4 v5).bind fun v6 =>
  if (!v6) = true then
  some (.inr false)
  else
  kit_SameLists_1 x0 x1 f (wr .i64 (c2 + 1))
  else
  some (.inl ())
def kit_SameLists (x0 : (List (List Int))) (x1 : (List (List Int))) : Option (Bool) :=
 if ((x0.length : Int) != (x1.length : Int)) = true then
 some false
 else
 (kit_SameLists_1 x0 x1 100000 0).bind fun r9 =>
 match r9 with
 | (.inl w10) =>
  some true
 | (.inr w11) =>
  some w11
def cs_kit_SameLists : Cs ((List (List Int)) × (List (List Int)) × Unit) := (csC (cdL 1 (cdL 1 cdI)) (csC (cdL 1 (cdL 1 cdI)) csN))
def er_kit_SameLists (r : Bool) : AV := cdB.enc r
set_option maxHeartbeats 4000000 in
set_option maxRecDepth 100000 in
theorem kit_SameLists_1_ok (x0 : (List (List Int))) (x1 : (List (List Int))) : ∀ (f : Nat) (c2 : Int) (r : (Unit) ⊕ (Bool)), kit_SameLists_1 x0 x1 f c2 = some r → SemN e_kit_SameLists ⟨none, false⟩ (pc cb_kit_SameLists [1, 1, 0, 1, 0, 0]) f ⟨Fr 27 [(0, .sl 1 (x0.map (cdL 1 cdI).enc)), (1, .sl 1 (x1.map (cdL 1 cdI).enc)), (5, .v (.int .i64 c2))], []⟩ (fun e s => match r with
 | (.inl w) => e = (.exit 0) ∧ Wk e_kit_SameLists s ⟨Fr 27 [], []⟩
 | (.inr w) => e = .ret ∧ Wk e_kit_SameLists s ⟨Fr 27 [(4, .v (.bool w))], []⟩) := by
 have he := e_kit_SameLists_ok
 intro f
 induction f with
 | zero => intro c2 r h; cases h
 | succ f ih0 =>
  intro c2 r h
  have ih := fun (c2 : Int) => ih0 c2 r
  unfold kit_SameLists_1 at h
  refine SemN.succ ?_
  refine Sem.seq ?_
  refine Sem.seq ?_
  let p1 : Nat × AV := (5, .v (.int .i64 c2))
  let p2 : Nat × AV := (1, .sl 1 (x1.map (cdL 1 cdI).enc))
  let p3 : Nat × AV := (0, .sl 1 (x0.map (cdL 1 cdI).enc))
  refine Sem.runS (s1 := ⟨Fr 27 [p3, p2, p1, (14, .v (.bool (decide (c2 < (x0.length : Int)))))], []⟩) ?_ ?_
  ·refine RunS.segF (n := 27) he 2 [p3, p2, p1, (11, .v (.int .i64 c2)), (12, .sl 1 (x0.map (cdL 1 cdI).enc))] [] kr ?_
   refine RunS.one he 0 rfl (op_q (wantedA_none rfl) rfl (q_len (a := .sl 1 (x0.map (cdL 1 cdI).enc)) kr (len_sl (el := 31) kr))) ?_
   exact RunS.last he
  refine Sem.cond (b := (decide (c2 < (x0.length : Int)))) kr (fun hb3 => ?_) (fun hb3 => ?_)
  ·rw [if_pos hb3] at h
   refine Sem.skip ?_
   refine Sem.seq ?_
   refine Sem.block ?_
   refine Sem.seq ?_
   obtain ⟨v4, hv4, h⟩ := Option.bind_eq_some_iff.1 h
   obtain ⟨v5, hv5, h⟩ := Option.bind_eq_some_iff.1 h
   obtain ⟨v6, hv6, h⟩ := Option.bind_eq_some_iff.1 h
   refine Sem.runDS he (s1 := ⟨Fr 27 [p3, p2, p1, (26, .v (.bool (!v6)))], []⟩) kr ?_ ?_
   ·refine RunDS.segF (n := 27) he 2 [p3, p2, p1, (17, .sl 1 (x0.map (cdL 1 cdI).enc)), (18, .v (.int .i64 c2))] [] kr kr ?_
    refine RunDS.one he rfl kr (opd_q kr (wantedA_none rfl) rfl (q_indexAddr (a := .sl 1 (x0.map (cdL 1 cdI).enc)) (b := .v (.int .i64 c2)) kr kr (ix_sl (e := (cdL 1 cdI).enc) (el := 31) (k := 1) (ki := .i64) kr kr hv4)) kr) ?_
    refine RunDS.segF (n := 27) he 3 [p3, p2, p1, (20, .sl 1 (v4.map cdI.enc)), (21, .sl 1 (x1.map (cdL 1 cdI).enc)), (22, .v (.int .i64 c2))] [] kr kr ?_
    refine RunDS.one he rfl kr (opd_q kr (wantedA_none rfl) rfl (q_indexAddr (a := .sl 1 (x1.map (cdL 1 cdI).enc)) (b := .v (.int .i64 c2)) kr kr (ix_sl (e := (cdL 1 cdI).enc) (el := 31) (k := 1) (ki := .i64) kr kr hv5)) kr) ?_
    refine RunDS.segF (n := 27) he 1 [p3, p2, p1, (20, .sl 1 (v4.map cdI.enc)), (24, .sl 1 (v5.map cdI.enc))] [] kr kr ?_
    refine RunDS.call he (fid := 43) (s := cs_kit_SameInts) (F := fun a => kit_SameInts a.1 a.2.1) (er := er_kit_SameInts) (xs := [.sl 1 (v4.map cdI.enc), .sl 1 (v5.map cdI.enc)]) (a := (v4, v5, ())) rfl (wantedA_none rfl) kr kr kr (Sns.cons (Sn.enc (c := (cdL 1 cdI)) (v := v4)) (Sns.cons (Sn.enc (c := (cdL 1 cdI)) (v := v5)) Sns.nil)) kr hv6 ?_
    refine RunDS.segF (n := 27) he 1 [p3, p2, p1, (26, .v (.bool (!v6)))] [] kr kr ?_
    exact RunDS.done rfl (Wk.fr kr)
   refine Sem.cond (b := (!v6)) kr (fun hb7 => ?_) (fun hb7 => ?_)
   ·rw [if_pos hb7] at h
    refine Sem.sq he [(4, .v (.bool false))] [] ?_
    refine Sem.ret ?_
    have hq := Option.some.inj h; subst hq
    exact ⟨rfl, (Wk.fr kr)⟩
   ·rw [if_f hb7] at h
    refine Sem.skip ?_
    let p4 : Nat × AV := (5, .v (.int .i64 (wr .i64 (c2 + 1))))
    refine Sem.rg he [p3, p2, p4] [] ?_
    exact SemN.wk (s1 := ⟨Fr 27 [p3, p2, p4], []⟩) (Wk.fr kr) (ih (wr .i64 (c2 + 1)) h)
  ·rw [if_f hb3] at h
   refine Sem.exit ?_
   have hq := Option.some.inj h; subst hq
   exact ⟨rfl, (Wk.fr kr)⟩
set_option maxHeartbeats 4000000 in
set_option maxRecDepth 100000 in
theorem kit_SameLists_sem (x0 : (List (List Int))) (x1 : (List (List Int))) (r : Bool) (h : kit_SameLists x0 x1 = some r) : Sem e_kit_SameLists ⟨none, false⟩ cb_kit_SameLists ⟨Fr 27 (pairs0 0 (cs_kit_SameLists.enc (x0, x1, ()))), []⟩ fun e s' => (e = .normal ∨ e = .ret) ∧ ∃ xs, resA e_kit_SameLists.P s'.fr s'.hp Tryd.f56.results.toList = some xs ∧ retA xs = er_kit_SameLists r := by
 have he := e_kit_SameLists_ok
 unfold kit_SameLists at h
 let p1 : Nat × AV := (1, .sl 1 (x1.map (cdL 1 cdI).enc))
 let p2 : Nat × AV := (0, .sl 1 (x0.map (cdL 1 cdI).enc))
 refine Sem.wkQ (Sem.wk (s1 := ⟨Fr 27 [p2, p1], []⟩) (Wk.fr kr) ?_)
 refine Sem.sq he [p2, p1] [] ?_
 refine Sem.seq ?_
 refine Sem.seq ?_
 refine Sem.runS (s1 := ⟨Fr 27 [p2, p1, (10, .v (.bool ((x0.length : Int) != (x1.length : Int))))], []⟩) ?_ ?_
 ·refine RunS.segF (n := 27) he 1 [p2, p1, (6, .sl 1 (x0.map (cdL 1 cdI).enc))] [] kr ?_
  refine RunS.one he 0 rfl (op_q (wantedA_none rfl) rfl (q_len (a := .sl 1 (x0.map (cdL 1 cdI).enc)) kr (len_sl (el := 31) kr))) ?_
  refine RunS.segF (n := 27) he 1 [p2, p1, (7, .v (.int .i64 (x0.length : Int))), (8, .sl 1 (x1.map (cdL 1 cdI).enc))] [] kr ?_
  refine RunS.one he 0 rfl (op_q (wantedA_none rfl) rfl (q_len (a := .sl 1 (x1.map (cdL 1 cdI).enc)) kr (len_sl (el := 31) kr))) ?_
  exact RunS.last he
 refine Sem.cond (b := ((x0.length : Int) != (x1.length : Int))) kr (fun hb1 => ?_) (fun hb1 => ?_)
 ·rw [if_pos hb1] at h
  refine Sem.sq he [(4, .v (.bool false))] [] ?_
  refine Sem.ret ?_
  have hq := Option.some.inj h; subst hq
  exact ⟨⟨Fr 27 [(4, .v (.bool false))], []⟩, (Wk.fr kr), .inr rfl, [.v (.bool false)], kr, kr⟩
 ·rw [if_f hb1] at h
  refine Sem.skip ?_
  refine Sem.seq ?_
  let p3 : Nat × AV := (5, .v (.int .i64 0))
  refine Sem.sq he [p2, p1, p3] [] ?_
  refine Sem.block ?_
  obtain ⟨r9, hr9, h⟩ := Option.bind_eq_some_iff.1 h
  refine Sem.loop (n := 100000) ?_
  rcases r9 with w10 | w11
  ·try dsimp only at h
   refine Sem.cutN (SemN.wk (s1 := ⟨Fr 27 [p2, p1, p3], []⟩) (Wk.fr kr) (kit_SameLists_1_ok x0 x1 _ 0 _ hr9)) ?_
   refine Sem.sq he [(4, .v (.bool true))] [] ?_
   refine Sem.ret ?_
   have hq := Option.some.inj h; subst hq
   exact ⟨⟨Fr 27 [(4, .v (.bool true))], []⟩, (Wk.fr kr), .inr rfl, [.v (.bool true)], kr, kr⟩
  ·try dsimp only at h
   refine Sem.cutN (SemN.wk (s1 := ⟨Fr 27 [p2, p1, p3], []⟩) (Wk.fr kr) (kit_SameLists_1_ok x0 x1 _ 0 _ hr9)) ?_
   have hq := Option.some.inj h; subst hq
   exact ⟨⟨Fr 27 [(4, .v (.bool w11))], []⟩, (Wk.fr kr), .inr rfl, [.v (.bool w11)], kr, kr⟩
def t_kit_SameLists : List AV → Option AV := told cs_kit_SameLists (fun a => kit_SameLists a.1 a.2.1) er_kit_SameLists
theorem x_kit_SameLists : XOk 56 t_kit_SameLists := by
 refine EnvOk.x (E := e_kit_SameLists) (contract_ok e_kit_SameLists_ok (fn := Tryd.f56) (c := cb_kit_SameLists) ?h1 ?h2 ⟨Tryd.call56⟩ cs_kit_SameLists (fun a => kit_SameLists a.1 a.2.1) er_kit_SameLists (fun a => (by show 2 ≤ 27; decide)) ?h3 ?h4) rfl rfl
 case h1 => kernel_rfl
 case h2 => kernel_rfl
 case h3 => intro b; kernel_rfl
 case h4 => exact fun a b h => kit_SameLists_sem a.1 a.2.1 b h
/- trestle/trestlelaw09.Same$1 -/
noncomputable def e_law09_Same_1 : Env := (E0.withX 56 t_kit_SameLists)
theorem e_law09_Same_1_ok : EnvOk e_law09_Same_1 := (EnvOk.withX E0_ok x_kit_SameLists.1 x_kit_SameLists.2)
noncomputable def cb_law09_Same_1 : Code := codeOf Tryd.f55
def law09_Same_1 (x0 : (List (List Int))) (x1 : (List (List Int))) : Option (Bool) :=
 (kit_SameLists x0 x1).bind fun v1 =>
 some v1
def cs_law09_Same_1 : Cs ((List (List Int)) × (List (List Int)) × Unit) := (csC (cdL 1 (cdL 1 cdI)) (csC (cdL 1 (cdL 1 cdI)) csN))
def er_law09_Same_1 (r : Bool) : AV := cdB.enc r
set_option maxHeartbeats 4000000 in
set_option maxRecDepth 100000 in
theorem law09_Same_1_sem (x0 : (List (List Int))) (x1 : (List (List Int))) (r : Bool) (h : law09_Same_1 x0 x1 = some r) : Sem e_law09_Same_1 ⟨none, false⟩ cb_law09_Same_1 ⟨Fr 8 (pairs0 0 (cs_law09_Same_1.enc (x0, x1, ()))), []⟩ fun e s' => (e = .normal ∨ e = .ret) ∧ ∃ xs, resA e_law09_Same_1.P s'.fr s'.hp Tryd.f55.results.toList = some xs ∧ retA xs = er_law09_Same_1 r := by
 have he := e_law09_Same_1_ok
 unfold law09_Same_1 at h
 let p1 : Nat × AV := (1, .sl 1 (x1.map (cdL 1 cdI).enc))
 let p2 : Nat × AV := (0, .sl 1 (x0.map (cdL 1 cdI).enc))
 refine Sem.wkQ (Sem.wk (s1 := ⟨Fr 8 [p2, p1], []⟩) (Wk.fr kr) ?_)
 refine Sem.sq he [p2, p1] [] ?_
 refine Sem.seq ?_
 obtain ⟨v1, hv1, h⟩ := Option.bind_eq_some_iff.1 h
 refine Sem.runS (s1 := ⟨Fr 8 [(4, .v (.bool v1))], []⟩) ?_ ?_
 ·refine RunS.segF (n := 8) he 2 [(5, .sl 1 (x0.map (cdL 1 cdI).enc)), (6, .sl 1 (x1.map (cdL 1 cdI).enc))] [] kr ?_
  refine RunS.call he (fid := 56) (s := cs_kit_SameLists) (F := fun a => kit_SameLists a.1 a.2.1) (er := er_kit_SameLists) (xs := [.sl 1 (x0.map (cdL 1 cdI).enc), .sl 1 (x1.map (cdL 1 cdI).enc)]) (a := (x0, x1, ())) rfl (wantedA_none rfl) kr kr kr kr (Sns.cons (Sn.enc (c := (cdL 1 (cdL 1 cdI))) (v := x0)) (Sns.cons (Sn.enc (c := (cdL 1 (cdL 1 cdI))) (v := x1)) Sns.nil)) (.inl kr) hv1 ?_
  exact RunS.last he
 refine Sem.ret ?_
 have hq := Option.some.inj h; subst hq
 exact ⟨⟨Fr 8 [(4, .v (.bool v1))], []⟩, (Wk.fr kr), .inr rfl, [.v (.bool v1)], kr, kr⟩
def t_law09_Same_1 : List AV → Option AV := told cs_law09_Same_1 (fun a => law09_Same_1 a.1 a.2.1) er_law09_Same_1
theorem x_law09_Same_1 : XOk 55 t_law09_Same_1 := by
 refine EnvOk.x (E := e_law09_Same_1) (contract_ok e_law09_Same_1_ok (fn := Tryd.f55) (c := cb_law09_Same_1) ?h1 ?h2 ⟨Tryd.call55⟩ cs_law09_Same_1 (fun a => law09_Same_1 a.1 a.2.1) er_law09_Same_1 (fun a => (by show 2 ≤ 8; decide)) ?h3 ?h4) rfl rfl
 case h1 => kernel_rfl
 case h2 => kernel_rfl
 case h3 => intro b; kernel_rfl
 case h4 => exact fun a b h => law09_Same_1_sem a.1 a.2.1 b h
/- slices.EqualFunc[[][][]int,[][][]int,[][]int,[][]int] -/
noncomputable def e_slices_EqualFunc_LLL_LLL_LL_LL__law09_Same_1 : Env := (E0.withX 55 t_law09_Same_1)
theorem e_slices_EqualFunc_LLL_LLL_LL_LL__law09_Same_1_ok : EnvOk e_slices_EqualFunc_LLL_LLL_LL_LL__law09_Same_1 := (EnvOk.withX E0_ok x_law09_Same_1.1 x_law09_Same_1.2)
noncomputable def cb_slices_EqualFunc_LLL_LLL_LL_LL__law09_Same_1 : Code := codeOf Tryd.f54
def slices_EqualFunc_LLL_LLL_LL_LL__law09_Same_1_1 (x0 : (List (List (List Int)))) (x1 : (List (List (List Int)))) : Nat → Int → Option ((Unit) ⊕ (Bool))
 | 0, _ => none
 | f + 1, c2 =>
  if (decide (c2 < (x0.length : Int))) = true then
  (idx x0 c2).bind fun v4 =>
  (idx x1 c2).bind fun v5 =>
  (law09_Same_1 v4 v5).bind fun v6 =>
  if (!v6) = true then
  some (.inr false)
  else
  slices_EqualFunc_LLL_LLL_LL_LL__law09_Same_1_1 x0 x1 f (wr .i64 (c2 + 1))
  else
  some (.inl ())
def slices_EqualFunc_LLL_LLL_LL_LL__law09_Same_1 (x0 : (List (List (List Int)))) (x1 : (List (List (List Int)))) : Option (Bool) :=
 if ((x0.length : Int) != (x1.length : Int)) = true then
 some false
 else
 (slices_EqualFunc_LLL_LLL_LL_LL__law09_Same_1_1 x0 x1 100000 0).bind fun r9 =>
 match r9 with
 | (.inl w10) =>
  some true
 | (.inr w11) =>
  some w11
def er_slices_EqualFunc_LLL_LLL_LL_LL__law09_Same_1 (r : Bool) : AV := cdB.enc r
set_option maxHeartbeats 4000000 in
set_option maxRecDepth 100000 in
theorem slices_EqualFunc_LLL_LLL_LL_LL__law09_Same_1_1_ok (x0 : (List (List (List Int)))) (x1 : (List (List (List Int)))) : ∀ (f : Nat) (c2 : Int) (r : (Unit) ⊕ (Bool)), slices_EqualFunc_LLL_LLL_LL_LL__law09_Same_1_1 x0 x1 f c2 = some r → SemN e_slices_EqualFunc_LLL_LLL_LL_LL__law09_Same_1 ⟨none, false⟩ (pc cb_slices_EqualFunc_LLL_LLL_LL_LL__law09_Same_1 [1, 1, 0, 1, 0, 0]) f ⟨Fr 32 [(1, .sl 1 (x1.map (cdL 1 (cdL 1 cdI)).enc)), (2, .fn 55 [] []), (15, .sl 1 (x0.map (cdL 1 (cdL 1 cdI)).enc)), (16, .v (.int .i64 (x0.length : Int))), (17, .v (.int .i64 c2))], []⟩ (fun e s => match r with
 | (.inl w) => e = (.exit 0) ∧ Wk e_slices_EqualFunc_LLL_LLL_LL_LL__law09_Same_1 s ⟨Fr 32 [], []⟩
 | (.inr w) => e = .ret ∧ Wk e_slices_EqualFunc_LLL_LLL_LL_LL__law09_Same_1 s ⟨Fr 32 [(6, .v (.bool w))], []⟩) := by
 have he := e_slices_EqualFunc_LLL_LLL_LL_LL__law09_Same_1_ok
 intro f
 induction f with
 | zero => intro c2 r h; cases h
 | succ f ih0 =>
  intro c2 r h
  have ih := fun (c2 : Int) => ih0 c2 r
  unfold slices_EqualFunc_LLL_LLL_LL_LL__law09_Same_1_1 at h
  refine SemN.succ ?_
  let p1 : Nat × AV := (17, .v (.int .i64 c2))
  let p2 : Nat × AV := (16, .v (.int .i64 (x0.length : Int)))
  let p3 : Nat × AV := (15, .sl 1 (x0.map (cdL 1 (cdL 1 cdI)).enc))
  let p4 : Nat × AV := (2, .fn 55 [] [])
  let p5 : Nat × AV := (1, .sl 1 (x1.map (cdL 1 (cdL 1 cdI)).enc))
  refine Sem.sq he [p5, p4, p3, p2, p1, (18, .v (.bool (decide (c2 < (x0.length : Int)))))] [] ?_
  refine Sem.seq ?_
  refine Sem.cond (b := (decide (c2 < (x0.length : Int)))) kr (fun hb3 => ?_) (fun hb3 => ?_)
  ·rw [if_pos hb3] at h
   refine Sem.skip ?_
   refine Sem.seq ?_
   refine Sem.block ?_
   refine Sem.seq ?_
   obtain ⟨v4, hv4, h⟩ := Option.bind_eq_some_iff.1 h
   let p6 : Nat × AV := (8, .sl 1 (v4.map (cdL 1 cdI).enc))
   refine Sem.runS (s1 := ⟨Fr 32 [p5, p4, (7, .v (.int .i64 c2)), p6, p3, p2, p1], []⟩) ?_ ?_
   ·refine RunS.segF (n := 32) he 1 [p5, p4, p3, p2, p1, (19, .v (.int .i64 c2))] [] kr ?_
    refine RunS.one he 0 rfl (op_q (wantedA_none rfl) rfl (q_indexAddr (a := .sl 1 (x0.map (cdL 1 (cdL 1 cdI)).enc)) (b := .v (.int .i64 c2)) kr kr (ix_sl (e := (cdL 1 (cdL 1 cdI)).enc) (el := 50) (k := 1) (ki := .i64) kr kr hv4))) ?_
    exact RunS.last he
   refine Sem.seq ?_
   obtain ⟨v5, hv5, h⟩ := Option.bind_eq_some_iff.1 h
   refine Sem.runS (s1 := ⟨Fr 32 [p5, p4, p6, (9, .sl 1 (v5.map (cdL 1 cdI).enc)), p3, p2, p1], []⟩) ?_ ?_
   ·refine RunS.segF (n := 32) he 2 [p5, p4, p6, p3, p2, p1, (22, .sl 1 (x1.map (cdL 1 (cdL 1 cdI)).enc)), (23, .v (.int .i64 c2))] [] kr ?_
    refine RunS.one he 0 rfl (op_q (wantedA_none rfl) rfl (q_indexAddr (a := .sl 1 (x1.map (cdL 1 (cdL 1 cdI)).enc)) (b := .v (.int .i64 c2)) kr kr (ix_sl (e := (cdL 1 (cdL 1 cdI)).enc) (el := 50) (k := 1) (ki := .i64) kr kr hv5))) ?_
    exact RunS.last he
   refine Sem.seq ?_
   obtain ⟨v6, hv6, h⟩ := Option.bind_eq_some_iff.1 h
   refine Sem.runS (s1 := ⟨Fr 32 [p5, p4, p3, p2, p1, (30, .v (.bool (!v6)))], []⟩) ?_ ?_
   ·refine RunS.segF (n := 32) he 3 [p5, p4, p3, p2, p1, (26, .fn 55 [] []), (27, .sl 1 (v4.map (cdL 1 cdI).enc)), (28, .sl 1 (v5.map (cdL 1 cdI).enc))] [] kr ?_
    refine RunS.call he (fid := 55) (s := cs_law09_Same_1) (F := fun a => law09_Same_1 a.1 a.2.1) (er := er_law09_Same_1) (xs := [.sl 1 (v4.map (cdL 1 cdI).enc), .sl 1 (v5.map (cdL 1 cdI).enc)]) (a := (v4, v5, ())) rfl (wantedA_none rfl) kr kr kr kr (Sns.cons (Sn.enc (c := (cdL 1 (cdL 1 cdI))) (v := v4)) (Sns.cons (Sn.enc (c := (cdL 1 (cdL 1 cdI))) (v := v5)) Sns.nil)) (.inl kr) hv6 ?_
    exact RunS.last he
   refine Sem.cond (b := (!v6)) kr (fun hb7 => ?_) (fun hb7 => ?_)
   ·rw [if_pos hb7] at h
    refine Sem.sq he [(6, .v (.bool false))] [] ?_
    refine Sem.ret ?_
    have hq := Option.some.inj h; subst hq
    exact ⟨rfl, (Wk.fr kr)⟩
   ·rw [if_f hb7] at h
    refine Sem.skip ?_
    let p7 : Nat × AV := (17, .v (.int .i64 (wr .i64 (c2 + 1))))
    refine Sem.rg he [p5, p4, p3, p2, p7] [] ?_
    exact SemN.wk (s1 := ⟨Fr 32 [p5, p4, p3, p2, p7], []⟩) (Wk.fr kr) (ih (wr .i64 (c2 + 1)) h)
  ·rw [if_f hb3] at h
   refine Sem.exit ?_
   have hq := Option.some.inj h; subst hq
   exact ⟨rfl, (Wk.fr kr)⟩
set_option maxHeartbeats 4000000 in
set_option maxRecDepth 100000 in
theorem slices_EqualFunc_LLL_LLL_LL_LL__law09_Same_1_sem (x0 : (List (List (List Int)))) (x1 : (List (List (List Int)))) (r : Bool) (h : slices_EqualFunc_LLL_LLL_LL_LL__law09_Same_1 x0 x1 = some r) : Sem e_slices_EqualFunc_LLL_LLL_LL_LL__law09_Same_1 ⟨none, false⟩ cb_slices_EqualFunc_LLL_LLL_LL_LL__law09_Same_1 ⟨Fr 32 (pairs0 0 [.sl 1 (x0.map (cdL 1 (cdL 1 cdI)).enc), .sl 1 (x1.map (cdL 1 (cdL 1 cdI)).enc), .fn 55 [] []]), []⟩ fun e s' => (e = .normal ∨ e = .ret) ∧ ∃ xs, resA e_slices_EqualFunc_LLL_LLL_LL_LL__law09_Same_1.P s'.fr s'.hp Tryd.f54.results.toList = some xs ∧ (retA xs = er_slices_EqualFunc_LLL_LLL_LL_LL__law09_Same_1 r ∧ s'.hp = []) := by
 have he := e_slices_EqualFunc_LLL_LLL_LL_LL__law09_Same_1_ok
 unfold slices_EqualFunc_LLL_LLL_LL_LL__law09_Same_1 at h
 let p1 : Nat × AV := (2, .fn 55 [] [])
 let p2 : Nat × AV := (1, .sl 1 (x1.map (cdL 1 (cdL 1 cdI)).enc))
 let p3 : Nat × AV := (0, .sl 1 (x0.map (cdL 1 (cdL 1 cdI)).enc))
 refine Sem.wkQ (Sem.wk (s1 := ⟨Fr 32 [p3, p2, p1], []⟩) (Wk.fr kr) ?_)
 refine Sem.sq he [p3, p2, p1] [] ?_
 refine Sem.seq ?_
 refine Sem.seq ?_
 refine Sem.runS (s1 := ⟨Fr 32 [p3, p2, p1, (14, .v (.bool ((x0.length : Int) != (x1.length : Int))))], []⟩) ?_ ?_
 ·refine RunS.segF (n := 32) he 1 [p3, p2, p1, (10, .sl 1 (x0.map (cdL 1 (cdL 1 cdI)).enc))] [] kr ?_
  refine RunS.one he 0 rfl (op_q (wantedA_none rfl) rfl (q_len (a := .sl 1 (x0.map (cdL 1 (cdL 1 cdI)).enc)) kr (len_sl (el := 50) kr))) ?_
  refine RunS.segF (n := 32) he 1 [p3, p2, p1, (11, .v (.int .i64 (x0.length : Int))), (12, .sl 1 (x1.map (cdL 1 (cdL 1 cdI)).enc))] [] kr ?_
  refine RunS.one he 0 rfl (op_q (wantedA_none rfl) rfl (q_len (a := .sl 1 (x1.map (cdL 1 (cdL 1 cdI)).enc)) kr (len_sl (el := 50) kr))) ?_
  exact RunS.last he
 refine Sem.cond (b := ((x0.length : Int) != (x1.length : Int))) kr (fun hb1 => ?_) (fun hb1 => ?_)
 ·rw [if_pos hb1] at h
  refine Sem.sq he [(6, .v (.bool false))] [] ?_
  refine Sem.ret ?_
  have hq := Option.some.inj h; subst hq
  exact ⟨⟨Fr 32 [(6, .v (.bool false))], []⟩, (Wk.fr kr), .inr rfl, [.v (.bool false)], kr, ⟨kr, rfl⟩⟩
 ·rw [if_f hb1] at h
  refine Sem.skip ?_
  refine Sem.seq ?_
  refine Sem.seq ?_
  let p4 : Nat × AV := (17, .v (.int .i64 0))
  let p5 : Nat × AV := (16, .v (.int .i64 (x0.length : Int)))
  let p6 : Nat × AV := (15, .sl 1 (x0.map (cdL 1 (cdL 1 cdI)).enc))
  refine Sem.runS (s1 := ⟨Fr 32 [p2, p1, p6, p5, p4], []⟩) ?_ ?_
  ·refine RunS.segF (n := 32) he 1 [p2, p1, p6] [] kr ?_
   refine RunS.one he 0 rfl (op_q (wantedA_none rfl) rfl (q_len (a := .sl 1 (x0.map (cdL 1 (cdL 1 cdI)).enc)) kr (len_sl (el := 50) kr))) ?_
   exact RunS.last he
  refine Sem.block ?_
  obtain ⟨r9, hr9, h⟩ := Option.bind_eq_some_iff.1 h
  refine Sem.loop (n := 100000) ?_
  rcases r9 with w10 | w11
  ·try dsimp only at h
   refine Sem.cutN (SemN.wk (s1 := ⟨Fr 32 [p2, p1, p6, p5, p4], []⟩) (Wk.fr kr) (slices_EqualFunc_LLL_LLL_LL_LL__law09_Same_1_1_ok x0 x1 _ 0 _ hr9)) ?_
   refine Sem.sq he [(6, .v (.bool true))] [] ?_
   refine Sem.ret ?_
   have hq := Option.some.inj h; subst hq
   exact ⟨⟨Fr 32 [(6, .v (.bool true))], []⟩, (Wk.fr kr), .inr rfl, [.v (.bool true)], kr, ⟨kr, rfl⟩⟩
  ·try dsimp only at h
   refine Sem.cutN (SemN.wk (s1 := ⟨Fr 32 [p2, p1, p6, p5, p4], []⟩) (Wk.fr kr) (slices_EqualFunc_LLL_LLL_LL_LL__law09_Same_1_1_ok x0 x1 _ 0 _ hr9)) ?_
   have hq := Option.some.inj h; subst hq
   exact ⟨⟨Fr 32 [(6, .v (.bool w11))], []⟩, (Wk.fr kr), .inr rfl, [.v (.bool w11)], kr, ⟨kr, rfl⟩⟩
theorem s_slices_EqualFunc_LLL_LLL_LL_LL__law09_Same_1 (x0 : (List (List (List Int)))) (x1 : (List (List (List Int)))) (r : Bool) (h : slices_EqualFunc_LLL_LLL_LL_LL__law09_Same_1 x0 x1 = some r) : SOk 54 [.sl 1 (x0.map (cdL 1 (cdL 1 cdI)).enc), .sl 1 (x1.map (cdL 1 (cdL 1 cdI)).enc), .fn 55 [] []] (fun x h' => x = er_slices_EqualFunc_LLL_LLL_LL_LL__law09_Same_1 r ∧ h' = []) :=
 sok_of_sem e_slices_EqualFunc_LLL_LLL_LL_LL__law09_Same_1_ok rfl rfl (fn := Tryd.f54) (c := cb_slices_EqualFunc_LLL_LLL_LL_LL__law09_Same_1) kr kr ⟨Tryd.call54⟩ (by show 3 ≤ 32; decide) (slices_EqualFunc_LLL_LLL_LL_LL__law09_Same_1_sem x0 x1 r h)
/- trestle/trestlelaw09.Same -/
noncomputable def e_law09_Same : Env := E0
theorem e_law09_Same_ok : EnvOk e_law09_Same := E0_ok
noncomputable def cb_law09_Same : Code := codeOf Tryd.f18
def law09_Same (x0 : (List (List (List Int)))) (x1 : (List (List (List Int)))) : Option (Bool) :=
 (slices_EqualFunc_LLL_LLL_LL_LL__law09_Same_1 x0 x1).bind fun v1 =>
 some v1
def cs_law09_Same : Cs ((List (List (List Int))) × (List (List (List Int))) × Unit) := (csC (cdL 1 (cdL 1 (cdL 1 cdI))) (csC (cdL 1 (cdL 1 (cdL 1 cdI))) csN))
def er_law09_Same (r : Bool) : AV := cdB.enc r
set_option maxHeartbeats 4000000 in
set_option maxRecDepth 100000 in
theorem law09_Same_sem (x0 : (List (List (List Int)))) (x1 : (List (List (List Int)))) (r : Bool) (h : law09_Same x0 x1 = some r) : Sem e_law09_Same ⟨none, false⟩ cb_law09_Same ⟨Fr 8 (pairs0 0 (cs_law09_Same.enc (x0, x1, ()))), []⟩ fun e s' => (e = .normal ∨ e = .ret) ∧ ∃ xs, resA e_law09_Same.P s'.fr s'.hp Tryd.f18.results.toList = some xs ∧ retA xs = er_law09_Same r := by
 have he := e_law09_Same_ok
 unfold law09_Same at h
 let p1 : Nat × AV := (1, .sl 1 (x1.map (cdL 1 (cdL 1 cdI)).enc))
 let p2 : Nat × AV := (0, .sl 1 (x0.map (cdL 1 (cdL 1 cdI)).enc))
 refine Sem.wkQ (Sem.wk (s1 := ⟨Fr 8 [p2, p1], []⟩) (Wk.fr kr) ?_)
 refine Sem.sq he [p2, p1] [] ?_
 refine Sem.seq ?_
 obtain ⟨v1, hv1, h⟩ := Option.bind_eq_some_iff.1 h
 refine Sem.runS (s1 := ⟨Fr 8 [(4, .v (.bool v1))], []⟩) ?_ ?_
 ·refine RunS.segF (n := 8) he 2 [(5, .sl 1 (x0.map (cdL 1 (cdL 1 cdI)).enc)), (6, .sl 1 (x1.map (cdL 1 (cdL 1 cdI)).enc))] [] kr ?_
  refine RunS.callS rfl rfl (s_slices_EqualFunc_LLL_LLL_LL_LL__law09_Same_1 x0 x1 _ hv1) rfl (wantedA_none rfl) kr (xs := [.sl 1 (x0.map (cdL 1 (cdL 1 cdI)).enc), .sl 1 (x1.map (cdL 1 (cdL 1 cdI)).enc), .fn 55 [] []]) kr kr (by rintro x h' ⟨rfl, rfl⟩; exact ⟨rfl, rfl⟩) ?_
  rintro x h' ⟨rfl, rfl⟩
  exact RunS.last he
 refine Sem.ret ?_
 have hq := Option.some.inj h; subst hq
 exact ⟨⟨Fr 8 [(4, .v (.bool v1))], []⟩, (Wk.fr kr), .inr rfl, [.v (.bool v1)], kr, kr⟩
def t_law09_Same : List AV → Option AV := told cs_law09_Same (fun a => law09_Same a.1 a.2.1) er_law09_Same
theorem x_law09_Same : XOk 18 t_law09_Same := by
 refine EnvOk.x (E := e_law09_Same) (contract_ok e_law09_Same_ok (fn := Tryd.f18) (c := cb_law09_Same) ?h1 ?h2 ⟨Tryd.call18⟩ cs_law09_Same (fun a => law09_Same a.1 a.2.1) er_law09_Same (fun a => (by show 2 ≤ 8; decide)) ?h3 ?h4) rfl rfl
 case h1 => kernel_rfl
 case h2 => kernel_rfl
 case h3 => intro b; kernel_rfl
 case h4 => exact fun a b h => law09_Same_sem a.1 a.2.1 b h
/- trestle/trestlelaw09.designed -/
noncomputable def e_law09_designed : Env := (((((((((E0.withX 44 t_evening_Pairs).withX 57 t_ref09_Pairs).withX 58 t_evening_Rings).withX 59 t_ref09_Rings).withX 60 t_evening_Net).withX 61 t_ref09_Net).withX 45 t_evening_Plane).withX 62 t_ref09_Plane).withX 18 t_law09_Same)
theorem e_law09_designed_ok : EnvOk e_law09_designed := (EnvOk.withX (EnvOk.withX (EnvOk.withX (EnvOk.withX (EnvOk.withX (EnvOk.withX (EnvOk.withX (EnvOk.withX (EnvOk.withX E0_ok x_evening_Pairs.1 x_evening_Pairs.2) x_ref09_Pairs.1 x_ref09_Pairs.2) x_evening_Rings.1 x_evening_Rings.2) x_ref09_Rings.1 x_ref09_Rings.2) x_evening_Net.1 x_evening_Net.2) x_ref09_Net.1 x_ref09_Net.2) x_evening_Plane.1 x_evening_Plane.2) x_ref09_Plane.1 x_ref09_Plane.2) x_law09_Same.1 x_law09_Same.2)
noncomputable def cb_law09_designed : Code := codeOf Tryd.f66
def law09_designed (x0 : Int) (x1 : Int) : Option (Bool) :=
 (evening_Pairs x0).bind fun v1 =>
 (ref09_Pairs x0).bind fun v2 =>
 (evening_Rings x0).bind fun v3 =>
 (ref09_Rings x0).bind fun v4 =>
 (evening_Net x1 x0).bind fun v5 =>
 (ref09_Net x1 x0).bind fun v6 =>
 (evening_Plane x1).bind fun v7 =>
 (ref09_Plane x1).bind fun v8 =>
 (law09_Same v1.1 v2.1).bind fun v9 =>
 (if v9 = true then (law09_Same v3.1 v4.1).bind fun v10 =>
 if v10 = true then (law09_Same v5.1 v6.1).bind fun v11 =>
 if v11 = true then (law09_Same v7.1 v8.1).bind fun v12 =>
 some v12 else some false else some false else some false).bind fun j13 =>
 some j13
set_option maxHeartbeats 4000000 in
set_option maxRecDepth 100000 in
theorem law09_designed_sem {L : List Asn} {hp : Hp} (x0 : Int) (x1 : Int) (r : Bool) (h : law09_designed x0 x1 = some r) (hT : T hp (L)) : SemY e_law09_designed ⟨none, false⟩ cb_law09_designed ⟨Fr 81 (pairs0 0 [.v (.int .i64 x0), .v (.int .i64 x1)]), hp⟩ fun x s' => (x = .normal ∨ x = .ret) ∧ ∃ ys, resA e_law09_designed.P s'.fr s'.hp Tryd.f66.results.toList = some ys ∧ (fun v h' => v = .v (.bool r) ∧ T h' (L)) (retA ys) s'.hp := by
 have he := e_law09_designed_ok
 unfold law09_designed at h
 let p1 : Nat × AV := (1, .v (.int .i64 x1))
 let p2 : Nat × AV := (0, .v (.int .i64 x0))
 refine SemY.wkQ (SemY.wk (s1 := ⟨Fr 81 [p2, p1], hp⟩) (WkY.fr kr) ?_)
 refine SemY.sq he [p2, p1] ?_
 refine SemY.seq ?_
 refine SemY.regionL ?_
 refine RunL.sg he 1 ?_
 obtain ⟨v1, hv1, h⟩ := Option.bind_eq_some_iff.1 h
 refine RunL.call he (fid := 44) (b := v1) (s := cs_evening_Pairs) (F := fun a => evening_Pairs a.1) (er := er_evening_Pairs) (xs := [.v (.int .i64 x0)]) (a := (x0, ())) rfl (wantedA_none rfl) kr kr kr kr (Sns.cons (Sn.enc (c := cdI) (v := x0)) Sns.nil) (.inl kr) hv1 ?_
 let p3 : Nat × AV := (5, .sl 1 (v1.1.map (cdL 1 (cdL 1 cdI)).enc))
 refine RunL.fin he [p2, p1, p3] ?_
 refine SemY.seq ?_
 refine SemY.regionL ?_
 refine RunL.sg he 1 ?_
 obtain ⟨v2, hv2, h⟩ := Option.bind_eq_some_iff.1 h
 refine RunL.call he (fid := 57) (b := v2) (s := cs_ref09_Pairs) (F := fun a => ref09_Pairs a.1) (er := er_ref09_Pairs) (xs := [.v (.int .i64 x0)]) (a := (x0, ())) rfl (wantedA_none rfl) kr kr kr kr (Sns.cons (Sn.enc (c := cdI) (v := x0)) Sns.nil) (.inl kr) hv2 ?_
 let p4 : Nat × AV := (7, .sl 1 (v2.1.map (cdL 1 (cdL 1 cdI)).enc))
 refine RunL.fin he [p2, p1, p3, p4] ?_
 refine SemY.seq ?_
 refine SemY.regionL ?_
 refine RunL.sg he 1 ?_
 obtain ⟨v3, hv3, h⟩ := Option.bind_eq_some_iff.1 h
 refine RunL.call he (fid := 58) (b := v3) (s := cs_evening_Rings) (F := fun a => evening_Rings a.1) (er := er_evening_Rings) (xs := [.v (.int .i64 x0)]) (a := (x0, ())) rfl (wantedA_none rfl) kr kr kr kr (Sns.cons (Sn.enc (c := cdI) (v := x0)) Sns.nil) (.inl kr) hv3 ?_
 let p5 : Nat × AV := (9, .sl 1 (v3.1.map (cdL 1 (cdL 1 cdI)).enc))
 refine RunL.fin he [p2, p1, p3, p4, p5] ?_
 refine SemY.seq ?_
 refine SemY.regionL ?_
 refine RunL.sg he 1 ?_
 obtain ⟨v4, hv4, h⟩ := Option.bind_eq_some_iff.1 h
 refine RunL.call he (fid := 59) (b := v4) (s := cs_ref09_Rings) (F := fun a => ref09_Rings a.1) (er := er_ref09_Rings) (xs := [.v (.int .i64 x0)]) (a := (x0, ())) rfl (wantedA_none rfl) kr kr kr kr (Sns.cons (Sn.enc (c := cdI) (v := x0)) Sns.nil) (.inl kr) hv4 ?_
 let p6 : Nat × AV := (11, .sl 1 (v4.1.map (cdL 1 (cdL 1 cdI)).enc))
 refine RunL.fin he [p2, p1, p3, p4, p5, p6] ?_
 refine SemY.seq ?_
 refine SemY.regionL ?_
 refine RunL.sg he 2 ?_
 obtain ⟨v5, hv5, h⟩ := Option.bind_eq_some_iff.1 h
 refine RunL.call he (fid := 60) (b := v5) (s := cs_evening_Net) (F := fun a => evening_Net a.1 a.2.1) (er := er_evening_Net) (xs := [.v (.int .i64 x1), .v (.int .i64 x0)]) (a := (x1, x0, ())) rfl (wantedA_none rfl) kr kr kr kr (Sns.cons (Sn.enc (c := cdI) (v := x1)) (Sns.cons (Sn.enc (c := cdI) (v := x0)) Sns.nil)) (.inl kr) hv5 ?_
 let p7 : Nat × AV := (13, .sl 1 (v5.1.map (cdL 1 (cdL 1 cdI)).enc))
 refine RunL.fin he [p2, p1, p3, p4, p5, p6, p7] ?_
 refine SemY.seq ?_
 refine SemY.regionL ?_
 refine RunL.sg he 2 ?_
 obtain ⟨v6, hv6, h⟩ := Option.bind_eq_some_iff.1 h
 refine RunL.call he (fid := 61) (b := v6) (s := cs_ref09_Net) (F := fun a => ref09_Net a.1 a.2.1) (er := er_ref09_Net) (xs := [.v (.int .i64 x1), .v (.int .i64 x0)]) (a := (x1, x0, ())) rfl (wantedA_none rfl) kr kr kr kr (Sns.cons (Sn.enc (c := cdI) (v := x1)) (Sns.cons (Sn.enc (c := cdI) (v := x0)) Sns.nil)) (.inl kr) hv6 ?_
 let p8 : Nat × AV := (15, .sl 1 (v6.1.map (cdL 1 (cdL 1 cdI)).enc))
 refine RunL.fin he [p1, p3, p4, p5, p6, p7, p8] ?_
 refine SemY.seq ?_
 refine SemY.regionL ?_
 refine RunL.sg he 1 ?_
 obtain ⟨v7, hv7, h⟩ := Option.bind_eq_some_iff.1 h
 refine RunL.call he (fid := 45) (b := v7) (s := cs_evening_Plane) (F := fun a => evening_Plane a.1) (er := er_evening_Plane) (xs := [.v (.int .i64 x1)]) (a := (x1, ())) rfl (wantedA_none rfl) kr kr kr kr (Sns.cons (Sn.enc (c := cdI) (v := x1)) Sns.nil) (.inl kr) hv7 ?_
 let p9 : Nat × AV := (17, .sl 1 (v7.1.map (cdL 1 (cdL 1 cdI)).enc))
 refine RunL.fin he [p1, p3, p4, p5, p6, p7, p8, p9] ?_
 refine SemY.seq ?_
 refine SemY.regionL ?_
 refine RunL.sg he 1 ?_
 obtain ⟨v8, hv8, h⟩ := Option.bind_eq_some_iff.1 h
 refine RunL.call he (fid := 62) (b := v8) (s := cs_ref09_Plane) (F := fun a => ref09_Plane a.1) (er := er_ref09_Plane) (xs := [.v (.int .i64 x1)]) (a := (x1, ())) rfl (wantedA_none rfl) kr kr kr kr (Sns.cons (Sn.enc (c := cdI) (v := x1)) Sns.nil) (.inl kr) hv8 ?_
 let p10 : Nat × AV := (19, .sl 1 (v8.1.map (cdL 1 (cdL 1 cdI)).enc))
 refine RunL.fin he [p3, p4, p5, p6, p7, p8, p9, p10] ?_
 refine SemY.seq ?_
 obtain ⟨v9, hv9, h⟩ := Option.bind_eq_some_iff.1 h
 obtain ⟨j13, hj13, h⟩ := Option.bind_eq_some_iff.1 h
 refine SemY.regT (A := fun s1 => ∃ (h' : Hp), T h' (L) ∧ s1 = ⟨Fr 81 [(4, .v (.bool j13))], h'⟩) ?_ ?_
 ·refine RunL.sg he 2 ?_
  refine RunL.call he (fid := 18) (b := v9) (s := cs_law09_Same) (F := fun a => law09_Same a.1 a.2.1) (er := er_law09_Same) (xs := [.sl 1 (v1.1.map (cdL 1 (cdL 1 cdI)).enc), .sl 1 (v2.1.map (cdL 1 (cdL 1 cdI)).enc)]) (a := (v1.1, v2.1, ())) rfl (wantedA_none rfl) kr kr kr kr (Sns.cons (Sn.enc (c := (cdL 1 (cdL 1 (cdL 1 cdI)))) (v := v1.1)) (Sns.cons (Sn.enc (c := (cdL 1 (cdL 1 (cdL 1 cdI)))) (v := v2.1)) Sns.nil)) (.inl kr) hv9 ?_
  refine RunL.segF (n := 81) he 1 [p5, p6, p7, p8, p9, p10, (66, .v (.bool v9))] hp kr ?_
  rcases Bool.eq_false_or_eq_true v9 with hc17 | hc17
  ·rw [if_pos hc17] at hj13
   rw [hc17]
   refine RunL.sg he 2 ?_
   obtain ⟨v10, hv10, hj13⟩ := Option.bind_eq_some_iff.1 hj13
   refine RunL.call he (fid := 18) (b := v10) (s := cs_law09_Same) (F := fun a => law09_Same a.1 a.2.1) (er := er_law09_Same) (xs := [.sl 1 (v3.1.map (cdL 1 (cdL 1 cdI)).enc), .sl 1 (v4.1.map (cdL 1 (cdL 1 cdI)).enc)]) (a := (v3.1, v4.1, ())) rfl kr kr kr kr kr (Sns.cons (Sn.enc (c := (cdL 1 (cdL 1 (cdL 1 cdI)))) (v := v3.1)) (Sns.cons (Sn.enc (c := (cdL 1 (cdL 1 (cdL 1 cdI)))) (v := v4.1)) Sns.nil)) (.inl kr) hv10 ?_
   refine RunL.segF (n := 81) he 2 [p7, p8, p9, p10, (71, .v (.bool v10))] hp kr ?_
   rcases Bool.eq_false_or_eq_true v10 with hc18 | hc18
   ·rw [if_pos hc18] at hj13
    rw [hc18]
    refine RunL.sg he 2 ?_
    obtain ⟨v11, hv11, hj13⟩ := Option.bind_eq_some_iff.1 hj13
    refine RunL.call he (fid := 18) (b := v11) (s := cs_law09_Same) (F := fun a => law09_Same a.1 a.2.1) (er := er_law09_Same) (xs := [.sl 1 (v5.1.map (cdL 1 (cdL 1 cdI)).enc), .sl 1 (v6.1.map (cdL 1 (cdL 1 cdI)).enc)]) (a := (v5.1, v6.1, ())) rfl kr kr kr kr kr (Sns.cons (Sn.enc (c := (cdL 1 (cdL 1 (cdL 1 cdI)))) (v := v5.1)) (Sns.cons (Sn.enc (c := (cdL 1 (cdL 1 (cdL 1 cdI)))) (v := v6.1)) Sns.nil)) (.inl kr) hv11 ?_
    refine RunL.segF (n := 81) he 2 [p9, p10, (76, .v (.bool v11))] hp kr ?_
    rcases Bool.eq_false_or_eq_true v11 with hc19 | hc19
    ·rw [if_pos hc19] at hj13
     rw [hc19]
     refine RunL.sg he 2 ?_
     obtain ⟨v12, hv12, hj13⟩ := Option.bind_eq_some_iff.1 hj13
     refine RunL.call he (fid := 18) (b := v12) (s := cs_law09_Same) (F := fun a => law09_Same a.1 a.2.1) (er := er_law09_Same) (xs := [.sl 1 (v7.1.map (cdL 1 (cdL 1 cdI)).enc), .sl 1 (v8.1.map (cdL 1 (cdL 1 cdI)).enc)]) (a := (v7.1, v8.1, ())) rfl kr kr kr kr kr (Sns.cons (Sn.enc (c := (cdL 1 (cdL 1 (cdL 1 cdI)))) (v := v7.1)) (Sns.cons (Sn.enc (c := (cdL 1 (cdL 1 (cdL 1 cdI)))) (v := v8.1)) Sns.nil)) (.inl kr) hv12 ?_
     refine RunL.sg he 2 ?_
     have hq := Option.some.inj hj13; subst hq
     exact RunL.done rfl ⟨_, ⟨hp, hT, rfl⟩, (WkY.fr kr)⟩
    ·rw [if_f hc19] at hj13
     rw [hc19]
     refine RunL.sg he 5 ?_
     have hq := Option.some.inj hj13; subst hq
     exact RunL.done rfl ⟨_, ⟨hp, hT, rfl⟩, (WkY.fr kr)⟩
   ·rw [if_f hc18] at hj13
    rw [hc18]
    refine RunL.sg he 10 ?_
    have hq := Option.some.inj hj13; subst hq
    exact RunL.done rfl ⟨_, ⟨hp, hT, rfl⟩, (WkY.fr kr)⟩
  ·rw [if_f hc17] at hj13
   rw [hc17]
   refine RunL.sg he 15 ?_
   have hq := Option.some.inj hj13; subst hq
   exact RunL.done rfl ⟨_, ⟨hp, hT, rfl⟩, (WkY.fr kr)⟩
 rintro _ ⟨hp15, hT16, rfl⟩
 refine SemY.ret ?_
 have hq := Option.some.inj h; subst hq
 exact ⟨⟨Fr 81 [(4, .v (.bool j13))], hp15⟩, (WkY.fr kr), .inr rfl, [.v (.bool j13)], kr, ⟨rfl, hT16⟩⟩
def cs_law09_designed : Cs (Int × Int × Unit) := (csC cdI (csC cdI csN))
def er_law09_designed (r : Bool) : AV := cdB.enc r
def t_law09_designed : List AV → Option AV := told cs_law09_designed (fun a => law09_designed a.1 a.2.1) er_law09_designed
theorem x_law09_designed : XOk 66 t_law09_designed := by
 refine EnvOk.x (E := e_law09_designed) (contract_ok e_law09_designed_ok (fn := Tryd.f66) (c := cb_law09_designed) ?h1 ?h2 ⟨Tryd.call66⟩ cs_law09_designed (fun a => law09_designed a.1 a.2.1) er_law09_designed (fun a => (by show 2 ≤ 81; decide)) ?h3 ?h4) rfl rfl
 case h1 => kernel_rfl
 case h2 => kernel_rfl
 case h3 => intro b; kernel_rfl
 case h4 =>
  intro a b h
  refine Sem.mono (Sem.ofY (law09_designed_sem (L := []) (hp := []) a.1 a.2.1 b h T.nil)) fun e s' hs => ?_
  obtain ⟨h1, ys, h2, h3, -⟩ := hs
  exact ⟨h1, ys, h2, h3⟩
/- trestle/trestlelaw09.spoil -/
noncomputable def e_law09_spoil_d : Env := E0
theorem e_law09_spoil_d_ok : EnvOk e_law09_spoil_d := E0_ok
noncomputable def cb_law09_spoil_d : Code := codeOf Tryd.f65
def law09_spoil_d_3 (c8 : Int) (c9 : (List (List Int))) (v11 : (List Int)) : Nat → Int → (List Int) → Option (((List (List Int))))
 | 0, _, _ => none
 | f + 1, c16, c17 =>
  if (decide (c16 < (v11.length : Int))) = true then
  (idx c17 c16).bind fun v19 =>
  (idx c17 c16).bind fun _v20 =>
  law09_spoil_d_3 c8 c9 v11 f (wr .i64 (c16 + 1)) (c17.set c16.toNat (xorI .i64 v19 1))
  else
  some (c9.set c8.toNat c17)
def law09_spoil_d_2 (c1 : Int) (c2 : (List (List (List Int)))) (v4 : (List (List Int))) : Nat → Int → (List (List Int)) → Option (((List (List (List Int)))))
 | 0, _, _ => none
 | f + 1, c8, c9 =>
  if (decide (c8 < (v4.length : Int))) = true then
  (idx c9 c8).bind fun v11 =>
  (law09_spoil_d_3 c8 c9 v11 100000 0 v11).bind fun r28 =>
  law09_spoil_d_2 c1 c2 v4 f (wr .i64 (c8 + 1)) r28
  else
  some (c2.set c1.toNat c9)
def law09_spoil_d_1 (x0 : (List (List (List Int)))) : Nat → Int → (List (List (List Int))) → Option (((List (List (List Int)))))
 | 0, _, _ => none
 | f + 1, c1, c2 =>
  if (decide (c1 < (x0.length : Int))) = true then
  (idx c2 c1).bind fun v4 =>
  (law09_spoil_d_2 c1 c2 v4 100000 0 v4).bind fun r37 =>
  law09_spoil_d_1 x0 f (wr .i64 (c1 + 1)) r37
  else
  some c2
def law09_spoil_d (x0 : (List (List (List Int)))) : Option ((List (List (List Int)))) :=
 (law09_spoil_d_1 x0 100000 0 x0).bind fun r41 =>
 some r41
set_option maxHeartbeats 4000000 in
set_option maxRecDepth 100000 in
theorem law09_spoil_d_3_ok {L : List Asn} (c8 : Int) (c9 : (List (List Int))) (v11 : (List Int)) (u0 : AV) (x0 : (List (List (List Int)))) (c1 : Int) (c2 : (List (List (List Int)))) (v4 : (List (List Int))) (e5 : AV) (e13 : AV) : ∀ (f : Nat) (c16 : Int) (c17 : (List Int)) (r : ((List (List Int)))), law09_spoil_d_3 c8 c9 v11 f c16 c17 = some r → ∀ (hp : Hp), T hp ((own_ (ocL 1 3 (ocV cdI)) e13 c17) :: (hole 1 31 (ocL 1 3 (ocV cdI)) e5 c9 c8.toNat e13 v11) :: (hole 1 50 (ocL 1 31 (ocL 1 3 (ocV cdI))) u0 c2 c1.toNat e5 v4) :: L) → SemYN e_law09_spoil_d ⟨none, false⟩ (pc cb_law09_spoil_d [1, 0, 0, 1, 1, 0, 0, 1, 1, 0, 0, 1, 1, 0, 0, 1, 1, 0, 0]) f ⟨Fr 33 [(5, e13), (7, u0), (8, .v (.int .i64 (x0.length : Int))), (9, .v (.int .i64 c1)), (13, e5), (14, .v (.int .i64 (v4.length : Int))), (15, .v (.int .i64 c8)), (20, .v (.int .i64 (v11.length : Int))), (21, .v (.int .i64 c16))], hp⟩ (fun e s => e = (.exit 4) ∧ ∃ s2, (∃ (h' : Hp), T h' ((hole 1 50 (ocL 1 31 (ocL 1 3 (ocV cdI))) u0 c2 c1.toNat e5 v4) :: (own_ (ocL 1 31 (ocL 1 3 (ocV cdI))) e5 r) :: L) ∧ s2 = ⟨Fr 33 [(7, u0), (8, .v (.int .i64 (x0.length : Int))), (9, .v (.int .i64 c1)), (13, e5), (14, .v (.int .i64 (v4.length : Int))), (15, .v (.int .i64 c8))], h'⟩) ∧ WkY e_law09_spoil_d s s2) := by
 have he := e_law09_spoil_d_ok
 intro f
 induction f with
 | zero => intro c16 c17 r h; cases h
 | succ f ih0 =>
  intro c16 c17 r h  hp hT
  unfold law09_spoil_d_3 at h
  refine SemYN.succ ?_
  let p1 : Nat × AV := (21, .v (.int .i64 c16))
  let p2 : Nat × AV := (20, .v (.int .i64 (v11.length : Int)))
  let p3 : Nat × AV := (15, .v (.int .i64 c8))
  let p4 : Nat × AV := (14, .v (.int .i64 (v4.length : Int)))
  let p5 : Nat × AV := (9, .v (.int .i64 c1))
  let p6 : Nat × AV := (8, .v (.int .i64 (x0.length : Int)))
  refine SemY.sq he [(5, e13), (7, u0), p6, p5, (13, e5), p4, p3, p2, p1, (22, .v (.bool (decide (c16 < (v11.length : Int)))))] ?_
  refine SemY.seq ?_
  refine SemY.cond (b := (decide (c16 < (v11.length : Int)))) kr (fun hb18 => ?_) (fun hb18 => ?_)
  ·rw [if_pos hb18] at h
   refine SemY.skip ?_
   refine SemY.seq ?_
   refine SemY.block ?_
   refine SemY.sq he [(5, e13), (6, .v (.int .i64 c16)), (7, u0), p6, p5, (13, e5), p4, p3, p2, p1] ?_
   refine SemY.regionL ?_
   refine RunL.sg he 2 ?_
   obtain ⟨v19, hv19, h⟩ := Option.bind_eq_some_iff.1 h
   refine RunL.one he 0 rfl (op_q (wantedA_none rfl) rfl (q_indexAddr (a := e13) (b := .v (.int .i64 c16)) kr kr (ix_B (bytes := 8) hT kr hv19))) ?_
   refine RunL.one he 0 rfl (op_q (wantedA_none rfl) rfl (q_load (p := eAt e13 c16.toNat) kr (ld_own0 (y := .v (.int .i64 v19)) (m := 1) (g := false) hT (idx_at hv19).2 kr kr kr))) ?_
   refine RunL.sg he 1 ?_
   obtain ⟨v20, hv20, h⟩ := Option.bind_eq_some_iff.1 h
   refine RunL.one he 0 rfl (op_q (wantedA_none rfl) rfl (q_indexAddr (a := e13) (b := .v (.int .i64 c16)) kr kr (ix_B (bytes := 8) hT kr hv20))) ?_
   obtain ⟨hp21, hs22, hT23⟩ := st_own0 (P := Tryd.prog) (ty := 3) (y := .v (.int .i64 (xorI .i64 v19 1))) (v' := (xorI .i64 v19 1)) hT (idx_at hv20).2 kr kr kr
   refine RunL.store he (y := eAt e13 c16.toNat) (z := .v (.int .i64 (xorI .i64 v19 1))) rfl (wantedA_none rfl) kr kr hs22 ?_
   refine RunL.done rfl (SemY.fr (l' := [(5, e13), (7, u0), p6, p5, (13, e5), p4, p3, p2, p1]) kr ?_)
   refine SemY.regionL ?_
   refine RunL.sg he 2 ?_
   refine RunL.done rfl ?_
   exact SemYN.wk (WkY.fr kr) (ih0 (wr .i64 (c16 + 1)) (c17.set c16.toNat (xorI .i64 v19 1)) _ h  hp21 hT23)
  ·rw [if_f hb18] at h
   refine SemY.exit ?_
   have hq := Option.some.inj h; subst hq
   have hT26 := (T.merge hT)
   have hT27 := (hT26.front 1 rfl)
   exact ⟨rfl, _, ⟨hp, hT27, rfl⟩, (WkY.fr kr)⟩
set_option maxHeartbeats 4000000 in
set_option maxRecDepth 100000 in
theorem law09_spoil_d_2_ok {L : List Asn} (c1 : Int) (c2 : (List (List (List Int)))) (v4 : (List (List Int))) (u0 : AV) (x0 : (List (List (List Int)))) (e5 : AV) : ∀ (f : Nat) (c8 : Int) (c9 : (List (List Int))) (r : ((List (List (List Int))))), law09_spoil_d_2 c1 c2 v4 f c8 c9 = some r → ∀ (hp : Hp), T hp ((hole 1 50 (ocL 1 31 (ocL 1 3 (ocV cdI))) u0 c2 c1.toNat e5 v4) :: (own_ (ocL 1 31 (ocL 1 3 (ocV cdI))) e5 c9) :: L) → SemYN e_law09_spoil_d ⟨none, false⟩ (pc cb_law09_spoil_d [1, 0, 0, 1, 1, 0, 0, 1, 1, 0, 0]) f ⟨Fr 33 [(7, u0), (8, .v (.int .i64 (x0.length : Int))), (9, .v (.int .i64 c1)), (13, e5), (14, .v (.int .i64 (v4.length : Int))), (15, .v (.int .i64 c8))], hp⟩ (fun e s => e = (.exit 2) ∧ ∃ s2, (∃ (h' : Hp), T h' ((own_ (ocL 1 50 (ocL 1 31 (ocL 1 3 (ocV cdI)))) u0 r) :: L) ∧ s2 = ⟨Fr 33 [(7, u0), (8, .v (.int .i64 (x0.length : Int))), (9, .v (.int .i64 c1))], h'⟩) ∧ WkY e_law09_spoil_d s s2) := by
 have he := e_law09_spoil_d_ok
 intro f
 induction f with
 | zero => intro c8 c9 r h; cases h
 | succ f ih0 =>
  intro c8 c9 r h  hp hT
  unfold law09_spoil_d_2 at h
  refine SemYN.succ ?_
  let p1 : Nat × AV := (15, .v (.int .i64 c8))
  let p2 : Nat × AV := (14, .v (.int .i64 (v4.length : Int)))
  let p3 : Nat × AV := (9, .v (.int .i64 c1))
  let p4 : Nat × AV := (8, .v (.int .i64 (x0.length : Int)))
  refine SemY.sq he [(7, u0), p4, p3, (13, e5), p2, p1, (16, .v (.bool (decide (c8 < (v4.length : Int)))))] ?_
  refine SemY.seq ?_
  refine SemY.cond (b := (decide (c8 < (v4.length : Int)))) kr (fun hb10 => ?_) (fun hb10 => ?_)
  ·rw [if_pos hb10] at h
   refine SemY.skip ?_
   refine SemY.seq ?_
   refine SemY.block ?_
   refine SemY.seq ?_
   refine SemY.regionL ?_
   obtain ⟨v11, hv11, h⟩ := Option.bind_eq_some_iff.1 h
   have hT12 := (hT.front 1 rfl)
   refine RunL.one he 0 rfl (op_q (wantedA_none rfl) rfl (q_indexAddr (a := e5) (b := .v (.int .i64 c8)) kr kr (ix_B (bytes := 24) hT12 kr hv11))) ?_
   obtain ⟨e13, hl14, hT15⟩ := ld_child (P := Tryd.prog) (ty := 31) hT12 (idx_at hv11).2 kr kr
   refine RunL.one he 0 rfl (op_q (wantedA_none rfl) rfl (q_load (p := eAt e5 c8.toNat) kr hl14)) ?_
   refine RunL.fin he [(5, e13), (7, u0), p4, p3, (13, e5), p2, p1] ?_
   refine SemY.seq ?_
   refine SemY.regionL ?_
   refine RunL.sg he 1 ?_
   refine RunL.one he 0 rfl (op_q (wantedA_none rfl) rfl (q_len (a := e13) kr (len_B hT15 kr))) ?_
   refine RunL.fin he [(5, e13), (7, u0), p4, p3, (13, e5), p2, p1, (20, .v (.int .i64 (v11.length : Int))), (21, .v (.int .i64 0))] ?_
   refine SemY.block ?_
   refine SemY.loop (n := 100000) ?_
   obtain ⟨r28, hr28, h⟩ := Option.bind_eq_some_iff.1 h
   refine SemYN.cutT (SemYN.wk (WkY.fr kr) (law09_spoil_d_3_ok c8 c9 v11 u0 x0 c1 c2 v4 e5 e13 _ 0 v11 _ hr28  hp hT15)) ?_
   rintro _ ⟨hp29, hT30, rfl⟩
   refine SemY.regionL ?_
   refine RunL.sg he 2 ?_
   refine RunL.done rfl ?_
   exact SemYN.wk (WkY.fr kr) (ih0 (wr .i64 (c8 + 1)) r28 _ h  hp29 hT30)
  ·rw [if_f hb10] at h
   refine SemY.exit ?_
   have hq := Option.some.inj h; subst hq
   have hT34 := ((hT.front 0 rfl).front 1 rfl)
   have hT35 := (T.merge hT34)
   exact ⟨rfl, _, ⟨hp, hT35, rfl⟩, (WkY.fr kr)⟩
set_option maxHeartbeats 4000000 in
set_option maxRecDepth 100000 in
theorem law09_spoil_d_1_ok {L : List Asn} (x0 : (List (List (List Int)))) (u0 : AV) : ∀ (f : Nat) (c1 : Int) (c2 : (List (List (List Int)))) (r : ((List (List (List Int))))), law09_spoil_d_1 x0 f c1 c2 = some r → ∀ (hp : Hp), T hp ((own_ (ocL 1 50 (ocL 1 31 (ocL 1 3 (ocV cdI)))) u0 c2) :: L) → SemYN e_law09_spoil_d ⟨none, false⟩ (pc cb_law09_spoil_d [1, 0, 0]) f ⟨Fr 33 [(7, u0), (8, .v (.int .i64 (x0.length : Int))), (9, .v (.int .i64 c1))], hp⟩ (fun e s => e = (.exit 0) ∧ ∃ s2, (∃ (h' : Hp), T h' ((own_ (ocL 1 50 (ocL 1 31 (ocL 1 3 (ocV cdI)))) u0 r) :: L) ∧ s2 = ⟨Fr 33 [], h'⟩) ∧ WkY e_law09_spoil_d s s2) := by
 have he := e_law09_spoil_d_ok
 intro f
 induction f with
 | zero => intro c1 c2 r h; cases h
 | succ f ih0 =>
  intro c1 c2 r h  hp hT
  unfold law09_spoil_d_1 at h
  refine SemYN.succ ?_
  let p1 : Nat × AV := (9, .v (.int .i64 c1))
  let p2 : Nat × AV := (8, .v (.int .i64 (x0.length : Int)))
  refine SemY.sq he [(7, u0), p2, p1, (10, .v (.bool (decide (c1 < (x0.length : Int)))))] ?_
  refine SemY.seq ?_
  refine SemY.cond (b := (decide (c1 < (x0.length : Int)))) kr (fun hb3 => ?_) (fun hb3 => ?_)
  ·rw [if_pos hb3] at h
   refine SemY.skip ?_
   refine SemY.seq ?_
   refine SemY.block ?_
   refine SemY.seq ?_
   refine SemY.regionL ?_
   obtain ⟨v4, hv4, h⟩ := Option.bind_eq_some_iff.1 h
   refine RunL.one he 0 rfl (op_q (wantedA_none rfl) rfl (q_indexAddr (a := u0) (b := .v (.int .i64 c1)) kr kr (ix_B (bytes := 24) hT kr hv4))) ?_
   obtain ⟨e5, hl6, hT7⟩ := ld_child (P := Tryd.prog) (ty := 50) hT (idx_at hv4).2 kr kr
   refine RunL.one he 0 rfl (op_q (wantedA_none rfl) rfl (q_load (p := eAt u0 c1.toNat) kr hl6)) ?_
   refine RunL.fin he [(3, e5), (7, u0), p2, p1] ?_
   refine SemY.seq ?_
   refine SemY.regionL ?_
   refine RunL.sg he 1 ?_
   refine RunL.one he 0 rfl (op_q (wantedA_none rfl) rfl (q_len (a := e5) kr (len_B hT7 kr))) ?_
   refine RunL.fin he [(7, u0), p2, p1, (13, e5), (14, .v (.int .i64 (v4.length : Int))), (15, .v (.int .i64 0))] ?_
   refine SemY.block ?_
   have hT36 := (hT7.front 1 rfl)
   refine SemY.loop (n := 100000) ?_
   obtain ⟨r37, hr37, h⟩ := Option.bind_eq_some_iff.1 h
   refine SemYN.cutT (SemYN.wk (WkY.fr kr) (law09_spoil_d_2_ok c1 c2 v4 u0 x0 e5 _ 0 v4 _ hr37  hp hT36)) ?_
   rintro _ ⟨hp38, hT39, rfl⟩
   refine SemY.regionL ?_
   refine RunL.sg he 2 ?_
   refine RunL.done rfl ?_
   exact SemYN.wk (WkY.fr kr) (ih0 (wr .i64 (c1 + 1)) r37 _ h  hp38 hT39)
  ·rw [if_f hb3] at h
   refine SemY.exit ?_
   have hq := Option.some.inj h; subst hq
   exact ⟨rfl, _, ⟨hp, hT, rfl⟩, (WkY.fr kr)⟩
set_option maxHeartbeats 4000000 in
set_option maxRecDepth 100000 in
theorem law09_spoil_d_sem {L : List Asn} {hp : Hp} (u0 : AV) (x0 : (List (List (List Int)))) (r : (List (List (List Int)))) (h : law09_spoil_d x0 = some r) (hT : T hp ((own_ (ocL 1 50 (ocL 1 31 (ocL 1 3 (ocV cdI)))) u0 x0) :: L)) : SemY e_law09_spoil_d ⟨none, false⟩ cb_law09_spoil_d ⟨Fr 33 (pairs0 0 [u0]), hp⟩ fun x s' => (x = .normal ∨ x = .ret) ∧ ∃ ys, resA e_law09_spoil_d.P s'.fr s'.hp Tryd.f65.results.toList = some ys ∧ (fun v h' => v = .tp [] ∧ T h' ((own_ (ocL 1 50 (ocL 1 31 (ocL 1 3 (ocV cdI)))) u0 r) :: L)) (retA ys) s'.hp := by
 have he := e_law09_spoil_d_ok
 unfold law09_spoil_d at h
 refine SemY.wkQ (SemY.wk (s1 := ⟨Fr 33 [(0, u0)], hp⟩) (WkY.fr kr) ?_)
 refine SemY.seq ?_
 refine SemY.regionL ?_
 refine RunL.sg he 1 ?_
 refine RunL.one he 0 rfl (op_q (wantedA_none rfl) rfl (q_len (a := u0) kr (len_B hT kr))) ?_
 refine RunL.fin he [(7, u0), (8, .v (.int .i64 (x0.length : Int))), (9, .v (.int .i64 0))] ?_
 refine SemY.block ?_
 refine SemY.loop (n := 100000) ?_
 obtain ⟨r41, hr41, h⟩ := Option.bind_eq_some_iff.1 h
 refine SemYN.cutT (SemYN.wk (WkY.fr kr) (law09_spoil_d_1_ok x0 u0 _ 0 x0 _ hr41  hp hT)) ?_
 rintro _ ⟨hp42, hT43, rfl⟩
 have hq := Option.some.inj h; subst hq
 exact ⟨⟨Fr 33 [], hp42⟩, (WkY.fr kr), .inl rfl, [], kr, ⟨rfl, hT43⟩⟩
/- trestle/trestlelaw09.designs -/
noncomputable def e_law09_designs : Env := ((((((((E0.withX 57 t_ref09_Pairs).withX 59 t_ref09_Rings).withX 61 t_ref09_Net).withX 62 t_ref09_Plane).withX 63 t_evening_Design).withX 64 t_ref09_Design).withX 66 t_law09_designed).withX 18 t_law09_Same)
theorem e_law09_designs_ok : EnvOk e_law09_designs := (EnvOk.withX (EnvOk.withX (EnvOk.withX (EnvOk.withX (EnvOk.withX (EnvOk.withX (EnvOk.withX (EnvOk.withX E0_ok x_ref09_Pairs.1 x_ref09_Pairs.2) x_ref09_Rings.1 x_ref09_Rings.2) x_ref09_Net.1 x_ref09_Net.2) x_ref09_Plane.1 x_ref09_Plane.2) x_evening_Design.1 x_evening_Design.2) x_ref09_Design.1 x_ref09_Design.2) x_law09_designed.1 x_law09_designed.2) x_law09_Same.1 x_law09_Same.2)
noncomputable def cb_law09_designs : Code := codeOf Tryd.f19
def law09_designs_1 (v1 : Int × (List (List (List Int)))) (v6 : Int × (List (List (List Int)))) (v11 : Int × (List (List (List Int)))) (v16 : Int × (List (List (List Int)))) : Nat → Int → (List (List (List (List Int)))) → Option ((Unit))
 | 0, _, _ => none
 | f + 1, c31, c32 =>
  if (decide (c31 < (([v1.2, v6.2, v11.2, v16.2] : List (List (List (List Int)))).length : Int))) = true then
  (idx c32 c31).bind fun v34 =>
  (law09_spoil_d v34).bind fun v38 =>
  law09_designs_1 v1 v6 v11 v16 f (wr .i64 (c31 + 1)) (c32.set c31.toNat v38)
  else
  some ()
def law09_designs (x0 : Int) (x1 : Int) (x2 : Int) : Option (Bool) :=
 (evening_Pairs_d x0).bind fun v1 =>
 (ref09_Pairs x0).bind fun v5 =>
 (evening_Rings_d x0).bind fun v6 =>
 (ref09_Rings x0).bind fun v10 =>
 (evening_Net_d x1 x0).bind fun v11 =>
 (ref09_Net x1 x0).bind fun v15 =>
 (evening_Plane_d x1).bind fun v16 =>
 (ref09_Plane x1).bind fun v20 =>
 (evening_Design x0 x1 x2).bind fun v21 =>
 (ref09_Design x0 x1 x2).bind fun v22 =>
 (law09_designs_1 v1 v6 v11 v16 100000 0 ([v1.2, v6.2, v11.2, v16.2] : List (List (List (List Int))))).bind fun _r43 =>
 (law09_designed x0 x1).bind fun v46 =>
 (if v46 = true then if (v1.1 == v5.2) = true then if (v6.1 == v10.2) = true then if (v11.1 == v15.2) = true then if (v16.1 == v20.2) = true then if (v21.2 == v22.2) = true then if ((v1.2.length : Int) == (v5.1.length : Int)) = true then if ((v6.2.length : Int) == (v10.1.length : Int)) = true then if ((v11.2.length : Int) == (v15.1.length : Int)) = true then if ((v16.2.length : Int) == (v20.1.length : Int)) = true then (law09_Same v21.1 v22.1).bind fun v47 =>
 some v47 else some false else some false else some false else some false else some false else some false else some false else some false else some false else some false).bind fun j48 =>
 some j48
set_option maxHeartbeats 4000000 in
set_option maxRecDepth 100000 in
theorem law09_designs_1_ok {L : List Asn} (v1 : Int × (List (List (List Int)))) (v6 : Int × (List (List (List Int)))) (v11 : Int × (List (List (List Int)))) (v16 : Int × (List (List (List Int)))) (x0 : Int) (x1 : Int) (e2 : AV) (v5 : (List (List (List Int))) × Int) (e7 : AV) (v10 : (List (List (List Int))) × Int) (e12 : AV) (v15 : (List (List (List Int))) × Int) (e17 : AV) (v20 : (List (List (List Int))) × Int) (v21 : (List (List (List Int))) × Int) (v22 : (List (List (List Int))) × Int) (e26 : AV) : ∀ (f : Nat) (c31 : Int) (c32 : (List (List (List (List Int))))) (r : (Unit)), law09_designs_1 v1 v6 v11 v16 f c31 c32 = some r → ∀ (hp : Hp), T hp ((own_ (ocL 1 22 (ocL 1 50 (ocL 1 31 (ocL 1 3 (ocV cdI))))) e26 c32) :: L) → SemYN e_law09_designs ⟨none, false⟩ (pc cb_law09_designs [1, 1, 1, 1, 1, 1, 1, 1, 1, 1, 1, 0, 1, 0, 0]) f ⟨Fr 159 [(0, .v (.int .i64 x0)), (1, .v (.int .i64 x1)), (7, e2), (8, .v (.int .i64 v1.1)), (9, .sl 1 (v5.1.map (cdL 1 (cdL 1 cdI)).enc)), (10, .v (.int .i64 v5.2)), (11, e7), (12, .v (.int .i64 v6.1)), (13, .sl 1 (v10.1.map (cdL 1 (cdL 1 cdI)).enc)), (14, .v (.int .i64 v10.2)), (15, e12), (16, .v (.int .i64 v11.1)), (17, .sl 1 (v15.1.map (cdL 1 (cdL 1 cdI)).enc)), (18, .v (.int .i64 v15.2)), (19, e17), (20, .v (.int .i64 v16.1)), (21, .sl 1 (v20.1.map (cdL 1 (cdL 1 cdI)).enc)), (22, .v (.int .i64 v20.2)), (23, .sl 1 (v21.1.map (cdL 1 (cdL 1 cdI)).enc)), (24, .v (.int .i64 v21.2)), (25, .sl 1 (v22.1.map (cdL 1 (cdL 1 cdI)).enc)), (26, .v (.int .i64 v22.2)), (89, e26), (90, .v (.int .i64 (([v1.2, v6.2, v11.2, v16.2] : List (List (List (List Int)))).length : Int))), (91, .v (.int .i64 c31))], hp⟩ (fun e s => e = (.exit 0) ∧ ∃ s2, (∃ (h' : Hp), T h' (L) ∧ s2 = ⟨Fr 159 [(0, .v (.int .i64 x0)), (1, .v (.int .i64 x1)), (7, e2), (8, .v (.int .i64 v1.1)), (9, .sl 1 (v5.1.map (cdL 1 (cdL 1 cdI)).enc)), (10, .v (.int .i64 v5.2)), (11, e7), (12, .v (.int .i64 v6.1)), (13, .sl 1 (v10.1.map (cdL 1 (cdL 1 cdI)).enc)), (14, .v (.int .i64 v10.2)), (15, e12), (16, .v (.int .i64 v11.1)), (17, .sl 1 (v15.1.map (cdL 1 (cdL 1 cdI)).enc)), (18, .v (.int .i64 v15.2)), (19, e17), (20, .v (.int .i64 v16.1)), (21, .sl 1 (v20.1.map (cdL 1 (cdL 1 cdI)).enc)), (22, .v (.int .i64 v20.2)), (23, .sl 1 (v21.1.map (cdL 1 (cdL 1 cdI)).enc)), (24, .v (.int .i64 v21.2)), (25, .sl 1 (v22.1.map (cdL 1 (cdL 1 cdI)).enc)), (26, .v (.int .i64 v22.2))], h'⟩) ∧ WkY e_law09_designs s s2) := by
 have he := e_law09_designs_ok
 intro f
 induction f with
 | zero => intro c31 c32 r h; cases h
 | succ f ih0 =>
  intro c31 c32 r h  hp hT
  unfold law09_designs_1 at h
  refine SemYN.succ ?_
  let p1 : Nat × AV := (91, .v (.int .i64 c31))
  let p2 : Nat × AV := (90, .v (.int .i64 (([v1.2, v6.2, v11.2, v16.2] : List (List (List (List Int)))).length : Int)))
  let p3 : Nat × AV := (26, .v (.int .i64 v22.2))
  let p4 : Nat × AV := (25, .sl 1 (v22.1.map (cdL 1 (cdL 1 cdI)).enc))
  let p5 : Nat × AV := (24, .v (.int .i64 v21.2))
  let p6 : Nat × AV := (23, .sl 1 (v21.1.map (cdL 1 (cdL 1 cdI)).enc))
  let p7 : Nat × AV := (22, .v (.int .i64 v20.2))
  let p8 : Nat × AV := (21, .sl 1 (v20.1.map (cdL 1 (cdL 1 cdI)).enc))
  let p9 : Nat × AV := (20, .v (.int .i64 v16.1))
  let p10 : Nat × AV := (18, .v (.int .i64 v15.2))
  let p11 : Nat × AV := (17, .sl 1 (v15.1.map (cdL 1 (cdL 1 cdI)).enc))
  let p12 : Nat × AV := (16, .v (.int .i64 v11.1))
  let p13 : Nat × AV := (14, .v (.int .i64 v10.2))
  let p14 : Nat × AV := (13, .sl 1 (v10.1.map (cdL 1 (cdL 1 cdI)).enc))
  let p15 : Nat × AV := (12, .v (.int .i64 v6.1))
  let p16 : Nat × AV := (10, .v (.int .i64 v5.2))
  let p17 : Nat × AV := (9, .sl 1 (v5.1.map (cdL 1 (cdL 1 cdI)).enc))
  let p18 : Nat × AV := (8, .v (.int .i64 v1.1))
  let p19 : Nat × AV := (1, .v (.int .i64 x1))
  let p20 : Nat × AV := (0, .v (.int .i64 x0))
  refine SemY.sq he [p20, p19, (7, e2), p18, p17, p16, (11, e7), p15, p14, p13, (15, e12), p12, p11, p10, (19, e17), p9, p8, p7, p6, p5, p4, p3, (89, e26), p2, p1, (92, .v (.bool (decide (c31 < (([v1.2, v6.2, v11.2, v16.2] : List (List (List (List Int)))).length : Int)))))] ?_
  refine SemY.seq ?_
  refine SemY.cond (b := (decide (c31 < (([v1.2, v6.2, v11.2, v16.2] : List (List (List (List Int)))).length : Int)))) kr (fun hb33 => ?_) (fun hb33 => ?_)
  ·rw [if_pos hb33] at h
   refine SemY.skip ?_
   refine SemY.seq ?_
   refine SemY.block ?_
   refine SemY.seq ?_
   refine SemY.regionL ?_
   obtain ⟨v34, hv34, h⟩ := Option.bind_eq_some_iff.1 h
   refine RunL.one he 0 rfl (op_q (wantedA_none rfl) rfl (q_indexAddr (a := e26) (b := .v (.int .i64 c31)) kr kr (ix_B (bytes := 24) hT kr hv34))) ?_
   obtain ⟨e35, hl36, hT37⟩ := ld_child (P := Tryd.prog) (ty := 22) hT (idx_at hv34).2 kr kr
   refine RunL.one he 0 rfl (op_q (wantedA_none rfl) rfl (q_load (p := eAt e26 c31.toNat) kr hl36)) ?_
   refine RunL.fin he [p20, p19, (7, e2), p18, p17, p16, (11, e7), p15, p14, p13, (15, e12), p12, p11, p10, (19, e17), p9, p8, p7, p6, p5, p4, p3, (28, e35), (89, e26), p2, p1] ?_
   refine SemY.regionL ?_
   refine RunL.sg he 1 ?_
   obtain ⟨v38, hv38, h⟩ := Option.bind_eq_some_iff.1 h
   refine RunL.inlT (E := e_law09_designs) (e := e_law09_spoil_d) rfl rfl e_law09_spoil_d_ok rfl rfl (fid := 65) (caps := []) (xs := [e35]) (fn := Tryd.f65) (c := cb_law09_spoil_d) (Out := fun v h' => v = .tp [] ∧ T h' ((own_ (ocL 1 50 (ocL 1 31 (ocL 1 3 (ocV cdI)))) e35 v38) :: (hole 1 22 (ocL 1 50 (ocL 1 31 (ocL 1 3 (ocV cdI)))) e26 c32 c31.toNat e35 v34) :: L)) rfl (wantedA_none rfl) kr kr kr kr (by show 1 ≤ 33; decide) (law09_spoil_d_sem e35 v34 _ hv38 hT37) ?_
   rintro xx hp39 ⟨hqhp39, hT40⟩; subst xx
   refine RunL.done rfl (SemY.fr (l' := [p20, p19, (7, e2), p18, p17, p16, (11, e7), p15, p14, p13, (15, e12), p12, p11, p10, (19, e17), p9, p8, p7, p6, p5, p4, p3, (89, e26), p2, p1]) kr ?_)
   refine SemY.regionL ?_
   refine RunL.sg he 2 ?_
   refine RunL.done rfl ?_
   have hT41 := (T.merge hT40)
   exact SemYN.wk (WkY.fr kr) (ih0 (wr .i64 (c31 + 1)) (c32.set c31.toNat v38) _ h  hp39 hT41)
  ·rw [if_f hb33] at h
   refine SemY.exit ?_
   have hq := Option.some.inj h; subst hq
   have hT42 := hT.drop
   exact ⟨rfl, _, ⟨hp, hT42, rfl⟩, (WkY.fr kr)⟩
set_option maxHeartbeats 4000000 in
set_option maxRecDepth 100000 in
theorem law09_designs_sem {L : List Asn} {hp : Hp} (x0 : Int) (x1 : Int) (x2 : Int) (r : Bool) (h : law09_designs x0 x1 x2 = some r) (hT : T hp (L)) : SemY e_law09_designs ⟨none, false⟩ cb_law09_designs ⟨Fr 159 (pairs0 0 [.v (.int .i64 x0), .v (.int .i64 x1), .v (.int .i64 x2)]), hp⟩ fun x s' => (x = .normal ∨ x = .ret) ∧ ∃ ys, resA e_law09_designs.P s'.fr s'.hp Tryd.f19.results.toList = some ys ∧ (fun v h' => v = .v (.bool r) ∧ T h' (L)) (retA ys) s'.hp := by
 have he := e_law09_designs_ok
 unfold law09_designs at h
 let p1 : Nat × AV := (2, .v (.int .i64 x2))
 let p2 : Nat × AV := (1, .v (.int .i64 x1))
 let p3 : Nat × AV := (0, .v (.int .i64 x0))
 refine SemY.wkQ (SemY.wk (s1 := ⟨Fr 159 [p3, p2, p1], hp⟩) (WkY.fr kr) ?_)
 refine SemY.sq he [p3, p2, p1] ?_
 refine SemY.seq ?_
 refine SemY.regionL ?_
 refine RunL.sg he 1 ?_
 obtain ⟨v1, hv1, h⟩ := Option.bind_eq_some_iff.1 h
 refine RunL.inlT (E := e_law09_designs) (e := e_evening_Pairs_d) rfl rfl e_evening_Pairs_d_ok rfl rfl (fid := 44) (caps := []) (xs := [.v (.int .i64 x0)]) (fn := Tryd.f44) (c := cb_evening_Pairs_d) (Out := fun v h' => ∃ (z0 : AV), v = .tp [z0, .v (.int .i64 v1.1)] ∧ T h' ((own_ (ocL 1 50 (ocL 1 31 (ocL 1 3 (ocV cdI)))) z0 v1.2) :: L)) rfl (wantedA_none rfl) kr kr kr kr (by show 1 ≤ 66; decide) (evening_Pairs_d_sem x0 _ hv1 hT) ?_
 rintro xx hp3 ⟨e2, hqhp3, hT4⟩; subst xx
 let p4 : Nat × AV := (8, .v (.int .i64 v1.1))
 refine RunL.fin he [p3, p2, p1, (7, e2), p4] ?_
 refine SemY.seq ?_
 refine SemY.regionL ?_
 refine RunL.sg he 1 ?_
 obtain ⟨v5, hv5, h⟩ := Option.bind_eq_some_iff.1 h
 refine RunL.call he (fid := 57) (b := v5) (s := cs_ref09_Pairs) (F := fun a => ref09_Pairs a.1) (er := er_ref09_Pairs) (xs := [.v (.int .i64 x0)]) (a := (x0, ())) rfl (wantedA_none rfl) kr kr kr kr (Sns.cons (Sn.enc (c := cdI) (v := x0)) Sns.nil) (.inl kr) hv5 ?_
 let p5 : Nat × AV := (10, .v (.int .i64 v5.2))
 let p6 : Nat × AV := (9, .sl 1 (v5.1.map (cdL 1 (cdL 1 cdI)).enc))
 refine RunL.fin he [p3, p2, p1, (7, e2), p4, p6, p5] ?_
 refine SemY.seq ?_
 refine SemY.regionL ?_
 refine RunL.sg he 1 ?_
 obtain ⟨v6, hv6, h⟩ := Option.bind_eq_some_iff.1 h
 refine RunL.inlT (E := e_law09_designs) (e := e_evening_Rings_d) rfl rfl e_evening_Rings_d_ok rfl rfl (fid := 58) (caps := []) (xs := [.v (.int .i64 x0)]) (fn := Tryd.f58) (c := cb_evening_Rings_d) (Out := fun v h' => ∃ (z0 : AV), v = .tp [z0, .v (.int .i64 v6.1)] ∧ T h' ((own_ (ocL 1 50 (ocL 1 31 (ocL 1 3 (ocV cdI)))) z0 v6.2) :: (own_ (ocL 1 50 (ocL 1 31 (ocL 1 3 (ocV cdI)))) e2 v1.2) :: L)) rfl (wantedA_none rfl) kr kr kr kr (by show 1 ≤ 66; decide) (evening_Rings_d_sem x0 _ hv6 hT4) ?_
 rintro xx hp8 ⟨e7, hqhp8, hT9⟩; subst xx
 let p7 : Nat × AV := (12, .v (.int .i64 v6.1))
 refine RunL.fin he [p3, p2, p1, (7, e2), p4, p6, p5, (11, e7), p7] ?_
 refine SemY.seq ?_
 refine SemY.regionL ?_
 refine RunL.sg he 1 ?_
 obtain ⟨v10, hv10, h⟩ := Option.bind_eq_some_iff.1 h
 refine RunL.call he (fid := 59) (b := v10) (s := cs_ref09_Rings) (F := fun a => ref09_Rings a.1) (er := er_ref09_Rings) (xs := [.v (.int .i64 x0)]) (a := (x0, ())) rfl (wantedA_none rfl) kr kr kr kr (Sns.cons (Sn.enc (c := cdI) (v := x0)) Sns.nil) (.inl kr) hv10 ?_
 let p8 : Nat × AV := (14, .v (.int .i64 v10.2))
 let p9 : Nat × AV := (13, .sl 1 (v10.1.map (cdL 1 (cdL 1 cdI)).enc))
 refine RunL.fin he [p3, p2, p1, (7, e2), p4, p6, p5, (11, e7), p7, p9, p8] ?_
 refine SemY.seq ?_
 refine SemY.regionL ?_
 refine RunL.sg he 2 ?_
 obtain ⟨v11, hv11, h⟩ := Option.bind_eq_some_iff.1 h
 refine RunL.inlT (E := e_law09_designs) (e := e_evening_Net_d) rfl rfl e_evening_Net_d_ok rfl rfl (fid := 60) (caps := []) (xs := [.v (.int .i64 x1), .v (.int .i64 x0)]) (fn := Tryd.f60) (c := cb_evening_Net_d) (Out := fun v h' => ∃ (z0 : AV), v = .tp [z0, .v (.int .i64 v11.1)] ∧ T h' ((own_ (ocL 1 50 (ocL 1 31 (ocL 1 3 (ocV cdI)))) z0 v11.2) :: (own_ (ocL 1 50 (ocL 1 31 (ocL 1 3 (ocV cdI)))) e7 v6.2) :: (own_ (ocL 1 50 (ocL 1 31 (ocL 1 3 (ocV cdI)))) e2 v1.2) :: L)) rfl (wantedA_none rfl) kr kr kr kr (by show 2 ≤ 74; decide) (evening_Net_d_sem x1 x0 _ hv11 hT9) ?_
 rintro xx hp13 ⟨e12, hqhp13, hT14⟩; subst xx
 let p10 : Nat × AV := (16, .v (.int .i64 v11.1))
 refine RunL.fin he [p3, p2, p1, (7, e2), p4, p6, p5, (11, e7), p7, p9, p8, (15, e12), p10] ?_
 refine SemY.seq ?_
 refine SemY.regionL ?_
 refine RunL.sg he 2 ?_
 obtain ⟨v15, hv15, h⟩ := Option.bind_eq_some_iff.1 h
 refine RunL.call he (fid := 61) (b := v15) (s := cs_ref09_Net) (F := fun a => ref09_Net a.1 a.2.1) (er := er_ref09_Net) (xs := [.v (.int .i64 x1), .v (.int .i64 x0)]) (a := (x1, x0, ())) rfl (wantedA_none rfl) kr kr kr kr (Sns.cons (Sn.enc (c := cdI) (v := x1)) (Sns.cons (Sn.enc (c := cdI) (v := x0)) Sns.nil)) (.inl kr) hv15 ?_
 let p11 : Nat × AV := (18, .v (.int .i64 v15.2))
 let p12 : Nat × AV := (17, .sl 1 (v15.1.map (cdL 1 (cdL 1 cdI)).enc))
 refine RunL.fin he [p3, p2, p1, (7, e2), p4, p6, p5, (11, e7), p7, p9, p8, (15, e12), p10, p12, p11] ?_
 refine SemY.seq ?_
 refine SemY.regionL ?_
 refine RunL.sg he 1 ?_
 obtain ⟨v16, hv16, h⟩ := Option.bind_eq_some_iff.1 h
 refine RunL.inlT (E := e_law09_designs) (e := e_evening_Plane_d) rfl rfl e_evening_Plane_d_ok rfl rfl (fid := 45) (caps := []) (xs := [.v (.int .i64 x1)]) (fn := Tryd.f45) (c := cb_evening_Plane_d) (Out := fun v h' => ∃ (z0 : AV), v = .tp [z0, .v (.int .i64 v16.1)] ∧ T h' ((own_ (ocL 1 50 (ocL 1 31 (ocL 1 3 (ocV cdI)))) z0 v16.2) :: (own_ (ocL 1 50 (ocL 1 31 (ocL 1 3 (ocV cdI)))) e12 v11.2) :: (own_ (ocL 1 50 (ocL 1 31 (ocL 1 3 (ocV cdI)))) e7 v6.2) :: (own_ (ocL 1 50 (ocL 1 31 (ocL 1 3 (ocV cdI)))) e2 v1.2) :: L)) rfl (wantedA_none rfl) kr kr kr kr (by show 1 ≤ 34; decide) (evening_Plane_d_sem x1 _ hv16 hT14) ?_
 rintro xx hp18 ⟨e17, hqhp18, hT19⟩; subst xx
 let p13 : Nat × AV := (20, .v (.int .i64 v16.1))
 refine RunL.fin he [p3, p2, p1, (7, e2), p4, p6, p5, (11, e7), p7, p9, p8, (15, e12), p10, p12, p11, (19, e17), p13] ?_
 refine SemY.seq ?_
 refine SemY.regionL ?_
 refine RunL.sg he 1 ?_
 obtain ⟨v20, hv20, h⟩ := Option.bind_eq_some_iff.1 h
 refine RunL.call he (fid := 62) (b := v20) (s := cs_ref09_Plane) (F := fun a => ref09_Plane a.1) (er := er_ref09_Plane) (xs := [.v (.int .i64 x1)]) (a := (x1, ())) rfl (wantedA_none rfl) kr kr kr kr (Sns.cons (Sn.enc (c := cdI) (v := x1)) Sns.nil) (.inl kr) hv20 ?_
 let p14 : Nat × AV := (22, .v (.int .i64 v20.2))
 let p15 : Nat × AV := (21, .sl 1 (v20.1.map (cdL 1 (cdL 1 cdI)).enc))
 refine RunL.fin he [p3, p2, p1, (7, e2), p4, p6, p5, (11, e7), p7, p9, p8, (15, e12), p10, p12, p11, (19, e17), p13, p15, p14] ?_
 refine SemY.seq ?_
 refine SemY.regionL ?_
 refine RunL.sg he 3 ?_
 obtain ⟨v21, hv21, h⟩ := Option.bind_eq_some_iff.1 h
 refine RunL.call he (fid := 63) (b := v21) (s := cs_evening_Design) (F := fun a => evening_Design a.1 a.2.1 a.2.2.1) (er := er_evening_Design) (xs := [.v (.int .i64 x0), .v (.int .i64 x1), .v (.int .i64 x2)]) (a := (x0, x1, x2, ())) rfl (wantedA_none rfl) kr kr kr kr (Sns.cons (Sn.enc (c := cdI) (v := x0)) (Sns.cons (Sn.enc (c := cdI) (v := x1)) (Sns.cons (Sn.enc (c := cdI) (v := x2)) Sns.nil))) (.inl kr) hv21 ?_
 let p16 : Nat × AV := (24, .v (.int .i64 v21.2))
 let p17 : Nat × AV := (23, .sl 1 (v21.1.map (cdL 1 (cdL 1 cdI)).enc))
 refine RunL.fin he [p3, p2, p1, (7, e2), p4, p6, p5, (11, e7), p7, p9, p8, (15, e12), p10, p12, p11, (19, e17), p13, p15, p14, p17, p16] ?_
 refine SemY.seq ?_
 refine SemY.regionL ?_
 refine RunL.sg he 3 ?_
 obtain ⟨v22, hv22, h⟩ := Option.bind_eq_some_iff.1 h
 refine RunL.call he (fid := 64) (b := v22) (s := cs_ref09_Design) (F := fun a => ref09_Design a.1 a.2.1 a.2.2.1) (er := er_ref09_Design) (xs := [.v (.int .i64 x0), .v (.int .i64 x1), .v (.int .i64 x2)]) (a := (x0, x1, x2, ())) rfl (wantedA_none rfl) kr kr kr kr (Sns.cons (Sn.enc (c := cdI) (v := x0)) (Sns.cons (Sn.enc (c := cdI) (v := x1)) (Sns.cons (Sn.enc (c := cdI) (v := x2)) Sns.nil))) (.inl kr) hv22 ?_
 let p18 : Nat × AV := (26, .v (.int .i64 v22.2))
 let p19 : Nat × AV := (25, .sl 1 (v22.1.map (cdL 1 (cdL 1 cdI)).enc))
 refine RunL.fin he [p3, p2, (7, e2), p4, p6, p5, (11, e7), p7, p9, p8, (15, e12), p10, p12, p11, (19, e17), p13, p15, p14, p17, p16, p19, p18] ?_
 refine SemY.seq ?_
 refine SemY.seq ?_
 refine SemY.regionL ?_
 refine RunL.sg he 4 ?_
 have hl27 : evLen Tryd.prog 22 e2 = some (eI v1.2.length) := len_B (hT19.front 3 rfl) kr
 have hl28 : evLen Tryd.prog 22 e7 = some (eI v6.2.length) := len_B (hT19.front 2 rfl) kr
 have hl29 : evLen Tryd.prog 22 e12 = some (eI v11.2.length) := len_B (hT19.front 1 rfl) kr
 have hl30 : evLen Tryd.prog 22 e17 = some (eI v16.2.length) := len_B hT19 kr
 obtain ⟨e26, hp23, hb24, hT25⟩ := lit_ownB (P := Tryd.prog) (bytes := 24) (k := 1) (t := 22) (ty := 89) (xs := ([v1.2, v6.2, v11.2, v16.2] : List (List (List (List Int))))) (n := 4) fit_L (els_cons ((els_cons ((els_cons ((els_cons ((els_nil (o := (ocL 1 50 (ocL 1 31 (ocL 1 3 (ocV cdI))))) hT19).front 1 rfl)).front 1 rfl)).front 1 rfl)).front 1 rfl)) rfl kr kr kr
 refine RunL.one he 0 rfl (op_n (wantedA_none rfl) rfl kr (n_lit (xs := enumA 0 [e2, e7, e12, e17]) kr hb24)) ?_
 refine RunL.one he 0 rfl (op_q (wantedA_none rfl) rfl (q_len (a := e26) kr (len_B hT25 kr))) ?_
 refine RunL.fin he [p3, p2, (7, e2), p4, p6, p5, (11, e7), p7, p9, p8, (15, e12), p10, p12, p11, (19, e17), p13, p15, p14, p17, p16, p19, p18, (89, e26), (90, .v (.int .i64 (([v1.2, v6.2, v11.2, v16.2] : List (List (List (List Int)))).length : Int))), (91, .v (.int .i64 0))] ?_
 refine SemY.block ?_
 refine SemY.loop (n := 100000) ?_
 obtain ⟨r43, hr43, h⟩ := Option.bind_eq_some_iff.1 h
 refine SemYN.cutT (SemYN.wk (WkY.fr kr) (law09_designs_1_ok v1 v6 v11 v16 x0 x1 e2 v5 e7 v10 e12 v15 e17 v20 v21 v22 e26 _ 0 ([v1.2, v6.2, v11.2, v16.2] : List (List (List (List Int)))) _ hr43  hp23 hT25)) ?_
 rintro _ ⟨hp44, hT45, rfl⟩
 refine SemY.seq ?_
 obtain ⟨v46, hv46, h⟩ := Option.bind_eq_some_iff.1 h
 obtain ⟨j48, hj48, h⟩ := Option.bind_eq_some_iff.1 h
 refine SemY.regT (A := fun s1 => ∃ (h' : Hp), T h' (L) ∧ s1 = ⟨Fr 159 [(6, .v (.bool j48))], h'⟩) ?_ ?_
 ·refine RunL.sg he 2 ?_
  refine RunL.call he (fid := 66) (b := v46) (s := cs_law09_designed) (F := fun a => law09_designed a.1 a.2.1) (er := er_law09_designed) (xs := [.v (.int .i64 x0), .v (.int .i64 x1)]) (a := (x0, x1, ())) rfl (wantedA_none rfl) kr kr kr kr (Sns.cons (Sn.enc (c := cdI) (v := x0)) (Sns.cons (Sn.enc (c := cdI) (v := x1)) Sns.nil)) (.inl kr) hv46 ?_
  refine RunL.segF (n := 159) he 1 [(7, e2), p4, p6, p5, (11, e7), p7, p9, p8, (15, e12), p10, p12, p11, (19, e17), p13, p15, p14, p17, p16, p19, p18, (101, .v (.bool v46))] hp44 kr ?_
  rcases Bool.eq_false_or_eq_true v46 with hc52 | hc52
  ·rw [if_pos hc52] at hj48
   rw [hc52]
   refine RunL.segF (n := 159) he 5 [(7, e2), p6, (11, e7), p7, p9, p8, (15, e12), p10, p12, p11, (19, e17), p13, p15, p14, p17, p16, p19, p18, (106, .v (.bool (v1.1 == v5.2)))] hp44 kr ?_
   rcases Bool.eq_false_or_eq_true (v1.1 == v5.2) with hc53 | hc53
   ·rw [if_pos hc53] at hj48
    rw [hc53]
    refine RunL.segF (n := 159) he 5 [(7, e2), p6, (11, e7), p9, (15, e12), p10, p12, p11, (19, e17), p13, p15, p14, p17, p16, p19, p18, (111, .v (.bool (v6.1 == v10.2)))] hp44 kr ?_
    rcases Bool.eq_false_or_eq_true (v6.1 == v10.2) with hc54 | hc54
    ·rw [if_pos hc54] at hj48
     rw [hc54]
     refine RunL.segF (n := 159) he 5 [(7, e2), p6, (11, e7), p9, (15, e12), p12, (19, e17), p13, p15, p14, p17, p16, p19, p18, (116, .v (.bool (v11.1 == v15.2)))] hp44 kr ?_
     rcases Bool.eq_false_or_eq_true (v11.1 == v15.2) with hc55 | hc55
     ·rw [if_pos hc55] at hj48
      rw [hc55]
      refine RunL.segF (n := 159) he 5 [(7, e2), p6, (11, e7), p9, (15, e12), p12, (19, e17), p15, p17, p16, p19, p18, (121, .v (.bool (v16.1 == v20.2)))] hp44 kr ?_
      rcases Bool.eq_false_or_eq_true (v16.1 == v20.2) with hc56 | hc56
      ·rw [if_pos hc56] at hj48
       rw [hc56]
       refine RunL.segF (n := 159) he 5 [(7, e2), p6, (11, e7), p9, (15, e12), p12, (19, e17), p15, p17, p19, (126, .v (.bool (v21.2 == v22.2)))] hp44 kr ?_
       rcases Bool.eq_false_or_eq_true (v21.2 == v22.2) with hc57 | hc57
       ·rw [if_pos hc57] at hj48
        rw [hc57]
        refine RunL.sg he 1 ?_
        refine RunL.one he 0 rfl (op_q kr rfl (q_len (a := e2) kr hl27)) ?_
        refine RunL.sg he 1 ?_
        refine RunL.one he 0 rfl (op_q kr rfl (q_len (a := .sl 1 (v5.1.map (cdL 1 (cdL 1 cdI)).enc)) kr (len_sl (el := 50) kr))) ?_
        refine RunL.segF (n := 159) he 3 [(11, e7), p9, (15, e12), p12, (19, e17), p15, p17, p19, (133, .v (.bool ((v1.2.length : Int) == (v5.1.length : Int))))] hp44 kr ?_
        rcases Bool.eq_false_or_eq_true ((v1.2.length : Int) == (v5.1.length : Int)) with hc58 | hc58
        ·rw [if_pos hc58] at hj48
         rw [hc58]
         refine RunL.sg he 1 ?_
         refine RunL.one he 0 rfl (op_q kr rfl (q_len (a := e7) kr hl28)) ?_
         refine RunL.sg he 1 ?_
         refine RunL.one he 0 rfl (op_q kr rfl (q_len (a := .sl 1 (v10.1.map (cdL 1 (cdL 1 cdI)).enc)) kr (len_sl (el := 50) kr))) ?_
         refine RunL.segF (n := 159) he 3 [(15, e12), p12, (19, e17), p15, p17, p19, (140, .v (.bool ((v6.2.length : Int) == (v10.1.length : Int))))] hp44 kr ?_
         rcases Bool.eq_false_or_eq_true ((v6.2.length : Int) == (v10.1.length : Int)) with hc59 | hc59
         ·rw [if_pos hc59] at hj48
          rw [hc59]
          refine RunL.sg he 1 ?_
          refine RunL.one he 0 rfl (op_q kr rfl (q_len (a := e12) kr hl29)) ?_
          refine RunL.sg he 1 ?_
          refine RunL.one he 0 rfl (op_q kr rfl (q_len (a := .sl 1 (v15.1.map (cdL 1 (cdL 1 cdI)).enc)) kr (len_sl (el := 50) kr))) ?_
          refine RunL.segF (n := 159) he 3 [(19, e17), p15, p17, p19, (147, .v (.bool ((v11.2.length : Int) == (v15.1.length : Int))))] hp44 kr ?_
          rcases Bool.eq_false_or_eq_true ((v11.2.length : Int) == (v15.1.length : Int)) with hc60 | hc60
          ·rw [if_pos hc60] at hj48
           rw [hc60]
           refine RunL.sg he 1 ?_
           refine RunL.one he 0 rfl (op_q kr rfl (q_len (a := e17) kr hl30)) ?_
           refine RunL.sg he 1 ?_
           refine RunL.one he 0 rfl (op_q kr rfl (q_len (a := .sl 1 (v20.1.map (cdL 1 (cdL 1 cdI)).enc)) kr (len_sl (el := 50) kr))) ?_
           refine RunL.segF (n := 159) he 3 [p17, p19, (154, .v (.bool ((v16.2.length : Int) == (v20.1.length : Int))))] hp44 kr ?_
           rcases Bool.eq_false_or_eq_true ((v16.2.length : Int) == (v20.1.length : Int)) with hc61 | hc61
           ·rw [if_pos hc61] at hj48
            rw [hc61]
            refine RunL.sg he 2 ?_
            obtain ⟨v47, hv47, hj48⟩ := Option.bind_eq_some_iff.1 hj48
            refine RunL.call he (fid := 18) (b := v47) (s := cs_law09_Same) (F := fun a => law09_Same a.1 a.2.1) (er := er_law09_Same) (xs := [.sl 1 (v21.1.map (cdL 1 (cdL 1 cdI)).enc), .sl 1 (v22.1.map (cdL 1 (cdL 1 cdI)).enc)]) (a := (v21.1, v22.1, ())) rfl kr kr kr kr kr (Sns.cons (Sn.enc (c := (cdL 1 (cdL 1 (cdL 1 cdI)))) (v := v21.1)) (Sns.cons (Sn.enc (c := (cdL 1 (cdL 1 (cdL 1 cdI)))) (v := v22.1)) Sns.nil)) (.inl kr) hv47 ?_
            refine RunL.sg he 2 ?_
            have hq := Option.some.inj hj48; subst hq
            exact RunL.done rfl ⟨_, ⟨hp44, hT45, rfl⟩, (WkY.fr kr)⟩
           ·rw [if_f hc61] at hj48
            rw [hc61]
            refine RunL.sg he 5 ?_
            have hq := Option.some.inj hj48; subst hq
            exact RunL.done rfl ⟨_, ⟨hp44, hT45, rfl⟩, (WkY.fr kr)⟩
          ·rw [if_f hc60] at hj48
           rw [hc60]
           refine RunL.sg he 12 ?_
           have hq := Option.some.inj hj48; subst hq
           exact RunL.done rfl ⟨_, ⟨hp44, hT45, rfl⟩, (WkY.fr kr)⟩
         ·rw [if_f hc59] at hj48
          rw [hc59]
          refine RunL.sg he 19 ?_
          have hq := Option.some.inj hj48; subst hq
          exact RunL.done rfl ⟨_, ⟨hp44, hT45, rfl⟩, (WkY.fr kr)⟩
        ·rw [if_f hc58] at hj48
         rw [hc58]
         refine RunL.sg he 26 ?_
         have hq := Option.some.inj hj48; subst hq
         exact RunL.done rfl ⟨_, ⟨hp44, hT45, rfl⟩, (WkY.fr kr)⟩
       ·rw [if_f hc57] at hj48
        rw [hc57]
        refine RunL.sg he 33 ?_
        have hq := Option.some.inj hj48; subst hq
        exact RunL.done rfl ⟨_, ⟨hp44, hT45, rfl⟩, (WkY.fr kr)⟩
      ·rw [if_f hc56] at hj48
       rw [hc56]
       refine RunL.sg he 38 ?_
       have hq := Option.some.inj hj48; subst hq
       exact RunL.done rfl ⟨_, ⟨hp44, hT45, rfl⟩, (WkY.fr kr)⟩
     ·rw [if_f hc55] at hj48
      rw [hc55]
      refine RunL.sg he 43 ?_
      have hq := Option.some.inj hj48; subst hq
      exact RunL.done rfl ⟨_, ⟨hp44, hT45, rfl⟩, (WkY.fr kr)⟩
    ·rw [if_f hc54] at hj48
     rw [hc54]
     refine RunL.sg he 48 ?_
     have hq := Option.some.inj hj48; subst hq
     exact RunL.done rfl ⟨_, ⟨hp44, hT45, rfl⟩, (WkY.fr kr)⟩
   ·rw [if_f hc53] at hj48
    rw [hc53]
    refine RunL.sg he 53 ?_
    have hq := Option.some.inj hj48; subst hq
    exact RunL.done rfl ⟨_, ⟨hp44, hT45, rfl⟩, (WkY.fr kr)⟩
  ·rw [if_f hc52] at hj48
   rw [hc52]
   refine RunL.sg he 58 ?_
   have hq := Option.some.inj hj48; subst hq
   exact RunL.done rfl ⟨_, ⟨hp44, hT45, rfl⟩, (WkY.fr kr)⟩
 rintro _ ⟨hp50, hT51, rfl⟩
 refine SemY.ret ?_
 have hq := Option.some.inj h; subst hq
 exact ⟨⟨Fr 159 [(6, .v (.bool j48))], hp50⟩, (WkY.fr kr), .inr rfl, [.v (.bool j48)], kr, ⟨rfl, hT51⟩⟩
def cs_law09_designs : Cs (Int × Int × Int × Unit) := (csC cdI (csC cdI (csC cdI csN)))
def er_law09_designs (r : Bool) : AV := cdB.enc r
def t_law09_designs : List AV → Option AV := told cs_law09_designs (fun a => law09_designs a.1 a.2.1 a.2.2.1) er_law09_designs
theorem x_law09_designs : XOk 19 t_law09_designs := by
 refine EnvOk.x (E := e_law09_designs) (contract_ok e_law09_designs_ok (fn := Tryd.f19) (c := cb_law09_designs) ?h1 ?h2 ⟨Tryd.call19⟩ cs_law09_designs (fun a => law09_designs a.1 a.2.1 a.2.2.1) er_law09_designs (fun a => (by show 3 ≤ 159; decide)) ?h3 ?h4) rfl rfl
 case h1 => kernel_rfl
 case h2 => kernel_rfl
 case h3 => intro b; kernel_rfl
 case h4 =>
  intro a b h
  refine Sem.mono (Sem.ofY (law09_designs_sem (L := []) (hp := []) a.1 a.2.1 a.2.2.1 b h T.nil)) fun e s' hs => ?_
  obtain ⟨h1, ys, h2, h3, -⟩ := hs
  exact ⟨h1, ys, h2, h3⟩
end Go.Proofs.YtcmgmkepodbpkaaDoor
