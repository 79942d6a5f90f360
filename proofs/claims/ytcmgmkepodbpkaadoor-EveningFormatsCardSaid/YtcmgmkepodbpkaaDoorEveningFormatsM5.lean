/- trestlelaw09.EveningFormats returns true for every input, and its arguments read behind the call as before; conditions: those that the given row names. -/
import Derived.Test.YtcmgmkepodbpkaaDoorEveningFormatsM1
import Derived.Test.YtcmgmkepodbpkaaDoorEveningFormatsM2
import Derived.Test.YtcmgmkepodbpkaaDoorEveningFormatsM3
import Derived.Test.YtcmgmkepodbpkaaDoorEveningFormatsM4
set_option maxHeartbeats 4000000
set_option maxRecDepth 100000
namespace Go.Proofs.YtcmgmkepodbpkaaDoor
open Go.RowKit
/- (*strings.Builder).copyCheck -/
noncomputable def e_strings_Builder_copyCheck_o2 : Env := E0
theorem e_strings_Builder_copyCheck_o2_ok : EnvOk e_strings_Builder_copyCheck_o2 := E0_ok
noncomputable def cb_strings_Builder_copyCheck_o2 : Code := codeOf Tryd.f99
def strings_Builder_copyCheck_o2  : Option (Unit) :=
 some ()
theorem strings_Builder_copyCheck_o2_sem {L : List Asn} {hp : Hp} (u0 : AV) (u1 : AV) (x0 : (List UInt8)) (r : Unit) (h : strings_Builder_copyCheck_o2  = some r) (hT : T hp ((cel u0 2 76 (.ag [u0, u1])) :: (own_ (ocL 1 5 (ocV (cdK .u8))) u1 (bytesI x0)) :: L)) : SemY e_strings_Builder_copyCheck_o2 ⟨none, false⟩ cb_strings_Builder_copyCheck_o2 ⟨Fr 20 (pairs0 0 [u0]), hp⟩ fun x s' => (x = .normal ∨ x = .ret) ∧ ∃ ys, resA e_strings_Builder_copyCheck_o2.P s'.fr s'.hp Tryd.f99.results.toList = some ys ∧ (fun v h' => v = .tp [] ∧ T h' ((cel u0 2 76 (.ag [u0, u1])) :: (own_ (ocL 1 5 (ocV (cdK .u8))) u1 (bytesI x0)) :: L)) (retA ys) s'.hp := by
 have he := e_strings_Builder_copyCheck_o2_ok
 unfold strings_Builder_copyCheck_o2 at h
 refine SemY.wkQ (SemY.wk (s1 := ⟨Fr 20 [(0, u0)], hp⟩) WkY.f1 ?_)
 refine SemY.seq ?_
 refine SemY.regionL ?_
 refine RunL.sg he 1 ?_
 refine RunL.one he 0 rfl (op_q (wantedA_none rfl) rfl (q_nil (nil_cel hT) kr)) ?_
 refine RunL.one he 0 rfl (op_q (wantedA_none rfl) rfl (q_fld (a := u0) kr (fldc_B (off := 0) hT kr))) ?_
 refine RunL.one he 0 rfl (op_q (wantedA_none rfl) rfl (q_load (p := pOff u0 0) kr (ld_cel (off := 0) (y := u0) (m := 1) (g := false) hT kr kr kr))) ?_
 refine RunL.one he 0 rfl (op_q (x := .v (.bool false)) (wantedA_none rfl) rfl (q_pn (cel_pt hT) kr kr kr kr)) ?_
 refine RunL.done rfl (SemY.fr (l' := [(0, u0), (6, .v (.bool false))]) kr ?_)
 refine SemY.cond_false kr ?_
 refine SemY.seq ?_
 refine SemY.regionL ?_
 refine RunL.sg he 1 ?_
 refine RunL.one he 0 rfl (op_q (wantedA_none rfl) rfl (q_nil (nil_cel hT) kr)) ?_
 refine RunL.one he 0 rfl (op_q (wantedA_none rfl) rfl (q_fld (a := u0) kr (fldc_B (off := 0) hT kr))) ?_
 refine RunL.one he 0 rfl (op_q (wantedA_none rfl) rfl (q_load (p := pOff u0 0) kr (ld_cel (off := 0) (y := u0) (m := 1) (g := false) hT kr kr kr))) ?_
 refine RunL.sg he 1 ?_
 refine RunL.one he 0 rfl (op_q (x := .v (.bool false)) (wantedA_none rfl) rfl (q_pp (cel_pt hT) kr kr kr kr)) ?_
 refine RunL.done rfl (SemY.fr (l' := [(19, .v (.bool false))]) kr ?_)
 refine SemY.cond_false kr ?_
 refine SemY.skip ?_
 have hq := Option.some.inj h; subst hq
 exact ⟨⟨Fr 20 [], hp⟩, WkY.f1, .inl rfl, [], kr, ⟨rfl, hT⟩⟩
/- (*strings.Builder).WriteString -/
noncomputable def e_strings_Builder_WriteString_o2 : Env := E0
theorem e_strings_Builder_WriteString_o2_ok : EnvOk e_strings_Builder_WriteString_o2 := E0_ok
noncomputable def cb_strings_Builder_WriteString_o2 : Code := codeOf Tryd.f51
def strings_Builder_WriteString_o2 (x0 : (List UInt8)) (x1 : (List UInt8)) : Option (Int × (List Int)) :=
 strings_Builder_copyCheck_o2.bind fun _v1 =>
 if (capOk 1 ((bytesI x0).length + (bytesI x1).length)) = true then
 some ((x1.length : Int), ((bytesI x0) ++ (bytesI x1)))
 else none
theorem strings_Builder_WriteString_o2_sem {L : List Asn} {hp : Hp} (u0 : AV) (u1 : AV) (x0 : (List UInt8)) (x1 : (List UInt8)) (r : Int × (List Int)) (h : strings_Builder_WriteString_o2 x0 x1 = some r) (hT : T hp ((cel u0 2 76 (.ag [u0, u1])) :: (own_ (ocL 1 5 (ocV (cdK .u8))) u1 (bytesI x0)) :: L)) : SemY e_strings_Builder_WriteString_o2 ⟨none, false⟩ cb_strings_Builder_WriteString_o2 ⟨Fr 19 (pairs0 0 [u0, .st x1]), hp⟩ fun x s' => (x = .normal ∨ x = .ret) ∧ ∃ ys, resA e_strings_Builder_WriteString_o2.P s'.fr s'.hp Tryd.f51.results.toList = some ys ∧ (fun v h' => ∃ (z0 : AV), v = .tp [.v (.int .i64 r.1), .v .nilIface] ∧ T h' ((cel u0 2 76 (.ag [u0, z0])) :: (own_ (ocL 1 5 (ocV (cdK .u8))) z0 r.2) :: L)) (retA ys) s'.hp := by
 have he := e_strings_Builder_WriteString_o2_ok
 unfold strings_Builder_WriteString_o2 at h
 refine SemY.wkQ (SemY.wk (s1 := ⟨Fr 19 [(0, u0), (1, .st x1)], hp⟩) WkY.f1 ?_)
 refine SemY.sq he [(0, u0), (1, .st x1)] ?_
 refine SemY.seq ?_
 refine SemY.regionL ?_
 refine RunL.sg he 1 ?_
 obtain ⟨v1, hv1, h⟩ := Option.bind_eq_some_iff.1 h
 refine RunL.inlT (E := e_strings_Builder_WriteString_o2) (e := e_strings_Builder_copyCheck_o2) rfl rfl e_strings_Builder_copyCheck_o2_ok rfl rfl (fid := 99) (caps := []) (xs := [u0]) (fn := Tryd.f99) (c := cb_strings_Builder_copyCheck_o2) (Out := fun v h' => v = .tp [] ∧ T h' ((cel u0 2 76 (.ag [u0, u1])) :: (own_ (ocL 1 5 (ocV (cdK .u8))) u1 (bytesI x0)) :: L)) rfl (wantedA_none rfl) kr kr kr kr (by show 1 ≤ 20; decide) (strings_Builder_copyCheck_o2_sem u0 u1 x0 _ hv1 hT) ?_
 rintro xx hp2 ⟨hqhp2, hT3⟩; subst xx
 refine RunL.done rfl (SemY.fr (l' := [(0, u0), (1, .st x1)]) kr ?_)
 refine SemY.seq ?_
 refine SemY.regionL ?_
 refine RunL.sg he 2 ?_
 refine RunL.one he 0 rfl (op_q (wantedA_none rfl) rfl (q_nil (nil_cel hT3) kr)) ?_
 refine RunL.one he 0 rfl (op_q (wantedA_none rfl) rfl (q_fld (a := u0) kr (fldc_B (off := 1) hT3 kr))) ?_
 refine RunL.one he 0 rfl (op_q (wantedA_none rfl) rfl (q_load (p := pOff u0 1) kr (ld_cel (off := 1) (y := u1) (m := 1) (g := false) hT3 kr kr kr))) ?_
 refine RunL.sg he 1 ?_
 by_cases hk8 : (capOk 1 ((bytesI x0).length + (bytesI x1).length)) = true
 case neg => rw [if_neg hk8] at h; cases h
 rw [if_pos hk8] at h
 have hT9 := (hT3.front 1 rfl)
 obtain ⟨e7, hp4, hb5, hT6⟩ := app_leafB (P := Tryd.prog) (ty := 41) (ty2 := 9) (bytes := 1) (y := .st x1) (ys := (bytesI x1)) hT9 kr elems_st kr hk8
 refine RunL.one he 0 rfl (op_w (wantedA_none rfl) rfl kr kr (w_append (a := u1) (b := .st x1) kr kr hb5)) ?_
 have hT10 := (hT6.front 1 rfl)
 refine RunL.one he 0 rfl (op_q (wantedA_none rfl) rfl (q_nil (nil_cel hT10) kr)) ?_
 refine RunL.one he 0 rfl (op_q (wantedA_none rfl) rfl (q_fld (a := u0) kr (fldc_B (off := 1) hT10 kr))) ?_
 obtain ⟨hp11, hs12, hT13⟩ := st_cel (off := 1) (P := Tryd.prog) (ty := 41) (y := e7) (a' := .ag [u0, e7]) hT10 (by have hq := shape_own (hT10.front 1 rfl); revert hq; generalize e7 = zz; intro hq; cases zz <;> first | (exact (Bool.false_ne_true hq.1).elim) | (exact (Bool.false_ne_true hq.2).elim) | skip; all_goals (first | rfl | kernel_rfl | exact rfl)) (by have hq := shape_own (hT10.front 1 rfl); revert hq; generalize e7 = zz; intro hq; cases zz <;> first | (exact (Bool.false_ne_true hq.1).elim) | (exact (Bool.false_ne_true hq.2).elim) | skip; all_goals (first | rfl | kernel_rfl | exact rfl)) (by have hq := shape_own (hT10.front 1 rfl); revert hq; generalize e7 = zz; intro hq; cases zz <;> first | (exact (Bool.false_ne_true hq.1).elim) | (exact (Bool.false_ne_true hq.2).elim) | skip; all_goals (first | rfl | kernel_rfl | exact rfl))
 refine RunL.store he (y := pOff u0 1) (z := e7) rfl (wantedA_none rfl) kr kr hs12 ?_
 refine RunL.done rfl (SemY.fr (l' := [(1, .st x1)]) kr ?_)
 let p1 : Nat × AV := (4, .v (.int .i64 (x1.length : Int)))
 refine SemY.sq he [p1, (5, .v .nilIface)] ?_
 refine SemY.ret ?_
 have hq := Option.some.inj h; subst hq
 exact ⟨⟨Fr 19 [p1, (5, .v .nilIface)], hp11⟩, WkY.f1, .inr rfl, [.v (.int .i64 (x1.length : Int)), .v .nilIface], kr, ⟨e7, rfl, hT13⟩⟩
/- (*strings.Builder).String -/
noncomputable def e_strings_Builder_String_o : Env := E0
theorem e_strings_Builder_String_o_ok : EnvOk e_strings_Builder_String_o := E0_ok
noncomputable def cb_strings_Builder_String_o : Code := codeOf Tryd.f53
def strings_Builder_String_o (x0 : (List UInt8)) : Option ((List UInt8)) :=
 if (decide (0 < (bytesI x0).length)) = true then
 if (decide (0 < x0.length)) = true then
 if (okB x0) = true then
 some x0
 else none
 else none
 else none
theorem strings_Builder_String_o_sem {L : List Asn} {hp : Hp} (u0 : AV) (u1 : AV) (x0 : (List UInt8)) (r : (List UInt8)) (h : strings_Builder_String_o x0 = some r) (hT : T hp ((cel u0 2 76 (.ag [u0, u1])) :: (own_ (ocL 1 5 (ocV (cdK .u8))) u1 (bytesI x0)) :: L)) : SemY e_strings_Builder_String_o ⟨none, false⟩ cb_strings_Builder_String_o ⟨Fr 14 (pairs0 0 [u0]), hp⟩ fun x s' => (x = .normal ∨ x = .ret) ∧ ∃ ys, resA e_strings_Builder_String_o.P s'.fr s'.hp Tryd.f53.results.toList = some ys ∧ (fun v h' => v = .st r ∧ T h' ((cel u0 2 76 (.ag [u0, u1])) :: L)) (retA ys) s'.hp := by
 have he := e_strings_Builder_String_o_ok
 unfold strings_Builder_String_o at h
 refine SemY.wkQ (SemY.wk (s1 := ⟨Fr 14 [(0, u0)], hp⟩) WkY.f1 ?_)
 refine SemY.sq he [(0, u0)] ?_
 refine SemY.seq ?_
 refine SemY.runDT 10 he.mixed kr kr ?_
 refine RunDT.q (x := u0) rfl kr rfl (wantedA_none rfl) rfl kr kr ?_
 refine RunDT.q (x := u0) rfl kr rfl (wantedA_none rfl) rfl (q_nil (nil_cel hT) kr) kr ?_
 refine RunDT.q (x := pOff u0 1) rfl kr rfl (wantedA_none rfl) rfl (q_fld (a := u0) kr (fldc_B (off := 1) hT kr)) kr ?_
 refine RunDT.q (x := u1) rfl kr rfl (wantedA_none rfl) rfl (q_load (p := pOff u0 1) kr (ld_cel (off := 1) (y := u1) (m := 1) (g := false) hT kr kr kr)) (ldOk_cel (off := 1) hT kr) ?_
 by_cases hk1 : (decide (0 < (bytesI x0).length)) = true
 case neg => rw [if_neg hk1] at h; cases h
 rw [if_pos hk1] at h
 have hT2 := (hT.front 1 rfl)
 refine RunDT.q (x := eAt u1 0) rfl kr rfl (wantedA_none rfl) rfl (q_sd (a := u1) hT2 kr hk1) kr ?_
 refine RunDT.q (x := u0) rfl kr rfl (wantedA_none rfl) rfl kr kr ?_
 have hT3 := (hT2.front 1 rfl)
 refine RunDT.q (x := u0) rfl kr rfl (wantedA_none rfl) rfl (q_nil (nil_cel hT3) kr) kr ?_
 refine RunDT.q (x := pOff u0 1) rfl kr rfl (wantedA_none rfl) rfl (q_fld (a := u0) kr (fldc_B (off := 1) hT3 kr)) kr ?_
 refine RunDT.q (x := u1) rfl kr rfl (wantedA_none rfl) rfl (q_load (p := pOff u0 1) kr (ld_cel (off := 1) (y := u1) (m := 1) (g := false) hT3 kr kr kr)) (ldOk_cel (off := 1) hT kr) ?_
 have hT4 := (hT3.front 1 rfl)
 refine RunDT.q (x := .v (.int .i64 ((bytesI x0).length : Int))) rfl kr rfl (wantedA_none rfl) rfl (q_len (a := u1) kr (len_B hT4 kr)) kr ?_
 refine RunDT.tail rfl ?_
 by_cases hk5 : (decide (0 < x0.length)) = true
 case neg => rw [if_neg hk5] at h; cases h
 rw [if_pos hk5] at h
 by_cases hk6 : (okB x0) = true
 case neg => rw [if_neg hk6] at h; cases h
 rw [if_pos hk6] at h
 obtain ⟨hp7, hb8, hT9⟩ := ustr_own (P := Tryd.prog) (ty := 125) (el := 5) hT4 kr kr hk5 hk6
 refine RunL.one he 0 rfl (op_w (wantedA_none rfl) rfl kr kr (w_ustr (a := eAt u1 0) (b := .v (.int .i64 ((bytesI x0).length : Int))) kr kr hb8)) ?_
 refine RunL.fin he [(2, .st x0)] ?_
 refine SemY.ret ?_
 have hq := Option.some.inj h; subst hq
 exact ⟨⟨Fr 14 [(2, .st x0)], hp7⟩, WkY.f1, .inr rfl, [.st x0], kr, ⟨rfl, hT9⟩⟩
/- (*strings.Builder).String -/
noncomputable def e_strings_Builder_String_o2 : Env := E0
theorem e_strings_Builder_String_o2_ok : EnvOk e_strings_Builder_String_o2 := E0_ok
noncomputable def cb_strings_Builder_String_o2 : Code := codeOf Tryd.f53
def strings_Builder_String_o2  : Option ((List UInt8)) :=
 some []
theorem strings_Builder_String_o2_sem {L : List Asn} {hp : Hp} (u0 : AV) (r : (List UInt8)) (h : strings_Builder_String_o2  = some r) (hT : T hp ((cel u0 2 76 (.ag [.v (.pointer none), .v (.slice none 0 0)])) :: L)) : SemY e_strings_Builder_String_o2 ⟨none, false⟩ cb_strings_Builder_String_o2 ⟨Fr 14 (pairs0 0 [u0]), hp⟩ fun x s' => (x = .normal ∨ x = .ret) ∧ ∃ ys, resA e_strings_Builder_String_o2.P s'.fr s'.hp Tryd.f53.results.toList = some ys ∧ (fun v h' => v = .st r ∧ T h' ((cel u0 2 76 (.ag [.v (.pointer none), .v (.slice none 0 0)])) :: L)) (retA ys) s'.hp := by
 have he := e_strings_Builder_String_o2_ok
 unfold strings_Builder_String_o2 at h
 refine SemY.wkQ (SemY.wk (s1 := ⟨Fr 14 [(0, u0)], hp⟩) WkY.f1 ?_)
 refine SemY.sq he [(0, u0)] ?_
 refine SemY.seq ?_
 refine SemY.runDT 10 he.mixed kr kr ?_
 refine RunDT.q (x := u0) rfl kr rfl (wantedA_none rfl) rfl kr kr ?_
 refine RunDT.q (x := u0) rfl kr rfl (wantedA_none rfl) rfl (q_nil (nil_cel hT) kr) kr ?_
 refine RunDT.q (x := pOff u0 1) rfl kr rfl (wantedA_none rfl) rfl (q_fld (a := u0) kr (fldc_B (off := 1) hT kr)) kr ?_
 refine RunDT.q (x := .v (.slice none 0 0)) rfl kr rfl (wantedA_none rfl) rfl (q_load (p := pOff u0 1) kr (ld_cel (off := 1) (y := .v (.slice none 0 0)) (m := 1) (g := false) hT kr kr kr)) (ldOk_cel (off := 1) hT kr) ?_
 refine RunDT.q (x := .v (.pointer none)) rfl kr rfl (wantedA_none rfl) rfl kr kr ?_
 refine RunDT.q (x := u0) rfl kr rfl (wantedA_none rfl) rfl kr kr ?_
 refine RunDT.q (x := u0) rfl kr rfl (wantedA_none rfl) rfl (q_nil (nil_cel hT) kr) kr ?_
 refine RunDT.q (x := pOff u0 1) rfl kr rfl (wantedA_none rfl) rfl (q_fld (a := u0) kr (fldc_B (off := 1) hT kr)) kr ?_
 refine RunDT.q (x := .v (.slice none 0 0)) rfl kr rfl (wantedA_none rfl) rfl (q_load (p := pOff u0 1) kr (ld_cel (off := 1) (y := .v (.slice none 0 0)) (m := 1) (g := false) hT kr kr kr)) (ldOk_cel (off := 1) hT kr) ?_
 refine RunDT.q (x := .v (.int .i64 0)) rfl kr rfl (wantedA_none rfl) rfl kr kr ?_
 refine RunDT.tail rfl ?_
 refine RunL.fin he [(2, .st [])] ?_
 refine SemY.ret ?_
 have hq := Option.some.inj h; subst hq
 exact ⟨⟨Fr 14 [(2, .st [])], hp⟩, WkY.f1, .inr rfl, [.st []], kr, ⟨rfl, hT⟩⟩
/-- A block told in another way. -/
theorem WkY.blk {E : Env} {fr : List (Option AV)} {h : Hp} {b k : Nat} {t : TypeId} {es es' : List AV} (hb : h[b]? = some (some ⟨k, t, es, false⟩)) (hl : es'.length = es.length) (hv : ∀ (i : Nat) (x' : AV), es'[i]? = some x' → ∃ x, es[i]? = some x ∧ ∀ w Z R u, VR w Z R x u → VR w Z R x' u) : WkY E ⟨fr, h⟩ ⟨fr, h.set b (some ⟨k, t, es', false⟩)⟩ := by
 intro base w Z R a sr
 have hlt := get_lt hb
 have hget : ∀ (j : Nat) (B : Blk), (h.set b (some ⟨k, t, es', false⟩))[j]? = some (some B) → ∃ B0, h[j]? = some (some B0) ∧ B0.fz = B.fz ∧ B0.k = B.k ∧ B0.t = B.t ∧ B.es.length = B0.es.length ∧ ∀ (i : Nat) (x' : AV), B.es[i]? = some x' → ∃ x, B0.es[i]? = some x ∧ ∀ w Z R u, VR w Z R x u → VR w Z R x' u := fun j B hB => by
  rw [List.getElem?_set] at hB
  split at hB
  ·next e =>
   subst e
   try rw [if_pos hlt] at hB
   have hB := (Option.some.inj (Option.some.inj hB)).symm
   subst hB
   exact ⟨_, hb, rfl, rfl, rfl, hl, hv⟩
  ·exact ⟨B, hB, rfl, rfl, rfl, rfl, fun i x' hx => ⟨x', hx, fun _ _ _ _ h => h⟩⟩
 have hown : ∀ c, own R (h.set b (some ⟨k, t, es', false⟩)) c → own R h c := fun c ⟨j, B, r, h1, h2, h3, h4⟩ => by
  obtain ⟨B0, q1, q2, _⟩ := hget j B h1
  exact ⟨j, B0, r, q1, q2.trans h2, h3, h4⟩
 refine ⟨Z, R, ⟨⟨by simp [sr.hh.len], fun j B hB => ?_, fun j j' B B' r r' h1 f1 h2 f2 g1 g2 e => ?_, sr.hh.zlt⟩, sr.fr, ?_, sr.gl, sr.bs⟩, ⟨rfl, rfl, rfl, Nat.le_refl _, fun _ _ _ => rfl, fun c hc => .inl (hown c hc), fun _ h => h, fun _ h => .inl h, fun _ _ h => h⟩⟩
 ·obtain ⟨B0, q1, q2, q3, q4, q5, q6⟩ := hget j B hB
  obtain ⟨r, arr, us, g1, g2, g3, g4, g5, g6, g7, g8, g9, g10⟩ := sr.hh.blk j B0 q1
  rw [q3] at g2 g4 g10
  rw [q4] at g3
  rw [q2] at g7 g8
  refine ⟨r, arr, us, g1, g2, g3, g4, by rw [q5]; exact g5, g6, g7, g8, ⟨by rw [g9.len, q5], fun i x' u hx hu => ?_⟩, g10⟩
  obtain ⟨x, p1, p2⟩ := q6 i x' hx
  exact p2 _ _ _ _ (g9.at_ i x u p1 hu)
 ·obtain ⟨B0, q1, q2, _⟩ := hget j B h1
  obtain ⟨B0', q1', q2', _⟩ := hget j' B' h2
  exact sr.hh.inj j j' B0 B0' r r' q1 (q2.trans f1) q1' (q2'.trans f2) g1 g2 e
 ·exact sr.mks.imp fun q h3 h4 h5 => ⟨h3, h4, fun ho => h5 (hown q ho)⟩
/-- A Builder: not written yet, or with the bytes. -/
def bld (ty : TypeId) (p : AV) (bs : List UInt8) : Asn where
 at_ h F := (bs = [] ∧ (cel p 2 ty (.ag [.v (.pointer none), .v (.slice none 0 0)])).at_ h F) ∨ (bs ≠ [] ∧ ∃ e, (star (cel p 2 ty (.ag [p, e])) (own_ (ocL 1 5 (ocV (cdK .u8))) e (bytesI bs))).at_ h F)
 loc := fun ha k => by
  rcases ha with ⟨h1, h2⟩ | ⟨h1, e, h2⟩
  ·exact .inl ⟨h1, Asn.loc _ h2 k⟩
  ·exact .inr ⟨h1, e, Asn.loc _ h2 k⟩
 own := fun ha hb => by
  rcases ha with ⟨h1, h2⟩ | ⟨h1, e, h2⟩
  ·exact Asn.own _ h2 hb
  ·exact Asn.own _ h2 hb
section
variable {h : Hp} {ty : TypeId} {p : AV} {bs : List UInt8} {L : List Asn}
theorem bld_nil (ht : T h (cel p 2 ty (.ag [.v (.pointer none), .v (.slice none 0 0)]) :: L)) : T h (bld ty p [] :: L) := by
 obtain ⟨F, q, hn, hk, _⟩ := ht.act
 exact hk h _ F (.inl ⟨rfl, q⟩) hn (fun _ _ _ => rfl) (fun b hb => .inl hb)
theorem bld_full {e : AV} (hne : bs ≠ []) (ht : T h (cel p 2 ty (.ag [p, e]) :: own_ (ocL 1 5 (ocV (cdK .u8))) e (bytesI bs) :: L)) : T h (bld ty p bs :: L) := by
 obtain ⟨F, q, hn, hk, _⟩ := (T.join.1 ht).act
 exact hk h _ F (.inr ⟨hne, e, q⟩) hn (fun _ _ _ => rfl) (fun b hb => .inl hb)
theorem bld_inv (ht : T h (bld ty p bs :: L)) : (bs = [] ∧ T h (cel p 2 ty (.ag [.v (.pointer none), .v (.slice none 0 0)]) :: L)) ∨ (bs ≠ [] ∧ ∃ e, T h (cel p 2 ty (.ag [p, e]) :: own_ (ocL 1 5 (ocV (cdK .u8))) e (bytesI bs) :: L)) := by
 obtain ⟨F, q, hn, hk, _⟩ := ht.act
 rcases q with ⟨h1, h2⟩ | ⟨h1, e, h2⟩
 ·exact .inl ⟨h1, hk h _ F h2 hn (fun _ _ _ => rfl) (fun b hb => .inl hb)⟩
 ·exact .inr ⟨h1, e, T.join.2 (hk h _ F h2 hn (fun _ _ _ => rfl) (fun b hb => .inl hb))⟩
/-- The buffer that is nil is seen as an empty one. -/
theorem bld_weak {E : Env} {fr : List (Option AV)} (ht : T h (cel p 2 ty (.ag [.v (.pointer none), .v (.slice none 0 0)]) :: L)) : ∃ h', WkY E ⟨fr, h⟩ ⟨fr, h'⟩ ∧ T h' (cel p 2 ty (.ag [.v (.pointer none), .e0]) :: L) := by
 obtain ⟨F, ⟨b, rfl, rfl, h2⟩, hn, hk, _⟩ := ht.act
 have hb := get_lt h2
 refine ⟨h.set b (some ⟨2, ty, [.ag [.v (.pointer none), .e0]], false⟩), WkY.blk h2 rfl fun i x' hx => ?_, hk _ _ [b] ⟨b, rfl, rfl, by simp [hb]⟩ (by simp) (fun c hc _ => by rw [List.getElem?_set, if_neg (by intro e; subst e; simp at hc)]) (fun c hc => .inl hc)⟩
 match i with
 | 0 =>
  simp at hx; subst hx
  refine ⟨_, rfl, fun w Z R u hv => ?_⟩
  cases hv with
  | ag hl h1 hx =>
   refine .ag (by simpa using hl) h1 fun i x u hi hu => ?_
   match i with
   | 0 => simp at hi; subst hi; exact hx 0 _ u rfl hu
   | 1 =>
    simp at hi; subst hi
    have := (hx 1 _ u rfl hu).v_inv
    subst this
    exact .e0
   | i + 2 => simp at hi
 | i + 1 => simp at hx
end
section
variable {E : Env} {cx : Cx} {ops : Array Oper} {rest rest' : List Oper} {K : St → Prop} {n d : Nat} {l : List (Nat × AV)} {hp : Hp} {ty : TypeId} {p : AV} {bs s : List UInt8} {L : List Asn}
theorem RunL.balloc {t' : TypeId} {pos : String} {af : Array Edge} {g : Option (Nat × Bool)} (ht : T hp L) (hr : rest = ⟨some d, .alloc ty, t', pos, af, g⟩ :: rest') (hw : wantedA ops (Fr n l) ⟨some d, .alloc ty, t', pos, af, g⟩ = some true) (hz0 : tyZero E.P ty = some (.ag [.v (.pointer none), .e0])) (hz : ((E.P.info? ty).bind (·.zero)) = some (.agg #[.pointer none, .slice none 0 0])) (k : ∀ p hp', T hp' (bld ty p [] :: L) → RunL E cx ops rest' ⟨Fr n ((d, p) :: l), hp'⟩ K) : RunL E cx ops rest ⟨Fr n l, hp⟩ K := by
 subst hr
 intro ro base Q a w Z R hro sr hy q
 refine lwl_loud rfl (wantedA_eq sr hw) ?_
 obtain ⟨u, _, _, hrun, i, hi, hiz⟩ := run_zero' (w := w) (Z := Z) (R := R) hz0
 have hu : u = .agg #[.pointer none, .slice none 0 0] := by
  rw [hi] at hz
  have hz : i.zero = some _ := hz
  rw [hiz] at hz
  exact Option.some.inj hz
 have hv : VR w Z R (.ag [.v (.pointer none), .v (.slice none 0 0)]) u := by
  rw [hu]
  refine .ag (us := [.pointer none, .slice none 0 0]) rfl rfl fun i x u hx hu => ?_
  match i with
  | 0 => simp at hx hu; subst hx hu; exact .v rfl
  | 1 => simp at hx hu; subst hx hu; exact .v rfl
  | i + 2 => simp at hx
 obtain ⟨p, hp', hb, hT⟩ := box_cel (t := ty) (a := .ag [.v (.pointer none), .v (.slice none 0 0)]) ht rfl
 obtain ⟨w', R', h1, h2, h3, h4, h5⟩ := evBox_sound (P := E.P) sr.hh hv hb
 have sr' := (sr.step h2 h4).put (d := some d) h3
 rw [show putA (⟨Fr n l, hp⟩ : St).fr (some d) p = Fr n ((d, p) :: l) from putA_Fr n l d _] at sr'
 refine lw_val (u := .pointer (some ⟨w.heap.size, 0, none⟩)) (w' := w') (by simp [execOp, Instr.alloc, hrun, h1]) ?_
 exact k p hp' (bld_nil hT) ro base Q _ w' Z R' hro sr' (hy.step sr.hh h4) fun s' a' w'' Z'' R'' hK sr'' st' => q s' a' w'' Z'' R'' hK sr'' (h4.trans st')
theorem RunL.bwrite (hP : E.P = E0.P) (hG : E.G = E0.G) {f : Operand} {args : Array Operand} {tys : Array TypeId} {t' : TypeId} {pos : String} {af : Array Edge} {g : Option (Nat × Bool)} (ht : T hp (bld 76 p bs :: L)) (hn : decide (0 < s.length) = true) (hc : capOk 1 (bs.length + s.length) = true) (hr : rest = ⟨some d, .call ⟨.value f, args, tys⟩, t', pos, af, g⟩ :: rest') (hw : wantedA ops (Fr n l) ⟨some d, .call ⟨.value f, args, tys⟩, t', pos, af, g⟩ = some true)
  (hf : opA E (Fr n l) f = some (.fn 51 [] [])) (ha : opds (opA E (Fr n l)) args.toList = some [p, .st s]) (k : ∀ hp', T hp' (bld 76 p (bs ++ s) :: L) → RunL E cx ops rest' ⟨Fr n ((d, .tp [.v (.int .i64 (s.length : Int)), .v .nilIface]) :: l), hp'⟩ K) : RunL E cx ops rest ⟨Fr n l, hp⟩ K := by
 have hne : bs ++ s ≠ [] := fun e => by
  have := of_decide_eq_true hn
  have hs : s = [] := (List.append_eq_nil_iff.1 e).2
  subst hs; simp at this
 rcases bld_inv ht with ⟨rfl, hT⟩ | ⟨hb, e, hT⟩
 ·obtain ⟨h', hwk, hT'⟩ := bld_weak (E := E) (fr := Fr n l) hT
  refine RunL.wk hwk ?_
  have hv : strings_Builder_WriteString_o s = some ((s.length : Int), [] ++ bytesI s) := by
   unfold strings_Builder_WriteString_o strings_Builder_copyCheck_o
   simp only [Option.bind_some]
   rw [if_pos (by rw [bytesI_len]; exact hc)]
  refine RunL.inlT (e := e_strings_Builder_WriteString_o) hP hG e_strings_Builder_WriteString_o_ok rfl rfl (fid := 51) (caps := []) (xs := [p, .st s]) (fn := Tryd.f51) (c := cb_strings_Builder_WriteString_o) (Out := fun v h' => ∃ (z0 : AV), v = .tp [.v (.int .i64 (s.length : Int)), .v .nilIface] ∧ T h' (cel p 2 76 (.ag [p, z0]) :: own_ (ocL 1 5 (ocV (cdK .u8))) z0 ([] ++ bytesI s) :: L)) hr hw hf ha (by kernel_rfl) (by kernel_rfl) (by show 2 ≤ 19; decide) (strings_Builder_WriteString_o_sem p s _ hv hT') ?_
  rintro xx hp' ⟨z, hq, hT2⟩; subst xx
  refine k hp' (bld_full (e := z) hne ?_)
  exact hT2
 ·have hv : strings_Builder_WriteString_o2 bs s = some ((s.length : Int), bytesI bs ++ bytesI s) := by
   unfold strings_Builder_WriteString_o2 strings_Builder_copyCheck_o2
   simp only [Option.bind_some]
   rw [if_pos (by rw [bytesI_len, bytesI_len]; exact hc)]
  refine RunL.inlT (e := e_strings_Builder_WriteString_o2) hP hG e_strings_Builder_WriteString_o2_ok rfl rfl (fid := 51) (caps := []) (xs := [p, .st s]) (fn := Tryd.f51) (c := cb_strings_Builder_WriteString_o2) (Out := fun v h' => ∃ (z0 : AV), v = .tp [.v (.int .i64 (s.length : Int)), .v .nilIface] ∧ T h' (cel p 2 76 (.ag [p, z0]) :: own_ (ocL 1 5 (ocV (cdK .u8))) z0 (bytesI bs ++ bytesI s) :: L)) hr hw hf ha (by kernel_rfl) (by kernel_rfl) (by show 2 ≤ 19; decide) (strings_Builder_WriteString_o2_sem p e bs s _ hv hT) ?_
  rintro xx hp' ⟨z, hq, hT2⟩; subst xx
  refine k hp' (bld_full (e := z) hne ?_)
  rw [bytesI_app]
  exact hT2
theorem RunL.bstring (hP : E.P = E0.P) (hG : E.G = E0.G) {f : Operand} {args : Array Operand} {tys : Array TypeId} {t' : TypeId} {pos : String} {af : Array Edge} {g : Option (Nat × Bool)} (ht : T hp (bld 76 p bs :: L)) (hk : okB bs = true) (hr : rest = ⟨some d, .call ⟨.value f, args, tys⟩, t', pos, af, g⟩ :: rest') (hw : wantedA ops (Fr n l) ⟨some d, .call ⟨.value f, args, tys⟩, t', pos, af, g⟩ = some true)
  (hf : opA E (Fr n l) f = some (.fn 53 [] [])) (ha : opds (opA E (Fr n l)) args.toList = some [p]) (k : ∀ hp', T hp' L → RunL E cx ops rest' ⟨Fr n ((d, .st bs) :: l), hp'⟩ K) : RunL E cx ops rest ⟨Fr n l, hp⟩ K := by
 rcases bld_inv ht with ⟨rfl, hT⟩ | ⟨hb, e, hT⟩
 ·refine RunL.inlT (e := e_strings_Builder_String_o2) hP hG e_strings_Builder_String_o2_ok rfl rfl (fid := 53) (caps := []) (xs := [p]) (fn := Tryd.f53) (c := cb_strings_Builder_String_o2) (Out := fun v h' => v = .st [] ∧ T h' (cel p 2 76 (.ag [.v (.pointer none), .v (.slice none 0 0)]) :: L)) hr hw hf ha (by kernel_rfl) (by kernel_rfl) (by show 1 ≤ 14; decide) (strings_Builder_String_o2_sem p [] rfl hT) ?_
  rintro xx hp' ⟨hq, hT2⟩; subst xx
  exact k hp' hT2.drop
 ·have hlen : 0 < bs.length := by
   cases bs with
   | nil => exact absurd rfl hb
   | cons a r => simp
  have hv : strings_Builder_String_o bs = some bs := by
   unfold strings_Builder_String_o
   rw [if_pos (by rw [bytesI_len]; simpa using hlen), if_pos (by simpa using hlen), if_pos hk]
  refine RunL.inlT (e := e_strings_Builder_String_o) hP hG e_strings_Builder_String_o_ok rfl rfl (fid := 53) (caps := []) (xs := [p]) (fn := Tryd.f53) (c := cb_strings_Builder_String_o) (Out := fun v h' => v = .st bs ∧ T h' (cel p 2 76 (.ag [p, e]) :: L)) hr hw hf ha (by kernel_rfl) (by kernel_rfl) (by show 1 ≤ 14; decide) (strings_Builder_String_o_sem p e bs _ hv hT) ?_
  rintro xx hp' ⟨hq, hT2⟩; subst xx
  exact k hp' hT2.drop
end
/- trestle/evening.Format -/
noncomputable def e_evening_Format : Env := ((E0.withX 50 t_evening_valid).withX 52 t_strconv_Itoa)
theorem e_evening_Format_ok : EnvOk e_evening_Format := (EnvOk.withX (EnvOk.withX E0_ok x_evening_valid.1 x_evening_valid.2) x_strconv_Itoa.1 x_strconv_Itoa.2)
noncomputable def cb_evening_Format : Code := codeOf Tryd.f17
def evening_Format_j3 (c10 : Int) (c11 : (List UInt8)) : Option (((List UInt8))) :=
 if (decide (c10 > 0)) = true then
 if (decide (0 < ([32, 47, 32] : List UInt8).length)) = true then
 if (capOk 1 (c11.length + ([32, 47, 32] : List UInt8).length)) = true then
 some (c11 ++ ([32, 47, 32] : List UInt8))
 else none
 else none
 else
 some c11
def evening_Format_j5 (c23 : Int) (c24 : (List UInt8)) : Option (((List UInt8))) :=
 if (decide (c23 > 0)) = true then
 if (decide (0 < ([32] : List UInt8).length)) = true then
 if (capOk 1 (c24.length + ([32] : List UInt8).length)) = true then
 some (c24 ++ ([32] : List UInt8))
 else none
 else none
 else
 some c24
def evening_Format_4 (v13 : (List Int)) : Nat → Int → (List UInt8) → Option (((List UInt8)))
 | 0, _, _ => none
 | f + 1, c23, c24 =>
  if (decide (c23 < (v13.length : Int))) = true then
  (idx v13 c23).bind fun v26 =>
  (evening_Format_j5 c23 c24).bind fun r33 =>
  (strconv_Itoa v26).bind fun v36 =>
  if (decide (0 < v36.length)) = true then
  if (capOk 1 (r33.length + v36.length)) = true then
  evening_Format_4 v13 f (wr .i64 (c23 + 1)) (r33 ++ v36)
  else none
  else none
  else
  some c24
def evening_Format_2 (v9 : (List (List Int))) : Nat → Int → (List UInt8) → Option (((List UInt8)))
 | 0, _, _ => none
 | f + 1, c10, c11 =>
  if (decide (c10 < (v9.length : Int))) = true then
  (idx v9 c10).bind fun v13 =>
  (evening_Format_j3 c10 c11).bind fun r20 =>
  (evening_Format_4 v13 100000 0 r20).bind fun r42 =>
  evening_Format_2 v9 f (wr .i64 (c10 + 1)) r42
  else
  some c11
def evening_Format_1 (x1 : (List (List (List Int)))) : Nat → Int → (List UInt8) → Option (((List UInt8)))
 | 0, _, _ => none
 | f + 1, c6, c7 =>
  if (decide (c6 < (x1.length : Int))) = true then
  (idx x1 c6).bind fun v9 =>
  (evening_Format_2 v9 100000 0 c7).bind fun r46 =>
  if (decide (0 < ([10] : List UInt8).length)) = true then
  if (capOk 1 (r46.length + ([10] : List UInt8).length)) = true then
  evening_Format_1 x1 f (wr .i64 (c6 + 1)) (r46 ++ ([10] : List UInt8))
  else none
  else none
  else
  some c7
def evening_Format (x0 : Int) (x1 : (List (List (List Int)))) : Option ((List UInt8)) :=
 (evening_valid x0 x1).bind fun v1 =>
 if (!v1) = true then
 some []
 else
 (evening_Format_1 x1 100000 0 ([] : List UInt8)).bind fun r54 =>
 if (okB r54) = true then
 some r54
 else none
theorem evening_Format_j3_ok {L : List Asn} {hp : Hp} (c10 : Int) (c11 : (List UInt8)) (x1 : (List (List (List Int)))) (e3 : AV) (c6 : Int) (v9 : (List (List Int))) (v13 : (List Int)) (r : ((List UInt8))) (h : evening_Format_j3 c10 c11 = some r) (hT : T hp ((bld 76 e3 c11) :: L)) : SemY e_evening_Format ⟨none, false⟩ (pc cb_evening_Format [1, 1, 1, 0, 1, 0, 0, 1, 1, 0, 0, 1, 0, 1, 0, 0, 1, 1, 0, 0, 1, 0, 1]) ⟨Fr 50 [(5, e3), (9, .sl 1 (v13.map cdI.enc)), (16, .sl 1 (x1.map (cdL 1 (cdL 1 cdI)).enc)), (17, .v (.int .i64 (x1.length : Int))), (18, .v (.int .i64 c6)), (22, .sl 1 (v9.map (cdL 1 cdI).enc)), (23, .v (.int .i64 (v9.length : Int))), (24, .v (.int .i64 c10)), (30, .v (.bool (decide (c10 > 0))))], hp⟩ (fun e s => e = .normal ∧ ∃ s2, (∃ (h' : Hp), T h' ((bld 76 e3 r) :: L) ∧ s2 = ⟨Fr 50 [(5, e3), (9, .sl 1 (v13.map cdI.enc)), (16, .sl 1 (x1.map (cdL 1 (cdL 1 cdI)).enc)), (17, .v (.int .i64 (x1.length : Int))), (18, .v (.int .i64 c6)), (22, .sl 1 (v9.map (cdL 1 cdI).enc)), (23, .v (.int .i64 (v9.length : Int))), (24, .v (.int .i64 c10))], h'⟩) ∧ WkY e_evening_Format s s2) := by
 unfold evening_Format_j3 at h
 refine SemY.cond (b := (decide (c10 > 0))) kr (fun hb14 => ?_) (fun hb14 => ?_)
 ·rw [if_pos hb14] at h
  refine SemY.regionL ?_
  by_cases hk15 : (decide (0 < ([32, 47, 32] : List UInt8).length)) = true
  case neg => rw [if_neg hk15] at h; cases h
  rw [if_pos hk15] at h
  by_cases hk16 : (capOk 1 (c11.length + ([32, 47, 32] : List UInt8).length)) = true
  case neg => rw [if_neg hk16] at h; cases h
  rw [if_pos hk16] at h
  refine RunL.bwrite rfl rfl hT hk15 hk16 rfl (wantedA_none rfl) kr kr ?_
  intro hp17 hT18
  refine RunL.done rfl ?_
  have hq := Option.some.inj h; subst hq
  exact ⟨rfl, _, ⟨hp17, hT18, rfl⟩, WkY.f1⟩
 ·rw [if_f hb14] at h
  refine SemY.skip ?_
  have hq := Option.some.inj h; subst hq
  exact ⟨rfl, _, ⟨hp, hT, rfl⟩, WkY.f1⟩
theorem evening_Format_j5_ok {L : List Asn} {hp : Hp} (c23 : Int) (c24 : (List UInt8)) (x1 : (List (List (List Int)))) (e3 : AV) (c6 : Int) (v9 : (List (List Int))) (c10 : Int) (v13 : (List Int)) (v26 : Int) (r : ((List UInt8))) (h : evening_Format_j5 c23 c24 = some r) (hT : T hp ((bld 76 e3 c24) :: L)) : SemY e_evening_Format ⟨none, false⟩ (pc cb_evening_Format [1, 1, 1, 0, 1, 0, 0, 1, 1, 0, 0, 1, 0, 1, 0, 0, 1, 1, 0, 0, 1, 1, 1, 0, 0, 1, 1, 0, 0, 1, 0, 1]) ⟨Fr 50 [(5, e3), (11, .v (.int .i64 v26)), (16, .sl 1 (x1.map (cdL 1 (cdL 1 cdI)).enc)), (17, .v (.int .i64 (x1.length : Int))), (18, .v (.int .i64 c6)), (22, .sl 1 (v9.map (cdL 1 cdI).enc)), (23, .v (.int .i64 (v9.length : Int))), (24, .v (.int .i64 c10)), (32, .sl 1 (v13.map cdI.enc)), (33, .v (.int .i64 (v13.length : Int))), (34, .v (.int .i64 c23)), (40, .v (.bool (decide (c23 > 0))))], hp⟩ (fun e s => e = .normal ∧ ∃ s2, (∃ (h' : Hp), T h' ((bld 76 e3 r) :: L) ∧ s2 = ⟨Fr 50 [(5, e3), (11, .v (.int .i64 v26)), (16, .sl 1 (x1.map (cdL 1 (cdL 1 cdI)).enc)), (17, .v (.int .i64 (x1.length : Int))), (18, .v (.int .i64 c6)), (22, .sl 1 (v9.map (cdL 1 cdI).enc)), (23, .v (.int .i64 (v9.length : Int))), (24, .v (.int .i64 c10)), (32, .sl 1 (v13.map cdI.enc)), (33, .v (.int .i64 (v13.length : Int))), (34, .v (.int .i64 c23))], h'⟩) ∧ WkY e_evening_Format s s2) := by
 unfold evening_Format_j5 at h
 refine SemY.cond (b := (decide (c23 > 0))) kr (fun hb27 => ?_) (fun hb27 => ?_)
 ·rw [if_pos hb27] at h
  refine SemY.regionL ?_
  by_cases hk28 : (decide (0 < ([32] : List UInt8).length)) = true
  case neg => rw [if_neg hk28] at h; cases h
  rw [if_pos hk28] at h
  by_cases hk29 : (capOk 1 (c24.length + ([32] : List UInt8).length)) = true
  case neg => rw [if_neg hk29] at h; cases h
  rw [if_pos hk29] at h
  refine RunL.bwrite rfl rfl hT hk28 hk29 rfl (wantedA_none rfl) kr kr ?_
  intro hp30 hT31
  refine RunL.done rfl ?_
  have hq := Option.some.inj h; subst hq
  exact ⟨rfl, _, ⟨hp30, hT31, rfl⟩, WkY.f1⟩
 ·rw [if_f hb27] at h
  refine SemY.skip ?_
  have hq := Option.some.inj h; subst hq
  exact ⟨rfl, _, ⟨hp, hT, rfl⟩, WkY.f1⟩
theorem evening_Format_4_ok {L : List Asn} (v13 : (List Int)) (x1 : (List (List (List Int)))) (e3 : AV) (c6 : Int) (v9 : (List (List Int))) (c10 : Int) : ∀ (f : Nat) (c23 : Int) (c24 : (List UInt8)) (r : ((List UInt8))), evening_Format_4 v13 f c23 c24 = some r → ∀ (hp : Hp), T hp ((bld 76 e3 c24) :: L) → SemYN e_evening_Format ⟨none, false⟩ (pc cb_evening_Format [1, 1, 1, 0, 1, 0, 0, 1, 1, 0, 0, 1, 0, 1, 0, 0, 1, 1, 0, 0, 1, 1, 1, 0, 0]) f ⟨Fr 50 [(5, e3), (16, .sl 1 (x1.map (cdL 1 (cdL 1 cdI)).enc)), (17, .v (.int .i64 (x1.length : Int))), (18, .v (.int .i64 c6)), (22, .sl 1 (v9.map (cdL 1 cdI).enc)), (23, .v (.int .i64 (v9.length : Int))), (24, .v (.int .i64 c10)), (32, .sl 1 (v13.map cdI.enc)), (33, .v (.int .i64 (v13.length : Int))), (34, .v (.int .i64 c23))], hp⟩ (fun e s => e = (.exit 4) ∧ ∃ s2, (∃ (h' : Hp), T h' ((bld 76 e3 r) :: L) ∧ s2 = ⟨Fr 50 [(5, e3), (16, .sl 1 (x1.map (cdL 1 (cdL 1 cdI)).enc)), (17, .v (.int .i64 (x1.length : Int))), (18, .v (.int .i64 c6)), (22, .sl 1 (v9.map (cdL 1 cdI).enc)), (23, .v (.int .i64 (v9.length : Int))), (24, .v (.int .i64 c10))], h'⟩) ∧ WkY e_evening_Format s s2) := by
 have he := e_evening_Format_ok
 intro f
 induction f with
 | zero => intro c23 c24 r h; cases h
 | succ f ih0 =>
  intro c23 c24 r h  hp hT
  unfold evening_Format_4 at h
  refine SemYN.succ ?_
  let p1 : Nat × AV := (34, .v (.int .i64 c23))
  let p2 : Nat × AV := (33, .v (.int .i64 (v13.length : Int)))
  let p3 : Nat × AV := (32, .sl 1 (v13.map cdI.enc))
  let p4 : Nat × AV := (24, .v (.int .i64 c10))
  let p5 : Nat × AV := (23, .v (.int .i64 (v9.length : Int)))
  let p6 : Nat × AV := (22, .sl 1 (v9.map (cdL 1 cdI).enc))
  let p7 : Nat × AV := (18, .v (.int .i64 c6))
  let p8 : Nat × AV := (17, .v (.int .i64 (x1.length : Int)))
  let p9 : Nat × AV := (16, .sl 1 (x1.map (cdL 1 (cdL 1 cdI)).enc))
  refine SemY.sq he [(5, e3), p9, p8, p7, p6, p5, p4, p3, p2, p1, (35, .v (.bool (decide (c23 < (v13.length : Int)))))] ?_
  refine SemY.seq ?_
  refine SemY.cond (b := (decide (c23 < (v13.length : Int)))) kr (fun hb25 => ?_) (fun hb25 => ?_)
  ·rw [if_pos hb25] at h
   refine SemY.skip ?_
   refine SemY.seq ?_
   refine SemY.block ?_
   refine SemY.seq ?_
   refine SemY.regionL ?_
   refine RunL.sg he 1 ?_
   obtain ⟨v26, hv26, h⟩ := Option.bind_eq_some_iff.1 h
   refine RunL.one he 0 rfl (op_q (wantedA_none rfl) rfl (q_indexAddr (a := .sl 1 (v13.map cdI.enc)) (b := .v (.int .i64 c23)) kr kr (ix_sl (e := cdI.enc) (el := 3) (k := 1) (ki := .i64) kr kr hv26))) ?_
   refine RunL.fin he [(5, e3), (10, .v (.int .i64 c23)), (11, .v (.int .i64 v26)), p9, p8, p7, p6, p5, p4, p3, p2, p1] ?_
   refine SemY.seq ?_
   refine SemY.sq he [(5, e3), (11, .v (.int .i64 v26)), p9, p8, p7, p6, p5, p4, p3, p2, p1, (40, .v (.bool (decide (c23 > 0))))] ?_
   obtain ⟨r33, hr33, h⟩ := Option.bind_eq_some_iff.1 h
   refine SemY.cutT (evening_Format_j5_ok c23 c24 x1 e3 c6 v9 c10 v13 v26 _ hr33 hT) ?_
   rintro _ ⟨hp34, hT35, rfl⟩
   refine SemY.regionL ?_
   refine RunL.sg he 1 ?_
   obtain ⟨v36, hv36, h⟩ := Option.bind_eq_some_iff.1 h
   refine RunL.call he (fid := 52) (b := v36) (s := cs_strconv_Itoa) (F := fun a => strconv_Itoa a.1) (er := er_strconv_Itoa) (xs := [.v (.int .i64 v26)]) (a := (v26, ())) rfl (wantedA_none rfl) kr kr kr kr (Sns.cons (Sn.enc (c := cdI) (v := v26)) Sns.nil) (.inl kr) hv36 ?_
   by_cases hk37 : (decide (0 < v36.length)) = true
   case neg => rw [if_neg hk37] at h; cases h
   rw [if_pos hk37] at h
   by_cases hk38 : (capOk 1 (r33.length + v36.length)) = true
   case neg => rw [if_neg hk38] at h; cases h
   rw [if_pos hk38] at h
   refine RunL.bwrite rfl rfl hT35 hk37 hk38 rfl (wantedA_none rfl) kr kr ?_
   intro hp39 hT40
   refine RunL.done rfl (SemY.fr (l' := [(5, e3), p9, p8, p7, p6, p5, p4, p3, p2, p1]) kr ?_)
   refine SemY.regionL ?_
   refine RunL.sg he 2 ?_
   refine RunL.done rfl ?_
   exact SemYN.wk WkY.f1 (ih0 (wr .i64 (c23 + 1)) (r33 ++ v36) _ h  hp39 hT40)
  ·rw [if_f hb25] at h
   refine SemY.exit ?_
   have hq := Option.some.inj h; subst hq
   exact ⟨rfl, _, ⟨hp, hT, rfl⟩, WkY.f1⟩
theorem evening_Format_2_ok {L : List Asn} (v9 : (List (List Int))) (x1 : (List (List (List Int)))) (e3 : AV) (c6 : Int) : ∀ (f : Nat) (c10 : Int) (c11 : (List UInt8)) (r : ((List UInt8))), evening_Format_2 v9 f c10 c11 = some r → ∀ (hp : Hp), T hp ((bld 76 e3 c11) :: L) → SemYN e_evening_Format ⟨none, false⟩ (pc cb_evening_Format [1, 1, 1, 0, 1, 0, 0, 1, 1, 0, 0, 1, 0, 1, 0, 0]) f ⟨Fr 50 [(5, e3), (16, .sl 1 (x1.map (cdL 1 (cdL 1 cdI)).enc)), (17, .v (.int .i64 (x1.length : Int))), (18, .v (.int .i64 c6)), (22, .sl 1 (v9.map (cdL 1 cdI).enc)), (23, .v (.int .i64 (v9.length : Int))), (24, .v (.int .i64 c10))], hp⟩ (fun e s => e = (.exit 2) ∧ ∃ s2, (∃ (h' : Hp), T h' ((bld 76 e3 r) :: L) ∧ s2 = ⟨Fr 50 [(5, e3), (16, .sl 1 (x1.map (cdL 1 (cdL 1 cdI)).enc)), (17, .v (.int .i64 (x1.length : Int))), (18, .v (.int .i64 c6))], h'⟩) ∧ WkY e_evening_Format s s2) := by
 have he := e_evening_Format_ok
 intro f
 induction f with
 | zero => intro c10 c11 r h; cases h
 | succ f ih0 =>
  intro c10 c11 r h  hp hT
  unfold evening_Format_2 at h
  refine SemYN.succ ?_
  let p1 : Nat × AV := (24, .v (.int .i64 c10))
  let p2 : Nat × AV := (23, .v (.int .i64 (v9.length : Int)))
  let p3 : Nat × AV := (22, .sl 1 (v9.map (cdL 1 cdI).enc))
  let p4 : Nat × AV := (18, .v (.int .i64 c6))
  let p5 : Nat × AV := (17, .v (.int .i64 (x1.length : Int)))
  let p6 : Nat × AV := (16, .sl 1 (x1.map (cdL 1 (cdL 1 cdI)).enc))
  refine SemY.sq he [(5, e3), p6, p5, p4, p3, p2, p1, (25, .v (.bool (decide (c10 < (v9.length : Int)))))] ?_
  refine SemY.seq ?_
  refine SemY.cond (b := (decide (c10 < (v9.length : Int)))) kr (fun hb12 => ?_) (fun hb12 => ?_)
  ·rw [if_pos hb12] at h
   refine SemY.skip ?_
   refine SemY.seq ?_
   refine SemY.block ?_
   refine SemY.seq ?_
   refine SemY.regionL ?_
   refine RunL.sg he 1 ?_
   obtain ⟨v13, hv13, h⟩ := Option.bind_eq_some_iff.1 h
   refine RunL.one he 0 rfl (op_q (wantedA_none rfl) rfl (q_indexAddr (a := .sl 1 (v9.map (cdL 1 cdI).enc)) (b := .v (.int .i64 c10)) kr kr (ix_sl (e := (cdL 1 cdI).enc) (el := 31) (k := 1) (ki := .i64) kr kr hv13))) ?_
   refine RunL.fin he [(5, e3), (8, .v (.int .i64 c10)), (9, .sl 1 (v13.map cdI.enc)), p6, p5, p4, p3, p2, p1] ?_
   refine SemY.seq ?_
   refine SemY.sq he [(5, e3), (9, .sl 1 (v13.map cdI.enc)), p6, p5, p4, p3, p2, p1, (30, .v (.bool (decide (c10 > 0))))] ?_
   obtain ⟨r20, hr20, h⟩ := Option.bind_eq_some_iff.1 h
   refine SemY.cutT (evening_Format_j3_ok c10 c11 x1 e3 c6 v9 v13 _ hr20 hT) ?_
   rintro _ ⟨hp21, hT22, rfl⟩
   refine SemY.seq ?_
   refine SemY.regionL ?_
   refine RunL.sg he 1 ?_
   refine RunL.one he 0 rfl (op_q (wantedA_none rfl) rfl (q_len (a := .sl 1 (v13.map cdI.enc)) kr (len_sl (el := 3) kr))) ?_
   refine RunL.fin he [(5, e3), p6, p5, p4, p3, p2, p1, (32, .sl 1 (v13.map cdI.enc)), (33, .v (.int .i64 (v13.length : Int))), (34, .v (.int .i64 0))] ?_
   refine SemY.block ?_
   refine SemY.loop (n := 100000) ?_
   obtain ⟨r42, hr42, h⟩ := Option.bind_eq_some_iff.1 h
   refine SemYN.cutT (SemYN.wk WkY.f1 (evening_Format_4_ok v13 x1 e3 c6 v9 c10 _ 0 r20 _ hr42  hp21 hT22)) ?_
   rintro _ ⟨hp43, hT44, rfl⟩
   refine SemY.regionL ?_
   refine RunL.sg he 2 ?_
   refine RunL.done rfl ?_
   exact SemYN.wk WkY.f1 (ih0 (wr .i64 (c10 + 1)) r42 _ h  hp43 hT44)
  ·rw [if_f hb12] at h
   refine SemY.exit ?_
   have hq := Option.some.inj h; subst hq
   exact ⟨rfl, _, ⟨hp, hT, rfl⟩, WkY.f1⟩
theorem evening_Format_1_ok {L : List Asn} (x1 : (List (List (List Int)))) (e3 : AV) : ∀ (f : Nat) (c6 : Int) (c7 : (List UInt8)) (r : ((List UInt8))), evening_Format_1 x1 f c6 c7 = some r → ∀ (hp : Hp), T hp ((bld 76 e3 c7) :: L) → SemYN e_evening_Format ⟨none, false⟩ (pc cb_evening_Format [1, 1, 1, 0, 1, 0, 0]) f ⟨Fr 50 [(5, e3), (16, .sl 1 (x1.map (cdL 1 (cdL 1 cdI)).enc)), (17, .v (.int .i64 (x1.length : Int))), (18, .v (.int .i64 c6))], hp⟩ (fun e s => e = (.exit 0) ∧ ∃ s2, (∃ (h' : Hp), T h' ((bld 76 e3 r) :: L) ∧ s2 = ⟨Fr 50 [(5, e3)], h'⟩) ∧ WkY e_evening_Format s s2) := by
 have he := e_evening_Format_ok
 intro f
 induction f with
 | zero => intro c6 c7 r h; cases h
 | succ f ih0 =>
  intro c6 c7 r h  hp hT
  unfold evening_Format_1 at h
  refine SemYN.succ ?_
  let p1 : Nat × AV := (18, .v (.int .i64 c6))
  let p2 : Nat × AV := (17, .v (.int .i64 (x1.length : Int)))
  let p3 : Nat × AV := (16, .sl 1 (x1.map (cdL 1 (cdL 1 cdI)).enc))
  refine SemY.sq he [(5, e3), p3, p2, p1, (19, .v (.bool (decide (c6 < (x1.length : Int)))))] ?_
  refine SemY.seq ?_
  refine SemY.cond (b := (decide (c6 < (x1.length : Int)))) kr (fun hb8 => ?_) (fun hb8 => ?_)
  ·rw [if_pos hb8] at h
   refine SemY.skip ?_
   refine SemY.seq ?_
   refine SemY.block ?_
   refine SemY.seq ?_
   refine SemY.regionL ?_
   obtain ⟨v9, hv9, h⟩ := Option.bind_eq_some_iff.1 h
   refine RunL.one he 0 rfl (op_q (wantedA_none rfl) rfl (q_indexAddr (a := .sl 1 (x1.map (cdL 1 (cdL 1 cdI)).enc)) (b := .v (.int .i64 c6)) kr kr (ix_sl (e := (cdL 1 (cdL 1 cdI)).enc) (el := 50) (k := 1) (ki := .i64) kr kr hv9))) ?_
   refine RunL.fin he [(5, e3), (7, .sl 1 (v9.map (cdL 1 cdI).enc)), p3, p2, p1] ?_
   refine SemY.seq ?_
   refine SemY.seq ?_
   refine SemY.regionL ?_
   refine RunL.sg he 1 ?_
   refine RunL.one he 0 rfl (op_q (wantedA_none rfl) rfl (q_len (a := .sl 1 (v9.map (cdL 1 cdI).enc)) kr (len_sl (el := 31) kr))) ?_
   refine RunL.fin he [(5, e3), p3, p2, p1, (22, .sl 1 (v9.map (cdL 1 cdI).enc)), (23, .v (.int .i64 (v9.length : Int))), (24, .v (.int .i64 0))] ?_
   refine SemY.block ?_
   refine SemY.loop (n := 100000) ?_
   obtain ⟨r46, hr46, h⟩ := Option.bind_eq_some_iff.1 h
   refine SemYN.cutT (SemYN.wk WkY.f1 (evening_Format_2_ok v9 x1 e3 c6 _ 0 c7 _ hr46  hp hT)) ?_
   rintro _ ⟨hp47, hT48, rfl⟩
   refine SemY.regionL ?_
   by_cases hk49 : (decide (0 < ([10] : List UInt8).length)) = true
   case neg => rw [if_neg hk49] at h; cases h
   rw [if_pos hk49] at h
   by_cases hk50 : (capOk 1 (r46.length + ([10] : List UInt8).length)) = true
   case neg => rw [if_neg hk50] at h; cases h
   rw [if_pos hk50] at h
   refine RunL.bwrite rfl rfl hT48 hk49 hk50 rfl (wantedA_none rfl) kr kr ?_
   intro hp51 hT52
   refine RunL.done rfl (SemY.fr (l' := [(5, e3), p3, p2, p1]) kr ?_)
   refine SemY.regionL ?_
   refine RunL.sg he 2 ?_
   refine RunL.done rfl ?_
   exact SemYN.wk WkY.f1 (ih0 (wr .i64 (c6 + 1)) (r46 ++ ([10] : List UInt8)) _ h  hp51 hT52)
  ·rw [if_f hb8] at h
   refine SemY.exit ?_
   have hq := Option.some.inj h; subst hq
   exact ⟨rfl, _, ⟨hp, hT, rfl⟩, WkY.f1⟩
theorem evening_Format_sem {L : List Asn} {hp : Hp} (x0 : Int) (x1 : (List (List (List Int)))) (r : (List UInt8)) (h : evening_Format x0 x1 = some r) (hT : T hp (L)) : SemY e_evening_Format ⟨none, false⟩ cb_evening_Format ⟨Fr 50 (pairs0 0 [.v (.int .i64 x0), .sl 1 (x1.map (cdL 1 (cdL 1 cdI)).enc)]), hp⟩ fun x s' => (x = .normal ∨ x = .ret) ∧ ∃ ys, resA e_evening_Format.P s'.fr s'.hp Tryd.f17.results.toList = some ys ∧ (fun v h' => v = .st r ∧ T h' (L)) (retA ys) s'.hp := by
 have he := e_evening_Format_ok
 unfold evening_Format at h
 let p1 : Nat × AV := (1, .sl 1 (x1.map (cdL 1 (cdL 1 cdI)).enc))
 refine SemY.wkQ (SemY.wk (s1 := ⟨Fr 50 [(0, .v (.int .i64 x0)), p1], hp⟩) WkY.f1 ?_)
 refine SemY.sq he [(0, .v (.int .i64 x0)), p1] ?_
 refine SemY.seq ?_
 refine SemY.seq ?_
 refine SemY.regionL ?_
 refine RunL.sg he 2 ?_
 obtain ⟨v1, hv1, h⟩ := Option.bind_eq_some_iff.1 h
 refine RunL.call he (fid := 50) (b := v1) (s := cs_evening_valid) (F := fun a => evening_valid a.1 a.2.1) (er := er_evening_valid) (xs := [.v (.int .i64 x0), .sl 1 (x1.map (cdL 1 (cdL 1 cdI)).enc)]) (a := (x0, x1, ())) rfl (wantedA_none rfl) kr kr kr kr (Sns.cons (Sn.enc (c := cdI) (v := x0)) (Sns.cons (Sn.enc (c := (cdL 1 (cdL 1 (cdL 1 cdI)))) (v := x1)) Sns.nil)) (.inl kr) hv1 ?_
 refine RunL.fin he [p1, (15, .v (.bool (!v1)))] ?_
 refine SemY.cond (b := (!v1)) kr (fun hb2 => ?_) (fun hb2 => ?_)
 ·rw [if_pos hb2] at h
  refine SemY.sq he [(4, .st [])] ?_
  refine SemY.ret ?_
  have hq := Option.some.inj h; subst hq
  exact ⟨⟨Fr 50 [(4, .st [])], hp⟩, WkY.f1, .inr rfl, [.st []], kr, ⟨rfl, hT⟩⟩
 ·rw [if_f hb2] at h
  refine SemY.skip ?_
  refine SemY.seq ?_
  refine SemY.regionL ?_
  refine RunL.balloc (ty := 76) hT rfl (wantedA_none rfl) kr kr ?_
  intro e3 hp4 hT5
  refine RunL.done rfl (SemY.fr (l' := [p1, (5, e3)]) kr ?_)
  refine SemY.seq ?_
  refine SemY.seq ?_
  refine SemY.regionL ?_
  refine RunL.sg he 1 ?_
  refine RunL.one he 0 rfl (op_q (wantedA_none rfl) rfl (q_len (a := .sl 1 (x1.map (cdL 1 (cdL 1 cdI)).enc)) kr (len_sl (el := 50) kr))) ?_
  refine RunL.fin he [(5, e3), (16, .sl 1 (x1.map (cdL 1 (cdL 1 cdI)).enc)), (17, .v (.int .i64 (x1.length : Int))), (18, .v (.int .i64 0))] ?_
  refine SemY.block ?_
  refine SemY.loop (n := 100000) ?_
  obtain ⟨r54, hr54, h⟩ := Option.bind_eq_some_iff.1 h
  refine SemYN.cutT (SemYN.wk WkY.f1 (evening_Format_1_ok x1 e3 _ 0 ([] : List UInt8) _ hr54  hp4 hT5)) ?_
  rintro _ ⟨hp55, hT56, rfl⟩
  refine SemY.seq ?_
  refine SemY.regionL ?_
  by_cases hk57 : (okB r54) = true
  case neg => rw [if_neg hk57] at h; cases h
  rw [if_pos hk57] at h
  refine RunL.bstring rfl rfl hT56 hk57 rfl (wantedA_none rfl) kr kr ?_
  intro hp58 hT59
  refine RunL.fin he [(4, .st r54)] ?_
  refine SemY.ret ?_
  have hq := Option.some.inj h; subst hq
  exact ⟨⟨Fr 50 [(4, .st r54)], hp58⟩, WkY.f1, .inr rfl, [.st r54], kr, ⟨rfl, hT59⟩⟩
def cs_evening_Format : Cs (Int × (List (List (List Int))) × Unit) := (csC cdI (csC (cdL 1 (cdL 1 (cdL 1 cdI))) csN))
def er_evening_Format (r : (List UInt8)) : AV := cdS.enc r
def t_evening_Format : List AV → Option AV := told cs_evening_Format (fun a => evening_Format a.1 a.2.1) er_evening_Format
theorem x_evening_Format : XOk 17 t_evening_Format := by
 refine EnvOk.x (E := e_evening_Format) (contract_ok e_evening_Format_ok (fn := Tryd.f17) (c := cb_evening_Format) ?h1 ?h2 ⟨Tryd.call17⟩ cs_evening_Format (fun a => evening_Format a.1 a.2.1) er_evening_Format (fun a => (by show 2 ≤ 50; decide)) ?h3 ?h4) rfl rfl
 case h1 => kernel_rfl
 case h2 => kernel_rfl
 case h3 => intro b; kernel_rfl
 case h4 =>
  intro a b h
  refine Sem.mono (Sem.ofY (evening_Format_sem (L := []) (hp := []) a.1 a.2.1 b h T.nil)) fun e s' hs => ?_
  obtain ⟨h1, ys, h2, h3, -⟩ := hs
  exact ⟨h1, ys, h2, h3⟩
/- trestle/trestlekit.SameInts -/
noncomputable def e_kit_SameInts : Env := E0
theorem e_kit_SameInts_ok : EnvOk e_kit_SameInts := E0_ok
noncomputable def cb_kit_SameInts : Code := codeOf Tryd.f43
def kit_SameInts_1 (x0 : (List Int)) (x1 : (List Int)) : Nat → Int → Option ((Unit) ⊕ (Bool))
 | 0, _ => none
 | f + 1, c2 =>
  if (decide (c2 < (x0.length : Int))) = true then
  (idx x0 c2).bind fun v4 =>
  (idx x1 c2).bind fun v5 =>
  if (v4 != v5) = true then
  some (.inr false)
  else
  kit_SameInts_1 x0 x1 f (wr .i64 (c2 + 1))
  else
  some (.inl ())
def kit_SameInts (x0 : (List Int)) (x1 : (List Int)) : Option (Bool) :=
 if ((x0.length : Int) != (x1.length : Int)) = true then
 some false
 else
 (kit_SameInts_1 x0 x1 100000 0).bind fun r8 =>
 match r8 with
 | (.inl w9) =>
  some true
 | (.inr w10) =>
  some w10
def cs_kit_SameInts : Cs ((List Int) × (List Int) × Unit) := (csC (cdL 1 cdI) (csC (cdL 1 cdI) csN))
def er_kit_SameInts (r : Bool) : AV := cdB.enc r
theorem kit_SameInts_1_ok (x0 : (List Int)) (x1 : (List Int)) : ∀ (f : Nat) (c2 : Int) (r : (Unit) ⊕ (Bool)), kit_SameInts_1 x0 x1 f c2 = some r → SemN e_kit_SameInts ⟨none, false⟩ (pc cb_kit_SameInts [1, 1, 0, 1, 0, 0]) f ⟨Fr 26 [(0, .sl 1 (x0.map cdI.enc)), (1, .sl 1 (x1.map cdI.enc)), (5, .v (.int .i64 c2))], []⟩ (fun e s => match r with
 | (.inl w) => e = (.exit 0) ∧ Wk e_kit_SameInts s ⟨Fr 26 [], []⟩
 | (.inr w) => e = .ret ∧ Wk e_kit_SameInts s ⟨Fr 26 [(4, .v (.bool w))], []⟩) := by
 have he := e_kit_SameInts_ok
 intro f
 induction f with
 | zero => intro c2 r h; cases h
 | succ f ih0 =>
  intro c2 r h
  have ih := fun (c2 : Int) => ih0 c2 r
  unfold kit_SameInts_1 at h
  refine SemN.succ ?_
  refine Sem.seq ?_
  refine Sem.seq ?_
  let p1 : Nat × AV := (5, .v (.int .i64 c2))
  let p2 : Nat × AV := (1, .sl 1 (x1.map cdI.enc))
  let p3 : Nat × AV := (0, .sl 1 (x0.map cdI.enc))
  refine Sem.runS (s1 := ⟨Fr 26 [p3, p2, p1, (14, .v (.bool (decide (c2 < (x0.length : Int)))))], []⟩) ?_ ?_
  ·refine RunS.segF (n := 26) he 2 [p3, p2, p1, (11, .v (.int .i64 c2)), (12, .sl 1 (x0.map cdI.enc))] [] kr ?_
   refine RunS.one he 0 rfl (op_q (wantedA_none rfl) rfl (q_len (a := .sl 1 (x0.map cdI.enc)) kr (len_sl (el := 3) kr))) ?_
   exact RunS.last he
  refine Sem.cond (b := (decide (c2 < (x0.length : Int)))) kr (fun hb3 => ?_) (fun hb3 => ?_)
  ·rw [if_pos hb3] at h
   refine Sem.skip ?_
   refine Sem.seq ?_
   refine Sem.block ?_
   refine Sem.seq ?_
   obtain ⟨v4, hv4, h⟩ := Option.bind_eq_some_iff.1 h
   obtain ⟨v5, hv5, h⟩ := Option.bind_eq_some_iff.1 h
   refine Sem.runDS he (s1 := ⟨Fr 26 [p3, p2, p1, (25, .v (.bool (v4 != v5)))], []⟩) kr ?_ ?_
   ·refine RunDS.segF (n := 26) he 2 [p3, p2, p1, (17, .sl 1 (x0.map cdI.enc)), (18, .v (.int .i64 c2))] [] kr kr ?_
    refine RunDS.one he rfl kr (opd_q kr (wantedA_none rfl) rfl (q_indexAddr (a := .sl 1 (x0.map cdI.enc)) (b := .v (.int .i64 c2)) kr kr (ix_sl (e := cdI.enc) (el := 3) (k := 1) (ki := .i64) kr kr hv4)) kr) ?_
    refine RunDS.segF (n := 26) he 3 [p3, p2, p1, (20, .v (.int .i64 v4)), (21, .sl 1 (x1.map cdI.enc)), (22, .v (.int .i64 c2))] [] kr kr ?_
    refine RunDS.one he rfl kr (opd_q kr (wantedA_none rfl) rfl (q_indexAddr (a := .sl 1 (x1.map cdI.enc)) (b := .v (.int .i64 c2)) kr kr (ix_sl (e := cdI.enc) (el := 3) (k := 1) (ki := .i64) kr kr hv5)) kr) ?_
    refine RunDS.segF (n := 26) he 2 [p3, p2, p1, (25, .v (.bool (v4 != v5)))] [] kr kr ?_
    exact RunDS.done rfl Wk.f1
   refine Sem.cond (b := (v4 != v5)) kr (fun hb6 => ?_) (fun hb6 => ?_)
   ·rw [if_pos hb6] at h
    refine Sem.sq he [(4, .v (.bool false))] [] ?_
    refine Sem.ret ?_
    have hq := Option.some.inj h; subst hq
    exact ⟨rfl, Wk.f1⟩
   ·rw [if_f hb6] at h
    refine Sem.skip ?_
    let p4 : Nat × AV := (5, .v (.int .i64 (wr .i64 (c2 + 1))))
    refine Sem.rg he [p3, p2, p4] [] ?_
    exact SemN.wk (s1 := ⟨Fr 26 [p3, p2, p4], []⟩) Wk.f1 (ih (wr .i64 (c2 + 1)) h)
  ·rw [if_f hb3] at h
   refine Sem.exit ?_
   have hq := Option.some.inj h; subst hq
   exact ⟨rfl, Wk.f1⟩
theorem kit_SameInts_sem (x0 : (List Int)) (x1 : (List Int)) (r : Bool) (h : kit_SameInts x0 x1 = some r) : Sem e_kit_SameInts ⟨none, false⟩ cb_kit_SameInts ⟨Fr 26 (pairs0 0 (cs_kit_SameInts.enc (x0, x1, ()))), []⟩ fun e s' => (e = .normal ∨ e = .ret) ∧ ∃ xs, resA e_kit_SameInts.P s'.fr s'.hp Tryd.f43.results.toList = some xs ∧ retA xs = er_kit_SameInts r := by
 have he := e_kit_SameInts_ok
 unfold kit_SameInts at h
 let p1 : Nat × AV := (1, .sl 1 (x1.map cdI.enc))
 let p2 : Nat × AV := (0, .sl 1 (x0.map cdI.enc))
 refine Sem.wkQ (Sem.wk (s1 := ⟨Fr 26 [p2, p1], []⟩) Wk.f1 ?_)
 refine Sem.sq he [p2, p1] [] ?_
 refine Sem.seq ?_
 refine Sem.seq ?_
 refine Sem.runS (s1 := ⟨Fr 26 [p2, p1, (10, .v (.bool ((x0.length : Int) != (x1.length : Int))))], []⟩) ?_ ?_
 ·refine RunS.segF (n := 26) he 1 [p2, p1, (6, .sl 1 (x0.map cdI.enc))] [] kr ?_
  refine RunS.one he 0 rfl (op_q (wantedA_none rfl) rfl (q_len (a := .sl 1 (x0.map cdI.enc)) kr (len_sl (el := 3) kr))) ?_
  refine RunS.segF (n := 26) he 1 [p2, p1, (7, .v (.int .i64 (x0.length : Int))), (8, .sl 1 (x1.map cdI.enc))] [] kr ?_
  refine RunS.one he 0 rfl (op_q (wantedA_none rfl) rfl (q_len (a := .sl 1 (x1.map cdI.enc)) kr (len_sl (el := 3) kr))) ?_
  exact RunS.last he
 refine Sem.cond (b := ((x0.length : Int) != (x1.length : Int))) kr (fun hb1 => ?_) (fun hb1 => ?_)
 ·rw [if_pos hb1] at h
  refine Sem.sq he [(4, .v (.bool false))] [] ?_
  refine Sem.ret ?_
  have hq := Option.some.inj h; subst hq
  exact ⟨⟨Fr 26 [(4, .v (.bool false))], []⟩, Wk.f1, .inr rfl, [.v (.bool false)], kr, kr⟩
 ·rw [if_f hb1] at h
  refine Sem.skip ?_
  refine Sem.seq ?_
  let p3 : Nat × AV := (5, .v (.int .i64 0))
  refine Sem.sq he [p2, p1, p3] [] ?_
  refine Sem.block ?_
  obtain ⟨r8, hr8, h⟩ := Option.bind_eq_some_iff.1 h
  refine Sem.loop (n := 100000) ?_
  rcases r8 with w9 | w10
  ·try dsimp only at h
   refine Sem.cutN (SemN.wk (s1 := ⟨Fr 26 [p2, p1, p3], []⟩) Wk.f1 (kit_SameInts_1_ok x0 x1 _ 0 _ hr8)) ?_
   refine Sem.sq he [(4, .v (.bool true))] [] ?_
   refine Sem.ret ?_
   have hq := Option.some.inj h; subst hq
   exact ⟨⟨Fr 26 [(4, .v (.bool true))], []⟩, Wk.f1, .inr rfl, [.v (.bool true)], kr, kr⟩
  ·try dsimp only at h
   refine Sem.cutN (SemN.wk (s1 := ⟨Fr 26 [p2, p1, p3], []⟩) Wk.f1 (kit_SameInts_1_ok x0 x1 _ 0 _ hr8)) ?_
   have hq := Option.some.inj h; subst hq
   exact ⟨⟨Fr 26 [(4, .v (.bool w10))], []⟩, Wk.f1, .inr rfl, [.v (.bool w10)], kr, kr⟩
def t_kit_SameInts : List AV → Option AV := told cs_kit_SameInts (fun a => kit_SameInts a.1 a.2.1) er_kit_SameInts
theorem x_kit_SameInts : XOk 43 t_kit_SameInts := by
 refine EnvOk.x (E := e_kit_SameInts) (contract_ok e_kit_SameInts_ok (fn := Tryd.f43) (c := cb_kit_SameInts) ?h1 ?h2 ⟨Tryd.call43⟩ cs_kit_SameInts (fun a => kit_SameInts a.1 a.2.1) er_kit_SameInts (fun a => (by show 2 ≤ 26; decide)) ?h3 ?h4) rfl rfl
 case h1 => kernel_rfl
 case h2 => kernel_rfl
 case h3 => intro b; kernel_rfl
 case h4 => exact fun a b h => kit_SameInts_sem a.1 a.2.1 b h
/- trestle/trestlekit.SameLists -/
noncomputable def e_kit_SameLists : Env := (E0.withX 43 t_kit_SameInts)
theorem e_kit_SameLists_ok : EnvOk e_kit_SameLists := (EnvOk.withX E0_ok x_kit_SameInts.1 x_kit_SameInts.2)
noncomputable def cb_kit_SameLists : Code := codeOf Tryd.f56
def kit_SameLists_1 (x0 : (List (List Int))) (x1 : (List (List Int))) : Nat → Int → Option ((Unit) ⊕ (Bool))
 | 0, _ => none
 | f + 1, c2 =>
  if (decide (c2 < (x0.length : Int))) = true then
  (idx x0 c2).bind fun v4 =>
  (idx x1 c2).bind fun v5 =>
  (kit_SameInts v4 v5).bind fun v6 =>
  if (!v6) = true then
  some (.inr false)
  else
  kit_SameLists_1 x0 x1 f (wr .i64 (c2 + 1))
  else
  some (.inl ())
def kit_SameLists (x0 : (List (List Int))) (x1 : (List (List Int))) : Option (Bool) :=
 if ((x0.length : Int) != (x1.length : Int)) = true then
 some false
 else
 (kit_SameLists_1 x0 x1 100000 0).bind fun r9 =>
 match r9 with
 | (.inl w10) =>
  some true
 | (.inr w11) =>
  some w11
def cs_kit_SameLists : Cs ((List (List Int)) × (List (List Int)) × Unit) := (csC (cdL 1 (cdL 1 cdI)) (csC (cdL 1 (cdL 1 cdI)) csN))
def er_kit_SameLists (r : Bool) : AV := cdB.enc r
theorem kit_SameLists_1_ok (x0 : (List (List Int))) (x1 : (List (List Int))) : ∀ (f : Nat) (c2 : Int) (r : (Unit) ⊕ (Bool)), kit_SameLists_1 x0 x1 f c2 = some r → SemN e_kit_SameLists ⟨none, false⟩ (pc cb_kit_SameLists [1, 1, 0, 1, 0, 0]) f ⟨Fr 27 [(0, .sl 1 (x0.map (cdL 1 cdI).enc)), (1, .sl 1 (x1.map (cdL 1 cdI).enc)), (5, .v (.int .i64 c2))], []⟩ (fun e s => match r with
 | (.inl w) => e = (.exit 0) ∧ Wk e_kit_SameLists s ⟨Fr 27 [], []⟩
 | (.inr w) => e = .ret ∧ Wk e_kit_SameLists s ⟨Fr 27 [(4, .v (.bool w))], []⟩) := by
 have he := e_kit_SameLists_ok
 intro f
 induction f with
 | zero => intro c2 r h; cases h
 | succ f ih0 =>
  intro c2 r h
  have ih := fun (c2 : Int) => ih0 c2 r
  unfold kit_SameLists_1 at h
  refine SemN.succ ?_
  refine Sem.seq ?_
  refine Sem.seq ?_
  let p1 : Nat × AV := (5, .v (.int .i64 c2))
  let p2 : Nat × AV := (1, .sl 1 (x1.map (cdL 1 cdI).enc))
  let p3 : Nat × AV := (0, .sl 1 (x0.map (cdL 1 cdI).enc))
  refine Sem.runS (s1 := ⟨Fr 27 [p3, p2, p1, (14, .v (.bool (decide (c2 < (x0.length : Int)))))], []⟩) ?_ ?_
  ·refine RunS.segF (n := 27) he 2 [p3, p2, p1, (11, .v (.int .i64 c2)), (12, .sl 1 (x0.map (cdL 1 cdI).enc))] [] kr ?_
   refine RunS.one he 0 rfl (op_q (wantedA_none rfl) rfl (q_len (a := .sl 1 (x0.map (cdL 1 cdI).enc)) kr (len_sl (el := 31) kr))) ?_
   exact RunS.last he
  refine Sem.cond (b := (decide (c2 < (x0.length : Int)))) kr (fun hb3 => ?_) (fun hb3 => ?_)
  ·rw [if_pos hb3] at h
   refine Sem.skip ?_
   refine Sem.seq ?_
   refine Sem.block ?_
   refine Sem.seq ?_
   obtain ⟨v4, hv4, h⟩ := Option.bind_eq_some_iff.1 h
   obtain ⟨v5, hv5, h⟩ := Option.bind_eq_some_iff.1 h
   obtain ⟨v6, hv6, h⟩ := Option.bind_eq_some_iff.1 h
   refine Sem.runDS he (s1 := ⟨Fr 27 [p3, p2, p1, (26, .v (.bool (!v6)))], []⟩) kr ?_ ?_
   ·refine RunDS.segF (n := 27) he 2 [p3, p2, p1, (17, .sl 1 (x0.map (cdL 1 cdI).enc)), (18, .v (.int .i64 c2))] [] kr kr ?_
    refine RunDS.one he rfl kr (opd_q kr (wantedA_none rfl) rfl (q_indexAddr (a := .sl 1 (x0.map (cdL 1 cdI).enc)) (b := .v (.int .i64 c2)) kr kr (ix_sl (e := (cdL 1 cdI).enc) (el := 31) (k := 1) (ki := .i64) kr kr hv4)) kr) ?_
    refine RunDS.segF (n := 27) he 3 [p3, p2, p1, (20, .sl 1 (v4.map cdI.enc)), (21, .sl 1 (x1.map (cdL 1 cdI).enc)), (22, .v (.int .i64 c2))] [] kr kr ?_
    refine RunDS.one he rfl kr (opd_q kr (wantedA_none rfl) rfl (q_indexAddr (a := .sl 1 (x1.map (cdL 1 cdI).enc)) (b := .v (.int .i64 c2)) kr kr (ix_sl (e := (cdL 1 cdI).enc) (el := 31) (k := 1) (ki := .i64) kr kr hv5)) kr) ?_
    refine RunDS.segF (n := 27) he 1 [p3, p2, p1, (20, .sl 1 (v4.map cdI.enc)), (24, .sl 1 (v5.map cdI.enc))] [] kr kr ?_
    refine RunDS.call he (fid := 43) (s := cs_kit_SameInts) (F := fun a => kit_SameInts a.1 a.2.1) (er := er_kit_SameInts) (xs := [.sl 1 (v4.map cdI.enc), .sl 1 (v5.map cdI.enc)]) (a := (v4, v5, ())) rfl (wantedA_none rfl) kr kr kr (Sns.cons (Sn.enc (c := (cdL 1 cdI)) (v := v4)) (Sns.cons (Sn.enc (c := (cdL 1 cdI)) (v := v5)) Sns.nil)) kr hv6 ?_
    refine RunDS.segF (n := 27) he 1 [p3, p2, p1, (26, .v (.bool (!v6)))] [] kr kr ?_
    exact RunDS.done rfl Wk.f1
   refine Sem.cond (b := (!v6)) kr (fun hb7 => ?_) (fun hb7 => ?_)
   ·rw [if_pos hb7] at h
    refine Sem.sq he [(4, .v (.bool false))] [] ?_
    refine Sem.ret ?_
    have hq := Option.some.inj h; subst hq
    exact ⟨rfl, Wk.f1⟩
   ·rw [if_f hb7] at h
    refine Sem.skip ?_
    let p4 : Nat × AV := (5, .v (.int .i64 (wr .i64 (c2 + 1))))
    refine Sem.rg he [p3, p2, p4] [] ?_
    exact SemN.wk (s1 := ⟨Fr 27 [p3, p2, p4], []⟩) Wk.f1 (ih (wr .i64 (c2 + 1)) h)
  ·rw [if_f hb3] at h
   refine Sem.exit ?_
   have hq := Option.some.inj h; subst hq
   exact ⟨rfl, Wk.f1⟩
theorem kit_SameLists_sem (x0 : (List (List Int))) (x1 : (List (List Int))) (r : Bool) (h : kit_SameLists x0 x1 = some r) : Sem e_kit_SameLists ⟨none, false⟩ cb_kit_SameLists ⟨Fr 27 (pairs0 0 (cs_kit_SameLists.enc (x0, x1, ()))), []⟩ fun e s' => (e = .normal ∨ e = .ret) ∧ ∃ xs, resA e_kit_SameLists.P s'.fr s'.hp Tryd.f56.results.toList = some xs ∧ retA xs = er_kit_SameLists r := by
 have he := e_kit_SameLists_ok
 unfold kit_SameLists at h
 let p1 : Nat × AV := (1, .sl 1 (x1.map (cdL 1 cdI).enc))
 let p2 : Nat × AV := (0, .sl 1 (x0.map (cdL 1 cdI).enc))
 refine Sem.wkQ (Sem.wk (s1 := ⟨Fr 27 [p2, p1], []⟩) Wk.f1 ?_)
 refine Sem.sq he [p2, p1] [] ?_
 refine Sem.seq ?_
 refine Sem.seq ?_
 refine Sem.runS (s1 := ⟨Fr 27 [p2, p1, (10, .v (.bool ((x0.length : Int) != (x1.length : Int))))], []⟩) ?_ ?_
 ·refine RunS.segF (n := 27) he 1 [p2, p1, (6, .sl 1 (x0.map (cdL 1 cdI).enc))] [] kr ?_
  refine RunS.one he 0 rfl (op_q (wantedA_none rfl) rfl (q_len (a := .sl 1 (x0.map (cdL 1 cdI).enc)) kr (len_sl (el := 31) kr))) ?_
  refine RunS.segF (n := 27) he 1 [p2, p1, (7, .v (.int .i64 (x0.length : Int))), (8, .sl 1 (x1.map (cdL 1 cdI).enc))] [] kr ?_
  refine RunS.one he 0 rfl (op_q (wantedA_none rfl) rfl (q_len (a := .sl 1 (x1.map (cdL 1 cdI).enc)) kr (len_sl (el := 31) kr))) ?_
  exact RunS.last he
 refine Sem.cond (b := ((x0.length : Int) != (x1.length : Int))) kr (fun hb1 => ?_) (fun hb1 => ?_)
 ·rw [if_pos hb1] at h
  refine Sem.sq he [(4, .v (.bool false))] [] ?_
  refine Sem.ret ?_
  have hq := Option.some.inj h; subst hq
  exact ⟨⟨Fr 27 [(4, .v (.bool false))], []⟩, Wk.f1, .inr rfl, [.v (.bool false)], kr, kr⟩
 ·rw [if_f hb1] at h
  refine Sem.skip ?_
  refine Sem.seq ?_
  let p3 : Nat × AV := (5, .v (.int .i64 0))
  refine Sem.sq he [p2, p1, p3] [] ?_
  refine Sem.block ?_
  obtain ⟨r9, hr9, h⟩ := Option.bind_eq_some_iff.1 h
  refine Sem.loop (n := 100000) ?_
  rcases r9 with w10 | w11
  ·try dsimp only at h
   refine Sem.cutN (SemN.wk (s1 := ⟨Fr 27 [p2, p1, p3], []⟩) Wk.f1 (kit_SameLists_1_ok x0 x1 _ 0 _ hr9)) ?_
   refine Sem.sq he [(4, .v (.bool true))] [] ?_
   refine Sem.ret ?_
   have hq := Option.some.inj h; subst hq
   exact ⟨⟨Fr 27 [(4, .v (.bool true))], []⟩, Wk.f1, .inr rfl, [.v (.bool true)], kr, kr⟩
  ·try dsimp only at h
   refine Sem.cutN (SemN.wk (s1 := ⟨Fr 27 [p2, p1, p3], []⟩) Wk.f1 (kit_SameLists_1_ok x0 x1 _ 0 _ hr9)) ?_
   have hq := Option.some.inj h; subst hq
   exact ⟨⟨Fr 27 [(4, .v (.bool w11))], []⟩, Wk.f1, .inr rfl, [.v (.bool w11)], kr, kr⟩
def t_kit_SameLists : List AV → Option AV := told cs_kit_SameLists (fun a => kit_SameLists a.1 a.2.1) er_kit_SameLists
theorem x_kit_SameLists : XOk 56 t_kit_SameLists := by
 refine EnvOk.x (E := e_kit_SameLists) (contract_ok e_kit_SameLists_ok (fn := Tryd.f56) (c := cb_kit_SameLists) ?h1 ?h2 ⟨Tryd.call56⟩ cs_kit_SameLists (fun a => kit_SameLists a.1 a.2.1) er_kit_SameLists (fun a => (by show 2 ≤ 27; decide)) ?h3 ?h4) rfl rfl
 case h1 => kernel_rfl
 case h2 => kernel_rfl
 case h3 => intro b; kernel_rfl
 case h4 => exact fun a b h => kit_SameLists_sem a.1 a.2.1 b h
/- trestle/trestlelaw09.Same$1 -/
noncomputable def e_law09_Same_1 : Env := (E0.withX 56 t_kit_SameLists)
theorem e_law09_Same_1_ok : EnvOk e_law09_Same_1 := (EnvOk.withX E0_ok x_kit_SameLists.1 x_kit_SameLists.2)
noncomputable def cb_law09_Same_1 : Code := codeOf Tryd.f55
def law09_Same_1 (x0 : (List (List Int))) (x1 : (List (List Int))) : Option (Bool) :=
 (kit_SameLists x0 x1).bind fun v1 =>
 some v1
def cs_law09_Same_1 : Cs ((List (List Int)) × (List (List Int)) × Unit) := (csC (cdL 1 (cdL 1 cdI)) (csC (cdL 1 (cdL 1 cdI)) csN))
def er_law09_Same_1 (r : Bool) : AV := cdB.enc r
theorem law09_Same_1_sem (x0 : (List (List Int))) (x1 : (List (List Int))) (r : Bool) (h : law09_Same_1 x0 x1 = some r) : Sem e_law09_Same_1 ⟨none, false⟩ cb_law09_Same_1 ⟨Fr 8 (pairs0 0 (cs_law09_Same_1.enc (x0, x1, ()))), []⟩ fun e s' => (e = .normal ∨ e = .ret) ∧ ∃ xs, resA e_law09_Same_1.P s'.fr s'.hp Tryd.f55.results.toList = some xs ∧ retA xs = er_law09_Same_1 r := by
 have he := e_law09_Same_1_ok
 unfold law09_Same_1 at h
 let p1 : Nat × AV := (1, .sl 1 (x1.map (cdL 1 cdI).enc))
 let p2 : Nat × AV := (0, .sl 1 (x0.map (cdL 1 cdI).enc))
 refine Sem.wkQ (Sem.wk (s1 := ⟨Fr 8 [p2, p1], []⟩) Wk.f1 ?_)
 refine Sem.sq he [p2, p1] [] ?_
 refine Sem.seq ?_
 obtain ⟨v1, hv1, h⟩ := Option.bind_eq_some_iff.1 h
 refine Sem.runS (s1 := ⟨Fr 8 [(4, .v (.bool v1))], []⟩) ?_ ?_
 ·refine RunS.segF (n := 8) he 2 [(5, .sl 1 (x0.map (cdL 1 cdI).enc)), (6, .sl 1 (x1.map (cdL 1 cdI).enc))] [] kr ?_
  refine RunS.call he (fid := 56) (s := cs_kit_SameLists) (F := fun a => kit_SameLists a.1 a.2.1) (er := er_kit_SameLists) (xs := [.sl 1 (x0.map (cdL 1 cdI).enc), .sl 1 (x1.map (cdL 1 cdI).enc)]) (a := (x0, x1, ())) rfl (wantedA_none rfl) kr kr kr kr (Sns.cons (Sn.enc (c := (cdL 1 (cdL 1 cdI))) (v := x0)) (Sns.cons (Sn.enc (c := (cdL 1 (cdL 1 cdI))) (v := x1)) Sns.nil)) (.inl kr) hv1 ?_
  exact RunS.last he
 refine Sem.ret ?_
 have hq := Option.some.inj h; subst hq
 exact ⟨⟨Fr 8 [(4, .v (.bool v1))], []⟩, Wk.f1, .inr rfl, [.v (.bool v1)], kr, kr⟩
def t_law09_Same_1 : List AV → Option AV := told cs_law09_Same_1 (fun a => law09_Same_1 a.1 a.2.1) er_law09_Same_1
theorem x_law09_Same_1 : XOk 55 t_law09_Same_1 := by
 refine EnvOk.x (E := e_law09_Same_1) (contract_ok e_law09_Same_1_ok (fn := Tryd.f55) (c := cb_law09_Same_1) ?h1 ?h2 ⟨Tryd.call55⟩ cs_law09_Same_1 (fun a => law09_Same_1 a.1 a.2.1) er_law09_Same_1 (fun a => (by show 2 ≤ 8; decide)) ?h3 ?h4) rfl rfl
 case h1 => kernel_rfl
 case h2 => kernel_rfl
 case h3 => intro b; kernel_rfl
 case h4 => exact fun a b h => law09_Same_1_sem a.1 a.2.1 b h
/- slices.EqualFunc[[][][]int,[][][]int,[][]int,[][]int] -/
noncomputable def e_slices_EqualFunc_LLL_LLL_LL_LL__law09_Same_1 : Env := (E0.withX 55 t_law09_Same_1)
theorem e_slices_EqualFunc_LLL_LLL_LL_LL__law09_Same_1_ok : EnvOk e_slices_EqualFunc_LLL_LLL_LL_LL__law09_Same_1 := (EnvOk.withX E0_ok x_law09_Same_1.1 x_law09_Same_1.2)
noncomputable def cb_slices_EqualFunc_LLL_LLL_LL_LL__law09_Same_1 : Code := codeOf Tryd.f54
def slices_EqualFunc_LLL_LLL_LL_LL__law09_Same_1_1 (x0 : (List (List (List Int)))) (x1 : (List (List (List Int)))) : Nat → Int → Option ((Unit) ⊕ (Bool))
 | 0, _ => none
 | f + 1, c2 =>
  if (decide (c2 < (x0.length : Int))) = true then
  (idx x0 c2).bind fun v4 =>
  (idx x1 c2).bind fun v5 =>
  (law09_Same_1 v4 v5).bind fun v6 =>
  if (!v6) = true then
  some (.inr false)
  else
  slices_EqualFunc_LLL_LLL_LL_LL__law09_Same_1_1 x0 x1 f (wr .i64 (c2 + 1))
  else
  some (.inl ())
def slices_EqualFunc_LLL_LLL_LL_LL__law09_Same_1 (x0 : (List (List (List Int)))) (x1 : (List (List (List Int)))) : Option (Bool) :=
 if ((x0.length : Int) != (x1.length : Int)) = true then
 some false
 else
 (slices_EqualFunc_LLL_LLL_LL_LL__law09_Same_1_1 x0 x1 100000 0).bind fun r9 =>
 match r9 with
 | (.inl w10) =>
  some true
 | (.inr w11) =>
  some w11
def er_slices_EqualFunc_LLL_LLL_LL_LL__law09_Same_1 (r : Bool) : AV := cdB.enc r
theorem slices_EqualFunc_LLL_LLL_LL_LL__law09_Same_1_1_ok (x0 : (List (List (List Int)))) (x1 : (List (List (List Int)))) : ∀ (f : Nat) (c2 : Int) (r : (Unit) ⊕ (Bool)), slices_EqualFunc_LLL_LLL_LL_LL__law09_Same_1_1 x0 x1 f c2 = some r → SemN e_slices_EqualFunc_LLL_LLL_LL_LL__law09_Same_1 ⟨none, false⟩ (pc cb_slices_EqualFunc_LLL_LLL_LL_LL__law09_Same_1 [1, 1, 0, 1, 0, 0]) f ⟨Fr 32 [(1, .sl 1 (x1.map (cdL 1 (cdL 1 cdI)).enc)), (2, .fn 55 [] []), (15, .sl 1 (x0.map (cdL 1 (cdL 1 cdI)).enc)), (16, .v (.int .i64 (x0.length : Int))), (17, .v (.int .i64 c2))], []⟩ (fun e s => match r with
 | (.inl w) => e = (.exit 0) ∧ Wk e_slices_EqualFunc_LLL_LLL_LL_LL__law09_Same_1 s ⟨Fr 32 [], []⟩
 | (.inr w) => e = .ret ∧ Wk e_slices_EqualFunc_LLL_LLL_LL_LL__law09_Same_1 s ⟨Fr 32 [(6, .v (.bool w))], []⟩) := by
 have he := e_slices_EqualFunc_LLL_LLL_LL_LL__law09_Same_1_ok
 intro f
 induction f with
 | zero => intro c2 r h; cases h
 | succ f ih0 =>
  intro c2 r h
  have ih := fun (c2 : Int) => ih0 c2 r
  unfold slices_EqualFunc_LLL_LLL_LL_LL__law09_Same_1_1 at h
  refine SemN.succ ?_
  let p1 : Nat × AV := (17, .v (.int .i64 c2))
  let p2 : Nat × AV := (16, .v (.int .i64 (x0.length : Int)))
  let p3 : Nat × AV := (15, .sl 1 (x0.map (cdL 1 (cdL 1 cdI)).enc))
  let p4 : Nat × AV := (2, .fn 55 [] [])
  let p5 : Nat × AV := (1, .sl 1 (x1.map (cdL 1 (cdL 1 cdI)).enc))
  refine Sem.sq he [p5, p4, p3, p2, p1, (18, .v (.bool (decide (c2 < (x0.length : Int)))))] [] ?_
  refine Sem.seq ?_
  refine Sem.cond (b := (decide (c2 < (x0.length : Int)))) kr (fun hb3 => ?_) (fun hb3 => ?_)
  ·rw [if_pos hb3] at h
   refine Sem.skip ?_
   refine Sem.seq ?_
   refine Sem.block ?_
   refine Sem.seq ?_
   obtain ⟨v4, hv4, h⟩ := Option.bind_eq_some_iff.1 h
   let p6 : Nat × AV := (8, .sl 1 (v4.map (cdL 1 cdI).enc))
   refine Sem.runS (s1 := ⟨Fr 32 [p5, p4, (7, .v (.int .i64 c2)), p6, p3, p2, p1], []⟩) ?_ ?_
   ·refine RunS.segF (n := 32) he 1 [p5, p4, p3, p2, p1, (19, .v (.int .i64 c2))] [] kr ?_
    refine RunS.one he 0 rfl (op_q (wantedA_none rfl) rfl (q_indexAddr (a := .sl 1 (x0.map (cdL 1 (cdL 1 cdI)).enc)) (b := .v (.int .i64 c2)) kr kr (ix_sl (e := (cdL 1 (cdL 1 cdI)).enc) (el := 50) (k := 1) (ki := .i64) kr kr hv4))) ?_
    exact RunS.last he
   refine Sem.seq ?_
   obtain ⟨v5, hv5, h⟩ := Option.bind_eq_some_iff.1 h
   refine Sem.runS (s1 := ⟨Fr 32 [p5, p4, p6, (9, .sl 1 (v5.map (cdL 1 cdI).enc)), p3, p2, p1], []⟩) ?_ ?_
   ·refine RunS.segF (n := 32) he 2 [p5, p4, p6, p3, p2, p1, (22, .sl 1 (x1.map (cdL 1 (cdL 1 cdI)).enc)), (23, .v (.int .i64 c2))] [] kr ?_
    refine RunS.one he 0 rfl (op_q (wantedA_none rfl) rfl (q_indexAddr (a := .sl 1 (x1.map (cdL 1 (cdL 1 cdI)).enc)) (b := .v (.int .i64 c2)) kr kr (ix_sl (e := (cdL 1 (cdL 1 cdI)).enc) (el := 50) (k := 1) (ki := .i64) kr kr hv5))) ?_
    exact RunS.last he
   refine Sem.seq ?_
   obtain ⟨v6, hv6, h⟩ := Option.bind_eq_some_iff.1 h
   refine Sem.runS (s1 := ⟨Fr 32 [p5, p4, p3, p2, p1, (30, .v (.bool (!v6)))], []⟩) ?_ ?_
   ·refine RunS.segF (n := 32) he 3 [p5, p4, p3, p2, p1, (26, .fn 55 [] []), (27, .sl 1 (v4.map (cdL 1 cdI).enc)), (28, .sl 1 (v5.map (cdL 1 cdI).enc))] [] kr ?_
    refine RunS.call he (fid := 55) (s := cs_law09_Same_1) (F := fun a => law09_Same_1 a.1 a.2.1) (er := er_law09_Same_1) (xs := [.sl 1 (v4.map (cdL 1 cdI).enc), .sl 1 (v5.map (cdL 1 cdI).enc)]) (a := (v4, v5, ())) rfl (wantedA_none rfl) kr kr kr kr (Sns.cons (Sn.enc (c := (cdL 1 (cdL 1 cdI))) (v := v4)) (Sns.cons (Sn.enc (c := (cdL 1 (cdL 1 cdI))) (v := v5)) Sns.nil)) (.inl kr) hv6 ?_
    exact RunS.last he
   refine Sem.cond (b := (!v6)) kr (fun hb7 => ?_) (fun hb7 => ?_)
   ·rw [if_pos hb7] at h
    refine Sem.sq he [(6, .v (.bool false))] [] ?_
    refine Sem.ret ?_
    have hq := Option.some.inj h; subst hq
    exact ⟨rfl, Wk.f1⟩
   ·rw [if_f hb7] at h
    refine Sem.skip ?_
    let p7 : Nat × AV := (17, .v (.int .i64 (wr .i64 (c2 + 1))))
    refine Sem.rg he [p5, p4, p3, p2, p7] [] ?_
    exact SemN.wk (s1 := ⟨Fr 32 [p5, p4, p3, p2, p7], []⟩) Wk.f1 (ih (wr .i64 (c2 + 1)) h)
  ·rw [if_f hb3] at h
   refine Sem.exit ?_
   have hq := Option.some.inj h; subst hq
   exact ⟨rfl, Wk.f1⟩
theorem slices_EqualFunc_LLL_LLL_LL_LL__law09_Same_1_sem (x0 : (List (List (List Int)))) (x1 : (List (List (List Int)))) (r : Bool) (h : slices_EqualFunc_LLL_LLL_LL_LL__law09_Same_1 x0 x1 = some r) : Sem e_slices_EqualFunc_LLL_LLL_LL_LL__law09_Same_1 ⟨none, false⟩ cb_slices_EqualFunc_LLL_LLL_LL_LL__law09_Same_1 ⟨Fr 32 (pairs0 0 [.sl 1 (x0.map (cdL 1 (cdL 1 cdI)).enc), .sl 1 (x1.map (cdL 1 (cdL 1 cdI)).enc), .fn 55 [] []]), []⟩ fun e s' => (e = .normal ∨ e = .ret) ∧ ∃ xs, resA e_slices_EqualFunc_LLL_LLL_LL_LL__law09_Same_1.P s'.fr s'.hp Tryd.f54.results.toList = some xs ∧ (retA xs = er_slices_EqualFunc_LLL_LLL_LL_LL__law09_Same_1 r ∧ s'.hp = []) := by
 have he := e_slices_EqualFunc_LLL_LLL_LL_LL__law09_Same_1_ok
 unfold slices_EqualFunc_LLL_LLL_LL_LL__law09_Same_1 at h
 let p1 : Nat × AV := (2, .fn 55 [] [])
 let p2 : Nat × AV := (1, .sl 1 (x1.map (cdL 1 (cdL 1 cdI)).enc))
 let p3 : Nat × AV := (0, .sl 1 (x0.map (cdL 1 (cdL 1 cdI)).enc))
 refine Sem.wkQ (Sem.wk (s1 := ⟨Fr 32 [p3, p2, p1], []⟩) Wk.f1 ?_)
 refine Sem.sq he [p3, p2, p1] [] ?_
 refine Sem.seq ?_
 refine Sem.seq ?_
 refine Sem.runS (s1 := ⟨Fr 32 [p3, p2, p1, (14, .v (.bool ((x0.length : Int) != (x1.length : Int))))], []⟩) ?_ ?_
 ·refine RunS.segF (n := 32) he 1 [p3, p2, p1, (10, .sl 1 (x0.map (cdL 1 (cdL 1 cdI)).enc))] [] kr ?_
  refine RunS.one he 0 rfl (op_q (wantedA_none rfl) rfl (q_len (a := .sl 1 (x0.map (cdL 1 (cdL 1 cdI)).enc)) kr (len_sl (el := 50) kr))) ?_
  refine RunS.segF (n := 32) he 1 [p3, p2, p1, (11, .v (.int .i64 (x0.length : Int))), (12, .sl 1 (x1.map (cdL 1 (cdL 1 cdI)).enc))] [] kr ?_
  refine RunS.one he 0 rfl (op_q (wantedA_none rfl) rfl (q_len (a := .sl 1 (x1.map (cdL 1 (cdL 1 cdI)).enc)) kr (len_sl (el := 50) kr))) ?_
  exact RunS.last he
 refine Sem.cond (b := ((x0.length : Int) != (x1.length : Int))) kr (fun hb1 => ?_) (fun hb1 => ?_)
 ·rw [if_pos hb1] at h
  refine Sem.sq he [(6, .v (.bool false))] [] ?_
  refine Sem.ret ?_
  have hq := Option.some.inj h; subst hq
  exact ⟨⟨Fr 32 [(6, .v (.bool false))], []⟩, Wk.f1, .inr rfl, [.v (.bool false)], kr, ⟨kr, rfl⟩⟩
 ·rw [if_f hb1] at h
  refine Sem.skip ?_
  refine Sem.seq ?_
  refine Sem.seq ?_
  let p4 : Nat × AV := (17, .v (.int .i64 0))
  let p5 : Nat × AV := (16, .v (.int .i64 (x0.length : Int)))
  let p6 : Nat × AV := (15, .sl 1 (x0.map (cdL 1 (cdL 1 cdI)).enc))
  refine Sem.runS (s1 := ⟨Fr 32 [p2, p1, p6, p5, p4], []⟩) ?_ ?_
  ·refine RunS.segF (n := 32) he 1 [p2, p1, p6] [] kr ?_
   refine RunS.one he 0 rfl (op_q (wantedA_none rfl) rfl (q_len (a := .sl 1 (x0.map (cdL 1 (cdL 1 cdI)).enc)) kr (len_sl (el := 50) kr))) ?_
   exact RunS.last he
  refine Sem.block ?_
  obtain ⟨r9, hr9, h⟩ := Option.bind_eq_some_iff.1 h
  refine Sem.loop (n := 100000) ?_
  rcases r9 with w10 | w11
  ·try dsimp only at h
   refine Sem.cutN (SemN.wk (s1 := ⟨Fr 32 [p2, p1, p6, p5, p4], []⟩) Wk.f1 (slices_EqualFunc_LLL_LLL_LL_LL__law09_Same_1_1_ok x0 x1 _ 0 _ hr9)) ?_
   refine Sem.sq he [(6, .v (.bool true))] [] ?_
   refine Sem.ret ?_
   have hq := Option.some.inj h; subst hq
   exact ⟨⟨Fr 32 [(6, .v (.bool true))], []⟩, Wk.f1, .inr rfl, [.v (.bool true)], kr, ⟨kr, rfl⟩⟩
  ·try dsimp only at h
   refine Sem.cutN (SemN.wk (s1 := ⟨Fr 32 [p2, p1, p6, p5, p4], []⟩) Wk.f1 (slices_EqualFunc_LLL_LLL_LL_LL__law09_Same_1_1_ok x0 x1 _ 0 _ hr9)) ?_
   have hq := Option.some.inj h; subst hq
   exact ⟨⟨Fr 32 [(6, .v (.bool w11))], []⟩, Wk.f1, .inr rfl, [.v (.bool w11)], kr, ⟨kr, rfl⟩⟩
theorem s_slices_EqualFunc_LLL_LLL_LL_LL__law09_Same_1 (x0 : (List (List (List Int)))) (x1 : (List (List (List Int)))) (r : Bool) (h : slices_EqualFunc_LLL_LLL_LL_LL__law09_Same_1 x0 x1 = some r) : SOk 54 [.sl 1 (x0.map (cdL 1 (cdL 1 cdI)).enc), .sl 1 (x1.map (cdL 1 (cdL 1 cdI)).enc), .fn 55 [] []] (fun x h' => x = er_slices_EqualFunc_LLL_LLL_LL_LL__law09_Same_1 r ∧ h' = []) :=
 sok_of_sem e_slices_EqualFunc_LLL_LLL_LL_LL__law09_Same_1_ok rfl rfl (fn := Tryd.f54) (c := cb_slices_EqualFunc_LLL_LLL_LL_LL__law09_Same_1) kr kr ⟨Tryd.call54⟩ (by show 3 ≤ 32; decide) (slices_EqualFunc_LLL_LLL_LL_LL__law09_Same_1_sem x0 x1 r h)
/- trestle/trestlelaw09.Same -/
noncomputable def e_law09_Same : Env := E0
theorem e_law09_Same_ok : EnvOk e_law09_Same := E0_ok
noncomputable def cb_law09_Same : Code := codeOf Tryd.f18
def law09_Same (x0 : (List (List (List Int)))) (x1 : (List (List (List Int)))) : Option (Bool) :=
 (slices_EqualFunc_LLL_LLL_LL_LL__law09_Same_1 x0 x1).bind fun v1 =>
 some v1
def cs_law09_Same : Cs ((List (List (List Int))) × (List (List (List Int))) × Unit) := (csC (cdL 1 (cdL 1 (cdL 1 cdI))) (csC (cdL 1 (cdL 1 (cdL 1 cdI))) csN))
def er_law09_Same (r : Bool) : AV := cdB.enc r
theorem law09_Same_sem (x0 : (List (List (List Int)))) (x1 : (List (List (List Int)))) (r : Bool) (h : law09_Same x0 x1 = some r) : Sem e_law09_Same ⟨none, false⟩ cb_law09_Same ⟨Fr 8 (pairs0 0 (cs_law09_Same.enc (x0, x1, ()))), []⟩ fun e s' => (e = .normal ∨ e = .ret) ∧ ∃ xs, resA e_law09_Same.P s'.fr s'.hp Tryd.f18.results.toList = some xs ∧ retA xs = er_law09_Same r := by
 have he := e_law09_Same_ok
 unfold law09_Same at h
 let p1 : Nat × AV := (1, .sl 1 (x1.map (cdL 1 (cdL 1 cdI)).enc))
 let p2 : Nat × AV := (0, .sl 1 (x0.map (cdL 1 (cdL 1 cdI)).enc))
 refine Sem.wkQ (Sem.wk (s1 := ⟨Fr 8 [p2, p1], []⟩) Wk.f1 ?_)
 refine Sem.sq he [p2, p1] [] ?_
 refine Sem.seq ?_
 obtain ⟨v1, hv1, h⟩ := Option.bind_eq_some_iff.1 h
 refine Sem.runS (s1 := ⟨Fr 8 [(4, .v (.bool v1))], []⟩) ?_ ?_
 ·refine RunS.segF (n := 8) he 2 [(5, .sl 1 (x0.map (cdL 1 (cdL 1 cdI)).enc)), (6, .sl 1 (x1.map (cdL 1 (cdL 1 cdI)).enc))] [] kr ?_
  refine RunS.callS rfl rfl (s_slices_EqualFunc_LLL_LLL_LL_LL__law09_Same_1 x0 x1 _ hv1) rfl (wantedA_none rfl) kr (xs := [.sl 1 (x0.map (cdL 1 (cdL 1 cdI)).enc), .sl 1 (x1.map (cdL 1 (cdL 1 cdI)).enc), .fn 55 [] []]) kr kr (by rintro x h' ⟨rfl, rfl⟩; exact ⟨rfl, rfl⟩) ?_
  rintro x h' ⟨rfl, rfl⟩
  exact RunS.last he
 refine Sem.ret ?_
 have hq := Option.some.inj h; subst hq
 exact ⟨⟨Fr 8 [(4, .v (.bool v1))], []⟩, Wk.f1, .inr rfl, [.v (.bool v1)], kr, kr⟩
def t_law09_Same : List AV → Option AV := told cs_law09_Same (fun a => law09_Same a.1 a.2.1) er_law09_Same
theorem x_law09_Same : XOk 18 t_law09_Same := by
 refine EnvOk.x (E := e_law09_Same) (contract_ok e_law09_Same_ok (fn := Tryd.f18) (c := cb_law09_Same) ?h1 ?h2 ⟨Tryd.call18⟩ cs_law09_Same (fun a => law09_Same a.1 a.2.1) er_law09_Same (fun a => (by show 2 ≤ 8; decide)) ?h3 ?h4) rfl rfl
 case h1 => kernel_rfl
 case h2 => kernel_rfl
 case h3 => intro b; kernel_rfl
 case h4 => exact fun a b h => law09_Same_sem a.1 a.2.1 b h
/- trestle/trestlelaw09.EveningFormats -/
noncomputable def e_law09_EveningFormats : Env := (((((((E0.withX 12 t_law09_Few).withX 13 t_law09_awake).withX 14 t_law09_Copy).withX 15 t_ref09_Valid).withX 16 t_ref09_Format).withX 17 t_evening_Format).withX 18 t_law09_Same)
theorem e_law09_EveningFormats_ok : EnvOk e_law09_EveningFormats := (EnvOk.withX (EnvOk.withX (EnvOk.withX (EnvOk.withX (EnvOk.withX (EnvOk.withX (EnvOk.withX E0_ok x_law09_Few.1 x_law09_Few.2) x_law09_awake.1 x_law09_awake.2) x_law09_Copy.1 x_law09_Copy.2) x_ref09_Valid.1 x_ref09_Valid.2) x_ref09_Format.1 x_ref09_Format.2) x_evening_Format.1 x_evening_Format.2) x_law09_Same.1 x_law09_Same.2)
noncomputable def cb_law09_EveningFormats : Code := codeOf Tryd.f3
def law09_EveningFormats_j1 (x0 : Int) (x1 : (List (List (List Int)))) (v4 : (List (List (List Int)))) (v5 : Bool) : Option (((List UInt8))) :=
 if v5 = true then
 (ref09_Format x1).bind fun v7 =>
 some v7
 else
 some []
def law09_EveningFormats (x0 : Int) (x1 : (List (List (List Int)))) : Option (Bool) :=
 (law09_Few x1 400).bind fun v1 =>
 if (!v1) = true then
 law09_awake.bind fun v3 =>
 some v3
 else
 (law09_Copy x1).bind fun v4 =>
 (ref09_Valid x0 x1).bind fun v5 =>
 (law09_EveningFormats_j1 x0 x1 v4 v5).bind fun r9 =>
 (evening_Format x0 v4).bind fun v10 =>
 (if (v10 == r9) = true then (law09_Same v4 x1).bind fun v11 =>
 if v11 = true then law09_awake.bind fun v12 =>
 some v12 else some false else some false).bind fun j14 =>
 some j14
def cs_law09_EveningFormats : Cs (Int × (List (List (List Int))) × Unit) := (csC cdI (csC (cdL 1 (cdL 1 (cdL 1 cdI))) csN))
def er_law09_EveningFormats (r : Bool) : AV := cdB.enc r
theorem law09_EveningFormats_j1_ok (x0 : Int) (x1 : (List (List (List Int)))) (v4 : (List (List (List Int)))) (v5 : Bool) (r : ((List UInt8))) (h : law09_EveningFormats_j1 x0 x1 v4 v5 = some r) : Sem e_law09_EveningFormats ⟨none, false⟩ (pc cb_law09_EveningFormats [1, 1, 1, 0, 1]) ⟨Fr 31 [(0, .v (.int .i64 x0)), (1, .sl 1 (x1.map (cdL 1 (cdL 1 cdI)).enc)), (5, .sl 1 (v4.map (cdL 1 (cdL 1 cdI)).enc)), (6, .st []), (15, .v (.bool v5))], []⟩ (fun e s => e = .normal ∧ Wk e_law09_EveningFormats s ⟨Fr 31 [(0, .v (.int .i64 x0)), (1, .sl 1 (x1.map (cdL 1 (cdL 1 cdI)).enc)), (5, .sl 1 (v4.map (cdL 1 (cdL 1 cdI)).enc)), (6, .st r)], []⟩) := by
 have he := e_law09_EveningFormats_ok
 unfold law09_EveningFormats_j1 at h
 refine Sem.cond (b := v5) kr (fun hb6 => ?_) (fun hb6 => ?_)
 ·rw [if_pos hb6] at h
  obtain ⟨v7, hv7, h⟩ := Option.bind_eq_some_iff.1 h
  let p1 : Nat × AV := (5, .sl 1 (v4.map (cdL 1 (cdL 1 cdI)).enc))
  let p2 : Nat × AV := (1, .sl 1 (x1.map (cdL 1 (cdL 1 cdI)).enc))
  refine Sem.runS (s1 := ⟨Fr 31 [(0, .v (.int .i64 x0)), p2, p1, (6, .st v7)], []⟩) ?_ ?_
  ·refine RunS.segF (n := 31) he 1 [(0, .v (.int .i64 x0)), p2, p1, (16, .sl 1 (x1.map (cdL 1 (cdL 1 cdI)).enc))] [] kr ?_
   refine RunS.call he (fid := 16) (s := cs_ref09_Format) (F := fun a => ref09_Format a.1) (er := er_ref09_Format) (xs := [.sl 1 (x1.map (cdL 1 (cdL 1 cdI)).enc)]) (a := (x1, ())) rfl (wantedA_none rfl) kr kr kr kr (Sns.cons (Sn.enc (c := (cdL 1 (cdL 1 (cdL 1 cdI)))) (v := x1)) Sns.nil) (.inl kr) hv7 ?_
   exact RunS.last he
  have hq := Option.some.inj h; subst hq
  exact ⟨rfl, Wk.f1⟩
 ·rw [if_f hb6] at h
  refine Sem.skip ?_
  have hq := Option.some.inj h; subst hq
  exact ⟨rfl, Wk.f1⟩
theorem law09_EveningFormats_sem (x0 : Int) (x1 : (List (List (List Int)))) (r : Bool) (h : law09_EveningFormats x0 x1 = some r) : Sem e_law09_EveningFormats ⟨none, false⟩ cb_law09_EveningFormats ⟨Fr 31 (pairs0 0 (cs_law09_EveningFormats.enc (x0, x1, ()))), []⟩ fun e s' => (e = .normal ∨ e = .ret) ∧ ∃ xs, resA e_law09_EveningFormats.P s'.fr s'.hp Tryd.f3.results.toList = some xs ∧ retA xs = er_law09_EveningFormats r := by
 have he := e_law09_EveningFormats_ok
 unfold law09_EveningFormats at h
 refine Sem.wkQ (Sem.wk (s1 := ⟨Fr 31 [(0, .v (.int .i64 x0)), (1, .sl 1 (x1.map (cdL 1 (cdL 1 cdI)).enc))], []⟩) Wk.f1 ?_)
 refine Sem.sq he [(0, .v (.int .i64 x0)), (1, .sl 1 (x1.map (cdL 1 (cdL 1 cdI)).enc))] [] ?_
 refine Sem.seq ?_
 refine Sem.seq ?_
 obtain ⟨v1, hv1, h⟩ := Option.bind_eq_some_iff.1 h
 refine Sem.runS (s1 := ⟨Fr 31 [(0, .v (.int .i64 x0)), (1, .sl 1 (x1.map (cdL 1 (cdL 1 cdI)).enc)), (9, .v (.bool (!v1)))], []⟩) ?_ ?_
 ·refine RunS.segF (n := 31) he 1 [(0, .v (.int .i64 x0)), (1, .sl 1 (x1.map (cdL 1 (cdL 1 cdI)).enc)), (7, .sl 1 (x1.map (cdL 1 (cdL 1 cdI)).enc))] [] kr ?_
  refine RunS.call he (fid := 12) (s := cs_law09_Few) (F := fun a => law09_Few a.1 a.2.1) (er := er_law09_Few) (xs := [.sl 1 (x1.map (cdL 1 (cdL 1 cdI)).enc), .v (.int .i64 400)]) (a := (x1, 400, ())) rfl (wantedA_none rfl) kr kr kr kr (Sns.cons (Sn.enc (c := (cdL 1 (cdL 1 (cdL 1 cdI)))) (v := x1)) (Sns.cons (Sn.enc (c := cdI) (v := 400)) Sns.nil)) (.inl kr) hv1 ?_
  exact RunS.last he
 refine Sem.cond (b := (!v1)) kr (fun hb2 => ?_) (fun hb2 => ?_)
 ·rw [if_pos hb2] at h
  refine Sem.seq ?_
  obtain ⟨v3, hv3, h⟩ := Option.bind_eq_some_iff.1 h
  refine Sem.runS (s1 := ⟨Fr 31 [(4, .v (.bool v3))], []⟩) ?_ ?_
  ·refine RunS.call he (fid := 13) (s := cs_law09_awake) (F := fun a => law09_awake ) (er := er_law09_awake) (xs := []) (a := (())) rfl (wantedA_none rfl) kr kr kr kr Sns.nil (.inl kr) hv3 ?_
   exact RunS.last he
  refine Sem.ret ?_
  have hq := Option.some.inj h; subst hq
  exact ⟨⟨Fr 31 [(4, .v (.bool v3))], []⟩, Wk.f1, .inr rfl, [.v (.bool v3)], kr, kr⟩
 ·rw [if_f hb2] at h
  refine Sem.skip ?_
  refine Sem.seq ?_
  obtain ⟨v4, hv4, h⟩ := Option.bind_eq_some_iff.1 h
  refine Sem.runS (s1 := ⟨Fr 31 [(0, .v (.int .i64 x0)), (1, .sl 1 (x1.map (cdL 1 (cdL 1 cdI)).enc)), (5, .sl 1 (v4.map (cdL 1 (cdL 1 cdI)).enc)), (6, .st [])], []⟩) ?_ ?_
  ·refine RunS.segF (n := 31) he 1 [(0, .v (.int .i64 x0)), (1, .sl 1 (x1.map (cdL 1 (cdL 1 cdI)).enc)), (11, .sl 1 (x1.map (cdL 1 (cdL 1 cdI)).enc))] [] kr ?_
   refine RunS.call he (fid := 14) (s := cs_law09_Copy) (F := fun a => law09_Copy a.1) (er := er_law09_Copy) (xs := [.sl 1 (x1.map (cdL 1 (cdL 1 cdI)).enc)]) (a := (x1, ())) rfl (wantedA_none rfl) kr kr kr kr (Sns.cons (Sn.enc (c := (cdL 1 (cdL 1 (cdL 1 cdI)))) (v := x1)) Sns.nil) (.inl kr) hv4 ?_
   exact RunS.last he
  refine Sem.seq ?_
  refine Sem.seq ?_
  obtain ⟨v5, hv5, h⟩ := Option.bind_eq_some_iff.1 h
  refine Sem.runS (s1 := ⟨Fr 31 [(0, .v (.int .i64 x0)), (1, .sl 1 (x1.map (cdL 1 (cdL 1 cdI)).enc)), (5, .sl 1 (v4.map (cdL 1 (cdL 1 cdI)).enc)), (6, .st []), (15, .v (.bool v5))], []⟩) ?_ ?_
  ·refine RunS.segF (n := 31) he 2 [(0, .v (.int .i64 x0)), (1, .sl 1 (x1.map (cdL 1 (cdL 1 cdI)).enc)), (5, .sl 1 (v4.map (cdL 1 (cdL 1 cdI)).enc)), (6, .st []), (13, .v (.int .i64 x0)), (14, .sl 1 (x1.map (cdL 1 (cdL 1 cdI)).enc))] [] kr ?_
   refine RunS.call he (fid := 15) (s := cs_ref09_Valid) (F := fun a => ref09_Valid a.1 a.2.1) (er := er_ref09_Valid) (xs := [.v (.int .i64 x0), .sl 1 (x1.map (cdL 1 (cdL 1 cdI)).enc)]) (a := (x0, x1, ())) rfl (wantedA_none rfl) kr kr kr kr (Sns.cons (Sn.enc (c := cdI) (v := x0)) (Sns.cons (Sn.enc (c := (cdL 1 (cdL 1 (cdL 1 cdI)))) (v := x1)) Sns.nil)) (.inl kr) hv5 ?_
   exact RunS.done rfl Wk.f1
  obtain ⟨r9, hr9, h⟩ := Option.bind_eq_some_iff.1 h
  refine Sem.cut (law09_EveningFormats_j1_ok x0 x1 v4 v5 _ hr9) ?_
  refine Sem.seq ?_
  obtain ⟨v10, hv10, h⟩ := Option.bind_eq_some_iff.1 h
  obtain ⟨j14, hj14, h⟩ := Option.bind_eq_some_iff.1 h
  refine Sem.runS (s1 := ⟨Fr 31 [(4, .v (.bool j14))], []⟩) ?_ ?_
  ·refine RunS.segF (n := 31) he 2 [(1, .sl 1 (x1.map (cdL 1 (cdL 1 cdI)).enc)), (5, .sl 1 (v4.map (cdL 1 (cdL 1 cdI)).enc)), (6, .st r9), (18, .v (.int .i64 x0)), (19, .sl 1 (v4.map (cdL 1 (cdL 1 cdI)).enc))] [] kr ?_
   refine RunS.call he (fid := 17) (s := cs_evening_Format) (F := fun a => evening_Format a.1 a.2.1) (er := er_evening_Format) (xs := [.v (.int .i64 x0), .sl 1 (v4.map (cdL 1 (cdL 1 cdI)).enc)]) (a := (x0, v4, ())) rfl (wantedA_none rfl) kr kr kr kr (Sns.cons (Sn.enc (c := cdI) (v := x0)) (Sns.cons (Sn.enc (c := (cdL 1 (cdL 1 (cdL 1 cdI)))) (v := v4)) Sns.nil)) (.inl kr) hv10 ?_
   refine RunS.segF (n := 31) he 3 [(1, .sl 1 (x1.map (cdL 1 (cdL 1 cdI)).enc)), (5, .sl 1 (v4.map (cdL 1 (cdL 1 cdI)).enc)), (23, .v (.bool (v10 == r9)))] [] kr ?_
   rcases Bool.eq_false_or_eq_true (v10 == r9) with hc15 | hc15
   ·rw [if_pos hc15] at hj14
    rw [hc15]
    refine RunS.segF (n := 31) he 2 [(23, .v (.bool true)), (24, .sl 1 (v4.map (cdL 1 (cdL 1 cdI)).enc)), (25, .sl 1 (x1.map (cdL 1 (cdL 1 cdI)).enc))] [] kr ?_
    obtain ⟨v11, hv11, hj14⟩ := Option.bind_eq_some_iff.1 hj14
    refine RunS.call he (fid := 18) (s := cs_law09_Same) (F := fun a => law09_Same a.1 a.2.1) (er := er_law09_Same) (xs := [.sl 1 (v4.map (cdL 1 (cdL 1 cdI)).enc), .sl 1 (x1.map (cdL 1 (cdL 1 cdI)).enc)]) (a := (v4, x1, ())) rfl kr kr kr kr kr (Sns.cons (Sn.enc (c := (cdL 1 (cdL 1 (cdL 1 cdI)))) (v := v4)) (Sns.cons (Sn.enc (c := (cdL 1 (cdL 1 (cdL 1 cdI)))) (v := x1)) Sns.nil)) (.inl kr) hv11 ?_
    refine RunS.segF (n := 31) he 2 [(28, .v (.bool v11))] [] kr ?_
    rcases Bool.eq_false_or_eq_true v11 with hc16 | hc16
    ·rw [if_pos hc16] at hj14
     rw [hc16]
     obtain ⟨v12, hv12, hj14⟩ := Option.bind_eq_some_iff.1 hj14
     refine RunS.call he (fid := 13) (s := cs_law09_awake) (F := fun a => law09_awake ) (er := er_law09_awake) (xs := []) (a := (())) rfl kr kr kr kr kr Sns.nil (.inl kr) hv12 ?_
     refine RunS.segF (n := 31) he 2 [(4, .v (.bool v12))] [] kr ?_
     have hq := Option.some.inj hj14; subst hq
     exact RunS.done rfl Wk.f1
    ·rw [if_f hc16] at hj14
     rw [hc16]
     refine RunS.segF (n := 31) he 3 [(4, .v (.bool false))] [] kr ?_
     have hq := Option.some.inj hj14; subst hq
     exact RunS.done rfl Wk.f1
   ·rw [if_f hc15] at hj14
    rw [hc15]
    refine RunS.segF (n := 31) he 8 [(4, .v (.bool false))] [] kr ?_
    have hq := Option.some.inj hj14; subst hq
    exact RunS.done rfl Wk.f1
  refine Sem.ret ?_
  have hq := Option.some.inj h; subst hq
  exact ⟨⟨Fr 31 [(4, .v (.bool j14))], []⟩, Wk.f1, .inr rfl, [.v (.bool j14)], kr, kr⟩
def t_law09_EveningFormats : List AV → Option AV := told cs_law09_EveningFormats (fun a => law09_EveningFormats a.1 a.2.1) er_law09_EveningFormats
theorem x_law09_EveningFormats : XOk 3 t_law09_EveningFormats := by
 refine EnvOk.x (E := e_law09_EveningFormats) (contract_ok e_law09_EveningFormats_ok (fn := Tryd.f3) (c := cb_law09_EveningFormats) ?h1 ?h2 ⟨Tryd.call3⟩ cs_law09_EveningFormats (fun a => law09_EveningFormats a.1 a.2.1) er_law09_EveningFormats (fun a => (by show 2 ≤ 31; decide)) ?h3 ?h4) rfl rfl
 case h1 => kernel_rfl
 case h2 => kernel_rfl
 case h3 => intro b; kernel_rfl
 case h4 => exact fun a b h => law09_EveningFormats_sem a.1 a.2.1 b h
def in64 (n : Int) : Prop := -9223372036854775808 ≤ n ∧ n ≤ 9223372036854775807
theorem wr_i {n : Int} (h1 : -9223372036854775808 ≤ n) (h2 : n ≤ 9223372036854775807) : wr .i64 n = n := by
 show (if _ then n else _) = n
 rw [if_pos ⟨h1, h2⟩]
theorem idx_app {α : Type} (pre : List α) (v : α) (r : List α) : idx (pre ++ v :: r) (pre.length : Int) = some v := by
 unfold idx
 rw [if_pos (by omega)]
 simp
theorem idx_lt {α : Type} {xs : List α} {i : Nat} (h : i < xs.length) : idx xs (i : Int) = some xs[i] := by
 unfold idx
 rw [if_pos (by omega)]
 simp [h]
theorem snoc_len {α : Type} (pre : List α) (v : α) : ((pre.length : Int) + 1) = ((pre ++ [v]).length : Int) := by simp
theorem snoc_app {α : Type} (pre : List α) (v : α) (r : List α) : pre ++ v :: r = (pre ++ [v]) ++ r := by simp
theorem wr_snoc {α : Type} (pre : List α) (v : α) (r : List α) (h : (pre ++ v :: r).length ≤ 1000000000) : wr .i64 ((pre.length : Int) + 1) = ((pre ++ [v]).length : Int) := by
 simp at h
 rw [wr_i (by omega) (by omega)]; simp
theorem lt_len {α : Type} (pre : List α) (v : α) (r : List α) : decide ((pre.length : Int) < ((pre ++ v :: r).length : Int)) = true := by
 simp; omega
theorem nlt_len {α : Type} (pre : List α) : decide ((pre.length : Int) < ((pre ++ []).length : Int)) = false := by simp
theorem capOk_le {b n : Nat} (hb : b ≤ 1000) (h : n ≤ 1000000000) : capOk b n = true := by
 have h1 : n * b ≤ 1000000000 * 1000 := Nat.mul_le_mul h hb
 unfold capOk
 rw [Bool.and_eq_true]
 exact ⟨Nat.ble_eq_true_of_le (by omega), Nat.ble_eq_true_of_le (by omega)⟩
def joinB {α : Type} (sep : List UInt8) (f : α → List UInt8) : List α → List UInt8
 | [] => []
 | x :: r => f x ++ (r.map fun y => sep ++ f y).flatten
theorem joinB_snoc {α : Type} (sep : List UInt8) (f : α → List UInt8) (xs : List α) (x : α) : joinB sep f (xs ++ [x]) = joinB sep f xs ++ ((if xs = [] then [] else sep) ++ f x) := by
 cases xs with
 | nil => simp [joinB]
 | cons y r => simp [joinB, List.append_assoc]
theorem flatF_len {α : Type} (f : α → List UInt8) (B : Nat) : ∀ (xs : List α), (∀ x ∈ xs, (f x).length ≤ B) → ((xs.map f).flatten).length ≤ xs.length * B
 | [], _ => by simp
 | x :: r, h => by
  have h1 := h x (by simp)
  have h2 := flatF_len f B r fun y hy => h y (List.mem_cons_of_mem _ hy)
  simp only [List.map_cons, List.flatten_cons, List.length_append, List.length_cons, Nat.add_mul]
  omega
theorem joinB_len {α : Type} (sep : List UInt8) (f : α → List UInt8) (B : Nat) (xs : List α) (h : ∀ x ∈ xs, (f x).length ≤ B) : (joinB sep f xs).length ≤ xs.length * (sep.length + B) := by
 cases xs with
 | nil => simp [joinB]
 | cons x r =>
  have h1 := h x (by simp)
  have h2 := flatF_len (fun y => sep ++ f y) (sep.length + B) r fun y hy => by
   have := h y (List.mem_cons_of_mem _ hy)
   simp; omega
  simp only [joinB, List.length_append, List.length_cons, Nat.add_mul]
  omega
/-- A number below 100. -/
def numB (n : Nat) : List UInt8 := (strconv_Itoa (n : Int)).getD []
theorem num_all : ((List.range 100).all fun n => (strconv_Itoa (n : Int) == some (numB n)) && ((kit_Digits (n : Int) == some (numB n)) && (decide (0 < (numB n).length) && decide ((numB n).length ≤ 2)))) = true := by kernel_rfl
theorem num_at {n : Nat} (h : n < 100) : strconv_Itoa (n : Int) = some (numB n) ∧ kit_Digits (n : Int) = some (numB n) ∧ 0 < (numB n).length ∧ (numB n).length ≤ 2 := by
 have := List.all_eq_true.1 num_all n (by simpa using h)
 simp only [Bool.and_eq_true, beq_iff_eq, decide_eq_true_eq] at this
 exact ⟨this.1, this.2.1, this.2.2.1, this.2.2.2⟩
/-- .. as a number. -/
def numI (x : Int) : List UInt8 := numB x.toNat
theorem numI_at {x : Int} (h0 : 0 ≤ x) (h : x < 100) : strconv_Itoa x = some (numI x) ∧ kit_Digits x = some (numI x) ∧ 0 < (numI x).length ∧ (numI x).length ≤ 2 := by
 obtain ⟨n, rfl⟩ := Int.eq_ofNat_of_zero_le h0
 have := num_at (n := n) (by omega)
 unfold numI
 rw [Int.toNat_natCast]
 exact this
theorem cntF {σ ρ : Type} (n : Nat) (S : Nat → σ) (R : Option ρ) (L : Nat → Int → σ → Option ρ) (hn : n ≤ 99999) (hs : ∀ i, i < n → ∀ f, L (f + 1) (i : Int) (S i) = L f (wr .i64 ((i : Int) + 1)) (S (i + 1))) (he : ∀ f, L (f + 1) (n : Int) (S n) = R) : L 100000 0 (S 0) = R := by
 have go : ∀ (d i f : Nat), i + d = n → d < f → L f (i : Int) (S i) = R := by
  intro d
  induction d with
  | zero =>
   intro i f e hf
   obtain ⟨f, rfl⟩ : ∃ q, f = q + 1 := ⟨f - 1, by omega⟩
   rw [show i = n by omega]; exact he f
  | succ d ih =>
   intro i f e hf
   obtain ⟨f, rfl⟩ : ∃ q, f = q + 1 := ⟨f - 1, by omega⟩
   rw [hs i (by omega) f, wr_i (by omega) (by omega), show ((i : Int) + 1) = ((i + 1 : Nat) : Int) by omega]
   exact ih (i + 1) f (by omega) (by omega)
 exact go n 0 100000 (by omega) (by omega)
theorem okB_le {s : List UInt8} (h : s.length ≤ 10000000) : okB s = true := Nat.ble_eq_true_of_le (Nat.le_trans h (Nat.le_of_ble_eq_true (by kernel_rfl)))
theorem take_one {α : Type} {xs : List α} {i : Nat} (h : i < xs.length) : xs.take (i + 1) = xs.take i ++ [xs[i]] := List.take_succ_eq_append_getElem h
theorem take_nil {α : Type} {xs : List α} {i : Nat} (h : i < xs.length) : xs.take i = [] ↔ i = 0 := by
 rw [List.take_eq_nil_iff]
 constructor
 ·rintro (h1 | h1)
  ·exact h1
  ·rw [h1] at h; simp at h
 ·exact .inl
def tabF (t : List Int) : List UInt8 := joinB [32] numI t
def evF (ev : List (List Int)) : List UInt8 := joinB [32, 47, 32] tabF ev
def schF (s : List (List (List Int))) : List UInt8 := (s.map fun ev => evF ev ++ [10]).flatten
/-- Numbers of two digits, and not many. -/
structure Two (s : List (List (List Int))) : Prop where
 evs : s.length ≤ 100
 tabs : ∀ ev ∈ s, ev.length ≤ 20
 nums : ∀ ev ∈ s, ∀ t ∈ ev, t.length ≤ 1000
 two : ∀ ev ∈ s, ∀ t ∈ ev, ∀ x ∈ t, 0 ≤ x ∧ x < 100
section
variable {s : List (List (List Int))} (h : Two s)
include h
theorem tabF_len {t : List Int} (ht : t.length ≤ 1000) (h2 : ∀ x ∈ t, 0 ≤ x ∧ x < 100) : (tabF t).length ≤ 3000 := by
 have _ := h
 have := joinB_len [32] numI 2 t fun x hx => (numI_at (h2 x hx).1 (h2 x hx).2).2.2.2
 unfold tabF
 simp at this
 omega
theorem evF_len {ev : List (List Int)} (hev : ev ∈ s) (m : List (List Int)) (hm : ∀ t ∈ m, t ∈ ev) (hl : m.length ≤ 20) : (evF m).length ≤ 61000 := by
 have := joinB_len [32, 47, 32] tabF 3000 m fun t ht => tabF_len h (h.nums ev hev t (hm t ht)) (h.two ev hev t (hm t ht))
 unfold evF
 simp at this
 omega
theorem schF_len (m : List (List (List Int))) (hm : ∀ ev ∈ m, ev ∈ s) (hl : m.length ≤ 100) : (schF m).length ≤ 6200000 := by
 have := flatF_len (fun ev => evF ev ++ [10]) 62000 m fun ev hev => by
  have := evF_len h (hm ev hev) ev (fun _ h => h) (h.tabs ev (hm ev hev))
  simp; omega
 unfold schF
 omega
theorem fr_l4 (e : Nat) (he : e < s.length) (t : Nat) (ht : t < s[e].length) (acc : List UInt8) (ha : acc.length ≤ 7000000) : ref09_Format_l4 s (e : Int) (t : Int) 100000 acc 0 = some (acc ++ tabF s[e][t]) := by
 have hem : s[e] ∈ s := List.getElem_mem he
 have htm : s[e][t] ∈ s[e] := List.getElem_mem ht
 have h2 := h.two _ hem _ htm
 have hn := h.nums _ hem _ htm
 have hh := cntF (σ := List UInt8) s[e][t].length (fun k => acc ++ tabF (s[e][t].take k)) (some (acc ++ tabF s[e][t])) (fun f c q => ref09_Format_l4 s (e : Int) (t : Int) f q c) (by omega) (fun k hk f => by
  show ref09_Format_l4 s (e : Int) (t : Int) (f + 1) (acc ++ tabF (s[e][t].take k)) (k : Int) = _
  conv => lhs; unfold ref09_Format_l4
  have hx := h2 _ (List.getElem_mem hk)
  obtain ⟨_, n2, n3, n4⟩ := numI_at hx.1 hx.2
  have hl := tabF_len h (t := s[e][t].take k) (by rw [List.length_take]; omega) fun x hx => h2 x (List.mem_of_mem_take hx)
  have ej : ref09_Format_j5 s (e : Int) (t : Int) (acc ++ tabF (s[e][t].take k)) (k : Int) = some (acc ++ tabF (s[e][t].take k) ++ if s[e][t].take k = [] then [] else [32]) := by
   unfold ref09_Format_j5
   by_cases h0 : k = 0
   ·rw [if_neg (by simp [h0]), if_pos ((take_nil hk).2 h0), List.append_nil]
   ·rw [if_pos (by simp; omega), if_pos (okB_le (by simp; omega)), if_neg (fun e => h0 ((take_nil hk).1 e))]
  have en : tabF (s[e][t].take (k + 1)) = tabF (s[e][t].take k) ++ ((if s[e][t].take k = [] then [] else [32]) ++ numI s[e][t][k]) := by
   unfold tabF
   rw [take_one hk, joinB_snoc]
  have ea : acc ++ tabF (s[e][t].take k) ++ (if s[e][t].take k = [] then [] else [32]) ++ numI s[e][t][k] = acc ++ tabF (s[e][t].take (k + 1)) := by
   rw [en]; simp only [List.append_assoc]
  have ho : okB (acc ++ tabF (s[e][t].take (k + 1))) = true := okB_le (by
   have := tabF_len h (t := s[e][t].take (k + 1)) (by rw [List.length_take]; omega) fun x hx => h2 x (List.mem_of_mem_take hx)
   simp only [List.length_append]; omega)
  rw [idx_lt he, Option.bind_some, idx_lt ht, Option.bind_some, if_pos (by simp; omega), ej, Option.bind_some, Option.bind_some, idx_lt ht, Option.bind_some, idx_lt hk, Option.bind_some, n2, Option.bind_some, ea, if_pos ho]) (fun f => by
  show ref09_Format_l4 s (e : Int) (t : Int) (f + 1) (acc ++ tabF (s[e][t].take s[e][t].length)) (s[e][t].length : Int) = _
  conv => lhs; unfold ref09_Format_l4
  rw [idx_lt he, Option.bind_some, idx_lt ht, Option.bind_some, if_neg (by simp), List.take_length])
 have hh' : ref09_Format_l4 s (e : Int) (t : Int) 100000 (acc ++ []) 0 = some (acc ++ tabF s[e][t]) := hh
 rwa [List.append_nil] at hh'
theorem fr_l2 (e : Nat) (he : e < s.length) (acc : List UInt8) (ha : acc.length ≤ 6500000) : ref09_Format_l2 s (e : Int) 100000 acc 0 = some (acc ++ evF s[e]) := by
 have hem : s[e] ∈ s := List.getElem_mem he
 have hn := h.tabs _ hem
 have hh := cntF (σ := List UInt8) s[e].length (fun k => acc ++ evF (s[e].take k)) (some (acc ++ evF s[e])) (fun f c q => ref09_Format_l2 s (e : Int) f q c) (by omega) (fun k hk f => by
  show ref09_Format_l2 s (e : Int) (f + 1) (acc ++ evF (s[e].take k)) (k : Int) = _
  conv => lhs; unfold ref09_Format_l2
  have hl := evF_len h hem (s[e].take k) (fun t ht => List.mem_of_mem_take ht) (by rw [List.length_take]; omega)
  have ej : ref09_Format_j3 s (e : Int) (acc ++ evF (s[e].take k)) (k : Int) = some (acc ++ evF (s[e].take k) ++ if s[e].take k = [] then [] else [32, 47, 32]) := by
   unfold ref09_Format_j3
   by_cases h0 : k = 0
   ·rw [if_neg (by simp [h0]), if_pos ((take_nil hk).2 h0), List.append_nil]
   ·rw [if_pos (by simp; omega), if_pos (okB_le (by simp; omega)), if_neg (fun e => h0 ((take_nil hk).1 e))]
  have en : evF (s[e].take (k + 1)) = evF (s[e].take k) ++ ((if s[e].take k = [] then [] else [32, 47, 32]) ++ tabF s[e][k]) := by
   unfold evF
   rw [take_one hk, joinB_snoc]
  have hq : (acc ++ evF (s[e].take k) ++ if s[e].take k = [] then [] else [32, 47, 32]).length ≤ 7000000 := by
   have : (if s[e].take k = [] then [] else ([32, 47, 32] : List UInt8)).length ≤ 3 := by split <;> simp
   simp only [List.length_append]; omega
  rw [idx_lt he, Option.bind_some, if_pos (by simp; omega), ej, Option.bind_some, fr_l4 h e he k hk _ hq, Option.bind_some, en]
  simp only [List.append_assoc]) (fun f => by
  show ref09_Format_l2 s (e : Int) (f + 1) (acc ++ evF (s[e].take s[e].length)) (s[e].length : Int) = _
  conv => lhs; unfold ref09_Format_l2
  rw [idx_lt he, Option.bind_some, if_neg (by simp), List.take_length])
 have hh' : ref09_Format_l2 s (e : Int) 100000 (acc ++ []) 0 = some (acc ++ evF s[e]) := hh
 rwa [List.append_nil] at hh'
omit h in
theorem schF_snoc (m : List (List (List Int))) (ev : List (List Int)) : schF (m ++ [ev]) = schF m ++ (evF ev ++ [10]) := by
 unfold schF
 rw [List.map_append, List.flatten_append]; simp
theorem format_r : ref09_Format s = some (schF s) := by
 have hn := h.evs
 have hh := cntF (σ := List UInt8) s.length (fun k => schF (s.take k)) (some (schF s)) (fun f c q => ref09_Format_l1 s f q c) (by omega) (fun k hk f => by
  show ref09_Format_l1 s (f + 1) (schF (s.take k)) (k : Int) = _
  conv => lhs; unfold ref09_Format_l1
  have hl := schF_len h (s.take k) (fun ev hev => List.mem_of_mem_take hev) (by rw [List.length_take]; omega)
  have hl2 := schF_len h (s.take (k + 1)) (fun ev hev => List.mem_of_mem_take hev) (by rw [List.length_take]; omega)
  have ea : schF (s.take k) ++ evF s[k] ++ [10] = schF (s.take (k + 1)) := by
   rw [take_one hk, schF_snoc]; simp only [List.append_assoc]
  rw [if_pos (by simp; omega), fr_l2 h k hk _ (by omega), Option.bind_some, ea, if_pos (okB_le (by omega))]) (fun f => by
  show ref09_Format_l1 s (f + 1) (schF (s.take s.length)) (s.length : Int) = _
  conv => lhs; unfold ref09_Format_l1
  rw [if_neg (by simp), List.take_length])
 have hh' : ref09_Format_l1 s 100000 [] 0 = some (schF s) := hh
 unfold ref09_Format
 rw [hh']; rfl
end
/- slices.Equal[[]int,int] -/
/- trestle/evening.met -/
def sumL : List Int → Int
 | [] => 0
 | v :: r => v + sumL r
/-- Do sizes fit? -/
def fitP (n : Int) (xs : List Int) : Bool := xs.all (fun v => decide (1 ≤ v)) && decide (sumL xs = n) && decide (1 ≤ n) && decide (n ≤ 64)
def fitL : Int → List Int → Int ⊕ Bool
 | c, [] => .inl c
 | c, v :: r => if v < 1 ∨ v > c then .inr false else fitL (c - v) r
theorem fit_1 (n : Int) (xs : List Int) (hxs : xs.length ≤ 1000) : ∀ (r pre : List Int) (c : Int) (f : Nat), xs = pre ++ r → r.length < f → -9223372036854775808 ≤ c → c ≤ 9223372036854775807 → evening_fit_1 n xs f c pre.length = some (fitL c r)
 | [], pre, c, f + 1, h, _, _, _ => by
  subst h
  unfold evening_fit_1
  rw [nlt_len]
  rfl
 | v :: r, pre, c, f + 1, h, hf, h1, h2 => by
  subst h
  unfold evening_fit_1
  rw [if_pos (lt_len pre v r), idx_app]
  simp only [Option.bind_some]
  rw [wr_snoc pre v r (by omega)]
  unfold fitL
  by_cases ha : v < 1
  ·simp [ha]
  ·by_cases hb : v > c
   ·simp [ha, hb]
   ·simp only [ha, hb, decide_false, Bool.false_eq_true, if_false, Option.bind_some, false_or]
    rw [wr_i (by omega) (by omega)]
    rw [snoc_app]
    exact fit_1 n _ (by rw [← snoc_app]; exact hxs) r (pre ++ [v]) (c - v) f rfl (by simp at hf; omega) (by omega) (by omega)
theorem fitL_eq : ∀ (xs : List Int) (c : Int), (∃ d, fitL c xs = .inl d ∧ d = c - sumL xs ∧ (xs.all fun v => decide (1 ≤ v)) = true ∧ (0 ≤ c → 0 ≤ d)) ∨ (fitL c xs = .inr false ∧ ((xs.all fun v => decide (1 ≤ v)) = true → c < sumL xs))
 | [], c => .inl ⟨c, rfl, by simp [sumL], rfl, fun h => h⟩
 | v :: r, c => by
  unfold fitL
  by_cases hv : v < 1 ∨ v > c
  ·rw [if_pos hv]
   refine .inr ⟨rfl, fun h => ?_⟩
   simp only [List.all_cons, Bool.and_eq_true, decide_eq_true_eq] at h
   have : ∀ (l : List Int), (l.all fun v => decide (1 ≤ v)) = true → 0 ≤ sumL l := by
    intro l
    induction l with
    | nil => intro _; simp [sumL]
    | cons a l ih => intro h; simp only [List.all_cons, Bool.and_eq_true, decide_eq_true_eq] at h; have := ih h.2; simp only [sumL]; omega
   have := this r h.2
   simp only [sumL]
   omega
  ·rw [if_neg hv]
   rcases fitL_eq r (c - v) with ⟨d, h1, h2, h3, h4⟩ | ⟨h1, h2⟩
   ·refine .inl ⟨d, h1, by simp only [sumL]; omega, ?_, fun h => h4 (by omega)⟩
    simp only [List.all_cons, Bool.and_eq_true, decide_eq_true_eq]
    exact ⟨by omega, h3⟩
   ·refine .inr ⟨h1, fun h => ?_⟩
    simp only [List.all_cons, Bool.and_eq_true, decide_eq_true_eq] at h
    have := h2 h.2
    simp only [sumL]
    omega
theorem evening_fit_eq (n : Int) (hn : in64 n) (xs : List Int) (hxs : xs.length ≤ 1000) : evening_fit n xs = some (fitP n xs) := by
  unfold evening_fit
  rw [show (0 : Int) = (([] : List Int).length : Int) from rfl, fit_1 n xs hxs xs [] n 100000 rfl (by omega) hn.1 hn.2]
  simp only [Option.bind_some]
  rcases fitL_eq xs n with ⟨d, h1, h2, h3, h4⟩ | ⟨h1, h2⟩
  · rw [h1]
    simp only [evening_guests]
    unfold fitP
    rw [h3]
    by_cases ha : 1 ≤ n
    · by_cases hb : n ≤ 64
      · have : (d == 0) = decide (sumL xs = n) := by
          by_cases hd : d = 0
          · rw [hd]; simp; omega
          · have : ¬ sumL xs = n := by omega
            simp [this, hd]
        simp [ha, hb, this]
      · simp [ha, hb]
    · simp [ha]
  · rw [h1]
    simp only
    unfold fitP
    cases hall : xs.all (fun v => decide (1 ≤ v)) with
    | false => simp
    | true => have := h2 hall; have : ¬ sumL xs = n := by omega
              simp [this]
def fitR : Int → List Int → Int ⊕ Bool
 | c, [] => .inl c
 | c, v :: r => if v < 1 ∨ v > 64 ∨ c > 64 then .inr false else fitR (c + v) r
theorem Fit_1 (n : Int) (xs : List Int) (hxs : xs.length ≤ 1000) : ∀ (r pre : List Int) (c : Int) (f : Nat), xs = pre ++ r → r.length < f → 0 ≤ c → ref09_Fit_1 n xs f c pre.length = some (fitR c r)
 | [], pre, c, f + 1, h, _, _ => by
  subst h
  unfold ref09_Fit_1
  rw [nlt_len]
  rfl
 | v :: r, pre, c, f + 1, h, hf, h1 => by
  subst h
  unfold ref09_Fit_1
  rw [if_pos (lt_len pre v r), idx_app]
  simp only [Option.bind_some]
  rw [wr_snoc pre v r (by omega)]
  unfold fitR
  by_cases ha : v < 1
  ·simp [ha]
  ·by_cases hb : v > 64
   ·simp [ha, hb]
   ·by_cases hc : c > 64
    ·simp [ha, hb, hc]
    ·simp only [ha, hb, hc, decide_false, Bool.false_eq_true, if_false, Option.bind_some, false_or]
     rw [wr_i (by omega) (by omega)]
     rw [snoc_app]
     exact Fit_1 n _ (by rw [← snoc_app]; exact hxs) r (pre ++ [v]) (c + v) f rfl (by simp at hf; omega) (by omega)
theorem sum_nn : ∀ (l : List Int), (l.all fun v => decide (1 ≤ v)) = true → 0 ≤ sumL l
 | [], _ => by simp [sumL]
 | a :: l, h => by
  simp only [List.all_cons, Bool.and_eq_true, decide_eq_true_eq] at h
  have := sum_nn l h.2
  simp only [sumL]; omega
theorem fitR_eq : ∀ (xs : List Int) (c : Int), 0 ≤ c → (∃ d, fitR c xs = .inl d ∧ d = c + sumL xs ∧ (xs.all fun v => decide (1 ≤ v)) = true) ∨ (fitR c xs = .inr false ∧ ((xs.all fun v => decide (1 ≤ v)) = true → 64 < c + sumL xs))
 | [], c, _ => .inl ⟨c, rfl, by simp [sumL], rfl⟩
 | v :: r, c, h0 => by
  unfold fitR
  by_cases hv : v < 1 ∨ v > 64 ∨ c > 64
  ·rw [if_pos hv]
   refine .inr ⟨rfl, fun h => ?_⟩
   simp only [List.all_cons, Bool.and_eq_true, decide_eq_true_eq] at h
   have := sum_nn r h.2
   simp only [sumL]
   omega
  ·rw [if_neg hv]
   rcases fitR_eq r (c + v) (by omega) with ⟨d, h1, h2, h3⟩ | ⟨h1, h2⟩
   ·refine .inl ⟨d, h1, by simp only [sumL]; omega, ?_⟩
    simp only [List.all_cons, Bool.and_eq_true, decide_eq_true_eq]
    exact ⟨by omega, h3⟩
   ·refine .inr ⟨h1, fun h => ?_⟩
    simp only [List.all_cons, Bool.and_eq_true, decide_eq_true_eq] at h
    have := h2 h.2
    simp only [sumL]
    omega
theorem ref09_Fit_eq (n : Int) (xs : List Int) (hxs : xs.length ≤ 1000) : ref09_Fit n xs = some (fitP n xs) := by
 unfold ref09_Fit
 have e0 := Fit_1 n xs hxs xs [] 0 100000 rfl (by omega) (by omega)
 rw [show ((([] : List Int).length : Nat) : Int) = 0 from rfl] at e0
 rw [e0]
 simp only [Option.bind_some]
 rcases fitR_eq xs 0 (by omega) with ⟨d, h1, h2, h3⟩ | ⟨h1, h2⟩
 ·rw [h1]
  unfold fitP
  rw [h3]
  by_cases ha : 1 ≤ n
  ·by_cases hb : n ≤ 64
   ·have : (d == n) = decide (sumL xs = n) := by
     by_cases hd : d = n
     ·rw [hd]; simp; omega
     ·have : ¬ sumL xs = n := by omega
      simp [this, hd]
    simp [ha, hb, this]
   ·simp [ha, hb]
  ·simp [ha]
 ·rw [h1]
  unfold fitP
  cases hall : xs.all (fun v => decide (1 ≤ v)) with
  | false => simp
  | true =>
   have := h2 hall
   by_cases hs : sumL xs = n
   ·have : ¬ n ≤ 64 := by omega
    simp [hs, this]
   ·simp [hs]
/-- How often a number sits on an evening. -/
theorem times_2 (ev : List (List Int)) (x c2 : Int) (t : List Int) (ht : idx ev c2 = some t) (hl : t.length ≤ 50000) : ∀ (r pre : List Int) (f : Nat) (c : Int), t = pre ++ r → r.length < f → 0 ≤ c → c + r.length ≤ 1000000 → ref09_times_2 ev x c2 f c pre.length = some (c + (r.count x : Int))
 | [], pre, f + 1, c, h, _, _, _ => by
  unfold ref09_times_2
  rw [ht]
  subst h
  simp only [Option.bind_some]
  rw [nlt_len]
  simp
 | v :: r, pre, f + 1, c, h, hf, h0, h1 => by
  unfold ref09_times_2
  rw [ht]
  simp only [List.length_cons] at h1
  by_cases hv : v = x
  ·have ih := times_2 ev x c2 t ht hl r (pre ++ [v]) f (c + 1) (by rw [h]; simp) (by simp at hf; omega) (by omega) (by omega)
   subst h hv
   simp only [Option.bind_some]
   rw [if_pos (lt_len pre v r), idx_app]
   simp only [Option.bind_some, ref09_times_j3, beq_self_eq_true, if_true]
   rw [wr_snoc pre v r (by omega), wr_i (by omega) (by omega), ih, List.count_cons_self]
   congr 1; omega
  ·have ih := times_2 ev x c2 t ht hl r (pre ++ [v]) f c (by rw [h]; simp) (by simp at hf; omega) (by omega) (by omega)
   have hb : (v == x) = false := by simpa using hv
   subst h
   simp only [Option.bind_some]
   rw [if_pos (lt_len pre v r), idx_app]
   simp only [Option.bind_some, ref09_times_j3, hb, Bool.false_eq_true, if_false]
   rw [wr_snoc pre v r (by omega), ih, List.count_cons_of_ne hv]
theorem len_mem {α : Type} : ∀ {ev : List (List α)} {t : List α}, t ∈ ev → t.length ≤ ev.flatten.length
 | a :: ev, t, h => by
  simp only [List.flatten_cons, List.length_append]
  rcases List.mem_cons.1 h with rfl | h
  ·omega
  ·have := len_mem h; omega
theorem times_eq (ev : List (List Int)) (x : Int) (hl : ev.length ≤ 50000) (hfl : ev.flatten.length ≤ 50000) : ref09_times ev x = some (ev.flatten.count x : Int) := by
 unfold ref09_times
 have hm : ∀ t ∈ ev, t.length ≤ 50000 := fun t ht => by
  have := len_mem ht; omega
 have key : ∀ (r pre : List (List Int)) (f : Nat) (c : Int), ev = pre ++ r → r.length < f → 0 ≤ c → c + r.flatten.length ≤ 50000 → ref09_times_1 ev x f c pre.length = some (c + (r.flatten.count x : Int)) := by
  intro r
  induction r with
  | nil =>
   intro pre f c h hf h0 h1
   obtain ⟨f, rfl⟩ : ∃ g, f = g + 1 := ⟨f - 1, by simp at hf; omega⟩
   subst h
   unfold ref09_times_1
   rw [nlt_len]
   simp
  | cons t r ih =>
   intro pre f c h hf h0 h1
   obtain ⟨f, rfl⟩ : ∃ g, f = g + 1 := ⟨f - 1, by simp at hf; omega⟩
   have ht := hm t (by rw [h]; simp)
   subst h
   unfold ref09_times_1
   rw [if_pos (lt_len pre t r)]
   simp only [List.flatten_cons, List.length_append] at h1
   have hc : (t.count x) ≤ t.length := List.count_le_length
   have h2 := times_2 (pre ++ t :: r) x pre.length t (idx_app pre t r) (by omega) t [] 100000 c rfl (by omega) h0 (by omega)
   rw [show ((([] : List Int).length : Nat) : Int) = 0 from rfl] at h2
   rw [h2]
   simp only [Option.bind_some]
   simp at hl
   rw [wr_snoc pre t r (by simp; omega), ih (pre ++ [t]) f _ (by simp) (by simp at hf; omega) (by omega) (by omega)]
   simp only [List.flatten_cons, List.count_append]
   congr 1; omega
 have := key ev [] 100000 0 rfl (by omega) (by omega) (by omega)
 rw [show ((([] : List (List Int)).length : Nat) : Int) = 0 from rfl, Int.zero_add] at this
 rw [this]
 rfl
/-- Is the shape of an evening wrong? -/
def sbad (sizes : List Int) : List (List Int) → Int → Bool
 | [], _ => false
 | t :: r, i => ((t.length : Int) == 0) || (decide ((sizes.length : Int) > 0) && (match idx sizes i with | some v => ((t.length : Int) != v) | none => false)) || sbad sizes r (i + 1)
abbrev CSt := Int × Bool × Bool × List Bool
def stepC (n : Int) (s : CSt) (v : Int) : CSt := if v < 0 ∨ v ≥ n then (s.1, s.2.1, true, s.2.2.2) else ((if (s.2.2.2)[v.toNat]?.getD false then s.1 else s.1 + 1), s.2.1 || (s.2.2.2)[v.toNat]?.getD false, s.2.2.1, s.2.2.2.set v.toNat true)
theorem stepC_len (n : Int) (s : CSt) (v : Int) : (stepC n s v).2.2.2.length = s.2.2.2.length := by
 unfold stepC; split <;> simp
theorem stepC_le (n : Int) (s : CSt) (v : Int) : (stepC n s v).1 ≤ s.1 + 1 ∧ s.1 ≤ (stepC n s v).1 := by
 unfold stepC; split
 ·show s.1 ≤ s.1 + 1 ∧ s.1 ≤ s.1; omega
 ·simp only; split <;> omega
theorem check_2 (n : Int) (sizes : List Int) (ev : List (List Int)) (c9 : Int) (hn0 : 0 ≤ n) : ∀ (r pre : List Int) (s : CSt) (f : Nat) (t : List Int), t = pre ++ r → t.length ≤ 50000 → r.length < f → s.2.2.2.length = n.toNat → 0 ≤ s.1 → s.1 ≤ 1000000 + (pre.length : Int) → evening_check_2 n sizes ev c9 t f s.1 s.2.1 s.2.2.1 s.2.2.2 pre.length = some (r.foldl (stepC n) s)
 | [], pre, s, f + 1, t, ht, _, _, _, _, _ => by
  subst ht
  unfold evening_check_2
  rw [nlt_len]
  rfl
 | v :: r, pre, s, f + 1, t, ht, hl, hf, hs, h0, h1 => by
  obtain ⟨m, tw, un, seen⟩ := s
  simp only at hs h0 h1 ⊢
  have ih := check_2 n sizes ev c9 hn0 r (pre ++ [v]) (stepC n (m, tw, un, seen) v) f t (by rw [ht]; simp) hl (by simp at hf; omega) (by rw [stepC_len]; exact hs) (by have := (stepC_le n (m, tw, un, seen) v).2; simp only at this; omega) (by have := (stepC_le n (m, tw, un, seen) v).1; simp only at this; simp; omega)
  subst ht
  unfold evening_check_2
  rw [if_pos (lt_len pre v r), idx_app]
  simp only [Option.bind_some]
  rw [wr_snoc pre v r (by omega)]
  rw [List.foldl_cons]
  by_cases hv : v < 0 ∨ v ≥ n
  ·have hst : stepC n (m, tw, un, seen) v = (m, tw, true, seen) := by unfold stepC; rw [if_pos hv]
   rw [hst] at ih ⊢
   by_cases hv0 : v < 0
   ·simp only [hv0, decide_true, if_true, Option.bind_some]
    exact ih
   ·have : v ≥ n := by omega
    simp only [hv0, this, decide_false, decide_true, Bool.false_eq_true, if_false, if_true, Option.bind_some]
    exact ih
  ·have hv0 : ¬ v < 0 := by omega
   have hv1 : ¬ v ≥ n := by omega
   have hlt : v.toNat < seen.length := by omega
   have hidx : idx seen v = some (seen[v.toNat]'hlt) := by
    unfold idx; rw [if_pos (by omega)]; exact List.getElem?_eq_getElem hlt
   have hg : seen[v.toNat]?.getD false = seen[v.toNat]'hlt := by rw [List.getElem?_eq_getElem hlt]; rfl
   have hst : stepC n (m, tw, un, seen) v = ((if (seen[v.toNat]'hlt) then m else m + 1), tw || (seen[v.toNat]'hlt), un, seen.set v.toNat true) := by
    unfold stepC; rw [if_neg hv]; simp only [hg]
   rw [hst] at ih ⊢
   have hm1 : wr .i64 (m + 1) = m + 1 := wr_i (by omega) (by simp at hl; omega)
   simp only [hv0, hv1, decide_false, Bool.false_eq_true, if_false, Option.bind_some, hidx, evening_check_j3]
   cases htw : tw <;> cases hse : seen[v.toNat]'hlt <;> simp only [htw, hse, Bool.false_eq_true, if_false, if_true, Option.bind_some, Bool.not_true, Bool.not_false, hidx, hm1, Bool.or_true, Bool.or_false] at ih ⊢ <;> exact ih
theorem shape_j (sizes : List Int) (_ev : List (List Int)) (t : List Int) (i : Nat) (hs : (sizes.length : Int) > 0 → i < sizes.length) {β : Type} (b : β) : (if ((t.length : Int) == 0) = true then some (b, true) else if (decide ((sizes.length : Int) > 0)) = true then (idx sizes i).bind fun v12 => some (b, ((t.length : Int) != v12)) else some (b, false)) = some (b, ((t.length : Int) == 0) || (decide ((sizes.length : Int) > 0) && (match idx sizes i with | some v => ((t.length : Int) != v) | none => false))) := by
 cases h1 : ((t.length : Int) == 0) with
 | true => simp
 | false =>
  by_cases h2 : (sizes.length : Int) > 0
  ·have := hs h2
   rw [idx_lt this]
   have h3 : 0 < sizes.length := by omega
   simp [h3]
  ·have h3 : ¬ 0 < sizes.length := by omega
   simp [h3]
theorem check_1 (n : Int) (sizes : List Int) (ev : List (List Int)) (hn0 : 0 ≤ n) (hl : ev.length ≤ 50000) (hsz : (sizes.length : Int) > 0 → sizes.length = ev.length) : ∀ (r pre : List (List Int)) (s : CSt) (f : Nat), ev = pre ++ r → r.length < f → s.2.2.2.length = n.toNat → 0 ≤ s.1 → s.1 + r.flatten.length ≤ 50000 → evening_check_1 n sizes ev f s.1 s.2.1 s.2.2.1 s.2.2.2 pre.length = some (if sbad sizes r pre.length then .inr 2 else let q := r.flatten.foldl (stepC n) s; .inl (q.1, q.2.1, q.2.2.1))
 | [], pre, s, f + 1, h, _, _, _, _ => by
  subst h
  unfold evening_check_1
  rw [nlt_len]
  rfl
 | t :: r, pre, s, f + 1, h, hf, hs, h0, h1 => by
  obtain ⟨m, tw, un, seen⟩ := s
  simp only at hs h0 h1 ⊢
  subst h
  unfold evening_check_1
  rw [if_pos (lt_len pre t r), idx_app]
  simp only [Option.bind_some]
  rw [shape_j sizes (pre ++ t :: r) t pre.length (fun h => by rw [hsz h]; simp)]
  simp only [Option.bind_some]
  simp only [List.flatten_cons, List.length_append] at h1
  cases hb : (((t.length : Int) == 0) || (decide ((sizes.length : Int) > 0) && (match idx sizes (pre.length : Int) with | some v => ((t.length : Int) != v) | none => false))) with
  | true =>
   simp only [sbad, hb, Bool.true_or, if_true]
  | false =>
   simp only [sbad, hb, Bool.false_or, Bool.false_eq_true, if_false]
   have h2 := check_2 n sizes (pre ++ t :: r) pre.length hn0 t [] (m, tw, un, seen) 100000 t rfl (by omega) (by omega) hs h0 (by simp; omega)
   rw [show ((([] : List Int).length : Nat) : Int) = 0 from rfl] at h2
   simp only at h2
   rw [h2]
   simp only [Option.bind_some]
   have hfold : ∀ (l : List Int) (s : CSt), (l.foldl (stepC n) s).2.2.2.length = s.2.2.2.length ∧ (l.foldl (stepC n) s).1 ≤ s.1 + l.length ∧ s.1 ≤ (l.foldl (stepC n) s).1 := by
    intro l
    induction l with
    | nil => intro s; simp
    | cons a l ih =>
     intro s
     obtain ⟨a1, a2, a3⟩ := ih (stepC n s a)
     have := stepC_le n s a
     rw [List.foldl_cons]
     refine ⟨a1.trans (stepC_len n s a), ?_, ?_⟩
     ·simp; omega
     ·omega
   obtain ⟨a1, a2, a3⟩ := hfold t (m, tw, un, seen)
   simp only at a1 a2 a3
   rw [wr_snoc pre t r (by omega), check_1 n sizes (pre ++ t :: r) hn0 hl hsz r (pre ++ [t]) (t.foldl (stepC n) (m, tw, un, seen)) f (by simp) (by simp at hf; omega) (by omega) (by omega) (by omega)]
   rw [← snoc_len]
   simp only [List.flatten_cons, List.foldl_append]
def badV (n v : Int) : Bool := decide (v < 0 ∨ v ≥ n)
theorem un_eq (n : Int) : ∀ (L : List Int) (s : CSt), (L.foldl (stepC n) s).2.2.1 = (s.2.2.1 || L.any (badV n))
 | [], s => by simp
 | v :: L, s => by
  rw [List.foldl_cons, un_eq n L, List.any_cons]
  by_cases hv : v < 0 ∨ v ≥ n
  ·have hb : badV n v = true := by simp only [badV, decide_eq_true_eq]; exact hv
   have hs : (stepC n s v).2.2.1 = true := by unfold stepC; rw [if_pos hv]
   rw [hb, hs]; simp
  ·have hb : badV n v = false := by simp only [badV, decide_eq_false_iff_not]; exact hv
   have hs : (stepC n s v).2.2.1 = s.2.2.1 := by unfold stepC; rw [if_neg hv]
   rw [hb, hs]; simp
structure InvC (N : Nat) (P : List Int) (s : CSt) : Prop where
 len : s.2.2.2.length = N
 seen : ∀ k, k < N → s.2.2.2[k]?.getD false = decide ((k : Int) ∈ P)
 tw : s.2.1 = true ↔ ∃ x, 2 ≤ P.count x
 many : s.1 = (s.2.2.2.count true : Int)
theorem count_set : ∀ (l : List Bool) (k : Nat), k < l.length → ((l.set k true).count true : Int) = l.count true + (if l[k]?.getD false then 0 else 1)
 | [], k, h => by simp at h
 | b :: l, 0, _ => by cases b <;> simp
 | b :: l, k + 1, h => by
  have := count_set l k (by simpa using h)
  simp only [List.set_cons_succ, List.getElem?_cons_succ]
  cases b
  ·simpa using this
  ·simp only [List.count_cons_self]; push_cast; omega
theorem InvC.step {n : Int} {P : List Int} {s : CSt} (i : InvC n.toNat P s) {v : Int} (h0 : 0 ≤ v) (h1 : v < n) : InvC n.toNat (P ++ [v]) (stepC n s v) := by
 obtain ⟨m, tw, un, seen⟩ := s
 obtain ⟨i1, i2, i3, i4⟩ := i
 simp only at i1 i2 i3 i4
 have hst : stepC n (m, tw, un, seen) v = ((if seen[v.toNat]?.getD false then m else m + 1), tw || seen[v.toNat]?.getD false, un, seen.set v.toNat true) := by
  unfold stepC; rw [if_neg (by omega)]
 have hlt : v.toNat < seen.length := by clear i3; omega
 have hv := i2 v.toNat (by clear i3; omega)
 have hvv : ((v.toNat : Nat) : Int) = v := by clear i3; omega
 rw [hvv] at hv
 rw [hst]
 refine ⟨by simpa using i1, fun k hk => ?_, ?_, ?_⟩
 ·simp only [List.getElem?_set]
  by_cases hkv : v.toNat = k
  ·subst hkv
   simp [hlt, hvv]
  ·rw [if_neg hkv, i2 k hk]
   have : ¬ (k : Int) = v := by clear i3; omega
   simp [this]
 ·simp only [Bool.or_eq_true, i3, hv, decide_eq_true_eq]
  clear i3 i4
  constructor
  ·rintro (⟨x, hx⟩ | hm)
   ·exact ⟨x, by rw [List.count_append]; omega⟩
   ·exact ⟨v, by rw [List.count_append]; have := List.count_pos_iff.2 hm; have e : [v].count v = 1 := (by simp); omega⟩
  ·rintro ⟨x, hx⟩
   rw [List.count_append] at hx
   by_cases hxv : v = x
   ·subst hxv
    have e : [v].count v = 1 := by simp
    rw [e] at hx
    exact .inr (List.count_pos_iff.1 (by omega))
   ·rw [List.count_cons_of_ne hxv] at hx
    exact .inl ⟨x, by simpa using hx⟩
 ·simp only
  rw [count_set seen v.toNat hlt, i4]
  split <;> simp
theorem inv_all {n : Int} : ∀ (L P : List Int) (s : CSt), InvC n.toNat P s → (∀ v ∈ L, 0 ≤ v ∧ v < n) → InvC n.toNat (P ++ L) (L.foldl (stepC n) s)
 | [], P, s, h, _ => by simpa using h
 | v :: L, P, s, h, hv => by
  obtain ⟨h0, h1⟩ := hv v (by simp)
  have := inv_all L (P ++ [v]) (stepC n s v) (h.step h0 h1) fun w hw => hv w (by simp [hw])
  simpa using this
theorem inv_0 (N : Nat) : InvC N [] (0, false, false, List.replicate N false) := by
 refine ⟨by simp, fun k hk => by simp [hk], by simp, ?_⟩
 simp [List.count_replicate]
theorem count_true_lt : ∀ (l : List Bool), l.count true ≤ l.length ∧ (l.count true < l.length ↔ ∃ k, k < l.length ∧ l[k]?.getD false = false)
 | [] => by simp
 | b :: l => by
  obtain ⟨h1, h2⟩ := count_true_lt l
  cases b with
  | false =>
   refine ⟨by simp; omega, ?_⟩
   simp only [List.count_cons_of_ne (show (false : Bool) ≠ true by decide), List.length_cons]
   exact ⟨fun _ => ⟨0, by omega, rfl⟩, fun _ => by omega⟩
  | true =>
   refine ⟨by simp; omega, ?_⟩
   simp only [List.count_cons_self, List.length_cons, Nat.add_lt_add_iff_right, h2]
   constructor
   ·rintro ⟨k, a, b⟩; exact ⟨k + 1, by omega, by simpa using b⟩
   ·rintro ⟨k, a, b⟩
    cases k with
    | zero => simp at b
    | succ k => exact ⟨k, by omega, by simpa using b⟩
/-- Some number of a stretch. -/
def anyN (p : Int → Bool) : Nat → Int → Bool
 | 0, _ => false
 | k + 1, i => p i || anyN p k (i + 1)
theorem anyN_iff (p : Int → Bool) : ∀ (k : Nat) (i : Int), anyN p k i = true ↔ ∃ x, i ≤ x ∧ x < i + k ∧ p x = true
 | 0, i => by simp [anyN]; intro x h1 h2; omega
 | k + 1, i => by
  simp only [anyN, Bool.or_eq_true, anyN_iff p k]
  constructor
  ·rintro (h | ⟨x, h1, h2, h3⟩)
   ·exact ⟨i, by omega, by omega, h⟩
   ·exact ⟨x, by omega, by omega, h3⟩
  ·rintro ⟨x, h1, h2, h3⟩
   by_cases hx : x = i
   ·subst hx; exact .inl h3
   ·exact .inr ⟨x, by omega, by omega, h3⟩
/-- What an evening's check answers. -/
def chk (n : Int) (sizes : List Int) (ev : List (List Int)) : Int :=
 if (decide ((sizes.length : Int) > 0) && ((sizes.length : Int) != (ev.length : Int))) = true then 2 else
 if sbad sizes ev 0 then 2 else
 if ev.flatten.any (badV n) then 6 else
 if anyN (fun x => decide ((ev.flatten.count x : Int) > 1)) n.toNat 0 then 5 else
 if anyN (fun x => ((ev.flatten.count x : Int) == 0)) n.toNat 0 then 2 else 0
theorem evening_check_eq (n : Int) (hn0 : 0 ≤ n) (hn : n ≤ 64) (sizes : List Int) (ev : List (List Int)) (hl : ev.length ≤ 50000) (hf : ev.flatten.length ≤ 50000) : evening_check n sizes ev = some (chk n sizes ev) := by
 unfold evening_check chk
 by_cases hs : (decide ((sizes.length : Int) > 0) && ((sizes.length : Int) != (ev.length : Int))) = true
 ·rw [if_pos hs]
  simp only [Bool.and_eq_true, decide_eq_true_eq] at hs
  rw [if_pos (by simpa using hs.1)]
  simp only [Option.bind_some, hs.2, if_true]
 ·rw [if_neg hs]
  have hsz : (sizes.length : Int) > 0 → sizes.length = ev.length := fun h => by
   simp only [Bool.and_eq_true, decide_eq_true_eq, not_and, Bool.not_eq_true, bne_eq_false_iff_eq] at hs
   have := hs h; omega
  have e1 : (if (decide ((sizes.length : Int) > 0)) = true then some ((sizes.length : Int) != (ev.length : Int)) else some false) = some false := by
   by_cases h : (sizes.length : Int) > 0
   ·have := hsz h; simp [this]
   ·have h' : ¬ 0 < sizes.length := by omega
    simp [h']
  rw [e1]
  simp only [Option.bind_some, Bool.false_eq_true, if_false]
  have hmk : mkOk 1 n = true := by
   simp only [mkOk, Bool.and_eq_true, decide_eq_true_eq]; omega
  rw [if_pos hmk]
  have h1 := check_1 n sizes ev hn0 hl hsz ev [] (0, false, false, List.replicate n.toNat false) 100000 rfl (by omega) (by simp) (by simp) (by simp only; omega)
  rw [show ((([] : List (List Int)).length : Nat) : Int) = 0 from rfl] at h1
  simp only at h1
  rw [h1]
  simp only [Option.bind_some]
  cases hb : sbad sizes ev 0 with
  | true => simp
  | false =>
   simp only [Bool.false_eq_true, if_false]
   rw [un_eq]
   simp only [Bool.false_or]
   cases hu : ev.flatten.any (badV n) with
   | true => simp
   | false =>
    simp only [Bool.false_eq_true, if_false]
    have hval : ∀ v ∈ ev.flatten, 0 ≤ v ∧ v < n := fun v hv => by
     have := List.any_eq_false.1 hu v hv
     simp only [badV, decide_eq_true_eq] at this
     omega
    obtain ⟨j1, j2, j3, j4⟩ := inv_all ev.flatten [] _ (inv_0 n.toNat) hval
    rw [List.nil_append] at j2 j3
    generalize ev.flatten.foldl (stepC n) (0, false, false, List.replicate n.toNat false) = q at *
    have t1 : q.2.1 = anyN (fun x => decide ((ev.flatten.count x : Int) > 1)) n.toNat 0 := by
     rw [Bool.eq_iff_iff, j3, anyN_iff]
     constructor
     ·rintro ⟨x, hx⟩
      have := hval x (List.count_pos_iff.1 (by omega))
      exact ⟨x, by omega, by omega, by simp; omega⟩
     ·rintro ⟨x, _, _, hx⟩
      simp at hx
      exact ⟨x, by omega⟩
    have t2 : decide (q.1 < n) = anyN (fun x => ((ev.flatten.count x : Int) == 0)) n.toNat 0 := by
     rw [Bool.eq_iff_iff, anyN_iff, decide_eq_true_eq, j4]
     have hc := count_true_lt q.2.2.2
     rw [j1] at hc
     constructor
     ·intro h
      obtain ⟨k, k1, k2⟩ := hc.2.1 (by omega)
      rw [j2 k k1] at k2
      have hm : ¬ (k : Int) ∈ ev.flatten := by simpa using k2
      exact ⟨k, by omega, by omega, by rw [List.count_eq_zero.2 hm]; rfl⟩
     ·rintro ⟨x, h1, h2, h3⟩
      have h3 : ev.flatten.count x = 0 := by simpa using h3
      have hm := List.count_eq_zero.1 h3
      have := hc.2.2 ⟨x.toNat, by omega, by rw [j2 _ (by omega), show ((x.toNat : Nat) : Int) = x by omega]; simpa using hm⟩
      omega
    rw [t1, t2]
    cases anyN (fun x => decide ((ev.flatten.count x : Int) > 1)) n.toNat 0 <;> cases anyN (fun x => ((ev.flatten.count x : Int) == 0)) n.toNat 0 <;> simp
theorem shape_r (sizes : List Int) (t : List Int) (i : Nat) (hs : (sizes.length : Int) > 0 → i < sizes.length) : (if ((t.length : Int) == 0) = true then some true else if (decide ((sizes.length : Int) > 0)) = true then (idx sizes i).bind fun v7 => some (v7 != (t.length : Int)) else some false) = some (((t.length : Int) == 0) || (decide ((sizes.length : Int) > 0) && (match idx sizes i with | some v => ((t.length : Int) != v) | none => false))) := by
 cases h1 : ((t.length : Int) == 0) with
 | true => simp
 | false =>
  by_cases h2 : (sizes.length : Int) > 0
  ·have := hs h2
   rw [idx_lt this]
   have h3 : 0 < sizes.length := by omega
   simp [h3, bne_comm]
  ·have h3 : ¬ 0 < sizes.length := by omega
   simp [h3]
theorem or_if {c : Int} (X Y : Bool) : (if X = true then some (Sum.inr c) else some (if Y = true then Sum.inr c else Sum.inl ())) = some (if (X || Y) = true then Sum.inr c else Sum.inl ()) := by
 cases X <;> simp
theorem rCheck_1 (n : Int) (sizes : List Int) (ev : List (List Int)) (hl : ev.length ≤ 50000) (hsz : (sizes.length : Int) > 0 → sizes.length = ev.length) : ∀ (r pre : List (List Int)) (f : Nat), ev = pre ++ r → r.length < f → ref09_CheckEvening_1 n sizes ev f pre.length = some (if sbad sizes r pre.length then .inr 2 else .inl ())
 | [], pre, f + 1, h, _ => by
  subst h
  unfold ref09_CheckEvening_1
  rw [nlt_len]
  rfl
 | t :: r, pre, f + 1, h, hf => by
  have ih := rCheck_1 n sizes ev hl hsz r (pre ++ [t]) f (by rw [h]; simp) (by simp at hf; omega)
  subst h
  unfold ref09_CheckEvening_1
  rw [if_pos (lt_len pre t r), idx_app]
  simp only [Option.bind_some]
  rw [wr_snoc pre t r (by omega), ih, ← snoc_len, shape_r sizes t pre.length (fun h => by rw [hsz h]; simp)]
  simp only [Option.bind_some, sbad]
  exact or_if _ _
theorem rCheck_3 (n : Int) (ev : List (List Int)) (c : Int) (t : List Int) (ht : idx ev c = some t) (hl : t.length ≤ 50000) : ∀ (r pre : List Int) (f : Nat), t = pre ++ r → r.length < f → ref09_CheckEvening_3 n ev c f pre.length = some (if r.any (badV n) then .inr 6 else .inl ())
 | [], pre, f + 1, h, _ => by
  unfold ref09_CheckEvening_3
  rw [ht]
  subst h
  simp only [Option.bind_some]
  rw [nlt_len]
  rfl
 | v :: r, pre, f + 1, h, hf => by
  have ih := rCheck_3 n ev c t ht hl r (pre ++ [v]) f (by rw [h]; simp) (by simp at hf; omega)
  unfold ref09_CheckEvening_3
  rw [ht]
  subst h
  simp only [Option.bind_some]
  rw [if_pos (lt_len pre v r), idx_app]
  simp only [Option.bind_some]
  rw [wr_snoc pre v r (by omega), ih]
  simp only [List.any_cons, badV]
  by_cases h1 : v < 0
  ·simp [h1]
  ·by_cases h2 : v ≥ n
   ·simp [h1, h2]
   ·simp [h1, h2]
theorem rCheck_2 (n : Int) (ev : List (List Int)) (hl : ev.length ≤ 50000) (hm : ∀ t ∈ ev, t.length ≤ 50000) : ∀ (r pre : List (List Int)) (f : Nat), ev = pre ++ r → r.length < f → ref09_CheckEvening_2 n ev f pre.length = some (if r.flatten.any (badV n) then .inr 6 else .inl ())
 | [], pre, f + 1, h, _ => by
  subst h
  unfold ref09_CheckEvening_2
  rw [nlt_len]
  rfl
 | t :: r, pre, f + 1, h, hf => by
  have ih := rCheck_2 n ev hl hm r (pre ++ [t]) f (by rw [h]; simp) (by simp at hf; omega)
  have ht := hm t (by rw [h]; simp)
  subst h
  unfold ref09_CheckEvening_2
  rw [if_pos (lt_len pre t r)]
  have h3 := rCheck_3 n (pre ++ t :: r) pre.length t (idx_app pre t r) ht t [] 100000 rfl (by omega)
  rw [show ((([] : List Int).length : Nat) : Int) = 0 from rfl] at h3
  rw [h3]
  simp only [Option.bind_some, List.flatten_cons, List.any_append]
  cases t.any (badV n) with
  | true => simp
  | false =>
   simp only [Bool.false_eq_true, if_false, Bool.false_or]
   rw [wr_snoc pre t r (by omega), ih]
theorem rCheck_45 (n : Int) (hn : n ≤ 64) (ev : List (List Int)) (hl : ev.length ≤ 50000) (hf : ev.flatten.length ≤ 50000) :
  (∀ (k : Nat) (i : Int) (f : Nat), (k : Int) = n - i → 0 ≤ i → k < f → ref09_CheckEvening_4 n ev f i = some (if anyN (fun x => decide ((ev.flatten.count x : Int) > 1)) k i then .inr 5 else .inl ())) ∧
  (∀ (k : Nat) (i : Int) (f : Nat), (k : Int) = n - i → 0 ≤ i → k < f → ref09_CheckEvening_5 n ev f i = some (if anyN (fun x => ((ev.flatten.count x : Int) == 0)) k i then .inr 2 else .inl ())) := by
 constructor
 ·intro k
  induction k with
  | zero =>
   intro i f hk hi hf'
   obtain ⟨f, rfl⟩ : ∃ g, f = g + 1 := ⟨f - 1, by omega⟩
   unfold ref09_CheckEvening_4
   rw [if_neg (by simp; omega)]
   rfl
  | succ k ih =>
   intro i f hk hi hf'
   obtain ⟨f, rfl⟩ : ∃ g, f = g + 1 := ⟨f - 1, by omega⟩
   unfold ref09_CheckEvening_4
   rw [if_pos (by simp; omega), times_eq ev i hl hf]
   simp only [Option.bind_some, anyN]
   rw [wr_i (by omega) (by omega), ih (i + 1) f (by omega) (by omega) (by omega)]
   exact or_if _ _
 ·intro k
  induction k with
  | zero =>
   intro i f hk hi hf'
   obtain ⟨f, rfl⟩ : ∃ g, f = g + 1 := ⟨f - 1, by omega⟩
   unfold ref09_CheckEvening_5
   rw [if_neg (by simp; omega)]
   rfl
  | succ k ih =>
   intro i f hk hi hf'
   obtain ⟨f, rfl⟩ : ∃ g, f = g + 1 := ⟨f - 1, by omega⟩
   unfold ref09_CheckEvening_5
   rw [if_pos (by simp; omega), times_eq ev i hl hf]
   simp only [Option.bind_some, anyN]
   rw [wr_i (by omega) (by omega), ih (i + 1) f (by omega) (by omega) (by omega)]
   exact or_if _ _
theorem ref09_CheckEvening_eq (n : Int) (hn0 : 0 ≤ n) (hn : n ≤ 64) (sizes : List Int) (ev : List (List Int)) (hl : ev.length ≤ 50000) (hf : ev.flatten.length ≤ 50000) : ref09_CheckEvening n sizes ev = some (chk n sizes ev) := by
 unfold ref09_CheckEvening chk
 by_cases hs : (decide ((sizes.length : Int) > 0) && ((sizes.length : Int) != (ev.length : Int))) = true
 ·rw [if_pos hs]
  simp only [Bool.and_eq_true, decide_eq_true_eq] at hs
  rw [if_pos (by simpa using hs.1)]
  simp only [Option.bind_some, hs.2, if_true]
 ·rw [if_neg hs]
  have hsz : (sizes.length : Int) > 0 → sizes.length = ev.length := fun h => by
   simp only [Bool.and_eq_true, decide_eq_true_eq, not_and, Bool.not_eq_true, bne_eq_false_iff_eq] at hs
   have := hs h; omega
  have e1 : (if (decide ((sizes.length : Int) > 0)) = true then some ((sizes.length : Int) != (ev.length : Int)) else some false) = some false := by
   by_cases h : (sizes.length : Int) > 0
   ·have := hsz h; simp [this]
   ·have h' : ¬ 0 < sizes.length := by omega
    simp [h']
  rw [e1]
  simp only [Option.bind_some, Bool.false_eq_true, if_false]
  have hm : ∀ t ∈ ev, t.length ≤ 50000 := fun t ht => by
   have := len_mem ht; omega
  have h1 := rCheck_1 n sizes ev hl hsz ev [] 100000 rfl (by omega)
  have h2 := rCheck_2 n ev hl hm ev [] 100000 rfl (by omega)
  rw [show ((([] : List (List Int)).length : Nat) : Int) = 0 from rfl] at h1 h2
  obtain ⟨h4, h5⟩ := rCheck_45 n hn ev hl hf
  have h4 := h4 n.toNat 0 100000 (by omega) (by omega) (by omega)
  have h5 := h5 n.toNat 0 100000 (by omega) (by omega) (by omega)
  rw [h1]
  simp only [Option.bind_some]
  cases sbad sizes ev 0 with
  | true => simp
  | false =>
   simp only [Bool.false_eq_true, if_false]
   rw [h2]
   simp only [Option.bind_some]
   cases ev.flatten.any (badV n) with
   | true => simp
   | false =>
    simp only [Bool.false_eq_true, if_false]
    rw [h4]
    simp only [Option.bind_some]
    cases anyN (fun x => decide ((ev.flatten.count x : Int) > 1)) n.toNat 0 with
    | true => simp
    | false =>
     simp only [Bool.false_eq_true, if_false]
     rw [h5]
     simp only [Option.bind_some]
     cases anyN (fun x => ((ev.flatten.count x : Int) == 0)) n.toNat 0 <;> simp
/-- The schedule's check, told by that of its evenings. -/
def chkS (n : Int) (sizes : List Int) : List (List (List Int)) → Int → Int × Int
 | [], _ => (0, 0)
 | ev :: r, i => if chk n sizes ev != 0 then (i, chk n sizes ev) else chkS n sizes r (i + 1)
def chkAll (n : Int) (sizes : List Int) (s : List (List (List Int))) : Int × Int :=
 if (decide (n < 1) || decide (n > 64) || (decide ((sizes.length : Int) > 0) && !fitP n sizes)) = true then (0, 90) else if s.length > 64 then (0, 7) else chkS n sizes s 0
theorem check_loop (n : Int) (hn0 : 0 ≤ n) (hn : n ≤ 64) (sizes : List Int) (s : List (List (List Int))) (hs : s.length ≤ 50000) (hl : ∀ ev ∈ s, ev.length ≤ 50000 ∧ ev.flatten.length ≤ 50000) : ∀ (r pre : List (List (List Int))) (f : Nat), s = pre ++ r → r.length < f →
  (∃ q, evening_Check_1 n sizes s f pre.length = some q ∧ ref09_Check_1 n sizes s f pre.length = some q ∧ (match q with | .inl _ => chkS n sizes r pre.length = (0, 0) | .inr w => chkS n sizes r pre.length = w))
 | [], pre, f + 1, h, _ => by
  subst h
  refine ⟨.inl (), ?_, ?_, rfl⟩
  ·unfold evening_Check_1; rw [nlt_len]; rfl
  ·unfold ref09_Check_1; rw [nlt_len]; rfl
 | ev :: r, pre, f + 1, h, hf => by
  obtain ⟨h1, h2⟩ := hl ev (by rw [h]; simp)
  obtain ⟨q, a1, a2, a3⟩ := check_loop n hn0 hn sizes s hs hl r (pre ++ [ev]) f (by rw [h]; simp) (by simp at hf; omega)
  have e1 := evening_check_eq n hn0 hn sizes ev h1 h2
  have e2 := ref09_CheckEvening_eq n hn0 hn sizes ev h1 h2
  rw [← snoc_len] at a3
  cases hc : (chk n sizes ev != 0) with
  | true =>
   refine ⟨.inr ((pre.length : Int), chk n sizes ev), ?_, ?_, by simp [chkS, hc]⟩
   ·subst h
    unfold evening_Check_1
    rw [if_pos (lt_len pre ev r), idx_app]
    simp only [Option.bind_some]
    rw [e1]
    simp only [Option.bind_some, hc, if_true]
   ·subst h
    unfold ref09_Check_1
    rw [if_pos (lt_len pre ev r), idx_app]
    simp only [Option.bind_some]
    rw [e2]
    simp only [Option.bind_some, hc, if_true]
  | false =>
   refine ⟨q, ?_, ?_, ?_⟩
   ·subst h
    unfold evening_Check_1
    rw [if_pos (lt_len pre ev r), idx_app]
    simp only [Option.bind_some]
    rw [e1]
    simp only [Option.bind_some, hc, Bool.false_eq_true, if_false]
    rw [wr_snoc pre ev r (by omega)]
    exact a1
   ·subst h
    unfold ref09_Check_1
    rw [if_pos (lt_len pre ev r), idx_app]
    simp only [Option.bind_some]
    rw [e2]
    simp only [Option.bind_some, hc, Bool.false_eq_true, if_false]
    rw [wr_snoc pre ev r (by omega)]
    exact a2
   ·simp only [chkS, hc, Bool.false_eq_true, if_false]
    exact a3
theorem check_both (n : Int) (hn : in64 n) (sizes : List Int) (hsz : sizes.length ≤ 1000) (s : List (List (List Int))) (hs : s.length ≤ 50000) (hl : ∀ ev ∈ s, ev.length ≤ 50000 ∧ ev.flatten.length ≤ 50000) : evening_Check n sizes s = some (chkAll n sizes s) ∧ ref09_Check n sizes s = some (chkAll n sizes s) := by
 have hg : evening_guests n = some (decide (1 ≤ n) && decide (n ≤ 64)) := by
  unfold evening_guests
  by_cases h : 1 ≤ n
  ·simp [h]
  ·simp [h]
 unfold evening_Check ref09_Check chkAll
 rw [hg, evening_fit_eq n hn sizes hsz, ref09_Fit_eq n sizes hsz]
 simp only [Option.bind_some]
 by_cases h1 : n < 1
 ·have h1' : ¬ 1 ≤ n := by omega
  simp [h1, h1']
 ·by_cases h2 : n > 64
  ·have h2' : ¬ n ≤ 64 := by omega
   simp [h1, h2, h2']
  ·have h1' : 1 ≤ n := by omega
   have h2' : n ≤ 64 := by omega
   simp only [h1, h2, h1', h2', decide_true, decide_false, Bool.and_self, Bool.not_true, Bool.false_eq_true, if_false, Bool.false_or]
   by_cases h3 : (sizes.length : Int) > 0
   ·cases hf : fitP n sizes with
    | false =>
     have h3' : 0 < sizes.length := by omega
     simp [h3']
    | true =>
     simp only [h3, decide_true, if_true, Bool.not_true, Option.bind_some, Bool.and_false, Bool.false_eq_true, if_false]
     by_cases h4 : s.length > 64
     ·have h4' : decide ((s.length : Int) > 64) = true := by simp; omega
      simp only [h4', h4, if_true, and_self]
     ·have h4' : decide ((s.length : Int) > 64) = false := by simp; omega
      simp only [h4', h4, if_false, Bool.false_eq_true]
      obtain ⟨q, a1, a2, a3⟩ := check_loop n (by omega) h2' sizes s hs hl s [] 100000 rfl (by omega)
      rw [show ((([] : List (List (List Int))).length : Nat) : Int) = 0 from rfl] at a1 a2 a3
      rw [a1, a2]
      cases q with
      | inl w => simp only at a3; simp [a3]
      | inr w => simp only at a3; simp [a3]
   ·simp only [h3, decide_false, Bool.false_eq_true, if_false, Option.bind_some, Bool.false_and]
    by_cases h4 : s.length > 64
    ·have h4' : decide ((s.length : Int) > 64) = true := by simp; omega
     simp only [h4', h4, if_true, and_self]
    ·have h4' : decide ((s.length : Int) > 64) = false := by simp; omega
     simp only [h4', h4, if_false, Bool.false_eq_true]
     obtain ⟨q, a1, a2, a3⟩ := check_loop n (by omega) h2' sizes s hs hl s [] 100000 rfl (by omega)
     rw [show ((([] : List (List (List Int))).length : Nat) : Int) = 0 from rfl] at a1 a2 a3
     rw [a1, a2]
     cases q with
     | inl w => simp only at a3; simp [a3]
     | inr w => simp only at a3; simp [a3]
theorem chkS_inv (n : Int) (sz : List Int) : ∀ (s : List (List (List Int))) (i : Int), (chkS n sz s i).2 = 0 → ∀ ev ∈ s, chk n sz ev = 0
 | [], _, _, ev, h => by cases h
 | e :: s, i, h, ev, hm => by
  unfold chkS at h
  by_cases hc : chk n sz e = 0
  ·rw [hc] at h
   rcases List.mem_cons.1 hm with rfl | hm
   ·exact hc
   ·exact chkS_inv n sz s (i + 1) h ev hm
  ·have : (chk n sz e != 0) = true := by simpa using hc
   rw [this] at h
   exact absurd h hc
theorem anyN_no {p : Int → Bool} {k : Nat} (h : anyN p k 0 = false) (x : Nat) (hx : x < k) : p x = false := by
 cases e : p x with
 | false => rfl
 | true =>
  have := (anyN_iff p k 0).2 ⟨(x : Int), by omega, by omega, e⟩
  rw [h] at this
  cases this
theorem sbad_inv : ∀ (r : List (List Int)) (i : Int), sbad [] r i = false → ∀ t ∈ r, t.length ≠ 0
 | [], _, _, t, h => by cases h
 | u :: r, i, h, t, hm => by
  unfold sbad at h
  simp only [Bool.or_eq_false_iff] at h
  rcases List.mem_cons.1 hm with rfl | hm
  ·have := h.1.1
   intro e
   rw [e] at this
   cases this
  ·exact sbad_inv r (i + 1) h.2 t hm
theorem chk_inv {n : Nat} {ev : List (List Int)} (h : chk n [] ev = 0) : (∀ t ∈ ev, t.length ≠ 0) ∧ (∀ v ∈ ev.flatten, 0 ≤ v ∧ v < n) ∧ ∀ x : Nat, x < n → ev.flatten.count (x : Int) = 1 := by
 unfold chk at h
 rw [if_neg (by simp)] at h
 cases hb : sbad [] ev 0 with
 | true => rw [hb, if_pos rfl] at h; cases h
 | false =>
  rw [hb, if_neg Bool.false_ne_true] at h
  cases hu : ev.flatten.any (badV n) with
  | true => rw [hu, if_pos rfl] at h; cases h
  | false =>
   rw [hu, if_neg Bool.false_ne_true] at h
   cases h5 : anyN (fun x => decide ((ev.flatten.count x : Int) > 1)) (n : Int).toNat 0 with
   | true => rw [h5, if_pos rfl] at h; cases h
   | false =>
    rw [h5, if_neg Bool.false_ne_true] at h
    cases h2 : anyN (fun x => ((ev.flatten.count x : Int) == 0)) (n : Int).toNat 0 with
    | true => rw [h2, if_pos rfl] at h; cases h
    | false =>
     refine ⟨sbad_inv ev 0 hb, fun v hv => ?_, fun x hx => ?_⟩
     ·have := List.any_eq_false.1 hu v hv
      simp only [badV, decide_eq_true_eq] at this
      omega
     ·have a := anyN_no h5 x (by simpa using hx)
      have b := anyN_no h2 x (by simpa using hx)
      have a : ¬ ((ev.flatten.count (x : Int) : Nat) : Int) > 1 := of_decide_eq_false a
      have b : ¬ ((ev.flatten.count (x : Int) : Nat) : Int) = 0 := by simpa using b
      omega
/-- Few numbers. -/
structure FewS (s : List (List (List Int))) (most : Nat) : Prop where
 evs : s.length ≤ 70
 tabs : ∀ ev ∈ s, ev.length ≤ 12
 nums : s.flatten.flatten.length ≤ most
structure ShortS (s : List (List (List Int))) : Prop where
 evs : s.length ≤ 140737488355328
 tabs : ∀ ev ∈ s, ev.length ≤ 140737488355328 ∧ ∀ t ∈ ev, t.length ≤ 140737488355328
theorem few_2 (s : List (List (List Int))) (most : Nat) (hm : most ≤ 1000) (c3 : Int) (ev : List (List Int)) (he : ev.length ≤ 12) (hs : ∀ t ∈ ev, t.length ≤ 140737488355328) : ∀ (r pre : List (List Int)) (f : Nat) (c : Nat), ev = pre ++ r → r.length < f → c ≤ most → (∃ q, law09_Few_2 s most c3 ev f c pre.length = some q ∧ ((q = .inr false) ∨ (q = .inl ((c + r.flatten.length : Nat) : Int) ∧ c + r.flatten.length ≤ most)))
 | [], pre, f + 1, c, h, _, hc => by
  subst h
  unfold law09_Few_2
  rw [nlt_len]
  exact ⟨_, rfl, .inr ⟨by simp, by simpa using hc⟩⟩
 | t :: r, pre, f + 1, c, h, hf, hc => by
  have ht := hs t (by rw [h]; simp)
  by_cases hgt : c + t.length ≤ most
  ·obtain ⟨q, h1, h2⟩ := few_2 s most hm c3 ev he hs r (pre ++ [t]) f (c + t.length) (by rw [h]; simp) (by simp at hf; omega) hgt
   refine ⟨q, ?_, ?_⟩
   ·subst h
    unfold law09_Few_2
    rw [if_pos (lt_len pre t r), idx_app]
    simp only [Option.bind_some]
    rw [wr_snoc pre t r (by omega), wr_i (by omega) (by omega), if_neg (by simp; omega)]
    rw [← h1]
    congr 1
   ·rcases h2 with h2 | ⟨h2, h3⟩
    ·exact .inl h2
    ·refine .inr ⟨?_, ?_⟩
     ·rw [h2]; simp; omega
     ·simp; simp at h3; omega
  ·refine ⟨.inr false, ?_, .inl rfl⟩
   subst h
   unfold law09_Few_2
   rw [if_pos (lt_len pre t r), idx_app]
   simp only [Option.bind_some]
   rw [wr_i (by omega) (by omega), if_pos (by simp; omega)]
theorem few_1 (s : List (List (List Int))) (most : Nat) (hm : most ≤ 1000) (h70 : s.length ≤ 70) (hs : ShortS s) : ∀ (r pre : List (List (List Int))) (f : Nat) (c : Nat), s = pre ++ r → r.length < f → c ≤ most → (∃ q, law09_Few_1 s most f c pre.length = some q ∧ ((q = .inr false) ∨ (q = .inl () ∧ c + r.flatten.flatten.length ≤ most ∧ ∀ ev ∈ r, ev.length ≤ 12)))
 | [], pre, f + 1, c, h, _, hc => by
  subst h
  unfold law09_Few_1
  rw [nlt_len]
  exact ⟨_, rfl, .inr ⟨rfl, by simpa using hc, fun ev he => by cases he⟩⟩
 | ev :: r, pre, f + 1, c, h, hf, hc => by
  by_cases h12 : ev.length ≤ 12
  ·obtain ⟨q, a1, a2⟩ := few_2 s most hm pre.length ev h12 (hs.tabs ev (by rw [h]; simp)).2 ev [] 100000 c rfl (by omega) hc
   rw [show ((([] : List (List Int)).length : Nat) : Int) = 0 from rfl] at a1
   rcases a2 with rfl | ⟨rfl, a3⟩
   ·refine ⟨.inr false, ?_, .inl rfl⟩
    subst h
    unfold law09_Few_1
    rw [if_pos (lt_len pre ev r), idx_app]
    simp only [Option.bind_some]
    rw [if_neg (by simp; omega), a1]
    rfl
   ·obtain ⟨q, h1, h2⟩ := few_1 s most hm h70 hs r (pre ++ [ev]) f (c + ev.flatten.length) (by rw [h]; simp) (by simp at hf; omega) a3
    refine ⟨q, ?_, ?_⟩
    ·subst h
     unfold law09_Few_1
     rw [if_pos (lt_len pre ev r), idx_app]
     simp only [Option.bind_some]
     rw [if_neg (by simp; omega), a1]
     simp only [Option.bind_some]
     rw [wr_snoc pre ev r (by omega)]
     exact h1
    ·rcases h2 with h2 | ⟨h2, h3, h4⟩
     ·exact .inl h2
     ·refine .inr ⟨h2, ?_, fun e he => ?_⟩
      ·rw [List.flatten_cons, List.flatten_append, List.length_append]; omega
      ·rcases List.mem_cons.1 he with rfl | he
       ·exact h12
       ·exact h4 e he
  ·refine ⟨.inr false, ?_, .inl rfl⟩
   subst h
   unfold law09_Few_1
   rw [if_pos (lt_len pre ev r), idx_app]
   simp only [Option.bind_some]
   rw [if_pos (by simp; omega)]
theorem few_eq (s : List (List (List Int))) (most : Nat) (hm : most ≤ 1000) (hs : ShortS s) : ∃ b, law09_Few s most = some b ∧ (b = true → FewS s most) := by
 unfold law09_Few
 by_cases h70 : s.length ≤ 70
 ·rw [if_neg (by simp; omega)]
  obtain ⟨q, h1, h2⟩ := few_1 s most hm h70 hs s [] 100000 0 rfl (by omega) (by omega)
  rw [show ((([] : List (List (List Int))).length : Nat) : Int) = 0 from rfl] at h1
  rw [show ((0 : Nat) : Int) = 0 from rfl] at h1
  rw [h1]
  rcases h2 with rfl | ⟨rfl, h3, h4⟩
  ·exact ⟨false, rfl, fun h => by cases h⟩
  ·exact ⟨true, rfl, fun _ => ⟨h70, h4, by omega⟩⟩
 ·rw [if_pos (by simp; omega)]
  exact ⟨false, rfl, fun h => by cases h⟩
theorem copy_2 (s c1 : List (List (List Int))) (c2 : Int) (ev : List (List Int)) (he : ev.length ≤ 50000) (hs : ∀ t ∈ ev, t.length ≤ 50000) : ∀ (r pre : List (List Int)) (f : Nat), ev = pre ++ r → r.length < f → law09_Copy_2 s c1 c2 ev f pre pre.length = some ev
 | [], pre, f + 1, h, _ => by
  subst h
  unfold law09_Copy_2
  rw [nlt_len]
  simp
 | t :: r, pre, f + 1, h, hf => by
  have ht := hs t (by rw [h]; simp)
  have ih := copy_2 s c1 c2 ev he hs r (pre ++ [t]) f (by rw [h]; simp) (by simp at hf; omega)
  subst h
  have hcut : cutOk 0 (t.length : Int) (t ++ [(-9 : Int)]).length = true := by
   simp only [cutOk, Bool.and_eq_true, decide_eq_true_eq, List.length_append, List.length_singleton]; omega
  simp only [List.length_append, List.length_cons] at he
  unfold law09_Copy_2
  rw [if_pos (lt_len pre t r), idx_app]
  simp only [Option.bind_some]
  rw [if_pos (capOk_le (by omega) (by omega)), if_pos (capOk_le (by omega) (by omega)), if_pos hcut, if_pos (capOk_le (by omega) (by omega)), wr_snoc pre t r (by simp; omega)]
  rw [show (t ++ [(-9 : Int)]).take ((t.length : Int)).toNat = t by simp]
  exact ih
theorem copy_1 (s : List (List (List Int))) (he : s.length ≤ 50000) (hs : ∀ ev ∈ s, ev.length ≤ 50000 ∧ ∀ t ∈ ev, t.length ≤ 50000) : ∀ (r pre : List (List (List Int))) (f : Nat), s = pre ++ r → r.length < f → law09_Copy_1 s f pre pre.length = some s
 | [], pre, f + 1, h, _ => by
  subst h
  unfold law09_Copy_1
  rw [nlt_len]
  simp
 | ev :: r, pre, f + 1, h, hf => by
  obtain ⟨h1, h2⟩ := hs ev (by rw [h]; simp)
  have ih := copy_1 s he hs r (pre ++ [ev]) f (by rw [h]; simp) (by simp at hf; omega)
  have h3 := copy_2 s pre pre.length ev h1 h2 ev [] 100000 rfl (by omega)
  rw [show ((([] : List (List Int)).length : Nat) : Int) = 0 from rfl] at h3
  subst h
  simp only [List.length_append, List.length_cons] at he
  unfold law09_Copy_1
  rw [if_pos (lt_len pre ev r), idx_app]
  simp only [Option.bind_some]
  rw [h3]
  simp only [Option.bind_some]
  rw [if_pos (capOk_le (by omega) (by omega)), wr_snoc pre ev r (by simp; omega)]
  exact ih
theorem copy_eq (s : List (List (List Int))) (he : s.length ≤ 50000) (hs : ∀ ev ∈ s, ev.length ≤ 50000 ∧ ∀ t ∈ ev, t.length ≤ 50000) : law09_Copy s = some s := by
 unfold law09_Copy
 have := copy_1 s he hs s [] 100000 rfl (by omega)
 rw [show ((([] : List (List (List Int))).length : Nat) : Int) = 0 from rfl] at this
 rw [this]; rfl
theorem sameInts_1 (xs : List Int) (hxs : xs.length ≤ 50000) : ∀ (r pre : List Int) (f : Nat), xs = pre ++ r → r.length < f → kit_SameInts_1 xs xs f pre.length = some (.inl ())
 | [], pre, f + 1, h, _ => by
  subst h
  unfold kit_SameInts_1
  rw [nlt_len]
  rfl
 | v :: r, pre, f + 1, h, hf => by
  have ih := sameInts_1 xs hxs r (pre ++ [v]) f (by rw [h]; simp) (by simp at hf; omega)
  subst h
  unfold kit_SameInts_1
  rw [if_pos (lt_len pre v r), idx_app]
  simp only [Option.bind_some]
  rw [wr_snoc pre v r (by omega)]
  simp only [bne_self_eq_false, Bool.false_eq_true, if_false]
  exact ih
theorem sameInts_self (xs : List Int) (hxs : xs.length ≤ 50000) : kit_SameInts xs xs = some true := by
 unfold kit_SameInts
 have := sameInts_1 xs hxs xs [] 100000 rfl (by omega)
 rw [show ((([] : List Int).length : Nat) : Int) = 0 from rfl] at this
 simp only [bne_self_eq_false, Bool.false_eq_true, if_false]
 rw [this]; rfl
theorem sameLists_1 (xs : List (List Int)) (hxs : xs.length ≤ 50000) (hs : ∀ t ∈ xs, t.length ≤ 50000) : ∀ (r pre : List (List Int)) (f : Nat), xs = pre ++ r → r.length < f → kit_SameLists_1 xs xs f pre.length = some (.inl ())
 | [], pre, f + 1, h, _ => by
  subst h
  unfold kit_SameLists_1
  rw [nlt_len]
  rfl
 | v :: r, pre, f + 1, h, hf => by
  have hv := hs v (by rw [h]; simp)
  have ih := sameLists_1 xs hxs hs r (pre ++ [v]) f (by rw [h]; simp) (by simp at hf; omega)
  subst h
  unfold kit_SameLists_1
  rw [if_pos (lt_len pre v r), idx_app]
  simp only [Option.bind_some]
  rw [sameInts_self v hv]
  simp only [Option.bind_some]
  rw [wr_snoc pre v r (by omega)]
  simp only [Bool.not_true, Bool.false_eq_true, if_false]
  exact ih
theorem sameLists_self (xs : List (List Int)) (hxs : xs.length ≤ 50000) (hs : ∀ t ∈ xs, t.length ≤ 50000) : kit_SameLists xs xs = some true := by
 unfold kit_SameLists
 have := sameLists_1 xs hxs hs xs [] 100000 rfl (by omega)
 rw [show ((([] : List (List Int)).length : Nat) : Int) = 0 from rfl] at this
 simp only [bne_self_eq_false, Bool.false_eq_true, if_false]
 rw [this]; rfl
theorem equalFunc_1 (xs : List (List (List Int))) (hxs : xs.length ≤ 50000) (hs : ∀ ev ∈ xs, ev.length ≤ 50000 ∧ ∀ t ∈ ev, t.length ≤ 50000) : ∀ (r pre : List (List (List Int))) (f : Nat), xs = pre ++ r → r.length < f → slices_EqualFunc_LLL_LLL_LL_LL__law09_Same_1_1 xs xs f pre.length = some (.inl ())
 | [], pre, f + 1, h, _ => by
  subst h
  unfold slices_EqualFunc_LLL_LLL_LL_LL__law09_Same_1_1
  rw [nlt_len]
  rfl
 | v :: r, pre, f + 1, h, hf => by
  obtain ⟨h1, h2⟩ := hs v (by rw [h]; simp)
  have ih := equalFunc_1 xs hxs hs r (pre ++ [v]) f (by rw [h]; simp) (by simp at hf; omega)
  subst h
  unfold slices_EqualFunc_LLL_LLL_LL_LL__law09_Same_1_1
  rw [if_pos (lt_len pre v r), idx_app]
  simp only [Option.bind_some, law09_Same_1]
  rw [sameLists_self v h1 h2]
  simp only [Option.bind_some]
  rw [wr_snoc pre v r (by omega)]
  simp only [Bool.not_true, Bool.false_eq_true, if_false]
  exact ih
theorem same_self (xs : List (List (List Int))) (hxs : xs.length ≤ 50000) (hs : ∀ ev ∈ xs, ev.length ≤ 50000 ∧ ∀ t ∈ ev, t.length ≤ 50000) : law09_Same xs xs = some true := by
 unfold law09_Same slices_EqualFunc_LLL_LLL_LL_LL__law09_Same_1
 have := equalFunc_1 xs hxs hs xs [] 100000 rfl (by omega)
 rw [show ((([] : List (List (List Int))).length : Nat) : Int) = 0 from rfl] at this
 simp only [bne_self_eq_false, Bool.false_eq_true, if_false]
 rw [this]; rfl
theorem flat_mem {α : Type} : ∀ {s : List (List (List α))} {ev : List (List α)}, ev ∈ s → ev.flatten.length ≤ s.flatten.flatten.length
 | a :: s, ev, h => by
  simp only [List.flatten_cons, List.flatten_append, List.length_append]
  rcases List.mem_cons.1 h with rfl | h
  ·omega
  ·have := flat_mem h; omega
theorem FewS.lens {s : List (List (List Int))} {most : Nat} (h : FewS s most) (hm : most ≤ 1000) : s.length ≤ 50000 ∧ ∀ ev ∈ s, (ev.length ≤ 50000 ∧ ev.flatten.length ≤ 50000 ∧ ∀ t ∈ ev, t.length ≤ 50000) := by
 refine ⟨by have := h.evs; omega, fun ev he => ?_⟩
 have h1 := h.tabs ev he
 have h2 := flat_mem he
 have h3 := h.nums
 refine ⟨by omega, by omega, fun t ht => ?_⟩
 have := len_mem ht
 omega
section
variable {s : List (List (List Int))} (h : Two s)
include h
theorem fc_4 {t : List Int} (hn : t.length ≤ 1000) (h2 : ∀ x ∈ t, 0 ≤ x ∧ x < 100) (acc : List UInt8) (ha : acc.length ≤ 7000000) : evening_Format_4 t 100000 0 acc = some (acc ++ tabF t) := by
 have hh := cntF (σ := List UInt8) t.length (fun k => acc ++ tabF (t.take k)) (some (acc ++ tabF t)) (fun f c q => evening_Format_4 t f c q) (by omega) (fun k hk f => by
  show evening_Format_4 t (f + 1) (k : Int) (acc ++ tabF (t.take k)) = _
  conv => lhs; unfold evening_Format_4
  have hx := h2 _ (List.getElem_mem hk)
  obtain ⟨n1, _, n3, n4⟩ := numI_at hx.1 hx.2
  have hl := tabF_len h (t := t.take k) (by rw [List.length_take]; omega) fun x hx => h2 x (List.mem_of_mem_take hx)
  have ej : evening_Format_j5 (k : Int) (acc ++ tabF (t.take k)) = some (acc ++ tabF (t.take k) ++ if t.take k = [] then [] else [32]) := by
   unfold evening_Format_j5
   by_cases h0 : k = 0
   ·rw [if_neg (by simp [h0]), if_pos ((take_nil hk).2 h0), List.append_nil]
   ·rw [if_pos (by simp; omega), if_pos (by simp), if_pos (capOk_le (by omega) (by simp; omega)), if_neg (fun e => h0 ((take_nil hk).1 e))]
  have en : tabF (t.take (k + 1)) = tabF (t.take k) ++ ((if t.take k = [] then [] else [32]) ++ numI t[k]) := by
   unfold tabF
   rw [take_one hk, joinB_snoc]
  have ea : acc ++ tabF (t.take k) ++ (if t.take k = [] then [] else [32]) ++ numI t[k] = acc ++ tabF (t.take (k + 1)) := by
   rw [en]; simp only [List.append_assoc]
  have ho : ((acc ++ tabF (t.take k) ++ (if t.take k = [] then [] else [32])).length + (numI t[k]).length) ≤ 1000000000 := by
   have : (if t.take k = [] then [] else ([32] : List UInt8)).length ≤ 1 := by split <;> simp
   simp only [List.length_append]; omega
  rw [if_pos (by simp; omega), idx_lt hk, Option.bind_some, ej, Option.bind_some, n1, Option.bind_some, if_pos (by simpa using n3), if_pos (capOk_le (by omega) ho), ea]) (fun f => by
  show evening_Format_4 t (f + 1) (t.length : Int) (acc ++ tabF (t.take t.length)) = _
  conv => lhs; unfold evening_Format_4
  rw [if_neg (by simp), List.take_length])
 have hh' : evening_Format_4 t 100000 0 (acc ++ []) = some (acc ++ tabF t) := hh
 rwa [List.append_nil] at hh'
theorem fc_2 {ev : List (List Int)} (hem : ev ∈ s) (acc : List UInt8) (ha : acc.length ≤ 6500000) : evening_Format_2 ev 100000 0 acc = some (acc ++ evF ev) := by
 have hn := h.tabs _ hem
 have hh := cntF (σ := List UInt8) ev.length (fun k => acc ++ evF (ev.take k)) (some (acc ++ evF ev)) (fun f c q => evening_Format_2 ev f c q) (by omega) (fun k hk f => by
  show evening_Format_2 ev (f + 1) (k : Int) (acc ++ evF (ev.take k)) = _
  conv => lhs; unfold evening_Format_2
  have hl := evF_len h hem (ev.take k) (fun t ht => List.mem_of_mem_take ht) (by rw [List.length_take]; omega)
  have ej : evening_Format_j3 (k : Int) (acc ++ evF (ev.take k)) = some (acc ++ evF (ev.take k) ++ if ev.take k = [] then [] else [32, 47, 32]) := by
   unfold evening_Format_j3
   by_cases h0 : k = 0
   ·rw [if_neg (by simp [h0]), if_pos ((take_nil hk).2 h0), List.append_nil]
   ·rw [if_pos (by simp; omega), if_pos (by simp), if_pos (capOk_le (by omega) (by simp; omega)), if_neg (fun e => h0 ((take_nil hk).1 e))]
  have en : evF (ev.take (k + 1)) = evF (ev.take k) ++ ((if ev.take k = [] then [] else [32, 47, 32]) ++ tabF ev[k]) := by
   unfold evF
   rw [take_one hk, joinB_snoc]
  have hq : (acc ++ evF (ev.take k) ++ if ev.take k = [] then [] else [32, 47, 32]).length ≤ 7000000 := by
   have : (if ev.take k = [] then [] else ([32, 47, 32] : List UInt8)).length ≤ 3 := by split <;> simp
   simp only [List.length_append]; omega
  have htm : ev[k] ∈ ev := List.getElem_mem hk
  rw [if_pos (by simp; omega), idx_lt hk, Option.bind_some, ej, Option.bind_some, fc_4 h (h.nums _ hem _ htm) (h.two _ hem _ htm) _ hq, Option.bind_some, en]
  simp only [List.append_assoc]) (fun f => by
  show evening_Format_2 ev (f + 1) (ev.length : Int) (acc ++ evF (ev.take ev.length)) = _
  conv => lhs; unfold evening_Format_2
  rw [if_neg (by simp), List.take_length])
 have hh' : evening_Format_2 ev 100000 0 (acc ++ []) = some (acc ++ evF ev) := hh
 rwa [List.append_nil] at hh'
theorem fc_1 : evening_Format_1 s 100000 0 [] = some (schF s) := by
 have hn := h.evs
 exact cntF (σ := List UInt8) s.length (fun k => schF (s.take k)) (some (schF s)) (fun f c q => evening_Format_1 s f c q) (by omega) (fun k hk f => by
  show evening_Format_1 s (f + 1) (k : Int) (schF (s.take k)) = _
  conv => lhs; unfold evening_Format_1
  have hl := schF_len h (s.take k) (fun ev hev => List.mem_of_mem_take hev) (by rw [List.length_take]; omega)
  have hem : s[k] ∈ s := List.getElem_mem hk
  have hl2 := evF_len h hem s[k] (fun _ h => h) (h.tabs _ hem)
  have ea : schF (s.take k) ++ evF s[k] ++ [10] = schF (s.take (k + 1)) := by
   rw [take_one hk, schF_snoc]; simp only [List.append_assoc]
  rw [if_pos (by simp; omega), idx_lt hk, Option.bind_some, fc_2 h hem _ (by omega), Option.bind_some, if_pos (by simp), if_pos (capOk_le (by omega) (by simp only [List.length_append]; simp; omega)), ea]) (fun f => by
  show evening_Format_1 s (f + 1) (s.length : Int) (schF (s.take s.length)) = _
  conv => lhs; unfold evening_Format_1
  rw [if_neg (by simp), List.take_length])
end
theorem formats_law (n : Int) (hn : in64 n) (s : List (List (List Int))) (hs : ShortS s) : law09_EveningFormats n s = some true := by
 unfold law09_EveningFormats
 obtain ⟨b, hb, hb2⟩ := few_eq s 400 (by omega) hs
 rw [show ((400 : Nat) : Int) = 400 from rfl] at hb
 rw [hb, Option.bind_some]
 cases b with
 | false => simp [law09_awake]
 | true =>
  have hf := hb2 rfl
  obtain ⟨l1, l2⟩ := hf.lens (by omega)
  obtain ⟨c1, c2⟩ := check_both n hn [] (by simp) s l1 (fun ev he => ⟨(l2 ev he).1, (l2 ev he).2.1⟩)
  have hl : ∀ ev ∈ s, ev.length ≤ 50000 ∧ ∀ t ∈ ev, t.length ≤ 50000 := fun ev he => ⟨(l2 ev he).1, (l2 ev he).2.2⟩
  have v1 : evening_valid n s = some ((chkAll n [] s).2 == 0) := by
   unfold evening_valid; rw [c1]; rfl
  have v2 : ref09_Valid n s = some ((chkAll n [] s).2 == 0) := by
   unfold ref09_Valid; rw [c2]; rfl
  rw [if_neg (by simp), copy_eq s l1 hl, Option.bind_some, v2, Option.bind_some]
  have fin : ∀ r : List UInt8, law09_EveningFormats_j1 n s s ((chkAll n [] s).2 == 0) = some r → evening_Format n s = some r → ((law09_EveningFormats_j1 n s s ((chkAll n [] s).2 == 0)).bind fun r9 => (evening_Format n s).bind fun v10 => (if (v10 == r9) = true then (law09_Same s s).bind fun v11 => if v11 = true then law09_awake.bind fun v12 => some v12 else some false else some false).bind fun j14 => some j14) = some true := fun r e1 e2 => by
   rw [e1, Option.bind_some, e2, Option.bind_some, if_pos (by simp), same_self s l1 hl]
   rfl
  cases hv : ((chkAll n [] s).2 == 0) with
  | false =>
   rw [hv] at fin
   refine fin [] (by unfold law09_EveningFormats_j1; rw [if_neg (by simp)]) ?_
   unfold evening_Format
   rw [v1, hv]; rfl
  | true =>
   rw [hv] at fin
   have hv0 : (chkAll n [] s).2 = 0 := by simpa using hv
   unfold chkAll at hv0
   split at hv0
   ·exact absurd hv0 (by decide)
   ·next hc =>
    split at hv0
    ·exact absurd hv0 (by decide)
    ·have hn1 : 1 ≤ n ∧ n ≤ 64 := by
      simp only [Bool.or_eq_true, decide_eq_true_eq, not_or] at hc
      omega
     obtain ⟨m, rfl⟩ := Int.eq_ofNat_of_zero_le (show 0 ≤ n by omega)
     have hall := chkS_inv (m : Int) [] s 0 hv0
     have two : Two s := by
      refine ⟨by have := hf.evs; omega, fun ev he => by have := hf.tabs ev he; omega, fun ev he t ht => ?_, fun ev he t ht x hx => ?_⟩
      ·have h1 : t.length ≤ ev.flatten.length := (List.sublist_flatten_of_mem ht).length_le
       have h2 : ev.flatten.length ≤ s.flatten.flatten.length := by
        rw [List.flatten_flatten] at *
        exact (List.sublist_flatten_of_mem (List.mem_map.2 ⟨ev, he, rfl⟩)).length_le
       have := hf.nums
       omega
      ·have := (chk_inv (hall ev he)).2.1 x (List.mem_flatten.2 ⟨t, ht, hx⟩)
       omega
     have hsl := schF_len two s (fun _ h => h) two.evs
     refine fin (schF s) ?_ ?_
     ·unfold law09_EveningFormats_j1
      rw [if_pos rfl, format_r two]; rfl
     ·unfold evening_Format
      rw [v1, hv, Option.bind_some, if_neg (by simp), fc_1 two, Option.bind_some, if_pos (okB_le (by omega))]
end Go.Proofs.YtcmgmkepodbpkaaDoor
namespace Go.Proofs.YtcmgmkepodbpkaaDoor.eveningFormats
open Go.ChangeShapes Go.WideShapes Go.ChangeAt Go.RowKit
theorem law_ret (a0 : Int) (a1 : (List (List (List Int)))) (h : law09_EveningFormats a0 a1 = some true) {w : World} {v0 v1 : Value} (h0 : VR w (fun c => c < w.heap.size) [] (cdI.enc a0) v0) (h1 : VR w (fun c => c < w.heap.size) [] ((cdL 1 (cdL 1 (cdL 1 cdI))).enc a1) v1) : Ret Tryd.prog 3 #[v0, v1] w fun v w' => v = .bool true ∧ w.grownBy w' none :=
 Ret.mono (x_law09_EveningFormats.2 (cs_law09_EveningFormats.enc (a0, a1, ())) (er_law09_EveningFormats true) (told_enc (s := cs_law09_EveningFormats) (a := (a0, a1, ())) h) w (fun c => c < w.heap.size) [v0, v1] (fun c hc => hc) (fun g x h => by cases h) (.cons h0 (.cons h1 .nil))) fun v w' h => ⟨h.2.v_inv, h.1⟩
set_option maxRecDepth 100000 in
theorem contract (H : Type) (enc : TypeId × Value → H) (W : World) (base : Nat) (args : Array Value) (ds gs : List (DataW H)) (before : List MemPlace)
  (hval : ∀ (j : Nat) t v, Tryd.f3.params[j]? = some t → args[j]? = some v → Value.okWide Tryd.prog W .any base t v)
  (hW : DataW.Whole enc Tryd.prog Tryd.f3.params.toList Rows.eveningFormatsSpec.vars false W args.toList ds gs before)
  (hsz : (DataW.weightsEach Tryd.prog (Tryd.f3.params.toList ++ (OpenSpec.ofChange Rows.eveningFormatsSpec).bare.plain.varTypes Tryd.prog) (ds ++ gs)).all (· ≤ reachBytes) = true) :
  Calls Tryd.prog 3 args W fun e W' => ∃ v, e = .returned v ∧ Rows.eveningFormatsSpec.post enc Tryd.prog Tryd.f3 false true false false W args v W' := by
 have hW' := hW
 obtain ⟨p, q, hA0, hV, rfl, hfz, hnd⟩ := hW
 have hA : DataW.TrodAll enc Tryd.prog W 0 (fun _ => true) true Tryd.f3.params.toList args.toList ds p := hA0
 have hpar : Tryd.f3.params = #[3, 22] := by kernel_rfl
 rw [hpar] at hA hval
 obtain ⟨v0, vs0, d0, ds0, p0, q0, hargs, rfl, rfl, h0, r0⟩ := trodAll_cons hA
 obtain ⟨v1, vs1, d1, ds1, p1, q1, rfl, rfl, rfl, h1, r1⟩ := trodAll_cons r0
 obtain ⟨rfl, rfl, rfl⟩ := trodAll_nil r1
 obtain rfl : args = #[v0, v1] := by apply Array.ext'; simpa using hargs
 obtain ⟨a0, k0, g0⟩ := rd_arg (rd_int64 (by kernel_rfl : Tryd.prog.underlying 3 = some (.int .i64))) (one_int (by kernel_rfl : Tryd.prog.underlying 3 = some (.int .i64)) (hval 0 3 v0 rfl rfl)) h0 hsz (j := 0) (by kernel_rfl) rfl
 obtain ⟨a1, k1, g1⟩ := rd_arg (rd_slice (by kernel_rfl : Tryd.prog.underlying 22 = some (.slice 50)) (by kernel_rfl) (by kernel_rfl) (rd_slice (by kernel_rfl : Tryd.prog.underlying 50 = some (.slice 31)) (by kernel_rfl) (by kernel_rfl) (rd_slice (by kernel_rfl : Tryd.prog.underlying 31 = some (.slice 3)) (by kernel_rfl) (by kernel_rfl) (rd_int64 (by kernel_rfl : Tryd.prog.underlying 3 = some (.int .i64)))))) (one_slice (by kernel_rfl : Tryd.prog.underlying 22 = some (.slice 50)) (hval 1 22 v1 rfl rfl)) h1 hsz (j := 1) (by kernel_rfl) rfl
 have hc := law_ret a0 a1 (formats_law a0 g0 a1 ⟨g1.1, fun ev he => ⟨(g1.2 ev he).1, fun t ht => ((g1.2 ev he).2 t ht).1⟩⟩) k0 k1
 unfold Ret at hc
 refine hc.mono fun e W' he => ?_
 cases e with
 | returned v =>
  obtain ⟨rfl, hg⟩ := he
  exact ⟨_, rfl, post_true laidOut (fun t ht => ⟨mem_of_laid (fun t => Tryd.prog.readableRec t) (by kernel_rfl) ht, of_decide_eq_true (mem_of_laid (fun t => decide (t < Tryd.prog.types.size)) (by kernel_rfl) ht)⟩) hW' rfl (by kernel_rfl) (by kernel_rfl : Tryd.prog.underlying 4 = some .bool) rfl hg⟩
 | panicked c => exact he.elim
 | outgrown => exact he.elim
theorem laid_met (os : Os) : laidMet Tryd.prog Rows.eveningFormatsRow.laid ((laidWorld os).forCall (fun _ _ => 0) ⟨#[], #[Value.int .i64 0, Value.slice none 0 0], []⟩).memory :=
 laidMet_of_run' 8 (by kernel_rfl) (by kernel_rfl)
theorem reads (os : Os) {H : Type} (enc : TypeId × Value → H) : ∃ places, DataW.whole enc Tryd.prog ((laidWorld os).forCall (fun _ _ => 0) ⟨#[], #[Value.int .i64 0, Value.slice none 0 0], []⟩).memory Tryd.f3.params.toList Rows.eveningFormatsSpec.vars false #[Value.int .i64 0, Value.slice none 0 0].toList 8 = some ([.lit (.int .i64 0), .nil], [], places) :=
 ⟨[], by kernel_rfl⟩
set_option maxRecDepth 100000 in
theorem lifted (os : Os) (started : os.Started) (H : Type) (enc : TypeId × Value → H) (F : Stop.Interp) :
  ReturnsInHanded {} Tryd.checked os 3 .any ((OpenSpec.ofChange Rows.eveningFormatsSpec).preRow enc Tryd.prog Tryd.f3 Rows.eveningFormatsRow.domain false Rows.eveningFormatsRow.laid) (((OpenSpec.ofChange Rows.eveningFormatsSpec).at F).post enc Tryd.prog Tryd.f3 false true false false) := by
 obtain ⟨places, hx⟩ := reads os enc
 refine returnsInHanded_of_row (C := Tryd.checked) (s := OpenSpec.ofChange Rows.eveningFormatsSpec) ownKnob0 started (by kernel_rfl) Tryd.func3
  (witness_row_at (enc := enc) (C := Tryd.checked) false (laidWorld os) #[Value.int .i64 0, Value.slice none 0 0] rfl (by kernel_rfl) (by kernel_rfl) (by kernel_rfl)
   (OpenSpec.preRow_of_cond 8 hx (by kernel_rfl) (fun k hk => by cases hk) (by kernel_rfl) (laid_met os))) ?_
 intro W base args ds gs before hval hW _ _ hsz _ _ _
 exact contract H enc W base args ds gs before hval hW hsz
theorem said : Rows.EveningFormatsSaid :=
 OpenClaim.holds_of_cond 3 Tryd.f3 rfl rfl rfl rfl rfl rfl rfl ⟨rfl, rfl, rfl, rfl, rfl⟩ rfl rfl rfl rfl rfl (by kernel_rfl) Tryd.func3 (by kernel_rfl)
  (of_decide_eq_true (by kernel_rfl)) (by unfold Func.isWrapper; first | (rw [if_pos (by decide +kernel)]; kernel_rfl) | (rw [if_neg (by decide +kernel)]; exact ⟨rfl, rfl⟩))
  (fun os started H enc _ F => by rw [OpenClaim.pre_eq_preRow]; exact lifted os started H enc F)
theorem plain (f : FuncId) (fn : Func) (hf : Tryd.pinned.checked.prog.funcNamed "trestle/trestlelaw09.EveningFormats" = some f) (hfn : Tryd.pinned.checked.prog.funcs[f]? = some fn) :
  false = Tryd.pinned.checked.prog.looks [] ∧ ∀ (j : Nat) t, fn.params[j]? = some t → Tryd.pinned.checked.prog.wantsStandIn t = false := by
 obtain rfl : f = 3 := Option.some.inj ((show Tryd.prog.funcNamed "trestle/trestlelaw09.EveningFormats" = some 3 by kernel_rfl).symm.trans hf) |>.symm
 obtain rfl : fn = Tryd.f3 := (Option.some.inj (Tryd.func3.symm.trans hfn)).symm
 refine ⟨by kernel_rfl, fun j t ht => ?_⟩
 have hm : t ∈ Tryd.f3.params.toList := by simpa using Array.mem_of_getElem? ht
 exact (show Tryd.prog.wantsStandIn t = false from Bool.not_eq_true' _ |>.mp (mem_of_laid (fun t => !Tryd.prog.wantsStandIn t) (by kernel_rfl) hm))
theorem card : Rows.EveningFormatsCardSaid :=
 Claim7.holds_tied_plain_at .later [] _ _ _ _ said (fun _ h => by cases h) (by kernel_rfl) (fun _ h => by cases h) eveningFormats_row_tie rfl ⟨rfl, rfl⟩ (by kernel_rfl) rfl plain (by kernel_rfl)
end Go.Proofs.YtcmgmkepodbpkaaDoor.eveningFormats
