/- Lemmas for the proof. -/
import Derived.Test.YtnmkejapogklmaaDoorEveningMeetsM1
import Derived.Test.YtnmkejapogklmaaDoorEveningMeetsM2
import Derived.Test.YtnmkejapogklmaaDoorEveningMeetsM3
import Derived.Test.YtnmkejapogklmaaDoorEveningMeetsM4
namespace Go.Proofs.YtnmkejapogklmaaDoor
open Go.RowKit
def square_at (s : Int × List Int) (x y : Int) : Option Int := if 0 ≤ s.1 ∧ s.1 ≤ 64 ∧ 0 ≤ x ∧ x < s.1 ∧ 0 ≤ y ∧ y < s.1 then idx s.2 (x * s.1 + y) else none
def cs_square_at : Cs ((Int × List Int) × Int × Int × Unit) := (csC (cdG2 cdI (cdL 1 cdI) (fun _ => rfl) (fun _ => rfl)) (csC cdI (csC cdI csN)))
def er_square_at (r : Int) : AV := .pe (cdI.enc r) 0
theorem x_square_at : POk 49 (told cs_square_at (fun a => square_at a.1 a.2.1 a.2.2.1) er_square_at) := by
  refine ⟨⟨Tryd.call49⟩, fun xs x h w Z us hz hv => ?_⟩
  obtain ⟨⟨⟨n, cells⟩, p, q, u⟩, ha, hh⟩ := Option.bind_eq_some_iff.1 h
  obtain ⟨r, hb, rfl⟩ := Option.map_eq_some_iff.1 hh
  clear h hh
  replace hv := cs_square_at.vr ha hv
  clear ha
  obtain ⟨u1, r1, rfl, h1, hv1⟩ := hv.head
  obtain ⟨u2, r2, rfl, h2, hv2⟩ := hv1.head
  obtain ⟨u3, r3, rfl, h3, hv3⟩ := hv2.head
  have hr3 : r3 = [] := List.eq_nil_of_length_eq_zero hv3.len
  subst hr3
  clear hv hv1 hv2 hv3
  rw [h2.v_inv, h3.v_inv]
  simp only [square_at] at hb
  split at hb
  · next hc =>
    obtain ⟨c1, c2, c3, c4, c5, c6⟩ := hc
    have hi : 0 ≤ p * n + q := Int.add_nonneg (Int.mul_nonneg c3 c1) c5
    unfold idx at hb
    rw [if_pos hi] at hb
    obtain ⟨hlt, hge⟩ := List.getElem?_eq_some_iff.1 hb
    cases h1 with
    | ag hl hh hx =>
      rename_i us
      match us, hl, hx with
      | [v1, v2], hl0, hx0 =>
        have e1 := (hx0 0 _ v1 rfl rfl).v_inv
        have e2 : VR w Z [] (.sl 1 (cells.map cdI.enc)) v2 := hx0 1 _ v2 rfl rfl
        clear hx0 hl0
        rw [e1]
        cases e2 with
        | sl hn hl hc hm ha hx =>
          rename_i c n' A us
          rw [List.length_map] at hn hl
          obtain ⟨a, h1, h2, h3, h4⟩ := ha (by omega)
          have hus : (p * n + q).toNat < us.length := by omega
          have hu := List.getElem?_eq_getElem hus
          have e3 := (hx _ (cdI.enc cells[(p * n + q).toNat]) _ (by rw [List.getElem?_map, List.getElem?_eq_getElem hlt]; rfl) hu).v_inv
          rw [hge] at e3
          have h5 := (h4 _ _ hu).2.2 0 (.int .i64 r) (by rw [e3]; rfl)
          subst h1
          have hblk := hz _ h3
          refine Ret.mono (atZ_ok n p q a n' c w ⟨c1, c2⟩ ⟨c3, c4⟩ ⟨c5, c6⟩ (by omega)) fun v w' ⟨hg, hv⟩ => ⟨hg, ?_⟩
          subst hv
          have ea : a.add ((p * n + q).toNat * 1) = ⟨a.block, a.off + (p * n + q).toNat + 0, none⟩ := by
            cases a
            simp only at h2
            subst h2
            simp [Addr.add]
          rw [ea]
          refine .pe (a := ⟨a.block, a.off + (p * n + q).toNat, none⟩) (u := .int .i64 r) rfl h3 (fun s hs => ?_) (fun j s hs => ?_) (.v rfl)
          · have : s = .int .i64 r := by simpa [Value.cells] using hs
            rw [this]; rfl
          · match j, hs with
            | 0, hs =>
              have hs' : s = .int .i64 r := by simpa [Value.cells] using hs.symm
              subst hs'
              have h6 : w.cell? ⟨a.block, a.off + (p * n + q).toNat + 0, none⟩ = some (.int .i64 r) := by
                simpa using h5
              have h7 : w'.cell? ⟨a.block, a.off + (p * n + q).toNat + 0, none⟩ = w.cell? ⟨a.block, a.off + (p * n + q).toNat + 0, none⟩ := World.cell?_of_block (hg.block _ hblk (by simp))
              exact h7.trans h6
            | j + 1, hs => simp [Value.cells] at hs
  · cases hb
/- trestle/evening.extremes -/
noncomputable def e_evening_extremes : Env := (E0.withX 46 t_evening_meetings)
theorem e_evening_extremes_ok : EnvOk e_evening_extremes := (EnvOk.withX E0_ok x_evening_meetings.1 x_evening_meetings.2)
noncomputable def cb_evening_extremes : Code := codeOf Tryd.f44
def evening_extremes_2 (x0 : Int) (v1 : (Int × (List Int))) (c33 : Int) : Nat → Int → Int → Int → Option ((Int × Int))
  | 0, _, _, _ => none
  | f + 1, c47, c48, c49 =>
    if (decide (c49 < c33)) = true then
    (square_at (v1.1, v1.2) c33 c49).bind fun v51 =>
    (square_at (v1.1, v1.2) c33 c49).bind fun v52 =>
    evening_extremes_2 x0 v1 c33 f (mnI c47 v51) (mxI c48 v52) (wr .i64 (c49 + 1))
    else
    some (c47, c48)
def evening_extremes_1 (x0 : Int) (v1 : (Int × (List Int))) : Nat → Int → Int → Int → Option ((Int × Int))
  | 0, _, _, _ => none
  | f + 1, c31, c32, c33 =>
    if (decide (c33 < x0)) = true then
    (evening_extremes_2 x0 v1 c33 100000 c31 c32 0).bind fun r55 =>
    evening_extremes_1 x0 v1 f r55.1 r55.2 (wr .i64 (c33 + 1))
    else
    some (c31, c32)
def evening_extremes_j3 (x0 : Int) (r58 : Int × Int) : Option ((Int)) :=
  if (x0 == 1) = true then
  some 0
  else
  some r58.1
def evening_extremes (x0 : Int) (x1 : (List (List (List Int)))) : Option (Int × Int) :=
  (evening_meetings x0 x1).bind fun v1 =>
  (evening_extremes_1 x0 v1 100000 64 0 0).bind fun r58 =>
  (evening_extremes_j3 x0 r58).bind fun r61 =>
  some (r61, r58.2)
def cs_evening_extremes : Cs (Int × (List (List (List Int))) × Unit) := (csC cdI (csC (cdL 1 (cdL 1 (cdL 1 cdI))) csN))
def er_evening_extremes (r : Int × Int) : AV := .tp [cdI.enc r.1, cdI.enc r.2]
set_option maxHeartbeats 4000000 in
set_option maxRecDepth 100000 in
theorem evening_extremes_2_ok (x0 : Int) (v1 : (Int × (List Int))) (c33 : Int) : ∀ (f : Nat) (c47 : Int) (c48 : Int) (c49 : Int) (r : (Int × Int)), evening_extremes_2 x0 v1 c33 f c47 c48 c49 = some r → SemN e_evening_extremes ⟨none, false⟩ (pc cb_evening_extremes [1, 1, 1, 0, 1, 0, 0, 1, 1, 0, 0, 1, 1, 0, 0]) f ⟨Fr 44 [(0, .v (.int .i64 x0)), (6, .pt 0 0 0), (7, .v (.int .i64 c47)), (8, .v (.int .i64 c48)), (9, .v (.int .i64 c33)), (14, .v (.int .i64 x0)), (15, .v (.int .i64 c33)), (18, .v (.int .i64 c33)), (19, .v (.int .i64 c49))], [some ⟨2, 65, [.ag [.v (.int .i64 v1.1), .sl 1 (v1.2.map cdI.enc)]], false⟩]⟩ (fun e s => e = (.exit 2) ∧ Wk e_evening_extremes s ⟨Fr 44 [(0, .v (.int .i64 x0)), (6, .pt 0 0 0), (7, .v (.int .i64 r.1)), (8, .v (.int .i64 r.2)), (14, .v (.int .i64 x0)), (15, .v (.int .i64 c33))], [some ⟨2, 65, [.ag [.v (.int .i64 v1.1), .sl 1 (v1.2.map cdI.enc)]], false⟩]⟩) := by
  intro f
  induction f with
  | zero => intro c47 c48 c49 r h; cases h
  | succ f ih0 =>
    intro c47 c48 c49 r h
    have ih := fun (c47 : Int) (c48 : Int) (c49 : Int) => ih0 c47 c48 c49 r
    unfold evening_extremes_2 at h
    refine SemN.succ ?_
    refine Sem.seq ?_
    refine Sem.runS (s1 := ⟨Fr 44 [(0, .v (.int .i64 x0)), (6, .pt 0 0 0), (7, .v (.int .i64 c47)), (8, .v (.int .i64 c48)), (9, .v (.int .i64 c33)), (14, .v (.int .i64 x0)), (15, .v (.int .i64 c33)), (18, .v (.int .i64 c33)), (19, .v (.int .i64 c49)), (20, .v (.bool (decide (c49 < c33))))], [some ⟨2, 65, [.ag [.v (.int .i64 v1.1), .sl 1 (v1.2.map cdI.enc)]], false⟩]⟩) ?_ ?_
    · refine RunS.segF (n := 44) e_evening_extremes_ok 1 [(0, .v (.int .i64 x0)), (6, .pt 0 0 0), (7, .v (.int .i64 c47)), (8, .v (.int .i64 c48)), (9, .v (.int .i64 c33)), (14, .v (.int .i64 x0)), (15, .v (.int .i64 c33)), (18, .v (.int .i64 c33)), (19, .v (.int .i64 c49)), (20, .v (.bool (decide (c49 < c33))))] [some ⟨2, 65, [.ag [.v (.int .i64 v1.1), .sl 1 (v1.2.map cdI.enc)]], false⟩] (by kernel_rfl) ?_
      exact RunS.done rfl (Wk.s3 [0] ⟨⟨_, rfl, bu_d⟩, trivial⟩ ⟨lv, lv, lv, lv, lv, lv, lv, lv, lv, lv, trivial⟩)
    refine Sem.seq ?_
    refine Sem.cond (b := (decide (c49 < c33))) (by kernel_rfl) (fun hb50 => ?_) (fun hb50 => ?_)
    · rw [if_pos hb50] at h
      refine Sem.skip ?_
      refine Sem.seq ?_
      refine Sem.block ?_
      refine Sem.seq ?_
      refine Sem.runS (s1 := ⟨Fr 44 [(0, .v (.int .i64 x0)), (6, .pt 0 0 0), (7, .v (.int .i64 c47)), (8, .v (.int .i64 c48)), (9, .v (.int .i64 c33)), (10, .v (.int .i64 c49)), (14, .v (.int .i64 x0)), (15, .v (.int .i64 c33)), (18, .v (.int .i64 c33)), (19, .v (.int .i64 c49))], [some ⟨2, 65, [.ag [.v (.int .i64 v1.1), .sl 1 (v1.2.map cdI.enc)]], false⟩]⟩) ?_ ?_
      · refine RunS.segF (n := 44) e_evening_extremes_ok 2 [(0, .v (.int .i64 x0)), (6, .pt 0 0 0), (7, .v (.int .i64 c47)), (8, .v (.int .i64 c48)), (9, .v (.int .i64 c33)), (10, .v (.int .i64 c49)), (14, .v (.int .i64 x0)), (15, .v (.int .i64 c33)), (18, .v (.int .i64 c33)), (19, .v (.int .i64 c49))] [some ⟨2, 65, [.ag [.v (.int .i64 v1.1), .sl 1 (v1.2.map cdI.enc)]], false⟩] (by kernel_rfl) ?_
        exact RunS.done rfl (Wk.s3 [0] ⟨⟨_, rfl, bu_d⟩, trivial⟩ ⟨lv, lv, lv, lv, lv, lv, lv, lv, lv, lv, trivial⟩)
      obtain ⟨v51, hv51, h⟩ := Option.bind_eq_some_iff.1 h
      obtain ⟨v52, hv52, h⟩ := Option.bind_eq_some_iff.1 h
      refine Sem.runDS e_evening_extremes_ok (s1 := ⟨Fr 44 [(0, .v (.int .i64 x0)), (6, .pt 0 0 0), (7, .v (.int .i64 (mnI c47 v51))), (8, .v (.int .i64 (mxI c48 v52))), (9, .v (.int .i64 c33)), (14, .v (.int .i64 x0)), (15, .v (.int .i64 c33)), (18, .v (.int .i64 c33)), (19, .v (.int .i64 c49))], [some ⟨2, 65, [.ag [.v (.int .i64 v1.1), .sl 1 (v1.2.map cdI.enc)]], false⟩]⟩) (by kernel_rfl) ?_ ?_
      · refine RunDS.segF (n := 44) e_evening_extremes_ok 4 [(0, .v (.int .i64 x0)), (6, .pt 0 0 0), (8, .v (.int .i64 c48)), (9, .v (.int .i64 c33)), (10, .v (.int .i64 c49)), (14, .v (.int .i64 x0)), (15, .v (.int .i64 c33)), (18, .v (.int .i64 c33)), (19, .v (.int .i64 c49)), (22, .v (.int .i64 c47)), (23, .ag [.v (.int .i64 v1.1), .sl 1 (v1.2.map cdI.enc)]), (24, .v (.int .i64 c33)), (25, .v (.int .i64 c49))] [some ⟨2, 65, [.ag [.v (.int .i64 v1.1), .sl 1 (v1.2.map cdI.enc)]], false⟩] (by kernel_rfl) (by kernel_rfl) ?_
        refine RunDS.peek rfl x_square_at (u := ((v1.1, v1.2), c33, c49, ())) rfl (wantedA_none rfl) (by kernel_rfl) (by kernel_rfl) rfl hv51 ?_
        refine RunDS.segF (n := 44) e_evening_extremes_ok 7 [(0, .v (.int .i64 x0)), (6, .pt 0 0 0), (9, .v (.int .i64 c33)), (14, .v (.int .i64 x0)), (15, .v (.int .i64 c33)), (18, .v (.int .i64 c33)), (19, .v (.int .i64 c49)), (29, .v (.int .i64 (mnI c47 v51))), (30, .v (.int .i64 c48)), (31, .ag [.v (.int .i64 v1.1), .sl 1 (v1.2.map cdI.enc)]), (32, .v (.int .i64 c33)), (33, .v (.int .i64 c49))] [some ⟨2, 65, [.ag [.v (.int .i64 v1.1), .sl 1 (v1.2.map cdI.enc)]], false⟩] (by kernel_rfl) (by kernel_rfl) ?_
        refine RunDS.peek rfl x_square_at (u := ((v1.1, v1.2), c33, c49, ())) rfl (wantedA_none rfl) (by kernel_rfl) (by kernel_rfl) rfl hv52 ?_
        refine RunDS.segF (n := 44) e_evening_extremes_ok 5 [(0, .v (.int .i64 x0)), (6, .pt 0 0 0), (7, .v (.int .i64 (mnI c47 v51))), (8, .v (.int .i64 (mxI c48 v52))), (9, .v (.int .i64 c33)), (14, .v (.int .i64 x0)), (15, .v (.int .i64 c33)), (18, .v (.int .i64 c33)), (19, .v (.int .i64 c49))] [some ⟨2, 65, [.ag [.v (.int .i64 v1.1), .sl 1 (v1.2.map cdI.enc)]], false⟩] (by kernel_rfl) (by kernel_rfl) ?_
        exact RunDS.done rfl (Wk.s3 [0] ⟨⟨_, rfl, bu_d⟩, trivial⟩ ⟨lv, lv, lv, lv, lv, lv, lv, lv, lv, trivial⟩)
      refine Sem.runS (s1 := ⟨Fr 44 [(0, .v (.int .i64 x0)), (6, .pt 0 0 0), (7, .v (.int .i64 (mnI c47 v51))), (8, .v (.int .i64 (mxI c48 v52))), (9, .v (.int .i64 c33)), (14, .v (.int .i64 x0)), (15, .v (.int .i64 c33)), (18, .v (.int .i64 c33)), (19, .v (.int .i64 (wr .i64 (c49 + 1))))], [some ⟨2, 65, [.ag [.v (.int .i64 v1.1), .sl 1 (v1.2.map cdI.enc)]], false⟩]⟩) ?_ ?_
      · refine RunS.segF (n := 44) e_evening_extremes_ok 2 [(0, .v (.int .i64 x0)), (6, .pt 0 0 0), (7, .v (.int .i64 (mnI c47 v51))), (8, .v (.int .i64 (mxI c48 v52))), (9, .v (.int .i64 c33)), (14, .v (.int .i64 x0)), (15, .v (.int .i64 c33)), (18, .v (.int .i64 c33)), (19, .v (.int .i64 (wr .i64 (c49 + 1))))] [some ⟨2, 65, [.ag [.v (.int .i64 v1.1), .sl 1 (v1.2.map cdI.enc)]], false⟩] (by kernel_rfl) ?_
        exact RunS.done rfl (Wk.s3 [0] ⟨⟨_, rfl, bu_d⟩, trivial⟩ ⟨lv, lv, lv, lv, lv, lv, lv, lv, lv, trivial⟩)
      exact SemN.wk (s1 := ⟨Fr 44 [(0, .v (.int .i64 x0)), (6, .pt 0 0 0), (7, .v (.int .i64 (mnI c47 v51))), (8, .v (.int .i64 (mxI c48 v52))), (9, .v (.int .i64 c33)), (14, .v (.int .i64 x0)), (15, .v (.int .i64 c33)), (18, .v (.int .i64 c33)), (19, .v (.int .i64 (wr .i64 (c49 + 1))))], [some ⟨2, 65, [.ag [.v (.int .i64 v1.1), .sl 1 (v1.2.map cdI.enc)]], false⟩]⟩) (Wk.s3 [0] ⟨⟨_, rfl, bu_d⟩, trivial⟩ ⟨lv, lv, lv, lv, lv, lv, lv, lv, lv, trivial⟩) (ih (mnI c47 v51) (mxI c48 v52) (wr .i64 (c49 + 1)) h)
    · rw [if_f hb50] at h
      refine Sem.exit ?_
      have hq := Option.some.inj h; subst hq
      exact ⟨rfl, (Wk.s3 [0] ⟨⟨_, rfl, bu_d⟩, trivial⟩ ⟨lv, lv, lv, lv, lv, lv, trivial⟩)⟩
set_option maxHeartbeats 4000000 in
set_option maxRecDepth 100000 in
theorem evening_extremes_1_ok (x0 : Int) (v1 : (Int × (List Int))) : ∀ (f : Nat) (c31 : Int) (c32 : Int) (c33 : Int) (r : (Int × Int)), evening_extremes_1 x0 v1 f c31 c32 c33 = some r → SemN e_evening_extremes ⟨none, false⟩ (pc cb_evening_extremes [1, 1, 1, 0, 1, 0, 0]) f ⟨Fr 44 [(0, .v (.int .i64 x0)), (6, .pt 0 0 0), (7, .v (.int .i64 c31)), (8, .v (.int .i64 c32)), (14, .v (.int .i64 x0)), (15, .v (.int .i64 c33))], [some ⟨2, 65, [.ag [.v (.int .i64 v1.1), .sl 1 (v1.2.map cdI.enc)]], false⟩]⟩ (fun e s => e = (.exit 0) ∧ Wk e_evening_extremes s ⟨Fr 44 [(0, .v (.int .i64 x0)), (7, .v (.int .i64 r.1)), (8, .v (.int .i64 r.2))], []⟩) := by
  intro f
  induction f with
  | zero => intro c31 c32 c33 r h; cases h
  | succ f ih0 =>
    intro c31 c32 c33 r h
    have ih := fun (c31 : Int) (c32 : Int) (c33 : Int) => ih0 c31 c32 c33 r
    unfold evening_extremes_1 at h
    refine SemN.succ ?_
    refine Sem.seq ?_
    refine Sem.runS (s1 := ⟨Fr 44 [(0, .v (.int .i64 x0)), (6, .pt 0 0 0), (7, .v (.int .i64 c31)), (8, .v (.int .i64 c32)), (14, .v (.int .i64 x0)), (15, .v (.int .i64 c33)), (16, .v (.bool (decide (c33 < x0))))], [some ⟨2, 65, [.ag [.v (.int .i64 v1.1), .sl 1 (v1.2.map cdI.enc)]], false⟩]⟩) ?_ ?_
    · refine RunS.segF (n := 44) e_evening_extremes_ok 1 [(0, .v (.int .i64 x0)), (6, .pt 0 0 0), (7, .v (.int .i64 c31)), (8, .v (.int .i64 c32)), (14, .v (.int .i64 x0)), (15, .v (.int .i64 c33)), (16, .v (.bool (decide (c33 < x0))))] [some ⟨2, 65, [.ag [.v (.int .i64 v1.1), .sl 1 (v1.2.map cdI.enc)]], false⟩] (by kernel_rfl) ?_
      exact RunS.done rfl (Wk.s3 [0] ⟨⟨_, rfl, bu_d⟩, trivial⟩ ⟨lv, lv, lv, lv, lv, lv, lv, trivial⟩)
    refine Sem.seq ?_
    refine Sem.cond (b := (decide (c33 < x0))) (by kernel_rfl) (fun hb34 => ?_) (fun hb34 => ?_)
    · rw [if_pos hb34] at h
      refine Sem.skip ?_
      refine Sem.seq ?_
      refine Sem.block ?_
      refine Sem.seq ?_
      refine Sem.runS (s1 := ⟨Fr 44 [(0, .v (.int .i64 x0)), (6, .pt 0 0 0), (7, .v (.int .i64 c31)), (8, .v (.int .i64 c32)), (9, .v (.int .i64 c33)), (14, .v (.int .i64 x0)), (15, .v (.int .i64 c33))], [some ⟨2, 65, [.ag [.v (.int .i64 v1.1), .sl 1 (v1.2.map cdI.enc)]], false⟩]⟩) ?_ ?_
      · refine RunS.segF (n := 44) e_evening_extremes_ok 2 [(0, .v (.int .i64 x0)), (6, .pt 0 0 0), (7, .v (.int .i64 c31)), (8, .v (.int .i64 c32)), (9, .v (.int .i64 c33)), (14, .v (.int .i64 x0)), (15, .v (.int .i64 c33))] [some ⟨2, 65, [.ag [.v (.int .i64 v1.1), .sl 1 (v1.2.map cdI.enc)]], false⟩] (by kernel_rfl) ?_
        exact RunS.done rfl (Wk.s3 [0] ⟨⟨_, rfl, bu_d⟩, trivial⟩ ⟨lv, lv, lv, lv, lv, lv, lv, trivial⟩)
      refine Sem.seq ?_
      refine Sem.runS (s1 := ⟨Fr 44 [(0, .v (.int .i64 x0)), (6, .pt 0 0 0), (7, .v (.int .i64 c31)), (8, .v (.int .i64 c32)), (9, .v (.int .i64 c33)), (14, .v (.int .i64 x0)), (15, .v (.int .i64 c33)), (18, .v (.int .i64 c33)), (19, .v (.int .i64 0))], [some ⟨2, 65, [.ag [.v (.int .i64 v1.1), .sl 1 (v1.2.map cdI.enc)]], false⟩]⟩) ?_ ?_
      · refine RunS.segF (n := 44) e_evening_extremes_ok 2 [(0, .v (.int .i64 x0)), (6, .pt 0 0 0), (7, .v (.int .i64 c31)), (8, .v (.int .i64 c32)), (9, .v (.int .i64 c33)), (14, .v (.int .i64 x0)), (15, .v (.int .i64 c33)), (18, .v (.int .i64 c33)), (19, .v (.int .i64 0))] [some ⟨2, 65, [.ag [.v (.int .i64 v1.1), .sl 1 (v1.2.map cdI.enc)]], false⟩] (by kernel_rfl) ?_
        exact RunS.done rfl (Wk.s3 [0] ⟨⟨_, rfl, bu_d⟩, trivial⟩ ⟨lv, lv, lv, lv, lv, lv, lv, lv, lv, trivial⟩)
      refine Sem.block ?_
      obtain ⟨r55, hr55, h⟩ := Option.bind_eq_some_iff.1 h
      refine Sem.loop (n := 100000) ?_
      refine Sem.cutN (SemN.wk (s1 := ⟨Fr 44 [(0, .v (.int .i64 x0)), (6, .pt 0 0 0), (7, .v (.int .i64 c31)), (8, .v (.int .i64 c32)), (9, .v (.int .i64 c33)), (14, .v (.int .i64 x0)), (15, .v (.int .i64 c33)), (18, .v (.int .i64 c33)), (19, .v (.int .i64 0))], [some ⟨2, 65, [.ag [.v (.int .i64 v1.1), .sl 1 (v1.2.map cdI.enc)]], false⟩]⟩) (Wk.s3 [0] ⟨⟨_, rfl, bu_d⟩, trivial⟩ ⟨lv, lv, lv, lv, lv, lv, lv, lv, lv, trivial⟩) (evening_extremes_2_ok x0 v1 c33 _ c31 c32 0 _ hr55)) ?_
      refine Sem.runS (s1 := ⟨Fr 44 [(0, .v (.int .i64 x0)), (6, .pt 0 0 0), (7, .v (.int .i64 r55.1)), (8, .v (.int .i64 r55.2)), (14, .v (.int .i64 x0)), (15, .v (.int .i64 (wr .i64 (c33 + 1))))], [some ⟨2, 65, [.ag [.v (.int .i64 v1.1), .sl 1 (v1.2.map cdI.enc)]], false⟩]⟩) ?_ ?_
      · refine RunS.segF (n := 44) e_evening_extremes_ok 2 [(0, .v (.int .i64 x0)), (6, .pt 0 0 0), (7, .v (.int .i64 r55.1)), (8, .v (.int .i64 r55.2)), (14, .v (.int .i64 x0)), (15, .v (.int .i64 (wr .i64 (c33 + 1))))] [some ⟨2, 65, [.ag [.v (.int .i64 v1.1), .sl 1 (v1.2.map cdI.enc)]], false⟩] (by kernel_rfl) ?_
        exact RunS.done rfl (Wk.s3 [0] ⟨⟨_, rfl, bu_d⟩, trivial⟩ ⟨lv, lv, lv, lv, lv, lv, trivial⟩)
      exact SemN.wk (s1 := ⟨Fr 44 [(0, .v (.int .i64 x0)), (6, .pt 0 0 0), (7, .v (.int .i64 r55.1)), (8, .v (.int .i64 r55.2)), (14, .v (.int .i64 x0)), (15, .v (.int .i64 (wr .i64 (c33 + 1))))], [some ⟨2, 65, [.ag [.v (.int .i64 v1.1), .sl 1 (v1.2.map cdI.enc)]], false⟩]⟩) (Wk.s3 [0] ⟨⟨_, rfl, bu_d⟩, trivial⟩ ⟨lv, lv, lv, lv, lv, lv, trivial⟩) (ih r55.1 r55.2 (wr .i64 (c33 + 1)) h)
    · rw [if_f hb34] at h
      refine Sem.exit ?_
      have hq := Option.some.inj h; subst hq
      exact ⟨rfl, (Wk.s3 [] trivial ⟨lv, lv, lv, trivial⟩)⟩
set_option maxHeartbeats 4000000 in
set_option maxRecDepth 100000 in
theorem evening_extremes_j3_ok (x0 : Int) (r58 : Int × Int) (r : (Int)) (h : evening_extremes_j3 x0 r58 = some r) : Sem e_evening_extremes ⟨none, false⟩ (pc cb_evening_extremes [1, 1, 1, 1, 0, 1]) ⟨Fr 44 [(7, .v (.int .i64 r58.1)), (8, .v (.int .i64 r58.2)), (41, .v (.bool (x0 == 1)))], []⟩ (fun e s => e = .normal ∧ Wk e_evening_extremes s ⟨Fr 44 [(7, .v (.int .i64 r)), (8, .v (.int .i64 r58.2))], []⟩) := by
  unfold evening_extremes_j3 at h
  refine Sem.cond (b := (x0 == 1)) (by kernel_rfl) (fun hb59 => ?_) (fun hb59 => ?_)
  · rw [if_pos hb59] at h
    refine Sem.runS (s1 := ⟨Fr 44 [(7, .v (.int .i64 0)), (8, .v (.int .i64 r58.2))], []⟩) ?_ ?_
    · refine RunS.segF (n := 44) e_evening_extremes_ok 1 [(7, .v (.int .i64 0)), (8, .v (.int .i64 r58.2))] [] (by kernel_rfl) ?_
      exact RunS.done rfl Wk.f1
    have hq := Option.some.inj h; subst hq
    exact ⟨rfl, Wk.f1⟩
  · rw [if_f hb59] at h
    refine Sem.skip ?_
    have hq := Option.some.inj h; subst hq
    exact ⟨rfl, Wk.f1⟩
set_option maxHeartbeats 4000000 in
set_option maxRecDepth 100000 in
theorem evening_extremes_sem (x0 : Int) (x1 : (List (List (List Int)))) (r : Int × Int) (h : evening_extremes x0 x1 = some r) : Sem e_evening_extremes ⟨none, false⟩ cb_evening_extremes ⟨Fr 44 (pairs0 0 (cs_evening_extremes.enc (x0, x1, ()))), []⟩ fun e s' => (e = .normal ∨ e = .ret) ∧ ∃ xs, resA e_evening_extremes.P s'.fr s'.hp Tryd.f44.results.toList = some xs ∧ retA xs = er_evening_extremes r := by
  unfold evening_extremes at h
  refine Sem.wkQ (Sem.wk (s1 := ⟨Fr 44 [(0, .v (.int .i64 x0)), (1, .sl 1 (x1.map (cdL 1 (cdL 1 cdI)).enc))], []⟩) Wk.f1 ?_)
  refine Sem.seq ?_
  refine Sem.runS (s1 := ⟨Fr 44 [(0, .v (.int .i64 x0)), (1, .sl 1 (x1.map (cdL 1 (cdL 1 cdI)).enc))], []⟩) ?_ ?_
  · refine RunS.segF (n := 44) e_evening_extremes_ok 2 [(0, .v (.int .i64 x0)), (1, .sl 1 (x1.map (cdL 1 (cdL 1 cdI)).enc))] [] (by kernel_rfl) ?_
    exact RunS.done rfl Wk.f1
  refine Sem.seq ?_
  obtain ⟨v1, hv1, h⟩ := Option.bind_eq_some_iff.1 h
  refine Sem.runS (s1 := ⟨Fr 44 [(0, .v (.int .i64 x0)), (6, .pt 0 0 0)], [some ⟨2, 65, [.ag [.v (.int .i64 v1.1), .sl 1 (v1.2.map cdI.enc)]], false⟩]⟩) ?_ ?_
  · refine RunS.segF (n := 44) e_evening_extremes_ok 2 [(0, .v (.int .i64 x0)), (11, .v (.int .i64 x0)), (12, .sl 1 (x1.map (cdL 1 (cdL 1 cdI)).enc))] [] (by kernel_rfl) ?_
    refine RunS.call e_evening_extremes_ok (fid := 46) (s := cs_evening_meetings) (F := fun a => evening_meetings a.1 a.2.1) (er := er_evening_meetings) (xs := [.v (.int .i64 x0), .sl 1 (x1.map (cdL 1 (cdL 1 cdI)).enc)]) (a := (x0, x1, ())) rfl (wantedA_none rfl) (by kernel_rfl) (by kernel_rfl) (by kernel_rfl) (by kernel_rfl) (Sns.cons (Sn.enc (c := cdI) (v := x0)) (Sns.cons (Sn.enc (c := (cdL 1 (cdL 1 (cdL 1 cdI)))) (v := x1)) Sns.nil)) (.inl (by kernel_rfl)) hv1 ?_
    refine RunS.segF (n := 44) e_evening_extremes_ok 2 [(0, .v (.int .i64 x0)), (6, .pt 0 0 0)] [some ⟨2, 65, [.ag [.v (.int .i64 v1.1), .sl 1 (v1.2.map cdI.enc)]], false⟩] (by kernel_rfl) ?_
    exact RunS.done rfl (Wk.s3 [0] ⟨⟨_, rfl, bu_d⟩, trivial⟩ ⟨lv, lv, trivial⟩)
  refine Sem.seq ?_
  refine Sem.runS (s1 := ⟨Fr 44 [(0, .v (.int .i64 x0)), (6, .pt 0 0 0), (7, .v (.int .i64 64)), (8, .v (.int .i64 0))], [some ⟨2, 65, [.ag [.v (.int .i64 v1.1), .sl 1 (v1.2.map cdI.enc)]], false⟩]⟩) ?_ ?_
  · refine RunS.segF (n := 44) e_evening_extremes_ok 2 [(0, .v (.int .i64 x0)), (6, .pt 0 0 0), (7, .v (.int .i64 64)), (8, .v (.int .i64 0))] [some ⟨2, 65, [.ag [.v (.int .i64 v1.1), .sl 1 (v1.2.map cdI.enc)]], false⟩] (by kernel_rfl) ?_
    exact RunS.done rfl (Wk.s3 [0] ⟨⟨_, rfl, bu_d⟩, trivial⟩ ⟨lv, lv, lv, lv, trivial⟩)
  refine Sem.seq ?_
  refine Sem.seq ?_
  refine Sem.runS (s1 := ⟨Fr 44 [(0, .v (.int .i64 x0)), (6, .pt 0 0 0), (7, .v (.int .i64 64)), (8, .v (.int .i64 0)), (14, .v (.int .i64 x0)), (15, .v (.int .i64 0))], [some ⟨2, 65, [.ag [.v (.int .i64 v1.1), .sl 1 (v1.2.map cdI.enc)]], false⟩]⟩) ?_ ?_
  · refine RunS.segF (n := 44) e_evening_extremes_ok 2 [(0, .v (.int .i64 x0)), (6, .pt 0 0 0), (7, .v (.int .i64 64)), (8, .v (.int .i64 0)), (14, .v (.int .i64 x0)), (15, .v (.int .i64 0))] [some ⟨2, 65, [.ag [.v (.int .i64 v1.1), .sl 1 (v1.2.map cdI.enc)]], false⟩] (by kernel_rfl) ?_
    exact RunS.done rfl (Wk.s3 [0] ⟨⟨_, rfl, bu_d⟩, trivial⟩ ⟨lv, lv, lv, lv, lv, lv, trivial⟩)
  refine Sem.block ?_
  obtain ⟨r58, hr58, h⟩ := Option.bind_eq_some_iff.1 h
  refine Sem.loop (n := 100000) ?_
  refine Sem.cutN (SemN.wk (s1 := ⟨Fr 44 [(0, .v (.int .i64 x0)), (6, .pt 0 0 0), (7, .v (.int .i64 64)), (8, .v (.int .i64 0)), (14, .v (.int .i64 x0)), (15, .v (.int .i64 0))], [some ⟨2, 65, [.ag [.v (.int .i64 v1.1), .sl 1 (v1.2.map cdI.enc)]], false⟩]⟩) (Wk.s3 [0] ⟨⟨_, rfl, bu_d⟩, trivial⟩ ⟨lv, lv, lv, lv, lv, lv, trivial⟩) (evening_extremes_1_ok x0 v1 _ 64 0 0 _ hr58)) ?_
  refine Sem.seq ?_
  refine Sem.seq ?_
  refine Sem.runS (s1 := ⟨Fr 44 [(7, .v (.int .i64 r58.1)), (8, .v (.int .i64 r58.2)), (41, .v (.bool (x0 == 1)))], []⟩) ?_ ?_
  · refine RunS.segF (n := 44) e_evening_extremes_ok 2 [(7, .v (.int .i64 r58.1)), (8, .v (.int .i64 r58.2)), (41, .v (.bool (x0 == 1)))] [] (by kernel_rfl) ?_
    exact RunS.done rfl Wk.f1
  obtain ⟨r61, hr61, h⟩ := Option.bind_eq_some_iff.1 h
  refine Sem.cut (evening_extremes_j3_ok x0 r58 _ hr61) ?_
  refine Sem.seq ?_
  refine Sem.runS (s1 := ⟨Fr 44 [(4, .v (.int .i64 r61)), (5, .v (.int .i64 r58.2))], []⟩) ?_ ?_
  · refine RunS.segF (n := 44) e_evening_extremes_ok 4 [(4, .v (.int .i64 r61)), (5, .v (.int .i64 r58.2))] [] (by kernel_rfl) ?_
    exact RunS.done rfl Wk.f1
  refine Sem.ret ?_
  have hq := Option.some.inj h; subst hq
  exact ⟨⟨Fr 44 [(4, .v (.int .i64 r61)), (5, .v (.int .i64 r58.2))], []⟩, Wk.f1, .inr rfl, [.v (.int .i64 r61), .v (.int .i64 r58.2)], (by kernel_rfl), (by kernel_rfl)⟩
def t_evening_extremes : List AV → Option AV := told cs_evening_extremes (fun a => evening_extremes a.1 a.2.1) er_evening_extremes
theorem x_evening_extremes : XOk 44 t_evening_extremes := by
  refine EnvOk.x (E := e_evening_extremes) (contract_ok e_evening_extremes_ok (fn := Tryd.f44) (c := cb_evening_extremes) ?h1 ?h2 ⟨Tryd.call44⟩ cs_evening_extremes (fun a => evening_extremes a.1 a.2.1) er_evening_extremes (fun a => (by show 2 ≤ 44; decide)) ?h3 ?h4) rfl rfl
  case h1 => kernel_rfl
  case h2 => kernel_rfl
  case h3 => intro b; kernel_rfl
  case h4 => exact fun a b h => evening_extremes_sem a.1 a.2.1 b h
/- trestle/evening.Most -/
noncomputable def e_evening_Most : Env := ((E0.withX 43 t_evening_valid).withX 44 t_evening_extremes)
theorem e_evening_Most_ok : EnvOk e_evening_Most := (EnvOk.withX (EnvOk.withX E0_ok x_evening_valid.1 x_evening_valid.2) x_evening_extremes.1 x_evening_extremes.2)
noncomputable def cb_evening_Most : Code := codeOf Tryd.f12
def evening_Most (x0 : Int) (x1 : (List (List (List Int)))) : Option (Int) :=
  (evening_valid x0 x1).bind fun v1 =>
  if (!v1) = true then
  some 0
  else
  (evening_extremes x0 x1).bind fun v3 =>
  some v3.2
def cs_evening_Most : Cs (Int × (List (List (List Int))) × Unit) := (csC cdI (csC (cdL 1 (cdL 1 (cdL 1 cdI))) csN))
def er_evening_Most (r : Int) : AV := cdI.enc r
set_option maxHeartbeats 4000000 in
set_option maxRecDepth 100000 in
theorem evening_Most_sem (x0 : Int) (x1 : (List (List (List Int)))) (r : Int) (h : evening_Most x0 x1 = some r) : Sem e_evening_Most ⟨none, false⟩ cb_evening_Most ⟨Fr 18 (pairs0 0 (cs_evening_Most.enc (x0, x1, ()))), []⟩ fun e s' => (e = .normal ∨ e = .ret) ∧ ∃ xs, resA e_evening_Most.P s'.fr s'.hp Tryd.f12.results.toList = some xs ∧ retA xs = er_evening_Most r := by
  unfold evening_Most at h
  refine Sem.wkQ (Sem.wk (s1 := ⟨Fr 18 [(0, .v (.int .i64 x0)), (1, .sl 1 (x1.map (cdL 1 (cdL 1 cdI)).enc))], []⟩) Wk.f1 ?_)
  refine Sem.seq ?_
  refine Sem.runS (s1 := ⟨Fr 18 [(0, .v (.int .i64 x0)), (1, .sl 1 (x1.map (cdL 1 (cdL 1 cdI)).enc))], []⟩) ?_ ?_
  · refine RunS.segF (n := 18) e_evening_Most_ok 1 [(0, .v (.int .i64 x0)), (1, .sl 1 (x1.map (cdL 1 (cdL 1 cdI)).enc))] [] (by kernel_rfl) ?_
    exact RunS.done rfl Wk.f1
  refine Sem.seq ?_
  refine Sem.seq ?_
  obtain ⟨v1, hv1, h⟩ := Option.bind_eq_some_iff.1 h
  refine Sem.runS (s1 := ⟨Fr 18 [(0, .v (.int .i64 x0)), (1, .sl 1 (x1.map (cdL 1 (cdL 1 cdI)).enc)), (10, .v (.bool (!v1)))], []⟩) ?_ ?_
  · refine RunS.segF (n := 18) e_evening_Most_ok 2 [(0, .v (.int .i64 x0)), (1, .sl 1 (x1.map (cdL 1 (cdL 1 cdI)).enc)), (7, .v (.int .i64 x0)), (8, .sl 1 (x1.map (cdL 1 (cdL 1 cdI)).enc))] [] (by kernel_rfl) ?_
    refine RunS.call e_evening_Most_ok (fid := 43) (s := cs_evening_valid) (F := fun a => evening_valid a.1 a.2.1) (er := er_evening_valid) (xs := [.v (.int .i64 x0), .sl 1 (x1.map (cdL 1 (cdL 1 cdI)).enc)]) (a := (x0, x1, ())) rfl (wantedA_none rfl) (by kernel_rfl) (by kernel_rfl) (by kernel_rfl) (by kernel_rfl) (Sns.cons (Sn.enc (c := cdI) (v := x0)) (Sns.cons (Sn.enc (c := (cdL 1 (cdL 1 (cdL 1 cdI)))) (v := x1)) Sns.nil)) (.inl (by kernel_rfl)) hv1 ?_
    refine RunS.segF (n := 18) e_evening_Most_ok 1 [(0, .v (.int .i64 x0)), (1, .sl 1 (x1.map (cdL 1 (cdL 1 cdI)).enc)), (10, .v (.bool (!v1)))] [] (by kernel_rfl) ?_
    exact RunS.done rfl Wk.f1
  refine Sem.cond (b := (!v1)) (by kernel_rfl) (fun hb2 => ?_) (fun hb2 => ?_)
  · rw [if_pos hb2] at h
    refine Sem.seq ?_
    refine Sem.runS (s1 := ⟨Fr 18 [(4, .v (.int .i64 0))], []⟩) ?_ ?_
    · refine RunS.segF (n := 18) e_evening_Most_ok 1 [(4, .v (.int .i64 0))] [] (by kernel_rfl) ?_
      exact RunS.done rfl Wk.f1
    refine Sem.ret ?_
    have hq := Option.some.inj h; subst hq
    exact ⟨⟨Fr 18 [(4, .v (.int .i64 0))], []⟩, Wk.f1, .inr rfl, [.v (.int .i64 0)], (by kernel_rfl), (by kernel_rfl)⟩
  · rw [if_f hb2] at h
    refine Sem.skip ?_
    refine Sem.seq ?_
    obtain ⟨v3, hv3, h⟩ := Option.bind_eq_some_iff.1 h
    refine Sem.runS (s1 := ⟨Fr 18 [(6, .v (.int .i64 v3.2))], []⟩) ?_ ?_
    · refine RunS.segF (n := 18) e_evening_Most_ok 2 [(12, .v (.int .i64 x0)), (13, .sl 1 (x1.map (cdL 1 (cdL 1 cdI)).enc))] [] (by kernel_rfl) ?_
      refine RunS.call e_evening_Most_ok (fid := 44) (s := cs_evening_extremes) (F := fun a => evening_extremes a.1 a.2.1) (er := er_evening_extremes) (xs := [.v (.int .i64 x0), .sl 1 (x1.map (cdL 1 (cdL 1 cdI)).enc)]) (a := (x0, x1, ())) rfl (wantedA_none rfl) (by kernel_rfl) (by kernel_rfl) (by kernel_rfl) (by kernel_rfl) (Sns.cons (Sn.enc (c := cdI) (v := x0)) (Sns.cons (Sn.enc (c := (cdL 1 (cdL 1 (cdL 1 cdI)))) (v := x1)) Sns.nil)) (.inl (by kernel_rfl)) hv3 ?_
      refine RunS.segF (n := 18) e_evening_Most_ok 5 [(6, .v (.int .i64 v3.2))] [] (by kernel_rfl) ?_
      exact RunS.done rfl Wk.f1
    refine Sem.seq ?_
    refine Sem.runS (s1 := ⟨Fr 18 [(4, .v (.int .i64 v3.2))], []⟩) ?_ ?_
    · refine RunS.segF (n := 18) e_evening_Most_ok 2 [(4, .v (.int .i64 v3.2))] [] (by kernel_rfl) ?_
      exact RunS.done rfl Wk.f1
    refine Sem.ret ?_
    have hq := Option.some.inj h; subst hq
    exact ⟨⟨Fr 18 [(4, .v (.int .i64 v3.2))], []⟩, Wk.f1, .inr rfl, [.v (.int .i64 v3.2)], (by kernel_rfl), (by kernel_rfl)⟩
def t_evening_Most : List AV → Option AV := told cs_evening_Most (fun a => evening_Most a.1 a.2.1) er_evening_Most
theorem x_evening_Most : XOk 12 t_evening_Most := by
  refine EnvOk.x (E := e_evening_Most) (contract_ok e_evening_Most_ok (fn := Tryd.f12) (c := cb_evening_Most) ?h1 ?h2 ⟨Tryd.call12⟩ cs_evening_Most (fun a => evening_Most a.1 a.2.1) er_evening_Most (fun a => (by show 2 ≤ 18; decide)) ?h3 ?h4) rfl rfl
  case h1 => kernel_rfl
  case h2 => kernel_rfl
  case h3 => intro b; kernel_rfl
  case h4 => exact fun a b h => evening_Most_sem a.1 a.2.1 b h
/- trestle/evening.Least -/
noncomputable def e_evening_Least : Env := ((E0.withX 43 t_evening_valid).withX 44 t_evening_extremes)
theorem e_evening_Least_ok : EnvOk e_evening_Least := (EnvOk.withX (EnvOk.withX E0_ok x_evening_valid.1 x_evening_valid.2) x_evening_extremes.1 x_evening_extremes.2)
noncomputable def cb_evening_Least : Code := codeOf Tryd.f17
def evening_Least (x0 : Int) (x1 : (List (List (List Int)))) : Option (Int) :=
  (evening_valid x0 x1).bind fun v1 =>
  if (!v1) = true then
  some 0
  else
  (evening_extremes x0 x1).bind fun v3 =>
  some v3.1
def cs_evening_Least : Cs (Int × (List (List (List Int))) × Unit) := (csC cdI (csC (cdL 1 (cdL 1 (cdL 1 cdI))) csN))
def er_evening_Least (r : Int) : AV := cdI.enc r
set_option maxHeartbeats 4000000 in
set_option maxRecDepth 100000 in
theorem evening_Least_sem (x0 : Int) (x1 : (List (List (List Int)))) (r : Int) (h : evening_Least x0 x1 = some r) : Sem e_evening_Least ⟨none, false⟩ cb_evening_Least ⟨Fr 18 (pairs0 0 (cs_evening_Least.enc (x0, x1, ()))), []⟩ fun e s' => (e = .normal ∨ e = .ret) ∧ ∃ xs, resA e_evening_Least.P s'.fr s'.hp Tryd.f17.results.toList = some xs ∧ retA xs = er_evening_Least r := by
  unfold evening_Least at h
  refine Sem.wkQ (Sem.wk (s1 := ⟨Fr 18 [(0, .v (.int .i64 x0)), (1, .sl 1 (x1.map (cdL 1 (cdL 1 cdI)).enc))], []⟩) Wk.f1 ?_)
  refine Sem.seq ?_
  refine Sem.runS (s1 := ⟨Fr 18 [(0, .v (.int .i64 x0)), (1, .sl 1 (x1.map (cdL 1 (cdL 1 cdI)).enc))], []⟩) ?_ ?_
  · refine RunS.segF (n := 18) e_evening_Least_ok 1 [(0, .v (.int .i64 x0)), (1, .sl 1 (x1.map (cdL 1 (cdL 1 cdI)).enc))] [] (by kernel_rfl) ?_
    exact RunS.done rfl Wk.f1
  refine Sem.seq ?_
  refine Sem.seq ?_
  obtain ⟨v1, hv1, h⟩ := Option.bind_eq_some_iff.1 h
  refine Sem.runS (s1 := ⟨Fr 18 [(0, .v (.int .i64 x0)), (1, .sl 1 (x1.map (cdL 1 (cdL 1 cdI)).enc)), (10, .v (.bool (!v1)))], []⟩) ?_ ?_
  · refine RunS.segF (n := 18) e_evening_Least_ok 2 [(0, .v (.int .i64 x0)), (1, .sl 1 (x1.map (cdL 1 (cdL 1 cdI)).enc)), (7, .v (.int .i64 x0)), (8, .sl 1 (x1.map (cdL 1 (cdL 1 cdI)).enc))] [] (by kernel_rfl) ?_
    refine RunS.call e_evening_Least_ok (fid := 43) (s := cs_evening_valid) (F := fun a => evening_valid a.1 a.2.1) (er := er_evening_valid) (xs := [.v (.int .i64 x0), .sl 1 (x1.map (cdL 1 (cdL 1 cdI)).enc)]) (a := (x0, x1, ())) rfl (wantedA_none rfl) (by kernel_rfl) (by kernel_rfl) (by kernel_rfl) (by kernel_rfl) (Sns.cons (Sn.enc (c := cdI) (v := x0)) (Sns.cons (Sn.enc (c := (cdL 1 (cdL 1 (cdL 1 cdI)))) (v := x1)) Sns.nil)) (.inl (by kernel_rfl)) hv1 ?_
    refine RunS.segF (n := 18) e_evening_Least_ok 1 [(0, .v (.int .i64 x0)), (1, .sl 1 (x1.map (cdL 1 (cdL 1 cdI)).enc)), (10, .v (.bool (!v1)))] [] (by kernel_rfl) ?_
    exact RunS.done rfl Wk.f1
  refine Sem.cond (b := (!v1)) (by kernel_rfl) (fun hb2 => ?_) (fun hb2 => ?_)
  · rw [if_pos hb2] at h
    refine Sem.seq ?_
    refine Sem.runS (s1 := ⟨Fr 18 [(4, .v (.int .i64 0))], []⟩) ?_ ?_
    · refine RunS.segF (n := 18) e_evening_Least_ok 1 [(4, .v (.int .i64 0))] [] (by kernel_rfl) ?_
      exact RunS.done rfl Wk.f1
    refine Sem.ret ?_
    have hq := Option.some.inj h; subst hq
    exact ⟨⟨Fr 18 [(4, .v (.int .i64 0))], []⟩, Wk.f1, .inr rfl, [.v (.int .i64 0)], (by kernel_rfl), (by kernel_rfl)⟩
  · rw [if_f hb2] at h
    refine Sem.skip ?_
    refine Sem.seq ?_
    obtain ⟨v3, hv3, h⟩ := Option.bind_eq_some_iff.1 h
    refine Sem.runS (s1 := ⟨Fr 18 [(5, .v (.int .i64 v3.1))], []⟩) ?_ ?_
    · refine RunS.segF (n := 18) e_evening_Least_ok 2 [(12, .v (.int .i64 x0)), (13, .sl 1 (x1.map (cdL 1 (cdL 1 cdI)).enc))] [] (by kernel_rfl) ?_
      refine RunS.call e_evening_Least_ok (fid := 44) (s := cs_evening_extremes) (F := fun a => evening_extremes a.1 a.2.1) (er := er_evening_extremes) (xs := [.v (.int .i64 x0), .sl 1 (x1.map (cdL 1 (cdL 1 cdI)).enc)]) (a := (x0, x1, ())) rfl (wantedA_none rfl) (by kernel_rfl) (by kernel_rfl) (by kernel_rfl) (by kernel_rfl) (Sns.cons (Sn.enc (c := cdI) (v := x0)) (Sns.cons (Sn.enc (c := (cdL 1 (cdL 1 (cdL 1 cdI)))) (v := x1)) Sns.nil)) (.inl (by kernel_rfl)) hv3 ?_
      refine RunS.segF (n := 18) e_evening_Least_ok 5 [(5, .v (.int .i64 v3.1))] [] (by kernel_rfl) ?_
      exact RunS.done rfl Wk.f1
    refine Sem.seq ?_
    refine Sem.runS (s1 := ⟨Fr 18 [(4, .v (.int .i64 v3.1))], []⟩) ?_ ?_
    · refine RunS.segF (n := 18) e_evening_Least_ok 2 [(4, .v (.int .i64 v3.1))] [] (by kernel_rfl) ?_
      exact RunS.done rfl Wk.f1
    refine Sem.ret ?_
    have hq := Option.some.inj h; subst hq
    exact ⟨⟨Fr 18 [(4, .v (.int .i64 v3.1))], []⟩, Wk.f1, .inr rfl, [.v (.int .i64 v3.1)], (by kernel_rfl), (by kernel_rfl)⟩
def t_evening_Least : List AV → Option AV := told cs_evening_Least (fun a => evening_Least a.1 a.2.1) er_evening_Least
theorem x_evening_Least : XOk 17 t_evening_Least := by
  refine EnvOk.x (E := e_evening_Least) (contract_ok e_evening_Least_ok (fn := Tryd.f17) (c := cb_evening_Least) ?h1 ?h2 ⟨Tryd.call17⟩ cs_evening_Least (fun a => evening_Least a.1 a.2.1) er_evening_Least (fun a => (by show 2 ≤ 18; decide)) ?h3 ?h4) rfl rfl
  case h1 => kernel_rfl
  case h2 => kernel_rfl
  case h3 => intro b; kernel_rfl
  case h4 => exact fun a b h => evening_Least_sem a.1 a.2.1 b h
/- trestle/evening.Strain -/
noncomputable def e_evening_Strain : Env := ((E0.withX 43 t_evening_valid).withX 46 t_evening_meetings)
theorem e_evening_Strain_ok : EnvOk e_evening_Strain := (EnvOk.withX (EnvOk.withX E0_ok x_evening_valid.1 x_evening_valid.2) x_evening_meetings.1 x_evening_meetings.2)
noncomputable def cb_evening_Strain : Code := codeOf Tryd.f18
def evening_Strain_1 (v3 : (Int × (List Int))) : Nat → Int → Int → Option ((Int))
  | 0, _, _ => none
  | f + 1, c4, c5 =>
    if (decide (c5 < (v3.2.length : Int))) = true then
    (idx v3.2 c5).bind fun v7 =>
    evening_Strain_1 v3 f (wr .i64 (c4 + (wr .i64 (v7 * v7)))) (wr .i64 (c5 + 1))
    else
    some c4
def evening_Strain (x0 : Int) (x1 : (List (List (List Int)))) : Option (Int) :=
  (evening_valid x0 x1).bind fun v1 =>
  if (!v1) = true then
  some 0
  else
  (evening_meetings x0 x1).bind fun v3 =>
  (evening_Strain_1 v3 100000 0 0).bind fun r9 =>
  some (wr .i64 (r9.tdiv 2))
def cs_evening_Strain : Cs (Int × (List (List (List Int))) × Unit) := (csC cdI (csC (cdL 1 (cdL 1 (cdL 1 cdI))) csN))
def er_evening_Strain (r : Int) : AV := cdI.enc r
set_option maxHeartbeats 4000000 in
set_option maxRecDepth 100000 in
theorem evening_Strain_1_ok (v3 : (Int × (List Int))) : ∀ (f : Nat) (c4 : Int) (c5 : Int) (r : (Int)), evening_Strain_1 v3 f c4 c5 = some r → SemN e_evening_Strain ⟨none, false⟩ (pc cb_evening_Strain [1, 1, 1, 0, 1, 0, 0]) f ⟨Fr 29 [(5, .v (.int .i64 c4)), (15, .sl 1 (v3.2.map cdI.enc)), (16, .v (.int .i64 (v3.2.length : Int))), (17, .v (.int .i64 c5))], []⟩ (fun e s => e = (.exit 0) ∧ Wk e_evening_Strain s ⟨Fr 29 [(5, .v (.int .i64 r))], []⟩) := by
  intro f
  induction f with
  | zero => intro c4 c5 r h; cases h
  | succ f ih0 =>
    intro c4 c5 r h
    have ih := fun (c4 : Int) (c5 : Int) => ih0 c4 c5 r
    unfold evening_Strain_1 at h
    refine SemN.succ ?_
    refine Sem.seq ?_
    refine Sem.runS (s1 := ⟨Fr 29 [(5, .v (.int .i64 c4)), (15, .sl 1 (v3.2.map cdI.enc)), (16, .v (.int .i64 (v3.2.length : Int))), (17, .v (.int .i64 c5)), (18, .v (.bool (decide (c5 < (v3.2.length : Int)))))], []⟩) ?_ ?_
    · refine RunS.segF (n := 29) e_evening_Strain_ok 1 [(5, .v (.int .i64 c4)), (15, .sl 1 (v3.2.map cdI.enc)), (16, .v (.int .i64 (v3.2.length : Int))), (17, .v (.int .i64 c5)), (18, .v (.bool (decide (c5 < (v3.2.length : Int)))))] [] (by kernel_rfl) ?_
      exact RunS.done rfl Wk.f1
    refine Sem.seq ?_
    refine Sem.cond (b := (decide (c5 < (v3.2.length : Int)))) (by kernel_rfl) (fun hb6 => ?_) (fun hb6 => ?_)
    · rw [if_pos hb6] at h
      refine Sem.skip ?_
      refine Sem.seq ?_
      refine Sem.block ?_
      refine Sem.seq ?_
      obtain ⟨v7, hv7, h⟩ := Option.bind_eq_some_iff.1 h
      refine Sem.runS (s1 := ⟨Fr 29 [(5, .v (.int .i64 c4)), (7, .v (.int .i64 v7)), (15, .sl 1 (v3.2.map cdI.enc)), (16, .v (.int .i64 (v3.2.length : Int))), (17, .v (.int .i64 c5))], []⟩) ?_ ?_
      · refine RunS.one e_evening_Strain_ok 0 rfl (op_q (wantedA_none rfl) rfl (q_indexAddr (a := .sl 1 (v3.2.map cdI.enc)) (b := .v (.int .i64 c5)) (by kernel_rfl) (by kernel_rfl) (ix_sl (e := cdI.enc) (el := 3) (k := 1) (ki := .i64) (by kernel_rfl) (by kernel_rfl) hv7))) ?_
        refine RunS.segF (n := 29) e_evening_Strain_ok 2 [(5, .v (.int .i64 c4)), (7, .v (.int .i64 v7)), (15, .sl 1 (v3.2.map cdI.enc)), (16, .v (.int .i64 (v3.2.length : Int))), (17, .v (.int .i64 c5))] [] (by kernel_rfl) ?_
        exact RunS.done rfl Wk.f1
      refine Sem.runS (s1 := ⟨Fr 29 [(5, .v (.int .i64 (wr .i64 (c4 + (wr .i64 (v7 * v7)))))), (15, .sl 1 (v3.2.map cdI.enc)), (16, .v (.int .i64 (v3.2.length : Int))), (17, .v (.int .i64 c5))], []⟩) ?_ ?_
      · refine RunS.segF (n := 29) e_evening_Strain_ok 6 [(5, .v (.int .i64 (wr .i64 (c4 + (wr .i64 (v7 * v7)))))), (15, .sl 1 (v3.2.map cdI.enc)), (16, .v (.int .i64 (v3.2.length : Int))), (17, .v (.int .i64 c5))] [] (by kernel_rfl) ?_
        exact RunS.done rfl Wk.f1
      refine Sem.runS (s1 := ⟨Fr 29 [(5, .v (.int .i64 (wr .i64 (c4 + (wr .i64 (v7 * v7)))))), (15, .sl 1 (v3.2.map cdI.enc)), (16, .v (.int .i64 (v3.2.length : Int))), (17, .v (.int .i64 (wr .i64 (c5 + 1))))], []⟩) ?_ ?_
      · refine RunS.segF (n := 29) e_evening_Strain_ok 2 [(5, .v (.int .i64 (wr .i64 (c4 + (wr .i64 (v7 * v7)))))), (15, .sl 1 (v3.2.map cdI.enc)), (16, .v (.int .i64 (v3.2.length : Int))), (17, .v (.int .i64 (wr .i64 (c5 + 1))))] [] (by kernel_rfl) ?_
        exact RunS.done rfl Wk.f1
      exact SemN.wk (s1 := ⟨Fr 29 [(5, .v (.int .i64 (wr .i64 (c4 + (wr .i64 (v7 * v7)))))), (15, .sl 1 (v3.2.map cdI.enc)), (16, .v (.int .i64 (v3.2.length : Int))), (17, .v (.int .i64 (wr .i64 (c5 + 1))))], []⟩) Wk.f1 (ih (wr .i64 (c4 + (wr .i64 (v7 * v7)))) (wr .i64 (c5 + 1)) h)
    · rw [if_f hb6] at h
      refine Sem.exit ?_
      have hq := Option.some.inj h; subst hq
      exact ⟨rfl, Wk.f1⟩
set_option maxHeartbeats 4000000 in
set_option maxRecDepth 100000 in
theorem evening_Strain_sem (x0 : Int) (x1 : (List (List (List Int)))) (r : Int) (h : evening_Strain x0 x1 = some r) : Sem e_evening_Strain ⟨none, false⟩ cb_evening_Strain ⟨Fr 29 (pairs0 0 (cs_evening_Strain.enc (x0, x1, ()))), []⟩ fun e s' => (e = .normal ∨ e = .ret) ∧ ∃ xs, resA e_evening_Strain.P s'.fr s'.hp Tryd.f18.results.toList = some xs ∧ retA xs = er_evening_Strain r := by
  unfold evening_Strain at h
  refine Sem.wkQ (Sem.wk (s1 := ⟨Fr 29 [(0, .v (.int .i64 x0)), (1, .sl 1 (x1.map (cdL 1 (cdL 1 cdI)).enc))], []⟩) Wk.f1 ?_)
  refine Sem.seq ?_
  refine Sem.runS (s1 := ⟨Fr 29 [(0, .v (.int .i64 x0)), (1, .sl 1 (x1.map (cdL 1 (cdL 1 cdI)).enc))], []⟩) ?_ ?_
  · refine RunS.segF (n := 29) e_evening_Strain_ok 1 [(0, .v (.int .i64 x0)), (1, .sl 1 (x1.map (cdL 1 (cdL 1 cdI)).enc))] [] (by kernel_rfl) ?_
    exact RunS.done rfl Wk.f1
  refine Sem.seq ?_
  refine Sem.seq ?_
  obtain ⟨v1, hv1, h⟩ := Option.bind_eq_some_iff.1 h
  refine Sem.runS (s1 := ⟨Fr 29 [(0, .v (.int .i64 x0)), (1, .sl 1 (x1.map (cdL 1 (cdL 1 cdI)).enc)), (11, .v (.bool (!v1)))], []⟩) ?_ ?_
  · refine RunS.segF (n := 29) e_evening_Strain_ok 2 [(0, .v (.int .i64 x0)), (1, .sl 1 (x1.map (cdL 1 (cdL 1 cdI)).enc)), (8, .v (.int .i64 x0)), (9, .sl 1 (x1.map (cdL 1 (cdL 1 cdI)).enc))] [] (by kernel_rfl) ?_
    refine RunS.call e_evening_Strain_ok (fid := 43) (s := cs_evening_valid) (F := fun a => evening_valid a.1 a.2.1) (er := er_evening_valid) (xs := [.v (.int .i64 x0), .sl 1 (x1.map (cdL 1 (cdL 1 cdI)).enc)]) (a := (x0, x1, ())) rfl (wantedA_none rfl) (by kernel_rfl) (by kernel_rfl) (by kernel_rfl) (by kernel_rfl) (Sns.cons (Sn.enc (c := cdI) (v := x0)) (Sns.cons (Sn.enc (c := (cdL 1 (cdL 1 (cdL 1 cdI)))) (v := x1)) Sns.nil)) (.inl (by kernel_rfl)) hv1 ?_
    refine RunS.segF (n := 29) e_evening_Strain_ok 1 [(0, .v (.int .i64 x0)), (1, .sl 1 (x1.map (cdL 1 (cdL 1 cdI)).enc)), (11, .v (.bool (!v1)))] [] (by kernel_rfl) ?_
    exact RunS.done rfl Wk.f1
  refine Sem.cond (b := (!v1)) (by kernel_rfl) (fun hb2 => ?_) (fun hb2 => ?_)
  · rw [if_pos hb2] at h
    refine Sem.seq ?_
    refine Sem.runS (s1 := ⟨Fr 29 [(4, .v (.int .i64 0))], []⟩) ?_ ?_
    · refine RunS.segF (n := 29) e_evening_Strain_ok 1 [(4, .v (.int .i64 0))] [] (by kernel_rfl) ?_
      exact RunS.done rfl Wk.f1
    refine Sem.ret ?_
    have hq := Option.some.inj h; subst hq
    exact ⟨⟨Fr 29 [(4, .v (.int .i64 0))], []⟩, Wk.f1, .inr rfl, [.v (.int .i64 0)], (by kernel_rfl), (by kernel_rfl)⟩
  · rw [if_f hb2] at h
    refine Sem.skip ?_
    refine Sem.seq ?_
    refine Sem.runS (s1 := ⟨Fr 29 [(0, .v (.int .i64 x0)), (1, .sl 1 (x1.map (cdL 1 (cdL 1 cdI)).enc)), (5, .v (.int .i64 0))], []⟩) ?_ ?_
    · refine RunS.segF (n := 29) e_evening_Strain_ok 1 [(0, .v (.int .i64 x0)), (1, .sl 1 (x1.map (cdL 1 (cdL 1 cdI)).enc)), (5, .v (.int .i64 0))] [] (by kernel_rfl) ?_
      exact RunS.done rfl Wk.f1
    refine Sem.seq ?_
    refine Sem.seq ?_
    obtain ⟨v3, hv3, h⟩ := Option.bind_eq_some_iff.1 h
    refine Sem.runS (s1 := ⟨Fr 29 [(5, .v (.int .i64 0)), (15, .sl 1 (v3.2.map cdI.enc)), (16, .v (.int .i64 (v3.2.length : Int))), (17, .v (.int .i64 0))], []⟩) ?_ ?_
    · refine RunS.segF (n := 29) e_evening_Strain_ok 2 [(5, .v (.int .i64 0)), (12, .v (.int .i64 x0)), (13, .sl 1 (x1.map (cdL 1 (cdL 1 cdI)).enc))] [] (by kernel_rfl) ?_
      refine RunS.call e_evening_Strain_ok (fid := 46) (s := cs_evening_meetings) (F := fun a => evening_meetings a.1 a.2.1) (er := er_evening_meetings) (xs := [.v (.int .i64 x0), .sl 1 (x1.map (cdL 1 (cdL 1 cdI)).enc)]) (a := (x0, x1, ())) rfl (wantedA_none rfl) (by kernel_rfl) (by kernel_rfl) (by kernel_rfl) (by kernel_rfl) (Sns.cons (Sn.enc (c := cdI) (v := x0)) (Sns.cons (Sn.enc (c := (cdL 1 (cdL 1 (cdL 1 cdI)))) (v := x1)) Sns.nil)) (.inl (by kernel_rfl)) hv3 ?_
      refine RunS.segF (n := 29) e_evening_Strain_ok 1 [(5, .v (.int .i64 0)), (15, .sl 1 (v3.2.map cdI.enc))] [] (by kernel_rfl) ?_
      refine RunS.one e_evening_Strain_ok 0 rfl (op_q (wantedA_none rfl) rfl (q_len (a := .sl 1 (v3.2.map cdI.enc)) (by kernel_rfl) (len_sl (el := 3) (by kernel_rfl)))) ?_
      refine RunS.segF (n := 29) e_evening_Strain_ok 1 [(5, .v (.int .i64 0)), (15, .sl 1 (v3.2.map cdI.enc)), (16, .v (.int .i64 (v3.2.length : Int))), (17, .v (.int .i64 0))] [] (by kernel_rfl) ?_
      exact RunS.done rfl Wk.f1
    refine Sem.block ?_
    obtain ⟨r9, hr9, h⟩ := Option.bind_eq_some_iff.1 h
    refine Sem.loop (n := 100000) ?_
    refine Sem.cutN (SemN.wk (s1 := ⟨Fr 29 [(5, .v (.int .i64 0)), (15, .sl 1 (v3.2.map cdI.enc)), (16, .v (.int .i64 (v3.2.length : Int))), (17, .v (.int .i64 0))], []⟩) Wk.f1 (evening_Strain_1_ok v3 _ 0 0 _ hr9)) ?_
    refine Sem.seq ?_
    refine Sem.runS (s1 := ⟨Fr 29 [(4, .v (.int .i64 (wr .i64 (r9.tdiv 2))))], []⟩) ?_ ?_
    · refine RunS.segF (n := 29) e_evening_Strain_ok 3 [(4, .v (.int .i64 (wr .i64 (r9.tdiv 2))))] [] (by kernel_rfl) ?_
      exact RunS.done rfl Wk.f1
    refine Sem.ret ?_
    have hq := Option.some.inj h; subst hq
    exact ⟨⟨Fr 29 [(4, .v (.int .i64 (wr .i64 (r9.tdiv 2))))], []⟩, Wk.f1, .inr rfl, [.v (.int .i64 (wr .i64 (r9.tdiv 2)))], (by kernel_rfl), (by kernel_rfl)⟩
def t_evening_Strain : List AV → Option AV := told cs_evening_Strain (fun a => evening_Strain a.1 a.2.1) er_evening_Strain
theorem x_evening_Strain : XOk 18 t_evening_Strain := by
  refine EnvOk.x (E := e_evening_Strain) (contract_ok e_evening_Strain_ok (fn := Tryd.f18) (c := cb_evening_Strain) ?h1 ?h2 ⟨Tryd.call18⟩ cs_evening_Strain (fun a => evening_Strain a.1 a.2.1) er_evening_Strain (fun a => (by show 2 ≤ 29; decide)) ?h3 ?h4) rfl rfl
  case h1 => kernel_rfl
  case h2 => kernel_rfl
  case h3 => intro b; kernel_rfl
  case h4 => exact fun a b h => evening_Strain_sem a.1 a.2.1 b h
/- trestle/trestleref09.Fit -/
noncomputable def e_ref09_Fit : Env := E0
theorem e_ref09_Fit_ok : EnvOk e_ref09_Fit := E0_ok
noncomputable def cb_ref09_Fit : Code := codeOf Tryd.f69
def ref09_Fit_1 (x0 : Int) (x1 : (List Int)) : Nat → Int → Int → Option ((Int) ⊕ (Bool))
  | 0, _, _ => none
  | f + 1, c1, c2 =>
    if (decide (c2 < (x1.length : Int))) = true then
    (idx x1 c2).bind fun v4 =>
    (if (decide (v4 < 1)) = true then some true else (idx x1 c2).bind fun v5 =>
    if (decide (v5 > 64)) = true then some true else some (decide (c1 > 64))).bind fun j7 =>
    if j7 = true then
    some (.inr false)
    else
    (idx x1 c2).bind fun v10 =>
    ref09_Fit_1 x0 x1 f (wr .i64 (c1 + v10)) (wr .i64 (c2 + 1))
    else
    some (.inl c1)
def ref09_Fit (x0 : Int) (x1 : (List Int)) : Option (Bool) :=
  (ref09_Fit_1 x0 x1 100000 0 0).bind fun r14 =>
  match r14 with
  | (.inl w15) =>
    (if (decide (x0 ≥ 1)) = true then if (decide (x0 ≤ 64)) = true then some (w15 == x0) else some false else some false).bind fun j17 =>
    some j17
  | (.inr w20) =>
    some w20
def cs_ref09_Fit : Cs (Int × (List Int) × Unit) := (csC cdI (csC (cdL 1 cdI) csN))
def er_ref09_Fit (r : Bool) : AV := cdB.enc r
set_option maxHeartbeats 4000000 in
set_option maxRecDepth 100000 in
theorem ref09_Fit_1_ok (x0 : Int) (x1 : (List Int)) : ∀ (f : Nat) (c1 : Int) (c2 : Int) (r : (Int) ⊕ (Bool)), ref09_Fit_1 x0 x1 f c1 c2 = some r → SemN e_ref09_Fit ⟨none, false⟩ (pc cb_ref09_Fit [1, 1, 0, 1, 0, 0]) f ⟨Fr 46 [(0, .v (.int .i64 x0)), (1, .sl 1 (x1.map cdI.enc)), (5, .v (.int .i64 c1)), (6, .v (.int .i64 c2))], []⟩ (fun e s => match r with
  | (.inl w) => e = (.exit 0) ∧ Wk e_ref09_Fit s ⟨Fr 46 [(0, .v (.int .i64 x0)), (5, .v (.int .i64 w))], []⟩
  | (.inr w) => e = .ret ∧ Wk e_ref09_Fit s ⟨Fr 46 [(4, .v (.bool w))], []⟩) := by
  intro f
  induction f with
  | zero => intro c1 c2 r h; cases h
  | succ f ih0 =>
    intro c1 c2 r h
    have ih := fun (c1 : Int) (c2 : Int) => ih0 c1 c2 r
    unfold ref09_Fit_1 at h
    refine SemN.succ ?_
    refine Sem.seq ?_
    refine Sem.seq ?_
    refine Sem.runS (s1 := ⟨Fr 46 [(0, .v (.int .i64 x0)), (1, .sl 1 (x1.map cdI.enc)), (5, .v (.int .i64 c1)), (6, .v (.int .i64 c2)), (10, .v (.bool (decide (c2 < (x1.length : Int)))))], []⟩) ?_ ?_
    · refine RunS.segF (n := 46) e_ref09_Fit_ok 2 [(0, .v (.int .i64 x0)), (1, .sl 1 (x1.map cdI.enc)), (5, .v (.int .i64 c1)), (6, .v (.int .i64 c2)), (7, .v (.int .i64 c2)), (8, .sl 1 (x1.map cdI.enc))] [] (by kernel_rfl) ?_
      refine RunS.one e_ref09_Fit_ok 0 rfl (op_q (wantedA_none rfl) rfl (q_len (a := .sl 1 (x1.map cdI.enc)) (by kernel_rfl) (len_sl (el := 3) (by kernel_rfl)))) ?_
      refine RunS.segF (n := 46) e_ref09_Fit_ok 1 [(0, .v (.int .i64 x0)), (1, .sl 1 (x1.map cdI.enc)), (5, .v (.int .i64 c1)), (6, .v (.int .i64 c2)), (10, .v (.bool (decide (c2 < (x1.length : Int)))))] [] (by kernel_rfl) ?_
      exact RunS.done rfl Wk.f1
    refine Sem.cond (b := (decide (c2 < (x1.length : Int)))) (by kernel_rfl) (fun hb3 => ?_) (fun hb3 => ?_)
    · rw [if_pos hb3] at h
      refine Sem.skip ?_
      refine Sem.seq ?_
      refine Sem.block ?_
      refine Sem.seq ?_
      refine Sem.seq ?_
      obtain ⟨v4, hv4, h⟩ := Option.bind_eq_some_iff.1 h
      obtain ⟨j7, hj7, h⟩ := Option.bind_eq_some_iff.1 h
      refine Sem.runS (s1 := ⟨Fr 46 [(0, .v (.int .i64 x0)), (1, .sl 1 (x1.map cdI.enc)), (5, .v (.int .i64 c1)), (6, .v (.int .i64 c2)), (28, .v (.bool j7))], []⟩) ?_ ?_
      · refine RunS.segF (n := 46) e_ref09_Fit_ok 2 [(0, .v (.int .i64 x0)), (1, .sl 1 (x1.map cdI.enc)), (5, .v (.int .i64 c1)), (6, .v (.int .i64 c2)), (13, .sl 1 (x1.map cdI.enc)), (14, .v (.int .i64 c2))] [] (by kernel_rfl) ?_
        refine RunS.one e_ref09_Fit_ok 0 rfl (op_q (wantedA_none rfl) rfl (q_indexAddr (a := .sl 1 (x1.map cdI.enc)) (b := .v (.int .i64 c2)) (by kernel_rfl) (by kernel_rfl) (ix_sl (e := cdI.enc) (el := 3) (k := 1) (ki := .i64) (by kernel_rfl) (by kernel_rfl) hv4))) ?_
        refine RunS.segF (n := 46) e_ref09_Fit_ok 3 [(0, .v (.int .i64 x0)), (1, .sl 1 (x1.map cdI.enc)), (5, .v (.int .i64 c1)), (6, .v (.int .i64 c2)), (18, .v (.bool (decide (v4 < 1))))] [] (by kernel_rfl) ?_
        rcases Bool.eq_false_or_eq_true (decide (v4 < 1)) with hc11 | hc11
        · rw [if_pos hc11] at hj7
          rw [hc11]
          refine RunS.segF (n := 46) e_ref09_Fit_ok 10 [(0, .v (.int .i64 x0)), (1, .sl 1 (x1.map cdI.enc)), (5, .v (.int .i64 c1)), (6, .v (.int .i64 c2)), (19, .tp []), (20, .tp []), (21, .tp []), (22, .tp []), (23, .tp []), (26, .tp []), (27, .tp []), (28, .v (.bool true))] [] (by kernel_rfl) ?_
          have hq := Option.some.inj hj7; subst hq
          exact RunS.done rfl Wk.f1
        · rw [if_f hc11] at hj7
          rw [hc11]
          refine RunS.segF (n := 46) e_ref09_Fit_ok 2 [(0, .v (.int .i64 x0)), (1, .sl 1 (x1.map cdI.enc)), (5, .v (.int .i64 c1)), (6, .v (.int .i64 c2)), (18, .v (.bool false)), (19, .sl 1 (x1.map cdI.enc)), (20, .v (.int .i64 c2))] [] (by kernel_rfl) ?_
          obtain ⟨v5, hv5, hj7⟩ := Option.bind_eq_some_iff.1 hj7
          refine RunS.one e_ref09_Fit_ok 0 rfl (op_q (by kernel_rfl) rfl (q_indexAddr (a := .sl 1 (x1.map cdI.enc)) (b := .v (.int .i64 c2)) (by kernel_rfl) (by kernel_rfl) (ix_sl (e := cdI.enc) (el := 3) (k := 1) (ki := .i64) (by kernel_rfl) (by kernel_rfl) hv5))) ?_
          refine RunS.segF (n := 46) e_ref09_Fit_ok 4 [(0, .v (.int .i64 x0)), (1, .sl 1 (x1.map cdI.enc)), (5, .v (.int .i64 c1)), (6, .v (.int .i64 c2)), (19, .sl 1 (x1.map cdI.enc)), (20, .v (.int .i64 c2)), (21, .pe (.v (.int .i64 v5)) 0), (22, .v (.int .i64 v5)), (23, .v (.bool (decide (v5 > 64)))), (25, .v (.bool (decide (v5 > 64))))] [] (by kernel_rfl) ?_
          rcases Bool.eq_false_or_eq_true (decide (v5 > 64)) with hc12 | hc12
          · rw [if_pos hc12] at hj7
            rw [hc12]
            refine RunS.segF (n := 46) e_ref09_Fit_ok 3 [(0, .v (.int .i64 x0)), (1, .sl 1 (x1.map cdI.enc)), (5, .v (.int .i64 c1)), (6, .v (.int .i64 c2)), (19, .sl 1 (x1.map cdI.enc)), (20, .v (.int .i64 c2)), (21, .pe (.v (.int .i64 v5)) 0), (22, .v (.int .i64 v5)), (23, .v (.bool true)), (26, .tp []), (27, .tp []), (28, .v (.bool true))] [] (by kernel_rfl) ?_
            have hq := Option.some.inj hj7; subst hq
            exact RunS.done rfl Wk.f1
          · rw [if_f hc12] at hj7
            rw [hc12]
            refine RunS.segF (n := 46) e_ref09_Fit_ok 3 [(0, .v (.int .i64 x0)), (1, .sl 1 (x1.map cdI.enc)), (5, .v (.int .i64 c1)), (6, .v (.int .i64 c2)), (19, .sl 1 (x1.map cdI.enc)), (20, .v (.int .i64 c2)), (21, .pe (.v (.int .i64 v5)) 0), (22, .v (.int .i64 v5)), (23, .v (.bool false)), (26, .v (.int .i64 c1)), (27, .v (.bool (decide (c1 > 64)))), (28, .v (.bool (decide (c1 > 64))))] [] (by kernel_rfl) ?_
            have hq := Option.some.inj hj7; subst hq
            exact RunS.done rfl Wk.f1
      refine Sem.cond (b := j7) (by kernel_rfl) (fun hb8 => ?_) (fun hb8 => ?_)
      · rw [if_pos hb8] at h
        refine Sem.seq ?_
        refine Sem.runS (s1 := ⟨Fr 46 [(4, .v (.bool false))], []⟩) ?_ ?_
        · refine RunS.segF (n := 46) e_ref09_Fit_ok 1 [(4, .v (.bool false))] [] (by kernel_rfl) ?_
          exact RunS.done rfl Wk.f1
        refine Sem.ret ?_
        have hq := Option.some.inj h; subst hq
        exact ⟨rfl, Wk.f1⟩
      · rw [if_f hb8] at h
        refine Sem.skip ?_
        obtain ⟨v10, hv10, h⟩ := Option.bind_eq_some_iff.1 h
        refine Sem.runS (s1 := ⟨Fr 46 [(0, .v (.int .i64 x0)), (1, .sl 1 (x1.map cdI.enc)), (5, .v (.int .i64 (wr .i64 (c1 + v10)))), (6, .v (.int .i64 c2))], []⟩) ?_ ?_
        · refine RunS.segF (n := 46) e_ref09_Fit_ok 3 [(0, .v (.int .i64 x0)), (1, .sl 1 (x1.map cdI.enc)), (6, .v (.int .i64 c2)), (29, .v (.int .i64 c1)), (30, .sl 1 (x1.map cdI.enc)), (31, .v (.int .i64 c2))] [] (by kernel_rfl) ?_
          refine RunS.one e_ref09_Fit_ok 0 rfl (op_q (wantedA_none rfl) rfl (q_indexAddr (a := .sl 1 (x1.map cdI.enc)) (b := .v (.int .i64 c2)) (by kernel_rfl) (by kernel_rfl) (ix_sl (e := cdI.enc) (el := 3) (k := 1) (ki := .i64) (by kernel_rfl) (by kernel_rfl) hv10))) ?_
          refine RunS.segF (n := 46) e_ref09_Fit_ok 3 [(0, .v (.int .i64 x0)), (1, .sl 1 (x1.map cdI.enc)), (5, .v (.int .i64 (wr .i64 (c1 + v10)))), (6, .v (.int .i64 c2))] [] (by kernel_rfl) ?_
          exact RunS.done rfl Wk.f1
        refine Sem.runS (s1 := ⟨Fr 46 [(0, .v (.int .i64 x0)), (1, .sl 1 (x1.map cdI.enc)), (5, .v (.int .i64 (wr .i64 (c1 + v10)))), (6, .v (.int .i64 (wr .i64 (c2 + 1))))], []⟩) ?_ ?_
        · refine RunS.segF (n := 46) e_ref09_Fit_ok 3 [(0, .v (.int .i64 x0)), (1, .sl 1 (x1.map cdI.enc)), (5, .v (.int .i64 (wr .i64 (c1 + v10)))), (6, .v (.int .i64 (wr .i64 (c2 + 1))))] [] (by kernel_rfl) ?_
          exact RunS.done rfl Wk.f1
        exact SemN.wk (s1 := ⟨Fr 46 [(0, .v (.int .i64 x0)), (1, .sl 1 (x1.map cdI.enc)), (5, .v (.int .i64 (wr .i64 (c1 + v10)))), (6, .v (.int .i64 (wr .i64 (c2 + 1))))], []⟩) Wk.f1 (ih (wr .i64 (c1 + v10)) (wr .i64 (c2 + 1)) h)
    · rw [if_f hb3] at h
      refine Sem.exit ?_
      have hq := Option.some.inj h; subst hq
      exact ⟨rfl, Wk.f1⟩
set_option maxHeartbeats 4000000 in
set_option maxRecDepth 100000 in
theorem ref09_Fit_sem (x0 : Int) (x1 : (List Int)) (r : Bool) (h : ref09_Fit x0 x1 = some r) : Sem e_ref09_Fit ⟨none, false⟩ cb_ref09_Fit ⟨Fr 46 (pairs0 0 (cs_ref09_Fit.enc (x0, x1, ()))), []⟩ fun e s' => (e = .normal ∨ e = .ret) ∧ ∃ xs, resA e_ref09_Fit.P s'.fr s'.hp Tryd.f69.results.toList = some xs ∧ retA xs = er_ref09_Fit r := by
  unfold ref09_Fit at h
  refine Sem.wkQ (Sem.wk (s1 := ⟨Fr 46 [(0, .v (.int .i64 x0)), (1, .sl 1 (x1.map cdI.enc))], []⟩) Wk.f1 ?_)
  refine Sem.seq ?_
  refine Sem.runS (s1 := ⟨Fr 46 [(0, .v (.int .i64 x0)), (1, .sl 1 (x1.map cdI.enc))], []⟩) ?_ ?_
  · refine RunS.segF (n := 46) e_ref09_Fit_ok 1 [(0, .v (.int .i64 x0)), (1, .sl 1 (x1.map cdI.enc))] [] (by kernel_rfl) ?_
    exact RunS.done rfl Wk.f1
  refine Sem.seq ?_
  refine Sem.runS (s1 := ⟨Fr 46 [(0, .v (.int .i64 x0)), (1, .sl 1 (x1.map cdI.enc)), (5, .v (.int .i64 0))], []⟩) ?_ ?_
  · refine RunS.segF (n := 46) e_ref09_Fit_ok 1 [(0, .v (.int .i64 x0)), (1, .sl 1 (x1.map cdI.enc)), (5, .v (.int .i64 0))] [] (by kernel_rfl) ?_
    exact RunS.done rfl Wk.f1
  refine Sem.seq ?_
  refine Sem.seq ?_
  refine Sem.runS (s1 := ⟨Fr 46 [(0, .v (.int .i64 x0)), (1, .sl 1 (x1.map cdI.enc)), (5, .v (.int .i64 0)), (6, .v (.int .i64 0))], []⟩) ?_ ?_
  · refine RunS.segF (n := 46) e_ref09_Fit_ok 1 [(0, .v (.int .i64 x0)), (1, .sl 1 (x1.map cdI.enc)), (5, .v (.int .i64 0)), (6, .v (.int .i64 0))] [] (by kernel_rfl) ?_
    exact RunS.done rfl Wk.f1
  refine Sem.block ?_
  obtain ⟨r14, hr14, h⟩ := Option.bind_eq_some_iff.1 h
  refine Sem.loop (n := 100000) ?_
  rcases r14 with w15 | w20
  · try dsimp only at h
    refine Sem.cutN (SemN.wk (s1 := ⟨Fr 46 [(0, .v (.int .i64 x0)), (1, .sl 1 (x1.map cdI.enc)), (5, .v (.int .i64 0)), (6, .v (.int .i64 0))], []⟩) Wk.f1 (ref09_Fit_1_ok x0 x1 _ 0 0 _ hr14)) ?_
    refine Sem.seq ?_
    obtain ⟨j17, hj17, h⟩ := Option.bind_eq_some_iff.1 h
    refine Sem.runS (s1 := ⟨Fr 46 [(4, .v (.bool j17))], []⟩) ?_ ?_
    · refine RunS.segF (n := 46) e_ref09_Fit_ok 3 [(0, .v (.int .i64 x0)), (5, .v (.int .i64 w15)), (37, .v (.bool (decide (x0 ≥ 1))))] [] (by kernel_rfl) ?_
      rcases Bool.eq_false_or_eq_true (decide (x0 ≥ 1)) with hc18 | hc18
      · rw [if_pos hc18] at hj17
        rw [hc18]
        refine RunS.segF (n := 46) e_ref09_Fit_ok 4 [(0, .v (.int .i64 x0)), (5, .v (.int .i64 w15)), (41, .v (.bool (decide (x0 ≤ 64))))] [] (by kernel_rfl) ?_
        rcases Bool.eq_false_or_eq_true (decide (x0 ≤ 64)) with hc19 | hc19
        · rw [if_pos hc19] at hj17
          rw [hc19]
          refine RunS.segF (n := 46) e_ref09_Fit_ok 5 [(4, .v (.bool (w15 == x0)))] [] (by kernel_rfl) ?_
          have hq := Option.some.inj hj17; subst hq
          exact RunS.done rfl Wk.f1
        · rw [if_f hc19] at hj17
          rw [hc19]
          refine RunS.segF (n := 46) e_ref09_Fit_ok 5 [(4, .v (.bool false))] [] (by kernel_rfl) ?_
          have hq := Option.some.inj hj17; subst hq
          exact RunS.done rfl Wk.f1
      · rw [if_f hc18] at hj17
        rw [hc18]
        refine RunS.segF (n := 46) e_ref09_Fit_ok 9 [(4, .v (.bool false))] [] (by kernel_rfl) ?_
        have hq := Option.some.inj hj17; subst hq
        exact RunS.done rfl Wk.f1
    refine Sem.ret ?_
    have hq := Option.some.inj h; subst hq
    exact ⟨⟨Fr 46 [(4, .v (.bool j17))], []⟩, Wk.f1, .inr rfl, [.v (.bool j17)], (by kernel_rfl), (by kernel_rfl)⟩
  · try dsimp only at h
    refine Sem.cutN (SemN.wk (s1 := ⟨Fr 46 [(0, .v (.int .i64 x0)), (1, .sl 1 (x1.map cdI.enc)), (5, .v (.int .i64 0)), (6, .v (.int .i64 0))], []⟩) Wk.f1 (ref09_Fit_1_ok x0 x1 _ 0 0 _ hr14)) ?_
    have hq := Option.some.inj h; subst hq
    exact ⟨⟨Fr 46 [(4, .v (.bool w20))], []⟩, Wk.f1, .inr rfl, [.v (.bool w20)], (by kernel_rfl), (by kernel_rfl)⟩
def t_ref09_Fit : List AV → Option AV := told cs_ref09_Fit (fun a => ref09_Fit a.1 a.2.1) er_ref09_Fit
theorem x_ref09_Fit : XOk 69 t_ref09_Fit := by
  refine EnvOk.x (E := e_ref09_Fit) (contract_ok e_ref09_Fit_ok (fn := Tryd.f69) (c := cb_ref09_Fit) ?h1 ?h2 ⟨Tryd.call69⟩ cs_ref09_Fit (fun a => ref09_Fit a.1 a.2.1) er_ref09_Fit (fun a => (by show 2 ≤ 46; decide)) ?h3 ?h4) rfl rfl
  case h1 => kernel_rfl
  case h2 => kernel_rfl
  case h3 => intro b; kernel_rfl
  case h4 => exact fun a b h => ref09_Fit_sem a.1 a.2.1 b h
/- trestle/trestleref09.times -/
noncomputable def e_ref09_times : Env := E0
theorem e_ref09_times_ok : EnvOk e_ref09_times := E0_ok
noncomputable def cb_ref09_times : Code := codeOf Tryd.f77
def ref09_times_j3 (x0 : (List (List Int))) (x1 : Int) (c2 : Int) (c4 : Int) (c5 : Int) (v9 : Int) : Option ((Int)) :=
  if (v9 == x1) = true then
  some (wr .i64 (c4 + 1))
  else
  some c4
def ref09_times_2 (x0 : (List (List Int))) (x1 : Int) (c2 : Int) : Nat → Int → Int → Option ((Int))
  | 0, _, _ => none
  | f + 1, c4, c5 =>
    (idx x0 c2).bind fun v6 =>
    if (decide (c5 < (v6.length : Int))) = true then
    (idx x0 c2).bind fun v8 =>
    (idx v8 c5).bind fun v9 =>
    (ref09_times_j3 x0 x1 c2 c4 c5 v9).bind fun r12 =>
    ref09_times_2 x0 x1 c2 f r12 (wr .i64 (c5 + 1))
    else
    some c4
def ref09_times_1 (x0 : (List (List Int))) (x1 : Int) : Nat → Int → Int → Option ((Int))
  | 0, _, _ => none
  | f + 1, c1, c2 =>
    if (decide (c2 < (x0.length : Int))) = true then
    (ref09_times_2 x0 x1 c2 100000 c1 0).bind fun r14 =>
    ref09_times_1 x0 x1 f r14 (wr .i64 (c2 + 1))
    else
    some c1
def ref09_times (x0 : (List (List Int))) (x1 : Int) : Option (Int) :=
  (ref09_times_1 x0 x1 100000 0 0).bind fun r16 =>
  some r16
def cs_ref09_times : Cs ((List (List Int)) × Int × Unit) := (csC (cdL 1 (cdL 1 cdI)) (csC cdI csN))
def er_ref09_times (r : Int) : AV := cdI.enc r
set_option maxHeartbeats 4000000 in
set_option maxRecDepth 100000 in
theorem ref09_times_j3_ok (x0 : (List (List Int))) (x1 : Int) (c2 : Int) (c4 : Int) (c5 : Int) (v9 : Int) (r : (Int)) (h : ref09_times_j3 x0 x1 c2 c4 c5 v9 = some r) : Sem e_ref09_times ⟨none, false⟩ (pc cb_ref09_times [1, 1, 0, 1, 0, 0, 1, 0, 0, 1, 0, 0, 1, 0, 0, 1]) ⟨Fr 35 [(0, .sl 1 (x0.map (cdL 1 cdI).enc)), (1, .v (.int .i64 x1)), (5, .v (.int .i64 c4)), (6, .v (.int .i64 c2)), (7, .v (.int .i64 c5)), (31, .v (.bool (v9 == x1)))], []⟩ (fun e s => e = .normal ∧ Wk e_ref09_times s ⟨Fr 35 [(0, .sl 1 (x0.map (cdL 1 cdI).enc)), (1, .v (.int .i64 x1)), (5, .v (.int .i64 r)), (6, .v (.int .i64 c2)), (7, .v (.int .i64 c5))], []⟩) := by
  unfold ref09_times_j3 at h
  refine Sem.cond (b := (v9 == x1)) (by kernel_rfl) (fun hb10 => ?_) (fun hb10 => ?_)
  · rw [if_pos hb10] at h
    refine Sem.runS (s1 := ⟨Fr 35 [(0, .sl 1 (x0.map (cdL 1 cdI).enc)), (1, .v (.int .i64 x1)), (5, .v (.int .i64 (wr .i64 (c4 + 1)))), (6, .v (.int .i64 c2)), (7, .v (.int .i64 c5))], []⟩) ?_ ?_
    · refine RunS.segF (n := 35) e_ref09_times_ok 3 [(0, .sl 1 (x0.map (cdL 1 cdI).enc)), (1, .v (.int .i64 x1)), (5, .v (.int .i64 (wr .i64 (c4 + 1)))), (6, .v (.int .i64 c2)), (7, .v (.int .i64 c5))] [] (by kernel_rfl) ?_
      exact RunS.done rfl Wk.f1
    have hq := Option.some.inj h; subst hq
    exact ⟨rfl, Wk.f1⟩
  · rw [if_f hb10] at h
    refine Sem.skip ?_
    have hq := Option.some.inj h; subst hq
    exact ⟨rfl, Wk.f1⟩
set_option maxHeartbeats 4000000 in
set_option maxRecDepth 100000 in
theorem ref09_times_2_ok (x0 : (List (List Int))) (x1 : Int) (c2 : Int) : ∀ (f : Nat) (c4 : Int) (c5 : Int) (r : (Int)), ref09_times_2 x0 x1 c2 f c4 c5 = some r → SemN e_ref09_times ⟨none, false⟩ (pc cb_ref09_times [1, 1, 0, 1, 0, 0, 1, 0, 0, 1, 0, 0]) f ⟨Fr 35 [(0, .sl 1 (x0.map (cdL 1 cdI).enc)), (1, .v (.int .i64 x1)), (5, .v (.int .i64 c4)), (6, .v (.int .i64 c2)), (7, .v (.int .i64 c5))], []⟩ (fun e s => e = (.exit 2) ∧ Wk e_ref09_times s ⟨Fr 35 [(0, .sl 1 (x0.map (cdL 1 cdI).enc)), (1, .v (.int .i64 x1)), (5, .v (.int .i64 r)), (6, .v (.int .i64 c2))], []⟩) := by
  intro f
  induction f with
  | zero => intro c4 c5 r h; cases h
  | succ f ih0 =>
    intro c4 c5 r h
    have ih := fun (c4 : Int) (c5 : Int) => ih0 c4 c5 r
    unfold ref09_times_2 at h
    refine SemN.succ ?_
    refine Sem.seq ?_
    refine Sem.seq ?_
    obtain ⟨v6, hv6, h⟩ := Option.bind_eq_some_iff.1 h
    refine Sem.runS (s1 := ⟨Fr 35 [(0, .sl 1 (x0.map (cdL 1 cdI).enc)), (1, .v (.int .i64 x1)), (5, .v (.int .i64 c4)), (6, .v (.int .i64 c2)), (7, .v (.int .i64 c5)), (20, .v (.bool (decide (c5 < (v6.length : Int)))))], []⟩) ?_ ?_
    · refine RunS.segF (n := 35) e_ref09_times_ok 3 [(0, .sl 1 (x0.map (cdL 1 cdI).enc)), (1, .v (.int .i64 x1)), (5, .v (.int .i64 c4)), (6, .v (.int .i64 c2)), (7, .v (.int .i64 c5)), (14, .v (.int .i64 c5)), (15, .sl 1 (x0.map (cdL 1 cdI).enc)), (16, .v (.int .i64 c2))] [] (by kernel_rfl) ?_
      refine RunS.one e_ref09_times_ok 0 rfl (op_q (wantedA_none rfl) rfl (q_indexAddr (a := .sl 1 (x0.map (cdL 1 cdI).enc)) (b := .v (.int .i64 c2)) (by kernel_rfl) (by kernel_rfl) (ix_sl (e := (cdL 1 cdI).enc) (el := 29) (k := 1) (ki := .i64) (by kernel_rfl) (by kernel_rfl) hv6))) ?_
      refine RunS.segF (n := 35) e_ref09_times_ok 1 [(0, .sl 1 (x0.map (cdL 1 cdI).enc)), (1, .v (.int .i64 x1)), (5, .v (.int .i64 c4)), (6, .v (.int .i64 c2)), (7, .v (.int .i64 c5)), (14, .v (.int .i64 c5)), (18, .sl 1 (v6.map cdI.enc))] [] (by kernel_rfl) ?_
      refine RunS.one e_ref09_times_ok 0 rfl (op_q (wantedA_none rfl) rfl (q_len (a := .sl 1 (v6.map cdI.enc)) (by kernel_rfl) (len_sl (el := 3) (by kernel_rfl)))) ?_
      refine RunS.segF (n := 35) e_ref09_times_ok 1 [(0, .sl 1 (x0.map (cdL 1 cdI).enc)), (1, .v (.int .i64 x1)), (5, .v (.int .i64 c4)), (6, .v (.int .i64 c2)), (7, .v (.int .i64 c5)), (20, .v (.bool (decide (c5 < (v6.length : Int)))))] [] (by kernel_rfl) ?_
      exact RunS.done rfl Wk.f1
    refine Sem.cond (b := (decide (c5 < (v6.length : Int)))) (by kernel_rfl) (fun hb7 => ?_) (fun hb7 => ?_)
    · rw [if_pos hb7] at h
      refine Sem.skip ?_
      refine Sem.seq ?_
      refine Sem.block ?_
      refine Sem.seq ?_
      obtain ⟨v8, hv8, h⟩ := Option.bind_eq_some_iff.1 h
      obtain ⟨v9, hv9, h⟩ := Option.bind_eq_some_iff.1 h
      refine Sem.runS (s1 := ⟨Fr 35 [(0, .sl 1 (x0.map (cdL 1 cdI).enc)), (1, .v (.int .i64 x1)), (5, .v (.int .i64 c4)), (6, .v (.int .i64 c2)), (7, .v (.int .i64 c5)), (31, .v (.bool (v9 == x1)))], []⟩) ?_ ?_
      · refine RunS.segF (n := 35) e_ref09_times_ok 2 [(0, .sl 1 (x0.map (cdL 1 cdI).enc)), (1, .v (.int .i64 x1)), (5, .v (.int .i64 c4)), (6, .v (.int .i64 c2)), (7, .v (.int .i64 c5)), (23, .sl 1 (x0.map (cdL 1 cdI).enc)), (24, .v (.int .i64 c2))] [] (by kernel_rfl) ?_
        refine RunS.one e_ref09_times_ok 0 rfl (op_q (wantedA_none rfl) rfl (q_indexAddr (a := .sl 1 (x0.map (cdL 1 cdI).enc)) (b := .v (.int .i64 c2)) (by kernel_rfl) (by kernel_rfl) (ix_sl (e := (cdL 1 cdI).enc) (el := 29) (k := 1) (ki := .i64) (by kernel_rfl) (by kernel_rfl) hv8))) ?_
        refine RunS.segF (n := 35) e_ref09_times_ok 2 [(0, .sl 1 (x0.map (cdL 1 cdI).enc)), (1, .v (.int .i64 x1)), (5, .v (.int .i64 c4)), (6, .v (.int .i64 c2)), (7, .v (.int .i64 c5)), (26, .sl 1 (v8.map cdI.enc)), (27, .v (.int .i64 c5))] [] (by kernel_rfl) ?_
        refine RunS.one e_ref09_times_ok 0 rfl (op_q (wantedA_none rfl) rfl (q_indexAddr (a := .sl 1 (v8.map cdI.enc)) (b := .v (.int .i64 c5)) (by kernel_rfl) (by kernel_rfl) (ix_sl (e := cdI.enc) (el := 3) (k := 1) (ki := .i64) (by kernel_rfl) (by kernel_rfl) hv9))) ?_
        refine RunS.segF (n := 35) e_ref09_times_ok 3 [(0, .sl 1 (x0.map (cdL 1 cdI).enc)), (1, .v (.int .i64 x1)), (5, .v (.int .i64 c4)), (6, .v (.int .i64 c2)), (7, .v (.int .i64 c5)), (31, .v (.bool (v9 == x1)))] [] (by kernel_rfl) ?_
        exact RunS.done rfl Wk.f1
      obtain ⟨r12, hr12, h⟩ := Option.bind_eq_some_iff.1 h
      refine Sem.cut (ref09_times_j3_ok x0 x1 c2 c4 c5 v9 _ hr12) ?_
      refine Sem.runS (s1 := ⟨Fr 35 [(0, .sl 1 (x0.map (cdL 1 cdI).enc)), (1, .v (.int .i64 x1)), (5, .v (.int .i64 r12)), (6, .v (.int .i64 c2)), (7, .v (.int .i64 (wr .i64 (c5 + 1))))], []⟩) ?_ ?_
      · refine RunS.segF (n := 35) e_ref09_times_ok 3 [(0, .sl 1 (x0.map (cdL 1 cdI).enc)), (1, .v (.int .i64 x1)), (5, .v (.int .i64 r12)), (6, .v (.int .i64 c2)), (7, .v (.int .i64 (wr .i64 (c5 + 1))))] [] (by kernel_rfl) ?_
        exact RunS.done rfl Wk.f1
      exact SemN.wk (s1 := ⟨Fr 35 [(0, .sl 1 (x0.map (cdL 1 cdI).enc)), (1, .v (.int .i64 x1)), (5, .v (.int .i64 r12)), (6, .v (.int .i64 c2)), (7, .v (.int .i64 (wr .i64 (c5 + 1))))], []⟩) Wk.f1 (ih r12 (wr .i64 (c5 + 1)) h)
    · rw [if_f hb7] at h
      refine Sem.exit ?_
      have hq := Option.some.inj h; subst hq
      exact ⟨rfl, Wk.f1⟩
set_option maxHeartbeats 4000000 in
set_option maxRecDepth 100000 in
theorem ref09_times_1_ok (x0 : (List (List Int))) (x1 : Int) : ∀ (f : Nat) (c1 : Int) (c2 : Int) (r : (Int)), ref09_times_1 x0 x1 f c1 c2 = some r → SemN e_ref09_times ⟨none, false⟩ (pc cb_ref09_times [1, 1, 0, 1, 0, 0]) f ⟨Fr 35 [(0, .sl 1 (x0.map (cdL 1 cdI).enc)), (1, .v (.int .i64 x1)), (5, .v (.int .i64 c1)), (6, .v (.int .i64 c2))], []⟩ (fun e s => e = (.exit 0) ∧ Wk e_ref09_times s ⟨Fr 35 [(5, .v (.int .i64 r))], []⟩) := by
  intro f
  induction f with
  | zero => intro c1 c2 r h; cases h
  | succ f ih0 =>
    intro c1 c2 r h
    have ih := fun (c1 : Int) (c2 : Int) => ih0 c1 c2 r
    unfold ref09_times_1 at h
    refine SemN.succ ?_
    refine Sem.seq ?_
    refine Sem.seq ?_
    refine Sem.runS (s1 := ⟨Fr 35 [(0, .sl 1 (x0.map (cdL 1 cdI).enc)), (1, .v (.int .i64 x1)), (5, .v (.int .i64 c1)), (6, .v (.int .i64 c2)), (11, .v (.bool (decide (c2 < (x0.length : Int)))))], []⟩) ?_ ?_
    · refine RunS.segF (n := 35) e_ref09_times_ok 2 [(0, .sl 1 (x0.map (cdL 1 cdI).enc)), (1, .v (.int .i64 x1)), (5, .v (.int .i64 c1)), (6, .v (.int .i64 c2)), (8, .v (.int .i64 c2)), (9, .sl 1 (x0.map (cdL 1 cdI).enc))] [] (by kernel_rfl) ?_
      refine RunS.one e_ref09_times_ok 0 rfl (op_q (wantedA_none rfl) rfl (q_len (a := .sl 1 (x0.map (cdL 1 cdI).enc)) (by kernel_rfl) (len_sl (el := 29) (by kernel_rfl)))) ?_
      refine RunS.segF (n := 35) e_ref09_times_ok 1 [(0, .sl 1 (x0.map (cdL 1 cdI).enc)), (1, .v (.int .i64 x1)), (5, .v (.int .i64 c1)), (6, .v (.int .i64 c2)), (11, .v (.bool (decide (c2 < (x0.length : Int)))))] [] (by kernel_rfl) ?_
      exact RunS.done rfl Wk.f1
    refine Sem.cond (b := (decide (c2 < (x0.length : Int)))) (by kernel_rfl) (fun hb3 => ?_) (fun hb3 => ?_)
    · rw [if_pos hb3] at h
      refine Sem.skip ?_
      refine Sem.seq ?_
      refine Sem.block ?_
      refine Sem.seq ?_
      refine Sem.runS (s1 := ⟨Fr 35 [(0, .sl 1 (x0.map (cdL 1 cdI).enc)), (1, .v (.int .i64 x1)), (5, .v (.int .i64 c1)), (6, .v (.int .i64 c2)), (7, .v (.int .i64 0))], []⟩) ?_ ?_
      · refine RunS.segF (n := 35) e_ref09_times_ok 1 [(0, .sl 1 (x0.map (cdL 1 cdI).enc)), (1, .v (.int .i64 x1)), (5, .v (.int .i64 c1)), (6, .v (.int .i64 c2)), (7, .v (.int .i64 0))] [] (by kernel_rfl) ?_
        exact RunS.done rfl Wk.f1
      refine Sem.block ?_
      obtain ⟨r14, hr14, h⟩ := Option.bind_eq_some_iff.1 h
      refine Sem.loop (n := 100000) ?_
      refine Sem.cutN (SemN.wk (s1 := ⟨Fr 35 [(0, .sl 1 (x0.map (cdL 1 cdI).enc)), (1, .v (.int .i64 x1)), (5, .v (.int .i64 c1)), (6, .v (.int .i64 c2)), (7, .v (.int .i64 0))], []⟩) Wk.f1 (ref09_times_2_ok x0 x1 c2 _ c1 0 _ hr14)) ?_
      refine Sem.runS (s1 := ⟨Fr 35 [(0, .sl 1 (x0.map (cdL 1 cdI).enc)), (1, .v (.int .i64 x1)), (5, .v (.int .i64 r14)), (6, .v (.int .i64 (wr .i64 (c2 + 1))))], []⟩) ?_ ?_
      · refine RunS.segF (n := 35) e_ref09_times_ok 3 [(0, .sl 1 (x0.map (cdL 1 cdI).enc)), (1, .v (.int .i64 x1)), (5, .v (.int .i64 r14)), (6, .v (.int .i64 (wr .i64 (c2 + 1))))] [] (by kernel_rfl) ?_
        exact RunS.done rfl Wk.f1
      exact SemN.wk (s1 := ⟨Fr 35 [(0, .sl 1 (x0.map (cdL 1 cdI).enc)), (1, .v (.int .i64 x1)), (5, .v (.int .i64 r14)), (6, .v (.int .i64 (wr .i64 (c2 + 1))))], []⟩) Wk.f1 (ih r14 (wr .i64 (c2 + 1)) h)
    · rw [if_f hb3] at h
      refine Sem.exit ?_
      have hq := Option.some.inj h; subst hq
      exact ⟨rfl, Wk.f1⟩
set_option maxHeartbeats 4000000 in
set_option maxRecDepth 100000 in
theorem ref09_times_sem (x0 : (List (List Int))) (x1 : Int) (r : Int) (h : ref09_times x0 x1 = some r) : Sem e_ref09_times ⟨none, false⟩ cb_ref09_times ⟨Fr 35 (pairs0 0 (cs_ref09_times.enc (x0, x1, ()))), []⟩ fun e s' => (e = .normal ∨ e = .ret) ∧ ∃ xs, resA e_ref09_times.P s'.fr s'.hp Tryd.f77.results.toList = some xs ∧ retA xs = er_ref09_times r := by
  unfold ref09_times at h
  refine Sem.wkQ (Sem.wk (s1 := ⟨Fr 35 [(0, .sl 1 (x0.map (cdL 1 cdI).enc)), (1, .v (.int .i64 x1))], []⟩) Wk.f1 ?_)
  refine Sem.seq ?_
  refine Sem.runS (s1 := ⟨Fr 35 [(0, .sl 1 (x0.map (cdL 1 cdI).enc)), (1, .v (.int .i64 x1))], []⟩) ?_ ?_
  · refine RunS.segF (n := 35) e_ref09_times_ok 1 [(0, .sl 1 (x0.map (cdL 1 cdI).enc)), (1, .v (.int .i64 x1))] [] (by kernel_rfl) ?_
    exact RunS.done rfl Wk.f1
  refine Sem.seq ?_
  refine Sem.runS (s1 := ⟨Fr 35 [(0, .sl 1 (x0.map (cdL 1 cdI).enc)), (1, .v (.int .i64 x1)), (5, .v (.int .i64 0))], []⟩) ?_ ?_
  · refine RunS.segF (n := 35) e_ref09_times_ok 1 [(0, .sl 1 (x0.map (cdL 1 cdI).enc)), (1, .v (.int .i64 x1)), (5, .v (.int .i64 0))] [] (by kernel_rfl) ?_
    exact RunS.done rfl Wk.f1
  refine Sem.seq ?_
  refine Sem.seq ?_
  refine Sem.runS (s1 := ⟨Fr 35 [(0, .sl 1 (x0.map (cdL 1 cdI).enc)), (1, .v (.int .i64 x1)), (5, .v (.int .i64 0)), (6, .v (.int .i64 0))], []⟩) ?_ ?_
  · refine RunS.segF (n := 35) e_ref09_times_ok 1 [(0, .sl 1 (x0.map (cdL 1 cdI).enc)), (1, .v (.int .i64 x1)), (5, .v (.int .i64 0)), (6, .v (.int .i64 0))] [] (by kernel_rfl) ?_
    exact RunS.done rfl Wk.f1
  refine Sem.block ?_
  obtain ⟨r16, hr16, h⟩ := Option.bind_eq_some_iff.1 h
  refine Sem.loop (n := 100000) ?_
  refine Sem.cutN (SemN.wk (s1 := ⟨Fr 35 [(0, .sl 1 (x0.map (cdL 1 cdI).enc)), (1, .v (.int .i64 x1)), (5, .v (.int .i64 0)), (6, .v (.int .i64 0))], []⟩) Wk.f1 (ref09_times_1_ok x0 x1 _ 0 0 _ hr16)) ?_
  refine Sem.seq ?_
  refine Sem.runS (s1 := ⟨Fr 35 [(4, .v (.int .i64 r16))], []⟩) ?_ ?_
  · refine RunS.segF (n := 35) e_ref09_times_ok 2 [(4, .v (.int .i64 r16))] [] (by kernel_rfl) ?_
    exact RunS.done rfl Wk.f1
  refine Sem.ret ?_
  have hq := Option.some.inj h; subst hq
  exact ⟨⟨Fr 35 [(4, .v (.int .i64 r16))], []⟩, Wk.f1, .inr rfl, [.v (.int .i64 r16)], (by kernel_rfl), (by kernel_rfl)⟩
def t_ref09_times : List AV → Option AV := told cs_ref09_times (fun a => ref09_times a.1 a.2.1) er_ref09_times
theorem x_ref09_times : XOk 77 t_ref09_times := by
  refine EnvOk.x (E := e_ref09_times) (contract_ok e_ref09_times_ok (fn := Tryd.f77) (c := cb_ref09_times) ?h1 ?h2 ⟨Tryd.call77⟩ cs_ref09_times (fun a => ref09_times a.1 a.2.1) er_ref09_times (fun a => (by show 2 ≤ 35; decide)) ?h3 ?h4) rfl rfl
  case h1 => kernel_rfl
  case h2 => kernel_rfl
  case h3 => intro b; kernel_rfl
  case h4 => exact fun a b h => ref09_times_sem a.1 a.2.1 b h
/- trestle/trestleref09.CheckEvening -/
noncomputable def e_ref09_CheckEvening : Env := (E0.withX 77 t_ref09_times)
theorem e_ref09_CheckEvening_ok : EnvOk e_ref09_CheckEvening := (EnvOk.withX E0_ok x_ref09_times.1 x_ref09_times.2)
noncomputable def cb_ref09_CheckEvening : Code := codeOf Tryd.f70
def ref09_CheckEvening_1 (x0 : Int) (x1 : (List Int)) (x2 : (List (List Int))) : Nat → Int → Option ((Unit) ⊕ (Int))
  | 0, _ => none
  | f + 1, c4 =>
    if (decide (c4 < (x2.length : Int))) = true then
    (idx x2 c4).bind fun v6 =>
    (if ((v6.length : Int) == 0) = true then some true else if (decide ((x1.length : Int) > 0)) = true then (idx x1 c4).bind fun v7 =>
    (idx x2 c4).bind fun v8 =>
    some (v7 != (v8.length : Int)) else some false).bind fun j10 =>
    if j10 = true then
    some (.inr 2)
    else
    ref09_CheckEvening_1 x0 x1 x2 f (wr .i64 (c4 + 1))
    else
    some (.inl ())
def ref09_CheckEvening_3 (x0 : Int) (x2 : (List (List Int))) (c17 : Int) : Nat → Int → Option ((Unit) ⊕ (Int))
  | 0, _ => none
  | f + 1, c19 =>
    (idx x2 c17).bind fun v20 =>
    if (decide (c19 < (v20.length : Int))) = true then
    (idx x2 c17).bind fun v22 =>
    (idx v22 c19).bind fun v23 =>
    (if (decide (v23 < 0)) = true then some true else (idx x2 c17).bind fun v24 =>
    (idx v24 c19).bind fun v25 =>
    some (decide (v25 ≥ x0))).bind fun j27 =>
    if j27 = true then
    some (.inr 6)
    else
    ref09_CheckEvening_3 x0 x2 c17 f (wr .i64 (c19 + 1))
    else
    some (.inl ())
def ref09_CheckEvening_2 (x0 : Int) (x2 : (List (List Int))) : Nat → Int → Option ((Unit) ⊕ (Int))
  | 0, _ => none
  | f + 1, c17 =>
    if (decide (c17 < (x2.length : Int))) = true then
    (ref09_CheckEvening_3 x0 x2 c17 100000 0).bind fun r31 =>
    match r31 with
    | (.inl w32) =>
      ref09_CheckEvening_2 x0 x2 f (wr .i64 (c17 + 1))
    | (.inr w33) =>
      some (.inr w33)
    else
    some (.inl ())
def ref09_CheckEvening_4 (x0 : Int) (x2 : (List (List Int))) : Nat → Int → Option ((Unit) ⊕ (Int))
  | 0, _ => none
  | f + 1, c37 =>
    if (decide (c37 < x0)) = true then
    (ref09_times x2 c37).bind fun v39 =>
    if (decide (v39 > 1)) = true then
    some (.inr 5)
    else
    ref09_CheckEvening_4 x0 x2 f (wr .i64 (c37 + 1))
    else
    some (.inl ())
def ref09_CheckEvening_5 (x0 : Int) (x2 : (List (List Int))) : Nat → Int → Option ((Unit) ⊕ (Int))
  | 0, _ => none
  | f + 1, c44 =>
    if (decide (c44 < x0)) = true then
    (ref09_times x2 c44).bind fun v46 =>
    if (v46 == 0) = true then
    some (.inr 2)
    else
    ref09_CheckEvening_5 x0 x2 f (wr .i64 (c44 + 1))
    else
    some (.inl ())
def ref09_CheckEvening (x0 : Int) (x1 : (List Int)) (x2 : (List (List Int))) : Option (Int) :=
  (if (decide ((x1.length : Int) > 0)) = true then some ((x1.length : Int) != (x2.length : Int)) else some false).bind fun j2 =>
  if j2 = true then
  some 2
  else
  (ref09_CheckEvening_1 x0 x1 x2 100000 0).bind fun r15 =>
  match r15 with
  | (.inl w16) =>
    (ref09_CheckEvening_2 x0 x2 100000 0).bind fun r35 =>
    match r35 with
    | (.inl w36) =>
      (ref09_CheckEvening_4 x0 x2 100000 0).bind fun r42 =>
      match r42 with
      | (.inl w43) =>
        (ref09_CheckEvening_5 x0 x2 100000 0).bind fun r49 =>
        match r49 with
        | (.inl w50) =>
          some 0
        | (.inr w51) =>
          some w51
      | (.inr w52) =>
        some w52
    | (.inr w53) =>
      some w53
  | (.inr w54) =>
    some w54
def cs_ref09_CheckEvening : Cs (Int × (List Int) × (List (List Int)) × Unit) := (csC cdI (csC (cdL 1 cdI) (csC (cdL 1 (cdL 1 cdI)) csN)))
def er_ref09_CheckEvening (r : Int) : AV := cdI.enc r
set_option maxHeartbeats 4000000 in
set_option maxRecDepth 100000 in
theorem ref09_CheckEvening_1_ok (x0 : Int) (x1 : (List Int)) (x2 : (List (List Int))) : ∀ (f : Nat) (c4 : Int) (r : (Unit) ⊕ (Int)), ref09_CheckEvening_1 x0 x1 x2 f c4 = some r → SemN e_ref09_CheckEvening ⟨none, false⟩ (pc cb_ref09_CheckEvening [1, 1, 0, 1, 0, 0]) f ⟨Fr 103 [(0, .v (.int .i64 x0)), (1, .sl 1 (x1.map cdI.enc)), (2, .sl 1 (x2.map (cdL 1 cdI).enc)), (7, .v (.int .i64 c4))], []⟩ (fun e s => match r with
  | (.inl w) => e = (.exit 0) ∧ Wk e_ref09_CheckEvening s ⟨Fr 103 [(0, .v (.int .i64 x0)), (2, .sl 1 (x2.map (cdL 1 cdI).enc))], []⟩
  | (.inr w) => e = .ret ∧ Wk e_ref09_CheckEvening s ⟨Fr 103 [(6, .v (.int .i64 w))], []⟩) := by
  intro f
  induction f with
  | zero => intro c4 r h; cases h
  | succ f ih0 =>
    intro c4 r h
    have ih := fun (c4 : Int) => ih0 c4 r
    unfold ref09_CheckEvening_1 at h
    refine SemN.succ ?_
    refine Sem.seq ?_
    refine Sem.seq ?_
    refine Sem.runS (s1 := ⟨Fr 103 [(0, .v (.int .i64 x0)), (1, .sl 1 (x1.map cdI.enc)), (2, .sl 1 (x2.map (cdL 1 cdI).enc)), (7, .v (.int .i64 c4)), (25, .v (.bool (decide (c4 < (x2.length : Int)))))], []⟩) ?_ ?_
    · refine RunS.segF (n := 103) e_ref09_CheckEvening_ok 2 [(0, .v (.int .i64 x0)), (1, .sl 1 (x1.map cdI.enc)), (2, .sl 1 (x2.map (cdL 1 cdI).enc)), (7, .v (.int .i64 c4)), (22, .v (.int .i64 c4)), (23, .sl 1 (x2.map (cdL 1 cdI).enc))] [] (by kernel_rfl) ?_
      refine RunS.one e_ref09_CheckEvening_ok 0 rfl (op_q (wantedA_none rfl) rfl (q_len (a := .sl 1 (x2.map (cdL 1 cdI).enc)) (by kernel_rfl) (len_sl (el := 29) (by kernel_rfl)))) ?_
      refine RunS.segF (n := 103) e_ref09_CheckEvening_ok 1 [(0, .v (.int .i64 x0)), (1, .sl 1 (x1.map cdI.enc)), (2, .sl 1 (x2.map (cdL 1 cdI).enc)), (7, .v (.int .i64 c4)), (25, .v (.bool (decide (c4 < (x2.length : Int)))))] [] (by kernel_rfl) ?_
      exact RunS.done rfl Wk.f1
    refine Sem.cond (b := (decide (c4 < (x2.length : Int)))) (by kernel_rfl) (fun hb5 => ?_) (fun hb5 => ?_)
    · rw [if_pos hb5] at h
      refine Sem.skip ?_
      refine Sem.seq ?_
      refine Sem.block ?_
      refine Sem.seq ?_
      obtain ⟨v6, hv6, h⟩ := Option.bind_eq_some_iff.1 h
      obtain ⟨j10, hj10, h⟩ := Option.bind_eq_some_iff.1 h
      refine Sem.runDS e_ref09_CheckEvening_ok (s1 := ⟨Fr 103 [(0, .v (.int .i64 x0)), (1, .sl 1 (x1.map cdI.enc)), (2, .sl 1 (x2.map (cdL 1 cdI).enc)), (7, .v (.int .i64 c4)), (50, .v (.bool j10))], []⟩) (by kernel_rfl) ?_ ?_
      · refine RunDS.segF (n := 103) e_ref09_CheckEvening_ok 2 [(0, .v (.int .i64 x0)), (1, .sl 1 (x1.map cdI.enc)), (2, .sl 1 (x2.map (cdL 1 cdI).enc)), (7, .v (.int .i64 c4)), (28, .sl 1 (x2.map (cdL 1 cdI).enc)), (29, .v (.int .i64 c4))] [] (by kernel_rfl) (by kernel_rfl) ?_
        refine RunDS.one e_ref09_CheckEvening_ok rfl (by kernel_rfl) (opd_q (by kernel_rfl) (wantedA_none rfl) rfl (q_indexAddr (a := .sl 1 (x2.map (cdL 1 cdI).enc)) (b := .v (.int .i64 c4)) (by kernel_rfl) (by kernel_rfl) (ix_sl (e := (cdL 1 cdI).enc) (el := 29) (k := 1) (ki := .i64) (by kernel_rfl) (by kernel_rfl) hv6)) (by kernel_rfl)) ?_
        refine RunDS.segF (n := 103) e_ref09_CheckEvening_ok 1 [(0, .v (.int .i64 x0)), (1, .sl 1 (x1.map cdI.enc)), (2, .sl 1 (x2.map (cdL 1 cdI).enc)), (7, .v (.int .i64 c4)), (31, .sl 1 (v6.map cdI.enc))] [] (by kernel_rfl) (by kernel_rfl) ?_
        refine RunDS.one e_ref09_CheckEvening_ok rfl (by kernel_rfl) (opd_q (by kernel_rfl) (wantedA_none rfl) rfl (q_len (a := .sl 1 (v6.map cdI.enc)) (by kernel_rfl) (len_sl (el := 3) (by kernel_rfl))) (by kernel_rfl)) ?_
        refine RunDS.segF (n := 103) e_ref09_CheckEvening_ok 2 [(0, .v (.int .i64 x0)), (1, .sl 1 (x1.map cdI.enc)), (2, .sl 1 (x2.map (cdL 1 cdI).enc)), (7, .v (.int .i64 c4)), (34, .v (.bool ((v6.length : Int) == 0)))] [] (by kernel_rfl) (by kernel_rfl) ?_
        rcases Bool.eq_false_or_eq_true ((v6.length : Int) == 0) with hc13 | hc13
        · rw [if_pos hc13] at hj10
          rw [hc13]
          refine RunDS.segF (n := 103) e_ref09_CheckEvening_ok 16 [(0, .v (.int .i64 x0)), (1, .sl 1 (x1.map cdI.enc)), (2, .sl 1 (x2.map (cdL 1 cdI).enc)), (7, .v (.int .i64 c4)), (35, .tp []), (36, .tp []), (37, .tp []), (38, .tp []), (39, .tp []), (40, .tp []), (41, .tp []), (42, .tp []), (43, .tp []), (44, .tp []), (45, .tp []), (46, .tp []), (47, .tp []), (48, .tp []), (49, .tp []), (50, .v (.bool true))] [] (by kernel_rfl) (by kernel_rfl) ?_
          have hq := Option.some.inj hj10; subst hq
          exact RunDS.done rfl Wk.f1
        · rw [if_f hc13] at hj10
          rw [hc13]
          refine RunDS.segF (n := 103) e_ref09_CheckEvening_ok 1 [(0, .v (.int .i64 x0)), (1, .sl 1 (x1.map cdI.enc)), (2, .sl 1 (x2.map (cdL 1 cdI).enc)), (7, .v (.int .i64 c4)), (34, .v (.bool false)), (35, .sl 1 (x1.map cdI.enc))] [] (by kernel_rfl) (by kernel_rfl) ?_
          refine RunDS.one e_ref09_CheckEvening_ok rfl (by kernel_rfl) (opd_q (by kernel_rfl) (by kernel_rfl) rfl (q_len (a := .sl 1 (x1.map cdI.enc)) (by kernel_rfl) (len_sl (el := 3) (by kernel_rfl))) (by kernel_rfl)) ?_
          refine RunDS.segF (n := 103) e_ref09_CheckEvening_ok 2 [(0, .v (.int .i64 x0)), (1, .sl 1 (x1.map cdI.enc)), (2, .sl 1 (x2.map (cdL 1 cdI).enc)), (7, .v (.int .i64 c4)), (34, .v (.bool false)), (35, .sl 1 (x1.map cdI.enc)), (36, .v (.int .i64 (x1.length : Int))), (37, .v (.bool (decide ((x1.length : Int) > 0)))), (38, .v (.bool (decide ((x1.length : Int) > 0))))] [] (by kernel_rfl) (by kernel_rfl) ?_
          rcases Bool.eq_false_or_eq_true (decide ((x1.length : Int) > 0)) with hc14 | hc14
          · rw [if_pos hc14] at hj10
            rw [hc14]
            refine RunDS.segF (n := 103) e_ref09_CheckEvening_ok 2 [(0, .v (.int .i64 x0)), (1, .sl 1 (x1.map cdI.enc)), (2, .sl 1 (x2.map (cdL 1 cdI).enc)), (7, .v (.int .i64 c4)), (34, .v (.bool false)), (35, .sl 1 (x1.map cdI.enc)), (36, .v (.int .i64 (x1.length : Int))), (37, .v (.bool true)), (38, .v (.bool true)), (39, .sl 1 (x1.map cdI.enc)), (40, .v (.int .i64 c4))] [] (by kernel_rfl) (by kernel_rfl) ?_
            obtain ⟨v7, hv7, hj10⟩ := Option.bind_eq_some_iff.1 hj10
            refine RunDS.one e_ref09_CheckEvening_ok rfl (by kernel_rfl) (opd_q (by kernel_rfl) (by kernel_rfl) rfl (q_indexAddr (a := .sl 1 (x1.map cdI.enc)) (b := .v (.int .i64 c4)) (by kernel_rfl) (by kernel_rfl) (ix_sl (e := cdI.enc) (el := 3) (k := 1) (ki := .i64) (by kernel_rfl) (by kernel_rfl) hv7)) (by kernel_rfl)) ?_
            refine RunDS.segF (n := 103) e_ref09_CheckEvening_ok 3 [(0, .v (.int .i64 x0)), (1, .sl 1 (x1.map cdI.enc)), (2, .sl 1 (x2.map (cdL 1 cdI).enc)), (7, .v (.int .i64 c4)), (34, .v (.bool false)), (35, .sl 1 (x1.map cdI.enc)), (36, .v (.int .i64 (x1.length : Int))), (37, .v (.bool true)), (38, .v (.bool true)), (39, .sl 1 (x1.map cdI.enc)), (40, .v (.int .i64 c4)), (41, .pe (.v (.int .i64 v7)) 0), (42, .v (.int .i64 v7)), (43, .sl 1 (x2.map (cdL 1 cdI).enc)), (44, .v (.int .i64 c4))] [] (by kernel_rfl) (by kernel_rfl) ?_
            obtain ⟨v8, hv8, hj10⟩ := Option.bind_eq_some_iff.1 hj10
            refine RunDS.one e_ref09_CheckEvening_ok rfl (by kernel_rfl) (opd_q (by kernel_rfl) (by kernel_rfl) rfl (q_indexAddr (a := .sl 1 (x2.map (cdL 1 cdI).enc)) (b := .v (.int .i64 c4)) (by kernel_rfl) (by kernel_rfl) (ix_sl (e := (cdL 1 cdI).enc) (el := 29) (k := 1) (ki := .i64) (by kernel_rfl) (by kernel_rfl) hv8)) (by kernel_rfl)) ?_
            refine RunDS.segF (n := 103) e_ref09_CheckEvening_ok 1 [(0, .v (.int .i64 x0)), (1, .sl 1 (x1.map cdI.enc)), (2, .sl 1 (x2.map (cdL 1 cdI).enc)), (7, .v (.int .i64 c4)), (34, .v (.bool false)), (35, .sl 1 (x1.map cdI.enc)), (36, .v (.int .i64 (x1.length : Int))), (37, .v (.bool true)), (38, .v (.bool true)), (39, .sl 1 (x1.map cdI.enc)), (40, .v (.int .i64 c4)), (41, .pe (.v (.int .i64 v7)) 0), (42, .v (.int .i64 v7)), (43, .sl 1 (x2.map (cdL 1 cdI).enc)), (44, .v (.int .i64 c4)), (45, .pe (.sl 1 (v8.map cdI.enc)) 0), (46, .sl 1 (v8.map cdI.enc))] [] (by kernel_rfl) (by kernel_rfl) ?_
            refine RunDS.one e_ref09_CheckEvening_ok rfl (by kernel_rfl) (opd_q (by kernel_rfl) (by kernel_rfl) rfl (q_len (a := .sl 1 (v8.map cdI.enc)) (by kernel_rfl) (len_sl (el := 3) (by kernel_rfl))) (by kernel_rfl)) ?_
            refine RunDS.segF (n := 103) e_ref09_CheckEvening_ok 3 [(0, .v (.int .i64 x0)), (1, .sl 1 (x1.map cdI.enc)), (2, .sl 1 (x2.map (cdL 1 cdI).enc)), (7, .v (.int .i64 c4)), (35, .sl 1 (x1.map cdI.enc)), (36, .v (.int .i64 (x1.length : Int))), (37, .v (.bool true)), (38, .v (.bool true)), (39, .sl 1 (x1.map cdI.enc)), (40, .v (.int .i64 c4)), (41, .pe (.v (.int .i64 v7)) 0), (42, .v (.int .i64 v7)), (43, .sl 1 (x2.map (cdL 1 cdI).enc)), (44, .v (.int .i64 c4)), (45, .pe (.sl 1 (v8.map cdI.enc)) 0), (46, .sl 1 (v8.map cdI.enc)), (47, .v (.int .i64 (v8.length : Int))), (48, .v (.bool (v7 != (v8.length : Int)))), (49, .v (.bool (v7 != (v8.length : Int)))), (50, .v (.bool (v7 != (v8.length : Int))))] [] (by kernel_rfl) (by kernel_rfl) ?_
            have hq := Option.some.inj hj10; subst hq
            exact RunDS.done rfl Wk.f1
          · rw [if_f hc14] at hj10
            rw [hc14]
            refine RunDS.segF (n := 103) e_ref09_CheckEvening_ok 12 [(0, .v (.int .i64 x0)), (1, .sl 1 (x1.map cdI.enc)), (2, .sl 1 (x2.map (cdL 1 cdI).enc)), (7, .v (.int .i64 c4)), (35, .sl 1 (x1.map cdI.enc)), (36, .v (.int .i64 (x1.length : Int))), (37, .v (.bool false)), (38, .v (.bool false)), (39, .tp []), (40, .tp []), (41, .tp []), (42, .tp []), (43, .tp []), (44, .tp []), (45, .tp []), (46, .tp []), (47, .tp []), (48, .tp []), (49, .v (.bool false)), (50, .v (.bool false))] [] (by kernel_rfl) (by kernel_rfl) ?_
            have hq := Option.some.inj hj10; subst hq
            exact RunDS.done rfl Wk.f1
      refine Sem.cond (b := j10) (by kernel_rfl) (fun hb11 => ?_) (fun hb11 => ?_)
      · rw [if_pos hb11] at h
        refine Sem.seq ?_
        refine Sem.runS (s1 := ⟨Fr 103 [(6, .v (.int .i64 2))], []⟩) ?_ ?_
        · refine RunS.segF (n := 103) e_ref09_CheckEvening_ok 1 [(6, .v (.int .i64 2))] [] (by kernel_rfl) ?_
          exact RunS.done rfl Wk.f1
        refine Sem.ret ?_
        have hq := Option.some.inj h; subst hq
        exact ⟨rfl, Wk.f1⟩
      · rw [if_f hb11] at h
        refine Sem.skip ?_
        refine Sem.runS (s1 := ⟨Fr 103 [(0, .v (.int .i64 x0)), (1, .sl 1 (x1.map cdI.enc)), (2, .sl 1 (x2.map (cdL 1 cdI).enc)), (7, .v (.int .i64 (wr .i64 (c4 + 1))))], []⟩) ?_ ?_
        · refine RunS.segF (n := 103) e_ref09_CheckEvening_ok 3 [(0, .v (.int .i64 x0)), (1, .sl 1 (x1.map cdI.enc)), (2, .sl 1 (x2.map (cdL 1 cdI).enc)), (7, .v (.int .i64 (wr .i64 (c4 + 1))))] [] (by kernel_rfl) ?_
          exact RunS.done rfl Wk.f1
        exact SemN.wk (s1 := ⟨Fr 103 [(0, .v (.int .i64 x0)), (1, .sl 1 (x1.map cdI.enc)), (2, .sl 1 (x2.map (cdL 1 cdI).enc)), (7, .v (.int .i64 (wr .i64 (c4 + 1))))], []⟩) Wk.f1 (ih (wr .i64 (c4 + 1)) h)
    · rw [if_f hb5] at h
      refine Sem.exit ?_
      have hq := Option.some.inj h; subst hq
      exact ⟨rfl, Wk.f1⟩
set_option maxHeartbeats 4000000 in
set_option maxRecDepth 100000 in
theorem ref09_CheckEvening_3_ok (x0 : Int) (x2 : (List (List Int))) (c17 : Int) : ∀ (f : Nat) (c19 : Int) (r : (Unit) ⊕ (Int)), ref09_CheckEvening_3 x0 x2 c17 f c19 = some r → SemN e_ref09_CheckEvening ⟨none, false⟩ (pc cb_ref09_CheckEvening [1, 1, 1, 0, 1, 0, 0, 1, 0, 0, 1, 0, 0]) f ⟨Fr 103 [(0, .v (.int .i64 x0)), (2, .sl 1 (x2.map (cdL 1 cdI).enc)), (8, .v (.int .i64 c17)), (9, .v (.int .i64 c19))], []⟩ (fun e s => match r with
  | (.inl w) => e = (.exit 4) ∧ Wk e_ref09_CheckEvening s ⟨Fr 103 [(0, .v (.int .i64 x0)), (2, .sl 1 (x2.map (cdL 1 cdI).enc)), (8, .v (.int .i64 c17))], []⟩
  | (.inr w) => e = .ret ∧ Wk e_ref09_CheckEvening s ⟨Fr 103 [(6, .v (.int .i64 w))], []⟩) := by
  intro f
  induction f with
  | zero => intro c19 r h; cases h
  | succ f ih0 =>
    intro c19 r h
    have ih := fun (c19 : Int) => ih0 c19 r
    unfold ref09_CheckEvening_3 at h
    refine SemN.succ ?_
    refine Sem.seq ?_
    refine Sem.seq ?_
    obtain ⟨v20, hv20, h⟩ := Option.bind_eq_some_iff.1 h
    refine Sem.runS (s1 := ⟨Fr 103 [(0, .v (.int .i64 x0)), (2, .sl 1 (x2.map (cdL 1 cdI).enc)), (8, .v (.int .i64 c17)), (9, .v (.int .i64 c19)), (63, .v (.bool (decide (c19 < (v20.length : Int)))))], []⟩) ?_ ?_
    · refine RunS.segF (n := 103) e_ref09_CheckEvening_ok 3 [(0, .v (.int .i64 x0)), (2, .sl 1 (x2.map (cdL 1 cdI).enc)), (8, .v (.int .i64 c17)), (9, .v (.int .i64 c19)), (57, .v (.int .i64 c19)), (58, .sl 1 (x2.map (cdL 1 cdI).enc)), (59, .v (.int .i64 c17))] [] (by kernel_rfl) ?_
      refine RunS.one e_ref09_CheckEvening_ok 0 rfl (op_q (wantedA_none rfl) rfl (q_indexAddr (a := .sl 1 (x2.map (cdL 1 cdI).enc)) (b := .v (.int .i64 c17)) (by kernel_rfl) (by kernel_rfl) (ix_sl (e := (cdL 1 cdI).enc) (el := 29) (k := 1) (ki := .i64) (by kernel_rfl) (by kernel_rfl) hv20))) ?_
      refine RunS.segF (n := 103) e_ref09_CheckEvening_ok 1 [(0, .v (.int .i64 x0)), (2, .sl 1 (x2.map (cdL 1 cdI).enc)), (8, .v (.int .i64 c17)), (9, .v (.int .i64 c19)), (57, .v (.int .i64 c19)), (61, .sl 1 (v20.map cdI.enc))] [] (by kernel_rfl) ?_
      refine RunS.one e_ref09_CheckEvening_ok 0 rfl (op_q (wantedA_none rfl) rfl (q_len (a := .sl 1 (v20.map cdI.enc)) (by kernel_rfl) (len_sl (el := 3) (by kernel_rfl)))) ?_
      refine RunS.segF (n := 103) e_ref09_CheckEvening_ok 1 [(0, .v (.int .i64 x0)), (2, .sl 1 (x2.map (cdL 1 cdI).enc)), (8, .v (.int .i64 c17)), (9, .v (.int .i64 c19)), (63, .v (.bool (decide (c19 < (v20.length : Int)))))] [] (by kernel_rfl) ?_
      exact RunS.done rfl Wk.f1
    refine Sem.cond (b := (decide (c19 < (v20.length : Int)))) (by kernel_rfl) (fun hb21 => ?_) (fun hb21 => ?_)
    · rw [if_pos hb21] at h
      refine Sem.skip ?_
      refine Sem.seq ?_
      refine Sem.block ?_
      refine Sem.seq ?_
      obtain ⟨v22, hv22, h⟩ := Option.bind_eq_some_iff.1 h
      obtain ⟨v23, hv23, h⟩ := Option.bind_eq_some_iff.1 h
      obtain ⟨j27, hj27, h⟩ := Option.bind_eq_some_iff.1 h
      refine Sem.runS (s1 := ⟨Fr 103 [(0, .v (.int .i64 x0)), (2, .sl 1 (x2.map (cdL 1 cdI).enc)), (8, .v (.int .i64 c17)), (9, .v (.int .i64 c19)), (84, .v (.bool j27))], []⟩) ?_ ?_
      · refine RunS.segF (n := 103) e_ref09_CheckEvening_ok 2 [(0, .v (.int .i64 x0)), (2, .sl 1 (x2.map (cdL 1 cdI).enc)), (8, .v (.int .i64 c17)), (9, .v (.int .i64 c19)), (66, .sl 1 (x2.map (cdL 1 cdI).enc)), (67, .v (.int .i64 c17))] [] (by kernel_rfl) ?_
        refine RunS.one e_ref09_CheckEvening_ok 0 rfl (op_q (wantedA_none rfl) rfl (q_indexAddr (a := .sl 1 (x2.map (cdL 1 cdI).enc)) (b := .v (.int .i64 c17)) (by kernel_rfl) (by kernel_rfl) (ix_sl (e := (cdL 1 cdI).enc) (el := 29) (k := 1) (ki := .i64) (by kernel_rfl) (by kernel_rfl) hv22))) ?_
        refine RunS.segF (n := 103) e_ref09_CheckEvening_ok 2 [(0, .v (.int .i64 x0)), (2, .sl 1 (x2.map (cdL 1 cdI).enc)), (8, .v (.int .i64 c17)), (9, .v (.int .i64 c19)), (69, .sl 1 (v22.map cdI.enc)), (70, .v (.int .i64 c19))] [] (by kernel_rfl) ?_
        refine RunS.one e_ref09_CheckEvening_ok 0 rfl (op_q (wantedA_none rfl) rfl (q_indexAddr (a := .sl 1 (v22.map cdI.enc)) (b := .v (.int .i64 c19)) (by kernel_rfl) (by kernel_rfl) (ix_sl (e := cdI.enc) (el := 3) (k := 1) (ki := .i64) (by kernel_rfl) (by kernel_rfl) hv23))) ?_
        refine RunS.segF (n := 103) e_ref09_CheckEvening_ok 3 [(0, .v (.int .i64 x0)), (2, .sl 1 (x2.map (cdL 1 cdI).enc)), (8, .v (.int .i64 c17)), (9, .v (.int .i64 c19)), (74, .v (.bool (decide (v23 < 0))))] [] (by kernel_rfl) ?_
        rcases Bool.eq_false_or_eq_true (decide (v23 < 0)) with hc30 | hc30
        · rw [if_pos hc30] at hj27
          rw [hc30]
          refine RunS.segF (n := 103) e_ref09_CheckEvening_ok 10 [(0, .v (.int .i64 x0)), (2, .sl 1 (x2.map (cdL 1 cdI).enc)), (8, .v (.int .i64 c17)), (9, .v (.int .i64 c19)), (75, .tp []), (76, .tp []), (77, .tp []), (78, .tp []), (79, .tp []), (80, .tp []), (81, .tp []), (82, .tp []), (83, .tp []), (84, .v (.bool true))] [] (by kernel_rfl) ?_
          have hq := Option.some.inj hj27; subst hq
          exact RunS.done rfl Wk.f1
        · rw [if_f hc30] at hj27
          rw [hc30]
          refine RunS.segF (n := 103) e_ref09_CheckEvening_ok 2 [(0, .v (.int .i64 x0)), (2, .sl 1 (x2.map (cdL 1 cdI).enc)), (8, .v (.int .i64 c17)), (9, .v (.int .i64 c19)), (74, .v (.bool false)), (75, .sl 1 (x2.map (cdL 1 cdI).enc)), (76, .v (.int .i64 c17))] [] (by kernel_rfl) ?_
          obtain ⟨v24, hv24, hj27⟩ := Option.bind_eq_some_iff.1 hj27
          refine RunS.one e_ref09_CheckEvening_ok 0 rfl (op_q (by kernel_rfl) rfl (q_indexAddr (a := .sl 1 (x2.map (cdL 1 cdI).enc)) (b := .v (.int .i64 c17)) (by kernel_rfl) (by kernel_rfl) (ix_sl (e := (cdL 1 cdI).enc) (el := 29) (k := 1) (ki := .i64) (by kernel_rfl) (by kernel_rfl) hv24))) ?_
          refine RunS.segF (n := 103) e_ref09_CheckEvening_ok 2 [(0, .v (.int .i64 x0)), (2, .sl 1 (x2.map (cdL 1 cdI).enc)), (8, .v (.int .i64 c17)), (9, .v (.int .i64 c19)), (74, .v (.bool false)), (75, .sl 1 (x2.map (cdL 1 cdI).enc)), (76, .v (.int .i64 c17)), (77, .pe (.sl 1 (v24.map cdI.enc)) 0), (78, .sl 1 (v24.map cdI.enc)), (79, .v (.int .i64 c19))] [] (by kernel_rfl) ?_
          obtain ⟨v25, hv25, hj27⟩ := Option.bind_eq_some_iff.1 hj27
          refine RunS.one e_ref09_CheckEvening_ok 0 rfl (op_q (by kernel_rfl) rfl (q_indexAddr (a := .sl 1 (v24.map cdI.enc)) (b := .v (.int .i64 c19)) (by kernel_rfl) (by kernel_rfl) (ix_sl (e := cdI.enc) (el := 3) (k := 1) (ki := .i64) (by kernel_rfl) (by kernel_rfl) hv25))) ?_
          refine RunS.segF (n := 103) e_ref09_CheckEvening_ok 4 [(0, .v (.int .i64 x0)), (2, .sl 1 (x2.map (cdL 1 cdI).enc)), (8, .v (.int .i64 c17)), (9, .v (.int .i64 c19)), (75, .sl 1 (x2.map (cdL 1 cdI).enc)), (76, .v (.int .i64 c17)), (77, .pe (.sl 1 (v24.map cdI.enc)) 0), (78, .sl 1 (v24.map cdI.enc)), (79, .v (.int .i64 c19)), (80, .pe (.v (.int .i64 v25)) 0), (81, .v (.int .i64 v25)), (82, .v (.int .i64 x0)), (83, .v (.bool (decide (v25 ≥ x0)))), (84, .v (.bool (decide (v25 ≥ x0))))] [] (by kernel_rfl) ?_
          have hq := Option.some.inj hj27; subst hq
          exact RunS.done rfl Wk.f1
      refine Sem.cond (b := j27) (by kernel_rfl) (fun hb28 => ?_) (fun hb28 => ?_)
      · rw [if_pos hb28] at h
        refine Sem.seq ?_
        refine Sem.runS (s1 := ⟨Fr 103 [(6, .v (.int .i64 6))], []⟩) ?_ ?_
        · refine RunS.segF (n := 103) e_ref09_CheckEvening_ok 1 [(6, .v (.int .i64 6))] [] (by kernel_rfl) ?_
          exact RunS.done rfl Wk.f1
        refine Sem.ret ?_
        have hq := Option.some.inj h; subst hq
        exact ⟨rfl, Wk.f1⟩
      · rw [if_f hb28] at h
        refine Sem.skip ?_
        refine Sem.runS (s1 := ⟨Fr 103 [(0, .v (.int .i64 x0)), (2, .sl 1 (x2.map (cdL 1 cdI).enc)), (8, .v (.int .i64 c17)), (9, .v (.int .i64 (wr .i64 (c19 + 1))))], []⟩) ?_ ?_
        · refine RunS.segF (n := 103) e_ref09_CheckEvening_ok 3 [(0, .v (.int .i64 x0)), (2, .sl 1 (x2.map (cdL 1 cdI).enc)), (8, .v (.int .i64 c17)), (9, .v (.int .i64 (wr .i64 (c19 + 1))))] [] (by kernel_rfl) ?_
          exact RunS.done rfl Wk.f1
        exact SemN.wk (s1 := ⟨Fr 103 [(0, .v (.int .i64 x0)), (2, .sl 1 (x2.map (cdL 1 cdI).enc)), (8, .v (.int .i64 c17)), (9, .v (.int .i64 (wr .i64 (c19 + 1))))], []⟩) Wk.f1 (ih (wr .i64 (c19 + 1)) h)
    · rw [if_f hb21] at h
      refine Sem.exit ?_
      have hq := Option.some.inj h; subst hq
      exact ⟨rfl, Wk.f1⟩
set_option maxHeartbeats 4000000 in
set_option maxRecDepth 100000 in
theorem ref09_CheckEvening_2_ok (x0 : Int) (x2 : (List (List Int))) : ∀ (f : Nat) (c17 : Int) (r : (Unit) ⊕ (Int)), ref09_CheckEvening_2 x0 x2 f c17 = some r → SemN e_ref09_CheckEvening ⟨none, false⟩ (pc cb_ref09_CheckEvening [1, 1, 1, 0, 1, 0, 0]) f ⟨Fr 103 [(0, .v (.int .i64 x0)), (2, .sl 1 (x2.map (cdL 1 cdI).enc)), (8, .v (.int .i64 c17))], []⟩ (fun e s => match r with
  | (.inl w) => e = (.exit 2) ∧ Wk e_ref09_CheckEvening s ⟨Fr 103 [(0, .v (.int .i64 x0)), (2, .sl 1 (x2.map (cdL 1 cdI).enc))], []⟩
  | (.inr w) => e = .ret ∧ Wk e_ref09_CheckEvening s ⟨Fr 103 [(6, .v (.int .i64 w))], []⟩) := by
  intro f
  induction f with
  | zero => intro c17 r h; cases h
  | succ f ih0 =>
    intro c17 r h
    have ih := fun (c17 : Int) => ih0 c17 r
    unfold ref09_CheckEvening_2 at h
    refine SemN.succ ?_
    refine Sem.seq ?_
    refine Sem.seq ?_
    refine Sem.runS (s1 := ⟨Fr 103 [(0, .v (.int .i64 x0)), (2, .sl 1 (x2.map (cdL 1 cdI).enc)), (8, .v (.int .i64 c17)), (54, .v (.bool (decide (c17 < (x2.length : Int)))))], []⟩) ?_ ?_
    · refine RunS.segF (n := 103) e_ref09_CheckEvening_ok 2 [(0, .v (.int .i64 x0)), (2, .sl 1 (x2.map (cdL 1 cdI).enc)), (8, .v (.int .i64 c17)), (51, .v (.int .i64 c17)), (52, .sl 1 (x2.map (cdL 1 cdI).enc))] [] (by kernel_rfl) ?_
      refine RunS.one e_ref09_CheckEvening_ok 0 rfl (op_q (wantedA_none rfl) rfl (q_len (a := .sl 1 (x2.map (cdL 1 cdI).enc)) (by kernel_rfl) (len_sl (el := 29) (by kernel_rfl)))) ?_
      refine RunS.segF (n := 103) e_ref09_CheckEvening_ok 1 [(0, .v (.int .i64 x0)), (2, .sl 1 (x2.map (cdL 1 cdI).enc)), (8, .v (.int .i64 c17)), (54, .v (.bool (decide (c17 < (x2.length : Int)))))] [] (by kernel_rfl) ?_
      exact RunS.done rfl Wk.f1
    refine Sem.cond (b := (decide (c17 < (x2.length : Int)))) (by kernel_rfl) (fun hb18 => ?_) (fun hb18 => ?_)
    · rw [if_pos hb18] at h
      refine Sem.skip ?_
      refine Sem.seq ?_
      refine Sem.block ?_
      refine Sem.seq ?_
      refine Sem.runS (s1 := ⟨Fr 103 [(0, .v (.int .i64 x0)), (2, .sl 1 (x2.map (cdL 1 cdI).enc)), (8, .v (.int .i64 c17)), (9, .v (.int .i64 0))], []⟩) ?_ ?_
      · refine RunS.segF (n := 103) e_ref09_CheckEvening_ok 1 [(0, .v (.int .i64 x0)), (2, .sl 1 (x2.map (cdL 1 cdI).enc)), (8, .v (.int .i64 c17)), (9, .v (.int .i64 0))] [] (by kernel_rfl) ?_
        exact RunS.done rfl Wk.f1
      refine Sem.block ?_
      obtain ⟨r31, hr31, h⟩ := Option.bind_eq_some_iff.1 h
      refine Sem.loop (n := 100000) ?_
      rcases r31 with w32 | w33
      · try dsimp only at h
        refine Sem.cutN (SemN.wk (s1 := ⟨Fr 103 [(0, .v (.int .i64 x0)), (2, .sl 1 (x2.map (cdL 1 cdI).enc)), (8, .v (.int .i64 c17)), (9, .v (.int .i64 0))], []⟩) Wk.f1 (ref09_CheckEvening_3_ok x0 x2 c17 _ 0 _ hr31)) ?_
        refine Sem.runS (s1 := ⟨Fr 103 [(0, .v (.int .i64 x0)), (2, .sl 1 (x2.map (cdL 1 cdI).enc)), (8, .v (.int .i64 (wr .i64 (c17 + 1))))], []⟩) ?_ ?_
        · refine RunS.segF (n := 103) e_ref09_CheckEvening_ok 3 [(0, .v (.int .i64 x0)), (2, .sl 1 (x2.map (cdL 1 cdI).enc)), (8, .v (.int .i64 (wr .i64 (c17 + 1))))] [] (by kernel_rfl) ?_
          exact RunS.done rfl Wk.f1
        exact SemN.wk (s1 := ⟨Fr 103 [(0, .v (.int .i64 x0)), (2, .sl 1 (x2.map (cdL 1 cdI).enc)), (8, .v (.int .i64 (wr .i64 (c17 + 1))))], []⟩) Wk.f1 (ih (wr .i64 (c17 + 1)) h)
      · try dsimp only at h
        refine Sem.cutN (SemN.wk (s1 := ⟨Fr 103 [(0, .v (.int .i64 x0)), (2, .sl 1 (x2.map (cdL 1 cdI).enc)), (8, .v (.int .i64 c17)), (9, .v (.int .i64 0))], []⟩) Wk.f1 (ref09_CheckEvening_3_ok x0 x2 c17 _ 0 _ hr31)) ?_
        have hq := Option.some.inj h; subst hq
        exact ⟨rfl, Wk.f1⟩
    · rw [if_f hb18] at h
      refine Sem.exit ?_
      have hq := Option.some.inj h; subst hq
      exact ⟨rfl, Wk.f1⟩
set_option maxHeartbeats 4000000 in
set_option maxRecDepth 100000 in
theorem ref09_CheckEvening_4_ok (x0 : Int) (x2 : (List (List Int))) : ∀ (f : Nat) (c37 : Int) (r : (Unit) ⊕ (Int)), ref09_CheckEvening_4 x0 x2 f c37 = some r → SemN e_ref09_CheckEvening ⟨none, false⟩ (pc cb_ref09_CheckEvening [1, 1, 1, 1, 0, 1, 0, 0]) f ⟨Fr 103 [(0, .v (.int .i64 x0)), (2, .sl 1 (x2.map (cdL 1 cdI).enc)), (10, .v (.int .i64 c37))], []⟩ (fun e s => match r with
  | (.inl w) => e = (.exit 6) ∧ Wk e_ref09_CheckEvening s ⟨Fr 103 [(0, .v (.int .i64 x0)), (2, .sl 1 (x2.map (cdL 1 cdI).enc))], []⟩
  | (.inr w) => e = .ret ∧ Wk e_ref09_CheckEvening s ⟨Fr 103 [(6, .v (.int .i64 w))], []⟩) := by
  intro f
  induction f with
  | zero => intro c37 r h; cases h
  | succ f ih0 =>
    intro c37 r h
    have ih := fun (c37 : Int) => ih0 c37 r
    unfold ref09_CheckEvening_4 at h
    refine SemN.succ ?_
    refine Sem.seq ?_
    refine Sem.seq ?_
    refine Sem.runS (s1 := ⟨Fr 103 [(0, .v (.int .i64 x0)), (2, .sl 1 (x2.map (cdL 1 cdI).enc)), (10, .v (.int .i64 c37)), (87, .v (.bool (decide (c37 < x0))))], []⟩) ?_ ?_
    · refine RunS.segF (n := 103) e_ref09_CheckEvening_ok 3 [(0, .v (.int .i64 x0)), (2, .sl 1 (x2.map (cdL 1 cdI).enc)), (10, .v (.int .i64 c37)), (87, .v (.bool (decide (c37 < x0))))] [] (by kernel_rfl) ?_
      exact RunS.done rfl Wk.f1
    refine Sem.cond (b := (decide (c37 < x0))) (by kernel_rfl) (fun hb38 => ?_) (fun hb38 => ?_)
    · rw [if_pos hb38] at h
      refine Sem.skip ?_
      refine Sem.seq ?_
      refine Sem.block ?_
      refine Sem.seq ?_
      obtain ⟨v39, hv39, h⟩ := Option.bind_eq_some_iff.1 h
      refine Sem.runS (s1 := ⟨Fr 103 [(0, .v (.int .i64 x0)), (2, .sl 1 (x2.map (cdL 1 cdI).enc)), (10, .v (.int .i64 c37)), (93, .v (.bool (decide (v39 > 1))))], []⟩) ?_ ?_
      · refine RunS.segF (n := 103) e_ref09_CheckEvening_ok 2 [(0, .v (.int .i64 x0)), (2, .sl 1 (x2.map (cdL 1 cdI).enc)), (10, .v (.int .i64 c37)), (90, .sl 1 (x2.map (cdL 1 cdI).enc)), (91, .v (.int .i64 c37))] [] (by kernel_rfl) ?_
        refine RunS.call e_ref09_CheckEvening_ok (fid := 77) (s := cs_ref09_times) (F := fun a => ref09_times a.1 a.2.1) (er := er_ref09_times) (xs := [.sl 1 (x2.map (cdL 1 cdI).enc), .v (.int .i64 c37)]) (a := (x2, c37, ())) rfl (wantedA_none rfl) (by kernel_rfl) (by kernel_rfl) (by kernel_rfl) (by kernel_rfl) (Sns.cons (Sn.enc (c := (cdL 1 (cdL 1 cdI))) (v := x2)) (Sns.cons (Sn.enc (c := cdI) (v := c37)) Sns.nil)) (.inl (by kernel_rfl)) hv39 ?_
        refine RunS.segF (n := 103) e_ref09_CheckEvening_ok 1 [(0, .v (.int .i64 x0)), (2, .sl 1 (x2.map (cdL 1 cdI).enc)), (10, .v (.int .i64 c37)), (93, .v (.bool (decide (v39 > 1))))] [] (by kernel_rfl) ?_
        exact RunS.done rfl Wk.f1
      refine Sem.cond (b := (decide (v39 > 1))) (by kernel_rfl) (fun hb40 => ?_) (fun hb40 => ?_)
      · rw [if_pos hb40] at h
        refine Sem.seq ?_
        refine Sem.runS (s1 := ⟨Fr 103 [(6, .v (.int .i64 5))], []⟩) ?_ ?_
        · refine RunS.segF (n := 103) e_ref09_CheckEvening_ok 1 [(6, .v (.int .i64 5))] [] (by kernel_rfl) ?_
          exact RunS.done rfl Wk.f1
        refine Sem.ret ?_
        have hq := Option.some.inj h; subst hq
        exact ⟨rfl, Wk.f1⟩
      · rw [if_f hb40] at h
        refine Sem.skip ?_
        refine Sem.runS (s1 := ⟨Fr 103 [(0, .v (.int .i64 x0)), (2, .sl 1 (x2.map (cdL 1 cdI).enc)), (10, .v (.int .i64 (wr .i64 (c37 + 1))))], []⟩) ?_ ?_
        · refine RunS.segF (n := 103) e_ref09_CheckEvening_ok 3 [(0, .v (.int .i64 x0)), (2, .sl 1 (x2.map (cdL 1 cdI).enc)), (10, .v (.int .i64 (wr .i64 (c37 + 1))))] [] (by kernel_rfl) ?_
          exact RunS.done rfl Wk.f1
        exact SemN.wk (s1 := ⟨Fr 103 [(0, .v (.int .i64 x0)), (2, .sl 1 (x2.map (cdL 1 cdI).enc)), (10, .v (.int .i64 (wr .i64 (c37 + 1))))], []⟩) Wk.f1 (ih (wr .i64 (c37 + 1)) h)
    · rw [if_f hb38] at h
      refine Sem.exit ?_
      have hq := Option.some.inj h; subst hq
      exact ⟨rfl, Wk.f1⟩
set_option maxHeartbeats 4000000 in
set_option maxRecDepth 100000 in
theorem ref09_CheckEvening_5_ok (x0 : Int) (x2 : (List (List Int))) : ∀ (f : Nat) (c44 : Int) (r : (Unit) ⊕ (Int)), ref09_CheckEvening_5 x0 x2 f c44 = some r → SemN e_ref09_CheckEvening ⟨none, false⟩ (pc cb_ref09_CheckEvening [1, 1, 1, 1, 1, 0, 1, 0, 0]) f ⟨Fr 103 [(0, .v (.int .i64 x0)), (2, .sl 1 (x2.map (cdL 1 cdI).enc)), (11, .v (.int .i64 c44))], []⟩ (fun e s => match r with
  | (.inl w) => e = (.exit 8) ∧ Wk e_ref09_CheckEvening s ⟨Fr 103 [], []⟩
  | (.inr w) => e = .ret ∧ Wk e_ref09_CheckEvening s ⟨Fr 103 [(6, .v (.int .i64 w))], []⟩) := by
  intro f
  induction f with
  | zero => intro c44 r h; cases h
  | succ f ih0 =>
    intro c44 r h
    have ih := fun (c44 : Int) => ih0 c44 r
    unfold ref09_CheckEvening_5 at h
    refine SemN.succ ?_
    refine Sem.seq ?_
    refine Sem.seq ?_
    refine Sem.runS (s1 := ⟨Fr 103 [(0, .v (.int .i64 x0)), (2, .sl 1 (x2.map (cdL 1 cdI).enc)), (11, .v (.int .i64 c44)), (96, .v (.bool (decide (c44 < x0))))], []⟩) ?_ ?_
    · refine RunS.segF (n := 103) e_ref09_CheckEvening_ok 3 [(0, .v (.int .i64 x0)), (2, .sl 1 (x2.map (cdL 1 cdI).enc)), (11, .v (.int .i64 c44)), (96, .v (.bool (decide (c44 < x0))))] [] (by kernel_rfl) ?_
      exact RunS.done rfl Wk.f1
    refine Sem.cond (b := (decide (c44 < x0))) (by kernel_rfl) (fun hb45 => ?_) (fun hb45 => ?_)
    · rw [if_pos hb45] at h
      refine Sem.skip ?_
      refine Sem.seq ?_
      refine Sem.block ?_
      refine Sem.seq ?_
      obtain ⟨v46, hv46, h⟩ := Option.bind_eq_some_iff.1 h
      refine Sem.runS (s1 := ⟨Fr 103 [(0, .v (.int .i64 x0)), (2, .sl 1 (x2.map (cdL 1 cdI).enc)), (11, .v (.int .i64 c44)), (102, .v (.bool (v46 == 0)))], []⟩) ?_ ?_
      · refine RunS.segF (n := 103) e_ref09_CheckEvening_ok 2 [(0, .v (.int .i64 x0)), (2, .sl 1 (x2.map (cdL 1 cdI).enc)), (11, .v (.int .i64 c44)), (99, .sl 1 (x2.map (cdL 1 cdI).enc)), (100, .v (.int .i64 c44))] [] (by kernel_rfl) ?_
        refine RunS.call e_ref09_CheckEvening_ok (fid := 77) (s := cs_ref09_times) (F := fun a => ref09_times a.1 a.2.1) (er := er_ref09_times) (xs := [.sl 1 (x2.map (cdL 1 cdI).enc), .v (.int .i64 c44)]) (a := (x2, c44, ())) rfl (wantedA_none rfl) (by kernel_rfl) (by kernel_rfl) (by kernel_rfl) (by kernel_rfl) (Sns.cons (Sn.enc (c := (cdL 1 (cdL 1 cdI))) (v := x2)) (Sns.cons (Sn.enc (c := cdI) (v := c44)) Sns.nil)) (.inl (by kernel_rfl)) hv46 ?_
        refine RunS.segF (n := 103) e_ref09_CheckEvening_ok 1 [(0, .v (.int .i64 x0)), (2, .sl 1 (x2.map (cdL 1 cdI).enc)), (11, .v (.int .i64 c44)), (102, .v (.bool (v46 == 0)))] [] (by kernel_rfl) ?_
        exact RunS.done rfl Wk.f1
      refine Sem.cond (b := (v46 == 0)) (by kernel_rfl) (fun hb47 => ?_) (fun hb47 => ?_)
      · rw [if_pos hb47] at h
        refine Sem.seq ?_
        refine Sem.runS (s1 := ⟨Fr 103 [(6, .v (.int .i64 2))], []⟩) ?_ ?_
        · refine RunS.segF (n := 103) e_ref09_CheckEvening_ok 1 [(6, .v (.int .i64 2))] [] (by kernel_rfl) ?_
          exact RunS.done rfl Wk.f1
        refine Sem.ret ?_
        have hq := Option.some.inj h; subst hq
        exact ⟨rfl, Wk.f1⟩
      · rw [if_f hb47] at h
        refine Sem.skip ?_
        refine Sem.runS (s1 := ⟨Fr 103 [(0, .v (.int .i64 x0)), (2, .sl 1 (x2.map (cdL 1 cdI).enc)), (11, .v (.int .i64 (wr .i64 (c44 + 1))))], []⟩) ?_ ?_
        · refine RunS.segF (n := 103) e_ref09_CheckEvening_ok 3 [(0, .v (.int .i64 x0)), (2, .sl 1 (x2.map (cdL 1 cdI).enc)), (11, .v (.int .i64 (wr .i64 (c44 + 1))))] [] (by kernel_rfl) ?_
          exact RunS.done rfl Wk.f1
        exact SemN.wk (s1 := ⟨Fr 103 [(0, .v (.int .i64 x0)), (2, .sl 1 (x2.map (cdL 1 cdI).enc)), (11, .v (.int .i64 (wr .i64 (c44 + 1))))], []⟩) Wk.f1 (ih (wr .i64 (c44 + 1)) h)
    · rw [if_f hb45] at h
      refine Sem.exit ?_
      have hq := Option.some.inj h; subst hq
      exact ⟨rfl, Wk.f1⟩
set_option maxHeartbeats 4000000 in
set_option maxRecDepth 100000 in
theorem ref09_CheckEvening_sem (x0 : Int) (x1 : (List Int)) (x2 : (List (List Int))) (r : Int) (h : ref09_CheckEvening x0 x1 x2 = some r) : Sem e_ref09_CheckEvening ⟨none, false⟩ cb_ref09_CheckEvening ⟨Fr 103 (pairs0 0 (cs_ref09_CheckEvening.enc (x0, x1, x2, ()))), []⟩ fun e s' => (e = .normal ∨ e = .ret) ∧ ∃ xs, resA e_ref09_CheckEvening.P s'.fr s'.hp Tryd.f70.results.toList = some xs ∧ retA xs = er_ref09_CheckEvening r := by
  unfold ref09_CheckEvening at h
  refine Sem.wkQ (Sem.wk (s1 := ⟨Fr 103 [(0, .v (.int .i64 x0)), (1, .sl 1 (x1.map cdI.enc)), (2, .sl 1 (x2.map (cdL 1 cdI).enc))], []⟩) Wk.f1 ?_)
  refine Sem.seq ?_
  refine Sem.runS (s1 := ⟨Fr 103 [(0, .v (.int .i64 x0)), (1, .sl 1 (x1.map cdI.enc)), (2, .sl 1 (x2.map (cdL 1 cdI).enc))], []⟩) ?_ ?_
  · refine RunS.segF (n := 103) e_ref09_CheckEvening_ok 1 [(0, .v (.int .i64 x0)), (1, .sl 1 (x1.map cdI.enc)), (2, .sl 1 (x2.map (cdL 1 cdI).enc))] [] (by kernel_rfl) ?_
    exact RunS.done rfl Wk.f1
  refine Sem.seq ?_
  refine Sem.seq ?_
  obtain ⟨j2, hj2, h⟩ := Option.bind_eq_some_iff.1 h
  refine Sem.runS (s1 := ⟨Fr 103 [(0, .v (.int .i64 x0)), (1, .sl 1 (x1.map cdI.enc)), (2, .sl 1 (x2.map (cdL 1 cdI).enc)), (21, .v (.bool j2))], []⟩) ?_ ?_
  · refine RunS.segF (n := 103) e_ref09_CheckEvening_ok 1 [(0, .v (.int .i64 x0)), (1, .sl 1 (x1.map cdI.enc)), (2, .sl 1 (x2.map (cdL 1 cdI).enc)), (12, .sl 1 (x1.map cdI.enc))] [] (by kernel_rfl) ?_
    refine RunS.one e_ref09_CheckEvening_ok 0 rfl (op_q (wantedA_none rfl) rfl (q_len (a := .sl 1 (x1.map cdI.enc)) (by kernel_rfl) (len_sl (el := 3) (by kernel_rfl)))) ?_
    refine RunS.segF (n := 103) e_ref09_CheckEvening_ok 2 [(0, .v (.int .i64 x0)), (1, .sl 1 (x1.map cdI.enc)), (2, .sl 1 (x2.map (cdL 1 cdI).enc)), (15, .v (.bool (decide ((x1.length : Int) > 0))))] [] (by kernel_rfl) ?_
    rcases Bool.eq_false_or_eq_true (decide ((x1.length : Int) > 0)) with hc55 | hc55
    · rw [if_pos hc55] at hj2
      rw [hc55]
      refine RunS.segF (n := 103) e_ref09_CheckEvening_ok 1 [(0, .v (.int .i64 x0)), (1, .sl 1 (x1.map cdI.enc)), (2, .sl 1 (x2.map (cdL 1 cdI).enc)), (15, .v (.bool true)), (16, .sl 1 (x1.map cdI.enc))] [] (by kernel_rfl) ?_
      refine RunS.one e_ref09_CheckEvening_ok 0 rfl (op_q (by kernel_rfl) rfl (q_len (a := .sl 1 (x1.map cdI.enc)) (by kernel_rfl) (len_sl (el := 3) (by kernel_rfl)))) ?_
      refine RunS.segF (n := 103) e_ref09_CheckEvening_ok 1 [(0, .v (.int .i64 x0)), (1, .sl 1 (x1.map cdI.enc)), (2, .sl 1 (x2.map (cdL 1 cdI).enc)), (15, .v (.bool true)), (17, .v (.int .i64 (x1.length : Int))), (18, .sl 1 (x2.map (cdL 1 cdI).enc))] [] (by kernel_rfl) ?_
      refine RunS.one e_ref09_CheckEvening_ok 0 rfl (op_q (by kernel_rfl) rfl (q_len (a := .sl 1 (x2.map (cdL 1 cdI).enc)) (by kernel_rfl) (len_sl (el := 29) (by kernel_rfl)))) ?_
      refine RunS.segF (n := 103) e_ref09_CheckEvening_ok 2 [(0, .v (.int .i64 x0)), (1, .sl 1 (x1.map cdI.enc)), (2, .sl 1 (x2.map (cdL 1 cdI).enc)), (21, .v (.bool ((x1.length : Int) != (x2.length : Int))))] [] (by kernel_rfl) ?_
      have hq := Option.some.inj hj2; subst hq
      exact RunS.done rfl Wk.f1
    · rw [if_f hc55] at hj2
      rw [hc55]
      refine RunS.segF (n := 103) e_ref09_CheckEvening_ok 6 [(0, .v (.int .i64 x0)), (1, .sl 1 (x1.map cdI.enc)), (2, .sl 1 (x2.map (cdL 1 cdI).enc)), (21, .v (.bool false))] [] (by kernel_rfl) ?_
      have hq := Option.some.inj hj2; subst hq
      exact RunS.done rfl Wk.f1
  refine Sem.cond (b := j2) (by kernel_rfl) (fun hb3 => ?_) (fun hb3 => ?_)
  · rw [if_pos hb3] at h
    refine Sem.seq ?_
    refine Sem.runS (s1 := ⟨Fr 103 [(6, .v (.int .i64 2))], []⟩) ?_ ?_
    · refine RunS.segF (n := 103) e_ref09_CheckEvening_ok 1 [(6, .v (.int .i64 2))] [] (by kernel_rfl) ?_
      exact RunS.done rfl Wk.f1
    refine Sem.ret ?_
    have hq := Option.some.inj h; subst hq
    exact ⟨⟨Fr 103 [(6, .v (.int .i64 2))], []⟩, Wk.f1, .inr rfl, [.v (.int .i64 2)], (by kernel_rfl), (by kernel_rfl)⟩
  · rw [if_f hb3] at h
    refine Sem.skip ?_
    refine Sem.seq ?_
    refine Sem.seq ?_
    refine Sem.runS (s1 := ⟨Fr 103 [(0, .v (.int .i64 x0)), (1, .sl 1 (x1.map cdI.enc)), (2, .sl 1 (x2.map (cdL 1 cdI).enc)), (7, .v (.int .i64 0))], []⟩) ?_ ?_
    · refine RunS.segF (n := 103) e_ref09_CheckEvening_ok 1 [(0, .v (.int .i64 x0)), (1, .sl 1 (x1.map cdI.enc)), (2, .sl 1 (x2.map (cdL 1 cdI).enc)), (7, .v (.int .i64 0))] [] (by kernel_rfl) ?_
      exact RunS.done rfl Wk.f1
    refine Sem.block ?_
    obtain ⟨r15, hr15, h⟩ := Option.bind_eq_some_iff.1 h
    refine Sem.loop (n := 100000) ?_
    rcases r15 with w16 | w54
    · try dsimp only at h
      refine Sem.cutN (SemN.wk (s1 := ⟨Fr 103 [(0, .v (.int .i64 x0)), (1, .sl 1 (x1.map cdI.enc)), (2, .sl 1 (x2.map (cdL 1 cdI).enc)), (7, .v (.int .i64 0))], []⟩) Wk.f1 (ref09_CheckEvening_1_ok x0 x1 x2 _ 0 _ hr15)) ?_
      refine Sem.seq ?_
      refine Sem.seq ?_
      refine Sem.runS (s1 := ⟨Fr 103 [(0, .v (.int .i64 x0)), (2, .sl 1 (x2.map (cdL 1 cdI).enc)), (8, .v (.int .i64 0))], []⟩) ?_ ?_
      · refine RunS.segF (n := 103) e_ref09_CheckEvening_ok 1 [(0, .v (.int .i64 x0)), (2, .sl 1 (x2.map (cdL 1 cdI).enc)), (8, .v (.int .i64 0))] [] (by kernel_rfl) ?_
        exact RunS.done rfl Wk.f1
      refine Sem.block ?_
      obtain ⟨r35, hr35, h⟩ := Option.bind_eq_some_iff.1 h
      refine Sem.loop (n := 100000) ?_
      rcases r35 with w36 | w53
      · try dsimp only at h
        refine Sem.cutN (SemN.wk (s1 := ⟨Fr 103 [(0, .v (.int .i64 x0)), (2, .sl 1 (x2.map (cdL 1 cdI).enc)), (8, .v (.int .i64 0))], []⟩) Wk.f1 (ref09_CheckEvening_2_ok x0 x2 _ 0 _ hr35)) ?_
        refine Sem.seq ?_
        refine Sem.seq ?_
        refine Sem.runS (s1 := ⟨Fr 103 [(0, .v (.int .i64 x0)), (2, .sl 1 (x2.map (cdL 1 cdI).enc)), (10, .v (.int .i64 0))], []⟩) ?_ ?_
        · refine RunS.segF (n := 103) e_ref09_CheckEvening_ok 1 [(0, .v (.int .i64 x0)), (2, .sl 1 (x2.map (cdL 1 cdI).enc)), (10, .v (.int .i64 0))] [] (by kernel_rfl) ?_
          exact RunS.done rfl Wk.f1
        refine Sem.block ?_
        obtain ⟨r42, hr42, h⟩ := Option.bind_eq_some_iff.1 h
        refine Sem.loop (n := 100000) ?_
        rcases r42 with w43 | w52
        · try dsimp only at h
          refine Sem.cutN (SemN.wk (s1 := ⟨Fr 103 [(0, .v (.int .i64 x0)), (2, .sl 1 (x2.map (cdL 1 cdI).enc)), (10, .v (.int .i64 0))], []⟩) Wk.f1 (ref09_CheckEvening_4_ok x0 x2 _ 0 _ hr42)) ?_
          refine Sem.seq ?_
          refine Sem.seq ?_
          refine Sem.runS (s1 := ⟨Fr 103 [(0, .v (.int .i64 x0)), (2, .sl 1 (x2.map (cdL 1 cdI).enc)), (11, .v (.int .i64 0))], []⟩) ?_ ?_
          · refine RunS.segF (n := 103) e_ref09_CheckEvening_ok 1 [(0, .v (.int .i64 x0)), (2, .sl 1 (x2.map (cdL 1 cdI).enc)), (11, .v (.int .i64 0))] [] (by kernel_rfl) ?_
            exact RunS.done rfl Wk.f1
          refine Sem.block ?_
          obtain ⟨r49, hr49, h⟩ := Option.bind_eq_some_iff.1 h
          refine Sem.loop (n := 100000) ?_
          rcases r49 with w50 | w51
          · try dsimp only at h
            refine Sem.cutN (SemN.wk (s1 := ⟨Fr 103 [(0, .v (.int .i64 x0)), (2, .sl 1 (x2.map (cdL 1 cdI).enc)), (11, .v (.int .i64 0))], []⟩) Wk.f1 (ref09_CheckEvening_5_ok x0 x2 _ 0 _ hr49)) ?_
            refine Sem.seq ?_
            refine Sem.runS (s1 := ⟨Fr 103 [(6, .v (.int .i64 0))], []⟩) ?_ ?_
            · refine RunS.segF (n := 103) e_ref09_CheckEvening_ok 1 [(6, .v (.int .i64 0))] [] (by kernel_rfl) ?_
              exact RunS.done rfl Wk.f1
            refine Sem.ret ?_
            have hq := Option.some.inj h; subst hq
            exact ⟨⟨Fr 103 [(6, .v (.int .i64 0))], []⟩, Wk.f1, .inr rfl, [.v (.int .i64 0)], (by kernel_rfl), (by kernel_rfl)⟩
          · try dsimp only at h
            refine Sem.cutN (SemN.wk (s1 := ⟨Fr 103 [(0, .v (.int .i64 x0)), (2, .sl 1 (x2.map (cdL 1 cdI).enc)), (11, .v (.int .i64 0))], []⟩) Wk.f1 (ref09_CheckEvening_5_ok x0 x2 _ 0 _ hr49)) ?_
            have hq := Option.some.inj h; subst hq
            exact ⟨⟨Fr 103 [(6, .v (.int .i64 w51))], []⟩, Wk.f1, .inr rfl, [.v (.int .i64 w51)], (by kernel_rfl), (by kernel_rfl)⟩
        · try dsimp only at h
          refine Sem.cutN (SemN.wk (s1 := ⟨Fr 103 [(0, .v (.int .i64 x0)), (2, .sl 1 (x2.map (cdL 1 cdI).enc)), (10, .v (.int .i64 0))], []⟩) Wk.f1 (ref09_CheckEvening_4_ok x0 x2 _ 0 _ hr42)) ?_
          have hq := Option.some.inj h; subst hq
          exact ⟨⟨Fr 103 [(6, .v (.int .i64 w52))], []⟩, Wk.f1, .inr rfl, [.v (.int .i64 w52)], (by kernel_rfl), (by kernel_rfl)⟩
      · try dsimp only at h
        refine Sem.cutN (SemN.wk (s1 := ⟨Fr 103 [(0, .v (.int .i64 x0)), (2, .sl 1 (x2.map (cdL 1 cdI).enc)), (8, .v (.int .i64 0))], []⟩) Wk.f1 (ref09_CheckEvening_2_ok x0 x2 _ 0 _ hr35)) ?_
        have hq := Option.some.inj h; subst hq
        exact ⟨⟨Fr 103 [(6, .v (.int .i64 w53))], []⟩, Wk.f1, .inr rfl, [.v (.int .i64 w53)], (by kernel_rfl), (by kernel_rfl)⟩
    · try dsimp only at h
      refine Sem.cutN (SemN.wk (s1 := ⟨Fr 103 [(0, .v (.int .i64 x0)), (1, .sl 1 (x1.map cdI.enc)), (2, .sl 1 (x2.map (cdL 1 cdI).enc)), (7, .v (.int .i64 0))], []⟩) Wk.f1 (ref09_CheckEvening_1_ok x0 x1 x2 _ 0 _ hr15)) ?_
      have hq := Option.some.inj h; subst hq
      exact ⟨⟨Fr 103 [(6, .v (.int .i64 w54))], []⟩, Wk.f1, .inr rfl, [.v (.int .i64 w54)], (by kernel_rfl), (by kernel_rfl)⟩
def t_ref09_CheckEvening : List AV → Option AV := told cs_ref09_CheckEvening (fun a => ref09_CheckEvening a.1 a.2.1 a.2.2.1) er_ref09_CheckEvening
theorem x_ref09_CheckEvening : XOk 70 t_ref09_CheckEvening := by
  refine EnvOk.x (E := e_ref09_CheckEvening) (contract_ok e_ref09_CheckEvening_ok (fn := Tryd.f70) (c := cb_ref09_CheckEvening) ?h1 ?h2 ⟨Tryd.call70⟩ cs_ref09_CheckEvening (fun a => ref09_CheckEvening a.1 a.2.1 a.2.2.1) er_ref09_CheckEvening (fun a => (by show 3 ≤ 103; decide)) ?h3 ?h4) rfl rfl
  case h1 => kernel_rfl
  case h2 => kernel_rfl
  case h3 => intro b; kernel_rfl
  case h4 => exact fun a b h => ref09_CheckEvening_sem a.1 a.2.1 a.2.2.1 b h
/- trestle/trestleref09.Check -/
noncomputable def e_ref09_Check : Env := ((E0.withX 69 t_ref09_Fit).withX 70 t_ref09_CheckEvening)
theorem e_ref09_Check_ok : EnvOk e_ref09_Check := (EnvOk.withX (EnvOk.withX E0_ok x_ref09_Fit.1 x_ref09_Fit.2) x_ref09_CheckEvening.1 x_ref09_CheckEvening.2)
noncomputable def cb_ref09_Check : Code := codeOf Tryd.f51
def ref09_Check_1 (x0 : Int) (x1 : (List Int)) (x2 : (List (List (List Int)))) : Nat → Int → Option ((Unit) ⊕ (Int × Int))
  | 0, _ => none
  | f + 1, c6 =>
    if (decide (c6 < (x2.length : Int))) = true then
    (idx x2 c6).bind fun v8 =>
    (ref09_CheckEvening x0 x1 v8).bind fun v9 =>
    if (v9 != 0) = true then
    some (.inr (c6, v9))
    else
    ref09_Check_1 x0 x1 x2 f (wr .i64 (c6 + 1))
    else
    some (.inl ())
def ref09_Check (x0 : Int) (x1 : (List Int)) (x2 : (List (List (List Int)))) : Option (Int × Int) :=
  (if (decide (x0 < 1)) = true then some true else if (decide (x0 > 64)) = true then some true else if (decide ((x1.length : Int) > 0)) = true then (ref09_Fit x0 x1).bind fun v1 =>
  some (!v1) else some false).bind fun j3 =>
  if j3 = true then
  some (0, 90)
  else
  if (decide ((x2.length : Int) > 64)) = true then
  some (0, 7)
  else
  (ref09_Check_1 x0 x1 x2 100000 0).bind fun r13 =>
  match r13 with
  | (.inl w14) =>
    some (0, 0)
  | (.inr w15) =>
    some (w15.1, w15.2)
def cs_ref09_Check : Cs (Int × (List Int) × (List (List (List Int))) × Unit) := (csC cdI (csC (cdL 1 cdI) (csC (cdL 1 (cdL 1 (cdL 1 cdI))) csN)))
def er_ref09_Check (r : Int × Int) : AV := .tp [cdI.enc r.1, cdI.enc r.2]
set_option maxHeartbeats 4000000 in
set_option maxRecDepth 100000 in
theorem ref09_Check_1_ok (x0 : Int) (x1 : (List Int)) (x2 : (List (List (List Int)))) : ∀ (f : Nat) (c6 : Int) (r : (Unit) ⊕ (Int × Int)), ref09_Check_1 x0 x1 x2 f c6 = some r → SemN e_ref09_Check ⟨none, false⟩ (pc cb_ref09_Check [1, 1, 1, 0, 1, 0, 0]) f ⟨Fr 47 [(0, .v (.int .i64 x0)), (1, .sl 1 (x1.map cdI.enc)), (2, .sl 1 (x2.map (cdL 1 (cdL 1 cdI)).enc)), (8, .v (.int .i64 c6))], []⟩ (fun e s => match r with
  | (.inl w) => e = (.exit 0) ∧ Wk e_ref09_Check s ⟨Fr 47 [], []⟩
  | (.inr w) => e = .ret ∧ Wk e_ref09_Check s ⟨Fr 47 [(6, .v (.int .i64 w.1)), (7, .v (.int .i64 w.2))], []⟩) := by
  intro f
  induction f with
  | zero => intro c6 r h; cases h
  | succ f ih0 =>
    intro c6 r h
    have ih := fun (c6 : Int) => ih0 c6 r
    unfold ref09_Check_1 at h
    refine SemN.succ ?_
    refine Sem.seq ?_
    refine Sem.seq ?_
    refine Sem.runS (s1 := ⟨Fr 47 [(0, .v (.int .i64 x0)), (1, .sl 1 (x1.map cdI.enc)), (2, .sl 1 (x2.map (cdL 1 (cdL 1 cdI)).enc)), (8, .v (.int .i64 c6)), (33, .v (.bool (decide (c6 < (x2.length : Int)))))], []⟩) ?_ ?_
    · refine RunS.segF (n := 47) e_ref09_Check_ok 2 [(0, .v (.int .i64 x0)), (1, .sl 1 (x1.map cdI.enc)), (2, .sl 1 (x2.map (cdL 1 (cdL 1 cdI)).enc)), (8, .v (.int .i64 c6)), (30, .v (.int .i64 c6)), (31, .sl 1 (x2.map (cdL 1 (cdL 1 cdI)).enc))] [] (by kernel_rfl) ?_
      refine RunS.one e_ref09_Check_ok 0 rfl (op_q (wantedA_none rfl) rfl (q_len (a := .sl 1 (x2.map (cdL 1 (cdL 1 cdI)).enc)) (by kernel_rfl) (len_sl (el := 36) (by kernel_rfl)))) ?_
      refine RunS.segF (n := 47) e_ref09_Check_ok 1 [(0, .v (.int .i64 x0)), (1, .sl 1 (x1.map cdI.enc)), (2, .sl 1 (x2.map (cdL 1 (cdL 1 cdI)).enc)), (8, .v (.int .i64 c6)), (33, .v (.bool (decide (c6 < (x2.length : Int)))))] [] (by kernel_rfl) ?_
      exact RunS.done rfl Wk.f1
    refine Sem.cond (b := (decide (c6 < (x2.length : Int)))) (by kernel_rfl) (fun hb7 => ?_) (fun hb7 => ?_)
    · rw [if_pos hb7] at h
      refine Sem.skip ?_
      refine Sem.seq ?_
      refine Sem.block ?_
      refine Sem.seq ?_
      obtain ⟨v8, hv8, h⟩ := Option.bind_eq_some_iff.1 h
      obtain ⟨v9, hv9, h⟩ := Option.bind_eq_some_iff.1 h
      refine Sem.runS (s1 := ⟨Fr 47 [(0, .v (.int .i64 x0)), (1, .sl 1 (x1.map cdI.enc)), (2, .sl 1 (x2.map (cdL 1 (cdL 1 cdI)).enc)), (8, .v (.int .i64 c6)), (9, .v (.int .i64 v9))], []⟩) ?_ ?_
      · refine RunS.segF (n := 47) e_ref09_Check_ok 4 [(0, .v (.int .i64 x0)), (1, .sl 1 (x1.map cdI.enc)), (2, .sl 1 (x2.map (cdL 1 (cdL 1 cdI)).enc)), (8, .v (.int .i64 c6)), (36, .v (.int .i64 x0)), (37, .sl 1 (x1.map cdI.enc)), (38, .sl 1 (x2.map (cdL 1 (cdL 1 cdI)).enc)), (39, .v (.int .i64 c6))] [] (by kernel_rfl) ?_
        refine RunS.one e_ref09_Check_ok 0 rfl (op_q (wantedA_none rfl) rfl (q_indexAddr (a := .sl 1 (x2.map (cdL 1 (cdL 1 cdI)).enc)) (b := .v (.int .i64 c6)) (by kernel_rfl) (by kernel_rfl) (ix_sl (e := (cdL 1 (cdL 1 cdI)).enc) (el := 36) (k := 1) (ki := .i64) (by kernel_rfl) (by kernel_rfl) hv8))) ?_
        refine RunS.segF (n := 47) e_ref09_Check_ok 1 [(0, .v (.int .i64 x0)), (1, .sl 1 (x1.map cdI.enc)), (2, .sl 1 (x2.map (cdL 1 (cdL 1 cdI)).enc)), (8, .v (.int .i64 c6)), (36, .v (.int .i64 x0)), (37, .sl 1 (x1.map cdI.enc)), (41, .sl 1 (v8.map (cdL 1 cdI).enc))] [] (by kernel_rfl) ?_
        refine RunS.call e_ref09_Check_ok (fid := 70) (s := cs_ref09_CheckEvening) (F := fun a => ref09_CheckEvening a.1 a.2.1 a.2.2.1) (er := er_ref09_CheckEvening) (xs := [.v (.int .i64 x0), .sl 1 (x1.map cdI.enc), .sl 1 (v8.map (cdL 1 cdI).enc)]) (a := (x0, x1, v8, ())) rfl (wantedA_none rfl) (by kernel_rfl) (by kernel_rfl) (by kernel_rfl) (by kernel_rfl) (Sns.cons (Sn.enc (c := cdI) (v := x0)) (Sns.cons (Sn.enc (c := (cdL 1 cdI)) (v := x1)) (Sns.cons (Sn.enc (c := (cdL 1 (cdL 1 cdI))) (v := v8)) Sns.nil))) (.inl (by kernel_rfl)) hv9 ?_
        refine RunS.segF (n := 47) e_ref09_Check_ok 1 [(0, .v (.int .i64 x0)), (1, .sl 1 (x1.map cdI.enc)), (2, .sl 1 (x2.map (cdL 1 (cdL 1 cdI)).enc)), (8, .v (.int .i64 c6)), (9, .v (.int .i64 v9))] [] (by kernel_rfl) ?_
        exact RunS.done rfl Wk.f1
      refine Sem.seq ?_
      refine Sem.runS (s1 := ⟨Fr 47 [(0, .v (.int .i64 x0)), (1, .sl 1 (x1.map cdI.enc)), (2, .sl 1 (x2.map (cdL 1 (cdL 1 cdI)).enc)), (8, .v (.int .i64 c6)), (9, .v (.int .i64 v9)), (44, .v (.bool (v9 != 0)))], []⟩) ?_ ?_
      · refine RunS.segF (n := 47) e_ref09_Check_ok 2 [(0, .v (.int .i64 x0)), (1, .sl 1 (x1.map cdI.enc)), (2, .sl 1 (x2.map (cdL 1 (cdL 1 cdI)).enc)), (8, .v (.int .i64 c6)), (9, .v (.int .i64 v9)), (44, .v (.bool (v9 != 0)))] [] (by kernel_rfl) ?_
        exact RunS.done rfl Wk.f1
      refine Sem.cond (b := (v9 != 0)) (by kernel_rfl) (fun hb10 => ?_) (fun hb10 => ?_)
      · rw [if_pos hb10] at h
        refine Sem.seq ?_
        refine Sem.runS (s1 := ⟨Fr 47 [(6, .v (.int .i64 c6)), (7, .v (.int .i64 v9))], []⟩) ?_ ?_
        · refine RunS.segF (n := 47) e_ref09_Check_ok 4 [(6, .v (.int .i64 c6)), (7, .v (.int .i64 v9))] [] (by kernel_rfl) ?_
          exact RunS.done rfl Wk.f1
        refine Sem.ret ?_
        have hq := Option.some.inj h; subst hq
        exact ⟨rfl, Wk.f1⟩
      · rw [if_f hb10] at h
        refine Sem.skip ?_
        refine Sem.runS (s1 := ⟨Fr 47 [(0, .v (.int .i64 x0)), (1, .sl 1 (x1.map cdI.enc)), (2, .sl 1 (x2.map (cdL 1 (cdL 1 cdI)).enc)), (8, .v (.int .i64 (wr .i64 (c6 + 1))))], []⟩) ?_ ?_
        · refine RunS.segF (n := 47) e_ref09_Check_ok 3 [(0, .v (.int .i64 x0)), (1, .sl 1 (x1.map cdI.enc)), (2, .sl 1 (x2.map (cdL 1 (cdL 1 cdI)).enc)), (8, .v (.int .i64 (wr .i64 (c6 + 1))))] [] (by kernel_rfl) ?_
          exact RunS.done rfl Wk.f1
        exact SemN.wk (s1 := ⟨Fr 47 [(0, .v (.int .i64 x0)), (1, .sl 1 (x1.map cdI.enc)), (2, .sl 1 (x2.map (cdL 1 (cdL 1 cdI)).enc)), (8, .v (.int .i64 (wr .i64 (c6 + 1))))], []⟩) Wk.f1 (ih (wr .i64 (c6 + 1)) h)
    · rw [if_f hb7] at h
      refine Sem.exit ?_
      have hq := Option.some.inj h; subst hq
      exact ⟨rfl, Wk.f1⟩
set_option maxHeartbeats 4000000 in
set_option maxRecDepth 100000 in
theorem ref09_Check_sem (x0 : Int) (x1 : (List Int)) (x2 : (List (List (List Int)))) (r : Int × Int) (h : ref09_Check x0 x1 x2 = some r) : Sem e_ref09_Check ⟨none, false⟩ cb_ref09_Check ⟨Fr 47 (pairs0 0 (cs_ref09_Check.enc (x0, x1, x2, ()))), []⟩ fun e s' => (e = .normal ∨ e = .ret) ∧ ∃ xs, resA e_ref09_Check.P s'.fr s'.hp Tryd.f51.results.toList = some xs ∧ retA xs = er_ref09_Check r := by
  unfold ref09_Check at h
  refine Sem.wkQ (Sem.wk (s1 := ⟨Fr 47 [(0, .v (.int .i64 x0)), (1, .sl 1 (x1.map cdI.enc)), (2, .sl 1 (x2.map (cdL 1 (cdL 1 cdI)).enc))], []⟩) Wk.f1 ?_)
  refine Sem.seq ?_
  refine Sem.runS (s1 := ⟨Fr 47 [(0, .v (.int .i64 x0)), (1, .sl 1 (x1.map cdI.enc)), (2, .sl 1 (x2.map (cdL 1 (cdL 1 cdI)).enc))], []⟩) ?_ ?_
  · refine RunS.segF (n := 47) e_ref09_Check_ok 2 [(0, .v (.int .i64 x0)), (1, .sl 1 (x1.map cdI.enc)), (2, .sl 1 (x2.map (cdL 1 (cdL 1 cdI)).enc))] [] (by kernel_rfl) ?_
    exact RunS.done rfl Wk.f1
  refine Sem.seq ?_
  refine Sem.seq ?_
  obtain ⟨j3, hj3, h⟩ := Option.bind_eq_some_iff.1 h
  refine Sem.runS (s1 := ⟨Fr 47 [(0, .v (.int .i64 x0)), (1, .sl 1 (x1.map cdI.enc)), (2, .sl 1 (x2.map (cdL 1 (cdL 1 cdI)).enc)), (26, .v (.bool j3))], []⟩) ?_ ?_
  · refine RunS.segF (n := 47) e_ref09_Check_ok 3 [(0, .v (.int .i64 x0)), (1, .sl 1 (x1.map cdI.enc)), (2, .sl 1 (x2.map (cdL 1 (cdL 1 cdI)).enc)), (12, .v (.bool (decide (x0 < 1))))] [] (by kernel_rfl) ?_
    rcases Bool.eq_false_or_eq_true (decide (x0 < 1)) with hc16 | hc16
    · rw [if_pos hc16] at hj3
      rw [hc16]
      refine RunS.segF (n := 47) e_ref09_Check_ok 14 [(0, .v (.int .i64 x0)), (1, .sl 1 (x1.map cdI.enc)), (2, .sl 1 (x2.map (cdL 1 (cdL 1 cdI)).enc)), (26, .v (.bool true))] [] (by kernel_rfl) ?_
      have hq := Option.some.inj hj3; subst hq
      exact RunS.done rfl Wk.f1
    · rw [if_f hc16] at hj3
      rw [hc16]
      refine RunS.segF (n := 47) e_ref09_Check_ok 4 [(0, .v (.int .i64 x0)), (1, .sl 1 (x1.map cdI.enc)), (2, .sl 1 (x2.map (cdL 1 (cdL 1 cdI)).enc)), (16, .v (.bool (decide (x0 > 64))))] [] (by kernel_rfl) ?_
      rcases Bool.eq_false_or_eq_true (decide (x0 > 64)) with hc17 | hc17
      · rw [if_pos hc17] at hj3
        rw [hc17]
        refine RunS.segF (n := 47) e_ref09_Check_ok 10 [(0, .v (.int .i64 x0)), (1, .sl 1 (x1.map cdI.enc)), (2, .sl 1 (x2.map (cdL 1 (cdL 1 cdI)).enc)), (26, .v (.bool true))] [] (by kernel_rfl) ?_
        have hq := Option.some.inj hj3; subst hq
        exact RunS.done rfl Wk.f1
      · rw [if_f hc17] at hj3
        rw [hc17]
        refine RunS.segF (n := 47) e_ref09_Check_ok 1 [(0, .v (.int .i64 x0)), (1, .sl 1 (x1.map cdI.enc)), (2, .sl 1 (x2.map (cdL 1 (cdL 1 cdI)).enc)), (16, .v (.bool false)), (17, .sl 1 (x1.map cdI.enc))] [] (by kernel_rfl) ?_
        refine RunS.one e_ref09_Check_ok 0 rfl (op_q (by kernel_rfl) rfl (q_len (a := .sl 1 (x1.map cdI.enc)) (by kernel_rfl) (len_sl (el := 3) (by kernel_rfl)))) ?_
        refine RunS.segF (n := 47) e_ref09_Check_ok 2 [(0, .v (.int .i64 x0)), (1, .sl 1 (x1.map cdI.enc)), (2, .sl 1 (x2.map (cdL 1 (cdL 1 cdI)).enc)), (16, .v (.bool false)), (20, .v (.bool (decide ((x1.length : Int) > 0))))] [] (by kernel_rfl) ?_
        rcases Bool.eq_false_or_eq_true (decide ((x1.length : Int) > 0)) with hc18 | hc18
        · rw [if_pos hc18] at hj3
          rw [hc18]
          refine RunS.segF (n := 47) e_ref09_Check_ok 2 [(0, .v (.int .i64 x0)), (1, .sl 1 (x1.map cdI.enc)), (2, .sl 1 (x2.map (cdL 1 (cdL 1 cdI)).enc)), (16, .v (.bool false)), (20, .v (.bool true)), (21, .v (.int .i64 x0)), (22, .sl 1 (x1.map cdI.enc))] [] (by kernel_rfl) ?_
          obtain ⟨v1, hv1, hj3⟩ := Option.bind_eq_some_iff.1 hj3
          refine RunS.call e_ref09_Check_ok (fid := 69) (s := cs_ref09_Fit) (F := fun a => ref09_Fit a.1 a.2.1) (er := er_ref09_Fit) (xs := [.v (.int .i64 x0), .sl 1 (x1.map cdI.enc)]) (a := (x0, x1, ())) rfl (by kernel_rfl) (by kernel_rfl) (by kernel_rfl) (by kernel_rfl) (by kernel_rfl) (Sns.cons (Sn.enc (c := cdI) (v := x0)) (Sns.cons (Sn.enc (c := (cdL 1 cdI)) (v := x1)) Sns.nil)) (.inl (by kernel_rfl)) hv1 ?_
          refine RunS.segF (n := 47) e_ref09_Check_ok 3 [(0, .v (.int .i64 x0)), (1, .sl 1 (x1.map cdI.enc)), (2, .sl 1 (x2.map (cdL 1 (cdL 1 cdI)).enc)), (26, .v (.bool (!v1)))] [] (by kernel_rfl) ?_
          have hq := Option.some.inj hj3; subst hq
          exact RunS.done rfl Wk.f1
        · rw [if_f hc18] at hj3
          rw [hc18]
          refine RunS.segF (n := 47) e_ref09_Check_ok 6 [(0, .v (.int .i64 x0)), (1, .sl 1 (x1.map cdI.enc)), (2, .sl 1 (x2.map (cdL 1 (cdL 1 cdI)).enc)), (26, .v (.bool false))] [] (by kernel_rfl) ?_
          have hq := Option.some.inj hj3; subst hq
          exact RunS.done rfl Wk.f1
  refine Sem.cond (b := j3) (by kernel_rfl) (fun hb4 => ?_) (fun hb4 => ?_)
  · rw [if_pos hb4] at h
    refine Sem.seq ?_
    refine Sem.runS (s1 := ⟨Fr 47 [(6, .v (.int .i64 0)), (7, .v (.int .i64 90))], []⟩) ?_ ?_
    · refine RunS.segF (n := 47) e_ref09_Check_ok 2 [(6, .v (.int .i64 0)), (7, .v (.int .i64 90))] [] (by kernel_rfl) ?_
      exact RunS.done rfl Wk.f1
    refine Sem.ret ?_
    have hq := Option.some.inj h; subst hq
    exact ⟨⟨Fr 47 [(6, .v (.int .i64 0)), (7, .v (.int .i64 90))], []⟩, Wk.f1, .inr rfl, [.v (.int .i64 0), .v (.int .i64 90)], (by kernel_rfl), (by kernel_rfl)⟩
  · rw [if_f hb4] at h
    refine Sem.skip ?_
    refine Sem.seq ?_
    refine Sem.seq ?_
    refine Sem.runS (s1 := ⟨Fr 47 [(0, .v (.int .i64 x0)), (1, .sl 1 (x1.map cdI.enc)), (2, .sl 1 (x2.map (cdL 1 (cdL 1 cdI)).enc)), (29, .v (.bool (decide ((x2.length : Int) > 64))))], []⟩) ?_ ?_
    · refine RunS.segF (n := 47) e_ref09_Check_ok 1 [(0, .v (.int .i64 x0)), (1, .sl 1 (x1.map cdI.enc)), (2, .sl 1 (x2.map (cdL 1 (cdL 1 cdI)).enc)), (27, .sl 1 (x2.map (cdL 1 (cdL 1 cdI)).enc))] [] (by kernel_rfl) ?_
      refine RunS.one e_ref09_Check_ok 0 rfl (op_q (wantedA_none rfl) rfl (q_len (a := .sl 1 (x2.map (cdL 1 (cdL 1 cdI)).enc)) (by kernel_rfl) (len_sl (el := 36) (by kernel_rfl)))) ?_
      refine RunS.segF (n := 47) e_ref09_Check_ok 1 [(0, .v (.int .i64 x0)), (1, .sl 1 (x1.map cdI.enc)), (2, .sl 1 (x2.map (cdL 1 (cdL 1 cdI)).enc)), (29, .v (.bool (decide ((x2.length : Int) > 64))))] [] (by kernel_rfl) ?_
      exact RunS.done rfl Wk.f1
    refine Sem.cond (b := (decide ((x2.length : Int) > 64))) (by kernel_rfl) (fun hb5 => ?_) (fun hb5 => ?_)
    · rw [if_pos hb5] at h
      refine Sem.seq ?_
      refine Sem.runS (s1 := ⟨Fr 47 [(6, .v (.int .i64 0)), (7, .v (.int .i64 7))], []⟩) ?_ ?_
      · refine RunS.segF (n := 47) e_ref09_Check_ok 2 [(6, .v (.int .i64 0)), (7, .v (.int .i64 7))] [] (by kernel_rfl) ?_
        exact RunS.done rfl Wk.f1
      refine Sem.ret ?_
      have hq := Option.some.inj h; subst hq
      exact ⟨⟨Fr 47 [(6, .v (.int .i64 0)), (7, .v (.int .i64 7))], []⟩, Wk.f1, .inr rfl, [.v (.int .i64 0), .v (.int .i64 7)], (by kernel_rfl), (by kernel_rfl)⟩
    · rw [if_f hb5] at h
      refine Sem.skip ?_
      refine Sem.seq ?_
      refine Sem.seq ?_
      refine Sem.runS (s1 := ⟨Fr 47 [(0, .v (.int .i64 x0)), (1, .sl 1 (x1.map cdI.enc)), (2, .sl 1 (x2.map (cdL 1 (cdL 1 cdI)).enc)), (8, .v (.int .i64 0))], []⟩) ?_ ?_
      · refine RunS.segF (n := 47) e_ref09_Check_ok 1 [(0, .v (.int .i64 x0)), (1, .sl 1 (x1.map cdI.enc)), (2, .sl 1 (x2.map (cdL 1 (cdL 1 cdI)).enc)), (8, .v (.int .i64 0))] [] (by kernel_rfl) ?_
        exact RunS.done rfl Wk.f1
      refine Sem.block ?_
      obtain ⟨r13, hr13, h⟩ := Option.bind_eq_some_iff.1 h
      refine Sem.loop (n := 100000) ?_
      rcases r13 with w14 | w15
      · try dsimp only at h
        refine Sem.cutN (SemN.wk (s1 := ⟨Fr 47 [(0, .v (.int .i64 x0)), (1, .sl 1 (x1.map cdI.enc)), (2, .sl 1 (x2.map (cdL 1 (cdL 1 cdI)).enc)), (8, .v (.int .i64 0))], []⟩) Wk.f1 (ref09_Check_1_ok x0 x1 x2 _ 0 _ hr13)) ?_
        refine Sem.seq ?_
        refine Sem.runS (s1 := ⟨Fr 47 [(6, .v (.int .i64 0)), (7, .v (.int .i64 0))], []⟩) ?_ ?_
        · refine RunS.segF (n := 47) e_ref09_Check_ok 2 [(6, .v (.int .i64 0)), (7, .v (.int .i64 0))] [] (by kernel_rfl) ?_
          exact RunS.done rfl Wk.f1
        refine Sem.ret ?_
        have hq := Option.some.inj h; subst hq
        exact ⟨⟨Fr 47 [(6, .v (.int .i64 0)), (7, .v (.int .i64 0))], []⟩, Wk.f1, .inr rfl, [.v (.int .i64 0), .v (.int .i64 0)], (by kernel_rfl), (by kernel_rfl)⟩
      · try dsimp only at h
        refine Sem.cutN (SemN.wk (s1 := ⟨Fr 47 [(0, .v (.int .i64 x0)), (1, .sl 1 (x1.map cdI.enc)), (2, .sl 1 (x2.map (cdL 1 (cdL 1 cdI)).enc)), (8, .v (.int .i64 0))], []⟩) Wk.f1 (ref09_Check_1_ok x0 x1 x2 _ 0 _ hr13)) ?_
        have hq := Option.some.inj h; subst hq
        exact ⟨⟨Fr 47 [(6, .v (.int .i64 w15.1)), (7, .v (.int .i64 w15.2))], []⟩, Wk.f1, .inr rfl, [.v (.int .i64 w15.1), .v (.int .i64 w15.2)], (by kernel_rfl), (by kernel_rfl)⟩
def t_ref09_Check : List AV → Option AV := told cs_ref09_Check (fun a => ref09_Check a.1 a.2.1 a.2.2.1) er_ref09_Check
theorem x_ref09_Check : XOk 51 t_ref09_Check := by
  refine EnvOk.x (E := e_ref09_Check) (contract_ok e_ref09_Check_ok (fn := Tryd.f51) (c := cb_ref09_Check) ?h1 ?h2 ⟨Tryd.call51⟩ cs_ref09_Check (fun a => ref09_Check a.1 a.2.1 a.2.2.1) er_ref09_Check (fun a => (by show 3 ≤ 47; decide)) ?h3 ?h4) rfl rfl
  case h1 => kernel_rfl
  case h2 => kernel_rfl
  case h3 => intro b; kernel_rfl
  case h4 => exact fun a b h => ref09_Check_sem a.1 a.2.1 a.2.2.1 b h
/- trestle/trestleref09.Valid -/
noncomputable def e_ref09_Valid : Env := (E0.withX 51 t_ref09_Check)
theorem e_ref09_Valid_ok : EnvOk e_ref09_Valid := (EnvOk.withX E0_ok x_ref09_Check.1 x_ref09_Check.2)
noncomputable def cb_ref09_Valid : Code := codeOf Tryd.f19
def ref09_Valid (x0 : Int) (x1 : (List (List (List Int)))) : Option (Bool) :=
  (ref09_Check x0 [] x1).bind fun v1 =>
  some (v1.2 == 0)
def cs_ref09_Valid : Cs (Int × (List (List (List Int))) × Unit) := (csC cdI (csC (cdL 1 (cdL 1 (cdL 1 cdI))) csN))
def er_ref09_Valid (r : Bool) : AV := cdB.enc r
set_option maxHeartbeats 4000000 in
set_option maxRecDepth 100000 in
theorem ref09_Valid_sem (x0 : Int) (x1 : (List (List (List Int)))) (r : Bool) (h : ref09_Valid x0 x1 = some r) : Sem e_ref09_Valid ⟨none, false⟩ cb_ref09_Valid ⟨Fr 15 (pairs0 0 (cs_ref09_Valid.enc (x0, x1, ()))), []⟩ fun e s' => (e = .normal ∨ e = .ret) ∧ ∃ xs, resA e_ref09_Valid.P s'.fr s'.hp Tryd.f19.results.toList = some xs ∧ retA xs = er_ref09_Valid r := by
  unfold ref09_Valid at h
  refine Sem.wkQ (Sem.wk (s1 := ⟨Fr 15 [(0, .v (.int .i64 x0)), (1, .sl 1 (x1.map (cdL 1 (cdL 1 cdI)).enc))], []⟩) Wk.f1 ?_)
  refine Sem.seq ?_
  refine Sem.runS (s1 := ⟨Fr 15 [(0, .v (.int .i64 x0)), (1, .sl 1 (x1.map (cdL 1 (cdL 1 cdI)).enc))], []⟩) ?_ ?_
  · refine RunS.segF (n := 15) e_ref09_Valid_ok 1 [(0, .v (.int .i64 x0)), (1, .sl 1 (x1.map (cdL 1 (cdL 1 cdI)).enc))] [] (by kernel_rfl) ?_
    exact RunS.done rfl Wk.f1
  refine Sem.seq ?_
  obtain ⟨v1, hv1, h⟩ := Option.bind_eq_some_iff.1 h
  refine Sem.runS (s1 := ⟨Fr 15 [(6, .v (.int .i64 v1.2))], []⟩) ?_ ?_
  · refine RunS.segF (n := 15) e_ref09_Valid_ok 2 [(8, .v (.int .i64 x0)), (9, .sl 1 (x1.map (cdL 1 (cdL 1 cdI)).enc))] [] (by kernel_rfl) ?_
    refine RunS.call e_ref09_Valid_ok (fid := 51) (s := cs_ref09_Check) (F := fun a => ref09_Check a.1 a.2.1 a.2.2.1) (er := er_ref09_Check) (xs := [.v (.int .i64 x0), .e0, .sl 1 (x1.map (cdL 1 (cdL 1 cdI)).enc)]) (a := (x0, [], x1, ())) rfl (wantedA_none rfl) (by kernel_rfl) (by kernel_rfl) (by kernel_rfl) (by kernel_rfl) (Sns.cons (Sn.enc (c := cdI) (v := x0)) (Sns.cons Sn.e0 (Sns.cons (Sn.enc (c := (cdL 1 (cdL 1 (cdL 1 cdI)))) (v := x1)) Sns.nil))) (.inl (by kernel_rfl)) hv1 ?_
    refine RunS.segF (n := 15) e_ref09_Valid_ok 5 [(6, .v (.int .i64 v1.2))] [] (by kernel_rfl) ?_
    exact RunS.done rfl Wk.f1
  refine Sem.seq ?_
  refine Sem.runS (s1 := ⟨Fr 15 [(4, .v (.bool (v1.2 == 0)))], []⟩) ?_ ?_
  · refine RunS.segF (n := 15) e_ref09_Valid_ok 3 [(4, .v (.bool (v1.2 == 0)))] [] (by kernel_rfl) ?_
    exact RunS.done rfl Wk.f1
  refine Sem.ret ?_
  have hq := Option.some.inj h; subst hq
  exact ⟨⟨Fr 15 [(4, .v (.bool (v1.2 == 0)))], []⟩, Wk.f1, .inr rfl, [.v (.bool (v1.2 == 0))], (by kernel_rfl), (by kernel_rfl)⟩
def t_ref09_Valid : List AV → Option AV := told cs_ref09_Valid (fun a => ref09_Valid a.1 a.2.1) er_ref09_Valid
theorem x_ref09_Valid : XOk 19 t_ref09_Valid := by
  refine EnvOk.x (E := e_ref09_Valid) (contract_ok e_ref09_Valid_ok (fn := Tryd.f19) (c := cb_ref09_Valid) ?h1 ?h2 ⟨Tryd.call19⟩ cs_ref09_Valid (fun a => ref09_Valid a.1 a.2.1) er_ref09_Valid (fun a => (by show 2 ≤ 15; decide)) ?h3 ?h4) rfl rfl
  case h1 => kernel_rfl
  case h2 => kernel_rfl
  case h3 => intro b; kernel_rfl
  case h4 => exact fun a b h => ref09_Valid_sem a.1 a.2.1 b h
/- trestle/trestlekit.SameInts -/
noncomputable def e_kit_SameInts : Env := E0
theorem e_kit_SameInts_ok : EnvOk e_kit_SameInts := E0_ok
noncomputable def cb_kit_SameInts : Code := codeOf Tryd.f55
def kit_SameInts_1 (x0 : (List Int)) (x1 : (List Int)) : Nat → Int → Option ((Unit) ⊕ (Bool))
  | 0, _ => none
  | f + 1, c2 =>
    if (decide (c2 < (x0.length : Int))) = true then
    (idx x0 c2).bind fun v4 =>
    (idx x1 c2).bind fun v5 =>
    if (v4 != v5) = true then
    some (.inr false)
    else
    kit_SameInts_1 x0 x1 f (wr .i64 (c2 + 1))
    else
    some (.inl ())
def kit_SameInts (x0 : (List Int)) (x1 : (List Int)) : Option (Bool) :=
  if ((x0.length : Int) != (x1.length : Int)) = true then
  some false
  else
  (kit_SameInts_1 x0 x1 100000 0).bind fun r8 =>
  match r8 with
  | (.inl w9) =>
    some true
  | (.inr w10) =>
    some w10
def cs_kit_SameInts : Cs ((List Int) × (List Int) × Unit) := (csC (cdL 1 cdI) (csC (cdL 1 cdI) csN))
def er_kit_SameInts (r : Bool) : AV := cdB.enc r
set_option maxHeartbeats 4000000 in
set_option maxRecDepth 100000 in
theorem kit_SameInts_1_ok (x0 : (List Int)) (x1 : (List Int)) : ∀ (f : Nat) (c2 : Int) (r : (Unit) ⊕ (Bool)), kit_SameInts_1 x0 x1 f c2 = some r → SemN e_kit_SameInts ⟨none, false⟩ (pc cb_kit_SameInts [1, 1, 0, 1, 0, 0]) f ⟨Fr 26 [(0, .sl 1 (x0.map cdI.enc)), (1, .sl 1 (x1.map cdI.enc)), (5, .v (.int .i64 c2))], []⟩ (fun e s => match r with
  | (.inl w) => e = (.exit 0) ∧ Wk e_kit_SameInts s ⟨Fr 26 [], []⟩
  | (.inr w) => e = .ret ∧ Wk e_kit_SameInts s ⟨Fr 26 [(4, .v (.bool w))], []⟩) := by
  intro f
  induction f with
  | zero => intro c2 r h; cases h
  | succ f ih0 =>
    intro c2 r h
    have ih := fun (c2 : Int) => ih0 c2 r
    unfold kit_SameInts_1 at h
    refine SemN.succ ?_
    refine Sem.seq ?_
    refine Sem.seq ?_
    refine Sem.runS (s1 := ⟨Fr 26 [(0, .sl 1 (x0.map cdI.enc)), (1, .sl 1 (x1.map cdI.enc)), (5, .v (.int .i64 c2)), (14, .v (.bool (decide (c2 < (x0.length : Int)))))], []⟩) ?_ ?_
    · refine RunS.segF (n := 26) e_kit_SameInts_ok 2 [(0, .sl 1 (x0.map cdI.enc)), (1, .sl 1 (x1.map cdI.enc)), (5, .v (.int .i64 c2)), (11, .v (.int .i64 c2)), (12, .sl 1 (x0.map cdI.enc))] [] (by kernel_rfl) ?_
      refine RunS.one e_kit_SameInts_ok 0 rfl (op_q (wantedA_none rfl) rfl (q_len (a := .sl 1 (x0.map cdI.enc)) (by kernel_rfl) (len_sl (el := 3) (by kernel_rfl)))) ?_
      refine RunS.segF (n := 26) e_kit_SameInts_ok 1 [(0, .sl 1 (x0.map cdI.enc)), (1, .sl 1 (x1.map cdI.enc)), (5, .v (.int .i64 c2)), (14, .v (.bool (decide (c2 < (x0.length : Int)))))] [] (by kernel_rfl) ?_
      exact RunS.done rfl Wk.f1
    refine Sem.cond (b := (decide (c2 < (x0.length : Int)))) (by kernel_rfl) (fun hb3 => ?_) (fun hb3 => ?_)
    · rw [if_pos hb3] at h
      refine Sem.skip ?_
      refine Sem.seq ?_
      refine Sem.block ?_
      refine Sem.seq ?_
      obtain ⟨v4, hv4, h⟩ := Option.bind_eq_some_iff.1 h
      obtain ⟨v5, hv5, h⟩ := Option.bind_eq_some_iff.1 h
      refine Sem.runDS e_kit_SameInts_ok (s1 := ⟨Fr 26 [(0, .sl 1 (x0.map cdI.enc)), (1, .sl 1 (x1.map cdI.enc)), (5, .v (.int .i64 c2)), (25, .v (.bool (v4 != v5)))], []⟩) (by kernel_rfl) ?_ ?_
      · refine RunDS.segF (n := 26) e_kit_SameInts_ok 2 [(0, .sl 1 (x0.map cdI.enc)), (1, .sl 1 (x1.map cdI.enc)), (5, .v (.int .i64 c2)), (17, .sl 1 (x0.map cdI.enc)), (18, .v (.int .i64 c2))] [] (by kernel_rfl) (by kernel_rfl) ?_
        refine RunDS.one e_kit_SameInts_ok rfl (by kernel_rfl) (opd_q (by kernel_rfl) (wantedA_none rfl) rfl (q_indexAddr (a := .sl 1 (x0.map cdI.enc)) (b := .v (.int .i64 c2)) (by kernel_rfl) (by kernel_rfl) (ix_sl (e := cdI.enc) (el := 3) (k := 1) (ki := .i64) (by kernel_rfl) (by kernel_rfl) hv4)) (by kernel_rfl)) ?_
        refine RunDS.segF (n := 26) e_kit_SameInts_ok 3 [(0, .sl 1 (x0.map cdI.enc)), (1, .sl 1 (x1.map cdI.enc)), (5, .v (.int .i64 c2)), (20, .v (.int .i64 v4)), (21, .sl 1 (x1.map cdI.enc)), (22, .v (.int .i64 c2))] [] (by kernel_rfl) (by kernel_rfl) ?_
        refine RunDS.one e_kit_SameInts_ok rfl (by kernel_rfl) (opd_q (by kernel_rfl) (wantedA_none rfl) rfl (q_indexAddr (a := .sl 1 (x1.map cdI.enc)) (b := .v (.int .i64 c2)) (by kernel_rfl) (by kernel_rfl) (ix_sl (e := cdI.enc) (el := 3) (k := 1) (ki := .i64) (by kernel_rfl) (by kernel_rfl) hv5)) (by kernel_rfl)) ?_
        refine RunDS.segF (n := 26) e_kit_SameInts_ok 2 [(0, .sl 1 (x0.map cdI.enc)), (1, .sl 1 (x1.map cdI.enc)), (5, .v (.int .i64 c2)), (25, .v (.bool (v4 != v5)))] [] (by kernel_rfl) (by kernel_rfl) ?_
        exact RunDS.done rfl Wk.f1
      refine Sem.cond (b := (v4 != v5)) (by kernel_rfl) (fun hb6 => ?_) (fun hb6 => ?_)
      · rw [if_pos hb6] at h
        refine Sem.seq ?_
        refine Sem.runS (s1 := ⟨Fr 26 [(4, .v (.bool false))], []⟩) ?_ ?_
        · refine RunS.segF (n := 26) e_kit_SameInts_ok 1 [(4, .v (.bool false))] [] (by kernel_rfl) ?_
          exact RunS.done rfl Wk.f1
        refine Sem.ret ?_
        have hq := Option.some.inj h; subst hq
        exact ⟨rfl, Wk.f1⟩
      · rw [if_f hb6] at h
        refine Sem.skip ?_
        refine Sem.runS (s1 := ⟨Fr 26 [(0, .sl 1 (x0.map cdI.enc)), (1, .sl 1 (x1.map cdI.enc)), (5, .v (.int .i64 (wr .i64 (c2 + 1))))], []⟩) ?_ ?_
        · refine RunS.segF (n := 26) e_kit_SameInts_ok 3 [(0, .sl 1 (x0.map cdI.enc)), (1, .sl 1 (x1.map cdI.enc)), (5, .v (.int .i64 (wr .i64 (c2 + 1))))] [] (by kernel_rfl) ?_
          exact RunS.done rfl Wk.f1
        exact SemN.wk (s1 := ⟨Fr 26 [(0, .sl 1 (x0.map cdI.enc)), (1, .sl 1 (x1.map cdI.enc)), (5, .v (.int .i64 (wr .i64 (c2 + 1))))], []⟩) Wk.f1 (ih (wr .i64 (c2 + 1)) h)
    · rw [if_f hb3] at h
      refine Sem.exit ?_
      have hq := Option.some.inj h; subst hq
      exact ⟨rfl, Wk.f1⟩
set_option maxHeartbeats 4000000 in
set_option maxRecDepth 100000 in
theorem kit_SameInts_sem (x0 : (List Int)) (x1 : (List Int)) (r : Bool) (h : kit_SameInts x0 x1 = some r) : Sem e_kit_SameInts ⟨none, false⟩ cb_kit_SameInts ⟨Fr 26 (pairs0 0 (cs_kit_SameInts.enc (x0, x1, ()))), []⟩ fun e s' => (e = .normal ∨ e = .ret) ∧ ∃ xs, resA e_kit_SameInts.P s'.fr s'.hp Tryd.f55.results.toList = some xs ∧ retA xs = er_kit_SameInts r := by
  unfold kit_SameInts at h
  refine Sem.wkQ (Sem.wk (s1 := ⟨Fr 26 [(0, .sl 1 (x0.map cdI.enc)), (1, .sl 1 (x1.map cdI.enc))], []⟩) Wk.f1 ?_)
  refine Sem.seq ?_
  refine Sem.runS (s1 := ⟨Fr 26 [(0, .sl 1 (x0.map cdI.enc)), (1, .sl 1 (x1.map cdI.enc))], []⟩) ?_ ?_
  · refine RunS.segF (n := 26) e_kit_SameInts_ok 1 [(0, .sl 1 (x0.map cdI.enc)), (1, .sl 1 (x1.map cdI.enc))] [] (by kernel_rfl) ?_
    exact RunS.done rfl Wk.f1
  refine Sem.seq ?_
  refine Sem.seq ?_
  refine Sem.runS (s1 := ⟨Fr 26 [(0, .sl 1 (x0.map cdI.enc)), (1, .sl 1 (x1.map cdI.enc)), (10, .v (.bool ((x0.length : Int) != (x1.length : Int))))], []⟩) ?_ ?_
  · refine RunS.segF (n := 26) e_kit_SameInts_ok 1 [(0, .sl 1 (x0.map cdI.enc)), (1, .sl 1 (x1.map cdI.enc)), (6, .sl 1 (x0.map cdI.enc))] [] (by kernel_rfl) ?_
    refine RunS.one e_kit_SameInts_ok 0 rfl (op_q (wantedA_none rfl) rfl (q_len (a := .sl 1 (x0.map cdI.enc)) (by kernel_rfl) (len_sl (el := 3) (by kernel_rfl)))) ?_
    refine RunS.segF (n := 26) e_kit_SameInts_ok 1 [(0, .sl 1 (x0.map cdI.enc)), (1, .sl 1 (x1.map cdI.enc)), (7, .v (.int .i64 (x0.length : Int))), (8, .sl 1 (x1.map cdI.enc))] [] (by kernel_rfl) ?_
    refine RunS.one e_kit_SameInts_ok 0 rfl (op_q (wantedA_none rfl) rfl (q_len (a := .sl 1 (x1.map cdI.enc)) (by kernel_rfl) (len_sl (el := 3) (by kernel_rfl)))) ?_
    refine RunS.segF (n := 26) e_kit_SameInts_ok 1 [(0, .sl 1 (x0.map cdI.enc)), (1, .sl 1 (x1.map cdI.enc)), (10, .v (.bool ((x0.length : Int) != (x1.length : Int))))] [] (by kernel_rfl) ?_
    exact RunS.done rfl Wk.f1
  refine Sem.cond (b := ((x0.length : Int) != (x1.length : Int))) (by kernel_rfl) (fun hb1 => ?_) (fun hb1 => ?_)
  · rw [if_pos hb1] at h
    refine Sem.seq ?_
    refine Sem.runS (s1 := ⟨Fr 26 [(4, .v (.bool false))], []⟩) ?_ ?_
    · refine RunS.segF (n := 26) e_kit_SameInts_ok 1 [(4, .v (.bool false))] [] (by kernel_rfl) ?_
      exact RunS.done rfl Wk.f1
    refine Sem.ret ?_
    have hq := Option.some.inj h; subst hq
    exact ⟨⟨Fr 26 [(4, .v (.bool false))], []⟩, Wk.f1, .inr rfl, [.v (.bool false)], (by kernel_rfl), (by kernel_rfl)⟩
  · rw [if_f hb1] at h
    refine Sem.skip ?_
    refine Sem.seq ?_
    refine Sem.seq ?_
    refine Sem.runS (s1 := ⟨Fr 26 [(0, .sl 1 (x0.map cdI.enc)), (1, .sl 1 (x1.map cdI.enc)), (5, .v (.int .i64 0))], []⟩) ?_ ?_
    · refine RunS.segF (n := 26) e_kit_SameInts_ok 1 [(0, .sl 1 (x0.map cdI.enc)), (1, .sl 1 (x1.map cdI.enc)), (5, .v (.int .i64 0))] [] (by kernel_rfl) ?_
      exact RunS.done rfl Wk.f1
    refine Sem.block ?_
    obtain ⟨r8, hr8, h⟩ := Option.bind_eq_some_iff.1 h
    refine Sem.loop (n := 100000) ?_
    rcases r8 with w9 | w10
    · try dsimp only at h
      refine Sem.cutN (SemN.wk (s1 := ⟨Fr 26 [(0, .sl 1 (x0.map cdI.enc)), (1, .sl 1 (x1.map cdI.enc)), (5, .v (.int .i64 0))], []⟩) Wk.f1 (kit_SameInts_1_ok x0 x1 _ 0 _ hr8)) ?_
      refine Sem.seq ?_
      refine Sem.runS (s1 := ⟨Fr 26 [(4, .v (.bool true))], []⟩) ?_ ?_
      · refine RunS.segF (n := 26) e_kit_SameInts_ok 1 [(4, .v (.bool true))] [] (by kernel_rfl) ?_
        exact RunS.done rfl Wk.f1
      refine Sem.ret ?_
      have hq := Option.some.inj h; subst hq
      exact ⟨⟨Fr 26 [(4, .v (.bool true))], []⟩, Wk.f1, .inr rfl, [.v (.bool true)], (by kernel_rfl), (by kernel_rfl)⟩
    · try dsimp only at h
      refine Sem.cutN (SemN.wk (s1 := ⟨Fr 26 [(0, .sl 1 (x0.map cdI.enc)), (1, .sl 1 (x1.map cdI.enc)), (5, .v (.int .i64 0))], []⟩) Wk.f1 (kit_SameInts_1_ok x0 x1 _ 0 _ hr8)) ?_
      have hq := Option.some.inj h; subst hq
      exact ⟨⟨Fr 26 [(4, .v (.bool w10))], []⟩, Wk.f1, .inr rfl, [.v (.bool w10)], (by kernel_rfl), (by kernel_rfl)⟩
def t_kit_SameInts : List AV → Option AV := told cs_kit_SameInts (fun a => kit_SameInts a.1 a.2.1) er_kit_SameInts
theorem x_kit_SameInts : XOk 55 t_kit_SameInts := by
  refine EnvOk.x (E := e_kit_SameInts) (contract_ok e_kit_SameInts_ok (fn := Tryd.f55) (c := cb_kit_SameInts) ?h1 ?h2 ⟨Tryd.call55⟩ cs_kit_SameInts (fun a => kit_SameInts a.1 a.2.1) er_kit_SameInts (fun a => (by show 2 ≤ 26; decide)) ?h3 ?h4) rfl rfl
  case h1 => kernel_rfl
  case h2 => kernel_rfl
  case h3 => intro b; kernel_rfl
  case h4 => exact fun a b h => kit_SameInts_sem a.1 a.2.1 b h
/- trestle/trestlekit.SameLists -/
noncomputable def e_kit_SameLists : Env := (E0.withX 55 t_kit_SameInts)
theorem e_kit_SameLists_ok : EnvOk e_kit_SameLists := (EnvOk.withX E0_ok x_kit_SameInts.1 x_kit_SameInts.2)
noncomputable def cb_kit_SameLists : Code := codeOf Tryd.f23
def kit_SameLists_1 (x0 : (List (List Int))) (x1 : (List (List Int))) : Nat → Int → Option ((Unit) ⊕ (Bool))
  | 0, _ => none
  | f + 1, c2 =>
    if (decide (c2 < (x0.length : Int))) = true then
    (idx x0 c2).bind fun v4 =>
    (idx x1 c2).bind fun v5 =>
    (kit_SameInts v4 v5).bind fun v6 =>
    if (!v6) = true then
    some (.inr false)
    else
    kit_SameLists_1 x0 x1 f (wr .i64 (c2 + 1))
    else
    some (.inl ())
def kit_SameLists (x0 : (List (List Int))) (x1 : (List (List Int))) : Option (Bool) :=
  if ((x0.length : Int) != (x1.length : Int)) = true then
  some false
  else
  (kit_SameLists_1 x0 x1 100000 0).bind fun r9 =>
  match r9 with
  | (.inl w10) =>
    some true
  | (.inr w11) =>
    some w11
def cs_kit_SameLists : Cs ((List (List Int)) × (List (List Int)) × Unit) := (csC (cdL 1 (cdL 1 cdI)) (csC (cdL 1 (cdL 1 cdI)) csN))
def er_kit_SameLists (r : Bool) : AV := cdB.enc r
set_option maxHeartbeats 4000000 in
set_option maxRecDepth 100000 in
theorem kit_SameLists_1_ok (x0 : (List (List Int))) (x1 : (List (List Int))) : ∀ (f : Nat) (c2 : Int) (r : (Unit) ⊕ (Bool)), kit_SameLists_1 x0 x1 f c2 = some r → SemN e_kit_SameLists ⟨none, false⟩ (pc cb_kit_SameLists [1, 1, 0, 1, 0, 0]) f ⟨Fr 27 [(0, .sl 1 (x0.map (cdL 1 cdI).enc)), (1, .sl 1 (x1.map (cdL 1 cdI).enc)), (5, .v (.int .i64 c2))], []⟩ (fun e s => match r with
  | (.inl w) => e = (.exit 0) ∧ Wk e_kit_SameLists s ⟨Fr 27 [], []⟩
  | (.inr w) => e = .ret ∧ Wk e_kit_SameLists s ⟨Fr 27 [(4, .v (.bool w))], []⟩) := by
  intro f
  induction f with
  | zero => intro c2 r h; cases h
  | succ f ih0 =>
    intro c2 r h
    have ih := fun (c2 : Int) => ih0 c2 r
    unfold kit_SameLists_1 at h
    refine SemN.succ ?_
    refine Sem.seq ?_
    refine Sem.seq ?_
    refine Sem.runS (s1 := ⟨Fr 27 [(0, .sl 1 (x0.map (cdL 1 cdI).enc)), (1, .sl 1 (x1.map (cdL 1 cdI).enc)), (5, .v (.int .i64 c2)), (14, .v (.bool (decide (c2 < (x0.length : Int)))))], []⟩) ?_ ?_
    · refine RunS.segF (n := 27) e_kit_SameLists_ok 2 [(0, .sl 1 (x0.map (cdL 1 cdI).enc)), (1, .sl 1 (x1.map (cdL 1 cdI).enc)), (5, .v (.int .i64 c2)), (11, .v (.int .i64 c2)), (12, .sl 1 (x0.map (cdL 1 cdI).enc))] [] (by kernel_rfl) ?_
      refine RunS.one e_kit_SameLists_ok 0 rfl (op_q (wantedA_none rfl) rfl (q_len (a := .sl 1 (x0.map (cdL 1 cdI).enc)) (by kernel_rfl) (len_sl (el := 29) (by kernel_rfl)))) ?_
      refine RunS.segF (n := 27) e_kit_SameLists_ok 1 [(0, .sl 1 (x0.map (cdL 1 cdI).enc)), (1, .sl 1 (x1.map (cdL 1 cdI).enc)), (5, .v (.int .i64 c2)), (14, .v (.bool (decide (c2 < (x0.length : Int)))))] [] (by kernel_rfl) ?_
      exact RunS.done rfl Wk.f1
    refine Sem.cond (b := (decide (c2 < (x0.length : Int)))) (by kernel_rfl) (fun hb3 => ?_) (fun hb3 => ?_)
    · rw [if_pos hb3] at h
      refine Sem.skip ?_
      refine Sem.seq ?_
      refine Sem.block ?_
      refine Sem.seq ?_
      obtain ⟨v4, hv4, h⟩ := Option.bind_eq_some_iff.1 h
      obtain ⟨v5, hv5, h⟩ := Option.bind_eq_some_iff.1 h
      obtain ⟨v6, hv6, h⟩ := Option.bind_eq_some_iff.1 h
      refine Sem.runDS e_kit_SameLists_ok (s1 := ⟨Fr 27 [(0, .sl 1 (x0.map (cdL 1 cdI).enc)), (1, .sl 1 (x1.map (cdL 1 cdI).enc)), (5, .v (.int .i64 c2)), (26, .v (.bool (!v6)))], []⟩) (by kernel_rfl) ?_ ?_
      · refine RunDS.segF (n := 27) e_kit_SameLists_ok 2 [(0, .sl 1 (x0.map (cdL 1 cdI).enc)), (1, .sl 1 (x1.map (cdL 1 cdI).enc)), (5, .v (.int .i64 c2)), (17, .sl 1 (x0.map (cdL 1 cdI).enc)), (18, .v (.int .i64 c2))] [] (by kernel_rfl) (by kernel_rfl) ?_
        refine RunDS.one e_kit_SameLists_ok rfl (by kernel_rfl) (opd_q (by kernel_rfl) (wantedA_none rfl) rfl (q_indexAddr (a := .sl 1 (x0.map (cdL 1 cdI).enc)) (b := .v (.int .i64 c2)) (by kernel_rfl) (by kernel_rfl) (ix_sl (e := (cdL 1 cdI).enc) (el := 29) (k := 1) (ki := .i64) (by kernel_rfl) (by kernel_rfl) hv4)) (by kernel_rfl)) ?_
        refine RunDS.segF (n := 27) e_kit_SameLists_ok 3 [(0, .sl 1 (x0.map (cdL 1 cdI).enc)), (1, .sl 1 (x1.map (cdL 1 cdI).enc)), (5, .v (.int .i64 c2)), (20, .sl 1 (v4.map cdI.enc)), (21, .sl 1 (x1.map (cdL 1 cdI).enc)), (22, .v (.int .i64 c2))] [] (by kernel_rfl) (by kernel_rfl) ?_
        refine RunDS.one e_kit_SameLists_ok rfl (by kernel_rfl) (opd_q (by kernel_rfl) (wantedA_none rfl) rfl (q_indexAddr (a := .sl 1 (x1.map (cdL 1 cdI).enc)) (b := .v (.int .i64 c2)) (by kernel_rfl) (by kernel_rfl) (ix_sl (e := (cdL 1 cdI).enc) (el := 29) (k := 1) (ki := .i64) (by kernel_rfl) (by kernel_rfl) hv5)) (by kernel_rfl)) ?_
        refine RunDS.segF (n := 27) e_kit_SameLists_ok 1 [(0, .sl 1 (x0.map (cdL 1 cdI).enc)), (1, .sl 1 (x1.map (cdL 1 cdI).enc)), (5, .v (.int .i64 c2)), (20, .sl 1 (v4.map cdI.enc)), (24, .sl 1 (v5.map cdI.enc))] [] (by kernel_rfl) (by kernel_rfl) ?_
        refine RunDS.call e_kit_SameLists_ok (fid := 55) (s := cs_kit_SameInts) (F := fun a => kit_SameInts a.1 a.2.1) (er := er_kit_SameInts) (xs := [.sl 1 (v4.map cdI.enc), .sl 1 (v5.map cdI.enc)]) (a := (v4, v5, ())) rfl (wantedA_none rfl) (by kernel_rfl) (by kernel_rfl) (by kernel_rfl) (Sns.cons (Sn.enc (c := (cdL 1 cdI)) (v := v4)) (Sns.cons (Sn.enc (c := (cdL 1 cdI)) (v := v5)) Sns.nil)) (by kernel_rfl) hv6 ?_
        refine RunDS.segF (n := 27) e_kit_SameLists_ok 1 [(0, .sl 1 (x0.map (cdL 1 cdI).enc)), (1, .sl 1 (x1.map (cdL 1 cdI).enc)), (5, .v (.int .i64 c2)), (26, .v (.bool (!v6)))] [] (by kernel_rfl) (by kernel_rfl) ?_
        exact RunDS.done rfl Wk.f1
      refine Sem.cond (b := (!v6)) (by kernel_rfl) (fun hb7 => ?_) (fun hb7 => ?_)
      · rw [if_pos hb7] at h
        refine Sem.seq ?_
        refine Sem.runS (s1 := ⟨Fr 27 [(4, .v (.bool false))], []⟩) ?_ ?_
        · refine RunS.segF (n := 27) e_kit_SameLists_ok 1 [(4, .v (.bool false))] [] (by kernel_rfl) ?_
          exact RunS.done rfl Wk.f1
        refine Sem.ret ?_
        have hq := Option.some.inj h; subst hq
        exact ⟨rfl, Wk.f1⟩
      · rw [if_f hb7] at h
        refine Sem.skip ?_
        refine Sem.runS (s1 := ⟨Fr 27 [(0, .sl 1 (x0.map (cdL 1 cdI).enc)), (1, .sl 1 (x1.map (cdL 1 cdI).enc)), (5, .v (.int .i64 (wr .i64 (c2 + 1))))], []⟩) ?_ ?_
        · refine RunS.segF (n := 27) e_kit_SameLists_ok 3 [(0, .sl 1 (x0.map (cdL 1 cdI).enc)), (1, .sl 1 (x1.map (cdL 1 cdI).enc)), (5, .v (.int .i64 (wr .i64 (c2 + 1))))] [] (by kernel_rfl) ?_
          exact RunS.done rfl Wk.f1
        exact SemN.wk (s1 := ⟨Fr 27 [(0, .sl 1 (x0.map (cdL 1 cdI).enc)), (1, .sl 1 (x1.map (cdL 1 cdI).enc)), (5, .v (.int .i64 (wr .i64 (c2 + 1))))], []⟩) Wk.f1 (ih (wr .i64 (c2 + 1)) h)
    · rw [if_f hb3] at h
      refine Sem.exit ?_
      have hq := Option.some.inj h; subst hq
      exact ⟨rfl, Wk.f1⟩
set_option maxHeartbeats 4000000 in
set_option maxRecDepth 100000 in
theorem kit_SameLists_sem (x0 : (List (List Int))) (x1 : (List (List Int))) (r : Bool) (h : kit_SameLists x0 x1 = some r) : Sem e_kit_SameLists ⟨none, false⟩ cb_kit_SameLists ⟨Fr 27 (pairs0 0 (cs_kit_SameLists.enc (x0, x1, ()))), []⟩ fun e s' => (e = .normal ∨ e = .ret) ∧ ∃ xs, resA e_kit_SameLists.P s'.fr s'.hp Tryd.f23.results.toList = some xs ∧ retA xs = er_kit_SameLists r := by
  unfold kit_SameLists at h
  refine Sem.wkQ (Sem.wk (s1 := ⟨Fr 27 [(0, .sl 1 (x0.map (cdL 1 cdI).enc)), (1, .sl 1 (x1.map (cdL 1 cdI).enc))], []⟩) Wk.f1 ?_)
  refine Sem.seq ?_
  refine Sem.runS (s1 := ⟨Fr 27 [(0, .sl 1 (x0.map (cdL 1 cdI).enc)), (1, .sl 1 (x1.map (cdL 1 cdI).enc))], []⟩) ?_ ?_
  · refine RunS.segF (n := 27) e_kit_SameLists_ok 1 [(0, .sl 1 (x0.map (cdL 1 cdI).enc)), (1, .sl 1 (x1.map (cdL 1 cdI).enc))] [] (by kernel_rfl) ?_
    exact RunS.done rfl Wk.f1
  refine Sem.seq ?_
  refine Sem.seq ?_
  refine Sem.runS (s1 := ⟨Fr 27 [(0, .sl 1 (x0.map (cdL 1 cdI).enc)), (1, .sl 1 (x1.map (cdL 1 cdI).enc)), (10, .v (.bool ((x0.length : Int) != (x1.length : Int))))], []⟩) ?_ ?_
  · refine RunS.segF (n := 27) e_kit_SameLists_ok 1 [(0, .sl 1 (x0.map (cdL 1 cdI).enc)), (1, .sl 1 (x1.map (cdL 1 cdI).enc)), (6, .sl 1 (x0.map (cdL 1 cdI).enc))] [] (by kernel_rfl) ?_
    refine RunS.one e_kit_SameLists_ok 0 rfl (op_q (wantedA_none rfl) rfl (q_len (a := .sl 1 (x0.map (cdL 1 cdI).enc)) (by kernel_rfl) (len_sl (el := 29) (by kernel_rfl)))) ?_
    refine RunS.segF (n := 27) e_kit_SameLists_ok 1 [(0, .sl 1 (x0.map (cdL 1 cdI).enc)), (1, .sl 1 (x1.map (cdL 1 cdI).enc)), (7, .v (.int .i64 (x0.length : Int))), (8, .sl 1 (x1.map (cdL 1 cdI).enc))] [] (by kernel_rfl) ?_
    refine RunS.one e_kit_SameLists_ok 0 rfl (op_q (wantedA_none rfl) rfl (q_len (a := .sl 1 (x1.map (cdL 1 cdI).enc)) (by kernel_rfl) (len_sl (el := 29) (by kernel_rfl)))) ?_
    refine RunS.segF (n := 27) e_kit_SameLists_ok 1 [(0, .sl 1 (x0.map (cdL 1 cdI).enc)), (1, .sl 1 (x1.map (cdL 1 cdI).enc)), (10, .v (.bool ((x0.length : Int) != (x1.length : Int))))] [] (by kernel_rfl) ?_
    exact RunS.done rfl Wk.f1
  refine Sem.cond (b := ((x0.length : Int) != (x1.length : Int))) (by kernel_rfl) (fun hb1 => ?_) (fun hb1 => ?_)
  · rw [if_pos hb1] at h
    refine Sem.seq ?_
    refine Sem.runS (s1 := ⟨Fr 27 [(4, .v (.bool false))], []⟩) ?_ ?_
    · refine RunS.segF (n := 27) e_kit_SameLists_ok 1 [(4, .v (.bool false))] [] (by kernel_rfl) ?_
      exact RunS.done rfl Wk.f1
    refine Sem.ret ?_
    have hq := Option.some.inj h; subst hq
    exact ⟨⟨Fr 27 [(4, .v (.bool false))], []⟩, Wk.f1, .inr rfl, [.v (.bool false)], (by kernel_rfl), (by kernel_rfl)⟩
  · rw [if_f hb1] at h
    refine Sem.skip ?_
    refine Sem.seq ?_
    refine Sem.seq ?_
    refine Sem.runS (s1 := ⟨Fr 27 [(0, .sl 1 (x0.map (cdL 1 cdI).enc)), (1, .sl 1 (x1.map (cdL 1 cdI).enc)), (5, .v (.int .i64 0))], []⟩) ?_ ?_
    · refine RunS.segF (n := 27) e_kit_SameLists_ok 1 [(0, .sl 1 (x0.map (cdL 1 cdI).enc)), (1, .sl 1 (x1.map (cdL 1 cdI).enc)), (5, .v (.int .i64 0))] [] (by kernel_rfl) ?_
      exact RunS.done rfl Wk.f1
    refine Sem.block ?_
    obtain ⟨r9, hr9, h⟩ := Option.bind_eq_some_iff.1 h
    refine Sem.loop (n := 100000) ?_
    rcases r9 with w10 | w11
    · try dsimp only at h
      refine Sem.cutN (SemN.wk (s1 := ⟨Fr 27 [(0, .sl 1 (x0.map (cdL 1 cdI).enc)), (1, .sl 1 (x1.map (cdL 1 cdI).enc)), (5, .v (.int .i64 0))], []⟩) Wk.f1 (kit_SameLists_1_ok x0 x1 _ 0 _ hr9)) ?_
      refine Sem.seq ?_
      refine Sem.runS (s1 := ⟨Fr 27 [(4, .v (.bool true))], []⟩) ?_ ?_
      · refine RunS.segF (n := 27) e_kit_SameLists_ok 1 [(4, .v (.bool true))] [] (by kernel_rfl) ?_
        exact RunS.done rfl Wk.f1
      refine Sem.ret ?_
      have hq := Option.some.inj h; subst hq
      exact ⟨⟨Fr 27 [(4, .v (.bool true))], []⟩, Wk.f1, .inr rfl, [.v (.bool true)], (by kernel_rfl), (by kernel_rfl)⟩
    · try dsimp only at h
      refine Sem.cutN (SemN.wk (s1 := ⟨Fr 27 [(0, .sl 1 (x0.map (cdL 1 cdI).enc)), (1, .sl 1 (x1.map (cdL 1 cdI).enc)), (5, .v (.int .i64 0))], []⟩) Wk.f1 (kit_SameLists_1_ok x0 x1 _ 0 _ hr9)) ?_
      have hq := Option.some.inj h; subst hq
      exact ⟨⟨Fr 27 [(4, .v (.bool w11))], []⟩, Wk.f1, .inr rfl, [.v (.bool w11)], (by kernel_rfl), (by kernel_rfl)⟩
def t_kit_SameLists : List AV → Option AV := told cs_kit_SameLists (fun a => kit_SameLists a.1 a.2.1) er_kit_SameLists
theorem x_kit_SameLists : XOk 23 t_kit_SameLists := by
  refine EnvOk.x (E := e_kit_SameLists) (contract_ok e_kit_SameLists_ok (fn := Tryd.f23) (c := cb_kit_SameLists) ?h1 ?h2 ⟨Tryd.call23⟩ cs_kit_SameLists (fun a => kit_SameLists a.1 a.2.1) er_kit_SameLists (fun a => (by show 2 ≤ 27; decide)) ?h3 ?h4) rfl rfl
  case h1 => kernel_rfl
  case h2 => kernel_rfl
  case h3 => intro b; kernel_rfl
  case h4 => exact fun a b h => kit_SameLists_sem a.1 a.2.1 b h
/- trestle/trestlelaw09.Same$1 -/
noncomputable def e_law09_Same_1 : Env := (E0.withX 23 t_kit_SameLists)
theorem e_law09_Same_1_ok : EnvOk e_law09_Same_1 := (EnvOk.withX E0_ok x_kit_SameLists.1 x_kit_SameLists.2)
noncomputable def cb_law09_Same_1 : Code := codeOf Tryd.f53
def law09_Same_1 (x0 : (List (List Int))) (x1 : (List (List Int))) : Option (Bool) :=
  (kit_SameLists x0 x1).bind fun v1 =>
  some v1
def cs_law09_Same_1 : Cs ((List (List Int)) × (List (List Int)) × Unit) := (csC (cdL 1 (cdL 1 cdI)) (csC (cdL 1 (cdL 1 cdI)) csN))
def er_law09_Same_1 (r : Bool) : AV := cdB.enc r
set_option maxHeartbeats 4000000 in
set_option maxRecDepth 100000 in
theorem law09_Same_1_sem (x0 : (List (List Int))) (x1 : (List (List Int))) (r : Bool) (h : law09_Same_1 x0 x1 = some r) : Sem e_law09_Same_1 ⟨none, false⟩ cb_law09_Same_1 ⟨Fr 8 (pairs0 0 (cs_law09_Same_1.enc (x0, x1, ()))), []⟩ fun e s' => (e = .normal ∨ e = .ret) ∧ ∃ xs, resA e_law09_Same_1.P s'.fr s'.hp Tryd.f53.results.toList = some xs ∧ retA xs = er_law09_Same_1 r := by
  unfold law09_Same_1 at h
  refine Sem.wkQ (Sem.wk (s1 := ⟨Fr 8 [(0, .sl 1 (x0.map (cdL 1 cdI).enc)), (1, .sl 1 (x1.map (cdL 1 cdI).enc))], []⟩) Wk.f1 ?_)
  refine Sem.seq ?_
  refine Sem.runS (s1 := ⟨Fr 8 [(0, .sl 1 (x0.map (cdL 1 cdI).enc)), (1, .sl 1 (x1.map (cdL 1 cdI).enc))], []⟩) ?_ ?_
  · refine RunS.segF (n := 8) e_law09_Same_1_ok 1 [(0, .sl 1 (x0.map (cdL 1 cdI).enc)), (1, .sl 1 (x1.map (cdL 1 cdI).enc))] [] (by kernel_rfl) ?_
    exact RunS.done rfl Wk.f1
  refine Sem.seq ?_
  obtain ⟨v1, hv1, h⟩ := Option.bind_eq_some_iff.1 h
  refine Sem.runS (s1 := ⟨Fr 8 [(4, .v (.bool v1))], []⟩) ?_ ?_
  · refine RunS.segF (n := 8) e_law09_Same_1_ok 2 [(5, .sl 1 (x0.map (cdL 1 cdI).enc)), (6, .sl 1 (x1.map (cdL 1 cdI).enc))] [] (by kernel_rfl) ?_
    refine RunS.call e_law09_Same_1_ok (fid := 23) (s := cs_kit_SameLists) (F := fun a => kit_SameLists a.1 a.2.1) (er := er_kit_SameLists) (xs := [.sl 1 (x0.map (cdL 1 cdI).enc), .sl 1 (x1.map (cdL 1 cdI).enc)]) (a := (x0, x1, ())) rfl (wantedA_none rfl) (by kernel_rfl) (by kernel_rfl) (by kernel_rfl) (by kernel_rfl) (Sns.cons (Sn.enc (c := (cdL 1 (cdL 1 cdI))) (v := x0)) (Sns.cons (Sn.enc (c := (cdL 1 (cdL 1 cdI))) (v := x1)) Sns.nil)) (.inl (by kernel_rfl)) hv1 ?_
    refine RunS.segF (n := 8) e_law09_Same_1_ok 1 [(4, .v (.bool v1))] [] (by kernel_rfl) ?_
    exact RunS.done rfl Wk.f1
  refine Sem.ret ?_
  have hq := Option.some.inj h; subst hq
  exact ⟨⟨Fr 8 [(4, .v (.bool v1))], []⟩, Wk.f1, .inr rfl, [.v (.bool v1)], (by kernel_rfl), (by kernel_rfl)⟩
def t_law09_Same_1 : List AV → Option AV := told cs_law09_Same_1 (fun a => law09_Same_1 a.1 a.2.1) er_law09_Same_1
theorem x_law09_Same_1 : XOk 53 t_law09_Same_1 := by
  refine EnvOk.x (E := e_law09_Same_1) (contract_ok e_law09_Same_1_ok (fn := Tryd.f53) (c := cb_law09_Same_1) ?h1 ?h2 ⟨Tryd.call53⟩ cs_law09_Same_1 (fun a => law09_Same_1 a.1 a.2.1) er_law09_Same_1 (fun a => (by show 2 ≤ 8; decide)) ?h3 ?h4) rfl rfl
  case h1 => kernel_rfl
  case h2 => kernel_rfl
  case h3 => intro b; kernel_rfl
  case h4 => exact fun a b h => law09_Same_1_sem a.1 a.2.1 b h
/- slices.EqualFunc[[][][]int,[][][]int,[][]int,[][]int] -/
noncomputable def e_slices_EqualFunc_LLL_LLL_LL_LL__law09_Same_1 : Env := (E0.withX 53 t_law09_Same_1)
theorem e_slices_EqualFunc_LLL_LLL_LL_LL__law09_Same_1_ok : EnvOk e_slices_EqualFunc_LLL_LLL_LL_LL__law09_Same_1 := (EnvOk.withX E0_ok x_law09_Same_1.1 x_law09_Same_1.2)
noncomputable def cb_slices_EqualFunc_LLL_LLL_LL_LL__law09_Same_1 : Code := codeOf Tryd.f52
def slices_EqualFunc_LLL_LLL_LL_LL__law09_Same_1_1 (x0 : (List (List (List Int)))) (x1 : (List (List (List Int)))) : Nat → Int → Option ((Unit) ⊕ (Bool))
  | 0, _ => none
  | f + 1, c2 =>
    if (decide (c2 < (x0.length : Int))) = true then
    (idx x0 c2).bind fun v4 =>
    (idx x1 c2).bind fun v5 =>
    (law09_Same_1 v4 v5).bind fun v6 =>
    if (!v6) = true then
    some (.inr false)
    else
    slices_EqualFunc_LLL_LLL_LL_LL__law09_Same_1_1 x0 x1 f (wr .i64 (c2 + 1))
    else
    some (.inl ())
def slices_EqualFunc_LLL_LLL_LL_LL__law09_Same_1 (x0 : (List (List (List Int)))) (x1 : (List (List (List Int)))) : Option (Bool) :=
  if ((x0.length : Int) != (x1.length : Int)) = true then
  some false
  else
  (slices_EqualFunc_LLL_LLL_LL_LL__law09_Same_1_1 x0 x1 100000 0).bind fun r9 =>
  match r9 with
  | (.inl w10) =>
    some true
  | (.inr w11) =>
    some w11
def er_slices_EqualFunc_LLL_LLL_LL_LL__law09_Same_1 (r : Bool) : AV := cdB.enc r
set_option maxHeartbeats 4000000 in
set_option maxRecDepth 100000 in
theorem slices_EqualFunc_LLL_LLL_LL_LL__law09_Same_1_1_ok (x0 : (List (List (List Int)))) (x1 : (List (List (List Int)))) : ∀ (f : Nat) (c2 : Int) (r : (Unit) ⊕ (Bool)), slices_EqualFunc_LLL_LLL_LL_LL__law09_Same_1_1 x0 x1 f c2 = some r → SemN e_slices_EqualFunc_LLL_LLL_LL_LL__law09_Same_1 ⟨none, false⟩ (pc cb_slices_EqualFunc_LLL_LLL_LL_LL__law09_Same_1 [1, 1, 0, 1, 0, 0]) f ⟨Fr 32 [(1, .sl 1 (x1.map (cdL 1 (cdL 1 cdI)).enc)), (2, .fn 53 [] []), (15, .sl 1 (x0.map (cdL 1 (cdL 1 cdI)).enc)), (16, .v (.int .i64 (x0.length : Int))), (17, .v (.int .i64 c2))], []⟩ (fun e s => match r with
  | (.inl w) => e = (.exit 0) ∧ Wk e_slices_EqualFunc_LLL_LLL_LL_LL__law09_Same_1 s ⟨Fr 32 [], []⟩
  | (.inr w) => e = .ret ∧ Wk e_slices_EqualFunc_LLL_LLL_LL_LL__law09_Same_1 s ⟨Fr 32 [(6, .v (.bool w))], []⟩) := by
  intro f
  induction f with
  | zero => intro c2 r h; cases h
  | succ f ih0 =>
    intro c2 r h
    have ih := fun (c2 : Int) => ih0 c2 r
    unfold slices_EqualFunc_LLL_LLL_LL_LL__law09_Same_1_1 at h
    refine SemN.succ ?_
    refine Sem.seq ?_
    refine Sem.runS (s1 := ⟨Fr 32 [(1, .sl 1 (x1.map (cdL 1 (cdL 1 cdI)).enc)), (2, .fn 53 [] []), (15, .sl 1 (x0.map (cdL 1 (cdL 1 cdI)).enc)), (16, .v (.int .i64 (x0.length : Int))), (17, .v (.int .i64 c2)), (18, .v (.bool (decide (c2 < (x0.length : Int)))))], []⟩) ?_ ?_
    · refine RunS.segF (n := 32) e_slices_EqualFunc_LLL_LLL_LL_LL__law09_Same_1_ok 1 [(1, .sl 1 (x1.map (cdL 1 (cdL 1 cdI)).enc)), (2, .fn 53 [] []), (15, .sl 1 (x0.map (cdL 1 (cdL 1 cdI)).enc)), (16, .v (.int .i64 (x0.length : Int))), (17, .v (.int .i64 c2)), (18, .v (.bool (decide (c2 < (x0.length : Int)))))] [] (by kernel_rfl) ?_
      exact RunS.done rfl Wk.f1
    refine Sem.seq ?_
    refine Sem.cond (b := (decide (c2 < (x0.length : Int)))) (by kernel_rfl) (fun hb3 => ?_) (fun hb3 => ?_)
    · rw [if_pos hb3] at h
      refine Sem.skip ?_
      refine Sem.seq ?_
      refine Sem.block ?_
      refine Sem.seq ?_
      obtain ⟨v4, hv4, h⟩ := Option.bind_eq_some_iff.1 h
      refine Sem.runS (s1 := ⟨Fr 32 [(1, .sl 1 (x1.map (cdL 1 (cdL 1 cdI)).enc)), (2, .fn 53 [] []), (7, .v (.int .i64 c2)), (8, .sl 1 (v4.map (cdL 1 cdI).enc)), (15, .sl 1 (x0.map (cdL 1 (cdL 1 cdI)).enc)), (16, .v (.int .i64 (x0.length : Int))), (17, .v (.int .i64 c2))], []⟩) ?_ ?_
      · refine RunS.segF (n := 32) e_slices_EqualFunc_LLL_LLL_LL_LL__law09_Same_1_ok 1 [(1, .sl 1 (x1.map (cdL 1 (cdL 1 cdI)).enc)), (2, .fn 53 [] []), (15, .sl 1 (x0.map (cdL 1 (cdL 1 cdI)).enc)), (16, .v (.int .i64 (x0.length : Int))), (17, .v (.int .i64 c2)), (19, .v (.int .i64 c2))] [] (by kernel_rfl) ?_
        refine RunS.one e_slices_EqualFunc_LLL_LLL_LL_LL__law09_Same_1_ok 0 rfl (op_q (wantedA_none rfl) rfl (q_indexAddr (a := .sl 1 (x0.map (cdL 1 (cdL 1 cdI)).enc)) (b := .v (.int .i64 c2)) (by kernel_rfl) (by kernel_rfl) (ix_sl (e := (cdL 1 (cdL 1 cdI)).enc) (el := 36) (k := 1) (ki := .i64) (by kernel_rfl) (by kernel_rfl) hv4))) ?_
        refine RunS.segF (n := 32) e_slices_EqualFunc_LLL_LLL_LL_LL__law09_Same_1_ok 3 [(1, .sl 1 (x1.map (cdL 1 (cdL 1 cdI)).enc)), (2, .fn 53 [] []), (7, .v (.int .i64 c2)), (8, .sl 1 (v4.map (cdL 1 cdI).enc)), (15, .sl 1 (x0.map (cdL 1 (cdL 1 cdI)).enc)), (16, .v (.int .i64 (x0.length : Int))), (17, .v (.int .i64 c2))] [] (by kernel_rfl) ?_
        exact RunS.done rfl Wk.f1
      refine Sem.seq ?_
      obtain ⟨v5, hv5, h⟩ := Option.bind_eq_some_iff.1 h
      refine Sem.runS (s1 := ⟨Fr 32 [(1, .sl 1 (x1.map (cdL 1 (cdL 1 cdI)).enc)), (2, .fn 53 [] []), (8, .sl 1 (v4.map (cdL 1 cdI).enc)), (9, .sl 1 (v5.map (cdL 1 cdI).enc)), (15, .sl 1 (x0.map (cdL 1 (cdL 1 cdI)).enc)), (16, .v (.int .i64 (x0.length : Int))), (17, .v (.int .i64 c2))], []⟩) ?_ ?_
      · refine RunS.segF (n := 32) e_slices_EqualFunc_LLL_LLL_LL_LL__law09_Same_1_ok 2 [(1, .sl 1 (x1.map (cdL 1 (cdL 1 cdI)).enc)), (2, .fn 53 [] []), (8, .sl 1 (v4.map (cdL 1 cdI).enc)), (15, .sl 1 (x0.map (cdL 1 (cdL 1 cdI)).enc)), (16, .v (.int .i64 (x0.length : Int))), (17, .v (.int .i64 c2)), (22, .sl 1 (x1.map (cdL 1 (cdL 1 cdI)).enc)), (23, .v (.int .i64 c2))] [] (by kernel_rfl) ?_
        refine RunS.one e_slices_EqualFunc_LLL_LLL_LL_LL__law09_Same_1_ok 0 rfl (op_q (wantedA_none rfl) rfl (q_indexAddr (a := .sl 1 (x1.map (cdL 1 (cdL 1 cdI)).enc)) (b := .v (.int .i64 c2)) (by kernel_rfl) (by kernel_rfl) (ix_sl (e := (cdL 1 (cdL 1 cdI)).enc) (el := 36) (k := 1) (ki := .i64) (by kernel_rfl) (by kernel_rfl) hv5))) ?_
        refine RunS.segF (n := 32) e_slices_EqualFunc_LLL_LLL_LL_LL__law09_Same_1_ok 2 [(1, .sl 1 (x1.map (cdL 1 (cdL 1 cdI)).enc)), (2, .fn 53 [] []), (8, .sl 1 (v4.map (cdL 1 cdI).enc)), (9, .sl 1 (v5.map (cdL 1 cdI).enc)), (15, .sl 1 (x0.map (cdL 1 (cdL 1 cdI)).enc)), (16, .v (.int .i64 (x0.length : Int))), (17, .v (.int .i64 c2))] [] (by kernel_rfl) ?_
        exact RunS.done rfl Wk.f1
      refine Sem.seq ?_
      obtain ⟨v6, hv6, h⟩ := Option.bind_eq_some_iff.1 h
      refine Sem.runS (s1 := ⟨Fr 32 [(1, .sl 1 (x1.map (cdL 1 (cdL 1 cdI)).enc)), (2, .fn 53 [] []), (15, .sl 1 (x0.map (cdL 1 (cdL 1 cdI)).enc)), (16, .v (.int .i64 (x0.length : Int))), (17, .v (.int .i64 c2)), (30, .v (.bool (!v6)))], []⟩) ?_ ?_
      · refine RunS.segF (n := 32) e_slices_EqualFunc_LLL_LLL_LL_LL__law09_Same_1_ok 3 [(1, .sl 1 (x1.map (cdL 1 (cdL 1 cdI)).enc)), (2, .fn 53 [] []), (15, .sl 1 (x0.map (cdL 1 (cdL 1 cdI)).enc)), (16, .v (.int .i64 (x0.length : Int))), (17, .v (.int .i64 c2)), (26, .fn 53 [] []), (27, .sl 1 (v4.map (cdL 1 cdI).enc)), (28, .sl 1 (v5.map (cdL 1 cdI).enc))] [] (by kernel_rfl) ?_
        refine RunS.call e_slices_EqualFunc_LLL_LLL_LL_LL__law09_Same_1_ok (fid := 53) (s := cs_law09_Same_1) (F := fun a => law09_Same_1 a.1 a.2.1) (er := er_law09_Same_1) (xs := [.sl 1 (v4.map (cdL 1 cdI).enc), .sl 1 (v5.map (cdL 1 cdI).enc)]) (a := (v4, v5, ())) rfl (wantedA_none rfl) (by kernel_rfl) (by kernel_rfl) (by kernel_rfl) (by kernel_rfl) (Sns.cons (Sn.enc (c := (cdL 1 (cdL 1 cdI))) (v := v4)) (Sns.cons (Sn.enc (c := (cdL 1 (cdL 1 cdI))) (v := v5)) Sns.nil)) (.inl (by kernel_rfl)) hv6 ?_
        refine RunS.segF (n := 32) e_slices_EqualFunc_LLL_LLL_LL_LL__law09_Same_1_ok 1 [(1, .sl 1 (x1.map (cdL 1 (cdL 1 cdI)).enc)), (2, .fn 53 [] []), (15, .sl 1 (x0.map (cdL 1 (cdL 1 cdI)).enc)), (16, .v (.int .i64 (x0.length : Int))), (17, .v (.int .i64 c2)), (30, .v (.bool (!v6)))] [] (by kernel_rfl) ?_
        exact RunS.done rfl Wk.f1
      refine Sem.cond (b := (!v6)) (by kernel_rfl) (fun hb7 => ?_) (fun hb7 => ?_)
      · rw [if_pos hb7] at h
        refine Sem.seq ?_
        refine Sem.runS (s1 := ⟨Fr 32 [(6, .v (.bool false))], []⟩) ?_ ?_
        · refine RunS.segF (n := 32) e_slices_EqualFunc_LLL_LLL_LL_LL__law09_Same_1_ok 1 [(6, .v (.bool false))] [] (by kernel_rfl) ?_
          exact RunS.done rfl Wk.f1
        refine Sem.ret ?_
        have hq := Option.some.inj h; subst hq
        exact ⟨rfl, Wk.f1⟩
      · rw [if_f hb7] at h
        refine Sem.skip ?_
        refine Sem.runS (s1 := ⟨Fr 32 [(1, .sl 1 (x1.map (cdL 1 (cdL 1 cdI)).enc)), (2, .fn 53 [] []), (15, .sl 1 (x0.map (cdL 1 (cdL 1 cdI)).enc)), (16, .v (.int .i64 (x0.length : Int))), (17, .v (.int .i64 (wr .i64 (c2 + 1))))], []⟩) ?_ ?_
        · refine RunS.segF (n := 32) e_slices_EqualFunc_LLL_LLL_LL_LL__law09_Same_1_ok 2 [(1, .sl 1 (x1.map (cdL 1 (cdL 1 cdI)).enc)), (2, .fn 53 [] []), (15, .sl 1 (x0.map (cdL 1 (cdL 1 cdI)).enc)), (16, .v (.int .i64 (x0.length : Int))), (17, .v (.int .i64 (wr .i64 (c2 + 1))))] [] (by kernel_rfl) ?_
          exact RunS.done rfl Wk.f1
        exact SemN.wk (s1 := ⟨Fr 32 [(1, .sl 1 (x1.map (cdL 1 (cdL 1 cdI)).enc)), (2, .fn 53 [] []), (15, .sl 1 (x0.map (cdL 1 (cdL 1 cdI)).enc)), (16, .v (.int .i64 (x0.length : Int))), (17, .v (.int .i64 (wr .i64 (c2 + 1))))], []⟩) Wk.f1 (ih (wr .i64 (c2 + 1)) h)
    · rw [if_f hb3] at h
      refine Sem.exit ?_
      have hq := Option.some.inj h; subst hq
      exact ⟨rfl, Wk.f1⟩
set_option maxHeartbeats 4000000 in
set_option maxRecDepth 100000 in
theorem slices_EqualFunc_LLL_LLL_LL_LL__law09_Same_1_sem (x0 : (List (List (List Int)))) (x1 : (List (List (List Int)))) (r : Bool) (h : slices_EqualFunc_LLL_LLL_LL_LL__law09_Same_1 x0 x1 = some r) : Sem e_slices_EqualFunc_LLL_LLL_LL_LL__law09_Same_1 ⟨none, false⟩ cb_slices_EqualFunc_LLL_LLL_LL_LL__law09_Same_1 ⟨Fr 32 (pairs0 0 [.sl 1 (x0.map (cdL 1 (cdL 1 cdI)).enc), .sl 1 (x1.map (cdL 1 (cdL 1 cdI)).enc), .fn 53 [] []]), []⟩ fun e s' => (e = .normal ∨ e = .ret) ∧ ∃ xs, resA e_slices_EqualFunc_LLL_LLL_LL_LL__law09_Same_1.P s'.fr s'.hp Tryd.f52.results.toList = some xs ∧ (retA xs = er_slices_EqualFunc_LLL_LLL_LL_LL__law09_Same_1 r ∧ s'.hp = []) := by
  unfold slices_EqualFunc_LLL_LLL_LL_LL__law09_Same_1 at h
  refine Sem.wkQ (Sem.wk (s1 := ⟨Fr 32 [(0, .sl 1 (x0.map (cdL 1 (cdL 1 cdI)).enc)), (1, .sl 1 (x1.map (cdL 1 (cdL 1 cdI)).enc)), (2, .fn 53 [] [])], []⟩) Wk.f1 ?_)
  refine Sem.seq ?_
  refine Sem.runS (s1 := ⟨Fr 32 [(0, .sl 1 (x0.map (cdL 1 (cdL 1 cdI)).enc)), (1, .sl 1 (x1.map (cdL 1 (cdL 1 cdI)).enc)), (2, .fn 53 [] [])], []⟩) ?_ ?_
  · refine RunS.segF (n := 32) e_slices_EqualFunc_LLL_LLL_LL_LL__law09_Same_1_ok 1 [(0, .sl 1 (x0.map (cdL 1 (cdL 1 cdI)).enc)), (1, .sl 1 (x1.map (cdL 1 (cdL 1 cdI)).enc)), (2, .fn 53 [] [])] [] (by kernel_rfl) ?_
    exact RunS.done rfl Wk.f1
  refine Sem.seq ?_
  refine Sem.seq ?_
  refine Sem.runS (s1 := ⟨Fr 32 [(0, .sl 1 (x0.map (cdL 1 (cdL 1 cdI)).enc)), (1, .sl 1 (x1.map (cdL 1 (cdL 1 cdI)).enc)), (2, .fn 53 [] []), (14, .v (.bool ((x0.length : Int) != (x1.length : Int))))], []⟩) ?_ ?_
  · refine RunS.segF (n := 32) e_slices_EqualFunc_LLL_LLL_LL_LL__law09_Same_1_ok 1 [(0, .sl 1 (x0.map (cdL 1 (cdL 1 cdI)).enc)), (1, .sl 1 (x1.map (cdL 1 (cdL 1 cdI)).enc)), (2, .fn 53 [] []), (10, .sl 1 (x0.map (cdL 1 (cdL 1 cdI)).enc))] [] (by kernel_rfl) ?_
    refine RunS.one e_slices_EqualFunc_LLL_LLL_LL_LL__law09_Same_1_ok 0 rfl (op_q (wantedA_none rfl) rfl (q_len (a := .sl 1 (x0.map (cdL 1 (cdL 1 cdI)).enc)) (by kernel_rfl) (len_sl (el := 36) (by kernel_rfl)))) ?_
    refine RunS.segF (n := 32) e_slices_EqualFunc_LLL_LLL_LL_LL__law09_Same_1_ok 1 [(0, .sl 1 (x0.map (cdL 1 (cdL 1 cdI)).enc)), (1, .sl 1 (x1.map (cdL 1 (cdL 1 cdI)).enc)), (2, .fn 53 [] []), (11, .v (.int .i64 (x0.length : Int))), (12, .sl 1 (x1.map (cdL 1 (cdL 1 cdI)).enc))] [] (by kernel_rfl) ?_
    refine RunS.one e_slices_EqualFunc_LLL_LLL_LL_LL__law09_Same_1_ok 0 rfl (op_q (wantedA_none rfl) rfl (q_len (a := .sl 1 (x1.map (cdL 1 (cdL 1 cdI)).enc)) (by kernel_rfl) (len_sl (el := 36) (by kernel_rfl)))) ?_
    refine RunS.segF (n := 32) e_slices_EqualFunc_LLL_LLL_LL_LL__law09_Same_1_ok 1 [(0, .sl 1 (x0.map (cdL 1 (cdL 1 cdI)).enc)), (1, .sl 1 (x1.map (cdL 1 (cdL 1 cdI)).enc)), (2, .fn 53 [] []), (14, .v (.bool ((x0.length : Int) != (x1.length : Int))))] [] (by kernel_rfl) ?_
    exact RunS.done rfl Wk.f1
  refine Sem.cond (b := ((x0.length : Int) != (x1.length : Int))) (by kernel_rfl) (fun hb1 => ?_) (fun hb1 => ?_)
  · rw [if_pos hb1] at h
    refine Sem.seq ?_
    refine Sem.runS (s1 := ⟨Fr 32 [(6, .v (.bool false))], []⟩) ?_ ?_
    · refine RunS.segF (n := 32) e_slices_EqualFunc_LLL_LLL_LL_LL__law09_Same_1_ok 1 [(6, .v (.bool false))] [] (by kernel_rfl) ?_
      exact RunS.done rfl Wk.f1
    refine Sem.ret ?_
    have hq := Option.some.inj h; subst hq
    exact ⟨⟨Fr 32 [(6, .v (.bool false))], []⟩, Wk.f1, .inr rfl, [.v (.bool false)], (by kernel_rfl), ⟨(by kernel_rfl), rfl⟩⟩
  · rw [if_f hb1] at h
    refine Sem.skip ?_
    refine Sem.seq ?_
    refine Sem.seq ?_
    refine Sem.runS (s1 := ⟨Fr 32 [(1, .sl 1 (x1.map (cdL 1 (cdL 1 cdI)).enc)), (2, .fn 53 [] []), (15, .sl 1 (x0.map (cdL 1 (cdL 1 cdI)).enc)), (16, .v (.int .i64 (x0.length : Int))), (17, .v (.int .i64 0))], []⟩) ?_ ?_
    · refine RunS.segF (n := 32) e_slices_EqualFunc_LLL_LLL_LL_LL__law09_Same_1_ok 1 [(1, .sl 1 (x1.map (cdL 1 (cdL 1 cdI)).enc)), (2, .fn 53 [] []), (15, .sl 1 (x0.map (cdL 1 (cdL 1 cdI)).enc))] [] (by kernel_rfl) ?_
      refine RunS.one e_slices_EqualFunc_LLL_LLL_LL_LL__law09_Same_1_ok 0 rfl (op_q (wantedA_none rfl) rfl (q_len (a := .sl 1 (x0.map (cdL 1 (cdL 1 cdI)).enc)) (by kernel_rfl) (len_sl (el := 36) (by kernel_rfl)))) ?_
      refine RunS.segF (n := 32) e_slices_EqualFunc_LLL_LLL_LL_LL__law09_Same_1_ok 1 [(1, .sl 1 (x1.map (cdL 1 (cdL 1 cdI)).enc)), (2, .fn 53 [] []), (15, .sl 1 (x0.map (cdL 1 (cdL 1 cdI)).enc)), (16, .v (.int .i64 (x0.length : Int))), (17, .v (.int .i64 0))] [] (by kernel_rfl) ?_
      exact RunS.done rfl Wk.f1
    refine Sem.block ?_
    obtain ⟨r9, hr9, h⟩ := Option.bind_eq_some_iff.1 h
    refine Sem.loop (n := 100000) ?_
    rcases r9 with w10 | w11
    · try dsimp only at h
      refine Sem.cutN (SemN.wk (s1 := ⟨Fr 32 [(1, .sl 1 (x1.map (cdL 1 (cdL 1 cdI)).enc)), (2, .fn 53 [] []), (15, .sl 1 (x0.map (cdL 1 (cdL 1 cdI)).enc)), (16, .v (.int .i64 (x0.length : Int))), (17, .v (.int .i64 0))], []⟩) Wk.f1 (slices_EqualFunc_LLL_LLL_LL_LL__law09_Same_1_1_ok x0 x1 _ 0 _ hr9)) ?_
      refine Sem.seq ?_
      refine Sem.runS (s1 := ⟨Fr 32 [(6, .v (.bool true))], []⟩) ?_ ?_
      · refine RunS.segF (n := 32) e_slices_EqualFunc_LLL_LLL_LL_LL__law09_Same_1_ok 1 [(6, .v (.bool true))] [] (by kernel_rfl) ?_
        exact RunS.done rfl Wk.f1
      refine Sem.ret ?_
      have hq := Option.some.inj h; subst hq
      exact ⟨⟨Fr 32 [(6, .v (.bool true))], []⟩, Wk.f1, .inr rfl, [.v (.bool true)], (by kernel_rfl), ⟨(by kernel_rfl), rfl⟩⟩
    · try dsimp only at h
      refine Sem.cutN (SemN.wk (s1 := ⟨Fr 32 [(1, .sl 1 (x1.map (cdL 1 (cdL 1 cdI)).enc)), (2, .fn 53 [] []), (15, .sl 1 (x0.map (cdL 1 (cdL 1 cdI)).enc)), (16, .v (.int .i64 (x0.length : Int))), (17, .v (.int .i64 0))], []⟩) Wk.f1 (slices_EqualFunc_LLL_LLL_LL_LL__law09_Same_1_1_ok x0 x1 _ 0 _ hr9)) ?_
      have hq := Option.some.inj h; subst hq
      exact ⟨⟨Fr 32 [(6, .v (.bool w11))], []⟩, Wk.f1, .inr rfl, [.v (.bool w11)], (by kernel_rfl), ⟨(by kernel_rfl), rfl⟩⟩
theorem s_slices_EqualFunc_LLL_LLL_LL_LL__law09_Same_1 (x0 : (List (List (List Int)))) (x1 : (List (List (List Int)))) (r : Bool) (h : slices_EqualFunc_LLL_LLL_LL_LL__law09_Same_1 x0 x1 = some r) : SOk 52 [.sl 1 (x0.map (cdL 1 (cdL 1 cdI)).enc), .sl 1 (x1.map (cdL 1 (cdL 1 cdI)).enc), .fn 53 [] []] (fun x h' => x = er_slices_EqualFunc_LLL_LLL_LL_LL__law09_Same_1 r ∧ h' = []) :=
  sok_of_sem e_slices_EqualFunc_LLL_LLL_LL_LL__law09_Same_1_ok rfl rfl (fn := Tryd.f52) (c := cb_slices_EqualFunc_LLL_LLL_LL_LL__law09_Same_1) (by kernel_rfl) (by kernel_rfl) ⟨Tryd.call52⟩ (by show 3 ≤ 32; decide) (slices_EqualFunc_LLL_LLL_LL_LL__law09_Same_1_sem x0 x1 r h)
/- trestle/trestlelaw09.Same -/
noncomputable def e_law09_Same : Env := E0
theorem e_law09_Same_ok : EnvOk e_law09_Same := E0_ok
noncomputable def cb_law09_Same : Code := codeOf Tryd.f20
def law09_Same (x0 : (List (List (List Int)))) (x1 : (List (List (List Int)))) : Option (Bool) :=
  (slices_EqualFunc_LLL_LLL_LL_LL__law09_Same_1 x0 x1).bind fun v1 =>
  some v1
def cs_law09_Same : Cs ((List (List (List Int))) × (List (List (List Int))) × Unit) := (csC (cdL 1 (cdL 1 (cdL 1 cdI))) (csC (cdL 1 (cdL 1 (cdL 1 cdI))) csN))
def er_law09_Same (r : Bool) : AV := cdB.enc r
set_option maxHeartbeats 4000000 in
set_option maxRecDepth 100000 in
theorem law09_Same_sem (x0 : (List (List (List Int)))) (x1 : (List (List (List Int)))) (r : Bool) (h : law09_Same x0 x1 = some r) : Sem e_law09_Same ⟨none, false⟩ cb_law09_Same ⟨Fr 8 (pairs0 0 (cs_law09_Same.enc (x0, x1, ()))), []⟩ fun e s' => (e = .normal ∨ e = .ret) ∧ ∃ xs, resA e_law09_Same.P s'.fr s'.hp Tryd.f20.results.toList = some xs ∧ retA xs = er_law09_Same r := by
  unfold law09_Same at h
  refine Sem.wkQ (Sem.wk (s1 := ⟨Fr 8 [(0, .sl 1 (x0.map (cdL 1 (cdL 1 cdI)).enc)), (1, .sl 1 (x1.map (cdL 1 (cdL 1 cdI)).enc))], []⟩) Wk.f1 ?_)
  refine Sem.seq ?_
  refine Sem.runS (s1 := ⟨Fr 8 [(0, .sl 1 (x0.map (cdL 1 (cdL 1 cdI)).enc)), (1, .sl 1 (x1.map (cdL 1 (cdL 1 cdI)).enc))], []⟩) ?_ ?_
  · refine RunS.segF (n := 8) e_law09_Same_ok 1 [(0, .sl 1 (x0.map (cdL 1 (cdL 1 cdI)).enc)), (1, .sl 1 (x1.map (cdL 1 (cdL 1 cdI)).enc))] [] (by kernel_rfl) ?_
    exact RunS.done rfl Wk.f1
  refine Sem.seq ?_
  obtain ⟨v1, hv1, h⟩ := Option.bind_eq_some_iff.1 h
  refine Sem.runS (s1 := ⟨Fr 8 [(4, .v (.bool v1))], []⟩) ?_ ?_
  · refine RunS.segF (n := 8) e_law09_Same_ok 2 [(5, .sl 1 (x0.map (cdL 1 (cdL 1 cdI)).enc)), (6, .sl 1 (x1.map (cdL 1 (cdL 1 cdI)).enc))] [] (by kernel_rfl) ?_
    refine RunS.callS rfl rfl (s_slices_EqualFunc_LLL_LLL_LL_LL__law09_Same_1 x0 x1 _ hv1) rfl (wantedA_none rfl) (by kernel_rfl) (xs := [.sl 1 (x0.map (cdL 1 (cdL 1 cdI)).enc), .sl 1 (x1.map (cdL 1 (cdL 1 cdI)).enc), .fn 53 [] []]) (by kernel_rfl) (by kernel_rfl) (by rintro x h' ⟨rfl, rfl⟩; exact ⟨rfl, rfl⟩) ?_
    rintro x h' ⟨rfl, rfl⟩
    refine RunS.segF (n := 8) e_law09_Same_ok 1 [(4, .v (.bool v1))] [] (by kernel_rfl) ?_
    exact RunS.done rfl Wk.f1
  refine Sem.ret ?_
  have hq := Option.some.inj h; subst hq
  exact ⟨⟨Fr 8 [(4, .v (.bool v1))], []⟩, Wk.f1, .inr rfl, [.v (.bool v1)], (by kernel_rfl), (by kernel_rfl)⟩
def t_law09_Same : List AV → Option AV := told cs_law09_Same (fun a => law09_Same a.1 a.2.1) er_law09_Same
theorem x_law09_Same : XOk 20 t_law09_Same := by
  refine EnvOk.x (E := e_law09_Same) (contract_ok e_law09_Same_ok (fn := Tryd.f20) (c := cb_law09_Same) ?h1 ?h2 ⟨Tryd.call20⟩ cs_law09_Same (fun a => law09_Same a.1 a.2.1) er_law09_Same (fun a => (by show 2 ≤ 8; decide)) ?h3 ?h4) rfl rfl
  case h1 => kernel_rfl
  case h2 => kernel_rfl
  case h3 => intro b; kernel_rfl
  case h4 => exact fun a b h => law09_Same_sem a.1 a.2.1 b h
/- trestle/trestleref09.has -/
noncomputable def e_ref09_has : Env := E0
theorem e_ref09_has_ok : EnvOk e_ref09_has := E0_ok
noncomputable def cb_ref09_has : Code := codeOf Tryd.f54
def ref09_has_1 (x0 : (List Int)) (x1 : Int) : Nat → Int → Option ((Unit) ⊕ (Bool))
  | 0, _ => none
  | f + 1, c1 =>
    if (decide (c1 < (x0.length : Int))) = true then
    (idx x0 c1).bind fun v3 =>
    if (v3 == x1) = true then
    some (.inr true)
    else
    ref09_has_1 x0 x1 f (wr .i64 (c1 + 1))
    else
    some (.inl ())
def ref09_has (x0 : (List Int)) (x1 : Int) : Option (Bool) :=
  (ref09_has_1 x0 x1 100000 0).bind fun r6 =>
  match r6 with
  | (.inl w7) =>
    some false
  | (.inr w8) =>
    some w8
def cs_ref09_has : Cs ((List Int) × Int × Unit) := (csC (cdL 1 cdI) (csC cdI csN))
def er_ref09_has (r : Bool) : AV := cdB.enc r
set_option maxHeartbeats 4000000 in
set_option maxRecDepth 100000 in
theorem ref09_has_1_ok (x0 : (List Int)) (x1 : Int) : ∀ (f : Nat) (c1 : Int) (r : (Unit) ⊕ (Bool)), ref09_has_1 x0 x1 f c1 = some r → SemN e_ref09_has ⟨none, false⟩ (pc cb_ref09_has [1, 0, 1, 0, 0]) f ⟨Fr 18 [(0, .sl 1 (x0.map cdI.enc)), (1, .v (.int .i64 x1)), (5, .v (.int .i64 c1))], []⟩ (fun e s => match r with
  | (.inl w) => e = (.exit 0) ∧ Wk e_ref09_has s ⟨Fr 18 [], []⟩
  | (.inr w) => e = .ret ∧ Wk e_ref09_has s ⟨Fr 18 [(4, .v (.bool w))], []⟩) := by
  intro f
  induction f with
  | zero => intro c1 r h; cases h
  | succ f ih0 =>
    intro c1 r h
    have ih := fun (c1 : Int) => ih0 c1 r
    unfold ref09_has_1 at h
    refine SemN.succ ?_
    refine Sem.seq ?_
    refine Sem.seq ?_
    refine Sem.runS (s1 := ⟨Fr 18 [(0, .sl 1 (x0.map cdI.enc)), (1, .v (.int .i64 x1)), (5, .v (.int .i64 c1)), (9, .v (.bool (decide (c1 < (x0.length : Int)))))], []⟩) ?_ ?_
    · refine RunS.segF (n := 18) e_ref09_has_ok 2 [(0, .sl 1 (x0.map cdI.enc)), (1, .v (.int .i64 x1)), (5, .v (.int .i64 c1)), (6, .v (.int .i64 c1)), (7, .sl 1 (x0.map cdI.enc))] [] (by kernel_rfl) ?_
      refine RunS.one e_ref09_has_ok 0 rfl (op_q (wantedA_none rfl) rfl (q_len (a := .sl 1 (x0.map cdI.enc)) (by kernel_rfl) (len_sl (el := 3) (by kernel_rfl)))) ?_
      refine RunS.segF (n := 18) e_ref09_has_ok 1 [(0, .sl 1 (x0.map cdI.enc)), (1, .v (.int .i64 x1)), (5, .v (.int .i64 c1)), (9, .v (.bool (decide (c1 < (x0.length : Int)))))] [] (by kernel_rfl) ?_
      exact RunS.done rfl Wk.f1
    refine Sem.cond (b := (decide (c1 < (x0.length : Int)))) (by kernel_rfl) (fun hb2 => ?_) (fun hb2 => ?_)
    · rw [if_pos hb2] at h
      refine Sem.skip ?_
      refine Sem.seq ?_
      refine Sem.block ?_
      refine Sem.seq ?_
      obtain ⟨v3, hv3, h⟩ := Option.bind_eq_some_iff.1 h
      refine Sem.runS (s1 := ⟨Fr 18 [(0, .sl 1 (x0.map cdI.enc)), (1, .v (.int .i64 x1)), (5, .v (.int .i64 c1)), (17, .v (.bool (v3 == x1)))], []⟩) ?_ ?_
      · refine RunS.segF (n := 18) e_ref09_has_ok 2 [(0, .sl 1 (x0.map cdI.enc)), (1, .v (.int .i64 x1)), (5, .v (.int .i64 c1)), (12, .sl 1 (x0.map cdI.enc)), (13, .v (.int .i64 c1))] [] (by kernel_rfl) ?_
        refine RunS.one e_ref09_has_ok 0 rfl (op_q (wantedA_none rfl) rfl (q_indexAddr (a := .sl 1 (x0.map cdI.enc)) (b := .v (.int .i64 c1)) (by kernel_rfl) (by kernel_rfl) (ix_sl (e := cdI.enc) (el := 3) (k := 1) (ki := .i64) (by kernel_rfl) (by kernel_rfl) hv3))) ?_
        refine RunS.segF (n := 18) e_ref09_has_ok 3 [(0, .sl 1 (x0.map cdI.enc)), (1, .v (.int .i64 x1)), (5, .v (.int .i64 c1)), (17, .v (.bool (v3 == x1)))] [] (by kernel_rfl) ?_
        exact RunS.done rfl Wk.f1
      refine Sem.cond (b := (v3 == x1)) (by kernel_rfl) (fun hb4 => ?_) (fun hb4 => ?_)
      · rw [if_pos hb4] at h
        refine Sem.seq ?_
        refine Sem.runS (s1 := ⟨Fr 18 [(4, .v (.bool true))], []⟩) ?_ ?_
        · refine RunS.segF (n := 18) e_ref09_has_ok 1 [(4, .v (.bool true))] [] (by kernel_rfl) ?_
          exact RunS.done rfl Wk.f1
        refine Sem.ret ?_
        have hq := Option.some.inj h; subst hq
        exact ⟨rfl, Wk.f1⟩
      · rw [if_f hb4] at h
        refine Sem.skip ?_
        refine Sem.runS (s1 := ⟨Fr 18 [(0, .sl 1 (x0.map cdI.enc)), (1, .v (.int .i64 x1)), (5, .v (.int .i64 (wr .i64 (c1 + 1))))], []⟩) ?_ ?_
        · refine RunS.segF (n := 18) e_ref09_has_ok 3 [(0, .sl 1 (x0.map cdI.enc)), (1, .v (.int .i64 x1)), (5, .v (.int .i64 (wr .i64 (c1 + 1))))] [] (by kernel_rfl) ?_
          exact RunS.done rfl Wk.f1
        exact SemN.wk (s1 := ⟨Fr 18 [(0, .sl 1 (x0.map cdI.enc)), (1, .v (.int .i64 x1)), (5, .v (.int .i64 (wr .i64 (c1 + 1))))], []⟩) Wk.f1 (ih (wr .i64 (c1 + 1)) h)
    · rw [if_f hb2] at h
      refine Sem.exit ?_
      have hq := Option.some.inj h; subst hq
      exact ⟨rfl, Wk.f1⟩
set_option maxHeartbeats 4000000 in
set_option maxRecDepth 100000 in
theorem ref09_has_sem (x0 : (List Int)) (x1 : Int) (r : Bool) (h : ref09_has x0 x1 = some r) : Sem e_ref09_has ⟨none, false⟩ cb_ref09_has ⟨Fr 18 (pairs0 0 (cs_ref09_has.enc (x0, x1, ()))), []⟩ fun e s' => (e = .normal ∨ e = .ret) ∧ ∃ xs, resA e_ref09_has.P s'.fr s'.hp Tryd.f54.results.toList = some xs ∧ retA xs = er_ref09_has r := by
  unfold ref09_has at h
  refine Sem.wkQ (Sem.wk (s1 := ⟨Fr 18 [(0, .sl 1 (x0.map cdI.enc)), (1, .v (.int .i64 x1))], []⟩) Wk.f1 ?_)
  refine Sem.seq ?_
  refine Sem.runS (s1 := ⟨Fr 18 [(0, .sl 1 (x0.map cdI.enc)), (1, .v (.int .i64 x1))], []⟩) ?_ ?_
  · refine RunS.segF (n := 18) e_ref09_has_ok 1 [(0, .sl 1 (x0.map cdI.enc)), (1, .v (.int .i64 x1))] [] (by kernel_rfl) ?_
    exact RunS.done rfl Wk.f1
  refine Sem.seq ?_
  refine Sem.seq ?_
  refine Sem.runS (s1 := ⟨Fr 18 [(0, .sl 1 (x0.map cdI.enc)), (1, .v (.int .i64 x1)), (5, .v (.int .i64 0))], []⟩) ?_ ?_
  · refine RunS.segF (n := 18) e_ref09_has_ok 1 [(0, .sl 1 (x0.map cdI.enc)), (1, .v (.int .i64 x1)), (5, .v (.int .i64 0))] [] (by kernel_rfl) ?_
    exact RunS.done rfl Wk.f1
  refine Sem.block ?_
  obtain ⟨r6, hr6, h⟩ := Option.bind_eq_some_iff.1 h
  refine Sem.loop (n := 100000) ?_
  rcases r6 with w7 | w8
  · try dsimp only at h
    refine Sem.cutN (SemN.wk (s1 := ⟨Fr 18 [(0, .sl 1 (x0.map cdI.enc)), (1, .v (.int .i64 x1)), (5, .v (.int .i64 0))], []⟩) Wk.f1 (ref09_has_1_ok x0 x1 _ 0 _ hr6)) ?_
    refine Sem.seq ?_
    refine Sem.runS (s1 := ⟨Fr 18 [(4, .v (.bool false))], []⟩) ?_ ?_
    · refine RunS.segF (n := 18) e_ref09_has_ok 1 [(4, .v (.bool false))] [] (by kernel_rfl) ?_
      exact RunS.done rfl Wk.f1
    refine Sem.ret ?_
    have hq := Option.some.inj h; subst hq
    exact ⟨⟨Fr 18 [(4, .v (.bool false))], []⟩, Wk.f1, .inr rfl, [.v (.bool false)], (by kernel_rfl), (by kernel_rfl)⟩
  · try dsimp only at h
    refine Sem.cutN (SemN.wk (s1 := ⟨Fr 18 [(0, .sl 1 (x0.map cdI.enc)), (1, .v (.int .i64 x1)), (5, .v (.int .i64 0))], []⟩) Wk.f1 (ref09_has_1_ok x0 x1 _ 0 _ hr6)) ?_
    have hq := Option.some.inj h; subst hq
    exact ⟨⟨Fr 18 [(4, .v (.bool w8))], []⟩, Wk.f1, .inr rfl, [.v (.bool w8)], (by kernel_rfl), (by kernel_rfl)⟩
def t_ref09_has : List AV → Option AV := told cs_ref09_has (fun a => ref09_has a.1 a.2.1) er_ref09_has
theorem x_ref09_has : XOk 54 t_ref09_has := by
  refine EnvOk.x (E := e_ref09_has) (contract_ok e_ref09_has_ok (fn := Tryd.f54) (c := cb_ref09_has) ?h1 ?h2 ⟨Tryd.call54⟩ cs_ref09_has (fun a => ref09_has a.1 a.2.1) er_ref09_has (fun a => (by show 2 ≤ 18; decide)) ?h3 ?h4) rfl rfl
  case h1 => kernel_rfl
  case h2 => kernel_rfl
  case h3 => intro b; kernel_rfl
  case h4 => exact fun a b h => ref09_has_sem a.1 a.2.1 b h
/- trestle/trestleref09.Together -/
noncomputable def e_ref09_Together : Env := (E0.withX 54 t_ref09_has)
theorem e_ref09_Together_ok : EnvOk e_ref09_Together := (EnvOk.withX E0_ok x_ref09_has.1 x_ref09_has.2)
noncomputable def cb_ref09_Together : Code := codeOf Tryd.f22
def ref09_Together_j3 (x0 : (List (List (List Int)))) (x1 : Int) (x2 : Int) (c2 : Int) (c5 : Int) (j16 : (List Int) × Bool) : Option (((List Int))) :=
  if j16.2 = true then
  if (capOk 8 (j16.1.length + 1)) = true then
  some (j16.1 ++ [c2])
  else none
  else
  some j16.1
def ref09_Together_2 (x0 : (List (List (List Int)))) (x1 : Int) (x2 : Int) (c2 : Int) : Nat → (List Int) → Int → Option (((List Int)))
  | 0, _, _ => none
  | f + 1, c4, c5 =>
    (idx x0 c2).bind fun v6 =>
    if (decide (c5 < (v6.length : Int))) = true then
    (idx x0 c2).bind fun v8 =>
    (idx v8 c5).bind fun v9 =>
    (ref09_has v9 x1).bind fun v10 =>
    (if v10 = true then (idx x0 c2).bind fun v11 =>
    (idx v11 c5).bind fun v12 =>
    (ref09_has v12 x2).bind fun v13 =>
    some (c4, v13) else some (c4, false)).bind fun j16 =>
    (ref09_Together_j3 x0 x1 x2 c2 c5 j16).bind fun r20 =>
    ref09_Together_2 x0 x1 x2 c2 f r20 (wr .i64 (c5 + 1))
    else
    some c4
def ref09_Together_1 (x0 : (List (List (List Int)))) (x1 : Int) (x2 : Int) : Nat → (List Int) → Int → Option (((List Int)))
  | 0, _, _ => none
  | f + 1, c1, c2 =>
    if (decide (c2 < (x0.length : Int))) = true then
    (ref09_Together_2 x0 x1 x2 c2 100000 c1 0).bind fun r23 =>
    ref09_Together_1 x0 x1 x2 f r23 (wr .i64 (c2 + 1))
    else
    some c1
def ref09_Together (x0 : (List (List (List Int)))) (x1 : Int) (x2 : Int) : Option ((List Int)) :=
  (ref09_Together_1 x0 x1 x2 100000 [] 0).bind fun r25 =>
  some r25
def cs_ref09_Together : Cs ((List (List (List Int))) × Int × Int × Unit) := (csC (cdL 1 (cdL 1 (cdL 1 cdI))) (csC cdI (csC cdI csN)))
def er_ref09_Together (r : (List Int)) : AV := (cdL 1 cdI).enc r
set_option maxHeartbeats 4000000 in
set_option maxRecDepth 100000 in
theorem ref09_Together_j3_ok (x0 : (List (List (List Int)))) (x1 : Int) (x2 : Int) (c2 : Int) (c5 : Int) (j16 : (List Int) × Bool) (r : ((List Int))) (h : ref09_Together_j3 x0 x1 x2 c2 c5 j16 = some r) : Sem e_ref09_Together ⟨none, false⟩ (pc cb_ref09_Together [1, 1, 0, 1, 0, 0, 1, 0, 0, 1, 0, 0, 1, 0, 0, 1]) ⟨Fr 50 [(0, .sl 1 (x0.map (cdL 1 (cdL 1 cdI)).enc)), (1, .v (.int .i64 x1)), (2, .v (.int .i64 x2)), (7, hd 0 (j16.1.map cdI.enc)), (8, .v (.int .i64 c2)), (9, .v (.int .i64 c5)), (44, .v (.bool j16.2))], [mk 1 3 (j16.1.map cdI.enc)]⟩ (fun e s => e = .normal ∧ Wk e_ref09_Together s ⟨Fr 50 [(0, .sl 1 (x0.map (cdL 1 (cdL 1 cdI)).enc)), (1, .v (.int .i64 x1)), (2, .v (.int .i64 x2)), (7, hd 0 (r.map cdI.enc)), (8, .v (.int .i64 c2)), (9, .v (.int .i64 c5))], [mk 1 3 (r.map cdI.enc)]⟩) := by
  unfold ref09_Together_j3 at h
  refine Sem.cond (b := j16.2) (by kernel_rfl) (fun hb17 => ?_) (fun hb17 => ?_)
  · rw [if_pos hb17] at h
    by_cases hk18 : (capOk 8 (j16.1.length + 1)) = true
    case neg => rw [if_neg hk18] at h; cases h
    rw [if_pos hk18] at h
    refine Sem.runS (s1 := ⟨Fr 50 [(0, .sl 1 (x0.map (cdL 1 (cdL 1 cdI)).enc)), (1, .v (.int .i64 x1)), (2, .v (.int .i64 x2)), (7, hd 0 ((j16.1 ++ [c2]).map cdI.enc)), (8, .v (.int .i64 c2)), (9, .v (.int .i64 c5))], [mk 1 3 ((j16.1 ++ [c2]).map cdI.enc)]⟩) ?_ ?_
    · refine RunS.segF (n := 50) e_ref09_Together_ok 3 [(0, .sl 1 (x0.map (cdL 1 (cdL 1 cdI)).enc)), (1, .v (.int .i64 x1)), (2, .v (.int .i64 x2)), (8, .v (.int .i64 c2)), (9, .v (.int .i64 c5)), (45, hd 0 (j16.1.map cdI.enc)), (47, hd 1 ([c2].map cdI.enc))] [mk 1 3 (j16.1.map cdI.enc), mk 1 3 ([c2].map cdI.enc)] (by kernel_rfl) ?_
      refine RunS.one e_ref09_Together_ok 0 rfl (op_w (wantedA_none rfl) rfl (by kernel_rfl) (by kernel_rfl) (w_append (a := hd 0 (j16.1.map cdI.enc)) (b := hd 1 ([c2].map cdI.enc)) (by kernel_rfl) (by kernel_rfl) (append_B (c := cdI) (xs := j16.1) (vs := [c2]) (k := 1) (bytes := 8) (el := 3) (by kernel_rfl) (by kernel_rfl) (elems_hd (t := 3) (by kernel_rfl)) (List.cons_ne_nil _ _) (by kernel_rfl) hk18))) ?_
      refine RunS.segF (n := 50) e_ref09_Together_ok 1 [(0, .sl 1 (x0.map (cdL 1 (cdL 1 cdI)).enc)), (1, .v (.int .i64 x1)), (2, .v (.int .i64 x2)), (7, hd 2 ((j16.1 ++ [c2]).map cdI.enc)), (8, .v (.int .i64 c2)), (9, .v (.int .i64 c5))] [none, mk 1 3 ([c2].map cdI.enc), mk 1 3 ((j16.1 ++ [c2]).map cdI.enc)] (by kernel_rfl) ?_
      exact RunS.done rfl (Wk.s3 [2] ⟨⟨_, rfl, bu_mk⟩, trivial⟩ ⟨lv, lv, lv, lu_hd (b' := 2) (by kernel_rfl) (by kernel_rfl), lv, lv, trivial⟩)
    have hq := Option.some.inj h; subst hq
    exact ⟨rfl, (Wk.s3 [0] ⟨⟨_, rfl, bu_mk⟩, trivial⟩ ⟨lv, lv, lv, lu_hd (b' := 0) (by kernel_rfl) (by kernel_rfl), lv, lv, trivial⟩)⟩
  · rw [if_f hb17] at h
    refine Sem.skip ?_
    have hq := Option.some.inj h; subst hq
    exact ⟨rfl, (Wk.s3 [0] ⟨⟨_, rfl, bu_mk⟩, trivial⟩ ⟨lv, lv, lv, lu_hd (b' := 0) (by kernel_rfl) (by kernel_rfl), lv, lv, trivial⟩)⟩
set_option maxHeartbeats 4000000 in
set_option maxRecDepth 100000 in
theorem ref09_Together_2_ok (x0 : (List (List (List Int)))) (x1 : Int) (x2 : Int) (c2 : Int) : ∀ (f : Nat) (c4 : (List Int)) (c5 : Int) (r : ((List Int))), ref09_Together_2 x0 x1 x2 c2 f c4 c5 = some r → SemN e_ref09_Together ⟨none, false⟩ (pc cb_ref09_Together [1, 1, 0, 1, 0, 0, 1, 0, 0, 1, 0, 0]) f ⟨Fr 50 [(0, .sl 1 (x0.map (cdL 1 (cdL 1 cdI)).enc)), (1, .v (.int .i64 x1)), (2, .v (.int .i64 x2)), (7, hd 0 (c4.map cdI.enc)), (8, .v (.int .i64 c2)), (9, .v (.int .i64 c5))], [mk 1 3 (c4.map cdI.enc)]⟩ (fun e s => e = (.exit 2) ∧ Wk e_ref09_Together s ⟨Fr 50 [(0, .sl 1 (x0.map (cdL 1 (cdL 1 cdI)).enc)), (1, .v (.int .i64 x1)), (2, .v (.int .i64 x2)), (7, hd 0 (r.map cdI.enc)), (8, .v (.int .i64 c2))], [mk 1 3 (r.map cdI.enc)]⟩) := by
  intro f
  induction f with
  | zero => intro c4 c5 r h; cases h
  | succ f ih0 =>
    intro c4 c5 r h
    have ih := fun (c4 : (List Int)) (c5 : Int) => ih0 c4 c5 r
    unfold ref09_Together_2 at h
    refine SemN.succ ?_
    refine Sem.seq ?_
    refine Sem.seq ?_
    obtain ⟨v6, hv6, h⟩ := Option.bind_eq_some_iff.1 h
    refine Sem.runS (s1 := ⟨Fr 50 [(0, .sl 1 (x0.map (cdL 1 (cdL 1 cdI)).enc)), (1, .v (.int .i64 x1)), (2, .v (.int .i64 x2)), (7, hd 0 (c4.map cdI.enc)), (8, .v (.int .i64 c2)), (9, .v (.int .i64 c5)), (22, .v (.bool (decide (c5 < (v6.length : Int)))))], [mk 1 3 (c4.map cdI.enc)]⟩) ?_ ?_
    · refine RunS.segF (n := 50) e_ref09_Together_ok 3 [(0, .sl 1 (x0.map (cdL 1 (cdL 1 cdI)).enc)), (1, .v (.int .i64 x1)), (2, .v (.int .i64 x2)), (7, hd 0 (c4.map cdI.enc)), (8, .v (.int .i64 c2)), (9, .v (.int .i64 c5)), (16, .v (.int .i64 c5)), (17, .sl 1 (x0.map (cdL 1 (cdL 1 cdI)).enc)), (18, .v (.int .i64 c2))] [mk 1 3 (c4.map cdI.enc)] (by kernel_rfl) ?_
      refine RunS.one e_ref09_Together_ok 0 rfl (op_q (wantedA_none rfl) rfl (q_indexAddr (a := .sl 1 (x0.map (cdL 1 (cdL 1 cdI)).enc)) (b := .v (.int .i64 c2)) (by kernel_rfl) (by kernel_rfl) (ix_sl (e := (cdL 1 (cdL 1 cdI)).enc) (el := 36) (k := 1) (ki := .i64) (by kernel_rfl) (by kernel_rfl) hv6))) ?_
      refine RunS.segF (n := 50) e_ref09_Together_ok 1 [(0, .sl 1 (x0.map (cdL 1 (cdL 1 cdI)).enc)), (1, .v (.int .i64 x1)), (2, .v (.int .i64 x2)), (7, hd 0 (c4.map cdI.enc)), (8, .v (.int .i64 c2)), (9, .v (.int .i64 c5)), (16, .v (.int .i64 c5)), (20, .sl 1 (v6.map (cdL 1 cdI).enc))] [mk 1 3 (c4.map cdI.enc)] (by kernel_rfl) ?_
      refine RunS.one e_ref09_Together_ok 0 rfl (op_q (wantedA_none rfl) rfl (q_len (a := .sl 1 (v6.map (cdL 1 cdI).enc)) (by kernel_rfl) (len_sl (el := 29) (by kernel_rfl)))) ?_
      refine RunS.segF (n := 50) e_ref09_Together_ok 1 [(0, .sl 1 (x0.map (cdL 1 (cdL 1 cdI)).enc)), (1, .v (.int .i64 x1)), (2, .v (.int .i64 x2)), (7, hd 0 (c4.map cdI.enc)), (8, .v (.int .i64 c2)), (9, .v (.int .i64 c5)), (22, .v (.bool (decide (c5 < (v6.length : Int)))))] [mk 1 3 (c4.map cdI.enc)] (by kernel_rfl) ?_
      exact RunS.done rfl (Wk.s3 [0] ⟨⟨_, rfl, bu_mk⟩, trivial⟩ ⟨lv, lv, lv, lu_hd (b' := 0) (by kernel_rfl) (by kernel_rfl), lv, lv, lv, trivial⟩)
    refine Sem.cond (b := (decide (c5 < (v6.length : Int)))) (by kernel_rfl) (fun hb7 => ?_) (fun hb7 => ?_)
    · rw [if_pos hb7] at h
      refine Sem.skip ?_
      refine Sem.seq ?_
      refine Sem.block ?_
      refine Sem.seq ?_
      obtain ⟨v8, hv8, h⟩ := Option.bind_eq_some_iff.1 h
      obtain ⟨v9, hv9, h⟩ := Option.bind_eq_some_iff.1 h
      obtain ⟨v10, hv10, h⟩ := Option.bind_eq_some_iff.1 h
      obtain ⟨j16, hj16, h⟩ := Option.bind_eq_some_iff.1 h
      refine Sem.runS (s1 := ⟨Fr 50 [(0, .sl 1 (x0.map (cdL 1 (cdL 1 cdI)).enc)), (1, .v (.int .i64 x1)), (2, .v (.int .i64 x2)), (7, hd 0 (j16.1.map cdI.enc)), (8, .v (.int .i64 c2)), (9, .v (.int .i64 c5)), (44, .v (.bool j16.2))], [mk 1 3 (j16.1.map cdI.enc)]⟩) ?_ ?_
      · refine RunS.segF (n := 50) e_ref09_Together_ok 2 [(0, .sl 1 (x0.map (cdL 1 (cdL 1 cdI)).enc)), (1, .v (.int .i64 x1)), (2, .v (.int .i64 x2)), (7, hd 0 (c4.map cdI.enc)), (8, .v (.int .i64 c2)), (9, .v (.int .i64 c5)), (25, .sl 1 (x0.map (cdL 1 (cdL 1 cdI)).enc)), (26, .v (.int .i64 c2))] [mk 1 3 (c4.map cdI.enc)] (by kernel_rfl) ?_
        refine RunS.one e_ref09_Together_ok 0 rfl (op_q (wantedA_none rfl) rfl (q_indexAddr (a := .sl 1 (x0.map (cdL 1 (cdL 1 cdI)).enc)) (b := .v (.int .i64 c2)) (by kernel_rfl) (by kernel_rfl) (ix_sl (e := (cdL 1 (cdL 1 cdI)).enc) (el := 36) (k := 1) (ki := .i64) (by kernel_rfl) (by kernel_rfl) hv8))) ?_
        refine RunS.segF (n := 50) e_ref09_Together_ok 2 [(0, .sl 1 (x0.map (cdL 1 (cdL 1 cdI)).enc)), (1, .v (.int .i64 x1)), (2, .v (.int .i64 x2)), (7, hd 0 (c4.map cdI.enc)), (8, .v (.int .i64 c2)), (9, .v (.int .i64 c5)), (28, .sl 1 (v8.map (cdL 1 cdI).enc)), (29, .v (.int .i64 c5))] [mk 1 3 (c4.map cdI.enc)] (by kernel_rfl) ?_
        refine RunS.one e_ref09_Together_ok 0 rfl (op_q (wantedA_none rfl) rfl (q_indexAddr (a := .sl 1 (v8.map (cdL 1 cdI).enc)) (b := .v (.int .i64 c5)) (by kernel_rfl) (by kernel_rfl) (ix_sl (e := (cdL 1 cdI).enc) (el := 29) (k := 1) (ki := .i64) (by kernel_rfl) (by kernel_rfl) hv9))) ?_
        refine RunS.segF (n := 50) e_ref09_Together_ok 2 [(0, .sl 1 (x0.map (cdL 1 (cdL 1 cdI)).enc)), (1, .v (.int .i64 x1)), (2, .v (.int .i64 x2)), (7, hd 0 (c4.map cdI.enc)), (8, .v (.int .i64 c2)), (9, .v (.int .i64 c5)), (31, .sl 1 (v9.map cdI.enc)), (32, .v (.int .i64 x1))] [mk 1 3 (c4.map cdI.enc)] (by kernel_rfl) ?_
        refine RunS.call e_ref09_Together_ok (fid := 54) (s := cs_ref09_has) (F := fun a => ref09_has a.1 a.2.1) (er := er_ref09_has) (xs := [.sl 1 (v9.map cdI.enc), .v (.int .i64 x1)]) (a := (v9, x1, ())) rfl (wantedA_none rfl) (by kernel_rfl) (by kernel_rfl) (by kernel_rfl) (by kernel_rfl) (Sns.cons (Sn.enc (c := (cdL 1 cdI)) (v := v9)) (Sns.cons (Sn.enc (c := cdI) (v := x1)) Sns.nil)) (.inl (by kernel_rfl)) hv10 ?_
        refine RunS.segF (n := 50) e_ref09_Together_ok 1 [(0, .sl 1 (x0.map (cdL 1 (cdL 1 cdI)).enc)), (1, .v (.int .i64 x1)), (2, .v (.int .i64 x2)), (7, hd 0 (c4.map cdI.enc)), (8, .v (.int .i64 c2)), (9, .v (.int .i64 c5)), (34, .v (.bool v10))] [mk 1 3 (c4.map cdI.enc)] (by kernel_rfl) ?_
        rcases Bool.eq_false_or_eq_true v10 with hc21 | hc21
        · rw [if_pos hc21] at hj16
          rw [hc21]
          refine RunS.segF (n := 50) e_ref09_Together_ok 2 [(0, .sl 1 (x0.map (cdL 1 (cdL 1 cdI)).enc)), (1, .v (.int .i64 x1)), (2, .v (.int .i64 x2)), (7, hd 0 (c4.map cdI.enc)), (8, .v (.int .i64 c2)), (9, .v (.int .i64 c5)), (34, .v (.bool true)), (35, .sl 1 (x0.map (cdL 1 (cdL 1 cdI)).enc)), (36, .v (.int .i64 c2))] [mk 1 3 (c4.map cdI.enc)] (by kernel_rfl) ?_
          obtain ⟨v11, hv11, hj16⟩ := Option.bind_eq_some_iff.1 hj16
          refine RunS.one e_ref09_Together_ok 0 rfl (op_q (by kernel_rfl) rfl (q_indexAddr (a := .sl 1 (x0.map (cdL 1 (cdL 1 cdI)).enc)) (b := .v (.int .i64 c2)) (by kernel_rfl) (by kernel_rfl) (ix_sl (e := (cdL 1 (cdL 1 cdI)).enc) (el := 36) (k := 1) (ki := .i64) (by kernel_rfl) (by kernel_rfl) hv11))) ?_
          refine RunS.segF (n := 50) e_ref09_Together_ok 2 [(0, .sl 1 (x0.map (cdL 1 (cdL 1 cdI)).enc)), (1, .v (.int .i64 x1)), (2, .v (.int .i64 x2)), (7, hd 0 (c4.map cdI.enc)), (8, .v (.int .i64 c2)), (9, .v (.int .i64 c5)), (34, .v (.bool true)), (35, .sl 1 (x0.map (cdL 1 (cdL 1 cdI)).enc)), (36, .v (.int .i64 c2)), (37, .pe (.sl 1 (v11.map (cdL 1 cdI).enc)) 0), (38, .sl 1 (v11.map (cdL 1 cdI).enc)), (39, .v (.int .i64 c5))] [mk 1 3 (c4.map cdI.enc)] (by kernel_rfl) ?_
          obtain ⟨v12, hv12, hj16⟩ := Option.bind_eq_some_iff.1 hj16
          refine RunS.one e_ref09_Together_ok 0 rfl (op_q (by kernel_rfl) rfl (q_indexAddr (a := .sl 1 (v11.map (cdL 1 cdI).enc)) (b := .v (.int .i64 c5)) (by kernel_rfl) (by kernel_rfl) (ix_sl (e := (cdL 1 cdI).enc) (el := 29) (k := 1) (ki := .i64) (by kernel_rfl) (by kernel_rfl) hv12))) ?_
          refine RunS.segF (n := 50) e_ref09_Together_ok 2 [(0, .sl 1 (x0.map (cdL 1 (cdL 1 cdI)).enc)), (1, .v (.int .i64 x1)), (2, .v (.int .i64 x2)), (7, hd 0 (c4.map cdI.enc)), (8, .v (.int .i64 c2)), (9, .v (.int .i64 c5)), (34, .v (.bool true)), (35, .sl 1 (x0.map (cdL 1 (cdL 1 cdI)).enc)), (36, .v (.int .i64 c2)), (37, .pe (.sl 1 (v11.map (cdL 1 cdI).enc)) 0), (38, .sl 1 (v11.map (cdL 1 cdI).enc)), (39, .v (.int .i64 c5)), (40, .pe (.sl 1 (v12.map cdI.enc)) 0), (41, .sl 1 (v12.map cdI.enc)), (42, .v (.int .i64 x2))] [mk 1 3 (c4.map cdI.enc)] (by kernel_rfl) ?_
          obtain ⟨v13, hv13, hj16⟩ := Option.bind_eq_some_iff.1 hj16
          refine RunS.call e_ref09_Together_ok (fid := 54) (s := cs_ref09_has) (F := fun a => ref09_has a.1 a.2.1) (er := er_ref09_has) (xs := [.sl 1 (v12.map cdI.enc), .v (.int .i64 x2)]) (a := (v12, x2, ())) rfl (by kernel_rfl) (by kernel_rfl) (by kernel_rfl) (by kernel_rfl) (by kernel_rfl) (Sns.cons (Sn.enc (c := (cdL 1 cdI)) (v := v12)) (Sns.cons (Sn.enc (c := cdI) (v := x2)) Sns.nil)) (.inl (by kernel_rfl)) hv13 ?_
          refine RunS.segF (n := 50) e_ref09_Together_ok 1 [(0, .sl 1 (x0.map (cdL 1 (cdL 1 cdI)).enc)), (1, .v (.int .i64 x1)), (2, .v (.int .i64 x2)), (7, hd 0 (c4.map cdI.enc)), (8, .v (.int .i64 c2)), (9, .v (.int .i64 c5)), (35, .sl 1 (x0.map (cdL 1 (cdL 1 cdI)).enc)), (36, .v (.int .i64 c2)), (37, .pe (.sl 1 (v11.map (cdL 1 cdI).enc)) 0), (38, .sl 1 (v11.map (cdL 1 cdI).enc)), (39, .v (.int .i64 c5)), (40, .pe (.sl 1 (v12.map cdI.enc)) 0), (41, .sl 1 (v12.map cdI.enc)), (42, .v (.int .i64 x2)), (43, .v (.bool v13)), (44, .v (.bool v13))] [mk 1 3 (c4.map cdI.enc)] (by kernel_rfl) ?_
          have hq := Option.some.inj hj16; subst hq
          exact RunS.done rfl (Wk.s3 [0] ⟨⟨_, rfl, bu_mk⟩, trivial⟩ ⟨lv, lv, lv, lu_hd (b' := 0) (by kernel_rfl) (by kernel_rfl), lv, lv, lv, trivial⟩)
        · rw [if_f hc21] at hj16
          rw [hc21]
          refine RunS.segF (n := 50) e_ref09_Together_ok 10 [(0, .sl 1 (x0.map (cdL 1 (cdL 1 cdI)).enc)), (1, .v (.int .i64 x1)), (2, .v (.int .i64 x2)), (7, hd 0 (c4.map cdI.enc)), (8, .v (.int .i64 c2)), (9, .v (.int .i64 c5)), (35, .tp []), (36, .tp []), (37, .tp []), (38, .tp []), (39, .tp []), (40, .tp []), (41, .tp []), (42, .tp []), (43, .tp []), (44, .v (.bool false))] [mk 1 3 (c4.map cdI.enc)] (by kernel_rfl) ?_
          have hq := Option.some.inj hj16; subst hq
          exact RunS.done rfl (Wk.s3 [0] ⟨⟨_, rfl, bu_mk⟩, trivial⟩ ⟨lv, lv, lv, lu_hd (b' := 0) (by kernel_rfl) (by kernel_rfl), lv, lv, lv, trivial⟩)
      obtain ⟨r20, hr20, h⟩ := Option.bind_eq_some_iff.1 h
      refine Sem.cut (ref09_Together_j3_ok x0 x1 x2 c2 c5 j16 _ hr20) ?_
      refine Sem.runS (s1 := ⟨Fr 50 [(0, .sl 1 (x0.map (cdL 1 (cdL 1 cdI)).enc)), (1, .v (.int .i64 x1)), (2, .v (.int .i64 x2)), (7, hd 0 (r20.map cdI.enc)), (8, .v (.int .i64 c2)), (9, .v (.int .i64 (wr .i64 (c5 + 1))))], [mk 1 3 (r20.map cdI.enc)]⟩) ?_ ?_
      · refine RunS.segF (n := 50) e_ref09_Together_ok 3 [(0, .sl 1 (x0.map (cdL 1 (cdL 1 cdI)).enc)), (1, .v (.int .i64 x1)), (2, .v (.int .i64 x2)), (7, hd 0 (r20.map cdI.enc)), (8, .v (.int .i64 c2)), (9, .v (.int .i64 (wr .i64 (c5 + 1))))] [mk 1 3 (r20.map cdI.enc)] (by kernel_rfl) ?_
        exact RunS.done rfl (Wk.s3 [0] ⟨⟨_, rfl, bu_mk⟩, trivial⟩ ⟨lv, lv, lv, lu_hd (b' := 0) (by kernel_rfl) (by kernel_rfl), lv, lv, trivial⟩)
      exact SemN.wk (s1 := ⟨Fr 50 [(0, .sl 1 (x0.map (cdL 1 (cdL 1 cdI)).enc)), (1, .v (.int .i64 x1)), (2, .v (.int .i64 x2)), (7, hd 0 (r20.map cdI.enc)), (8, .v (.int .i64 c2)), (9, .v (.int .i64 (wr .i64 (c5 + 1))))], [mk 1 3 (r20.map cdI.enc)]⟩) (Wk.s3 [0] ⟨⟨_, rfl, bu_mk⟩, trivial⟩ ⟨lv, lv, lv, lu_hd (b' := 0) (by kernel_rfl) (by kernel_rfl), lv, lv, trivial⟩) (ih r20 (wr .i64 (c5 + 1)) h)
    · rw [if_f hb7] at h
      refine Sem.exit ?_
      have hq := Option.some.inj h; subst hq
      exact ⟨rfl, (Wk.s3 [0] ⟨⟨_, rfl, bu_mk⟩, trivial⟩ ⟨lv, lv, lv, lu_hd (b' := 0) (by kernel_rfl) (by kernel_rfl), lv, trivial⟩)⟩
set_option maxHeartbeats 4000000 in
set_option maxRecDepth 100000 in
theorem ref09_Together_1_ok (x0 : (List (List (List Int)))) (x1 : Int) (x2 : Int) : ∀ (f : Nat) (c1 : (List Int)) (c2 : Int) (r : ((List Int))), ref09_Together_1 x0 x1 x2 f c1 c2 = some r → SemN e_ref09_Together ⟨none, false⟩ (pc cb_ref09_Together [1, 1, 0, 1, 0, 0]) f ⟨Fr 50 [(0, .sl 1 (x0.map (cdL 1 (cdL 1 cdI)).enc)), (1, .v (.int .i64 x1)), (2, .v (.int .i64 x2)), (7, hd 0 (c1.map cdI.enc)), (8, .v (.int .i64 c2))], [mk 1 3 (c1.map cdI.enc)]⟩ (fun e s => e = (.exit 0) ∧ Wk e_ref09_Together s ⟨Fr 50 [(7, hd 0 (r.map cdI.enc))], [mk 1 3 (r.map cdI.enc)]⟩) := by
  intro f
  induction f with
  | zero => intro c1 c2 r h; cases h
  | succ f ih0 =>
    intro c1 c2 r h
    have ih := fun (c1 : (List Int)) (c2 : Int) => ih0 c1 c2 r
    unfold ref09_Together_1 at h
    refine SemN.succ ?_
    refine Sem.seq ?_
    refine Sem.seq ?_
    refine Sem.runS (s1 := ⟨Fr 50 [(0, .sl 1 (x0.map (cdL 1 (cdL 1 cdI)).enc)), (1, .v (.int .i64 x1)), (2, .v (.int .i64 x2)), (7, hd 0 (c1.map cdI.enc)), (8, .v (.int .i64 c2)), (13, .v (.bool (decide (c2 < (x0.length : Int)))))], [mk 1 3 (c1.map cdI.enc)]⟩) ?_ ?_
    · refine RunS.segF (n := 50) e_ref09_Together_ok 2 [(0, .sl 1 (x0.map (cdL 1 (cdL 1 cdI)).enc)), (1, .v (.int .i64 x1)), (2, .v (.int .i64 x2)), (7, hd 0 (c1.map cdI.enc)), (8, .v (.int .i64 c2)), (10, .v (.int .i64 c2)), (11, .sl 1 (x0.map (cdL 1 (cdL 1 cdI)).enc))] [mk 1 3 (c1.map cdI.enc)] (by kernel_rfl) ?_
      refine RunS.one e_ref09_Together_ok 0 rfl (op_q (wantedA_none rfl) rfl (q_len (a := .sl 1 (x0.map (cdL 1 (cdL 1 cdI)).enc)) (by kernel_rfl) (len_sl (el := 36) (by kernel_rfl)))) ?_
      refine RunS.segF (n := 50) e_ref09_Together_ok 1 [(0, .sl 1 (x0.map (cdL 1 (cdL 1 cdI)).enc)), (1, .v (.int .i64 x1)), (2, .v (.int .i64 x2)), (7, hd 0 (c1.map cdI.enc)), (8, .v (.int .i64 c2)), (13, .v (.bool (decide (c2 < (x0.length : Int)))))] [mk 1 3 (c1.map cdI.enc)] (by kernel_rfl) ?_
      exact RunS.done rfl (Wk.s3 [0] ⟨⟨_, rfl, bu_mk⟩, trivial⟩ ⟨lv, lv, lv, lu_hd (b' := 0) (by kernel_rfl) (by kernel_rfl), lv, lv, trivial⟩)
    refine Sem.cond (b := (decide (c2 < (x0.length : Int)))) (by kernel_rfl) (fun hb3 => ?_) (fun hb3 => ?_)
    · rw [if_pos hb3] at h
      refine Sem.skip ?_
      refine Sem.seq ?_
      refine Sem.block ?_
      refine Sem.seq ?_
      refine Sem.runS (s1 := ⟨Fr 50 [(0, .sl 1 (x0.map (cdL 1 (cdL 1 cdI)).enc)), (1, .v (.int .i64 x1)), (2, .v (.int .i64 x2)), (7, hd 0 (c1.map cdI.enc)), (8, .v (.int .i64 c2)), (9, .v (.int .i64 0))], [mk 1 3 (c1.map cdI.enc)]⟩) ?_ ?_
      · refine RunS.segF (n := 50) e_ref09_Together_ok 1 [(0, .sl 1 (x0.map (cdL 1 (cdL 1 cdI)).enc)), (1, .v (.int .i64 x1)), (2, .v (.int .i64 x2)), (7, hd 0 (c1.map cdI.enc)), (8, .v (.int .i64 c2)), (9, .v (.int .i64 0))] [mk 1 3 (c1.map cdI.enc)] (by kernel_rfl) ?_
        exact RunS.done rfl (Wk.s3 [0] ⟨⟨_, rfl, bu_mk⟩, trivial⟩ ⟨lv, lv, lv, lu_hd (b' := 0) (by kernel_rfl) (by kernel_rfl), lv, lv, trivial⟩)
      refine Sem.block ?_
      obtain ⟨r23, hr23, h⟩ := Option.bind_eq_some_iff.1 h
      refine Sem.loop (n := 100000) ?_
      refine Sem.cutN (SemN.wk (s1 := ⟨Fr 50 [(0, .sl 1 (x0.map (cdL 1 (cdL 1 cdI)).enc)), (1, .v (.int .i64 x1)), (2, .v (.int .i64 x2)), (7, hd 0 (c1.map cdI.enc)), (8, .v (.int .i64 c2)), (9, .v (.int .i64 0))], [mk 1 3 (c1.map cdI.enc)]⟩) (Wk.s3 [0] ⟨⟨_, rfl, bu_mk⟩, trivial⟩ ⟨lv, lv, lv, lu_hd (b' := 0) (by kernel_rfl) (by kernel_rfl), lv, lv, trivial⟩) (ref09_Together_2_ok x0 x1 x2 c2 _ c1 0 _ hr23)) ?_
      refine Sem.runS (s1 := ⟨Fr 50 [(0, .sl 1 (x0.map (cdL 1 (cdL 1 cdI)).enc)), (1, .v (.int .i64 x1)), (2, .v (.int .i64 x2)), (7, hd 0 (r23.map cdI.enc)), (8, .v (.int .i64 (wr .i64 (c2 + 1))))], [mk 1 3 (r23.map cdI.enc)]⟩) ?_ ?_
      · refine RunS.segF (n := 50) e_ref09_Together_ok 3 [(0, .sl 1 (x0.map (cdL 1 (cdL 1 cdI)).enc)), (1, .v (.int .i64 x1)), (2, .v (.int .i64 x2)), (7, hd 0 (r23.map cdI.enc)), (8, .v (.int .i64 (wr .i64 (c2 + 1))))] [mk 1 3 (r23.map cdI.enc)] (by kernel_rfl) ?_
        exact RunS.done rfl (Wk.s3 [0] ⟨⟨_, rfl, bu_mk⟩, trivial⟩ ⟨lv, lv, lv, lu_hd (b' := 0) (by kernel_rfl) (by kernel_rfl), lv, trivial⟩)
      exact SemN.wk (s1 := ⟨Fr 50 [(0, .sl 1 (x0.map (cdL 1 (cdL 1 cdI)).enc)), (1, .v (.int .i64 x1)), (2, .v (.int .i64 x2)), (7, hd 0 (r23.map cdI.enc)), (8, .v (.int .i64 (wr .i64 (c2 + 1))))], [mk 1 3 (r23.map cdI.enc)]⟩) (Wk.s3 [0] ⟨⟨_, rfl, bu_mk⟩, trivial⟩ ⟨lv, lv, lv, lu_hd (b' := 0) (by kernel_rfl) (by kernel_rfl), lv, trivial⟩) (ih r23 (wr .i64 (c2 + 1)) h)
    · rw [if_f hb3] at h
      refine Sem.exit ?_
      have hq := Option.some.inj h; subst hq
      exact ⟨rfl, (Wk.s3 [0] ⟨⟨_, rfl, bu_mk⟩, trivial⟩ ⟨lu_hd (b' := 0) (by kernel_rfl) (by kernel_rfl), trivial⟩)⟩
set_option maxHeartbeats 4000000 in
set_option maxRecDepth 100000 in
theorem ref09_Together_sem (x0 : (List (List (List Int)))) (x1 : Int) (x2 : Int) (r : (List Int)) (h : ref09_Together x0 x1 x2 = some r) : Sem e_ref09_Together ⟨none, false⟩ cb_ref09_Together ⟨Fr 50 (pairs0 0 (cs_ref09_Together.enc (x0, x1, x2, ()))), []⟩ fun e s' => (e = .normal ∨ e = .ret) ∧ ∃ xs, resA e_ref09_Together.P s'.fr s'.hp Tryd.f22.results.toList = some xs ∧ retA xs = er_ref09_Together r := by
  unfold ref09_Together at h
  refine Sem.wkQ (Sem.wk (s1 := ⟨Fr 50 [(0, .sl 1 (x0.map (cdL 1 (cdL 1 cdI)).enc)), (1, .v (.int .i64 x1)), (2, .v (.int .i64 x2))], []⟩) Wk.f1 ?_)
  refine Sem.seq ?_
  refine Sem.runS (s1 := ⟨Fr 50 [(0, .sl 1 (x0.map (cdL 1 (cdL 1 cdI)).enc)), (1, .v (.int .i64 x1)), (2, .v (.int .i64 x2))], []⟩) ?_ ?_
  · refine RunS.segF (n := 50) e_ref09_Together_ok 1 [(0, .sl 1 (x0.map (cdL 1 (cdL 1 cdI)).enc)), (1, .v (.int .i64 x1)), (2, .v (.int .i64 x2))] [] (by kernel_rfl) ?_
    exact RunS.done rfl Wk.f1
  refine Sem.seq ?_
  refine Sem.runS (s1 := ⟨Fr 50 [(0, .sl 1 (x0.map (cdL 1 (cdL 1 cdI)).enc)), (1, .v (.int .i64 x1)), (2, .v (.int .i64 x2)), (7, .e0)], []⟩) ?_ ?_
  · refine RunS.segF (n := 50) e_ref09_Together_ok 1 [(0, .sl 1 (x0.map (cdL 1 (cdL 1 cdI)).enc)), (1, .v (.int .i64 x1)), (2, .v (.int .i64 x2)), (7, .e0)] [] (by kernel_rfl) ?_
    exact RunS.done rfl Wk.f1
  refine Sem.seq ?_
  refine Sem.seq ?_
  refine Sem.runS (s1 := ⟨Fr 50 [(0, .sl 1 (x0.map (cdL 1 (cdL 1 cdI)).enc)), (1, .v (.int .i64 x1)), (2, .v (.int .i64 x2)), (7, .e0), (8, .v (.int .i64 0))], []⟩) ?_ ?_
  · refine RunS.segF (n := 50) e_ref09_Together_ok 1 [(0, .sl 1 (x0.map (cdL 1 (cdL 1 cdI)).enc)), (1, .v (.int .i64 x1)), (2, .v (.int .i64 x2)), (7, .e0), (8, .v (.int .i64 0))] [] (by kernel_rfl) ?_
    exact RunS.done rfl Wk.f1
  refine Sem.block ?_
  obtain ⟨r25, hr25, h⟩ := Option.bind_eq_some_iff.1 h
  refine Sem.loop (n := 100000) ?_
  refine Sem.cutN (SemN.wk (s1 := ⟨Fr 50 [(0, .sl 1 (x0.map (cdL 1 (cdL 1 cdI)).enc)), (1, .v (.int .i64 x1)), (2, .v (.int .i64 x2)), (7, hd 0 ([].map cdI.enc)), (8, .v (.int .i64 0))], [mk 1 3 ([].map cdI.enc)]⟩) (Wk.trans (s1 := ⟨Fr 50 [(0, .sl 1 (x0.map (cdL 1 (cdL 1 cdI)).enc)), (1, .v (.int .i64 x1)), (2, .v (.int .i64 x2)), (7, hd 0 ([].map cdI.enc)), (8, .v (.int .i64 0))], [mk 1 3 ([].map cdI.enc)]⟩) Wk.none (Wk.s3 [0] ⟨⟨_, rfl, bu_none⟩, trivial⟩ ⟨lv, lv, lv, lv, lv, trivial⟩)) (ref09_Together_1_ok x0 x1 x2 _ [] 0 _ hr25)) ?_
  refine Sem.seq ?_
  refine Sem.runS (s1 := ⟨Fr 50 [(6, hd 0 (r25.map cdI.enc))], [mk 1 3 (r25.map cdI.enc)]⟩) ?_ ?_
  · refine RunS.segF (n := 50) e_ref09_Together_ok 2 [(6, hd 0 (r25.map cdI.enc))] [mk 1 3 (r25.map cdI.enc)] (by kernel_rfl) ?_
    exact RunS.done rfl (Wk.s3 [0] ⟨⟨_, rfl, bu_mk⟩, trivial⟩ ⟨lu_hd (b' := 0) (by kernel_rfl) (by kernel_rfl), trivial⟩)
  refine Sem.ret ?_
  have hq := Option.some.inj h; subst hq
  exact ⟨⟨Fr 50 [(6, .sl 1 (r25.map cdI.enc))], []⟩, (Wk.trans (s1 := ⟨Fr 50 [(6, .sl 1 (r25.map cdI.enc))], [none]⟩) (Wk.frzG 0 (.inl (by kernel_rfl)) ⟨.inl rfl, trivial⟩ ⟨⟨hd 0 (r25.map cdI.enc), (by kernel_rfl), fz_hd (t := 3) (by kernel_rfl) enc_ok⟩, trivial⟩) (Wk.s3 [] trivial ⟨lv, trivial⟩)), .inr rfl, [.sl 1 (r25.map cdI.enc)], (by kernel_rfl), (by kernel_rfl)⟩
def t_ref09_Together : List AV → Option AV := told cs_ref09_Together (fun a => ref09_Together a.1 a.2.1 a.2.2.1) er_ref09_Together
theorem x_ref09_Together : XOk 22 t_ref09_Together := by
  refine EnvOk.x (E := e_ref09_Together) (contract_ok e_ref09_Together_ok (fn := Tryd.f22) (c := cb_ref09_Together) ?h1 ?h2 ⟨Tryd.call22⟩ cs_ref09_Together (fun a => ref09_Together a.1 a.2.1 a.2.2.1) er_ref09_Together (fun a => (by show 3 ≤ 50; decide)) ?h3 ?h4) rfl rfl
  case h1 => kernel_rfl
  case h2 => kernel_rfl
  case h3 => intro b; kernel_rfl
  case h4 => exact fun a b h => ref09_Together_sem a.1 a.2.1 a.2.2.1 b h
end Go.Proofs.YtnmkejapogklmaaDoor
