/- Lemmas for the proof. -/
import Derived.Test.YtcmgmkepodbpkaaDoorEveningRelabelsM1
import Derived.Test.YtcmgmkepodbpkaaDoorEveningRelabelsM2
import Derived.Test.YtcmgmkepodbpkaaDoorEveningRelabelsM3
import Derived.Test.YtcmgmkepodbpkaaDoorEveningRelabelsM4
import Derived.Test.YtcmgmkepodbpkaaDoorEveningRelabelsM5
namespace Go.Proofs.YtcmgmkepodbpkaaDoor
open Go.RowKit
/-- What is told of a function that only looks: the frozen memory is that of before. -/
def POk (f : FuncId) (g : List AV → Option AV) : Prop := Callable E0.P f ∧ ∀ xs x, g xs = some x → ∀ w Z us, (∀ c, Z c → c < w.heap.size) → VRs w Z [] xs us → Ret E0.P f us.toArray w fun v w' => w.grownBy w' none ∧ VR w' Z [] x v
theorem vr_nil {w : World} {Z : Nat → Prop} {R : List RI} {x : AV} {v : Value} (hv : VR w Z [] x v) (hnx : noRf x = true) : VR w Z R x v := by
  cases hv with
  | v h => exact .v h
  | st h hn => exact .st h hn
  | e0 => exact .e0
  | sl hn hl hc hm ha hx => exact .sl hn hl hc hm ha hx
  | pe hs h3 h1 hu hx => exact .pe hs h3 h1 hu hx
  | _ => simp [noRf] at hnx
section
variable {E : Env} {ops : Array Oper} {rest rest' : List Oper} {K : St → Prop} {n n0 k : Nat} {l : List (Nat × AV)} {hp : Hp}
theorem RunDS.peek (hP : E.P = E0.P) {α β : Type} {s : Cs α} {F : α → Option β} {er : β → AV} {u : α} {v : β} {fid : FuncId} (hX : POk fid (told s F er)) {d : Nat} {f : Operand} {args : Array Operand} {tys : Array TypeId} {ty : TypeId} {pos : String} {af : Array Edge} {g : Option (Nat × Bool)} (hr : rest = ⟨some d, .call ⟨.value f, args, tys⟩, ty, pos, af, g⟩ :: rest') (hw : wantedA ops (Fr n l) ⟨some d, .call ⟨.value f, args, tys⟩, ty, pos, af, g⟩ = some true)
    (hf : opA E (Fr n l) f = some (.fn fid [] [])) (ha : opds (opA E (Fr n l)) args.toList = some (s.enc u)) (hnx : noRf (er v) = true) (hF : F u = some v) (kk : RunDS E ops n0 (k + 1) rest' ⟨Fr n ((d, er v) :: l), hp⟩ K) : RunDS E ops n0 k rest ⟨Fr n l, hp⟩ K := by
  subst hr
  intro base Q w0 Z R0 h0 a w R hh0 hn0 hT sr hgr st hpre hTk hlen hops q
  have hok : ops[k]? = some ⟨some d, .call ⟨.value f, args, tys⟩, ty, pos, af, g⟩ := by have := hops 0; simpa using this.symm
  have hops' : ∀ j, rest'[j]? = ops[k + 1 + j]? := fun j => by have := hops (j + 1); simpa [Nat.add_assoc, Nat.add_comm 1 j] using this
  have hlen' : k + 1 + rest'.length = ops.size := by simp at hlen ⊢; omega
  have hTk' : tailAt ops = tailGo rest' (k + 1) := by
    rw [hTk]
    conv => lhs; unfold tailGo; rw [if_neg (by simp [isW])]
  refine ⟨fun _ => hgr, ?_⟩
  rw [if_pos (wantedA_eq sr hw)]
  have hq : isQ (.call ⟨.value f, args, tys⟩ : Op) = false := rfl
  rw [if_pos (by simp [hok, hq])]
  have hρ : ∀ o x, opA E (Fr n l) o = some x → VR w Z R x (a.eval o) := fun o x e => opA_vr sr o x e
  have hva : a.eval f = .func (.func fid) #[] #[] := by
    have := hρ _ _ hf
    generalize a.eval f = vf at this
    cases this with
    | fn hl hl' hx hy =>
      rename_i u1 u2
      have e1 : u1 = [] := by simpa using hl
      have e2 : u2 = [] := by simpa using hl'
      subst e1 e2; rfl
  have hcl : Callable E.P fid := hP ▸ hX.1
  unfold Lw
  rw [run_call (uf := []) (uc := []) rfl hva rfl hcl w]
  simp only [List.nil_append, List.append_nil]
  have hret := hX.2 (s.enc u) (er v) (told_enc hF) w Z _ sr.hh.zlt (noRfs_vr (s.nr u) (opds_vr hρ ha))
  rw [← hP] at hret
  refine Ret.mono hret fun v w' ⟨hg1, hv⟩ => ?_
  have stp : Step w Z R hp w' Z R hp := ⟨hg1.os, hg1.tape, hg1.output, hg1.size, fun c hc _ => hg1.block c hc (by simp), fun _ h => .inl h, fun _ h => h, fun _ h => .inl h, fun _ _ h => h⟩
  have hh' : HR w' Z R hp := sr.hh.keep hg1.size (fun c hc => hg1.block c hc (by simp))
  have sr' : SR E base w' Z R ⟨Fr n l, hp⟩ a := sr.step hh' stp
  exact kk base Q w0 Z R0 h0 _ w' R hh0 hn0 hT (by have := sr'.put (d := some d) (vr_nil hv hnx); rwa [putA_Fr] at this) (pu_trans hgr hg1) (st.trans stp) hpre hTk' hlen' hops' q
end
def square_at (s : Int × List Int) (x y : Int) : Option Int := if 0 ≤ s.1 ∧ s.1 ≤ 64 ∧ 0 ≤ x ∧ x < s.1 ∧ 0 ≤ y ∧ y < s.1 then idx s.2 (x * s.1 + y) else none
def cs_square_at : Cs ((Int × List Int) × Int × Int × Unit) := (csC (cdG2 cdI (cdL 1 cdI) (fun _ => rfl) (fun _ => rfl)) (csC cdI (csC cdI csN)))
def er_square_at (r : Int) : AV := .pe (cdI.enc r) 0
theorem x_square_at : POk 73 (told cs_square_at (fun a => square_at a.1 a.2.1 a.2.2.1) er_square_at) := by
  refine ⟨⟨Tryd.call73⟩, fun xs x h w Z us hz hv => ?_⟩
  obtain ⟨⟨⟨n, cells⟩, p, q, u⟩, ha, hh⟩ := Option.bind_eq_some_iff.1 h
  obtain ⟨r, hb, rfl⟩ := Option.map_eq_some_iff.1 hh
  clear h hh
  replace hv := cs_square_at.vr ha hv
  clear ha
  obtain ⟨u1, r1, rfl, h1, hv1⟩ := hv.head
  obtain ⟨u2, r2, rfl, h2, hv2⟩ := hv1.head
  obtain ⟨u3, r3, rfl, h3, hv3⟩ := hv2.head
  have hr3 : r3 = [] := List.eq_nil_of_length_eq_zero hv3.len
  subst hr3
  clear hv hv1 hv2 hv3
  rw [h2.v_inv, h3.v_inv]
  simp only [square_at] at hb
  split at hb
  · next hc =>
    obtain ⟨c1, c2, c3, c4, c5, c6⟩ := hc
    have hi : 0 ≤ p * n + q := Int.add_nonneg (Int.mul_nonneg c3 c1) c5
    unfold idx at hb
    rw [if_pos hi] at hb
    obtain ⟨hlt, hge⟩ := List.getElem?_eq_some_iff.1 hb
    cases h1 with
    | ag hl hh hx =>
      rename_i us
      match us, hl, hx with
      | [v1, v2], hl0, hx0 =>
        have e1 := (hx0 0 _ v1 rfl rfl).v_inv
        have e2 : VR w Z [] (.sl 1 (cells.map cdI.enc)) v2 := hx0 1 _ v2 rfl rfl
        clear hx0 hl0
        rw [e1]
        cases e2 with
        | sl hn hl hc hm ha hx =>
          rename_i c n' A us
          rw [List.length_map] at hn hl
          obtain ⟨a, h1, h2, h3, h4⟩ := ha (by omega)
          have hus : (p * n + q).toNat < us.length := by omega
          have hu := List.getElem?_eq_getElem hus
          have e3 := (hx _ (cdI.enc cells[(p * n + q).toNat]) _ (by rw [List.getElem?_map, List.getElem?_eq_getElem hlt]; rfl) hu).v_inv
          rw [hge] at e3
          have h5 := (h4 _ _ hu).2.2 0 (.int .i64 r) (by rw [e3]; rfl)
          subst h1
          have hblk := hz _ h3
          refine Ret.mono (atZ_ok n p q a n' c w ⟨c1, c2⟩ ⟨c3, c4⟩ ⟨c5, c6⟩ (by omega)) fun v w' ⟨hg, hv⟩ => ⟨hg, ?_⟩
          subst hv
          have ea : a.add ((p * n + q).toNat * 1) = ⟨a.block, a.off + (p * n + q).toNat + 0, none⟩ := by
            cases a
            simp only at h2
            subst h2
            simp [Addr.add]
          rw [ea]
          refine .pe (a := ⟨a.block, a.off + (p * n + q).toNat, none⟩) (u := .int .i64 r) rfl h3 (fun s hs => ?_) (fun j s hs => ?_) (.v rfl)
          · have : s = .int .i64 r := by simpa [Value.cells] using hs
            rw [this]; rfl
          · match j, hs with
            | 0, hs =>
              have hs' : s = .int .i64 r := by simpa [Value.cells] using hs.symm
              subst hs'
              have h6 : w.cell? ⟨a.block, a.off + (p * n + q).toNat + 0, none⟩ = some (.int .i64 r) := by
                simpa using h5
              have h7 : w'.cell? ⟨a.block, a.off + (p * n + q).toNat + 0, none⟩ = w.cell? ⟨a.block, a.off + (p * n + q).toNat + 0, none⟩ := World.cell?_of_block (hg.block _ hblk (by simp))
              exact h7.trans h6
            | j + 1, hs => simp [Value.cells] at hs
  · cases hb
/- trestle/evening.extremes -/
noncomputable def e_evening_extremes : Env := (E0.withX 80 t_evening_meetings)
theorem e_evening_extremes_ok : EnvOk e_evening_extremes := (EnvOk.withX E0_ok x_evening_meetings.1 x_evening_meetings.2)
noncomputable def cb_evening_extremes : Code := codeOf Tryd.f85
def evening_extremes_2 (x0 : Int) (v1 : (Int × (List Int))) (c33 : Int) : Nat → Int → Int → Int → Option ((Int × Int))
  | 0, _, _, _ => none
  | f + 1, c47, c48, c49 =>
    if (decide (c49 < c33)) = true then
    (square_at (v1.1, v1.2) c33 c49).bind fun v51 =>
    (square_at (v1.1, v1.2) c33 c49).bind fun v52 =>
    evening_extremes_2 x0 v1 c33 f (mnI c47 v51) (mxI c48 v52) (wr .i64 (c49 + 1))
    else
    some (c47, c48)
def evening_extremes_1 (x0 : Int) (v1 : (Int × (List Int))) : Nat → Int → Int → Int → Option ((Int × Int))
  | 0, _, _, _ => none
  | f + 1, c31, c32, c33 =>
    if (decide (c33 < x0)) = true then
    (evening_extremes_2 x0 v1 c33 100000 c31 c32 0).bind fun r55 =>
    evening_extremes_1 x0 v1 f r55.1 r55.2 (wr .i64 (c33 + 1))
    else
    some (c31, c32)
def evening_extremes_j3 (x0 : Int) (r58 : Int × Int) : Option ((Int)) :=
  if (x0 == 1) = true then
  some 0
  else
  some r58.1
def evening_extremes (x0 : Int) (x1 : (List (List (List Int)))) : Option (Int × Int) :=
  (evening_meetings x0 x1).bind fun v1 =>
  (evening_extremes_1 x0 v1 100000 64 0 0).bind fun r58 =>
  (evening_extremes_j3 x0 r58).bind fun r61 =>
  some (r61, r58.2)
def cs_evening_extremes : Cs (Int × (List (List (List Int))) × Unit) := (csC cdI (csC (cdL 1 (cdL 1 (cdL 1 cdI))) csN))
def er_evening_extremes (r : Int × Int) : AV := .tp [cdI.enc r.1, cdI.enc r.2]
set_option maxHeartbeats 4000000 in
set_option maxRecDepth 100000 in
theorem evening_extremes_2_ok (x0 : Int) (v1 : (Int × (List Int))) (c33 : Int) : ∀ (f : Nat) (c47 : Int) (c48 : Int) (c49 : Int) (r : (Int × Int)), evening_extremes_2 x0 v1 c33 f c47 c48 c49 = some r → SemN e_evening_extremes ⟨none, false⟩ (pc cb_evening_extremes [1, 1, 1, 0, 1, 0, 0, 1, 1, 0, 0, 1, 1, 0, 0]) f ⟨Fr 44 [(0, .v (.int .i64 x0)), (6, .pt 0 0 0), (7, .v (.int .i64 c47)), (8, .v (.int .i64 c48)), (9, .v (.int .i64 c33)), (14, .v (.int .i64 x0)), (15, .v (.int .i64 c33)), (18, .v (.int .i64 c33)), (19, .v (.int .i64 c49))], [some ⟨2, 94, [.ag [.v (.int .i64 v1.1), .sl 1 (v1.2.map cdI.enc)]], false⟩]⟩ (fun e s => e = (.exit 2) ∧ Wk e_evening_extremes s ⟨Fr 44 [(0, .v (.int .i64 x0)), (6, .pt 0 0 0), (7, .v (.int .i64 r.1)), (8, .v (.int .i64 r.2)), (14, .v (.int .i64 x0)), (15, .v (.int .i64 c33))], [some ⟨2, 94, [.ag [.v (.int .i64 v1.1), .sl 1 (v1.2.map cdI.enc)]], false⟩]⟩) := by
  intro f
  induction f with
  | zero => intro c47 c48 c49 r h; cases h
  | succ f ih0 =>
    intro c47 c48 c49 r h
    have ih := fun (c47 : Int) (c48 : Int) (c49 : Int) => ih0 c47 c48 c49 r
    unfold evening_extremes_2 at h
    refine SemN.succ ?_
    refine Sem.seq ?_
    refine Sem.runS (s1 := ⟨Fr 44 [(0, .v (.int .i64 x0)), (6, .pt 0 0 0), (7, .v (.int .i64 c47)), (8, .v (.int .i64 c48)), (9, .v (.int .i64 c33)), (14, .v (.int .i64 x0)), (15, .v (.int .i64 c33)), (18, .v (.int .i64 c33)), (19, .v (.int .i64 c49)), (20, .v (.bool (decide (c49 < c33))))], [some ⟨2, 94, [.ag [.v (.int .i64 v1.1), .sl 1 (v1.2.map cdI.enc)]], false⟩]⟩) ?_ ?_
    · refine RunS.segF (n := 44) e_evening_extremes_ok 1 [(0, .v (.int .i64 x0)), (6, .pt 0 0 0), (7, .v (.int .i64 c47)), (8, .v (.int .i64 c48)), (9, .v (.int .i64 c33)), (14, .v (.int .i64 x0)), (15, .v (.int .i64 c33)), (18, .v (.int .i64 c33)), (19, .v (.int .i64 c49)), (20, .v (.bool (decide (c49 < c33))))] [some ⟨2, 94, [.ag [.v (.int .i64 v1.1), .sl 1 (v1.2.map cdI.enc)]], false⟩] (by kernel_rfl) ?_
      exact RunS.done rfl (Wk.s3 [0] ⟨⟨_, rfl, bu_d⟩, trivial⟩ ⟨lv, lv, lv, lv, lv, lv, lv, lv, lv, lv, trivial⟩)
    refine Sem.seq ?_
    refine Sem.cond (b := (decide (c49 < c33))) (by kernel_rfl) (fun hb50 => ?_) (fun hb50 => ?_)
    · rw [if_pos hb50] at h
      refine Sem.skip ?_
      refine Sem.seq ?_
      refine Sem.block ?_
      refine Sem.seq ?_
      refine Sem.runS (s1 := ⟨Fr 44 [(0, .v (.int .i64 x0)), (6, .pt 0 0 0), (7, .v (.int .i64 c47)), (8, .v (.int .i64 c48)), (9, .v (.int .i64 c33)), (10, .v (.int .i64 c49)), (14, .v (.int .i64 x0)), (15, .v (.int .i64 c33)), (18, .v (.int .i64 c33)), (19, .v (.int .i64 c49))], [some ⟨2, 94, [.ag [.v (.int .i64 v1.1), .sl 1 (v1.2.map cdI.enc)]], false⟩]⟩) ?_ ?_
      · refine RunS.segF (n := 44) e_evening_extremes_ok 2 [(0, .v (.int .i64 x0)), (6, .pt 0 0 0), (7, .v (.int .i64 c47)), (8, .v (.int .i64 c48)), (9, .v (.int .i64 c33)), (10, .v (.int .i64 c49)), (14, .v (.int .i64 x0)), (15, .v (.int .i64 c33)), (18, .v (.int .i64 c33)), (19, .v (.int .i64 c49))] [some ⟨2, 94, [.ag [.v (.int .i64 v1.1), .sl 1 (v1.2.map cdI.enc)]], false⟩] (by kernel_rfl) ?_
        exact RunS.done rfl (Wk.s3 [0] ⟨⟨_, rfl, bu_d⟩, trivial⟩ ⟨lv, lv, lv, lv, lv, lv, lv, lv, lv, lv, trivial⟩)
      obtain ⟨v51, hv51, h⟩ := Option.bind_eq_some_iff.1 h
      obtain ⟨v52, hv52, h⟩ := Option.bind_eq_some_iff.1 h
      refine Sem.runDS e_evening_extremes_ok (s1 := ⟨Fr 44 [(0, .v (.int .i64 x0)), (6, .pt 0 0 0), (7, .v (.int .i64 (mnI c47 v51))), (8, .v (.int .i64 (mxI c48 v52))), (9, .v (.int .i64 c33)), (14, .v (.int .i64 x0)), (15, .v (.int .i64 c33)), (18, .v (.int .i64 c33)), (19, .v (.int .i64 c49))], [some ⟨2, 94, [.ag [.v (.int .i64 v1.1), .sl 1 (v1.2.map cdI.enc)]], false⟩]⟩) (by kernel_rfl) ?_ ?_
      · refine RunDS.segF (n := 44) e_evening_extremes_ok 4 [(0, .v (.int .i64 x0)), (6, .pt 0 0 0), (8, .v (.int .i64 c48)), (9, .v (.int .i64 c33)), (10, .v (.int .i64 c49)), (14, .v (.int .i64 x0)), (15, .v (.int .i64 c33)), (18, .v (.int .i64 c33)), (19, .v (.int .i64 c49)), (22, .v (.int .i64 c47)), (23, .ag [.v (.int .i64 v1.1), .sl 1 (v1.2.map cdI.enc)]), (24, .v (.int .i64 c33)), (25, .v (.int .i64 c49))] [some ⟨2, 94, [.ag [.v (.int .i64 v1.1), .sl 1 (v1.2.map cdI.enc)]], false⟩] (by kernel_rfl) (by kernel_rfl) ?_
        refine RunDS.peek rfl x_square_at (u := ((v1.1, v1.2), c33, c49, ())) rfl (wantedA_none rfl) (by kernel_rfl) (by kernel_rfl) rfl hv51 ?_
        refine RunDS.segF (n := 44) e_evening_extremes_ok 7 [(0, .v (.int .i64 x0)), (6, .pt 0 0 0), (9, .v (.int .i64 c33)), (14, .v (.int .i64 x0)), (15, .v (.int .i64 c33)), (18, .v (.int .i64 c33)), (19, .v (.int .i64 c49)), (29, .v (.int .i64 (mnI c47 v51))), (30, .v (.int .i64 c48)), (31, .ag [.v (.int .i64 v1.1), .sl 1 (v1.2.map cdI.enc)]), (32, .v (.int .i64 c33)), (33, .v (.int .i64 c49))] [some ⟨2, 94, [.ag [.v (.int .i64 v1.1), .sl 1 (v1.2.map cdI.enc)]], false⟩] (by kernel_rfl) (by kernel_rfl) ?_
        refine RunDS.peek rfl x_square_at (u := ((v1.1, v1.2), c33, c49, ())) rfl (wantedA_none rfl) (by kernel_rfl) (by kernel_rfl) rfl hv52 ?_
        refine RunDS.segF (n := 44) e_evening_extremes_ok 5 [(0, .v (.int .i64 x0)), (6, .pt 0 0 0), (7, .v (.int .i64 (mnI c47 v51))), (8, .v (.int .i64 (mxI c48 v52))), (9, .v (.int .i64 c33)), (14, .v (.int .i64 x0)), (15, .v (.int .i64 c33)), (18, .v (.int .i64 c33)), (19, .v (.int .i64 c49))] [some ⟨2, 94, [.ag [.v (.int .i64 v1.1), .sl 1 (v1.2.map cdI.enc)]], false⟩] (by kernel_rfl) (by kernel_rfl) ?_
        exact RunDS.done rfl (Wk.s3 [0] ⟨⟨_, rfl, bu_d⟩, trivial⟩ ⟨lv, lv, lv, lv, lv, lv, lv, lv, lv, trivial⟩)
      refine Sem.runS (s1 := ⟨Fr 44 [(0, .v (.int .i64 x0)), (6, .pt 0 0 0), (7, .v (.int .i64 (mnI c47 v51))), (8, .v (.int .i64 (mxI c48 v52))), (9, .v (.int .i64 c33)), (14, .v (.int .i64 x0)), (15, .v (.int .i64 c33)), (18, .v (.int .i64 c33)), (19, .v (.int .i64 (wr .i64 (c49 + 1))))], [some ⟨2, 94, [.ag [.v (.int .i64 v1.1), .sl 1 (v1.2.map cdI.enc)]], false⟩]⟩) ?_ ?_
      · refine RunS.segF (n := 44) e_evening_extremes_ok 2 [(0, .v (.int .i64 x0)), (6, .pt 0 0 0), (7, .v (.int .i64 (mnI c47 v51))), (8, .v (.int .i64 (mxI c48 v52))), (9, .v (.int .i64 c33)), (14, .v (.int .i64 x0)), (15, .v (.int .i64 c33)), (18, .v (.int .i64 c33)), (19, .v (.int .i64 (wr .i64 (c49 + 1))))] [some ⟨2, 94, [.ag [.v (.int .i64 v1.1), .sl 1 (v1.2.map cdI.enc)]], false⟩] (by kernel_rfl) ?_
        exact RunS.done rfl (Wk.s3 [0] ⟨⟨_, rfl, bu_d⟩, trivial⟩ ⟨lv, lv, lv, lv, lv, lv, lv, lv, lv, trivial⟩)
      exact SemN.wk (s1 := ⟨Fr 44 [(0, .v (.int .i64 x0)), (6, .pt 0 0 0), (7, .v (.int .i64 (mnI c47 v51))), (8, .v (.int .i64 (mxI c48 v52))), (9, .v (.int .i64 c33)), (14, .v (.int .i64 x0)), (15, .v (.int .i64 c33)), (18, .v (.int .i64 c33)), (19, .v (.int .i64 (wr .i64 (c49 + 1))))], [some ⟨2, 94, [.ag [.v (.int .i64 v1.1), .sl 1 (v1.2.map cdI.enc)]], false⟩]⟩) (Wk.s3 [0] ⟨⟨_, rfl, bu_d⟩, trivial⟩ ⟨lv, lv, lv, lv, lv, lv, lv, lv, lv, trivial⟩) (ih (mnI c47 v51) (mxI c48 v52) (wr .i64 (c49 + 1)) h)
    · rw [if_f hb50] at h
      refine Sem.exit ?_
      have hq := Option.some.inj h; subst hq
      exact ⟨rfl, (Wk.s3 [0] ⟨⟨_, rfl, bu_d⟩, trivial⟩ ⟨lv, lv, lv, lv, lv, lv, trivial⟩)⟩
set_option maxHeartbeats 4000000 in
set_option maxRecDepth 100000 in
theorem evening_extremes_1_ok (x0 : Int) (v1 : (Int × (List Int))) : ∀ (f : Nat) (c31 : Int) (c32 : Int) (c33 : Int) (r : (Int × Int)), evening_extremes_1 x0 v1 f c31 c32 c33 = some r → SemN e_evening_extremes ⟨none, false⟩ (pc cb_evening_extremes [1, 1, 1, 0, 1, 0, 0]) f ⟨Fr 44 [(0, .v (.int .i64 x0)), (6, .pt 0 0 0), (7, .v (.int .i64 c31)), (8, .v (.int .i64 c32)), (14, .v (.int .i64 x0)), (15, .v (.int .i64 c33))], [some ⟨2, 94, [.ag [.v (.int .i64 v1.1), .sl 1 (v1.2.map cdI.enc)]], false⟩]⟩ (fun e s => e = (.exit 0) ∧ Wk e_evening_extremes s ⟨Fr 44 [(0, .v (.int .i64 x0)), (7, .v (.int .i64 r.1)), (8, .v (.int .i64 r.2))], []⟩) := by
  intro f
  induction f with
  | zero => intro c31 c32 c33 r h; cases h
  | succ f ih0 =>
    intro c31 c32 c33 r h
    have ih := fun (c31 : Int) (c32 : Int) (c33 : Int) => ih0 c31 c32 c33 r
    unfold evening_extremes_1 at h
    refine SemN.succ ?_
    refine Sem.seq ?_
    refine Sem.runS (s1 := ⟨Fr 44 [(0, .v (.int .i64 x0)), (6, .pt 0 0 0), (7, .v (.int .i64 c31)), (8, .v (.int .i64 c32)), (14, .v (.int .i64 x0)), (15, .v (.int .i64 c33)), (16, .v (.bool (decide (c33 < x0))))], [some ⟨2, 94, [.ag [.v (.int .i64 v1.1), .sl 1 (v1.2.map cdI.enc)]], false⟩]⟩) ?_ ?_
    · refine RunS.segF (n := 44) e_evening_extremes_ok 1 [(0, .v (.int .i64 x0)), (6, .pt 0 0 0), (7, .v (.int .i64 c31)), (8, .v (.int .i64 c32)), (14, .v (.int .i64 x0)), (15, .v (.int .i64 c33)), (16, .v (.bool (decide (c33 < x0))))] [some ⟨2, 94, [.ag [.v (.int .i64 v1.1), .sl 1 (v1.2.map cdI.enc)]], false⟩] (by kernel_rfl) ?_
      exact RunS.done rfl (Wk.s3 [0] ⟨⟨_, rfl, bu_d⟩, trivial⟩ ⟨lv, lv, lv, lv, lv, lv, lv, trivial⟩)
    refine Sem.seq ?_
    refine Sem.cond (b := (decide (c33 < x0))) (by kernel_rfl) (fun hb34 => ?_) (fun hb34 => ?_)
    · rw [if_pos hb34] at h
      refine Sem.skip ?_
      refine Sem.seq ?_
      refine Sem.block ?_
      refine Sem.seq ?_
      refine Sem.runS (s1 := ⟨Fr 44 [(0, .v (.int .i64 x0)), (6, .pt 0 0 0), (7, .v (.int .i64 c31)), (8, .v (.int .i64 c32)), (9, .v (.int .i64 c33)), (14, .v (.int .i64 x0)), (15, .v (.int .i64 c33))], [some ⟨2, 94, [.ag [.v (.int .i64 v1.1), .sl 1 (v1.2.map cdI.enc)]], false⟩]⟩) ?_ ?_
      · refine RunS.segF (n := 44) e_evening_extremes_ok 2 [(0, .v (.int .i64 x0)), (6, .pt 0 0 0), (7, .v (.int .i64 c31)), (8, .v (.int .i64 c32)), (9, .v (.int .i64 c33)), (14, .v (.int .i64 x0)), (15, .v (.int .i64 c33))] [some ⟨2, 94, [.ag [.v (.int .i64 v1.1), .sl 1 (v1.2.map cdI.enc)]], false⟩] (by kernel_rfl) ?_
        exact RunS.done rfl (Wk.s3 [0] ⟨⟨_, rfl, bu_d⟩, trivial⟩ ⟨lv, lv, lv, lv, lv, lv, lv, trivial⟩)
      refine Sem.seq ?_
      refine Sem.runS (s1 := ⟨Fr 44 [(0, .v (.int .i64 x0)), (6, .pt 0 0 0), (7, .v (.int .i64 c31)), (8, .v (.int .i64 c32)), (9, .v (.int .i64 c33)), (14, .v (.int .i64 x0)), (15, .v (.int .i64 c33)), (18, .v (.int .i64 c33)), (19, .v (.int .i64 0))], [some ⟨2, 94, [.ag [.v (.int .i64 v1.1), .sl 1 (v1.2.map cdI.enc)]], false⟩]⟩) ?_ ?_
      · refine RunS.segF (n := 44) e_evening_extremes_ok 2 [(0, .v (.int .i64 x0)), (6, .pt 0 0 0), (7, .v (.int .i64 c31)), (8, .v (.int .i64 c32)), (9, .v (.int .i64 c33)), (14, .v (.int .i64 x0)), (15, .v (.int .i64 c33)), (18, .v (.int .i64 c33)), (19, .v (.int .i64 0))] [some ⟨2, 94, [.ag [.v (.int .i64 v1.1), .sl 1 (v1.2.map cdI.enc)]], false⟩] (by kernel_rfl) ?_
        exact RunS.done rfl (Wk.s3 [0] ⟨⟨_, rfl, bu_d⟩, trivial⟩ ⟨lv, lv, lv, lv, lv, lv, lv, lv, lv, trivial⟩)
      refine Sem.block ?_
      obtain ⟨r55, hr55, h⟩ := Option.bind_eq_some_iff.1 h
      refine Sem.loop (n := 100000) ?_
      refine Sem.cutN (SemN.wk (s1 := ⟨Fr 44 [(0, .v (.int .i64 x0)), (6, .pt 0 0 0), (7, .v (.int .i64 c31)), (8, .v (.int .i64 c32)), (9, .v (.int .i64 c33)), (14, .v (.int .i64 x0)), (15, .v (.int .i64 c33)), (18, .v (.int .i64 c33)), (19, .v (.int .i64 0))], [some ⟨2, 94, [.ag [.v (.int .i64 v1.1), .sl 1 (v1.2.map cdI.enc)]], false⟩]⟩) (Wk.s3 [0] ⟨⟨_, rfl, bu_d⟩, trivial⟩ ⟨lv, lv, lv, lv, lv, lv, lv, lv, lv, trivial⟩) (evening_extremes_2_ok x0 v1 c33 _ c31 c32 0 _ hr55)) ?_
      refine Sem.runS (s1 := ⟨Fr 44 [(0, .v (.int .i64 x0)), (6, .pt 0 0 0), (7, .v (.int .i64 r55.1)), (8, .v (.int .i64 r55.2)), (14, .v (.int .i64 x0)), (15, .v (.int .i64 (wr .i64 (c33 + 1))))], [some ⟨2, 94, [.ag [.v (.int .i64 v1.1), .sl 1 (v1.2.map cdI.enc)]], false⟩]⟩) ?_ ?_
      · refine RunS.segF (n := 44) e_evening_extremes_ok 2 [(0, .v (.int .i64 x0)), (6, .pt 0 0 0), (7, .v (.int .i64 r55.1)), (8, .v (.int .i64 r55.2)), (14, .v (.int .i64 x0)), (15, .v (.int .i64 (wr .i64 (c33 + 1))))] [some ⟨2, 94, [.ag [.v (.int .i64 v1.1), .sl 1 (v1.2.map cdI.enc)]], false⟩] (by kernel_rfl) ?_
        exact RunS.done rfl (Wk.s3 [0] ⟨⟨_, rfl, bu_d⟩, trivial⟩ ⟨lv, lv, lv, lv, lv, lv, trivial⟩)
      exact SemN.wk (s1 := ⟨Fr 44 [(0, .v (.int .i64 x0)), (6, .pt 0 0 0), (7, .v (.int .i64 r55.1)), (8, .v (.int .i64 r55.2)), (14, .v (.int .i64 x0)), (15, .v (.int .i64 (wr .i64 (c33 + 1))))], [some ⟨2, 94, [.ag [.v (.int .i64 v1.1), .sl 1 (v1.2.map cdI.enc)]], false⟩]⟩) (Wk.s3 [0] ⟨⟨_, rfl, bu_d⟩, trivial⟩ ⟨lv, lv, lv, lv, lv, lv, trivial⟩) (ih r55.1 r55.2 (wr .i64 (c33 + 1)) h)
    · rw [if_f hb34] at h
      refine Sem.exit ?_
      have hq := Option.some.inj h; subst hq
      exact ⟨rfl, (Wk.s3 [] trivial ⟨lv, lv, lv, trivial⟩)⟩
set_option maxHeartbeats 4000000 in
set_option maxRecDepth 100000 in
theorem evening_extremes_j3_ok (x0 : Int) (r58 : Int × Int) (r : (Int)) (h : evening_extremes_j3 x0 r58 = some r) : Sem e_evening_extremes ⟨none, false⟩ (pc cb_evening_extremes [1, 1, 1, 1, 0, 1]) ⟨Fr 44 [(7, .v (.int .i64 r58.1)), (8, .v (.int .i64 r58.2)), (41, .v (.bool (x0 == 1)))], []⟩ (fun e s => e = .normal ∧ Wk e_evening_extremes s ⟨Fr 44 [(7, .v (.int .i64 r)), (8, .v (.int .i64 r58.2))], []⟩) := by
  unfold evening_extremes_j3 at h
  refine Sem.cond (b := (x0 == 1)) (by kernel_rfl) (fun hb59 => ?_) (fun hb59 => ?_)
  · rw [if_pos hb59] at h
    refine Sem.runS (s1 := ⟨Fr 44 [(7, .v (.int .i64 0)), (8, .v (.int .i64 r58.2))], []⟩) ?_ ?_
    · refine RunS.segF (n := 44) e_evening_extremes_ok 1 [(7, .v (.int .i64 0)), (8, .v (.int .i64 r58.2))] [] (by kernel_rfl) ?_
      exact RunS.done rfl Wk.f1
    have hq := Option.some.inj h; subst hq
    exact ⟨rfl, Wk.f1⟩
  · rw [if_f hb59] at h
    refine Sem.skip ?_
    have hq := Option.some.inj h; subst hq
    exact ⟨rfl, Wk.f1⟩
set_option maxHeartbeats 4000000 in
set_option maxRecDepth 100000 in
theorem evening_extremes_sem (x0 : Int) (x1 : (List (List (List Int)))) (r : Int × Int) (h : evening_extremes x0 x1 = some r) : Sem e_evening_extremes ⟨none, false⟩ cb_evening_extremes ⟨Fr 44 (pairs0 0 (cs_evening_extremes.enc (x0, x1, ()))), []⟩ fun e s' => (e = .normal ∨ e = .ret) ∧ ∃ xs, resA e_evening_extremes.P s'.fr s'.hp Tryd.f85.results.toList = some xs ∧ retA xs = er_evening_extremes r := by
  unfold evening_extremes at h
  refine Sem.wkQ (Sem.wk (s1 := ⟨Fr 44 [(0, .v (.int .i64 x0)), (1, .sl 1 (x1.map (cdL 1 (cdL 1 cdI)).enc))], []⟩) Wk.f1 ?_)
  refine Sem.seq ?_
  refine Sem.runS (s1 := ⟨Fr 44 [(0, .v (.int .i64 x0)), (1, .sl 1 (x1.map (cdL 1 (cdL 1 cdI)).enc))], []⟩) ?_ ?_
  · refine RunS.segF (n := 44) e_evening_extremes_ok 2 [(0, .v (.int .i64 x0)), (1, .sl 1 (x1.map (cdL 1 (cdL 1 cdI)).enc))] [] (by kernel_rfl) ?_
    exact RunS.done rfl Wk.f1
  refine Sem.seq ?_
  obtain ⟨v1, hv1, h⟩ := Option.bind_eq_some_iff.1 h
  refine Sem.runS (s1 := ⟨Fr 44 [(0, .v (.int .i64 x0)), (6, .pt 0 0 0)], [some ⟨2, 94, [.ag [.v (.int .i64 v1.1), .sl 1 (v1.2.map cdI.enc)]], false⟩]⟩) ?_ ?_
  · refine RunS.segF (n := 44) e_evening_extremes_ok 2 [(0, .v (.int .i64 x0)), (11, .v (.int .i64 x0)), (12, .sl 1 (x1.map (cdL 1 (cdL 1 cdI)).enc))] [] (by kernel_rfl) ?_
    refine RunS.call e_evening_extremes_ok (fid := 80) (s := cs_evening_meetings) (F := fun a => evening_meetings a.1 a.2.1) (er := er_evening_meetings) (xs := [.v (.int .i64 x0), .sl 1 (x1.map (cdL 1 (cdL 1 cdI)).enc)]) (a := (x0, x1, ())) rfl (wantedA_none rfl) (by kernel_rfl) (by kernel_rfl) (by kernel_rfl) (by kernel_rfl) (Sns.cons (Sn.enc (c := cdI) (v := x0)) (Sns.cons (Sn.enc (c := (cdL 1 (cdL 1 (cdL 1 cdI)))) (v := x1)) Sns.nil)) (.inl (by kernel_rfl)) hv1 ?_
    refine RunS.segF (n := 44) e_evening_extremes_ok 2 [(0, .v (.int .i64 x0)), (6, .pt 0 0 0)] [some ⟨2, 94, [.ag [.v (.int .i64 v1.1), .sl 1 (v1.2.map cdI.enc)]], false⟩] (by kernel_rfl) ?_
    exact RunS.done rfl (Wk.s3 [0] ⟨⟨_, rfl, bu_d⟩, trivial⟩ ⟨lv, lv, trivial⟩)
  refine Sem.seq ?_
  refine Sem.runS (s1 := ⟨Fr 44 [(0, .v (.int .i64 x0)), (6, .pt 0 0 0), (7, .v (.int .i64 64)), (8, .v (.int .i64 0))], [some ⟨2, 94, [.ag [.v (.int .i64 v1.1), .sl 1 (v1.2.map cdI.enc)]], false⟩]⟩) ?_ ?_
  · refine RunS.segF (n := 44) e_evening_extremes_ok 2 [(0, .v (.int .i64 x0)), (6, .pt 0 0 0), (7, .v (.int .i64 64)), (8, .v (.int .i64 0))] [some ⟨2, 94, [.ag [.v (.int .i64 v1.1), .sl 1 (v1.2.map cdI.enc)]], false⟩] (by kernel_rfl) ?_
    exact RunS.done rfl (Wk.s3 [0] ⟨⟨_, rfl, bu_d⟩, trivial⟩ ⟨lv, lv, lv, lv, trivial⟩)
  refine Sem.seq ?_
  refine Sem.seq ?_
  refine Sem.runS (s1 := ⟨Fr 44 [(0, .v (.int .i64 x0)), (6, .pt 0 0 0), (7, .v (.int .i64 64)), (8, .v (.int .i64 0)), (14, .v (.int .i64 x0)), (15, .v (.int .i64 0))], [some ⟨2, 94, [.ag [.v (.int .i64 v1.1), .sl 1 (v1.2.map cdI.enc)]], false⟩]⟩) ?_ ?_
  · refine RunS.segF (n := 44) e_evening_extremes_ok 2 [(0, .v (.int .i64 x0)), (6, .pt 0 0 0), (7, .v (.int .i64 64)), (8, .v (.int .i64 0)), (14, .v (.int .i64 x0)), (15, .v (.int .i64 0))] [some ⟨2, 94, [.ag [.v (.int .i64 v1.1), .sl 1 (v1.2.map cdI.enc)]], false⟩] (by kernel_rfl) ?_
    exact RunS.done rfl (Wk.s3 [0] ⟨⟨_, rfl, bu_d⟩, trivial⟩ ⟨lv, lv, lv, lv, lv, lv, trivial⟩)
  refine Sem.block ?_
  obtain ⟨r58, hr58, h⟩ := Option.bind_eq_some_iff.1 h
  refine Sem.loop (n := 100000) ?_
  refine Sem.cutN (SemN.wk (s1 := ⟨Fr 44 [(0, .v (.int .i64 x0)), (6, .pt 0 0 0), (7, .v (.int .i64 64)), (8, .v (.int .i64 0)), (14, .v (.int .i64 x0)), (15, .v (.int .i64 0))], [some ⟨2, 94, [.ag [.v (.int .i64 v1.1), .sl 1 (v1.2.map cdI.enc)]], false⟩]⟩) (Wk.s3 [0] ⟨⟨_, rfl, bu_d⟩, trivial⟩ ⟨lv, lv, lv, lv, lv, lv, trivial⟩) (evening_extremes_1_ok x0 v1 _ 64 0 0 _ hr58)) ?_
  refine Sem.seq ?_
  refine Sem.seq ?_
  refine Sem.runS (s1 := ⟨Fr 44 [(7, .v (.int .i64 r58.1)), (8, .v (.int .i64 r58.2)), (41, .v (.bool (x0 == 1)))], []⟩) ?_ ?_
  · refine RunS.segF (n := 44) e_evening_extremes_ok 2 [(7, .v (.int .i64 r58.1)), (8, .v (.int .i64 r58.2)), (41, .v (.bool (x0 == 1)))] [] (by kernel_rfl) ?_
    exact RunS.done rfl Wk.f1
  obtain ⟨r61, hr61, h⟩ := Option.bind_eq_some_iff.1 h
  refine Sem.cut (evening_extremes_j3_ok x0 r58 _ hr61) ?_
  refine Sem.seq ?_
  refine Sem.runS (s1 := ⟨Fr 44 [(4, .v (.int .i64 r61)), (5, .v (.int .i64 r58.2))], []⟩) ?_ ?_
  · refine RunS.segF (n := 44) e_evening_extremes_ok 4 [(4, .v (.int .i64 r61)), (5, .v (.int .i64 r58.2))] [] (by kernel_rfl) ?_
    exact RunS.done rfl Wk.f1
  refine Sem.ret ?_
  have hq := Option.some.inj h; subst hq
  exact ⟨⟨Fr 44 [(4, .v (.int .i64 r61)), (5, .v (.int .i64 r58.2))], []⟩, Wk.f1, .inr rfl, [.v (.int .i64 r61), .v (.int .i64 r58.2)], (by kernel_rfl), (by kernel_rfl)⟩
def t_evening_extremes : List AV → Option AV := told cs_evening_extremes (fun a => evening_extremes a.1 a.2.1) er_evening_extremes
theorem x_evening_extremes : XOk 85 t_evening_extremes := by
  refine EnvOk.x (E := e_evening_extremes) (contract_ok e_evening_extremes_ok (fn := Tryd.f85) (c := cb_evening_extremes) ?h1 ?h2 ⟨Tryd.call85⟩ cs_evening_extremes (fun a => evening_extremes a.1 a.2.1) er_evening_extremes (fun a => (by show 2 ≤ 44; decide)) ?h3 ?h4) rfl rfl
  case h1 => kernel_rfl
  case h2 => kernel_rfl
  case h3 => intro b; kernel_rfl
  case h4 => exact fun a b h => evening_extremes_sem a.1 a.2.1 b h
/- trestle/evening.Most -/
noncomputable def e_evening_Most : Env := ((E0.withX 50 t_evening_valid).withX 85 t_evening_extremes)
theorem e_evening_Most_ok : EnvOk e_evening_Most := (EnvOk.withX (EnvOk.withX E0_ok x_evening_valid.1 x_evening_valid.2) x_evening_extremes.1 x_evening_extremes.2)
noncomputable def cb_evening_Most : Code := codeOf Tryd.f33
def evening_Most (x0 : Int) (x1 : (List (List (List Int)))) : Option (Int) :=
  (evening_valid x0 x1).bind fun v1 =>
  if (!v1) = true then
  some 0
  else
  (evening_extremes x0 x1).bind fun v3 =>
  some v3.2
def cs_evening_Most : Cs (Int × (List (List (List Int))) × Unit) := (csC cdI (csC (cdL 1 (cdL 1 (cdL 1 cdI))) csN))
def er_evening_Most (r : Int) : AV := cdI.enc r
set_option maxHeartbeats 4000000 in
set_option maxRecDepth 100000 in
theorem evening_Most_sem (x0 : Int) (x1 : (List (List (List Int)))) (r : Int) (h : evening_Most x0 x1 = some r) : Sem e_evening_Most ⟨none, false⟩ cb_evening_Most ⟨Fr 18 (pairs0 0 (cs_evening_Most.enc (x0, x1, ()))), []⟩ fun e s' => (e = .normal ∨ e = .ret) ∧ ∃ xs, resA e_evening_Most.P s'.fr s'.hp Tryd.f33.results.toList = some xs ∧ retA xs = er_evening_Most r := by
  unfold evening_Most at h
  refine Sem.wkQ (Sem.wk (s1 := ⟨Fr 18 [(0, .v (.int .i64 x0)), (1, .sl 1 (x1.map (cdL 1 (cdL 1 cdI)).enc))], []⟩) Wk.f1 ?_)
  refine Sem.seq ?_
  refine Sem.runS (s1 := ⟨Fr 18 [(0, .v (.int .i64 x0)), (1, .sl 1 (x1.map (cdL 1 (cdL 1 cdI)).enc))], []⟩) ?_ ?_
  · refine RunS.segF (n := 18) e_evening_Most_ok 1 [(0, .v (.int .i64 x0)), (1, .sl 1 (x1.map (cdL 1 (cdL 1 cdI)).enc))] [] (by kernel_rfl) ?_
    exact RunS.done rfl Wk.f1
  refine Sem.seq ?_
  refine Sem.seq ?_
  obtain ⟨v1, hv1, h⟩ := Option.bind_eq_some_iff.1 h
  refine Sem.runS (s1 := ⟨Fr 18 [(0, .v (.int .i64 x0)), (1, .sl 1 (x1.map (cdL 1 (cdL 1 cdI)).enc)), (10, .v (.bool (!v1)))], []⟩) ?_ ?_
  · refine RunS.segF (n := 18) e_evening_Most_ok 2 [(0, .v (.int .i64 x0)), (1, .sl 1 (x1.map (cdL 1 (cdL 1 cdI)).enc)), (7, .v (.int .i64 x0)), (8, .sl 1 (x1.map (cdL 1 (cdL 1 cdI)).enc))] [] (by kernel_rfl) ?_
    refine RunS.call e_evening_Most_ok (fid := 50) (s := cs_evening_valid) (F := fun a => evening_valid a.1 a.2.1) (er := er_evening_valid) (xs := [.v (.int .i64 x0), .sl 1 (x1.map (cdL 1 (cdL 1 cdI)).enc)]) (a := (x0, x1, ())) rfl (wantedA_none rfl) (by kernel_rfl) (by kernel_rfl) (by kernel_rfl) (by kernel_rfl) (Sns.cons (Sn.enc (c := cdI) (v := x0)) (Sns.cons (Sn.enc (c := (cdL 1 (cdL 1 (cdL 1 cdI)))) (v := x1)) Sns.nil)) (.inl (by kernel_rfl)) hv1 ?_
    refine RunS.segF (n := 18) e_evening_Most_ok 1 [(0, .v (.int .i64 x0)), (1, .sl 1 (x1.map (cdL 1 (cdL 1 cdI)).enc)), (10, .v (.bool (!v1)))] [] (by kernel_rfl) ?_
    exact RunS.done rfl Wk.f1
  refine Sem.cond (b := (!v1)) (by kernel_rfl) (fun hb2 => ?_) (fun hb2 => ?_)
  · rw [if_pos hb2] at h
    refine Sem.seq ?_
    refine Sem.runS (s1 := ⟨Fr 18 [(4, .v (.int .i64 0))], []⟩) ?_ ?_
    · refine RunS.segF (n := 18) e_evening_Most_ok 1 [(4, .v (.int .i64 0))] [] (by kernel_rfl) ?_
      exact RunS.done rfl Wk.f1
    refine Sem.ret ?_
    have hq := Option.some.inj h; subst hq
    exact ⟨⟨Fr 18 [(4, .v (.int .i64 0))], []⟩, Wk.f1, .inr rfl, [.v (.int .i64 0)], (by kernel_rfl), (by kernel_rfl)⟩
  · rw [if_f hb2] at h
    refine Sem.skip ?_
    refine Sem.seq ?_
    obtain ⟨v3, hv3, h⟩ := Option.bind_eq_some_iff.1 h
    refine Sem.runS (s1 := ⟨Fr 18 [(6, .v (.int .i64 v3.2))], []⟩) ?_ ?_
    · refine RunS.segF (n := 18) e_evening_Most_ok 2 [(12, .v (.int .i64 x0)), (13, .sl 1 (x1.map (cdL 1 (cdL 1 cdI)).enc))] [] (by kernel_rfl) ?_
      refine RunS.call e_evening_Most_ok (fid := 85) (s := cs_evening_extremes) (F := fun a => evening_extremes a.1 a.2.1) (er := er_evening_extremes) (xs := [.v (.int .i64 x0), .sl 1 (x1.map (cdL 1 (cdL 1 cdI)).enc)]) (a := (x0, x1, ())) rfl (wantedA_none rfl) (by kernel_rfl) (by kernel_rfl) (by kernel_rfl) (by kernel_rfl) (Sns.cons (Sn.enc (c := cdI) (v := x0)) (Sns.cons (Sn.enc (c := (cdL 1 (cdL 1 (cdL 1 cdI)))) (v := x1)) Sns.nil)) (.inl (by kernel_rfl)) hv3 ?_
      refine RunS.segF (n := 18) e_evening_Most_ok 5 [(6, .v (.int .i64 v3.2))] [] (by kernel_rfl) ?_
      exact RunS.done rfl Wk.f1
    refine Sem.seq ?_
    refine Sem.runS (s1 := ⟨Fr 18 [(4, .v (.int .i64 v3.2))], []⟩) ?_ ?_
    · refine RunS.segF (n := 18) e_evening_Most_ok 2 [(4, .v (.int .i64 v3.2))] [] (by kernel_rfl) ?_
      exact RunS.done rfl Wk.f1
    refine Sem.ret ?_
    have hq := Option.some.inj h; subst hq
    exact ⟨⟨Fr 18 [(4, .v (.int .i64 v3.2))], []⟩, Wk.f1, .inr rfl, [.v (.int .i64 v3.2)], (by kernel_rfl), (by kernel_rfl)⟩
def t_evening_Most : List AV → Option AV := told cs_evening_Most (fun a => evening_Most a.1 a.2.1) er_evening_Most
theorem x_evening_Most : XOk 33 t_evening_Most := by
  refine EnvOk.x (E := e_evening_Most) (contract_ok e_evening_Most_ok (fn := Tryd.f33) (c := cb_evening_Most) ?h1 ?h2 ⟨Tryd.call33⟩ cs_evening_Most (fun a => evening_Most a.1 a.2.1) er_evening_Most (fun a => (by show 2 ≤ 18; decide)) ?h3 ?h4) rfl rfl
  case h1 => kernel_rfl
  case h2 => kernel_rfl
  case h3 => intro b; kernel_rfl
  case h4 => exact fun a b h => evening_Most_sem a.1 a.2.1 b h
/- trestle/trestlelaw09.EveningRelabels -/
noncomputable def e_law09_EveningRelabels : Env := (((((((((E0.withX 25 t_law09_Made).withX 29 t_evening_Relabel).withX 30 t_evening_Join).withX 27 t_evening_Check).withX 31 t_evening_Meet).withX 32 t_evening_Beside).withX 28 t_evening_Strain).withX 33 t_evening_Most).withX 13 t_law09_awake)
theorem e_law09_EveningRelabels_ok : EnvOk e_law09_EveningRelabels := (EnvOk.withX (EnvOk.withX (EnvOk.withX (EnvOk.withX (EnvOk.withX (EnvOk.withX (EnvOk.withX (EnvOk.withX (EnvOk.withX E0_ok x_law09_Made.1 x_law09_Made.2) x_evening_Relabel.1 x_evening_Relabel.2) x_evening_Join.1 x_evening_Join.2) x_evening_Check.1 x_evening_Check.2) x_evening_Meet.1 x_evening_Meet.2) x_evening_Beside.1 x_evening_Beside.2) x_evening_Strain.1 x_evening_Strain.2) x_evening_Most.1 x_evening_Most.2) x_law09_awake.1 x_law09_awake.2)
noncomputable def cb_law09_EveningRelabels : Code := codeOf Tryd.f8
def law09_EveningRelabels_1 (v1 : (List (List (List Int))) × (List Int) × Int) : Nat → Int → (List Int) → Option (((List Int)))
  | 0, _, _ => none
  | f + 1, c8, c9 =>
    if (decide (c8 < ((List.replicate v1.2.2.toNat (0 : Int)).length : Int))) = true then
    (idx c9 c8).bind fun _v11 =>
    law09_EveningRelabels_1 v1 f (wr .i64 (c8 + 1)) (c9.set c8.toNat c8)
    else
    some c9
def law09_EveningRelabels_2 (x3 : (List (Int × Int))) (v1 : (List (List (List Int))) × (List Int) × Int) : Nat → Int → (List Int) → Option (((List Int)))
  | 0, _, _ => none
  | f + 1, c20, c21 =>
    if (decide (c20 < (((x3.take (mnI (x3.length : Int) 20).toNat).drop (0 : Int).toNat).length : Int))) = true then
    (idx ((x3.take (mnI (x3.length : Int) 20).toNat).drop (0 : Int).toNat) c20).bind fun v23 =>
    if v1.2.2 = (0 : Int) then none else
    if v1.2.2 = (0 : Int) then none else
    (idx c21 ((wr .i64 v23.2).tmod v1.2.2)).bind fun v33 =>
    (idx c21 ((wr .i64 v23.1).tmod v1.2.2)).bind fun v35 =>
    (idx c21 ((wr .i64 v23.1).tmod v1.2.2)).bind fun _v36 =>
    (idx (c21.set (((wr .i64 v23.1).tmod v1.2.2).toNat) v33) ((wr .i64 v23.2).tmod v1.2.2)).bind fun _v40 =>
    law09_EveningRelabels_2 x3 v1 f (wr .i64 (c20 + 1)) ((c21.set (((wr .i64 v23.1).tmod v1.2.2).toNat) v33).set (((wr .i64 v23.2).tmod v1.2.2).toNat) v35)
    else
    some c21
def law09_EveningRelabels_4 (v1 : (List (List (List Int))) × (List Int) × Int) (r46 : (List Int)) (v65 : (List (List Int))) (v66 : (List (List Int))) (v67 : (List (List Int))) (v68 : (List (List Int))) (v69 : (List (List Int))) (v70 : (List (List Int))) (c72 : Int) : Nat → Int → Option ((Unit) ⊕ (Unit))
  | 0, _ => none
  | f + 1, c74 =>
    if (decide (c74 < v1.2.2)) = true then
    (idx r46 c72).bind fun v76 =>
    (idx v67 v76).bind fun v77 =>
    (idx r46 c74).bind fun v78 =>
    (idx v77 v78).bind fun v79 =>
    (idx v65 c72).bind fun v80 =>
    (idx v80 c74).bind fun v81 =>
    (if (v79 != v81) = true then some true else (idx v68 c72).bind fun v82 =>
    (idx v82 c74).bind fun v83 =>
    (idx v65 c72).bind fun v84 =>
    (idx v84 c74).bind fun v85 =>
    (idx v66 c72).bind fun v86 =>
    (idx v86 c74).bind fun v87 =>
    if (v83 != (wr .i64 (v85 + v87))) = true then some true else (idx r46 c72).bind fun v88 =>
    (idx v70 v88).bind fun v89 =>
    (idx r46 c74).bind fun v90 =>
    (idx v89 v90).bind fun v91 =>
    (idx v69 c72).bind fun v92 =>
    (idx v92 c74).bind fun v93 =>
    some (v91 != v93)).bind fun j94 =>
    if j94 = true then
    some (.inr ())
    else
    law09_EveningRelabels_4 v1 r46 v65 v66 v67 v68 v69 v70 c72 f (wr .i64 (c74 + 1))
    else
    some (.inl ())
def law09_EveningRelabels_3 (v1 : (List (List (List Int))) × (List Int) × Int) (r46 : (List Int)) (v65 : (List (List Int))) (v66 : (List (List Int))) (v67 : (List (List Int))) (v68 : (List (List Int))) (v69 : (List (List Int))) (v70 : (List (List Int))) : Nat → Int → Option ((Unit) ⊕ (Unit))
  | 0, _ => none
  | f + 1, c72 =>
    if (decide (c72 < v1.2.2)) = true then
    (law09_EveningRelabels_4 v1 r46 v65 v66 v67 v68 v69 v70 c72 100000 0).bind fun r101 =>
    match r101 with
    | (.inl _w102) =>
      law09_EveningRelabels_3 v1 r46 v65 v66 v67 v68 v69 v70 f (wr .i64 (c72 + 1))
    | (.inr _w105) =>
      some (.inr ())
    else
    some (.inl ())
def law09_EveningRelabels (x0 : (List Int)) (x1 : (List (List (Int × Int)))) (x2 : (List (List (Int × Int)))) (x3 : (List (Int × Int))) : Option (Bool) :=
  (law09_Made x0 x1).bind fun v1 =>
  (law09_Made x0 x2).bind fun v2 =>
  if (mkOk 8 v1.2.2) = true then
  (law09_EveningRelabels_1 v1 100000 0 (List.replicate v1.2.2.toNat (0 : Int))).bind fun r16 =>
  if (cutOk 0 (mnI (x3.length : Int) 20) x3.length) = true then
  (law09_EveningRelabels_2 x3 v1 100000 0 r16).bind fun r46 =>
  (evening_Relabel v1.2.2 v1.1 r46).bind fun v52 =>
  (evening_Join v1.2.2 v1.1 v2.1).bind fun v53 =>
  (if (v52.2 != 0) = true then some true else if (v53.2 != 0) = true then some true else some ((v53.1.length : Int) != (wr .i64 ((v1.1.length : Int) + (v2.1.length : Int))))).bind fun j54 =>
  if j54 = true then
  some false
  else
  (evening_Check v1.2.2 v1.2.1 v52.1).bind fun v59 =>
  (if (v59.1 != 0) = true then some true else some (v59.2 != 0)).bind fun j60 =>
  if j60 = true then
  some false
  else
  (evening_Meet v1.2.2 v1.1).bind fun v65 =>
  (evening_Meet v1.2.2 v2.1).bind fun v66 =>
  (evening_Meet v1.2.2 v52.1).bind fun v67 =>
  (evening_Meet v1.2.2 v53.1).bind fun v68 =>
  (evening_Beside v1.2.2 v1.1).bind fun v69 =>
  (evening_Beside v1.2.2 v52.1).bind fun v70 =>
  if ((mnI (mnI (mnI (mnI (mnI (v65.length : Int) (v66.length : Int)) (v67.length : Int)) (v68.length : Int)) (v69.length : Int)) (v70.length : Int)) != v1.2.2) = true then
  some false
  else
  (law09_EveningRelabels_3 v1 r46 v65 v66 v67 v68 v69 v70 100000 0).bind fun r108 =>
  match r108 with
  | (.inl _w109) =>
    (evening_Strain v1.2.2 v52.1).bind fun v112 =>
    (evening_Strain v1.2.2 v1.1).bind fun v113 =>
    (if (v112 == v113) = true then (evening_Most v1.2.2 v52.1).bind fun v114 =>
    (evening_Most v1.2.2 v1.1).bind fun v115 =>
    if (v114 == v115) = true then law09_awake.bind fun v116 =>
    some v116 else some false else some false).bind fun j117 =>
    some j117
  | (.inr _w123) =>
    some false
  else none
  else none
set_option maxHeartbeats 4000000 in
set_option maxRecDepth 100000 in
theorem law09_EveningRelabels_1_ok {L : List Asn} (v1 : (List (List (List Int))) × (List Int) × Int) (x3 : (List (Int × Int))) (v2 : (List (List (List Int))) × (List Int) × Int) (e7 : AV) : ∀ (f : Nat) (c8 : Int) (c9 : (List Int)) (r : ((List Int))), law09_EveningRelabels_1 v1 f c8 c9 = some r → ∀ (hp : Hp), T hp ((own_ (ocL 1 3 (ocV cdI)) e7 c9) :: L) → SemYN e_law09_EveningRelabels ⟨none, false⟩ (pc cb_law09_EveningRelabels [1, 1, 1, 1, 0, 1, 0, 0]) f ⟨Fr 270 [(3, .sl 2 (x3.map (cdG2 (cdK .u8) (cdK .u8) (fun _ => rfl) (fun _ => rfl)).enc)), (9, .sl 1 (v1.1.map (cdL 1 (cdL 1 cdI)).enc)), (10, .sl 1 (v1.2.1.map cdI.enc)), (11, .v (.int .i64 v1.2.2)), (12, .sl 1 (v2.1.map (cdL 1 (cdL 1 cdI)).enc)), (15, e7), (52, .v (.int .i64 ((List.replicate v1.2.2.toNat (0 : Int)).length : Int))), (53, .v (.int .i64 c8))], hp⟩ (fun e s => e = (.exit 0) ∧ ∃ s2, (∃ (h' : Hp), T h' ((own_ (ocL 1 3 (ocV cdI)) e7 r) :: L) ∧ s2 = ⟨Fr 270 [(3, .sl 2 (x3.map (cdG2 (cdK .u8) (cdK .u8) (fun _ => rfl) (fun _ => rfl)).enc)), (9, .sl 1 (v1.1.map (cdL 1 (cdL 1 cdI)).enc)), (10, .sl 1 (v1.2.1.map cdI.enc)), (11, .v (.int .i64 v1.2.2)), (12, .sl 1 (v2.1.map (cdL 1 (cdL 1 cdI)).enc)), (15, e7)], h'⟩) ∧ WkY e_law09_EveningRelabels s s2) := by
  intro f
  induction f with
  | zero => intro c8 c9 r h; cases h
  | succ f ih0 =>
    intro c8 c9 r h  hp hT
    unfold law09_EveningRelabels_1 at h
    refine SemYN.succ ?_
    refine SemY.seq ?_
    refine SemY.regionL ?_
    refine RunL.segF (n := 270) e_law09_EveningRelabels_ok 1 [(3, .sl 2 (x3.map (cdG2 (cdK .u8) (cdK .u8) (fun _ => rfl) (fun _ => rfl)).enc)), (9, .sl 1 (v1.1.map (cdL 1 (cdL 1 cdI)).enc)), (10, .sl 1 (v1.2.1.map cdI.enc)), (11, .v (.int .i64 v1.2.2)), (12, .sl 1 (v2.1.map (cdL 1 (cdL 1 cdI)).enc)), (15, e7), (52, .v (.int .i64 ((List.replicate v1.2.2.toNat (0 : Int)).length : Int))), (53, .v (.int .i64 c8)), (54, .v (.bool (decide (c8 < ((List.replicate v1.2.2.toNat (0 : Int)).length : Int)))))] hp (by kernel_rfl) ?_
    refine RunL.done rfl (SemY.fr (l' := [(3, .sl 2 (x3.map (cdG2 (cdK .u8) (cdK .u8) (fun _ => rfl) (fun _ => rfl)).enc)), (9, .sl 1 (v1.1.map (cdL 1 (cdL 1 cdI)).enc)), (10, .sl 1 (v1.2.1.map cdI.enc)), (11, .v (.int .i64 v1.2.2)), (12, .sl 1 (v2.1.map (cdL 1 (cdL 1 cdI)).enc)), (15, e7), (52, .v (.int .i64 ((List.replicate v1.2.2.toNat (0 : Int)).length : Int))), (53, .v (.int .i64 c8)), (54, .v (.bool (decide (c8 < ((List.replicate v1.2.2.toNat (0 : Int)).length : Int)))))]) (by kernel_rfl) ?_)
    refine SemY.seq ?_
    refine SemY.cond (b := (decide (c8 < ((List.replicate v1.2.2.toNat (0 : Int)).length : Int)))) (by kernel_rfl) (fun hb10 => ?_) (fun hb10 => ?_)
    · rw [if_pos hb10] at h
      refine SemY.skip ?_
      refine SemY.seq ?_
      refine SemY.block ?_
      refine SemY.seq ?_
      refine SemY.regionL ?_
      refine RunL.segF (n := 270) e_law09_EveningRelabels_ok 2 [(3, .sl 2 (x3.map (cdG2 (cdK .u8) (cdK .u8) (fun _ => rfl) (fun _ => rfl)).enc)), (9, .sl 1 (v1.1.map (cdL 1 (cdL 1 cdI)).enc)), (10, .sl 1 (v1.2.1.map cdI.enc)), (11, .v (.int .i64 v1.2.2)), (12, .sl 1 (v2.1.map (cdL 1 (cdL 1 cdI)).enc)), (15, e7), (16, .v (.int .i64 c8)), (52, .v (.int .i64 ((List.replicate v1.2.2.toNat (0 : Int)).length : Int))), (53, .v (.int .i64 c8))] hp (by kernel_rfl) ?_
      refine RunL.done rfl (SemY.fr (l' := [(3, .sl 2 (x3.map (cdG2 (cdK .u8) (cdK .u8) (fun _ => rfl) (fun _ => rfl)).enc)), (9, .sl 1 (v1.1.map (cdL 1 (cdL 1 cdI)).enc)), (10, .sl 1 (v1.2.1.map cdI.enc)), (11, .v (.int .i64 v1.2.2)), (12, .sl 1 (v2.1.map (cdL 1 (cdL 1 cdI)).enc)), (15, e7), (16, .v (.int .i64 c8)), (52, .v (.int .i64 ((List.replicate v1.2.2.toNat (0 : Int)).length : Int))), (53, .v (.int .i64 c8))]) (by kernel_rfl) ?_)
      refine SemY.regionL ?_
      refine RunL.segF (n := 270) e_law09_EveningRelabels_ok 3 [(3, .sl 2 (x3.map (cdG2 (cdK .u8) (cdK .u8) (fun _ => rfl) (fun _ => rfl)).enc)), (9, .sl 1 (v1.1.map (cdL 1 (cdL 1 cdI)).enc)), (10, .sl 1 (v1.2.1.map cdI.enc)), (11, .v (.int .i64 v1.2.2)), (12, .sl 1 (v2.1.map (cdL 1 (cdL 1 cdI)).enc)), (15, e7), (52, .v (.int .i64 ((List.replicate v1.2.2.toNat (0 : Int)).length : Int))), (53, .v (.int .i64 c8)), (56, e7), (57, .v (.int .i64 c8)), (58, .v (.int .i64 c8))] hp (by kernel_rfl) ?_
      obtain ⟨v11, hv11, h⟩ := Option.bind_eq_some_iff.1 h
      refine RunL.one e_law09_EveningRelabels_ok 0 rfl (op_q (wantedA_none rfl) rfl (q_indexAddr (a := e7) (b := .v (.int .i64 c8)) (by kernel_rfl) (by kernel_rfl) (ix_B (bytes := 8) hT (by kernel_rfl) hv11))) ?_
      obtain ⟨hp12, hs13, hT140⟩ := st_own0 (P := Tryd.prog) (ty := 3) (y := .v (.int .i64 c8)) (v' := c8) hT (idx_at hv11).2 (by kernel_rfl) (by kernel_rfl) (by kernel_rfl)
      have hT14 : T hp12 ((own_ (ocL 1 3 (ocV cdI)) e7 (c9.set c8.toNat c8)) :: L) := hT140
      refine RunL.store e_law09_EveningRelabels_ok (y := eAt e7 c8.toNat) (z := .v (.int .i64 c8)) rfl (wantedA_none rfl) (by kernel_rfl) (by kernel_rfl) hs13 ?_
      refine RunL.done rfl (SemY.fr (l' := [(3, .sl 2 (x3.map (cdG2 (cdK .u8) (cdK .u8) (fun _ => rfl) (fun _ => rfl)).enc)), (9, .sl 1 (v1.1.map (cdL 1 (cdL 1 cdI)).enc)), (10, .sl 1 (v1.2.1.map cdI.enc)), (11, .v (.int .i64 v1.2.2)), (12, .sl 1 (v2.1.map (cdL 1 (cdL 1 cdI)).enc)), (15, e7), (52, .v (.int .i64 ((List.replicate v1.2.2.toNat (0 : Int)).length : Int))), (53, .v (.int .i64 c8))]) (by kernel_rfl) ?_)
      refine SemY.regionL ?_
      refine RunL.segF (n := 270) e_law09_EveningRelabels_ok 2 [(3, .sl 2 (x3.map (cdG2 (cdK .u8) (cdK .u8) (fun _ => rfl) (fun _ => rfl)).enc)), (9, .sl 1 (v1.1.map (cdL 1 (cdL 1 cdI)).enc)), (10, .sl 1 (v1.2.1.map cdI.enc)), (11, .v (.int .i64 v1.2.2)), (12, .sl 1 (v2.1.map (cdL 1 (cdL 1 cdI)).enc)), (15, e7), (52, .v (.int .i64 ((List.replicate v1.2.2.toNat (0 : Int)).length : Int))), (53, .v (.int .i64 (wr .i64 (c8 + 1))))] hp12 (by kernel_rfl) ?_
      refine RunL.done rfl ?_
      exact SemYN.wk WkY.f1 (ih0 (wr .i64 (c8 + 1)) (c9.set c8.toNat c8) _ h  hp12 hT14)
    · rw [if_f hb10] at h
      refine SemY.exit ?_
      have hq := Option.some.inj h; subst hq
      exact ⟨rfl, _, ⟨hp, hT, rfl⟩, WkY.f1⟩
set_option maxHeartbeats 4000000 in
set_option maxRecDepth 100000 in
theorem law09_EveningRelabels_2_ok {L : List Asn} (x3 : (List (Int × Int))) (v1 : (List (List (List Int))) × (List Int) × Int) (v2 : (List (List (List Int))) × (List Int) × Int) (e7 : AV) : ∀ (f : Nat) (c20 : Int) (c21 : (List Int)) (r : ((List Int))), law09_EveningRelabels_2 x3 v1 f c20 c21 = some r → ∀ (hp : Hp), T hp ((own_ (ocL 1 3 (ocV cdI)) e7 c21) :: L) → SemYN e_law09_EveningRelabels ⟨none, false⟩ (pc cb_law09_EveningRelabels [1, 1, 1, 1, 1, 0, 1, 0, 0]) f ⟨Fr 270 [(9, .sl 1 (v1.1.map (cdL 1 (cdL 1 cdI)).enc)), (10, .sl 1 (v1.2.1.map cdI.enc)), (11, .v (.int .i64 v1.2.2)), (12, .sl 1 (v2.1.map (cdL 1 (cdL 1 cdI)).enc)), (15, e7), (65, .sl 2 (((x3.take (mnI (x3.length : Int) 20).toNat).drop (0 : Int).toNat).map (cdG2 (cdK .u8) (cdK .u8) (fun _ => rfl) (fun _ => rfl)).enc)), (66, .v (.int .i64 (((x3.take (mnI (x3.length : Int) 20).toNat).drop (0 : Int).toNat).length : Int))), (67, .v (.int .i64 c20))], hp⟩ (fun e s => e = (.exit 2) ∧ ∃ s2, (∃ (h' : Hp), T h' ((own_ (ocL 1 3 (ocV cdI)) e7 r) :: L) ∧ s2 = ⟨Fr 270 [(9, .sl 1 (v1.1.map (cdL 1 (cdL 1 cdI)).enc)), (10, .sl 1 (v1.2.1.map cdI.enc)), (11, .v (.int .i64 v1.2.2)), (12, .sl 1 (v2.1.map (cdL 1 (cdL 1 cdI)).enc)), (15, e7)], h'⟩) ∧ WkY e_law09_EveningRelabels s s2) := by
  intro f
  induction f with
  | zero => intro c20 c21 r h; cases h
  | succ f ih0 =>
    intro c20 c21 r h  hp hT
    unfold law09_EveningRelabels_2 at h
    refine SemYN.succ ?_
    refine SemY.seq ?_
    refine SemY.regionL ?_
    refine RunL.segF (n := 270) e_law09_EveningRelabels_ok 1 [(9, .sl 1 (v1.1.map (cdL 1 (cdL 1 cdI)).enc)), (10, .sl 1 (v1.2.1.map cdI.enc)), (11, .v (.int .i64 v1.2.2)), (12, .sl 1 (v2.1.map (cdL 1 (cdL 1 cdI)).enc)), (15, e7), (65, .sl 2 (((x3.take (mnI (x3.length : Int) 20).toNat).drop (0 : Int).toNat).map (cdG2 (cdK .u8) (cdK .u8) (fun _ => rfl) (fun _ => rfl)).enc)), (66, .v (.int .i64 (((x3.take (mnI (x3.length : Int) 20).toNat).drop (0 : Int).toNat).length : Int))), (67, .v (.int .i64 c20)), (68, .v (.bool (decide (c20 < (((x3.take (mnI (x3.length : Int) 20).toNat).drop (0 : Int).toNat).length : Int)))))] hp (by kernel_rfl) ?_
    refine RunL.done rfl (SemY.fr (l' := [(9, .sl 1 (v1.1.map (cdL 1 (cdL 1 cdI)).enc)), (10, .sl 1 (v1.2.1.map cdI.enc)), (11, .v (.int .i64 v1.2.2)), (12, .sl 1 (v2.1.map (cdL 1 (cdL 1 cdI)).enc)), (15, e7), (65, .sl 2 (((x3.take (mnI (x3.length : Int) 20).toNat).drop (0 : Int).toNat).map (cdG2 (cdK .u8) (cdK .u8) (fun _ => rfl) (fun _ => rfl)).enc)), (66, .v (.int .i64 (((x3.take (mnI (x3.length : Int) 20).toNat).drop (0 : Int).toNat).length : Int))), (67, .v (.int .i64 c20)), (68, .v (.bool (decide (c20 < (((x3.take (mnI (x3.length : Int) 20).toNat).drop (0 : Int).toNat).length : Int)))))]) (by kernel_rfl) ?_)
    refine SemY.seq ?_
    refine SemY.cond (b := (decide (c20 < (((x3.take (mnI (x3.length : Int) 20).toNat).drop (0 : Int).toNat).length : Int)))) (by kernel_rfl) (fun hb22 => ?_) (fun hb22 => ?_)
    · rw [if_pos hb22] at h
      refine SemY.skip ?_
      refine SemY.seq ?_
      refine SemY.block ?_
      refine SemY.seq ?_
      refine SemY.regionL ?_
      obtain ⟨v23, hv23, h⟩ := Option.bind_eq_some_iff.1 h
      refine RunL.one e_law09_EveningRelabels_ok 0 rfl (op_q (wantedA_none rfl) rfl (q_indexAddr (a := .sl 2 (((x3.take (mnI (x3.length : Int) 20).toNat).drop (0 : Int).toNat).map (cdG2 (cdK .u8) (cdK .u8) (fun _ => rfl) (fun _ => rfl)).enc)) (b := .v (.int .i64 c20)) (by kernel_rfl) (by kernel_rfl) (ix_sl (e := (cdG2 (cdK .u8) (cdK .u8) (fun _ => rfl) (fun _ => rfl)).enc) (el := 53) (k := 2) (ki := .i64) (by kernel_rfl) (by kernel_rfl) hv23))) ?_
      refine RunL.segF (n := 270) e_law09_EveningRelabels_ok 1 [(9, .sl 1 (v1.1.map (cdL 1 (cdL 1 cdI)).enc)), (10, .sl 1 (v1.2.1.map cdI.enc)), (11, .v (.int .i64 v1.2.2)), (12, .sl 1 (v2.1.map (cdL 1 (cdL 1 cdI)).enc)), (15, e7), (65, .sl 2 (((x3.take (mnI (x3.length : Int) 20).toNat).drop (0 : Int).toNat).map (cdG2 (cdK .u8) (cdK .u8) (fun _ => rfl) (fun _ => rfl)).enc)), (66, .v (.int .i64 (((x3.take (mnI (x3.length : Int) 20).toNat).drop (0 : Int).toNat).length : Int))), (67, .v (.int .i64 c20)), (70, .ag [.v (.int .u8 v23.1), .v (.int .u8 v23.2)])] hp (by kernel_rfl) ?_
      obtain ⟨e24, hp25, hb26, hT270⟩ := box_cel (t := 53) (a := .ag [.v (.int .u8 0), .v (.int .u8 0)]) hT (by kernel_rfl)
      have hT27 : T hp25 ((cel e24 2 53 (.ag [.v (.int .u8 0), .v (.int .u8 0)])) :: (own_ (ocL 1 3 (ocV cdI)) e7 c21) :: L) := hT270
      refine RunL.one e_law09_EveningRelabels_ok 0 rfl (op_n (wantedA_none rfl) rfl (by kernel_rfl) (n_alloc (z := .ag [.v (.int .u8 0), .v (.int .u8 0)]) (by kernel_rfl) hb26)) ?_
      obtain ⟨hp28, hs29, hT300⟩ := st_cel0 (P := Tryd.prog) (ty := 53) (y := .ag [.v (.int .u8 v23.1), .v (.int .u8 v23.2)]) (a' := .ag [.v (.int .u8 v23.1), .v (.int .u8 v23.2)]) hT27 (by kernel_rfl) (by kernel_rfl) (by kernel_rfl)
      have hT30 : T hp28 ((cel e24 2 53 (.ag [.v (.int .u8 v23.1), .v (.int .u8 v23.2)])) :: (own_ (ocL 1 3 (ocV cdI)) e7 c21) :: L) := hT300
      refine RunL.store e_law09_EveningRelabels_ok (y := e24) (z := .ag [.v (.int .u8 v23.1), .v (.int .u8 v23.2)]) rfl (wantedA_none rfl) (by kernel_rfl) (by kernel_rfl) hs29 ?_
      refine RunL.done rfl (SemY.fr (l' := [(9, .sl 1 (v1.1.map (cdL 1 (cdL 1 cdI)).enc)), (10, .sl 1 (v1.2.1.map cdI.enc)), (11, .v (.int .i64 v1.2.2)), (12, .sl 1 (v2.1.map (cdL 1 (cdL 1 cdI)).enc)), (15, e7), (18, e24), (65, .sl 2 (((x3.take (mnI (x3.length : Int) 20).toNat).drop (0 : Int).toNat).map (cdG2 (cdK .u8) (cdK .u8) (fun _ => rfl) (fun _ => rfl)).enc)), (66, .v (.int .i64 (((x3.take (mnI (x3.length : Int) 20).toNat).drop (0 : Int).toNat).length : Int))), (67, .v (.int .i64 c20))]) (by kernel_rfl) ?_)
      refine SemY.seq ?_
      refine SemY.runDT 12 e_law09_EveningRelabels_ok.mixed (by kernel_rfl) (by kernel_rfl) ?_
      refine RunDT.q (x := pOff e24 0) rfl (by kernel_rfl) rfl (wantedA_none rfl) rfl (q_indexAddr (a := e24) (b := .v (.int .i64 0)) (by kernel_rfl) (by kernel_rfl) (ixc_B0 (s := 1) hT30 (by kernel_rfl))) (by kernel_rfl) ?_
      refine RunDT.q (x := .v (.int .u8 v23.1)) rfl (by kernel_rfl) rfl (wantedA_none rfl) rfl (q_load (p := pOff e24 0) (by kernel_rfl) (ld_cel (off := 0) (y := .v (.int .u8 v23.1)) (m := 1) (g := false) hT30 (by kernel_rfl) (by kernel_rfl) (by kernel_rfl))) (ldOk_cel (off := 0) hT30 (by kernel_rfl)) ?_
      refine RunDT.q (x := .v (.int .i64 (wr .i64 v23.1))) rfl (by kernel_rfl) rfl (wantedA_none rfl) rfl (by kernel_rfl) (by kernel_rfl) ?_
      refine RunDT.q (x := .v (.int .i64 v1.2.2)) rfl (by kernel_rfl) rfl (wantedA_none rfl) rfl (by kernel_rfl) (by kernel_rfl) ?_
      by_cases hz31 : v1.2.2 = (0 : Int)
      · rw [if_pos hz31] at h; cases h
      rw [if_neg hz31] at h
      refine RunDT.q (x := .v (.int .i64 ((wr .i64 v23.1).tmod v1.2.2))) rfl (by kernel_rfl) rfl (wantedA_none rfl) rfl (q_bin (a := .v (.int .i64 (wr .i64 v23.1))) (b := .v (.int .i64 v1.2.2)) (by kernel_rfl) (by kernel_rfl) (bin_rem hz31)) (by kernel_rfl) ?_
      refine RunDT.q (x := pOff e24 1) rfl (by kernel_rfl) rfl (wantedA_none rfl) rfl (q_indexAddr (a := e24) (b := .v (.int .i64 1)) (by kernel_rfl) (by kernel_rfl) (ixc_B0 (s := 1) hT30 (by kernel_rfl))) (by kernel_rfl) ?_
      refine RunDT.q (x := .v (.int .u8 v23.2)) rfl (by kernel_rfl) rfl (wantedA_none rfl) rfl (q_load (p := pOff e24 1) (by kernel_rfl) (ld_cel (off := 1) (y := .v (.int .u8 v23.2)) (m := 1) (g := false) hT30 (by kernel_rfl) (by kernel_rfl) (by kernel_rfl))) (ldOk_cel (off := 1) hT30 (by kernel_rfl)) ?_
      refine RunDT.q (x := .v (.int .i64 (wr .i64 v23.2))) rfl (by kernel_rfl) rfl (wantedA_none rfl) rfl (by kernel_rfl) (by kernel_rfl) ?_
      refine RunDT.q (x := .v (.int .i64 v1.2.2)) rfl (by kernel_rfl) rfl (wantedA_none rfl) rfl (by kernel_rfl) (by kernel_rfl) ?_
      by_cases hz32 : v1.2.2 = (0 : Int)
      · rw [if_pos hz32] at h; cases h
      rw [if_neg hz32] at h
      refine RunDT.q (x := .v (.int .i64 ((wr .i64 v23.2).tmod v1.2.2))) rfl (by kernel_rfl) rfl (wantedA_none rfl) rfl (q_bin (a := .v (.int .i64 (wr .i64 v23.2))) (b := .v (.int .i64 v1.2.2)) (by kernel_rfl) (by kernel_rfl) (bin_rem hz32)) (by kernel_rfl) ?_
      refine RunDT.q (x := .v (.int .i64 ((wr .i64 v23.1).tmod v1.2.2))) rfl (by kernel_rfl) rfl (wantedA_none rfl) rfl (by kernel_rfl) (by kernel_rfl) ?_
      refine RunDT.q (x := .v (.int .i64 ((wr .i64 v23.2).tmod v1.2.2))) rfl (by kernel_rfl) rfl (wantedA_none rfl) rfl (by kernel_rfl) (by kernel_rfl) ?_
      refine RunDT.done rfl (SemY.fr (l' := [(9, .sl 1 (v1.1.map (cdL 1 (cdL 1 cdI)).enc)), (10, .sl 1 (v1.2.1.map cdI.enc)), (11, .v (.int .i64 v1.2.2)), (12, .sl 1 (v2.1.map (cdL 1 (cdL 1 cdI)).enc)), (15, e7), (19, .v (.int .i64 ((wr .i64 v23.1).tmod v1.2.2))), (20, .v (.int .i64 ((wr .i64 v23.2).tmod v1.2.2))), (65, .sl 2 (((x3.take (mnI (x3.length : Int) 20).toNat).drop (0 : Int).toNat).map (cdG2 (cdK .u8) (cdK .u8) (fun _ => rfl) (fun _ => rfl)).enc)), (66, .v (.int .i64 (((x3.take (mnI (x3.length : Int) 20).toNat).drop (0 : Int).toNat).length : Int))), (67, .v (.int .i64 c20))]) (by kernel_rfl) ?_)
      refine SemY.runDT 13 e_law09_EveningRelabels_ok.mixed (by kernel_rfl) (by kernel_rfl) ?_
      refine RunDT.q (x := e7) rfl (by kernel_rfl) rfl (wantedA_none rfl) rfl (by kernel_rfl) (by kernel_rfl) ?_
      refine RunDT.q (x := .v (.int .i64 ((wr .i64 v23.1).tmod v1.2.2))) rfl (by kernel_rfl) rfl (wantedA_none rfl) rfl (by kernel_rfl) (by kernel_rfl) ?_
      refine RunDT.q (x := e7) rfl (by kernel_rfl) rfl (wantedA_none rfl) rfl (by kernel_rfl) (by kernel_rfl) ?_
      refine RunDT.q (x := .v (.int .i64 ((wr .i64 v23.2).tmod v1.2.2))) rfl (by kernel_rfl) rfl (wantedA_none rfl) rfl (by kernel_rfl) (by kernel_rfl) ?_
      refine RunDT.q (x := e7) rfl (by kernel_rfl) rfl (wantedA_none rfl) rfl (by kernel_rfl) (by kernel_rfl) ?_
      refine RunDT.q (x := .v (.int .i64 ((wr .i64 v23.2).tmod v1.2.2))) rfl (by kernel_rfl) rfl (wantedA_none rfl) rfl (by kernel_rfl) (by kernel_rfl) ?_
      obtain ⟨v33, hv33, h⟩ := Option.bind_eq_some_iff.1 h
      have hT34 : T hp28 ((own_ (ocL 1 3 (ocV cdI)) e7 c21) :: (cel e24 2 53 (.ag [.v (.int .u8 v23.1), .v (.int .u8 v23.2)])) :: L) := (hT30.front 1 rfl)
      refine RunDT.q (x := eAt e7 (((wr .i64 v23.2).tmod v1.2.2).toNat)) rfl (by kernel_rfl) rfl (wantedA_none rfl) rfl (q_indexAddr (a := e7) (b := .v (.int .i64 ((wr .i64 v23.2).tmod v1.2.2))) (by kernel_rfl) (by kernel_rfl) (ix_B (bytes := 8) hT34 (by kernel_rfl) hv33)) (by kernel_rfl) ?_
      refine RunDT.q (x := .v (.int .i64 v33)) rfl (by kernel_rfl) rfl (wantedA_none rfl) rfl (q_load (p := eAt e7 (((wr .i64 v23.2).tmod v1.2.2).toNat)) (by kernel_rfl) (ld_own0 (y := .v (.int .i64 v33)) (m := 1) (g := false) hT34 (idx_at hv33).2 (by kernel_rfl) (by kernel_rfl) (by kernel_rfl))) (ldOk_own0 (hT30.front 1 rfl) (idx_at hv33).2 (by kernel_rfl)) ?_
      refine RunDT.q (x := e7) rfl (by kernel_rfl) rfl (wantedA_none rfl) rfl (by kernel_rfl) (by kernel_rfl) ?_
      refine RunDT.q (x := .v (.int .i64 ((wr .i64 v23.1).tmod v1.2.2))) rfl (by kernel_rfl) rfl (wantedA_none rfl) rfl (by kernel_rfl) (by kernel_rfl) ?_
      obtain ⟨v35, hv35, h⟩ := Option.bind_eq_some_iff.1 h
      refine RunDT.q (x := eAt e7 (((wr .i64 v23.1).tmod v1.2.2).toNat)) rfl (by kernel_rfl) rfl (wantedA_none rfl) rfl (q_indexAddr (a := e7) (b := .v (.int .i64 ((wr .i64 v23.1).tmod v1.2.2))) (by kernel_rfl) (by kernel_rfl) (ix_B (bytes := 8) hT34 (by kernel_rfl) hv35)) (by kernel_rfl) ?_
      refine RunDT.q (x := .v (.int .i64 v35)) rfl (by kernel_rfl) rfl (wantedA_none rfl) rfl (q_load (p := eAt e7 (((wr .i64 v23.1).tmod v1.2.2).toNat)) (by kernel_rfl) (ld_own0 (y := .v (.int .i64 v35)) (m := 1) (g := false) hT34 (idx_at hv35).2 (by kernel_rfl) (by kernel_rfl) (by kernel_rfl))) (ldOk_own0 (hT30.front 1 rfl) (idx_at hv35).2 (by kernel_rfl)) ?_
      obtain ⟨v36, hv36, h⟩ := Option.bind_eq_some_iff.1 h
      refine RunDT.q (x := eAt e7 (((wr .i64 v23.1).tmod v1.2.2).toNat)) rfl (by kernel_rfl) rfl (wantedA_none rfl) rfl (q_indexAddr (a := e7) (b := .v (.int .i64 ((wr .i64 v23.1).tmod v1.2.2))) (by kernel_rfl) (by kernel_rfl) (ix_B (bytes := 8) hT34 (by kernel_rfl) hv36)) (by kernel_rfl) ?_
      refine RunDT.tail rfl ?_
      obtain ⟨hp37, hs38, hT390⟩ := st_own0 (P := Tryd.prog) (ty := 3) (y := .v (.int .i64 v33)) (v' := v33) hT34 (idx_at hv36).2 (by kernel_rfl) (by kernel_rfl) (by kernel_rfl)
      have hT39 : T hp37 ((own_ (ocL 1 3 (ocV cdI)) e7 (c21.set (((wr .i64 v23.1).tmod v1.2.2).toNat) v33)) :: (cel e24 2 53 (.ag [.v (.int .u8 v23.1), .v (.int .u8 v23.2)])) :: L) := hT390
      refine RunL.store e_law09_EveningRelabels_ok (y := eAt e7 (((wr .i64 v23.1).tmod v1.2.2).toNat)) (z := .v (.int .i64 v33)) rfl (wantedA_none rfl) (by kernel_rfl) (by kernel_rfl) hs38 ?_
      obtain ⟨v40, hv40, h⟩ := Option.bind_eq_some_iff.1 h
      refine RunL.one e_law09_EveningRelabels_ok 0 rfl (op_q (wantedA_none rfl) rfl (q_indexAddr (a := e7) (b := .v (.int .i64 ((wr .i64 v23.2).tmod v1.2.2))) (by kernel_rfl) (by kernel_rfl) (ix_B (bytes := 8) hT39 (by kernel_rfl) hv40))) ?_
      obtain ⟨hp41, hs42, hT430⟩ := st_own0 (P := Tryd.prog) (ty := 3) (y := .v (.int .i64 v35)) (v' := v35) hT39 (idx_at hv40).2 (by kernel_rfl) (by kernel_rfl) (by kernel_rfl)
      have hT43 : T hp41 ((own_ (ocL 1 3 (ocV cdI)) e7 ((c21.set (((wr .i64 v23.1).tmod v1.2.2).toNat) v33).set (((wr .i64 v23.2).tmod v1.2.2).toNat) v35)) :: (cel e24 2 53 (.ag [.v (.int .u8 v23.1), .v (.int .u8 v23.2)])) :: L) := hT430
      refine RunL.store e_law09_EveningRelabels_ok (y := eAt e7 (((wr .i64 v23.2).tmod v1.2.2).toNat)) (z := .v (.int .i64 v35)) rfl (wantedA_none rfl) (by kernel_rfl) (by kernel_rfl) hs42 ?_
      refine RunL.done rfl (SemY.fr (l' := [(9, .sl 1 (v1.1.map (cdL 1 (cdL 1 cdI)).enc)), (10, .sl 1 (v1.2.1.map cdI.enc)), (11, .v (.int .i64 v1.2.2)), (12, .sl 1 (v2.1.map (cdL 1 (cdL 1 cdI)).enc)), (15, e7), (65, .sl 2 (((x3.take (mnI (x3.length : Int) 20).toNat).drop (0 : Int).toNat).map (cdG2 (cdK .u8) (cdK .u8) (fun _ => rfl) (fun _ => rfl)).enc)), (66, .v (.int .i64 (((x3.take (mnI (x3.length : Int) 20).toNat).drop (0 : Int).toNat).length : Int))), (67, .v (.int .i64 c20))]) (by kernel_rfl) ?_)
      refine SemY.regionL ?_
      refine RunL.segF (n := 270) e_law09_EveningRelabels_ok 2 [(9, .sl 1 (v1.1.map (cdL 1 (cdL 1 cdI)).enc)), (10, .sl 1 (v1.2.1.map cdI.enc)), (11, .v (.int .i64 v1.2.2)), (12, .sl 1 (v2.1.map (cdL 1 (cdL 1 cdI)).enc)), (15, e7), (65, .sl 2 (((x3.take (mnI (x3.length : Int) 20).toNat).drop (0 : Int).toNat).map (cdG2 (cdK .u8) (cdK .u8) (fun _ => rfl) (fun _ => rfl)).enc)), (66, .v (.int .i64 (((x3.take (mnI (x3.length : Int) 20).toNat).drop (0 : Int).toNat).length : Int))), (67, .v (.int .i64 (wr .i64 (c20 + 1))))] hp41 (by kernel_rfl) ?_
      refine RunL.done rfl ?_
      have hT44 : T hp41 ((own_ (ocL 1 3 (ocV cdI)) e7 ((c21.set (((wr .i64 v23.1).tmod v1.2.2).toNat) v33).set (((wr .i64 v23.2).tmod v1.2.2).toNat) v35)) :: L) := (hT43.front 1 rfl).drop
      exact SemYN.wk WkY.f1 (ih0 (wr .i64 (c20 + 1)) ((c21.set (((wr .i64 v23.1).tmod v1.2.2).toNat) v33).set (((wr .i64 v23.2).tmod v1.2.2).toNat) v35) _ h  hp41 hT44)
    · rw [if_f hb22] at h
      refine SemY.exit ?_
      have hq := Option.some.inj h; subst hq
      exact ⟨rfl, _, ⟨hp, hT, rfl⟩, WkY.f1⟩
set_option maxHeartbeats 4000000 in
set_option maxRecDepth 100000 in
theorem law09_EveningRelabels_4_ok {L : List Asn} (v1 : (List (List (List Int))) × (List Int) × Int) (r46 : (List Int)) (v65 : (List (List Int))) (v66 : (List (List Int))) (v67 : (List (List Int))) (v68 : (List (List Int))) (v69 : (List (List Int))) (v70 : (List (List Int))) (c72 : Int) (v52 : (List (List (List Int))) × Int) : ∀ (f : Nat) (c74 : Int) (r : (Unit) ⊕ (Unit)), law09_EveningRelabels_4 v1 r46 v65 v66 v67 v68 v69 v70 c72 f c74 = some r → ∀ (hp : Hp), T hp (L) → SemYN e_law09_EveningRelabels ⟨none, false⟩ (pc cb_law09_EveningRelabels [1, 1, 1, 1, 1, 1, 1, 1, 1, 1, 1, 1, 1, 0, 1, 0, 0, 1, 1, 0, 0, 1, 1, 0, 0]) f ⟨Fr 270 [(9, .sl 1 (v1.1.map (cdL 1 (cdL 1 cdI)).enc)), (11, .v (.int .i64 v1.2.2)), (15, .sl 1 (r46.map cdI.enc)), (21, .sl 1 (v52.1.map (cdL 1 (cdL 1 cdI)).enc)), (27, .sl 1 (v65.map (cdL 1 cdI).enc)), (28, .sl 1 (v66.map (cdL 1 cdI).enc)), (29, .sl 1 (v67.map (cdL 1 cdI).enc)), (30, .sl 1 (v68.map (cdL 1 cdI).enc)), (31, .sl 1 (v69.map (cdL 1 cdI).enc)), (32, .sl 1 (v70.map (cdL 1 cdI).enc)), (33, .v (.int .i64 c72)), (172, .v (.int .i64 v1.2.2)), (173, .v (.int .i64 c72)), (176, .v (.int .i64 v1.2.2)), (177, .v (.int .i64 c74))], hp⟩ (fun e s => match r with
  | (.inl _w) => e = (.exit 6) ∧ ∃ s2, (∃ (h' : Hp), T h' (L) ∧ s2 = ⟨Fr 270 [(9, .sl 1 (v1.1.map (cdL 1 (cdL 1 cdI)).enc)), (11, .v (.int .i64 v1.2.2)), (15, .sl 1 (r46.map cdI.enc)), (21, .sl 1 (v52.1.map (cdL 1 (cdL 1 cdI)).enc)), (27, .sl 1 (v65.map (cdL 1 cdI).enc)), (28, .sl 1 (v66.map (cdL 1 cdI).enc)), (29, .sl 1 (v67.map (cdL 1 cdI).enc)), (30, .sl 1 (v68.map (cdL 1 cdI).enc)), (31, .sl 1 (v69.map (cdL 1 cdI).enc)), (32, .sl 1 (v70.map (cdL 1 cdI).enc)), (172, .v (.int .i64 v1.2.2)), (173, .v (.int .i64 c72))], h'⟩) ∧ WkY e_law09_EveningRelabels s s2
  | (.inr _w) => e = .ret ∧ ∃ s2, (∃ (h' : Hp), T h' (L) ∧ s2 = ⟨Fr 270 [(8, .v (.bool false))], h'⟩) ∧ WkY e_law09_EveningRelabels s s2) := by
  intro f
  induction f with
  | zero => intro c74 r h; cases h
  | succ f ih0 =>
    intro c74 r h  hp hT
    unfold law09_EveningRelabels_4 at h
    refine SemYN.succ ?_
    refine SemY.seq ?_
    refine SemY.regionL ?_
    refine RunL.segF (n := 270) e_law09_EveningRelabels_ok 1 [(9, .sl 1 (v1.1.map (cdL 1 (cdL 1 cdI)).enc)), (11, .v (.int .i64 v1.2.2)), (15, .sl 1 (r46.map cdI.enc)), (21, .sl 1 (v52.1.map (cdL 1 (cdL 1 cdI)).enc)), (27, .sl 1 (v65.map (cdL 1 cdI).enc)), (28, .sl 1 (v66.map (cdL 1 cdI).enc)), (29, .sl 1 (v67.map (cdL 1 cdI).enc)), (30, .sl 1 (v68.map (cdL 1 cdI).enc)), (31, .sl 1 (v69.map (cdL 1 cdI).enc)), (32, .sl 1 (v70.map (cdL 1 cdI).enc)), (33, .v (.int .i64 c72)), (172, .v (.int .i64 v1.2.2)), (173, .v (.int .i64 c72)), (176, .v (.int .i64 v1.2.2)), (177, .v (.int .i64 c74)), (178, .v (.bool (decide (c74 < v1.2.2))))] hp (by kernel_rfl) ?_
    refine RunL.done rfl (SemY.fr (l' := [(9, .sl 1 (v1.1.map (cdL 1 (cdL 1 cdI)).enc)), (11, .v (.int .i64 v1.2.2)), (15, .sl 1 (r46.map cdI.enc)), (21, .sl 1 (v52.1.map (cdL 1 (cdL 1 cdI)).enc)), (27, .sl 1 (v65.map (cdL 1 cdI).enc)), (28, .sl 1 (v66.map (cdL 1 cdI).enc)), (29, .sl 1 (v67.map (cdL 1 cdI).enc)), (30, .sl 1 (v68.map (cdL 1 cdI).enc)), (31, .sl 1 (v69.map (cdL 1 cdI).enc)), (32, .sl 1 (v70.map (cdL 1 cdI).enc)), (33, .v (.int .i64 c72)), (172, .v (.int .i64 v1.2.2)), (173, .v (.int .i64 c72)), (176, .v (.int .i64 v1.2.2)), (177, .v (.int .i64 c74)), (178, .v (.bool (decide (c74 < v1.2.2))))]) (by kernel_rfl) ?_)
    refine SemY.seq ?_
    refine SemY.cond (b := (decide (c74 < v1.2.2))) (by kernel_rfl) (fun hb75 => ?_) (fun hb75 => ?_)
    · rw [if_pos hb75] at h
      refine SemY.skip ?_
      refine SemY.seq ?_
      refine SemY.block ?_
      refine SemY.seq ?_
      refine SemY.regionL ?_
      refine RunL.segF (n := 270) e_law09_EveningRelabels_ok 2 [(9, .sl 1 (v1.1.map (cdL 1 (cdL 1 cdI)).enc)), (11, .v (.int .i64 v1.2.2)), (15, .sl 1 (r46.map cdI.enc)), (21, .sl 1 (v52.1.map (cdL 1 (cdL 1 cdI)).enc)), (27, .sl 1 (v65.map (cdL 1 cdI).enc)), (28, .sl 1 (v66.map (cdL 1 cdI).enc)), (29, .sl 1 (v67.map (cdL 1 cdI).enc)), (30, .sl 1 (v68.map (cdL 1 cdI).enc)), (31, .sl 1 (v69.map (cdL 1 cdI).enc)), (32, .sl 1 (v70.map (cdL 1 cdI).enc)), (33, .v (.int .i64 c72)), (34, .v (.int .i64 c74)), (172, .v (.int .i64 v1.2.2)), (173, .v (.int .i64 c72)), (176, .v (.int .i64 v1.2.2)), (177, .v (.int .i64 c74))] hp (by kernel_rfl) ?_
      refine RunL.done rfl (SemY.fr (l' := [(9, .sl 1 (v1.1.map (cdL 1 (cdL 1 cdI)).enc)), (11, .v (.int .i64 v1.2.2)), (15, .sl 1 (r46.map cdI.enc)), (21, .sl 1 (v52.1.map (cdL 1 (cdL 1 cdI)).enc)), (27, .sl 1 (v65.map (cdL 1 cdI).enc)), (28, .sl 1 (v66.map (cdL 1 cdI).enc)), (29, .sl 1 (v67.map (cdL 1 cdI).enc)), (30, .sl 1 (v68.map (cdL 1 cdI).enc)), (31, .sl 1 (v69.map (cdL 1 cdI).enc)), (32, .sl 1 (v70.map (cdL 1 cdI).enc)), (33, .v (.int .i64 c72)), (34, .v (.int .i64 c74)), (172, .v (.int .i64 v1.2.2)), (173, .v (.int .i64 c72)), (176, .v (.int .i64 v1.2.2)), (177, .v (.int .i64 c74))]) (by kernel_rfl) ?_)
      refine SemY.seq ?_
      obtain ⟨v76, hv76, h⟩ := Option.bind_eq_some_iff.1 h
      obtain ⟨v77, hv77, h⟩ := Option.bind_eq_some_iff.1 h
      obtain ⟨v78, hv78, h⟩ := Option.bind_eq_some_iff.1 h
      obtain ⟨v79, hv79, h⟩ := Option.bind_eq_some_iff.1 h
      obtain ⟨v80, hv80, h⟩ := Option.bind_eq_some_iff.1 h
      obtain ⟨v81, hv81, h⟩ := Option.bind_eq_some_iff.1 h
      obtain ⟨j94, hj94, h⟩ := Option.bind_eq_some_iff.1 h
      refine SemY.regDT 69 (A := fun s1 => ∃ (h' : Hp), T h' (L) ∧ s1 = ⟨Fr 270 [(9, .sl 1 (v1.1.map (cdL 1 (cdL 1 cdI)).enc)), (11, .v (.int .i64 v1.2.2)), (15, .sl 1 (r46.map cdI.enc)), (21, .sl 1 (v52.1.map (cdL 1 (cdL 1 cdI)).enc)), (27, .sl 1 (v65.map (cdL 1 cdI).enc)), (28, .sl 1 (v66.map (cdL 1 cdI).enc)), (29, .sl 1 (v67.map (cdL 1 cdI).enc)), (30, .sl 1 (v68.map (cdL 1 cdI).enc)), (31, .sl 1 (v69.map (cdL 1 cdI).enc)), (32, .sl 1 (v70.map (cdL 1 cdI).enc)), (33, .v (.int .i64 c72)), (172, .v (.int .i64 v1.2.2)), (173, .v (.int .i64 c72)), (176, .v (.int .i64 v1.2.2)), (177, .v (.int .i64 c74)), (248, .v (.bool j94))], h'⟩) e_law09_EveningRelabels_ok.mixed (by kernel_rfl) (by kernel_rfl) ?_ ?_
      · refine RunDT.q (x := .sl 1 (v67.map (cdL 1 cdI).enc)) rfl (by kernel_rfl) rfl (wantedA_none rfl) rfl (by kernel_rfl) (by kernel_rfl) ?_
        refine RunDT.q (x := .sl 1 (r46.map cdI.enc)) rfl (by kernel_rfl) rfl (wantedA_none rfl) rfl (by kernel_rfl) (by kernel_rfl) ?_
        refine RunDT.q (x := .v (.int .i64 c72)) rfl (by kernel_rfl) rfl (wantedA_none rfl) rfl (by kernel_rfl) (by kernel_rfl) ?_
        refine RunDT.q (x := .pe (.v (.int .i64 v76)) 0) rfl (by kernel_rfl) rfl (wantedA_none rfl) rfl (q_indexAddr (a := .sl 1 (r46.map cdI.enc)) (b := .v (.int .i64 c72)) (by kernel_rfl) (by kernel_rfl) (ix_sl (e := cdI.enc) (el := 3) (k := 1) (ki := .i64) (by kernel_rfl) (by kernel_rfl) hv76)) (by kernel_rfl) ?_
        refine RunDT.q (x := .v (.int .i64 v76)) rfl (by kernel_rfl) rfl (wantedA_none rfl) rfl (by kernel_rfl) (by kernel_rfl) ?_
        refine RunDT.q (x := .pe (.sl 1 (v77.map cdI.enc)) 0) rfl (by kernel_rfl) rfl (wantedA_none rfl) rfl (q_indexAddr (a := .sl 1 (v67.map (cdL 1 cdI).enc)) (b := .v (.int .i64 v76)) (by kernel_rfl) (by kernel_rfl) (ix_sl (e := (cdL 1 cdI).enc) (el := 31) (k := 1) (ki := .i64) (by kernel_rfl) (by kernel_rfl) hv77)) (by kernel_rfl) ?_
        refine RunDT.q (x := .sl 1 (v77.map cdI.enc)) rfl (by kernel_rfl) rfl (wantedA_none rfl) rfl (by kernel_rfl) (by kernel_rfl) ?_
        refine RunDT.q (x := .sl 1 (r46.map cdI.enc)) rfl (by kernel_rfl) rfl (wantedA_none rfl) rfl (by kernel_rfl) (by kernel_rfl) ?_
        refine RunDT.q (x := .v (.int .i64 c74)) rfl (by kernel_rfl) rfl (wantedA_none rfl) rfl (by kernel_rfl) (by kernel_rfl) ?_
        refine RunDT.q (x := .pe (.v (.int .i64 v78)) 0) rfl (by kernel_rfl) rfl (wantedA_none rfl) rfl (q_indexAddr (a := .sl 1 (r46.map cdI.enc)) (b := .v (.int .i64 c74)) (by kernel_rfl) (by kernel_rfl) (ix_sl (e := cdI.enc) (el := 3) (k := 1) (ki := .i64) (by kernel_rfl) (by kernel_rfl) hv78)) (by kernel_rfl) ?_
        refine RunDT.q (x := .v (.int .i64 v78)) rfl (by kernel_rfl) rfl (wantedA_none rfl) rfl (by kernel_rfl) (by kernel_rfl) ?_
        refine RunDT.q (x := .pe (.v (.int .i64 v79)) 0) rfl (by kernel_rfl) rfl (wantedA_none rfl) rfl (q_indexAddr (a := .sl 1 (v77.map cdI.enc)) (b := .v (.int .i64 v78)) (by kernel_rfl) (by kernel_rfl) (ix_sl (e := cdI.enc) (el := 3) (k := 1) (ki := .i64) (by kernel_rfl) (by kernel_rfl) hv79)) (by kernel_rfl) ?_
        refine RunDT.q (x := .v (.int .i64 v79)) rfl (by kernel_rfl) rfl (wantedA_none rfl) rfl (by kernel_rfl) (by kernel_rfl) ?_
        refine RunDT.q (x := .sl 1 (v65.map (cdL 1 cdI).enc)) rfl (by kernel_rfl) rfl (wantedA_none rfl) rfl (by kernel_rfl) (by kernel_rfl) ?_
        refine RunDT.q (x := .v (.int .i64 c72)) rfl (by kernel_rfl) rfl (wantedA_none rfl) rfl (by kernel_rfl) (by kernel_rfl) ?_
        refine RunDT.q (x := .pe (.sl 1 (v80.map cdI.enc)) 0) rfl (by kernel_rfl) rfl (wantedA_none rfl) rfl (q_indexAddr (a := .sl 1 (v65.map (cdL 1 cdI).enc)) (b := .v (.int .i64 c72)) (by kernel_rfl) (by kernel_rfl) (ix_sl (e := (cdL 1 cdI).enc) (el := 31) (k := 1) (ki := .i64) (by kernel_rfl) (by kernel_rfl) hv80)) (by kernel_rfl) ?_
        refine RunDT.q (x := .sl 1 (v80.map cdI.enc)) rfl (by kernel_rfl) rfl (wantedA_none rfl) rfl (by kernel_rfl) (by kernel_rfl) ?_
        refine RunDT.q (x := .v (.int .i64 c74)) rfl (by kernel_rfl) rfl (wantedA_none rfl) rfl (by kernel_rfl) (by kernel_rfl) ?_
        refine RunDT.q (x := .pe (.v (.int .i64 v81)) 0) rfl (by kernel_rfl) rfl (wantedA_none rfl) rfl (q_indexAddr (a := .sl 1 (v80.map cdI.enc)) (b := .v (.int .i64 c74)) (by kernel_rfl) (by kernel_rfl) (ix_sl (e := cdI.enc) (el := 3) (k := 1) (ki := .i64) (by kernel_rfl) (by kernel_rfl) hv81)) (by kernel_rfl) ?_
        refine RunDT.q (x := .v (.int .i64 v81)) rfl (by kernel_rfl) rfl (wantedA_none rfl) rfl (by kernel_rfl) (by kernel_rfl) ?_
        refine RunDT.q (x := .v (.bool (v79 != v81))) rfl (by kernel_rfl) rfl (wantedA_none rfl) rfl (by kernel_rfl) (by kernel_rfl) ?_
        refine RunDT.q (x := .v (.bool (v79 != v81))) rfl (by kernel_rfl) rfl (wantedA_none rfl) rfl (by kernel_rfl) (by kernel_rfl) ?_
        rcases Bool.eq_false_or_eq_true (v79 != v81) with hc99 | hc99
        · rw [if_pos hc99] at hj94
          rw [hc99]
          refine RunDT.skip rfl (by kernel_rfl) rfl ?_
          refine RunDT.skip rfl (by kernel_rfl) rfl ?_
          refine RunDT.skip rfl (by kernel_rfl) rfl ?_
          refine RunDT.skip rfl (by kernel_rfl) rfl ?_
          refine RunDT.skip rfl (by kernel_rfl) rfl ?_
          refine RunDT.skip rfl (by kernel_rfl) rfl ?_
          refine RunDT.skip rfl (by kernel_rfl) rfl ?_
          refine RunDT.skip rfl (by kernel_rfl) rfl ?_
          refine RunDT.skip rfl (by kernel_rfl) rfl ?_
          refine RunDT.skip rfl (by kernel_rfl) rfl ?_
          refine RunDT.skip rfl (by kernel_rfl) rfl ?_
          refine RunDT.skip rfl (by kernel_rfl) rfl ?_
          refine RunDT.skip rfl (by kernel_rfl) rfl ?_
          refine RunDT.skip rfl (by kernel_rfl) rfl ?_
          refine RunDT.skip rfl (by kernel_rfl) rfl ?_
          refine RunDT.skip rfl (by kernel_rfl) rfl ?_
          refine RunDT.skip rfl (by kernel_rfl) rfl ?_
          refine RunDT.skip rfl (by kernel_rfl) rfl ?_
          refine RunDT.skip rfl (by kernel_rfl) rfl ?_
          refine RunDT.skip rfl (by kernel_rfl) rfl ?_
          refine RunDT.skip rfl (by kernel_rfl) rfl ?_
          refine RunDT.skip rfl (by kernel_rfl) rfl ?_
          refine RunDT.skip rfl (by kernel_rfl) rfl ?_
          refine RunDT.q (x := .v (.bool true)) rfl (by kernel_rfl) rfl (wantedA_none rfl) rfl (by kernel_rfl) (by kernel_rfl) ?_
          refine RunDT.q (x := .v (.bool true)) rfl (by kernel_rfl) rfl (wantedA_none rfl) rfl (by kernel_rfl) (by kernel_rfl) ?_
          refine RunDT.skip rfl (by kernel_rfl) rfl ?_
          refine RunDT.skip rfl (by kernel_rfl) rfl ?_
          refine RunDT.skip rfl (by kernel_rfl) rfl ?_
          refine RunDT.skip rfl (by kernel_rfl) rfl ?_
          refine RunDT.skip rfl (by kernel_rfl) rfl ?_
          refine RunDT.skip rfl (by kernel_rfl) rfl ?_
          refine RunDT.skip rfl (by kernel_rfl) rfl ?_
          refine RunDT.skip rfl (by kernel_rfl) rfl ?_
          refine RunDT.skip rfl (by kernel_rfl) rfl ?_
          refine RunDT.skip rfl (by kernel_rfl) rfl ?_
          refine RunDT.skip rfl (by kernel_rfl) rfl ?_
          refine RunDT.skip rfl (by kernel_rfl) rfl ?_
          refine RunDT.skip rfl (by kernel_rfl) rfl ?_
          refine RunDT.skip rfl (by kernel_rfl) rfl ?_
          refine RunDT.skip rfl (by kernel_rfl) rfl ?_
          refine RunDT.skip rfl (by kernel_rfl) rfl ?_
          refine RunDT.skip rfl (by kernel_rfl) rfl ?_
          refine RunDT.skip rfl (by kernel_rfl) rfl ?_
          refine RunDT.skip rfl (by kernel_rfl) rfl ?_
          refine RunDT.skip rfl (by kernel_rfl) rfl ?_
          refine RunDT.skip rfl (by kernel_rfl) rfl ?_
          refine RunDT.q (x := .v (.bool true)) rfl (by kernel_rfl) rfl (wantedA_none rfl) rfl (by kernel_rfl) (by kernel_rfl) ?_
          have hq := Option.some.inj hj94; subst hq
          exact RunDT.done rfl ⟨_, ⟨hp, hT, rfl⟩, WkY.f1⟩
        · rw [if_f hc99] at hj94
          rw [hc99]
          refine RunDT.q (x := .sl 1 (v68.map (cdL 1 cdI).enc)) rfl (by kernel_rfl) rfl (by kernel_rfl) rfl (by kernel_rfl) (by kernel_rfl) ?_
          refine RunDT.q (x := .v (.int .i64 c72)) rfl (by kernel_rfl) rfl (by kernel_rfl) rfl (by kernel_rfl) (by kernel_rfl) ?_
          obtain ⟨v82, hv82, hj94⟩ := Option.bind_eq_some_iff.1 hj94
          refine RunDT.q (x := .pe (.sl 1 (v82.map cdI.enc)) 0) rfl (by kernel_rfl) rfl (by kernel_rfl) rfl (q_indexAddr (a := .sl 1 (v68.map (cdL 1 cdI).enc)) (b := .v (.int .i64 c72)) (by kernel_rfl) (by kernel_rfl) (ix_sl (e := (cdL 1 cdI).enc) (el := 31) (k := 1) (ki := .i64) (by kernel_rfl) (by kernel_rfl) hv82)) (by kernel_rfl) ?_
          refine RunDT.q (x := .sl 1 (v82.map cdI.enc)) rfl (by kernel_rfl) rfl (by kernel_rfl) rfl (by kernel_rfl) (by kernel_rfl) ?_
          refine RunDT.q (x := .v (.int .i64 c74)) rfl (by kernel_rfl) rfl (by kernel_rfl) rfl (by kernel_rfl) (by kernel_rfl) ?_
          obtain ⟨v83, hv83, hj94⟩ := Option.bind_eq_some_iff.1 hj94
          refine RunDT.q (x := .pe (.v (.int .i64 v83)) 0) rfl (by kernel_rfl) rfl (by kernel_rfl) rfl (q_indexAddr (a := .sl 1 (v82.map cdI.enc)) (b := .v (.int .i64 c74)) (by kernel_rfl) (by kernel_rfl) (ix_sl (e := cdI.enc) (el := 3) (k := 1) (ki := .i64) (by kernel_rfl) (by kernel_rfl) hv83)) (by kernel_rfl) ?_
          refine RunDT.q (x := .v (.int .i64 v83)) rfl (by kernel_rfl) rfl (by kernel_rfl) rfl (by kernel_rfl) (by kernel_rfl) ?_
          refine RunDT.q (x := .sl 1 (v65.map (cdL 1 cdI).enc)) rfl (by kernel_rfl) rfl (by kernel_rfl) rfl (by kernel_rfl) (by kernel_rfl) ?_
          refine RunDT.q (x := .v (.int .i64 c72)) rfl (by kernel_rfl) rfl (by kernel_rfl) rfl (by kernel_rfl) (by kernel_rfl) ?_
          obtain ⟨v84, hv84, hj94⟩ := Option.bind_eq_some_iff.1 hj94
          refine RunDT.q (x := .pe (.sl 1 (v84.map cdI.enc)) 0) rfl (by kernel_rfl) rfl (by kernel_rfl) rfl (q_indexAddr (a := .sl 1 (v65.map (cdL 1 cdI).enc)) (b := .v (.int .i64 c72)) (by kernel_rfl) (by kernel_rfl) (ix_sl (e := (cdL 1 cdI).enc) (el := 31) (k := 1) (ki := .i64) (by kernel_rfl) (by kernel_rfl) hv84)) (by kernel_rfl) ?_
          refine RunDT.q (x := .sl 1 (v84.map cdI.enc)) rfl (by kernel_rfl) rfl (by kernel_rfl) rfl (by kernel_rfl) (by kernel_rfl) ?_
          refine RunDT.q (x := .v (.int .i64 c74)) rfl (by kernel_rfl) rfl (by kernel_rfl) rfl (by kernel_rfl) (by kernel_rfl) ?_
          obtain ⟨v85, hv85, hj94⟩ := Option.bind_eq_some_iff.1 hj94
          refine RunDT.q (x := .pe (.v (.int .i64 v85)) 0) rfl (by kernel_rfl) rfl (by kernel_rfl) rfl (q_indexAddr (a := .sl 1 (v84.map cdI.enc)) (b := .v (.int .i64 c74)) (by kernel_rfl) (by kernel_rfl) (ix_sl (e := cdI.enc) (el := 3) (k := 1) (ki := .i64) (by kernel_rfl) (by kernel_rfl) hv85)) (by kernel_rfl) ?_
          refine RunDT.q (x := .v (.int .i64 v85)) rfl (by kernel_rfl) rfl (by kernel_rfl) rfl (by kernel_rfl) (by kernel_rfl) ?_
          refine RunDT.q (x := .sl 1 (v66.map (cdL 1 cdI).enc)) rfl (by kernel_rfl) rfl (by kernel_rfl) rfl (by kernel_rfl) (by kernel_rfl) ?_
          refine RunDT.q (x := .v (.int .i64 c72)) rfl (by kernel_rfl) rfl (by kernel_rfl) rfl (by kernel_rfl) (by kernel_rfl) ?_
          obtain ⟨v86, hv86, hj94⟩ := Option.bind_eq_some_iff.1 hj94
          refine RunDT.q (x := .pe (.sl 1 (v86.map cdI.enc)) 0) rfl (by kernel_rfl) rfl (by kernel_rfl) rfl (q_indexAddr (a := .sl 1 (v66.map (cdL 1 cdI).enc)) (b := .v (.int .i64 c72)) (by kernel_rfl) (by kernel_rfl) (ix_sl (e := (cdL 1 cdI).enc) (el := 31) (k := 1) (ki := .i64) (by kernel_rfl) (by kernel_rfl) hv86)) (by kernel_rfl) ?_
          refine RunDT.q (x := .sl 1 (v86.map cdI.enc)) rfl (by kernel_rfl) rfl (by kernel_rfl) rfl (by kernel_rfl) (by kernel_rfl) ?_
          refine RunDT.q (x := .v (.int .i64 c74)) rfl (by kernel_rfl) rfl (by kernel_rfl) rfl (by kernel_rfl) (by kernel_rfl) ?_
          obtain ⟨v87, hv87, hj94⟩ := Option.bind_eq_some_iff.1 hj94
          refine RunDT.q (x := .pe (.v (.int .i64 v87)) 0) rfl (by kernel_rfl) rfl (by kernel_rfl) rfl (q_indexAddr (a := .sl 1 (v86.map cdI.enc)) (b := .v (.int .i64 c74)) (by kernel_rfl) (by kernel_rfl) (ix_sl (e := cdI.enc) (el := 3) (k := 1) (ki := .i64) (by kernel_rfl) (by kernel_rfl) hv87)) (by kernel_rfl) ?_
          refine RunDT.q (x := .v (.int .i64 v87)) rfl (by kernel_rfl) rfl (by kernel_rfl) rfl (by kernel_rfl) (by kernel_rfl) ?_
          refine RunDT.q (x := .v (.int .i64 (wr .i64 (v85 + v87)))) rfl (by kernel_rfl) rfl (by kernel_rfl) rfl (by kernel_rfl) (by kernel_rfl) ?_
          refine RunDT.q (x := .v (.bool (v83 != (wr .i64 (v85 + v87))))) rfl (by kernel_rfl) rfl (by kernel_rfl) rfl (by kernel_rfl) (by kernel_rfl) ?_
          refine RunDT.q (x := .v (.bool (v83 != (wr .i64 (v85 + v87))))) rfl (by kernel_rfl) rfl (wantedA_none rfl) rfl (by kernel_rfl) (by kernel_rfl) ?_
          refine RunDT.q (x := .v (.bool (v83 != (wr .i64 (v85 + v87))))) rfl (by kernel_rfl) rfl (wantedA_none rfl) rfl (by kernel_rfl) (by kernel_rfl) ?_
          rcases Bool.eq_false_or_eq_true (v83 != (wr .i64 (v85 + v87))) with hc100 | hc100
          · rw [if_pos hc100] at hj94
            rw [hc100]
            refine RunDT.skip rfl (by kernel_rfl) rfl ?_
            refine RunDT.skip rfl (by kernel_rfl) rfl ?_
            refine RunDT.skip rfl (by kernel_rfl) rfl ?_
            refine RunDT.skip rfl (by kernel_rfl) rfl ?_
            refine RunDT.skip rfl (by kernel_rfl) rfl ?_
            refine RunDT.skip rfl (by kernel_rfl) rfl ?_
            refine RunDT.skip rfl (by kernel_rfl) rfl ?_
            refine RunDT.skip rfl (by kernel_rfl) rfl ?_
            refine RunDT.skip rfl (by kernel_rfl) rfl ?_
            refine RunDT.skip rfl (by kernel_rfl) rfl ?_
            refine RunDT.skip rfl (by kernel_rfl) rfl ?_
            refine RunDT.skip rfl (by kernel_rfl) rfl ?_
            refine RunDT.skip rfl (by kernel_rfl) rfl ?_
            refine RunDT.skip rfl (by kernel_rfl) rfl ?_
            refine RunDT.skip rfl (by kernel_rfl) rfl ?_
            refine RunDT.skip rfl (by kernel_rfl) rfl ?_
            refine RunDT.skip rfl (by kernel_rfl) rfl ?_
            refine RunDT.skip rfl (by kernel_rfl) rfl ?_
            refine RunDT.skip rfl (by kernel_rfl) rfl ?_
            refine RunDT.skip rfl (by kernel_rfl) rfl ?_
            refine RunDT.skip rfl (by kernel_rfl) rfl ?_
            refine RunDT.q (x := .v (.bool true)) rfl (by kernel_rfl) rfl (wantedA_none rfl) rfl (by kernel_rfl) (by kernel_rfl) ?_
            have hq := Option.some.inj hj94; subst hq
            exact RunDT.done rfl ⟨_, ⟨hp, hT, rfl⟩, WkY.f1⟩
          · rw [if_f hc100] at hj94
            rw [hc100]
            refine RunDT.q (x := .sl 1 (v70.map (cdL 1 cdI).enc)) rfl (by kernel_rfl) rfl (by kernel_rfl) rfl (by kernel_rfl) (by kernel_rfl) ?_
            refine RunDT.q (x := .sl 1 (r46.map cdI.enc)) rfl (by kernel_rfl) rfl (by kernel_rfl) rfl (by kernel_rfl) (by kernel_rfl) ?_
            refine RunDT.q (x := .v (.int .i64 c72)) rfl (by kernel_rfl) rfl (by kernel_rfl) rfl (by kernel_rfl) (by kernel_rfl) ?_
            obtain ⟨v88, hv88, hj94⟩ := Option.bind_eq_some_iff.1 hj94
            refine RunDT.q (x := .pe (.v (.int .i64 v88)) 0) rfl (by kernel_rfl) rfl (by kernel_rfl) rfl (q_indexAddr (a := .sl 1 (r46.map cdI.enc)) (b := .v (.int .i64 c72)) (by kernel_rfl) (by kernel_rfl) (ix_sl (e := cdI.enc) (el := 3) (k := 1) (ki := .i64) (by kernel_rfl) (by kernel_rfl) hv88)) (by kernel_rfl) ?_
            refine RunDT.q (x := .v (.int .i64 v88)) rfl (by kernel_rfl) rfl (by kernel_rfl) rfl (by kernel_rfl) (by kernel_rfl) ?_
            obtain ⟨v89, hv89, hj94⟩ := Option.bind_eq_some_iff.1 hj94
            refine RunDT.q (x := .pe (.sl 1 (v89.map cdI.enc)) 0) rfl (by kernel_rfl) rfl (by kernel_rfl) rfl (q_indexAddr (a := .sl 1 (v70.map (cdL 1 cdI).enc)) (b := .v (.int .i64 v88)) (by kernel_rfl) (by kernel_rfl) (ix_sl (e := (cdL 1 cdI).enc) (el := 31) (k := 1) (ki := .i64) (by kernel_rfl) (by kernel_rfl) hv89)) (by kernel_rfl) ?_
            refine RunDT.q (x := .sl 1 (v89.map cdI.enc)) rfl (by kernel_rfl) rfl (by kernel_rfl) rfl (by kernel_rfl) (by kernel_rfl) ?_
            refine RunDT.q (x := .sl 1 (r46.map cdI.enc)) rfl (by kernel_rfl) rfl (by kernel_rfl) rfl (by kernel_rfl) (by kernel_rfl) ?_
            refine RunDT.q (x := .v (.int .i64 c74)) rfl (by kernel_rfl) rfl (by kernel_rfl) rfl (by kernel_rfl) (by kernel_rfl) ?_
            obtain ⟨v90, hv90, hj94⟩ := Option.bind_eq_some_iff.1 hj94
            refine RunDT.q (x := .pe (.v (.int .i64 v90)) 0) rfl (by kernel_rfl) rfl (by kernel_rfl) rfl (q_indexAddr (a := .sl 1 (r46.map cdI.enc)) (b := .v (.int .i64 c74)) (by kernel_rfl) (by kernel_rfl) (ix_sl (e := cdI.enc) (el := 3) (k := 1) (ki := .i64) (by kernel_rfl) (by kernel_rfl) hv90)) (by kernel_rfl) ?_
            refine RunDT.q (x := .v (.int .i64 v90)) rfl (by kernel_rfl) rfl (by kernel_rfl) rfl (by kernel_rfl) (by kernel_rfl) ?_
            obtain ⟨v91, hv91, hj94⟩ := Option.bind_eq_some_iff.1 hj94
            refine RunDT.q (x := .pe (.v (.int .i64 v91)) 0) rfl (by kernel_rfl) rfl (by kernel_rfl) rfl (q_indexAddr (a := .sl 1 (v89.map cdI.enc)) (b := .v (.int .i64 v90)) (by kernel_rfl) (by kernel_rfl) (ix_sl (e := cdI.enc) (el := 3) (k := 1) (ki := .i64) (by kernel_rfl) (by kernel_rfl) hv91)) (by kernel_rfl) ?_
            refine RunDT.q (x := .v (.int .i64 v91)) rfl (by kernel_rfl) rfl (by kernel_rfl) rfl (by kernel_rfl) (by kernel_rfl) ?_
            refine RunDT.q (x := .sl 1 (v69.map (cdL 1 cdI).enc)) rfl (by kernel_rfl) rfl (by kernel_rfl) rfl (by kernel_rfl) (by kernel_rfl) ?_
            refine RunDT.q (x := .v (.int .i64 c72)) rfl (by kernel_rfl) rfl (by kernel_rfl) rfl (by kernel_rfl) (by kernel_rfl) ?_
            obtain ⟨v92, hv92, hj94⟩ := Option.bind_eq_some_iff.1 hj94
            refine RunDT.q (x := .pe (.sl 1 (v92.map cdI.enc)) 0) rfl (by kernel_rfl) rfl (by kernel_rfl) rfl (q_indexAddr (a := .sl 1 (v69.map (cdL 1 cdI).enc)) (b := .v (.int .i64 c72)) (by kernel_rfl) (by kernel_rfl) (ix_sl (e := (cdL 1 cdI).enc) (el := 31) (k := 1) (ki := .i64) (by kernel_rfl) (by kernel_rfl) hv92)) (by kernel_rfl) ?_
            refine RunDT.q (x := .sl 1 (v92.map cdI.enc)) rfl (by kernel_rfl) rfl (by kernel_rfl) rfl (by kernel_rfl) (by kernel_rfl) ?_
            refine RunDT.q (x := .v (.int .i64 c74)) rfl (by kernel_rfl) rfl (by kernel_rfl) rfl (by kernel_rfl) (by kernel_rfl) ?_
            obtain ⟨v93, hv93, hj94⟩ := Option.bind_eq_some_iff.1 hj94
            refine RunDT.q (x := .pe (.v (.int .i64 v93)) 0) rfl (by kernel_rfl) rfl (by kernel_rfl) rfl (q_indexAddr (a := .sl 1 (v92.map cdI.enc)) (b := .v (.int .i64 c74)) (by kernel_rfl) (by kernel_rfl) (ix_sl (e := cdI.enc) (el := 3) (k := 1) (ki := .i64) (by kernel_rfl) (by kernel_rfl) hv93)) (by kernel_rfl) ?_
            refine RunDT.q (x := .v (.int .i64 v93)) rfl (by kernel_rfl) rfl (by kernel_rfl) rfl (by kernel_rfl) (by kernel_rfl) ?_
            refine RunDT.q (x := .v (.bool (v91 != v93))) rfl (by kernel_rfl) rfl (by kernel_rfl) rfl (by kernel_rfl) (by kernel_rfl) ?_
            refine RunDT.q (x := .v (.bool (v91 != v93))) rfl (by kernel_rfl) rfl (wantedA_none rfl) rfl (by kernel_rfl) (by kernel_rfl) ?_
            have hq := Option.some.inj hj94; subst hq
            exact RunDT.done rfl ⟨_, ⟨hp, hT, rfl⟩, WkY.f1⟩
      rintro _ ⟨hp96, hT97, rfl⟩
      refine SemY.cond (b := j94) (by kernel_rfl) (fun hb98 => ?_) (fun hb98 => ?_)
      · rw [if_pos hb98] at h
        refine SemY.seq ?_
        refine SemY.regionL ?_
        refine RunL.segF (n := 270) e_law09_EveningRelabels_ok 1 [(8, .v (.bool false))] hp96 (by kernel_rfl) ?_
        refine RunL.done rfl (SemY.fr (l' := [(8, .v (.bool false))]) (by kernel_rfl) ?_)
        refine SemY.ret ?_
        have hq := Option.some.inj h; subst hq
        exact ⟨rfl, _, ⟨hp96, hT97, rfl⟩, WkY.f1⟩
      · rw [if_f hb98] at h
        refine SemY.skip ?_
        refine SemY.regionL ?_
        refine RunL.segF (n := 270) e_law09_EveningRelabels_ok 2 [(9, .sl 1 (v1.1.map (cdL 1 (cdL 1 cdI)).enc)), (11, .v (.int .i64 v1.2.2)), (15, .sl 1 (r46.map cdI.enc)), (21, .sl 1 (v52.1.map (cdL 1 (cdL 1 cdI)).enc)), (27, .sl 1 (v65.map (cdL 1 cdI).enc)), (28, .sl 1 (v66.map (cdL 1 cdI).enc)), (29, .sl 1 (v67.map (cdL 1 cdI).enc)), (30, .sl 1 (v68.map (cdL 1 cdI).enc)), (31, .sl 1 (v69.map (cdL 1 cdI).enc)), (32, .sl 1 (v70.map (cdL 1 cdI).enc)), (33, .v (.int .i64 c72)), (172, .v (.int .i64 v1.2.2)), (173, .v (.int .i64 c72)), (176, .v (.int .i64 v1.2.2)), (177, .v (.int .i64 (wr .i64 (c74 + 1))))] hp96 (by kernel_rfl) ?_
        refine RunL.done rfl ?_
        exact SemYN.wk WkY.f1 (ih0 (wr .i64 (c74 + 1)) _ h  hp96 hT97)
    · rw [if_f hb75] at h
      refine SemY.exit ?_
      have hq := Option.some.inj h; subst hq
      exact ⟨rfl, _, ⟨hp, hT, rfl⟩, WkY.f1⟩
set_option maxHeartbeats 4000000 in
set_option maxRecDepth 100000 in
theorem law09_EveningRelabels_3_ok {L : List Asn} (v1 : (List (List (List Int))) × (List Int) × Int) (r46 : (List Int)) (v65 : (List (List Int))) (v66 : (List (List Int))) (v67 : (List (List Int))) (v68 : (List (List Int))) (v69 : (List (List Int))) (v70 : (List (List Int))) (v52 : (List (List (List Int))) × Int) : ∀ (f : Nat) (c72 : Int) (r : (Unit) ⊕ (Unit)), law09_EveningRelabels_3 v1 r46 v65 v66 v67 v68 v69 v70 f c72 = some r → ∀ (hp : Hp), T hp (L) → SemYN e_law09_EveningRelabels ⟨none, false⟩ (pc cb_law09_EveningRelabels [1, 1, 1, 1, 1, 1, 1, 1, 1, 1, 1, 1, 1, 0, 1, 0, 0]) f ⟨Fr 270 [(9, .sl 1 (v1.1.map (cdL 1 (cdL 1 cdI)).enc)), (11, .v (.int .i64 v1.2.2)), (15, .sl 1 (r46.map cdI.enc)), (21, .sl 1 (v52.1.map (cdL 1 (cdL 1 cdI)).enc)), (27, .sl 1 (v65.map (cdL 1 cdI).enc)), (28, .sl 1 (v66.map (cdL 1 cdI).enc)), (29, .sl 1 (v67.map (cdL 1 cdI).enc)), (30, .sl 1 (v68.map (cdL 1 cdI).enc)), (31, .sl 1 (v69.map (cdL 1 cdI).enc)), (32, .sl 1 (v70.map (cdL 1 cdI).enc)), (172, .v (.int .i64 v1.2.2)), (173, .v (.int .i64 c72))], hp⟩ (fun e s => match r with
  | (.inl _w) => e = (.exit 4) ∧ ∃ s2, (∃ (h' : Hp), T h' (L) ∧ s2 = ⟨Fr 270 [(9, .sl 1 (v1.1.map (cdL 1 (cdL 1 cdI)).enc)), (11, .v (.int .i64 v1.2.2)), (21, .sl 1 (v52.1.map (cdL 1 (cdL 1 cdI)).enc))], h'⟩) ∧ WkY e_law09_EveningRelabels s s2
  | (.inr _w) => e = .ret ∧ ∃ s2, (∃ (h' : Hp), T h' (L) ∧ s2 = ⟨Fr 270 [(8, .v (.bool false))], h'⟩) ∧ WkY e_law09_EveningRelabels s s2) := by
  intro f
  induction f with
  | zero => intro c72 r h; cases h
  | succ f ih0 =>
    intro c72 r h  hp hT
    unfold law09_EveningRelabels_3 at h
    refine SemYN.succ ?_
    refine SemY.seq ?_
    refine SemY.regionL ?_
    refine RunL.segF (n := 270) e_law09_EveningRelabels_ok 1 [(9, .sl 1 (v1.1.map (cdL 1 (cdL 1 cdI)).enc)), (11, .v (.int .i64 v1.2.2)), (15, .sl 1 (r46.map cdI.enc)), (21, .sl 1 (v52.1.map (cdL 1 (cdL 1 cdI)).enc)), (27, .sl 1 (v65.map (cdL 1 cdI).enc)), (28, .sl 1 (v66.map (cdL 1 cdI).enc)), (29, .sl 1 (v67.map (cdL 1 cdI).enc)), (30, .sl 1 (v68.map (cdL 1 cdI).enc)), (31, .sl 1 (v69.map (cdL 1 cdI).enc)), (32, .sl 1 (v70.map (cdL 1 cdI).enc)), (172, .v (.int .i64 v1.2.2)), (173, .v (.int .i64 c72)), (174, .v (.bool (decide (c72 < v1.2.2))))] hp (by kernel_rfl) ?_
    refine RunL.done rfl (SemY.fr (l' := [(9, .sl 1 (v1.1.map (cdL 1 (cdL 1 cdI)).enc)), (11, .v (.int .i64 v1.2.2)), (15, .sl 1 (r46.map cdI.enc)), (21, .sl 1 (v52.1.map (cdL 1 (cdL 1 cdI)).enc)), (27, .sl 1 (v65.map (cdL 1 cdI).enc)), (28, .sl 1 (v66.map (cdL 1 cdI).enc)), (29, .sl 1 (v67.map (cdL 1 cdI).enc)), (30, .sl 1 (v68.map (cdL 1 cdI).enc)), (31, .sl 1 (v69.map (cdL 1 cdI).enc)), (32, .sl 1 (v70.map (cdL 1 cdI).enc)), (172, .v (.int .i64 v1.2.2)), (173, .v (.int .i64 c72)), (174, .v (.bool (decide (c72 < v1.2.2))))]) (by kernel_rfl) ?_)
    refine SemY.seq ?_
    refine SemY.cond (b := (decide (c72 < v1.2.2))) (by kernel_rfl) (fun hb73 => ?_) (fun hb73 => ?_)
    · rw [if_pos hb73] at h
      refine SemY.skip ?_
      refine SemY.seq ?_
      refine SemY.block ?_
      refine SemY.seq ?_
      refine SemY.regionL ?_
      refine RunL.segF (n := 270) e_law09_EveningRelabels_ok 2 [(9, .sl 1 (v1.1.map (cdL 1 (cdL 1 cdI)).enc)), (11, .v (.int .i64 v1.2.2)), (15, .sl 1 (r46.map cdI.enc)), (21, .sl 1 (v52.1.map (cdL 1 (cdL 1 cdI)).enc)), (27, .sl 1 (v65.map (cdL 1 cdI).enc)), (28, .sl 1 (v66.map (cdL 1 cdI).enc)), (29, .sl 1 (v67.map (cdL 1 cdI).enc)), (30, .sl 1 (v68.map (cdL 1 cdI).enc)), (31, .sl 1 (v69.map (cdL 1 cdI).enc)), (32, .sl 1 (v70.map (cdL 1 cdI).enc)), (33, .v (.int .i64 c72)), (172, .v (.int .i64 v1.2.2)), (173, .v (.int .i64 c72))] hp (by kernel_rfl) ?_
      refine RunL.done rfl (SemY.fr (l' := [(9, .sl 1 (v1.1.map (cdL 1 (cdL 1 cdI)).enc)), (11, .v (.int .i64 v1.2.2)), (15, .sl 1 (r46.map cdI.enc)), (21, .sl 1 (v52.1.map (cdL 1 (cdL 1 cdI)).enc)), (27, .sl 1 (v65.map (cdL 1 cdI).enc)), (28, .sl 1 (v66.map (cdL 1 cdI).enc)), (29, .sl 1 (v67.map (cdL 1 cdI).enc)), (30, .sl 1 (v68.map (cdL 1 cdI).enc)), (31, .sl 1 (v69.map (cdL 1 cdI).enc)), (32, .sl 1 (v70.map (cdL 1 cdI).enc)), (33, .v (.int .i64 c72)), (172, .v (.int .i64 v1.2.2)), (173, .v (.int .i64 c72))]) (by kernel_rfl) ?_)
      refine SemY.seq ?_
      refine SemY.regionL ?_
      refine RunL.segF (n := 270) e_law09_EveningRelabels_ok 2 [(9, .sl 1 (v1.1.map (cdL 1 (cdL 1 cdI)).enc)), (11, .v (.int .i64 v1.2.2)), (15, .sl 1 (r46.map cdI.enc)), (21, .sl 1 (v52.1.map (cdL 1 (cdL 1 cdI)).enc)), (27, .sl 1 (v65.map (cdL 1 cdI).enc)), (28, .sl 1 (v66.map (cdL 1 cdI).enc)), (29, .sl 1 (v67.map (cdL 1 cdI).enc)), (30, .sl 1 (v68.map (cdL 1 cdI).enc)), (31, .sl 1 (v69.map (cdL 1 cdI).enc)), (32, .sl 1 (v70.map (cdL 1 cdI).enc)), (33, .v (.int .i64 c72)), (172, .v (.int .i64 v1.2.2)), (173, .v (.int .i64 c72)), (176, .v (.int .i64 v1.2.2)), (177, .v (.int .i64 0))] hp (by kernel_rfl) ?_
      refine RunL.done rfl (SemY.fr (l' := [(9, .sl 1 (v1.1.map (cdL 1 (cdL 1 cdI)).enc)), (11, .v (.int .i64 v1.2.2)), (15, .sl 1 (r46.map cdI.enc)), (21, .sl 1 (v52.1.map (cdL 1 (cdL 1 cdI)).enc)), (27, .sl 1 (v65.map (cdL 1 cdI).enc)), (28, .sl 1 (v66.map (cdL 1 cdI).enc)), (29, .sl 1 (v67.map (cdL 1 cdI).enc)), (30, .sl 1 (v68.map (cdL 1 cdI).enc)), (31, .sl 1 (v69.map (cdL 1 cdI).enc)), (32, .sl 1 (v70.map (cdL 1 cdI).enc)), (33, .v (.int .i64 c72)), (172, .v (.int .i64 v1.2.2)), (173, .v (.int .i64 c72)), (176, .v (.int .i64 v1.2.2)), (177, .v (.int .i64 0))]) (by kernel_rfl) ?_)
      refine SemY.block ?_
      refine SemY.loop (n := 100000) ?_
      obtain ⟨r101, hr101, h⟩ := Option.bind_eq_some_iff.1 h
      rcases r101 with w102 | w105
      · try dsimp only at h
        refine SemYN.cutT (SemYN.wk WkY.f1 (law09_EveningRelabels_4_ok v1 r46 v65 v66 v67 v68 v69 v70 c72 v52 _ 0 _ hr101  hp hT)) ?_
        rintro _ ⟨hp103, hT104, rfl⟩
        refine SemY.regionL ?_
        refine RunL.segF (n := 270) e_law09_EveningRelabels_ok 2 [(9, .sl 1 (v1.1.map (cdL 1 (cdL 1 cdI)).enc)), (11, .v (.int .i64 v1.2.2)), (15, .sl 1 (r46.map cdI.enc)), (21, .sl 1 (v52.1.map (cdL 1 (cdL 1 cdI)).enc)), (27, .sl 1 (v65.map (cdL 1 cdI).enc)), (28, .sl 1 (v66.map (cdL 1 cdI).enc)), (29, .sl 1 (v67.map (cdL 1 cdI).enc)), (30, .sl 1 (v68.map (cdL 1 cdI).enc)), (31, .sl 1 (v69.map (cdL 1 cdI).enc)), (32, .sl 1 (v70.map (cdL 1 cdI).enc)), (172, .v (.int .i64 v1.2.2)), (173, .v (.int .i64 (wr .i64 (c72 + 1))))] hp103 (by kernel_rfl) ?_
        refine RunL.done rfl ?_
        exact SemYN.wk WkY.f1 (ih0 (wr .i64 (c72 + 1)) _ h  hp103 hT104)
      · try dsimp only at h
        refine SemYN.cutT (SemYN.wk WkY.f1 (law09_EveningRelabels_4_ok v1 r46 v65 v66 v67 v68 v69 v70 c72 v52 _ 0 _ hr101  hp hT)) ?_
        rintro _ ⟨hp106, hT107, rfl⟩
        have hq := Option.some.inj h; subst hq
        exact ⟨rfl, _, ⟨hp106, hT107, rfl⟩, WkY.f1⟩
    · rw [if_f hb73] at h
      refine SemY.exit ?_
      have hq := Option.some.inj h; subst hq
      exact ⟨rfl, _, ⟨hp, hT, rfl⟩, WkY.f1⟩
set_option maxHeartbeats 4000000 in
set_option maxRecDepth 100000 in
theorem law09_EveningRelabels_sem {L : List Asn} {hp : Hp} (x0 : (List Int)) (x1 : (List (List (Int × Int)))) (x2 : (List (List (Int × Int)))) (x3 : (List (Int × Int))) (r : Bool) (h : law09_EveningRelabels x0 x1 x2 x3 = some r) (hT : T hp (L)) : SemY e_law09_EveningRelabels ⟨none, false⟩ cb_law09_EveningRelabels ⟨Fr 270 (pairs0 0 [.sl 1 (x0.map (cdK .u8).enc), .sl 1 (x1.map (cdL 2 (cdG2 (cdK .u8) (cdK .u8) (fun _ => rfl) (fun _ => rfl))).enc), .sl 1 (x2.map (cdL 2 (cdG2 (cdK .u8) (cdK .u8) (fun _ => rfl) (fun _ => rfl))).enc), .sl 2 (x3.map (cdG2 (cdK .u8) (cdK .u8) (fun _ => rfl) (fun _ => rfl)).enc)]), hp⟩ fun x s' => (x = .normal ∨ x = .ret) ∧ ∃ ys, resA e_law09_EveningRelabels.P s'.fr s'.hp Tryd.f8.results.toList = some ys ∧ (fun v h' => v = .v (.bool r) ∧ T h' (L)) (retA ys) s'.hp := by
  unfold law09_EveningRelabels at h
  refine SemY.wkQ (SemY.wk (s1 := ⟨Fr 270 [(0, .sl 1 (x0.map (cdK .u8).enc)), (1, .sl 1 (x1.map (cdL 2 (cdG2 (cdK .u8) (cdK .u8) (fun _ => rfl) (fun _ => rfl))).enc)), (2, .sl 1 (x2.map (cdL 2 (cdG2 (cdK .u8) (cdK .u8) (fun _ => rfl) (fun _ => rfl))).enc)), (3, .sl 2 (x3.map (cdG2 (cdK .u8) (cdK .u8) (fun _ => rfl) (fun _ => rfl)).enc))], hp⟩) WkY.f1 ?_)
  refine SemY.seq ?_
  refine SemY.regionL ?_
  refine RunL.segF (n := 270) e_law09_EveningRelabels_ok 1 [(0, .sl 1 (x0.map (cdK .u8).enc)), (1, .sl 1 (x1.map (cdL 2 (cdG2 (cdK .u8) (cdK .u8) (fun _ => rfl) (fun _ => rfl))).enc)), (2, .sl 1 (x2.map (cdL 2 (cdG2 (cdK .u8) (cdK .u8) (fun _ => rfl) (fun _ => rfl))).enc)), (3, .sl 2 (x3.map (cdG2 (cdK .u8) (cdK .u8) (fun _ => rfl) (fun _ => rfl)).enc))] hp (by kernel_rfl) ?_
  refine RunL.done rfl (SemY.fr (l' := [(0, .sl 1 (x0.map (cdK .u8).enc)), (1, .sl 1 (x1.map (cdL 2 (cdG2 (cdK .u8) (cdK .u8) (fun _ => rfl) (fun _ => rfl))).enc)), (2, .sl 1 (x2.map (cdL 2 (cdG2 (cdK .u8) (cdK .u8) (fun _ => rfl) (fun _ => rfl))).enc)), (3, .sl 2 (x3.map (cdG2 (cdK .u8) (cdK .u8) (fun _ => rfl) (fun _ => rfl)).enc))]) (by kernel_rfl) ?_)
  refine SemY.seq ?_
  refine SemY.regionL ?_
  refine RunL.segF (n := 270) e_law09_EveningRelabels_ok 2 [(0, .sl 1 (x0.map (cdK .u8).enc)), (2, .sl 1 (x2.map (cdL 2 (cdG2 (cdK .u8) (cdK .u8) (fun _ => rfl) (fun _ => rfl))).enc)), (3, .sl 2 (x3.map (cdG2 (cdK .u8) (cdK .u8) (fun _ => rfl) (fun _ => rfl)).enc)), (36, .sl 1 (x0.map (cdK .u8).enc)), (37, .sl 1 (x1.map (cdL 2 (cdG2 (cdK .u8) (cdK .u8) (fun _ => rfl) (fun _ => rfl))).enc))] hp (by kernel_rfl) ?_
  obtain ⟨v1, hv1, h⟩ := Option.bind_eq_some_iff.1 h
  refine RunL.call e_law09_EveningRelabels_ok (fid := 25) (b := v1) (s := cs_law09_Made) (F := fun a => law09_Made a.1 a.2.1) (er := er_law09_Made) (xs := [.sl 1 (x0.map (cdK .u8).enc), .sl 1 (x1.map (cdL 2 (cdG2 (cdK .u8) (cdK .u8) (fun _ => rfl) (fun _ => rfl))).enc)]) (a := (x0, x1, ())) rfl (wantedA_none rfl) (by kernel_rfl) (by kernel_rfl) (by kernel_rfl) (by kernel_rfl) (Sns.cons (Sn.enc (c := (cdL 1 (cdK .u8))) (v := x0)) (Sns.cons (Sn.enc (c := (cdL 1 (cdL 2 (cdG2 (cdK .u8) (cdK .u8) (fun _ => rfl) (fun _ => rfl))))) (v := x1)) Sns.nil)) (.inl (by kernel_rfl)) hv1 ?_
  refine RunL.segF (n := 270) e_law09_EveningRelabels_ok 7 [(0, .sl 1 (x0.map (cdK .u8).enc)), (2, .sl 1 (x2.map (cdL 2 (cdG2 (cdK .u8) (cdK .u8) (fun _ => rfl) (fun _ => rfl))).enc)), (3, .sl 2 (x3.map (cdG2 (cdK .u8) (cdK .u8) (fun _ => rfl) (fun _ => rfl)).enc)), (9, .sl 1 (v1.1.map (cdL 1 (cdL 1 cdI)).enc)), (10, .sl 1 (v1.2.1.map cdI.enc)), (11, .v (.int .i64 v1.2.2))] hp (by kernel_rfl) ?_
  refine RunL.done rfl (SemY.fr (l' := [(0, .sl 1 (x0.map (cdK .u8).enc)), (2, .sl 1 (x2.map (cdL 2 (cdG2 (cdK .u8) (cdK .u8) (fun _ => rfl) (fun _ => rfl))).enc)), (3, .sl 2 (x3.map (cdG2 (cdK .u8) (cdK .u8) (fun _ => rfl) (fun _ => rfl)).enc)), (9, .sl 1 (v1.1.map (cdL 1 (cdL 1 cdI)).enc)), (10, .sl 1 (v1.2.1.map cdI.enc)), (11, .v (.int .i64 v1.2.2))]) (by kernel_rfl) ?_)
  refine SemY.seq ?_
  refine SemY.regionL ?_
  refine RunL.segF (n := 270) e_law09_EveningRelabels_ok 2 [(3, .sl 2 (x3.map (cdG2 (cdK .u8) (cdK .u8) (fun _ => rfl) (fun _ => rfl)).enc)), (9, .sl 1 (v1.1.map (cdL 1 (cdL 1 cdI)).enc)), (10, .sl 1 (v1.2.1.map cdI.enc)), (11, .v (.int .i64 v1.2.2)), (43, .sl 1 (x0.map (cdK .u8).enc)), (44, .sl 1 (x2.map (cdL 2 (cdG2 (cdK .u8) (cdK .u8) (fun _ => rfl) (fun _ => rfl))).enc))] hp (by kernel_rfl) ?_
  obtain ⟨v2, hv2, h⟩ := Option.bind_eq_some_iff.1 h
  refine RunL.call e_law09_EveningRelabels_ok (fid := 25) (b := v2) (s := cs_law09_Made) (F := fun a => law09_Made a.1 a.2.1) (er := er_law09_Made) (xs := [.sl 1 (x0.map (cdK .u8).enc), .sl 1 (x2.map (cdL 2 (cdG2 (cdK .u8) (cdK .u8) (fun _ => rfl) (fun _ => rfl))).enc)]) (a := (x0, x2, ())) rfl (wantedA_none rfl) (by kernel_rfl) (by kernel_rfl) (by kernel_rfl) (by kernel_rfl) (Sns.cons (Sn.enc (c := (cdL 1 (cdK .u8))) (v := x0)) (Sns.cons (Sn.enc (c := (cdL 1 (cdL 2 (cdG2 (cdK .u8) (cdK .u8) (fun _ => rfl) (fun _ => rfl))))) (v := x2)) Sns.nil)) (.inl (by kernel_rfl)) hv2 ?_
  refine RunL.segF (n := 270) e_law09_EveningRelabels_ok 7 [(3, .sl 2 (x3.map (cdG2 (cdK .u8) (cdK .u8) (fun _ => rfl) (fun _ => rfl)).enc)), (9, .sl 1 (v1.1.map (cdL 1 (cdL 1 cdI)).enc)), (10, .sl 1 (v1.2.1.map cdI.enc)), (11, .v (.int .i64 v1.2.2)), (12, .sl 1 (v2.1.map (cdL 1 (cdL 1 cdI)).enc))] hp (by kernel_rfl) ?_
  refine RunL.done rfl (SemY.fr (l' := [(3, .sl 2 (x3.map (cdG2 (cdK .u8) (cdK .u8) (fun _ => rfl) (fun _ => rfl)).enc)), (9, .sl 1 (v1.1.map (cdL 1 (cdL 1 cdI)).enc)), (10, .sl 1 (v1.2.1.map cdI.enc)), (11, .v (.int .i64 v1.2.2)), (12, .sl 1 (v2.1.map (cdL 1 (cdL 1 cdI)).enc))]) (by kernel_rfl) ?_)
  refine SemY.seq ?_
  refine SemY.regionL ?_
  refine RunL.segF (n := 270) e_law09_EveningRelabels_ok 1 [(3, .sl 2 (x3.map (cdG2 (cdK .u8) (cdK .u8) (fun _ => rfl) (fun _ => rfl)).enc)), (9, .sl 1 (v1.1.map (cdL 1 (cdL 1 cdI)).enc)), (10, .sl 1 (v1.2.1.map cdI.enc)), (11, .v (.int .i64 v1.2.2)), (12, .sl 1 (v2.1.map (cdL 1 (cdL 1 cdI)).enc)), (49, .v (.int .i64 v1.2.2))] hp (by kernel_rfl) ?_
  by_cases hk3 : (mkOk 8 v1.2.2) = true
  case neg => rw [if_neg hk3] at h; cases h
  rw [if_pos hk3] at h
  obtain ⟨e7, hp4, hb5, hT60⟩ := make_ownB (P := Tryd.prog) (o := (ocV cdI)) (k := 1) (t := 3) (ty := 31) (bytes := 8) (kn := .i64) (kc := .i64) (m := v1.2.2) (x0 := 0) hT (fun _ => ⟨rfl, rfl⟩) (by kernel_rfl) (by kernel_rfl) hk3
  have hT6 : T hp4 ((own_ (ocL 1 3 (ocV cdI)) e7 (List.replicate v1.2.2.toNat (0 : Int))) :: L) := hT60
  refine RunL.one e_law09_EveningRelabels_ok 0 rfl (op_n (wantedA_none rfl) rfl (by kernel_rfl) (n_make (x := .v (.int .i64 v1.2.2)) (y := .v (.int .i64 v1.2.2)) (by kernel_rfl) (by kernel_rfl) hb5)) ?_
  refine RunL.segF (n := 270) e_law09_EveningRelabels_ok 1 [(3, .sl 2 (x3.map (cdG2 (cdK .u8) (cdK .u8) (fun _ => rfl) (fun _ => rfl)).enc)), (9, .sl 1 (v1.1.map (cdL 1 (cdL 1 cdI)).enc)), (10, .sl 1 (v1.2.1.map cdI.enc)), (11, .v (.int .i64 v1.2.2)), (12, .sl 1 (v2.1.map (cdL 1 (cdL 1 cdI)).enc)), (15, e7)] hp4 (by kernel_rfl) ?_
  refine RunL.done rfl (SemY.fr (l' := [(3, .sl 2 (x3.map (cdG2 (cdK .u8) (cdK .u8) (fun _ => rfl) (fun _ => rfl)).enc)), (9, .sl 1 (v1.1.map (cdL 1 (cdL 1 cdI)).enc)), (10, .sl 1 (v1.2.1.map cdI.enc)), (11, .v (.int .i64 v1.2.2)), (12, .sl 1 (v2.1.map (cdL 1 (cdL 1 cdI)).enc)), (15, e7)]) (by kernel_rfl) ?_)
  refine SemY.seq ?_
  refine SemY.seq ?_
  refine SemY.regionL ?_
  refine RunL.segF (n := 270) e_law09_EveningRelabels_ok 1 [(3, .sl 2 (x3.map (cdG2 (cdK .u8) (cdK .u8) (fun _ => rfl) (fun _ => rfl)).enc)), (9, .sl 1 (v1.1.map (cdL 1 (cdL 1 cdI)).enc)), (10, .sl 1 (v1.2.1.map cdI.enc)), (11, .v (.int .i64 v1.2.2)), (12, .sl 1 (v2.1.map (cdL 1 (cdL 1 cdI)).enc)), (15, e7), (51, e7)] hp4 (by kernel_rfl) ?_
  refine RunL.one e_law09_EveningRelabels_ok 0 rfl (op_q (wantedA_none rfl) rfl (q_len (a := e7) (by kernel_rfl) (len_B hT6 (by kernel_rfl)))) ?_
  refine RunL.segF (n := 270) e_law09_EveningRelabels_ok 1 [(3, .sl 2 (x3.map (cdG2 (cdK .u8) (cdK .u8) (fun _ => rfl) (fun _ => rfl)).enc)), (9, .sl 1 (v1.1.map (cdL 1 (cdL 1 cdI)).enc)), (10, .sl 1 (v1.2.1.map cdI.enc)), (11, .v (.int .i64 v1.2.2)), (12, .sl 1 (v2.1.map (cdL 1 (cdL 1 cdI)).enc)), (15, e7), (52, .v (.int .i64 ((List.replicate v1.2.2.toNat (0 : Int)).length : Int))), (53, .v (.int .i64 0))] hp4 (by kernel_rfl) ?_
  refine RunL.done rfl (SemY.fr (l' := [(3, .sl 2 (x3.map (cdG2 (cdK .u8) (cdK .u8) (fun _ => rfl) (fun _ => rfl)).enc)), (9, .sl 1 (v1.1.map (cdL 1 (cdL 1 cdI)).enc)), (10, .sl 1 (v1.2.1.map cdI.enc)), (11, .v (.int .i64 v1.2.2)), (12, .sl 1 (v2.1.map (cdL 1 (cdL 1 cdI)).enc)), (15, e7), (52, .v (.int .i64 ((List.replicate v1.2.2.toNat (0 : Int)).length : Int))), (53, .v (.int .i64 0))]) (by kernel_rfl) ?_)
  refine SemY.block ?_
  refine SemY.loop (n := 100000) ?_
  obtain ⟨r16, hr16, h⟩ := Option.bind_eq_some_iff.1 h
  refine SemYN.cutT (SemYN.wk WkY.f1 (law09_EveningRelabels_1_ok v1 x3 v2 e7 _ 0 (List.replicate v1.2.2.toNat (0 : Int)) _ hr16  hp4 hT6)) ?_
  rintro _ ⟨hp17, hT18, rfl⟩
  refine SemY.seq ?_
  refine SemY.seq ?_
  refine SemY.regionL ?_
  refine RunL.segF (n := 270) e_law09_EveningRelabels_ok 2 [(9, .sl 1 (v1.1.map (cdL 1 (cdL 1 cdI)).enc)), (10, .sl 1 (v1.2.1.map cdI.enc)), (11, .v (.int .i64 v1.2.2)), (12, .sl 1 (v2.1.map (cdL 1 (cdL 1 cdI)).enc)), (15, e7), (61, .sl 2 (x3.map (cdG2 (cdK .u8) (cdK .u8) (fun _ => rfl) (fun _ => rfl)).enc)), (62, .sl 2 (x3.map (cdG2 (cdK .u8) (cdK .u8) (fun _ => rfl) (fun _ => rfl)).enc))] hp17 (by kernel_rfl) ?_
  refine RunL.one e_law09_EveningRelabels_ok 0 rfl (op_q (wantedA_none rfl) rfl (q_len (a := .sl 2 (x3.map (cdG2 (cdK .u8) (cdK .u8) (fun _ => rfl) (fun _ => rfl)).enc)) (by kernel_rfl) (len_sl (el := 53) (by kernel_rfl)))) ?_
  refine RunL.segF (n := 270) e_law09_EveningRelabels_ok 1 [(9, .sl 1 (v1.1.map (cdL 1 (cdL 1 cdI)).enc)), (10, .sl 1 (v1.2.1.map cdI.enc)), (11, .v (.int .i64 v1.2.2)), (12, .sl 1 (v2.1.map (cdL 1 (cdL 1 cdI)).enc)), (15, e7), (61, .sl 2 (x3.map (cdG2 (cdK .u8) (cdK .u8) (fun _ => rfl) (fun _ => rfl)).enc)), (64, .v (.int .i64 (mnI (x3.length : Int) 20)))] hp17 (by kernel_rfl) ?_
  by_cases hk19 : (cutOk 0 (mnI (x3.length : Int) 20) x3.length) = true
  case neg => rw [if_neg hk19] at h; cases h
  rw [if_pos hk19] at h
  refine RunL.one e_law09_EveningRelabels_ok 0 rfl (op_q (wantedA_none rfl) rfl (q_slice (a := .sl 2 (x3.map (cdG2 (cdK .u8) (cdK .u8) (fun _ => rfl) (fun _ => rfl)).enc)) (l := none) (u := (some (.v (.int .i64 (mnI (x3.length : Int) 20))))) (m := none) (by kernel_rfl) (by kernel_rfl) (by kernel_rfl) rfl (slice_sl (xs := x3) (e := (cdG2 (cdK .u8) (cdK .u8) (fun _ => rfl) (fun _ => rfl)).enc) (k := 2) (el := 53) (lo := 0) (hi := (mnI (x3.length : Int) 20)) (by kernel_rfl) (by kernel_rfl) rfl (natB_i (cut_hi hk19)) hk19))) ?_
  refine RunL.one e_law09_EveningRelabels_ok 0 rfl (op_q (wantedA_none rfl) rfl (q_len (a := .sl 2 (((x3.take (mnI (x3.length : Int) 20).toNat).drop (0 : Int).toNat).map (cdG2 (cdK .u8) (cdK .u8) (fun _ => rfl) (fun _ => rfl)).enc)) (by kernel_rfl) (len_sl (el := 53) (by kernel_rfl)))) ?_
  refine RunL.segF (n := 270) e_law09_EveningRelabels_ok 1 [(9, .sl 1 (v1.1.map (cdL 1 (cdL 1 cdI)).enc)), (10, .sl 1 (v1.2.1.map cdI.enc)), (11, .v (.int .i64 v1.2.2)), (12, .sl 1 (v2.1.map (cdL 1 (cdL 1 cdI)).enc)), (15, e7), (65, .sl 2 (((x3.take (mnI (x3.length : Int) 20).toNat).drop (0 : Int).toNat).map (cdG2 (cdK .u8) (cdK .u8) (fun _ => rfl) (fun _ => rfl)).enc)), (66, .v (.int .i64 (((x3.take (mnI (x3.length : Int) 20).toNat).drop (0 : Int).toNat).length : Int))), (67, .v (.int .i64 0))] hp17 (by kernel_rfl) ?_
  refine RunL.done rfl (SemY.fr (l' := [(9, .sl 1 (v1.1.map (cdL 1 (cdL 1 cdI)).enc)), (10, .sl 1 (v1.2.1.map cdI.enc)), (11, .v (.int .i64 v1.2.2)), (12, .sl 1 (v2.1.map (cdL 1 (cdL 1 cdI)).enc)), (15, e7), (65, .sl 2 (((x3.take (mnI (x3.length : Int) 20).toNat).drop (0 : Int).toNat).map (cdG2 (cdK .u8) (cdK .u8) (fun _ => rfl) (fun _ => rfl)).enc)), (66, .v (.int .i64 (((x3.take (mnI (x3.length : Int) 20).toNat).drop (0 : Int).toNat).length : Int))), (67, .v (.int .i64 0))]) (by kernel_rfl) ?_)
  refine SemY.block ?_
  refine SemY.loop (n := 100000) ?_
  obtain ⟨r46, hr46, h⟩ := Option.bind_eq_some_iff.1 h
  refine SemYN.cutT (SemYN.wk WkY.f1 (law09_EveningRelabels_2_ok x3 v1 v2 e7 _ 0 r16 _ hr46  hp17 hT18)) ?_
  rintro _ ⟨hp47, hT48, rfl⟩
  refine SemY.seq ?_
  refine SemY.regionL ?_
  refine RunL.segF (n := 270) e_law09_EveningRelabels_ok 3 [(9, .sl 1 (v1.1.map (cdL 1 (cdL 1 cdI)).enc)), (10, .sl 1 (v1.2.1.map cdI.enc)), (11, .v (.int .i64 v1.2.2)), (12, .sl 1 (v2.1.map (cdL 1 (cdL 1 cdI)).enc)), (15, e7), (97, .v (.int .i64 v1.2.2)), (98, .sl 1 (v1.1.map (cdL 1 (cdL 1 cdI)).enc)), (99, e7)] hp47 (by kernel_rfl) ?_
  obtain ⟨hp49, hw50, hT510⟩ := WkY.frzT (E := e_law09_EveningRelabels) (n := 270) (l := [(9, .sl 1 (v1.1.map (cdL 1 (cdL 1 cdI)).enc)), (10, .sl 1 (v1.2.1.map cdI.enc)), (11, .v (.int .i64 v1.2.2)), (12, .sl 1 (v2.1.map (cdL 1 (cdL 1 cdI)).enc)), (15, e7), (97, .v (.int .i64 v1.2.2)), (98, .sl 1 (v1.1.map (cdL 1 (cdL 1 cdI)).enc)), (99, e7)]) (l' := [(9, .sl 1 (v1.1.map (cdL 1 (cdL 1 cdI)).enc)), (10, .sl 1 (v1.2.1.map cdI.enc)), (11, .v (.int .i64 v1.2.2)), (12, .sl 1 (v2.1.map (cdL 1 (cdL 1 cdI)).enc)), (15, .sl 1 (r46.map cdI.enc)), (97, .v (.int .i64 v1.2.2)), (98, .sl 1 (v1.1.map (cdL 1 (cdL 1 cdI)).enc)), (99, .sl 1 (r46.map cdI.enc))]) hT48 (LkT.at_ ⟨.inl (by kernel_rfl), .inl (by kernel_rfl), .inl (by kernel_rfl), .inl (by kernel_rfl), .inr ⟨(by kernel_rfl), rfl⟩, .inl (by kernel_rfl), .inl (by kernel_rfl), .inr ⟨(by kernel_rfl), rfl⟩, trivial⟩)
  have hT51 : T hp49 (L) := hT510
  refine RunL.wk (WkY.trans WkY.f1 hw50) ?_
  obtain ⟨v52, hv52, h⟩ := Option.bind_eq_some_iff.1 h
  refine RunL.call e_law09_EveningRelabels_ok (fid := 29) (b := v52) (s := cs_evening_Relabel) (F := fun a => evening_Relabel a.1 a.2.1 a.2.2.1) (er := er_evening_Relabel) (xs := [.v (.int .i64 v1.2.2), .sl 1 (v1.1.map (cdL 1 (cdL 1 cdI)).enc), .sl 1 (r46.map cdI.enc)]) (a := (v1.2.2, v1.1, r46, ())) rfl (wantedA_none rfl) (by kernel_rfl) (by kernel_rfl) (by kernel_rfl) (by kernel_rfl) (Sns.cons (Sn.enc (c := cdI) (v := v1.2.2)) (Sns.cons (Sn.enc (c := (cdL 1 (cdL 1 (cdL 1 cdI)))) (v := v1.1)) (Sns.cons (Sn.enc (c := (cdL 1 cdI)) (v := r46)) Sns.nil))) (.inl (by kernel_rfl)) hv52 ?_
  refine RunL.segF (n := 270) e_law09_EveningRelabels_ok 5 [(9, .sl 1 (v1.1.map (cdL 1 (cdL 1 cdI)).enc)), (10, .sl 1 (v1.2.1.map cdI.enc)), (11, .v (.int .i64 v1.2.2)), (12, .sl 1 (v2.1.map (cdL 1 (cdL 1 cdI)).enc)), (15, .sl 1 (r46.map cdI.enc)), (21, .sl 1 (v52.1.map (cdL 1 (cdL 1 cdI)).enc)), (22, .v (.int .i64 v52.2))] hp49 (by kernel_rfl) ?_
  refine RunL.done rfl (SemY.fr (l' := [(9, .sl 1 (v1.1.map (cdL 1 (cdL 1 cdI)).enc)), (10, .sl 1 (v1.2.1.map cdI.enc)), (11, .v (.int .i64 v1.2.2)), (12, .sl 1 (v2.1.map (cdL 1 (cdL 1 cdI)).enc)), (15, .sl 1 (r46.map cdI.enc)), (21, .sl 1 (v52.1.map (cdL 1 (cdL 1 cdI)).enc)), (22, .v (.int .i64 v52.2))]) (by kernel_rfl) ?_)
  refine SemY.seq ?_
  refine SemY.regionL ?_
  refine RunL.segF (n := 270) e_law09_EveningRelabels_ok 3 [(9, .sl 1 (v1.1.map (cdL 1 (cdL 1 cdI)).enc)), (10, .sl 1 (v1.2.1.map cdI.enc)), (11, .v (.int .i64 v1.2.2)), (12, .sl 1 (v2.1.map (cdL 1 (cdL 1 cdI)).enc)), (15, .sl 1 (r46.map cdI.enc)), (21, .sl 1 (v52.1.map (cdL 1 (cdL 1 cdI)).enc)), (22, .v (.int .i64 v52.2)), (104, .v (.int .i64 v1.2.2)), (105, .sl 1 (v1.1.map (cdL 1 (cdL 1 cdI)).enc)), (106, .sl 1 (v2.1.map (cdL 1 (cdL 1 cdI)).enc))] hp49 (by kernel_rfl) ?_
  obtain ⟨v53, hv53, h⟩ := Option.bind_eq_some_iff.1 h
  refine RunL.call e_law09_EveningRelabels_ok (fid := 30) (b := v53) (s := cs_evening_Join) (F := fun a => evening_Join a.1 a.2.1 a.2.2.1) (er := er_evening_Join) (xs := [.v (.int .i64 v1.2.2), .sl 1 (v1.1.map (cdL 1 (cdL 1 cdI)).enc), .sl 1 (v2.1.map (cdL 1 (cdL 1 cdI)).enc)]) (a := (v1.2.2, v1.1, v2.1, ())) rfl (wantedA_none rfl) (by kernel_rfl) (by kernel_rfl) (by kernel_rfl) (by kernel_rfl) (Sns.cons (Sn.enc (c := cdI) (v := v1.2.2)) (Sns.cons (Sn.enc (c := (cdL 1 (cdL 1 (cdL 1 cdI)))) (v := v1.1)) (Sns.cons (Sn.enc (c := (cdL 1 (cdL 1 (cdL 1 cdI)))) (v := v2.1)) Sns.nil))) (.inl (by kernel_rfl)) hv53 ?_
  refine RunL.segF (n := 270) e_law09_EveningRelabels_ok 5 [(9, .sl 1 (v1.1.map (cdL 1 (cdL 1 cdI)).enc)), (10, .sl 1 (v1.2.1.map cdI.enc)), (11, .v (.int .i64 v1.2.2)), (12, .sl 1 (v2.1.map (cdL 1 (cdL 1 cdI)).enc)), (15, .sl 1 (r46.map cdI.enc)), (21, .sl 1 (v52.1.map (cdL 1 (cdL 1 cdI)).enc)), (22, .v (.int .i64 v52.2)), (23, .sl 1 (v53.1.map (cdL 1 (cdL 1 cdI)).enc)), (24, .v (.int .i64 v53.2))] hp49 (by kernel_rfl) ?_
  refine RunL.done rfl (SemY.fr (l' := [(9, .sl 1 (v1.1.map (cdL 1 (cdL 1 cdI)).enc)), (10, .sl 1 (v1.2.1.map cdI.enc)), (11, .v (.int .i64 v1.2.2)), (12, .sl 1 (v2.1.map (cdL 1 (cdL 1 cdI)).enc)), (15, .sl 1 (r46.map cdI.enc)), (21, .sl 1 (v52.1.map (cdL 1 (cdL 1 cdI)).enc)), (22, .v (.int .i64 v52.2)), (23, .sl 1 (v53.1.map (cdL 1 (cdL 1 cdI)).enc)), (24, .v (.int .i64 v53.2))]) (by kernel_rfl) ?_)
  refine SemY.seq ?_
  refine SemY.seq ?_
  obtain ⟨j54, hj54, h⟩ := Option.bind_eq_some_iff.1 h
  refine SemY.regT (A := fun s1 => ∃ (h' : Hp), T h' (L) ∧ s1 = ⟨Fr 270 [(9, .sl 1 (v1.1.map (cdL 1 (cdL 1 cdI)).enc)), (10, .sl 1 (v1.2.1.map cdI.enc)), (11, .v (.int .i64 v1.2.2)), (12, .sl 1 (v2.1.map (cdL 1 (cdL 1 cdI)).enc)), (15, .sl 1 (r46.map cdI.enc)), (21, .sl 1 (v52.1.map (cdL 1 (cdL 1 cdI)).enc)), (23, .sl 1 (v53.1.map (cdL 1 (cdL 1 cdI)).enc)), (125, .v (.bool j54))], h'⟩) ?_ ?_
  · refine RunL.segF (n := 270) e_law09_EveningRelabels_ok 3 [(9, .sl 1 (v1.1.map (cdL 1 (cdL 1 cdI)).enc)), (10, .sl 1 (v1.2.1.map cdI.enc)), (11, .v (.int .i64 v1.2.2)), (12, .sl 1 (v2.1.map (cdL 1 (cdL 1 cdI)).enc)), (15, .sl 1 (r46.map cdI.enc)), (21, .sl 1 (v52.1.map (cdL 1 (cdL 1 cdI)).enc)), (23, .sl 1 (v53.1.map (cdL 1 (cdL 1 cdI)).enc)), (24, .v (.int .i64 v53.2)), (112, .v (.bool (v52.2 != 0)))] hp49 (by kernel_rfl) ?_
    rcases Bool.eq_false_or_eq_true (v52.2 != 0) with hc127 | hc127
    · rw [if_pos hc127] at hj54
      rw [hc127]
      refine RunL.segF (n := 270) e_law09_EveningRelabels_ok 13 [(9, .sl 1 (v1.1.map (cdL 1 (cdL 1 cdI)).enc)), (10, .sl 1 (v1.2.1.map cdI.enc)), (11, .v (.int .i64 v1.2.2)), (12, .sl 1 (v2.1.map (cdL 1 (cdL 1 cdI)).enc)), (15, .sl 1 (r46.map cdI.enc)), (21, .sl 1 (v52.1.map (cdL 1 (cdL 1 cdI)).enc)), (23, .sl 1 (v53.1.map (cdL 1 (cdL 1 cdI)).enc)), (125, .v (.bool true))] hp49 (by kernel_rfl) ?_
      have hq := Option.some.inj hj54; subst hq
      exact RunL.done rfl ⟨_, ⟨hp49, hT51, rfl⟩, WkY.f1⟩
    · rw [if_f hc127] at hj54
      rw [hc127]
      refine RunL.segF (n := 270) e_law09_EveningRelabels_ok 4 [(9, .sl 1 (v1.1.map (cdL 1 (cdL 1 cdI)).enc)), (10, .sl 1 (v1.2.1.map cdI.enc)), (11, .v (.int .i64 v1.2.2)), (12, .sl 1 (v2.1.map (cdL 1 (cdL 1 cdI)).enc)), (15, .sl 1 (r46.map cdI.enc)), (21, .sl 1 (v52.1.map (cdL 1 (cdL 1 cdI)).enc)), (23, .sl 1 (v53.1.map (cdL 1 (cdL 1 cdI)).enc)), (116, .v (.bool (v53.2 != 0)))] hp49 (by kernel_rfl) ?_
      rcases Bool.eq_false_or_eq_true (v53.2 != 0) with hc128 | hc128
      · rw [if_pos hc128] at hj54
        rw [hc128]
        refine RunL.segF (n := 270) e_law09_EveningRelabels_ok 9 [(9, .sl 1 (v1.1.map (cdL 1 (cdL 1 cdI)).enc)), (10, .sl 1 (v1.2.1.map cdI.enc)), (11, .v (.int .i64 v1.2.2)), (12, .sl 1 (v2.1.map (cdL 1 (cdL 1 cdI)).enc)), (15, .sl 1 (r46.map cdI.enc)), (21, .sl 1 (v52.1.map (cdL 1 (cdL 1 cdI)).enc)), (23, .sl 1 (v53.1.map (cdL 1 (cdL 1 cdI)).enc)), (125, .v (.bool true))] hp49 (by kernel_rfl) ?_
        have hq := Option.some.inj hj54; subst hq
        exact RunL.done rfl ⟨_, ⟨hp49, hT51, rfl⟩, WkY.f1⟩
      · rw [if_f hc128] at hj54
        rw [hc128]
        refine RunL.segF (n := 270) e_law09_EveningRelabels_ok 1 [(9, .sl 1 (v1.1.map (cdL 1 (cdL 1 cdI)).enc)), (10, .sl 1 (v1.2.1.map cdI.enc)), (11, .v (.int .i64 v1.2.2)), (12, .sl 1 (v2.1.map (cdL 1 (cdL 1 cdI)).enc)), (15, .sl 1 (r46.map cdI.enc)), (21, .sl 1 (v52.1.map (cdL 1 (cdL 1 cdI)).enc)), (23, .sl 1 (v53.1.map (cdL 1 (cdL 1 cdI)).enc)), (116, .v (.bool false)), (117, .sl 1 (v53.1.map (cdL 1 (cdL 1 cdI)).enc))] hp49 (by kernel_rfl) ?_
        refine RunL.one e_law09_EveningRelabels_ok 0 rfl (op_q (by kernel_rfl) rfl (q_len (a := .sl 1 (v53.1.map (cdL 1 (cdL 1 cdI)).enc)) (by kernel_rfl) (len_sl (el := 50) (by kernel_rfl)))) ?_
        refine RunL.segF (n := 270) e_law09_EveningRelabels_ok 1 [(9, .sl 1 (v1.1.map (cdL 1 (cdL 1 cdI)).enc)), (10, .sl 1 (v1.2.1.map cdI.enc)), (11, .v (.int .i64 v1.2.2)), (12, .sl 1 (v2.1.map (cdL 1 (cdL 1 cdI)).enc)), (15, .sl 1 (r46.map cdI.enc)), (21, .sl 1 (v52.1.map (cdL 1 (cdL 1 cdI)).enc)), (23, .sl 1 (v53.1.map (cdL 1 (cdL 1 cdI)).enc)), (116, .v (.bool false)), (118, .v (.int .i64 (v53.1.length : Int))), (119, .sl 1 (v1.1.map (cdL 1 (cdL 1 cdI)).enc))] hp49 (by kernel_rfl) ?_
        refine RunL.one e_law09_EveningRelabels_ok 0 rfl (op_q (by kernel_rfl) rfl (q_len (a := .sl 1 (v1.1.map (cdL 1 (cdL 1 cdI)).enc)) (by kernel_rfl) (len_sl (el := 50) (by kernel_rfl)))) ?_
        refine RunL.segF (n := 270) e_law09_EveningRelabels_ok 1 [(9, .sl 1 (v1.1.map (cdL 1 (cdL 1 cdI)).enc)), (10, .sl 1 (v1.2.1.map cdI.enc)), (11, .v (.int .i64 v1.2.2)), (12, .sl 1 (v2.1.map (cdL 1 (cdL 1 cdI)).enc)), (15, .sl 1 (r46.map cdI.enc)), (21, .sl 1 (v52.1.map (cdL 1 (cdL 1 cdI)).enc)), (23, .sl 1 (v53.1.map (cdL 1 (cdL 1 cdI)).enc)), (116, .v (.bool false)), (118, .v (.int .i64 (v53.1.length : Int))), (120, .v (.int .i64 (v1.1.length : Int))), (121, .sl 1 (v2.1.map (cdL 1 (cdL 1 cdI)).enc))] hp49 (by kernel_rfl) ?_
        refine RunL.one e_law09_EveningRelabels_ok 0 rfl (op_q (by kernel_rfl) rfl (q_len (a := .sl 1 (v2.1.map (cdL 1 (cdL 1 cdI)).enc)) (by kernel_rfl) (len_sl (el := 50) (by kernel_rfl)))) ?_
        refine RunL.segF (n := 270) e_law09_EveningRelabels_ok 3 [(9, .sl 1 (v1.1.map (cdL 1 (cdL 1 cdI)).enc)), (10, .sl 1 (v1.2.1.map cdI.enc)), (11, .v (.int .i64 v1.2.2)), (12, .sl 1 (v2.1.map (cdL 1 (cdL 1 cdI)).enc)), (15, .sl 1 (r46.map cdI.enc)), (21, .sl 1 (v52.1.map (cdL 1 (cdL 1 cdI)).enc)), (23, .sl 1 (v53.1.map (cdL 1 (cdL 1 cdI)).enc)), (125, .v (.bool ((v53.1.length : Int) != (wr .i64 ((v1.1.length : Int) + (v2.1.length : Int))))))] hp49 (by kernel_rfl) ?_
        have hq := Option.some.inj hj54; subst hq
        exact RunL.done rfl ⟨_, ⟨hp49, hT51, rfl⟩, WkY.f1⟩
  rintro _ ⟨hp56, hT57, rfl⟩
  refine SemY.cond (b := j54) (by kernel_rfl) (fun hb58 => ?_) (fun hb58 => ?_)
  · rw [if_pos hb58] at h
    refine SemY.seq ?_
    refine SemY.regionL ?_
    refine RunL.segF (n := 270) e_law09_EveningRelabels_ok 1 [(8, .v (.bool false))] hp56 (by kernel_rfl) ?_
    refine RunL.done rfl (SemY.fr (l' := [(8, .v (.bool false))]) (by kernel_rfl) ?_)
    refine SemY.ret ?_
    have hq := Option.some.inj h; subst hq
    exact ⟨⟨Fr 270 [(8, .v (.bool false))], hp56⟩, WkY.f1, .inr rfl, [.v (.bool false)], (by kernel_rfl), ⟨rfl, hT57⟩⟩
  · rw [if_f hb58] at h
    refine SemY.skip ?_
    refine SemY.seq ?_
    refine SemY.seq ?_
    refine SemY.regionL ?_
    refine RunL.segF (n := 270) e_law09_EveningRelabels_ok 3 [(9, .sl 1 (v1.1.map (cdL 1 (cdL 1 cdI)).enc)), (11, .v (.int .i64 v1.2.2)), (12, .sl 1 (v2.1.map (cdL 1 (cdL 1 cdI)).enc)), (15, .sl 1 (r46.map cdI.enc)), (21, .sl 1 (v52.1.map (cdL 1 (cdL 1 cdI)).enc)), (23, .sl 1 (v53.1.map (cdL 1 (cdL 1 cdI)).enc)), (127, .v (.int .i64 v1.2.2)), (128, .sl 1 (v1.2.1.map cdI.enc)), (129, .sl 1 (v52.1.map (cdL 1 (cdL 1 cdI)).enc))] hp56 (by kernel_rfl) ?_
    obtain ⟨v59, hv59, h⟩ := Option.bind_eq_some_iff.1 h
    refine RunL.call e_law09_EveningRelabels_ok (fid := 27) (b := v59) (s := cs_evening_Check) (F := fun a => evening_Check a.1 a.2.1 a.2.2.1) (er := er_evening_Check) (xs := [.v (.int .i64 v1.2.2), .sl 1 (v1.2.1.map cdI.enc), .sl 1 (v52.1.map (cdL 1 (cdL 1 cdI)).enc)]) (a := (v1.2.2, v1.2.1, v52.1, ())) rfl (wantedA_none rfl) (by kernel_rfl) (by kernel_rfl) (by kernel_rfl) (by kernel_rfl) (Sns.cons (Sn.enc (c := cdI) (v := v1.2.2)) (Sns.cons (Sn.enc (c := (cdL 1 cdI)) (v := v1.2.1)) (Sns.cons (Sn.enc (c := (cdL 1 (cdL 1 (cdL 1 cdI)))) (v := v52.1)) Sns.nil))) (.inl (by kernel_rfl)) hv59 ?_
    refine RunL.segF (n := 270) e_law09_EveningRelabels_ok 5 [(9, .sl 1 (v1.1.map (cdL 1 (cdL 1 cdI)).enc)), (11, .v (.int .i64 v1.2.2)), (12, .sl 1 (v2.1.map (cdL 1 (cdL 1 cdI)).enc)), (15, .sl 1 (r46.map cdI.enc)), (21, .sl 1 (v52.1.map (cdL 1 (cdL 1 cdI)).enc)), (23, .sl 1 (v53.1.map (cdL 1 (cdL 1 cdI)).enc)), (25, .v (.int .i64 v59.1)), (26, .v (.int .i64 v59.2))] hp56 (by kernel_rfl) ?_
    refine RunL.done rfl (SemY.fr (l' := [(9, .sl 1 (v1.1.map (cdL 1 (cdL 1 cdI)).enc)), (11, .v (.int .i64 v1.2.2)), (12, .sl 1 (v2.1.map (cdL 1 (cdL 1 cdI)).enc)), (15, .sl 1 (r46.map cdI.enc)), (21, .sl 1 (v52.1.map (cdL 1 (cdL 1 cdI)).enc)), (23, .sl 1 (v53.1.map (cdL 1 (cdL 1 cdI)).enc)), (25, .v (.int .i64 v59.1)), (26, .v (.int .i64 v59.2))]) (by kernel_rfl) ?_)
    refine SemY.seq ?_
    obtain ⟨j60, hj60, h⟩ := Option.bind_eq_some_iff.1 h
    refine SemY.regT (A := fun s1 => ∃ (h' : Hp), T h' (L) ∧ s1 = ⟨Fr 270 [(9, .sl 1 (v1.1.map (cdL 1 (cdL 1 cdI)).enc)), (11, .v (.int .i64 v1.2.2)), (12, .sl 1 (v2.1.map (cdL 1 (cdL 1 cdI)).enc)), (15, .sl 1 (r46.map cdI.enc)), (21, .sl 1 (v52.1.map (cdL 1 (cdL 1 cdI)).enc)), (23, .sl 1 (v53.1.map (cdL 1 (cdL 1 cdI)).enc)), (138, .v (.bool j60))], h'⟩) ?_ ?_
    · refine RunL.segF (n := 270) e_law09_EveningRelabels_ok 3 [(9, .sl 1 (v1.1.map (cdL 1 (cdL 1 cdI)).enc)), (11, .v (.int .i64 v1.2.2)), (12, .sl 1 (v2.1.map (cdL 1 (cdL 1 cdI)).enc)), (15, .sl 1 (r46.map cdI.enc)), (21, .sl 1 (v52.1.map (cdL 1 (cdL 1 cdI)).enc)), (23, .sl 1 (v53.1.map (cdL 1 (cdL 1 cdI)).enc)), (26, .v (.int .i64 v59.2)), (135, .v (.bool (v59.1 != 0)))] hp56 (by kernel_rfl) ?_
      rcases Bool.eq_false_or_eq_true (v59.1 != 0) with hc126 | hc126
      · rw [if_pos hc126] at hj60
        rw [hc126]
        refine RunL.segF (n := 270) e_law09_EveningRelabels_ok 3 [(9, .sl 1 (v1.1.map (cdL 1 (cdL 1 cdI)).enc)), (11, .v (.int .i64 v1.2.2)), (12, .sl 1 (v2.1.map (cdL 1 (cdL 1 cdI)).enc)), (15, .sl 1 (r46.map cdI.enc)), (21, .sl 1 (v52.1.map (cdL 1 (cdL 1 cdI)).enc)), (23, .sl 1 (v53.1.map (cdL 1 (cdL 1 cdI)).enc)), (138, .v (.bool true))] hp56 (by kernel_rfl) ?_
        have hq := Option.some.inj hj60; subst hq
        exact RunL.done rfl ⟨_, ⟨hp56, hT57, rfl⟩, WkY.f1⟩
      · rw [if_f hc126] at hj60
        rw [hc126]
        refine RunL.segF (n := 270) e_law09_EveningRelabels_ok 3 [(9, .sl 1 (v1.1.map (cdL 1 (cdL 1 cdI)).enc)), (11, .v (.int .i64 v1.2.2)), (12, .sl 1 (v2.1.map (cdL 1 (cdL 1 cdI)).enc)), (15, .sl 1 (r46.map cdI.enc)), (21, .sl 1 (v52.1.map (cdL 1 (cdL 1 cdI)).enc)), (23, .sl 1 (v53.1.map (cdL 1 (cdL 1 cdI)).enc)), (138, .v (.bool (v59.2 != 0)))] hp56 (by kernel_rfl) ?_
        have hq := Option.some.inj hj60; subst hq
        exact RunL.done rfl ⟨_, ⟨hp56, hT57, rfl⟩, WkY.f1⟩
    rintro _ ⟨hp62, hT63, rfl⟩
    refine SemY.cond (b := j60) (by kernel_rfl) (fun hb64 => ?_) (fun hb64 => ?_)
    · rw [if_pos hb64] at h
      refine SemY.seq ?_
      refine SemY.regionL ?_
      refine RunL.segF (n := 270) e_law09_EveningRelabels_ok 1 [(8, .v (.bool false))] hp62 (by kernel_rfl) ?_
      refine RunL.done rfl (SemY.fr (l' := [(8, .v (.bool false))]) (by kernel_rfl) ?_)
      refine SemY.ret ?_
      have hq := Option.some.inj h; subst hq
      exact ⟨⟨Fr 270 [(8, .v (.bool false))], hp62⟩, WkY.f1, .inr rfl, [.v (.bool false)], (by kernel_rfl), ⟨rfl, hT63⟩⟩
    · rw [if_f hb64] at h
      refine SemY.skip ?_
      refine SemY.seq ?_
      refine SemY.regionL ?_
      refine RunL.segF (n := 270) e_law09_EveningRelabels_ok 2 [(9, .sl 1 (v1.1.map (cdL 1 (cdL 1 cdI)).enc)), (11, .v (.int .i64 v1.2.2)), (12, .sl 1 (v2.1.map (cdL 1 (cdL 1 cdI)).enc)), (15, .sl 1 (r46.map cdI.enc)), (21, .sl 1 (v52.1.map (cdL 1 (cdL 1 cdI)).enc)), (23, .sl 1 (v53.1.map (cdL 1 (cdL 1 cdI)).enc)), (139, .v (.int .i64 v1.2.2)), (140, .sl 1 (v1.1.map (cdL 1 (cdL 1 cdI)).enc))] hp62 (by kernel_rfl) ?_
      obtain ⟨v65, hv65, h⟩ := Option.bind_eq_some_iff.1 h
      refine RunL.call e_law09_EveningRelabels_ok (fid := 31) (b := v65) (s := cs_evening_Meet) (F := fun a => evening_Meet a.1 a.2.1) (er := er_evening_Meet) (xs := [.v (.int .i64 v1.2.2), .sl 1 (v1.1.map (cdL 1 (cdL 1 cdI)).enc)]) (a := (v1.2.2, v1.1, ())) rfl (wantedA_none rfl) (by kernel_rfl) (by kernel_rfl) (by kernel_rfl) (by kernel_rfl) (Sns.cons (Sn.enc (c := cdI) (v := v1.2.2)) (Sns.cons (Sn.enc (c := (cdL 1 (cdL 1 (cdL 1 cdI)))) (v := v1.1)) Sns.nil)) (.inl (by kernel_rfl)) hv65 ?_
      refine RunL.segF (n := 270) e_law09_EveningRelabels_ok 2 [(9, .sl 1 (v1.1.map (cdL 1 (cdL 1 cdI)).enc)), (11, .v (.int .i64 v1.2.2)), (15, .sl 1 (r46.map cdI.enc)), (21, .sl 1 (v52.1.map (cdL 1 (cdL 1 cdI)).enc)), (23, .sl 1 (v53.1.map (cdL 1 (cdL 1 cdI)).enc)), (141, .sl 1 (v65.map (cdL 1 cdI).enc)), (142, .v (.int .i64 v1.2.2)), (143, .sl 1 (v2.1.map (cdL 1 (cdL 1 cdI)).enc))] hp62 (by kernel_rfl) ?_
      obtain ⟨v66, hv66, h⟩ := Option.bind_eq_some_iff.1 h
      refine RunL.call e_law09_EveningRelabels_ok (fid := 31) (b := v66) (s := cs_evening_Meet) (F := fun a => evening_Meet a.1 a.2.1) (er := er_evening_Meet) (xs := [.v (.int .i64 v1.2.2), .sl 1 (v2.1.map (cdL 1 (cdL 1 cdI)).enc)]) (a := (v1.2.2, v2.1, ())) rfl (wantedA_none rfl) (by kernel_rfl) (by kernel_rfl) (by kernel_rfl) (by kernel_rfl) (Sns.cons (Sn.enc (c := cdI) (v := v1.2.2)) (Sns.cons (Sn.enc (c := (cdL 1 (cdL 1 (cdL 1 cdI)))) (v := v2.1)) Sns.nil)) (.inl (by kernel_rfl)) hv66 ?_
      refine RunL.segF (n := 270) e_law09_EveningRelabels_ok 2 [(9, .sl 1 (v1.1.map (cdL 1 (cdL 1 cdI)).enc)), (11, .v (.int .i64 v1.2.2)), (15, .sl 1 (r46.map cdI.enc)), (21, .sl 1 (v52.1.map (cdL 1 (cdL 1 cdI)).enc)), (23, .sl 1 (v53.1.map (cdL 1 (cdL 1 cdI)).enc)), (141, .sl 1 (v65.map (cdL 1 cdI).enc)), (144, .sl 1 (v66.map (cdL 1 cdI).enc)), (145, .v (.int .i64 v1.2.2)), (146, .sl 1 (v52.1.map (cdL 1 (cdL 1 cdI)).enc))] hp62 (by kernel_rfl) ?_
      obtain ⟨v67, hv67, h⟩ := Option.bind_eq_some_iff.1 h
      refine RunL.call e_law09_EveningRelabels_ok (fid := 31) (b := v67) (s := cs_evening_Meet) (F := fun a => evening_Meet a.1 a.2.1) (er := er_evening_Meet) (xs := [.v (.int .i64 v1.2.2), .sl 1 (v52.1.map (cdL 1 (cdL 1 cdI)).enc)]) (a := (v1.2.2, v52.1, ())) rfl (wantedA_none rfl) (by kernel_rfl) (by kernel_rfl) (by kernel_rfl) (by kernel_rfl) (Sns.cons (Sn.enc (c := cdI) (v := v1.2.2)) (Sns.cons (Sn.enc (c := (cdL 1 (cdL 1 (cdL 1 cdI)))) (v := v52.1)) Sns.nil)) (.inl (by kernel_rfl)) hv67 ?_
      refine RunL.segF (n := 270) e_law09_EveningRelabels_ok 2 [(9, .sl 1 (v1.1.map (cdL 1 (cdL 1 cdI)).enc)), (11, .v (.int .i64 v1.2.2)), (15, .sl 1 (r46.map cdI.enc)), (21, .sl 1 (v52.1.map (cdL 1 (cdL 1 cdI)).enc)), (141, .sl 1 (v65.map (cdL 1 cdI).enc)), (144, .sl 1 (v66.map (cdL 1 cdI).enc)), (147, .sl 1 (v67.map (cdL 1 cdI).enc)), (148, .v (.int .i64 v1.2.2)), (149, .sl 1 (v53.1.map (cdL 1 (cdL 1 cdI)).enc))] hp62 (by kernel_rfl) ?_
      obtain ⟨v68, hv68, h⟩ := Option.bind_eq_some_iff.1 h
      refine RunL.call e_law09_EveningRelabels_ok (fid := 31) (b := v68) (s := cs_evening_Meet) (F := fun a => evening_Meet a.1 a.2.1) (er := er_evening_Meet) (xs := [.v (.int .i64 v1.2.2), .sl 1 (v53.1.map (cdL 1 (cdL 1 cdI)).enc)]) (a := (v1.2.2, v53.1, ())) rfl (wantedA_none rfl) (by kernel_rfl) (by kernel_rfl) (by kernel_rfl) (by kernel_rfl) (Sns.cons (Sn.enc (c := cdI) (v := v1.2.2)) (Sns.cons (Sn.enc (c := (cdL 1 (cdL 1 (cdL 1 cdI)))) (v := v53.1)) Sns.nil)) (.inl (by kernel_rfl)) hv68 ?_
      refine RunL.segF (n := 270) e_law09_EveningRelabels_ok 4 [(9, .sl 1 (v1.1.map (cdL 1 (cdL 1 cdI)).enc)), (11, .v (.int .i64 v1.2.2)), (15, .sl 1 (r46.map cdI.enc)), (21, .sl 1 (v52.1.map (cdL 1 (cdL 1 cdI)).enc)), (27, .sl 1 (v65.map (cdL 1 cdI).enc)), (28, .sl 1 (v66.map (cdL 1 cdI).enc)), (29, .sl 1 (v67.map (cdL 1 cdI).enc)), (30, .sl 1 (v68.map (cdL 1 cdI).enc))] hp62 (by kernel_rfl) ?_
      refine RunL.done rfl (SemY.fr (l' := [(9, .sl 1 (v1.1.map (cdL 1 (cdL 1 cdI)).enc)), (11, .v (.int .i64 v1.2.2)), (15, .sl 1 (r46.map cdI.enc)), (21, .sl 1 (v52.1.map (cdL 1 (cdL 1 cdI)).enc)), (27, .sl 1 (v65.map (cdL 1 cdI).enc)), (28, .sl 1 (v66.map (cdL 1 cdI).enc)), (29, .sl 1 (v67.map (cdL 1 cdI).enc)), (30, .sl 1 (v68.map (cdL 1 cdI).enc))]) (by kernel_rfl) ?_)
      refine SemY.seq ?_
      refine SemY.regionL ?_
      refine RunL.segF (n := 270) e_law09_EveningRelabels_ok 2 [(9, .sl 1 (v1.1.map (cdL 1 (cdL 1 cdI)).enc)), (11, .v (.int .i64 v1.2.2)), (15, .sl 1 (r46.map cdI.enc)), (21, .sl 1 (v52.1.map (cdL 1 (cdL 1 cdI)).enc)), (27, .sl 1 (v65.map (cdL 1 cdI).enc)), (28, .sl 1 (v66.map (cdL 1 cdI).enc)), (29, .sl 1 (v67.map (cdL 1 cdI).enc)), (30, .sl 1 (v68.map (cdL 1 cdI).enc)), (151, .v (.int .i64 v1.2.2)), (152, .sl 1 (v1.1.map (cdL 1 (cdL 1 cdI)).enc))] hp62 (by kernel_rfl) ?_
      obtain ⟨v69, hv69, h⟩ := Option.bind_eq_some_iff.1 h
      refine RunL.call e_law09_EveningRelabels_ok (fid := 32) (b := v69) (s := cs_evening_Beside) (F := fun a => evening_Beside a.1 a.2.1) (er := er_evening_Beside) (xs := [.v (.int .i64 v1.2.2), .sl 1 (v1.1.map (cdL 1 (cdL 1 cdI)).enc)]) (a := (v1.2.2, v1.1, ())) rfl (wantedA_none rfl) (by kernel_rfl) (by kernel_rfl) (by kernel_rfl) (by kernel_rfl) (Sns.cons (Sn.enc (c := cdI) (v := v1.2.2)) (Sns.cons (Sn.enc (c := (cdL 1 (cdL 1 (cdL 1 cdI)))) (v := v1.1)) Sns.nil)) (.inl (by kernel_rfl)) hv69 ?_
      refine RunL.segF (n := 270) e_law09_EveningRelabels_ok 2 [(9, .sl 1 (v1.1.map (cdL 1 (cdL 1 cdI)).enc)), (11, .v (.int .i64 v1.2.2)), (15, .sl 1 (r46.map cdI.enc)), (21, .sl 1 (v52.1.map (cdL 1 (cdL 1 cdI)).enc)), (27, .sl 1 (v65.map (cdL 1 cdI).enc)), (28, .sl 1 (v66.map (cdL 1 cdI).enc)), (29, .sl 1 (v67.map (cdL 1 cdI).enc)), (30, .sl 1 (v68.map (cdL 1 cdI).enc)), (153, .sl 1 (v69.map (cdL 1 cdI).enc)), (154, .v (.int .i64 v1.2.2)), (155, .sl 1 (v52.1.map (cdL 1 (cdL 1 cdI)).enc))] hp62 (by kernel_rfl) ?_
      obtain ⟨v70, hv70, h⟩ := Option.bind_eq_some_iff.1 h
      refine RunL.call e_law09_EveningRelabels_ok (fid := 32) (b := v70) (s := cs_evening_Beside) (F := fun a => evening_Beside a.1 a.2.1) (er := er_evening_Beside) (xs := [.v (.int .i64 v1.2.2), .sl 1 (v52.1.map (cdL 1 (cdL 1 cdI)).enc)]) (a := (v1.2.2, v52.1, ())) rfl (wantedA_none rfl) (by kernel_rfl) (by kernel_rfl) (by kernel_rfl) (by kernel_rfl) (Sns.cons (Sn.enc (c := cdI) (v := v1.2.2)) (Sns.cons (Sn.enc (c := (cdL 1 (cdL 1 (cdL 1 cdI)))) (v := v52.1)) Sns.nil)) (.inl (by kernel_rfl)) hv70 ?_
      refine RunL.segF (n := 270) e_law09_EveningRelabels_ok 2 [(9, .sl 1 (v1.1.map (cdL 1 (cdL 1 cdI)).enc)), (11, .v (.int .i64 v1.2.2)), (15, .sl 1 (r46.map cdI.enc)), (21, .sl 1 (v52.1.map (cdL 1 (cdL 1 cdI)).enc)), (27, .sl 1 (v65.map (cdL 1 cdI).enc)), (28, .sl 1 (v66.map (cdL 1 cdI).enc)), (29, .sl 1 (v67.map (cdL 1 cdI).enc)), (30, .sl 1 (v68.map (cdL 1 cdI).enc)), (31, .sl 1 (v69.map (cdL 1 cdI).enc)), (32, .sl 1 (v70.map (cdL 1 cdI).enc))] hp62 (by kernel_rfl) ?_
      refine RunL.done rfl (SemY.fr (l' := [(9, .sl 1 (v1.1.map (cdL 1 (cdL 1 cdI)).enc)), (11, .v (.int .i64 v1.2.2)), (15, .sl 1 (r46.map cdI.enc)), (21, .sl 1 (v52.1.map (cdL 1 (cdL 1 cdI)).enc)), (27, .sl 1 (v65.map (cdL 1 cdI).enc)), (28, .sl 1 (v66.map (cdL 1 cdI).enc)), (29, .sl 1 (v67.map (cdL 1 cdI).enc)), (30, .sl 1 (v68.map (cdL 1 cdI).enc)), (31, .sl 1 (v69.map (cdL 1 cdI).enc)), (32, .sl 1 (v70.map (cdL 1 cdI).enc))]) (by kernel_rfl) ?_)
      refine SemY.seq ?_
      refine SemY.seq ?_
      refine SemY.regionL ?_
      refine RunL.segF (n := 270) e_law09_EveningRelabels_ok 1 [(9, .sl 1 (v1.1.map (cdL 1 (cdL 1 cdI)).enc)), (11, .v (.int .i64 v1.2.2)), (15, .sl 1 (r46.map cdI.enc)), (21, .sl 1 (v52.1.map (cdL 1 (cdL 1 cdI)).enc)), (27, .sl 1 (v65.map (cdL 1 cdI).enc)), (28, .sl 1 (v66.map (cdL 1 cdI).enc)), (29, .sl 1 (v67.map (cdL 1 cdI).enc)), (30, .sl 1 (v68.map (cdL 1 cdI).enc)), (31, .sl 1 (v69.map (cdL 1 cdI).enc)), (32, .sl 1 (v70.map (cdL 1 cdI).enc)), (157, .sl 1 (v65.map (cdL 1 cdI).enc))] hp62 (by kernel_rfl) ?_
      refine RunL.one e_law09_EveningRelabels_ok 0 rfl (op_q (wantedA_none rfl) rfl (q_len (a := .sl 1 (v65.map (cdL 1 cdI).enc)) (by kernel_rfl) (len_sl (el := 31) (by kernel_rfl)))) ?_
      refine RunL.segF (n := 270) e_law09_EveningRelabels_ok 1 [(9, .sl 1 (v1.1.map (cdL 1 (cdL 1 cdI)).enc)), (11, .v (.int .i64 v1.2.2)), (15, .sl 1 (r46.map cdI.enc)), (21, .sl 1 (v52.1.map (cdL 1 (cdL 1 cdI)).enc)), (27, .sl 1 (v65.map (cdL 1 cdI).enc)), (28, .sl 1 (v66.map (cdL 1 cdI).enc)), (29, .sl 1 (v67.map (cdL 1 cdI).enc)), (30, .sl 1 (v68.map (cdL 1 cdI).enc)), (31, .sl 1 (v69.map (cdL 1 cdI).enc)), (32, .sl 1 (v70.map (cdL 1 cdI).enc)), (158, .v (.int .i64 (v65.length : Int))), (159, .sl 1 (v66.map (cdL 1 cdI).enc))] hp62 (by kernel_rfl) ?_
      refine RunL.one e_law09_EveningRelabels_ok 0 rfl (op_q (wantedA_none rfl) rfl (q_len (a := .sl 1 (v66.map (cdL 1 cdI).enc)) (by kernel_rfl) (len_sl (el := 31) (by kernel_rfl)))) ?_
      refine RunL.segF (n := 270) e_law09_EveningRelabels_ok 1 [(9, .sl 1 (v1.1.map (cdL 1 (cdL 1 cdI)).enc)), (11, .v (.int .i64 v1.2.2)), (15, .sl 1 (r46.map cdI.enc)), (21, .sl 1 (v52.1.map (cdL 1 (cdL 1 cdI)).enc)), (27, .sl 1 (v65.map (cdL 1 cdI).enc)), (28, .sl 1 (v66.map (cdL 1 cdI).enc)), (29, .sl 1 (v67.map (cdL 1 cdI).enc)), (30, .sl 1 (v68.map (cdL 1 cdI).enc)), (31, .sl 1 (v69.map (cdL 1 cdI).enc)), (32, .sl 1 (v70.map (cdL 1 cdI).enc)), (158, .v (.int .i64 (v65.length : Int))), (160, .v (.int .i64 (v66.length : Int))), (161, .sl 1 (v67.map (cdL 1 cdI).enc))] hp62 (by kernel_rfl) ?_
      refine RunL.one e_law09_EveningRelabels_ok 0 rfl (op_q (wantedA_none rfl) rfl (q_len (a := .sl 1 (v67.map (cdL 1 cdI).enc)) (by kernel_rfl) (len_sl (el := 31) (by kernel_rfl)))) ?_
      refine RunL.segF (n := 270) e_law09_EveningRelabels_ok 1 [(9, .sl 1 (v1.1.map (cdL 1 (cdL 1 cdI)).enc)), (11, .v (.int .i64 v1.2.2)), (15, .sl 1 (r46.map cdI.enc)), (21, .sl 1 (v52.1.map (cdL 1 (cdL 1 cdI)).enc)), (27, .sl 1 (v65.map (cdL 1 cdI).enc)), (28, .sl 1 (v66.map (cdL 1 cdI).enc)), (29, .sl 1 (v67.map (cdL 1 cdI).enc)), (30, .sl 1 (v68.map (cdL 1 cdI).enc)), (31, .sl 1 (v69.map (cdL 1 cdI).enc)), (32, .sl 1 (v70.map (cdL 1 cdI).enc)), (158, .v (.int .i64 (v65.length : Int))), (160, .v (.int .i64 (v66.length : Int))), (162, .v (.int .i64 (v67.length : Int))), (163, .sl 1 (v68.map (cdL 1 cdI).enc))] hp62 (by kernel_rfl) ?_
      refine RunL.one e_law09_EveningRelabels_ok 0 rfl (op_q (wantedA_none rfl) rfl (q_len (a := .sl 1 (v68.map (cdL 1 cdI).enc)) (by kernel_rfl) (len_sl (el := 31) (by kernel_rfl)))) ?_
      refine RunL.segF (n := 270) e_law09_EveningRelabels_ok 1 [(9, .sl 1 (v1.1.map (cdL 1 (cdL 1 cdI)).enc)), (11, .v (.int .i64 v1.2.2)), (15, .sl 1 (r46.map cdI.enc)), (21, .sl 1 (v52.1.map (cdL 1 (cdL 1 cdI)).enc)), (27, .sl 1 (v65.map (cdL 1 cdI).enc)), (28, .sl 1 (v66.map (cdL 1 cdI).enc)), (29, .sl 1 (v67.map (cdL 1 cdI).enc)), (30, .sl 1 (v68.map (cdL 1 cdI).enc)), (31, .sl 1 (v69.map (cdL 1 cdI).enc)), (32, .sl 1 (v70.map (cdL 1 cdI).enc)), (158, .v (.int .i64 (v65.length : Int))), (160, .v (.int .i64 (v66.length : Int))), (162, .v (.int .i64 (v67.length : Int))), (164, .v (.int .i64 (v68.length : Int))), (165, .sl 1 (v69.map (cdL 1 cdI).enc))] hp62 (by kernel_rfl) ?_
      refine RunL.one e_law09_EveningRelabels_ok 0 rfl (op_q (wantedA_none rfl) rfl (q_len (a := .sl 1 (v69.map (cdL 1 cdI).enc)) (by kernel_rfl) (len_sl (el := 31) (by kernel_rfl)))) ?_
      refine RunL.segF (n := 270) e_law09_EveningRelabels_ok 1 [(9, .sl 1 (v1.1.map (cdL 1 (cdL 1 cdI)).enc)), (11, .v (.int .i64 v1.2.2)), (15, .sl 1 (r46.map cdI.enc)), (21, .sl 1 (v52.1.map (cdL 1 (cdL 1 cdI)).enc)), (27, .sl 1 (v65.map (cdL 1 cdI).enc)), (28, .sl 1 (v66.map (cdL 1 cdI).enc)), (29, .sl 1 (v67.map (cdL 1 cdI).enc)), (30, .sl 1 (v68.map (cdL 1 cdI).enc)), (31, .sl 1 (v69.map (cdL 1 cdI).enc)), (32, .sl 1 (v70.map (cdL 1 cdI).enc)), (158, .v (.int .i64 (v65.length : Int))), (160, .v (.int .i64 (v66.length : Int))), (162, .v (.int .i64 (v67.length : Int))), (164, .v (.int .i64 (v68.length : Int))), (166, .v (.int .i64 (v69.length : Int))), (167, .sl 1 (v70.map (cdL 1 cdI).enc))] hp62 (by kernel_rfl) ?_
      refine RunL.one e_law09_EveningRelabels_ok 0 rfl (op_q (wantedA_none rfl) rfl (q_len (a := .sl 1 (v70.map (cdL 1 cdI).enc)) (by kernel_rfl) (len_sl (el := 31) (by kernel_rfl)))) ?_
      refine RunL.segF (n := 270) e_law09_EveningRelabels_ok 3 [(9, .sl 1 (v1.1.map (cdL 1 (cdL 1 cdI)).enc)), (11, .v (.int .i64 v1.2.2)), (15, .sl 1 (r46.map cdI.enc)), (21, .sl 1 (v52.1.map (cdL 1 (cdL 1 cdI)).enc)), (27, .sl 1 (v65.map (cdL 1 cdI).enc)), (28, .sl 1 (v66.map (cdL 1 cdI).enc)), (29, .sl 1 (v67.map (cdL 1 cdI).enc)), (30, .sl 1 (v68.map (cdL 1 cdI).enc)), (31, .sl 1 (v69.map (cdL 1 cdI).enc)), (32, .sl 1 (v70.map (cdL 1 cdI).enc)), (171, .v (.bool ((mnI (mnI (mnI (mnI (mnI (v65.length : Int) (v66.length : Int)) (v67.length : Int)) (v68.length : Int)) (v69.length : Int)) (v70.length : Int)) != v1.2.2)))] hp62 (by kernel_rfl) ?_
      refine RunL.done rfl (SemY.fr (l' := [(9, .sl 1 (v1.1.map (cdL 1 (cdL 1 cdI)).enc)), (11, .v (.int .i64 v1.2.2)), (15, .sl 1 (r46.map cdI.enc)), (21, .sl 1 (v52.1.map (cdL 1 (cdL 1 cdI)).enc)), (27, .sl 1 (v65.map (cdL 1 cdI).enc)), (28, .sl 1 (v66.map (cdL 1 cdI).enc)), (29, .sl 1 (v67.map (cdL 1 cdI).enc)), (30, .sl 1 (v68.map (cdL 1 cdI).enc)), (31, .sl 1 (v69.map (cdL 1 cdI).enc)), (32, .sl 1 (v70.map (cdL 1 cdI).enc)), (171, .v (.bool ((mnI (mnI (mnI (mnI (mnI (v65.length : Int) (v66.length : Int)) (v67.length : Int)) (v68.length : Int)) (v69.length : Int)) (v70.length : Int)) != v1.2.2)))]) (by kernel_rfl) ?_)
      refine SemY.cond (b := ((mnI (mnI (mnI (mnI (mnI (v65.length : Int) (v66.length : Int)) (v67.length : Int)) (v68.length : Int)) (v69.length : Int)) (v70.length : Int)) != v1.2.2)) (by kernel_rfl) (fun hb71 => ?_) (fun hb71 => ?_)
      · rw [if_pos hb71] at h
        refine SemY.seq ?_
        refine SemY.regionL ?_
        refine RunL.segF (n := 270) e_law09_EveningRelabels_ok 1 [(8, .v (.bool false))] hp62 (by kernel_rfl) ?_
        refine RunL.done rfl (SemY.fr (l' := [(8, .v (.bool false))]) (by kernel_rfl) ?_)
        refine SemY.ret ?_
        have hq := Option.some.inj h; subst hq
        exact ⟨⟨Fr 270 [(8, .v (.bool false))], hp62⟩, WkY.f1, .inr rfl, [.v (.bool false)], (by kernel_rfl), ⟨rfl, hT63⟩⟩
      · rw [if_f hb71] at h
        refine SemY.skip ?_
        refine SemY.seq ?_
        refine SemY.seq ?_
        refine SemY.regionL ?_
        refine RunL.segF (n := 270) e_law09_EveningRelabels_ok 2 [(9, .sl 1 (v1.1.map (cdL 1 (cdL 1 cdI)).enc)), (11, .v (.int .i64 v1.2.2)), (15, .sl 1 (r46.map cdI.enc)), (21, .sl 1 (v52.1.map (cdL 1 (cdL 1 cdI)).enc)), (27, .sl 1 (v65.map (cdL 1 cdI).enc)), (28, .sl 1 (v66.map (cdL 1 cdI).enc)), (29, .sl 1 (v67.map (cdL 1 cdI).enc)), (30, .sl 1 (v68.map (cdL 1 cdI).enc)), (31, .sl 1 (v69.map (cdL 1 cdI).enc)), (32, .sl 1 (v70.map (cdL 1 cdI).enc)), (172, .v (.int .i64 v1.2.2)), (173, .v (.int .i64 0))] hp62 (by kernel_rfl) ?_
        refine RunL.done rfl (SemY.fr (l' := [(9, .sl 1 (v1.1.map (cdL 1 (cdL 1 cdI)).enc)), (11, .v (.int .i64 v1.2.2)), (15, .sl 1 (r46.map cdI.enc)), (21, .sl 1 (v52.1.map (cdL 1 (cdL 1 cdI)).enc)), (27, .sl 1 (v65.map (cdL 1 cdI).enc)), (28, .sl 1 (v66.map (cdL 1 cdI).enc)), (29, .sl 1 (v67.map (cdL 1 cdI).enc)), (30, .sl 1 (v68.map (cdL 1 cdI).enc)), (31, .sl 1 (v69.map (cdL 1 cdI).enc)), (32, .sl 1 (v70.map (cdL 1 cdI).enc)), (172, .v (.int .i64 v1.2.2)), (173, .v (.int .i64 0))]) (by kernel_rfl) ?_)
        refine SemY.block ?_
        refine SemY.loop (n := 100000) ?_
        obtain ⟨r108, hr108, h⟩ := Option.bind_eq_some_iff.1 h
        rcases r108 with w109 | w123
        · try dsimp only at h
          refine SemYN.cutT (SemYN.wk WkY.f1 (law09_EveningRelabels_3_ok v1 r46 v65 v66 v67 v68 v69 v70 v52 _ 0 _ hr108  hp62 hT63)) ?_
          rintro _ ⟨hp110, hT111, rfl⟩
          refine SemY.seq ?_
          obtain ⟨v112, hv112, h⟩ := Option.bind_eq_some_iff.1 h
          obtain ⟨v113, hv113, h⟩ := Option.bind_eq_some_iff.1 h
          obtain ⟨j117, hj117, h⟩ := Option.bind_eq_some_iff.1 h
          refine SemY.regT (A := fun s1 => ∃ (h' : Hp), T h' (L) ∧ s1 = ⟨Fr 270 [(8, .v (.bool j117))], h'⟩) ?_ ?_
          · refine RunL.segF (n := 270) e_law09_EveningRelabels_ok 2 [(9, .sl 1 (v1.1.map (cdL 1 (cdL 1 cdI)).enc)), (11, .v (.int .i64 v1.2.2)), (21, .sl 1 (v52.1.map (cdL 1 (cdL 1 cdI)).enc)), (251, .v (.int .i64 v1.2.2)), (252, .sl 1 (v52.1.map (cdL 1 (cdL 1 cdI)).enc))] hp110 (by kernel_rfl) ?_
            refine RunL.call e_law09_EveningRelabels_ok (fid := 28) (b := v112) (s := cs_evening_Strain) (F := fun a => evening_Strain a.1 a.2.1) (er := er_evening_Strain) (xs := [.v (.int .i64 v1.2.2), .sl 1 (v52.1.map (cdL 1 (cdL 1 cdI)).enc)]) (a := (v1.2.2, v52.1, ())) rfl (wantedA_none rfl) (by kernel_rfl) (by kernel_rfl) (by kernel_rfl) (by kernel_rfl) (Sns.cons (Sn.enc (c := cdI) (v := v1.2.2)) (Sns.cons (Sn.enc (c := (cdL 1 (cdL 1 (cdL 1 cdI)))) (v := v52.1)) Sns.nil)) (.inl (by kernel_rfl)) hv112 ?_
            refine RunL.segF (n := 270) e_law09_EveningRelabels_ok 2 [(9, .sl 1 (v1.1.map (cdL 1 (cdL 1 cdI)).enc)), (11, .v (.int .i64 v1.2.2)), (21, .sl 1 (v52.1.map (cdL 1 (cdL 1 cdI)).enc)), (253, .v (.int .i64 v112)), (254, .v (.int .i64 v1.2.2)), (255, .sl 1 (v1.1.map (cdL 1 (cdL 1 cdI)).enc))] hp110 (by kernel_rfl) ?_
            refine RunL.call e_law09_EveningRelabels_ok (fid := 28) (b := v113) (s := cs_evening_Strain) (F := fun a => evening_Strain a.1 a.2.1) (er := er_evening_Strain) (xs := [.v (.int .i64 v1.2.2), .sl 1 (v1.1.map (cdL 1 (cdL 1 cdI)).enc)]) (a := (v1.2.2, v1.1, ())) rfl (wantedA_none rfl) (by kernel_rfl) (by kernel_rfl) (by kernel_rfl) (by kernel_rfl) (Sns.cons (Sn.enc (c := cdI) (v := v1.2.2)) (Sns.cons (Sn.enc (c := (cdL 1 (cdL 1 (cdL 1 cdI)))) (v := v1.1)) Sns.nil)) (.inl (by kernel_rfl)) hv113 ?_
            refine RunL.segF (n := 270) e_law09_EveningRelabels_ok 2 [(9, .sl 1 (v1.1.map (cdL 1 (cdL 1 cdI)).enc)), (11, .v (.int .i64 v1.2.2)), (21, .sl 1 (v52.1.map (cdL 1 (cdL 1 cdI)).enc)), (258, .v (.bool (v112 == v113)))] hp110 (by kernel_rfl) ?_
            rcases Bool.eq_false_or_eq_true (v112 == v113) with hc121 | hc121
            · rw [if_pos hc121] at hj117
              rw [hc121]
              refine RunL.segF (n := 270) e_law09_EveningRelabels_ok 2 [(9, .sl 1 (v1.1.map (cdL 1 (cdL 1 cdI)).enc)), (11, .v (.int .i64 v1.2.2)), (258, .v (.bool true)), (259, .v (.int .i64 v1.2.2)), (260, .sl 1 (v52.1.map (cdL 1 (cdL 1 cdI)).enc))] hp110 (by kernel_rfl) ?_
              obtain ⟨v114, hv114, hj117⟩ := Option.bind_eq_some_iff.1 hj117
              refine RunL.call e_law09_EveningRelabels_ok (fid := 33) (b := v114) (s := cs_evening_Most) (F := fun a => evening_Most a.1 a.2.1) (er := er_evening_Most) (xs := [.v (.int .i64 v1.2.2), .sl 1 (v52.1.map (cdL 1 (cdL 1 cdI)).enc)]) (a := (v1.2.2, v52.1, ())) rfl (by kernel_rfl) (by kernel_rfl) (by kernel_rfl) (by kernel_rfl) (by kernel_rfl) (Sns.cons (Sn.enc (c := cdI) (v := v1.2.2)) (Sns.cons (Sn.enc (c := (cdL 1 (cdL 1 (cdL 1 cdI)))) (v := v52.1)) Sns.nil)) (.inl (by kernel_rfl)) hv114 ?_
              refine RunL.segF (n := 270) e_law09_EveningRelabels_ok 2 [(258, .v (.bool true)), (261, .v (.int .i64 v114)), (262, .v (.int .i64 v1.2.2)), (263, .sl 1 (v1.1.map (cdL 1 (cdL 1 cdI)).enc))] hp110 (by kernel_rfl) ?_
              obtain ⟨v115, hv115, hj117⟩ := Option.bind_eq_some_iff.1 hj117
              refine RunL.call e_law09_EveningRelabels_ok (fid := 33) (b := v115) (s := cs_evening_Most) (F := fun a => evening_Most a.1 a.2.1) (er := er_evening_Most) (xs := [.v (.int .i64 v1.2.2), .sl 1 (v1.1.map (cdL 1 (cdL 1 cdI)).enc)]) (a := (v1.2.2, v1.1, ())) rfl (by kernel_rfl) (by kernel_rfl) (by kernel_rfl) (by kernel_rfl) (by kernel_rfl) (Sns.cons (Sn.enc (c := cdI) (v := v1.2.2)) (Sns.cons (Sn.enc (c := (cdL 1 (cdL 1 (cdL 1 cdI)))) (v := v1.1)) Sns.nil)) (.inl (by kernel_rfl)) hv115 ?_
              refine RunL.segF (n := 270) e_law09_EveningRelabels_ok 3 [(267, .v (.bool (v114 == v115)))] hp110 (by kernel_rfl) ?_
              rcases Bool.eq_false_or_eq_true (v114 == v115) with hc122 | hc122
              · rw [if_pos hc122] at hj117
                rw [hc122]
                obtain ⟨v116, hv116, hj117⟩ := Option.bind_eq_some_iff.1 hj117
                refine RunL.call e_law09_EveningRelabels_ok (fid := 13) (b := v116) (s := cs_law09_awake) (F := fun a => law09_awake ) (er := er_law09_awake) (xs := []) (a := (())) rfl (by kernel_rfl) (by kernel_rfl) (by kernel_rfl) (by kernel_rfl) (by kernel_rfl) Sns.nil (.inl (by kernel_rfl)) hv116 ?_
                refine RunL.segF (n := 270) e_law09_EveningRelabels_ok 2 [(8, .v (.bool v116))] hp110 (by kernel_rfl) ?_
                have hq := Option.some.inj hj117; subst hq
                exact RunL.done rfl ⟨_, ⟨hp110, hT111, rfl⟩, WkY.f1⟩
              · rw [if_f hc122] at hj117
                rw [hc122]
                refine RunL.segF (n := 270) e_law09_EveningRelabels_ok 3 [(8, .v (.bool false))] hp110 (by kernel_rfl) ?_
                have hq := Option.some.inj hj117; subst hq
                exact RunL.done rfl ⟨_, ⟨hp110, hT111, rfl⟩, WkY.f1⟩
            · rw [if_f hc121] at hj117
              rw [hc121]
              refine RunL.segF (n := 270) e_law09_EveningRelabels_ok 12 [(8, .v (.bool false))] hp110 (by kernel_rfl) ?_
              have hq := Option.some.inj hj117; subst hq
              exact RunL.done rfl ⟨_, ⟨hp110, hT111, rfl⟩, WkY.f1⟩
          rintro _ ⟨hp119, hT120, rfl⟩
          refine SemY.ret ?_
          have hq := Option.some.inj h; subst hq
          exact ⟨⟨Fr 270 [(8, .v (.bool j117))], hp119⟩, WkY.f1, .inr rfl, [.v (.bool j117)], (by kernel_rfl), ⟨rfl, hT120⟩⟩
        · try dsimp only at h
          refine SemYN.cutT (SemYN.wk WkY.f1 (law09_EveningRelabels_3_ok v1 r46 v65 v66 v67 v68 v69 v70 v52 _ 0 _ hr108  hp62 hT63)) ?_
          rintro _ ⟨hp124, hT125, rfl⟩
          have hq := Option.some.inj h; subst hq
          exact ⟨⟨Fr 270 [(8, .v (.bool false))], hp124⟩, WkY.f1, .inr rfl, [.v (.bool false)], (by kernel_rfl), ⟨rfl, hT125⟩⟩
def cs_law09_EveningRelabels : Cs ((List Int) × (List (List (Int × Int))) × (List (List (Int × Int))) × (List (Int × Int)) × Unit) := (csC (cdL 1 (cdK .u8)) (csC (cdL 1 (cdL 2 (cdG2 (cdK .u8) (cdK .u8) (fun _ => rfl) (fun _ => rfl)))) (csC (cdL 1 (cdL 2 (cdG2 (cdK .u8) (cdK .u8) (fun _ => rfl) (fun _ => rfl)))) (csC (cdL 2 (cdG2 (cdK .u8) (cdK .u8) (fun _ => rfl) (fun _ => rfl))) csN))))
def er_law09_EveningRelabels (r : Bool) : AV := cdB.enc r
def t_law09_EveningRelabels : List AV → Option AV := told cs_law09_EveningRelabels (fun a => law09_EveningRelabels a.1 a.2.1 a.2.2.1 a.2.2.2.1) er_law09_EveningRelabels
theorem x_law09_EveningRelabels : XOk 8 t_law09_EveningRelabels := by
  refine EnvOk.x (E := e_law09_EveningRelabels) (contract_ok e_law09_EveningRelabels_ok (fn := Tryd.f8) (c := cb_law09_EveningRelabels) ?h1 ?h2 ⟨Tryd.call8⟩ cs_law09_EveningRelabels (fun a => law09_EveningRelabels a.1 a.2.1 a.2.2.1 a.2.2.2.1) er_law09_EveningRelabels (fun a => (by show 4 ≤ 270; decide)) ?h3 ?h4) rfl rfl
  case h1 => kernel_rfl
  case h2 => kernel_rfl
  case h3 => intro b; kernel_rfl
  case h4 =>
    intro a b h
    refine Sem.mono (Sem.ofY (law09_EveningRelabels_sem (L := []) (hp := []) a.1 a.2.1 a.2.2.1 a.2.2.2.1 b h T.nil)) fun e s' hs => ?_
    obtain ⟨h1, ys, h2, h3, -⟩ := hs
    exact ⟨h1, ys, h2, h3⟩
def in64 (n : Int) : Prop := -9223372036854775808 ≤ n ∧ n ≤ 9223372036854775807
theorem wr_i {n : Int} (h1 : -9223372036854775808 ≤ n) (h2 : n ≤ 9223372036854775807) : wr .i64 n = n := by
  show (if _ then n else _) = n
  rw [if_pos ⟨h1, h2⟩]
theorem idx_app {α : Type} (pre : List α) (v : α) (r : List α) : idx (pre ++ v :: r) (pre.length : Int) = some v := by
  unfold idx
  rw [if_pos (by omega)]
  simp
theorem idx_lt {α : Type} {xs : List α} {i : Nat} (h : i < xs.length) : idx xs (i : Int) = some xs[i] := by
  unfold idx
  rw [if_pos (by omega)]
  simp [h]
theorem snoc_len {α : Type} (pre : List α) (v : α) : ((pre.length : Int) + 1) = ((pre ++ [v]).length : Int) := by simp
theorem snoc_app {α : Type} (pre : List α) (v : α) (r : List α) : pre ++ v :: r = (pre ++ [v]) ++ r := by simp
theorem wr_snoc {α : Type} (pre : List α) (v : α) (r : List α) (h : (pre ++ v :: r).length ≤ 1000000000) : wr .i64 ((pre.length : Int) + 1) = ((pre ++ [v]).length : Int) := by
  simp at h
  rw [wr_i (by omega) (by omega)]; simp
theorem lt_len {α : Type} (pre : List α) (v : α) (r : List α) : decide ((pre.length : Int) < ((pre ++ v :: r).length : Int)) = true := by
  simp; omega
theorem nlt_len {α : Type} (pre : List α) : decide ((pre.length : Int) < ((pre ++ []).length : Int)) = false := by simp
theorem capOk_le {b n : Nat} (hb : b ≤ 1000) (h : n ≤ 1000000000) : capOk b n = true := by
  have h1 : n * b ≤ 1000000000 * 1000 := Nat.mul_le_mul h hb
  unfold capOk
  rw [Bool.and_eq_true]
  exact ⟨Nat.ble_eq_true_of_le (by omega), Nat.ble_eq_true_of_le (by omega)⟩
theorem tdiv2 (n : Int) (h : 0 ≤ n) : n.tdiv 2 = n / 2 := Int.tdiv_eq_ediv_of_nonneg h
/- trestle/trestleref09.times -/
def ref09_times_j3 (_x0 : (List (List Int))) (x1 : Int) (_c2 : Int) (c4 : Int) (_c5 : Int) (v9 : Int) : Option ((Int)) :=
  if (v9 == x1) = true then
  some (wr .i64 (c4 + 1))
  else
  some c4
def ref09_times_2 (x0 : (List (List Int))) (x1 : Int) (c2 : Int) : Nat → Int → Int → Option ((Int))
  | 0, _, _ => none
  | f + 1, c4, c5 =>
    (idx x0 c2).bind fun v6 =>
    if (decide (c5 < (v6.length : Int))) = true then
    (idx x0 c2).bind fun v8 =>
    (idx v8 c5).bind fun v9 =>
    (ref09_times_j3 x0 x1 c2 c4 c5 v9).bind fun r12 =>
    ref09_times_2 x0 x1 c2 f r12 (wr .i64 (c5 + 1))
    else
    some c4
def ref09_times_1 (x0 : (List (List Int))) (x1 : Int) : Nat → Int → Int → Option ((Int))
  | 0, _, _ => none
  | f + 1, c1, c2 =>
    if (decide (c2 < (x0.length : Int))) = true then
    (ref09_times_2 x0 x1 c2 100000 c1 0).bind fun r14 =>
    ref09_times_1 x0 x1 f r14 (wr .i64 (c2 + 1))
    else
    some c1
def ref09_times (x0 : (List (List Int))) (x1 : Int) : Option (Int) :=
  (ref09_times_1 x0 x1 100000 0 0).bind fun r16 =>
  some r16
/- trestle/trestleref09.CheckEvening -/
def ref09_CheckEvening_1 (x0 : Int) (x1 : (List Int)) (x2 : (List (List Int))) : Nat → Int → Option ((Unit) ⊕ (Int))
  | 0, _ => none
  | f + 1, c4 =>
    if (decide (c4 < (x2.length : Int))) = true then
    (idx x2 c4).bind fun v6 =>
    (if ((v6.length : Int) == 0) = true then some true else if (decide ((x1.length : Int) > 0)) = true then (idx x1 c4).bind fun v7 =>
    (idx x2 c4).bind fun v8 =>
    some (v7 != (v8.length : Int)) else some false).bind fun j10 =>
    if j10 = true then
    some (.inr 2)
    else
    ref09_CheckEvening_1 x0 x1 x2 f (wr .i64 (c4 + 1))
    else
    some (.inl ())
def ref09_CheckEvening_3 (x0 : Int) (x2 : (List (List Int))) (c17 : Int) : Nat → Int → Option ((Unit) ⊕ (Int))
  | 0, _ => none
  | f + 1, c19 =>
    (idx x2 c17).bind fun v20 =>
    if (decide (c19 < (v20.length : Int))) = true then
    (idx x2 c17).bind fun v22 =>
    (idx v22 c19).bind fun v23 =>
    (if (decide (v23 < 0)) = true then some true else (idx x2 c17).bind fun v24 =>
    (idx v24 c19).bind fun v25 =>
    some (decide (v25 ≥ x0))).bind fun j27 =>
    if j27 = true then
    some (.inr 6)
    else
    ref09_CheckEvening_3 x0 x2 c17 f (wr .i64 (c19 + 1))
    else
    some (.inl ())
def ref09_CheckEvening_2 (x0 : Int) (x2 : (List (List Int))) : Nat → Int → Option ((Unit) ⊕ (Int))
  | 0, _ => none
  | f + 1, c17 =>
    if (decide (c17 < (x2.length : Int))) = true then
    (ref09_CheckEvening_3 x0 x2 c17 100000 0).bind fun r31 =>
    match r31 with
    | (.inl _w32) =>
      ref09_CheckEvening_2 x0 x2 f (wr .i64 (c17 + 1))
    | (.inr w33) =>
      some (.inr w33)
    else
    some (.inl ())
def ref09_CheckEvening_4 (x0 : Int) (x2 : (List (List Int))) : Nat → Int → Option ((Unit) ⊕ (Int))
  | 0, _ => none
  | f + 1, c37 =>
    if (decide (c37 < x0)) = true then
    (ref09_times x2 c37).bind fun v39 =>
    if (decide (v39 > 1)) = true then
    some (.inr 5)
    else
    ref09_CheckEvening_4 x0 x2 f (wr .i64 (c37 + 1))
    else
    some (.inl ())
def ref09_CheckEvening_5 (x0 : Int) (x2 : (List (List Int))) : Nat → Int → Option ((Unit) ⊕ (Int))
  | 0, _ => none
  | f + 1, c44 =>
    if (decide (c44 < x0)) = true then
    (ref09_times x2 c44).bind fun v46 =>
    if (v46 == 0) = true then
    some (.inr 2)
    else
    ref09_CheckEvening_5 x0 x2 f (wr .i64 (c44 + 1))
    else
    some (.inl ())
def ref09_CheckEvening (x0 : Int) (x1 : (List Int)) (x2 : (List (List Int))) : Option (Int) :=
  (if (decide ((x1.length : Int) > 0)) = true then some ((x1.length : Int) != (x2.length : Int)) else some false).bind fun j2 =>
  if j2 = true then
  some 2
  else
  (ref09_CheckEvening_1 x0 x1 x2 100000 0).bind fun r15 =>
  match r15 with
  | (.inl _w16) =>
    (ref09_CheckEvening_2 x0 x2 100000 0).bind fun r35 =>
    match r35 with
    | (.inl _w36) =>
      (ref09_CheckEvening_4 x0 x2 100000 0).bind fun r42 =>
      match r42 with
      | (.inl _w43) =>
        (ref09_CheckEvening_5 x0 x2 100000 0).bind fun r49 =>
        match r49 with
        | (.inl _w50) =>
          some 0
        | (.inr w51) =>
          some w51
      | (.inr w52) =>
        some w52
    | (.inr w53) =>
      some w53
  | (.inr w54) =>
    some w54
/- trestle/trestleref09.Fit -/
def ref09_Fit_1 (x0 : Int) (x1 : (List Int)) : Nat → Int → Int → Option ((Int) ⊕ (Bool))
  | 0, _, _ => none
  | f + 1, c1, c2 =>
    if (decide (c2 < (x1.length : Int))) = true then
    (idx x1 c2).bind fun v4 =>
    (if (decide (v4 < 1)) = true then some true else (idx x1 c2).bind fun v5 =>
    if (decide (v5 > 64)) = true then some true else some (decide (c1 > 64))).bind fun j7 =>
    if j7 = true then
    some (.inr false)
    else
    (idx x1 c2).bind fun v10 =>
    ref09_Fit_1 x0 x1 f (wr .i64 (c1 + v10)) (wr .i64 (c2 + 1))
    else
    some (.inl c1)
def ref09_Fit (x0 : Int) (x1 : (List Int)) : Option (Bool) :=
  (ref09_Fit_1 x0 x1 100000 0 0).bind fun r14 =>
  match r14 with
  | (.inl w15) =>
    (if (decide (x0 ≥ 1)) = true then if (decide (x0 ≤ 64)) = true then some (w15 == x0) else some false else some false).bind fun j17 =>
    some j17
  | (.inr w20) =>
    some w20
/- trestle/trestleref09.Check -/
def ref09_Check_1 (x0 : Int) (x1 : (List Int)) (x2 : (List (List (List Int)))) : Nat → Int → Option ((Unit) ⊕ (Int × Int))
  | 0, _ => none
  | f + 1, c6 =>
    if (decide (c6 < (x2.length : Int))) = true then
    (idx x2 c6).bind fun v8 =>
    (ref09_CheckEvening x0 x1 v8).bind fun v9 =>
    if (v9 != 0) = true then
    some (.inr (c6, v9))
    else
    ref09_Check_1 x0 x1 x2 f (wr .i64 (c6 + 1))
    else
    some (.inl ())
def ref09_Check (x0 : Int) (x1 : (List Int)) (x2 : (List (List (List Int)))) : Option (Int × Int) :=
  (if (decide (x0 < 1)) = true then some true else if (decide (x0 > 64)) = true then some true else if (decide ((x1.length : Int) > 0)) = true then (ref09_Fit x0 x1).bind fun v1 =>
  some (!v1) else some false).bind fun j3 =>
  if j3 = true then
  some (0, 90)
  else
  if (decide ((x2.length : Int) > 64)) = true then
  some (0, 7)
  else
  (ref09_Check_1 x0 x1 x2 100000 0).bind fun r13 =>
  match r13 with
  | (.inl _w14) =>
    some (0, 0)
  | (.inr w15) =>
    some (w15.1, w15.2)
/- slices.Equal[[]int,int] -/
/- trestle/evening.met -/
def sumL : List Int → Int
  | [] => 0
  | v :: r => v + sumL r
/-- Do sizes fit? -/
def fitP (n : Int) (xs : List Int) : Bool := xs.all (fun v => decide (1 ≤ v)) && decide (sumL xs = n) && decide (1 ≤ n) && decide (n ≤ 64)
def fitL : Int → List Int → Int ⊕ Bool
  | c, [] => .inl c
  | c, v :: r => if v < 1 ∨ v > c then .inr false else fitL (c - v) r
theorem fit_1 (n : Int) (xs : List Int) (hxs : xs.length ≤ 1000) : ∀ (r pre : List Int) (c : Int) (f : Nat), xs = pre ++ r → r.length < f → -9223372036854775808 ≤ c → c ≤ 9223372036854775807 → evening_fit_1 n xs f c pre.length = some (fitL c r)
  | [], pre, c, f + 1, h, _, _, _ => by
    subst h
    unfold evening_fit_1
    rw [nlt_len]
    rfl
  | v :: r, pre, c, f + 1, h, hf, h1, h2 => by
    subst h
    unfold evening_fit_1
    rw [if_pos (lt_len pre v r), idx_app]
    simp only [Option.bind_some]
    rw [wr_snoc pre v r (by omega)]
    unfold fitL
    by_cases ha : v < 1
    · simp [ha]
    · by_cases hb : v > c
      · simp [ha, hb]
      · simp only [ha, hb, decide_false, Bool.false_eq_true, if_false, Option.bind_some, false_or]
        rw [wr_i (by omega) (by omega)]
        rw [snoc_app]
        exact fit_1 n _ (by rw [← snoc_app]; exact hxs) r (pre ++ [v]) (c - v) f rfl (by simp at hf; omega) (by omega) (by omega)
theorem fitL_eq : ∀ (xs : List Int) (c : Int), (∃ d, fitL c xs = .inl d ∧ d = c - sumL xs ∧ (xs.all fun v => decide (1 ≤ v)) = true ∧ (0 ≤ c → 0 ≤ d)) ∨ (fitL c xs = .inr false ∧ ((xs.all fun v => decide (1 ≤ v)) = true → c < sumL xs))
  | [], c => .inl ⟨c, rfl, by simp [sumL], rfl, fun h => h⟩
  | v :: r, c => by
    unfold fitL
    by_cases hv : v < 1 ∨ v > c
    · rw [if_pos hv]
      refine .inr ⟨rfl, fun h => ?_⟩
      simp only [List.all_cons, Bool.and_eq_true, decide_eq_true_eq] at h
      have : ∀ (l : List Int), (l.all fun v => decide (1 ≤ v)) = true → 0 ≤ sumL l := by
        intro l
        induction l with
        | nil => intro _; simp [sumL]
        | cons a l ih => intro h; simp only [List.all_cons, Bool.and_eq_true, decide_eq_true_eq] at h; have := ih h.2; simp only [sumL]; omega
      have := this r h.2
      simp only [sumL]
      omega
    · rw [if_neg hv]
      rcases fitL_eq r (c - v) with ⟨d, h1, h2, h3, h4⟩ | ⟨h1, h2⟩
      · refine .inl ⟨d, h1, by simp only [sumL]; omega, ?_, fun h => h4 (by omega)⟩
        simp only [List.all_cons, Bool.and_eq_true, decide_eq_true_eq]
        exact ⟨by omega, h3⟩
      · refine .inr ⟨h1, fun h => ?_⟩
        simp only [List.all_cons, Bool.and_eq_true, decide_eq_true_eq] at h
        have := h2 h.2
        simp only [sumL]
        omega
theorem evening_fit_eq (n : Int) (hn : in64 n) (xs : List Int) (hxs : xs.length ≤ 1000) : evening_fit n xs = some (fitP n xs) := by
  unfold evening_fit
  rw [show (0 : Int) = (([] : List Int).length : Int) from rfl, fit_1 n xs hxs xs [] n 100000 rfl (by omega) hn.1 hn.2]
  simp only [Option.bind_some]
  rcases fitL_eq xs n with ⟨d, h1, h2, h3, h4⟩ | ⟨h1, h2⟩
  · rw [h1]
    simp only [evening_guests]
    unfold fitP
    rw [h3]
    by_cases ha : 1 ≤ n
    · by_cases hb : n ≤ 64
      · have : (d == 0) = decide (sumL xs = n) := by
          by_cases hd : d = 0
          · rw [hd]; simp; omega
          · have : ¬ sumL xs = n := by omega
            simp [this, hd]
        simp [ha, hb, this]
      · simp [ha, hb]
    · simp [ha]
  · rw [h1]
    simp only
    unfold fitP
    cases hall : xs.all (fun v => decide (1 ≤ v)) with
    | false => simp
    | true => have := h2 hall; have : ¬ sumL xs = n := by omega
              simp [this]
def fitR : Int → List Int → Int ⊕ Bool
  | c, [] => .inl c
  | c, v :: r => if v < 1 ∨ v > 64 ∨ c > 64 then .inr false else fitR (c + v) r
theorem Fit_1 (n : Int) (xs : List Int) (hxs : xs.length ≤ 1000) : ∀ (r pre : List Int) (c : Int) (f : Nat), xs = pre ++ r → r.length < f → 0 ≤ c → ref09_Fit_1 n xs f c pre.length = some (fitR c r)
  | [], pre, c, f + 1, h, _, _ => by
    subst h
    unfold ref09_Fit_1
    rw [nlt_len]
    rfl
  | v :: r, pre, c, f + 1, h, hf, h1 => by
    subst h
    unfold ref09_Fit_1
    rw [if_pos (lt_len pre v r), idx_app]
    simp only [Option.bind_some]
    rw [wr_snoc pre v r (by omega)]
    unfold fitR
    by_cases ha : v < 1
    · simp [ha]
    · by_cases hb : v > 64
      · simp [ha, hb]
      · by_cases hc : c > 64
        · simp [ha, hb, hc]
        · simp only [ha, hb, hc, decide_false, Bool.false_eq_true, if_false, Option.bind_some, false_or]
          rw [wr_i (by omega) (by omega)]
          rw [snoc_app]
          exact Fit_1 n _ (by rw [← snoc_app]; exact hxs) r (pre ++ [v]) (c + v) f rfl (by simp at hf; omega) (by omega)
theorem sum_nn : ∀ (l : List Int), (l.all fun v => decide (1 ≤ v)) = true → 0 ≤ sumL l
  | [], _ => by simp [sumL]
  | a :: l, h => by
    simp only [List.all_cons, Bool.and_eq_true, decide_eq_true_eq] at h
    have := sum_nn l h.2
    simp only [sumL]; omega
theorem fitR_eq : ∀ (xs : List Int) (c : Int), 0 ≤ c → (∃ d, fitR c xs = .inl d ∧ d = c + sumL xs ∧ (xs.all fun v => decide (1 ≤ v)) = true) ∨ (fitR c xs = .inr false ∧ ((xs.all fun v => decide (1 ≤ v)) = true → 64 < c + sumL xs))
  | [], c, _ => .inl ⟨c, rfl, by simp [sumL], rfl⟩
  | v :: r, c, h0 => by
    unfold fitR
    by_cases hv : v < 1 ∨ v > 64 ∨ c > 64
    · rw [if_pos hv]
      refine .inr ⟨rfl, fun h => ?_⟩
      simp only [List.all_cons, Bool.and_eq_true, decide_eq_true_eq] at h
      have := sum_nn r h.2
      simp only [sumL]
      omega
    · rw [if_neg hv]
      rcases fitR_eq r (c + v) (by omega) with ⟨d, h1, h2, h3⟩ | ⟨h1, h2⟩
      · refine .inl ⟨d, h1, by simp only [sumL]; omega, ?_⟩
        simp only [List.all_cons, Bool.and_eq_true, decide_eq_true_eq]
        exact ⟨by omega, h3⟩
      · refine .inr ⟨h1, fun h => ?_⟩
        simp only [List.all_cons, Bool.and_eq_true, decide_eq_true_eq] at h
        have := h2 h.2
        simp only [sumL]
        omega
theorem ref09_Fit_eq (n : Int) (xs : List Int) (hxs : xs.length ≤ 1000) : ref09_Fit n xs = some (fitP n xs) := by
  unfold ref09_Fit
  have e0 := Fit_1 n xs hxs xs [] 0 100000 rfl (by omega) (by omega)
  rw [show ((([] : List Int).length : Nat) : Int) = 0 from rfl] at e0
  rw [e0]
  simp only [Option.bind_some]
  rcases fitR_eq xs 0 (by omega) with ⟨d, h1, h2, h3⟩ | ⟨h1, h2⟩
  · rw [h1]
    unfold fitP
    rw [h3]
    by_cases ha : 1 ≤ n
    · by_cases hb : n ≤ 64
      · have : (d == n) = decide (sumL xs = n) := by
          by_cases hd : d = n
          · rw [hd]; simp; omega
          · have : ¬ sumL xs = n := by omega
            simp [this, hd]
        simp [ha, hb, this]
      · simp [ha, hb]
    · simp [ha]
  · rw [h1]
    unfold fitP
    cases hall : xs.all (fun v => decide (1 ≤ v)) with
    | false => simp
    | true =>
      have := h2 hall
      by_cases hs : sumL xs = n
      · have : ¬ n ≤ 64 := by omega
        simp [hs, this]
      · simp [hs]
theorem clone_self (xs : List Int) (hxs : xs.length ≤ 50000) : slices_Clone_L_int xs = some xs := by
  unfold slices_Clone_L_int
  rw [if_pos (capOk_le (by omega) (by omega))]
/-- How often a number sits on an evening. -/
theorem times_2 (ev : List (List Int)) (x c2 : Int) (t : List Int) (ht : idx ev c2 = some t) (hl : t.length ≤ 50000) : ∀ (r pre : List Int) (f : Nat) (c : Int), t = pre ++ r → r.length < f → 0 ≤ c → c + r.length ≤ 1000000 → ref09_times_2 ev x c2 f c pre.length = some (c + (r.count x : Int))
  | [], pre, f + 1, c, h, _, _, _ => by
    unfold ref09_times_2
    rw [ht]
    subst h
    simp only [Option.bind_some]
    rw [nlt_len]
    simp
  | v :: r, pre, f + 1, c, h, hf, h0, h1 => by
    unfold ref09_times_2
    rw [ht]
    simp only [List.length_cons] at h1
    by_cases hv : v = x
    · have ih := times_2 ev x c2 t ht hl r (pre ++ [v]) f (c + 1) (by rw [h]; simp) (by simp at hf; omega) (by omega) (by omega)
      subst h hv
      simp only [Option.bind_some]
      rw [if_pos (lt_len pre v r), idx_app]
      simp only [Option.bind_some, ref09_times_j3, beq_self_eq_true, if_true]
      rw [wr_snoc pre v r (by omega), wr_i (by omega) (by omega), ih, List.count_cons_self]
      congr 1; omega
    · have ih := times_2 ev x c2 t ht hl r (pre ++ [v]) f c (by rw [h]; simp) (by simp at hf; omega) (by omega) (by omega)
      have hb : (v == x) = false := by simpa using hv
      subst h
      simp only [Option.bind_some]
      rw [if_pos (lt_len pre v r), idx_app]
      simp only [Option.bind_some, ref09_times_j3, hb, Bool.false_eq_true, if_false]
      rw [wr_snoc pre v r (by omega), ih, List.count_cons_of_ne hv]
theorem len_mem {α : Type} : ∀ {ev : List (List α)} {t : List α}, t ∈ ev → t.length ≤ ev.flatten.length
  | a :: ev, t, h => by
    simp only [List.flatten_cons, List.length_append]
    rcases List.mem_cons.1 h with rfl | h
    · omega
    · have := len_mem h; omega
theorem times_eq (ev : List (List Int)) (x : Int) (hl : ev.length ≤ 50000) (hfl : ev.flatten.length ≤ 50000) : ref09_times ev x = some (ev.flatten.count x : Int) := by
  unfold ref09_times
  have hm : ∀ t ∈ ev, t.length ≤ 50000 := fun t ht => by
    have := len_mem ht; omega
  have key : ∀ (r pre : List (List Int)) (f : Nat) (c : Int), ev = pre ++ r → r.length < f → 0 ≤ c → c + r.flatten.length ≤ 50000 → ref09_times_1 ev x f c pre.length = some (c + (r.flatten.count x : Int)) := by
    intro r
    induction r with
    | nil =>
      intro pre f c h hf h0 h1
      obtain ⟨f, rfl⟩ : ∃ g, f = g + 1 := ⟨f - 1, by simp at hf; omega⟩
      subst h
      unfold ref09_times_1
      rw [nlt_len]
      simp
    | cons t r ih =>
      intro pre f c h hf h0 h1
      obtain ⟨f, rfl⟩ : ∃ g, f = g + 1 := ⟨f - 1, by simp at hf; omega⟩
      have ht := hm t (by rw [h]; simp)
      subst h
      unfold ref09_times_1
      rw [if_pos (lt_len pre t r)]
      simp only [List.flatten_cons, List.length_append] at h1
      have hc : (t.count x) ≤ t.length := List.count_le_length
      have h2 := times_2 (pre ++ t :: r) x pre.length t (idx_app pre t r) (by omega) t [] 100000 c rfl (by omega) h0 (by omega)
      rw [show ((([] : List Int).length : Nat) : Int) = 0 from rfl] at h2
      rw [h2]
      simp only [Option.bind_some]
      simp at hl
      rw [wr_snoc pre t r (by simp; omega), ih (pre ++ [t]) f _ (by simp) (by simp at hf; omega) (by omega) (by omega)]
      simp only [List.flatten_cons, List.count_append]
      congr 1; omega
  have := key ev [] 100000 0 rfl (by omega) (by omega) (by omega)
  rw [show ((([] : List (List Int)).length : Nat) : Int) = 0 from rfl, Int.zero_add] at this
  rw [this]
  rfl
/-- Is the shape of an evening wrong? -/
def sbad (sizes : List Int) : List (List Int) → Int → Bool
  | [], _ => false
  | t :: r, i => ((t.length : Int) == 0) || (decide ((sizes.length : Int) > 0) && (match idx sizes i with | some v => ((t.length : Int) != v) | none => false)) || sbad sizes r (i + 1)
abbrev CSt := Int × Bool × Bool × List Bool
def stepC (n : Int) (s : CSt) (v : Int) : CSt := if v < 0 ∨ v ≥ n then (s.1, s.2.1, true, s.2.2.2) else ((if (s.2.2.2)[v.toNat]?.getD false then s.1 else s.1 + 1), s.2.1 || (s.2.2.2)[v.toNat]?.getD false, s.2.2.1, s.2.2.2.set v.toNat true)
theorem stepC_len (n : Int) (s : CSt) (v : Int) : (stepC n s v).2.2.2.length = s.2.2.2.length := by
  unfold stepC; split <;> simp
theorem stepC_le (n : Int) (s : CSt) (v : Int) : (stepC n s v).1 ≤ s.1 + 1 ∧ s.1 ≤ (stepC n s v).1 := by
  unfold stepC; split
  · show s.1 ≤ s.1 + 1 ∧ s.1 ≤ s.1; omega
  · simp only; split <;> omega
theorem check_2 (n : Int) (sizes : List Int) (ev : List (List Int)) (c9 : Int) (hn0 : 0 ≤ n) : ∀ (r pre : List Int) (s : CSt) (f : Nat) (t : List Int), t = pre ++ r → t.length ≤ 50000 → r.length < f → s.2.2.2.length = n.toNat → 0 ≤ s.1 → s.1 ≤ 1000000 + (pre.length : Int) → evening_check_2 n sizes ev c9 t f s.1 s.2.1 s.2.2.1 s.2.2.2 pre.length = some (r.foldl (stepC n) s)
  | [], pre, s, f + 1, t, ht, _, _, _, _, _ => by
    subst ht
    unfold evening_check_2
    rw [nlt_len]
    rfl
  | v :: r, pre, s, f + 1, t, ht, hl, hf, hs, h0, h1 => by
    obtain ⟨m, tw, un, seen⟩ := s
    simp only at hs h0 h1 ⊢
    have ih := check_2 n sizes ev c9 hn0 r (pre ++ [v]) (stepC n (m, tw, un, seen) v) f t (by rw [ht]; simp) hl (by simp at hf; omega) (by rw [stepC_len]; exact hs) (by have := (stepC_le n (m, tw, un, seen) v).2; simp only at this; omega) (by have := (stepC_le n (m, tw, un, seen) v).1; simp only at this; simp; omega)
    subst ht
    unfold evening_check_2
    rw [if_pos (lt_len pre v r), idx_app]
    simp only [Option.bind_some]
    rw [wr_snoc pre v r (by omega)]
    rw [List.foldl_cons]
    by_cases hv : v < 0 ∨ v ≥ n
    · have hst : stepC n (m, tw, un, seen) v = (m, tw, true, seen) := by unfold stepC; rw [if_pos hv]
      rw [hst] at ih ⊢
      by_cases hv0 : v < 0
      · simp only [hv0, decide_true, if_true, Option.bind_some]
        exact ih
      · have : v ≥ n := by omega
        simp only [hv0, this, decide_false, decide_true, Bool.false_eq_true, if_false, if_true, Option.bind_some]
        exact ih
    · have hv0 : ¬ v < 0 := by omega
      have hv1 : ¬ v ≥ n := by omega
      have hlt : v.toNat < seen.length := by omega
      have hidx : idx seen v = some (seen[v.toNat]'hlt) := by
        unfold idx; rw [if_pos (by omega)]; exact List.getElem?_eq_getElem hlt
      have hg : seen[v.toNat]?.getD false = seen[v.toNat]'hlt := by rw [List.getElem?_eq_getElem hlt]; rfl
      have hst : stepC n (m, tw, un, seen) v = ((if (seen[v.toNat]'hlt) then m else m + 1), tw || (seen[v.toNat]'hlt), un, seen.set v.toNat true) := by
        unfold stepC; rw [if_neg hv]; simp only [hg]
      rw [hst] at ih ⊢
      have hm1 : wr .i64 (m + 1) = m + 1 := wr_i (by omega) (by simp at hl; omega)
      simp only [hv0, hv1, decide_false, Bool.false_eq_true, if_false, Option.bind_some, hidx, evening_check_j3]
      cases htw : tw <;> cases hse : seen[v.toNat]'hlt <;> simp only [htw, hse, Bool.false_eq_true, if_false, if_true, Option.bind_some, Bool.not_true, Bool.not_false, hidx, hm1, Bool.or_true, Bool.or_false] at ih ⊢ <;> exact ih
theorem shape_j (sizes : List Int) (_ev : List (List Int)) (t : List Int) (i : Nat) (hs : (sizes.length : Int) > 0 → i < sizes.length) {β : Type} (b : β) : (if ((t.length : Int) == 0) = true then some (b, true) else if (decide ((sizes.length : Int) > 0)) = true then (idx sizes i).bind fun v12 => some (b, ((t.length : Int) != v12)) else some (b, false)) = some (b, ((t.length : Int) == 0) || (decide ((sizes.length : Int) > 0) && (match idx sizes i with | some v => ((t.length : Int) != v) | none => false))) := by
  cases h1 : ((t.length : Int) == 0) with
  | true => simp
  | false =>
    by_cases h2 : (sizes.length : Int) > 0
    · have := hs h2
      rw [idx_lt this]
      have h3 : 0 < sizes.length := by omega
      simp [h3]
    · have h3 : ¬ 0 < sizes.length := by omega
      simp [h3]
theorem check_1 (n : Int) (sizes : List Int) (ev : List (List Int)) (hn0 : 0 ≤ n) (hl : ev.length ≤ 50000) (hsz : (sizes.length : Int) > 0 → sizes.length = ev.length) : ∀ (r pre : List (List Int)) (s : CSt) (f : Nat), ev = pre ++ r → r.length < f → s.2.2.2.length = n.toNat → 0 ≤ s.1 → s.1 + r.flatten.length ≤ 50000 → evening_check_1 n sizes ev f s.1 s.2.1 s.2.2.1 s.2.2.2 pre.length = some (if sbad sizes r pre.length then .inr 2 else let q := r.flatten.foldl (stepC n) s; .inl (q.1, q.2.1, q.2.2.1))
  | [], pre, s, f + 1, h, _, _, _, _ => by
    subst h
    unfold evening_check_1
    rw [nlt_len]
    rfl
  | t :: r, pre, s, f + 1, h, hf, hs, h0, h1 => by
    obtain ⟨m, tw, un, seen⟩ := s
    simp only at hs h0 h1 ⊢
    subst h
    unfold evening_check_1
    rw [if_pos (lt_len pre t r), idx_app]
    simp only [Option.bind_some]
    rw [shape_j sizes (pre ++ t :: r) t pre.length (fun h => by rw [hsz h]; simp)]
    simp only [Option.bind_some]
    simp only [List.flatten_cons, List.length_append] at h1
    cases hb : (((t.length : Int) == 0) || (decide ((sizes.length : Int) > 0) && (match idx sizes (pre.length : Int) with | some v => ((t.length : Int) != v) | none => false))) with
    | true =>
      simp only [sbad, hb, Bool.true_or, if_true]
    | false =>
      simp only [sbad, hb, Bool.false_or, Bool.false_eq_true, if_false]
      have h2 := check_2 n sizes (pre ++ t :: r) pre.length hn0 t [] (m, tw, un, seen) 100000 t rfl (by omega) (by omega) hs h0 (by simp; omega)
      rw [show ((([] : List Int).length : Nat) : Int) = 0 from rfl] at h2
      simp only at h2
      rw [h2]
      simp only [Option.bind_some]
      have hfold : ∀ (l : List Int) (s : CSt), (l.foldl (stepC n) s).2.2.2.length = s.2.2.2.length ∧ (l.foldl (stepC n) s).1 ≤ s.1 + l.length ∧ s.1 ≤ (l.foldl (stepC n) s).1 := by
        intro l
        induction l with
        | nil => intro s; simp
        | cons a l ih =>
          intro s
          obtain ⟨a1, a2, a3⟩ := ih (stepC n s a)
          have := stepC_le n s a
          rw [List.foldl_cons]
          refine ⟨a1.trans (stepC_len n s a), ?_, ?_⟩
          · simp; omega
          · omega
      obtain ⟨a1, a2, a3⟩ := hfold t (m, tw, un, seen)
      simp only at a1 a2 a3
      rw [wr_snoc pre t r (by omega), check_1 n sizes (pre ++ t :: r) hn0 hl hsz r (pre ++ [t]) (t.foldl (stepC n) (m, tw, un, seen)) f (by simp) (by simp at hf; omega) (by omega) (by omega) (by omega)]
      rw [← snoc_len]
      simp only [List.flatten_cons, List.foldl_append]
def badV (n v : Int) : Bool := decide (v < 0 ∨ v ≥ n)
theorem un_eq (n : Int) : ∀ (L : List Int) (s : CSt), (L.foldl (stepC n) s).2.2.1 = (s.2.2.1 || L.any (badV n))
  | [], s => by simp
  | v :: L, s => by
    rw [List.foldl_cons, un_eq n L, List.any_cons]
    by_cases hv : v < 0 ∨ v ≥ n
    · have hb : badV n v = true := by simp only [badV, decide_eq_true_eq]; exact hv
      have hs : (stepC n s v).2.2.1 = true := by unfold stepC; rw [if_pos hv]
      rw [hb, hs]; simp
    · have hb : badV n v = false := by simp only [badV, decide_eq_false_iff_not]; exact hv
      have hs : (stepC n s v).2.2.1 = s.2.2.1 := by unfold stepC; rw [if_neg hv]
      rw [hb, hs]; simp
structure InvC (N : Nat) (P : List Int) (s : CSt) : Prop where
  len : s.2.2.2.length = N
  seen : ∀ k, k < N → s.2.2.2[k]?.getD false = decide ((k : Int) ∈ P)
  tw : s.2.1 = true ↔ ∃ x, 2 ≤ P.count x
  many : s.1 = (s.2.2.2.count true : Int)
theorem count_set : ∀ (l : List Bool) (k : Nat), k < l.length → ((l.set k true).count true : Int) = l.count true + (if l[k]?.getD false then 0 else 1)
  | [], k, h => by simp at h
  | b :: l, 0, _ => by cases b <;> simp
  | b :: l, k + 1, h => by
    have := count_set l k (by simpa using h)
    simp only [List.set_cons_succ, List.getElem?_cons_succ]
    cases b
    · simpa using this
    · simp only [List.count_cons_self]; push_cast; omega
theorem InvC.step {n : Int} {P : List Int} {s : CSt} (i : InvC n.toNat P s) {v : Int} (h0 : 0 ≤ v) (h1 : v < n) : InvC n.toNat (P ++ [v]) (stepC n s v) := by
  obtain ⟨m, tw, un, seen⟩ := s
  obtain ⟨i1, i2, i3, i4⟩ := i
  simp only at i1 i2 i3 i4
  have hst : stepC n (m, tw, un, seen) v = ((if seen[v.toNat]?.getD false then m else m + 1), tw || seen[v.toNat]?.getD false, un, seen.set v.toNat true) := by
    unfold stepC; rw [if_neg (by omega)]
  have hlt : v.toNat < seen.length := by clear i3; omega
  have hv := i2 v.toNat (by clear i3; omega)
  have hvv : ((v.toNat : Nat) : Int) = v := by clear i3; omega
  rw [hvv] at hv
  rw [hst]
  refine ⟨by simpa using i1, fun k hk => ?_, ?_, ?_⟩
  · simp only [List.getElem?_set]
    by_cases hkv : v.toNat = k
    · subst hkv
      simp [hlt, hvv]
    · rw [if_neg hkv, i2 k hk]
      have : ¬ (k : Int) = v := by clear i3; omega
      simp [this]
  · simp only [Bool.or_eq_true, i3, hv, decide_eq_true_eq]
    clear i3 i4
    constructor
    · rintro (⟨x, hx⟩ | hm)
      · exact ⟨x, by rw [List.count_append]; omega⟩
      · exact ⟨v, by rw [List.count_append]; have := List.count_pos_iff.2 hm; have e : [v].count v = 1 := (by simp); omega⟩
    · rintro ⟨x, hx⟩
      rw [List.count_append] at hx
      by_cases hxv : v = x
      · subst hxv
        have e : [v].count v = 1 := by simp
        rw [e] at hx
        exact .inr (List.count_pos_iff.1 (by omega))
      · rw [List.count_cons_of_ne hxv] at hx
        exact .inl ⟨x, by simpa using hx⟩
  · simp only
    rw [count_set seen v.toNat hlt, i4]
    split <;> simp
theorem inv_all {n : Int} : ∀ (L P : List Int) (s : CSt), InvC n.toNat P s → (∀ v ∈ L, 0 ≤ v ∧ v < n) → InvC n.toNat (P ++ L) (L.foldl (stepC n) s)
  | [], P, s, h, _ => by simpa using h
  | v :: L, P, s, h, hv => by
    obtain ⟨h0, h1⟩ := hv v (by simp)
    have := inv_all L (P ++ [v]) (stepC n s v) (h.step h0 h1) fun w hw => hv w (by simp [hw])
    simpa using this
theorem inv_0 (N : Nat) : InvC N [] (0, false, false, List.replicate N false) := by
  refine ⟨by simp, fun k hk => by simp [hk], by simp, ?_⟩
  simp [List.count_replicate]
theorem count_true_lt : ∀ (l : List Bool), l.count true ≤ l.length ∧ (l.count true < l.length ↔ ∃ k, k < l.length ∧ l[k]?.getD false = false)
  | [] => by simp
  | b :: l => by
    obtain ⟨h1, h2⟩ := count_true_lt l
    cases b with
    | false =>
      refine ⟨by simp; omega, ?_⟩
      simp only [List.count_cons_of_ne (show (false : Bool) ≠ true by decide), List.length_cons]
      exact ⟨fun _ => ⟨0, by omega, rfl⟩, fun _ => by omega⟩
    | true =>
      refine ⟨by simp; omega, ?_⟩
      simp only [List.count_cons_self, List.length_cons, Nat.add_lt_add_iff_right, h2]
      constructor
      · rintro ⟨k, a, b⟩; exact ⟨k + 1, by omega, by simpa using b⟩
      · rintro ⟨k, a, b⟩
        cases k with
        | zero => simp at b
        | succ k => exact ⟨k, by omega, by simpa using b⟩
/-- Some number of a stretch. -/
def anyN (p : Int → Bool) : Nat → Int → Bool
  | 0, _ => false
  | k + 1, i => p i || anyN p k (i + 1)
theorem anyN_iff (p : Int → Bool) : ∀ (k : Nat) (i : Int), anyN p k i = true ↔ ∃ x, i ≤ x ∧ x < i + k ∧ p x = true
  | 0, i => by simp [anyN]; intro x h1 h2; omega
  | k + 1, i => by
    simp only [anyN, Bool.or_eq_true, anyN_iff p k]
    constructor
    · rintro (h | ⟨x, h1, h2, h3⟩)
      · exact ⟨i, by omega, by omega, h⟩
      · exact ⟨x, by omega, by omega, h3⟩
    · rintro ⟨x, h1, h2, h3⟩
      by_cases hx : x = i
      · subst hx; exact .inl h3
      · exact .inr ⟨x, by omega, by omega, h3⟩
/-- What an evening's check answers. -/
def chk (n : Int) (sizes : List Int) (ev : List (List Int)) : Int :=
  if (decide ((sizes.length : Int) > 0) && ((sizes.length : Int) != (ev.length : Int))) = true then 2 else
  if sbad sizes ev 0 then 2 else
  if ev.flatten.any (badV n) then 6 else
  if anyN (fun x => decide ((ev.flatten.count x : Int) > 1)) n.toNat 0 then 5 else
  if anyN (fun x => ((ev.flatten.count x : Int) == 0)) n.toNat 0 then 2 else 0
theorem evening_check_eq (n : Int) (hn0 : 0 ≤ n) (hn : n ≤ 64) (sizes : List Int) (ev : List (List Int)) (hl : ev.length ≤ 50000) (hf : ev.flatten.length ≤ 50000) : evening_check n sizes ev = some (chk n sizes ev) := by
  unfold evening_check chk
  by_cases hs : (decide ((sizes.length : Int) > 0) && ((sizes.length : Int) != (ev.length : Int))) = true
  · rw [if_pos hs]
    simp only [Bool.and_eq_true, decide_eq_true_eq] at hs
    rw [if_pos (by simpa using hs.1)]
    simp only [Option.bind_some, hs.2, if_true]
  · rw [if_neg hs]
    have hsz : (sizes.length : Int) > 0 → sizes.length = ev.length := fun h => by
      simp only [Bool.and_eq_true, decide_eq_true_eq, not_and, Bool.not_eq_true, bne_eq_false_iff_eq] at hs
      have := hs h; omega
    have e1 : (if (decide ((sizes.length : Int) > 0)) = true then some ((sizes.length : Int) != (ev.length : Int)) else some false) = some false := by
      by_cases h : (sizes.length : Int) > 0
      · have := hsz h; simp [this]
      · have h' : ¬ 0 < sizes.length := by omega
        simp [h']
    rw [e1]
    simp only [Option.bind_some, Bool.false_eq_true, if_false]
    have hmk : mkOk 1 n = true := by
      simp only [mkOk, Bool.and_eq_true, decide_eq_true_eq]; omega
    rw [if_pos hmk]
    have h1 := check_1 n sizes ev hn0 hl hsz ev [] (0, false, false, List.replicate n.toNat false) 100000 rfl (by omega) (by simp) (by simp) (by simp only; omega)
    rw [show ((([] : List (List Int)).length : Nat) : Int) = 0 from rfl] at h1
    simp only at h1
    rw [h1]
    simp only [Option.bind_some]
    cases hb : sbad sizes ev 0 with
    | true => simp
    | false =>
      simp only [Bool.false_eq_true, if_false]
      rw [un_eq]
      simp only [Bool.false_or]
      cases hu : ev.flatten.any (badV n) with
      | true => simp
      | false =>
        simp only [Bool.false_eq_true, if_false]
        have hval : ∀ v ∈ ev.flatten, 0 ≤ v ∧ v < n := fun v hv => by
          have := List.any_eq_false.1 hu v hv
          simp only [badV, decide_eq_true_eq] at this
          omega
        obtain ⟨j1, j2, j3, j4⟩ := inv_all ev.flatten [] _ (inv_0 n.toNat) hval
        rw [List.nil_append] at j2 j3
        generalize ev.flatten.foldl (stepC n) (0, false, false, List.replicate n.toNat false) = q at *
        have t1 : q.2.1 = anyN (fun x => decide ((ev.flatten.count x : Int) > 1)) n.toNat 0 := by
          rw [Bool.eq_iff_iff, j3, anyN_iff]
          constructor
          · rintro ⟨x, hx⟩
            have := hval x (List.count_pos_iff.1 (by omega))
            exact ⟨x, by omega, by omega, by simp; omega⟩
          · rintro ⟨x, _, _, hx⟩
            simp at hx
            exact ⟨x, by omega⟩
        have t2 : decide (q.1 < n) = anyN (fun x => ((ev.flatten.count x : Int) == 0)) n.toNat 0 := by
          rw [Bool.eq_iff_iff, anyN_iff, decide_eq_true_eq, j4]
          have hc := count_true_lt q.2.2.2
          rw [j1] at hc
          constructor
          · intro h
            obtain ⟨k, k1, k2⟩ := hc.2.1 (by omega)
            rw [j2 k k1] at k2
            have hm : ¬ (k : Int) ∈ ev.flatten := by simpa using k2
            exact ⟨k, by omega, by omega, by rw [List.count_eq_zero.2 hm]; rfl⟩
          · rintro ⟨x, h1, h2, h3⟩
            have h3 : ev.flatten.count x = 0 := by simpa using h3
            have hm := List.count_eq_zero.1 h3
            have := hc.2.2 ⟨x.toNat, by omega, by rw [j2 _ (by omega), show ((x.toNat : Nat) : Int) = x by omega]; simpa using hm⟩
            omega
        rw [t1, t2]
        cases anyN (fun x => decide ((ev.flatten.count x : Int) > 1)) n.toNat 0 <;> cases anyN (fun x => ((ev.flatten.count x : Int) == 0)) n.toNat 0 <;> simp
theorem shape_r (sizes : List Int) (t : List Int) (i : Nat) (hs : (sizes.length : Int) > 0 → i < sizes.length) : (if ((t.length : Int) == 0) = true then some true else if (decide ((sizes.length : Int) > 0)) = true then (idx sizes i).bind fun v7 => some (v7 != (t.length : Int)) else some false) = some (((t.length : Int) == 0) || (decide ((sizes.length : Int) > 0) && (match idx sizes i with | some v => ((t.length : Int) != v) | none => false))) := by
  cases h1 : ((t.length : Int) == 0) with
  | true => simp
  | false =>
    by_cases h2 : (sizes.length : Int) > 0
    · have := hs h2
      rw [idx_lt this]
      have h3 : 0 < sizes.length := by omega
      simp [h3, bne_comm]
    · have h3 : ¬ 0 < sizes.length := by omega
      simp [h3]
theorem or_if {c : Int} (X Y : Bool) : (if X = true then some (Sum.inr c) else some (if Y = true then Sum.inr c else Sum.inl ())) = some (if (X || Y) = true then Sum.inr c else Sum.inl ()) := by
  cases X <;> simp
theorem rCheck_1 (n : Int) (sizes : List Int) (ev : List (List Int)) (hl : ev.length ≤ 50000) (hsz : (sizes.length : Int) > 0 → sizes.length = ev.length) : ∀ (r pre : List (List Int)) (f : Nat), ev = pre ++ r → r.length < f → ref09_CheckEvening_1 n sizes ev f pre.length = some (if sbad sizes r pre.length then .inr 2 else .inl ())
  | [], pre, f + 1, h, _ => by
    subst h
    unfold ref09_CheckEvening_1
    rw [nlt_len]
    rfl
  | t :: r, pre, f + 1, h, hf => by
    have ih := rCheck_1 n sizes ev hl hsz r (pre ++ [t]) f (by rw [h]; simp) (by simp at hf; omega)
    subst h
    unfold ref09_CheckEvening_1
    rw [if_pos (lt_len pre t r), idx_app]
    simp only [Option.bind_some]
    rw [wr_snoc pre t r (by omega), ih, ← snoc_len, shape_r sizes t pre.length (fun h => by rw [hsz h]; simp)]
    simp only [Option.bind_some, sbad]
    exact or_if _ _
theorem rCheck_3 (n : Int) (ev : List (List Int)) (c : Int) (t : List Int) (ht : idx ev c = some t) (hl : t.length ≤ 50000) : ∀ (r pre : List Int) (f : Nat), t = pre ++ r → r.length < f → ref09_CheckEvening_3 n ev c f pre.length = some (if r.any (badV n) then .inr 6 else .inl ())
  | [], pre, f + 1, h, _ => by
    unfold ref09_CheckEvening_3
    rw [ht]
    subst h
    simp only [Option.bind_some]
    rw [nlt_len]
    rfl
  | v :: r, pre, f + 1, h, hf => by
    have ih := rCheck_3 n ev c t ht hl r (pre ++ [v]) f (by rw [h]; simp) (by simp at hf; omega)
    unfold ref09_CheckEvening_3
    rw [ht]
    subst h
    simp only [Option.bind_some]
    rw [if_pos (lt_len pre v r), idx_app]
    simp only [Option.bind_some]
    rw [wr_snoc pre v r (by omega), ih]
    simp only [List.any_cons, badV]
    by_cases h1 : v < 0
    · simp [h1]
    · by_cases h2 : v ≥ n
      · simp [h1, h2]
      · simp [h1, h2]
theorem rCheck_2 (n : Int) (ev : List (List Int)) (hl : ev.length ≤ 50000) (hm : ∀ t ∈ ev, t.length ≤ 50000) : ∀ (r pre : List (List Int)) (f : Nat), ev = pre ++ r → r.length < f → ref09_CheckEvening_2 n ev f pre.length = some (if r.flatten.any (badV n) then .inr 6 else .inl ())
  | [], pre, f + 1, h, _ => by
    subst h
    unfold ref09_CheckEvening_2
    rw [nlt_len]
    rfl
  | t :: r, pre, f + 1, h, hf => by
    have ih := rCheck_2 n ev hl hm r (pre ++ [t]) f (by rw [h]; simp) (by simp at hf; omega)
    have ht := hm t (by rw [h]; simp)
    subst h
    unfold ref09_CheckEvening_2
    rw [if_pos (lt_len pre t r)]
    have h3 := rCheck_3 n (pre ++ t :: r) pre.length t (idx_app pre t r) ht t [] 100000 rfl (by omega)
    rw [show ((([] : List Int).length : Nat) : Int) = 0 from rfl] at h3
    rw [h3]
    simp only [Option.bind_some, List.flatten_cons, List.any_append]
    cases t.any (badV n) with
    | true => simp
    | false =>
      simp only [Bool.false_eq_true, if_false, Bool.false_or]
      rw [wr_snoc pre t r (by omega), ih]
theorem rCheck_45 (n : Int) (hn : n ≤ 64) (ev : List (List Int)) (hl : ev.length ≤ 50000) (hf : ev.flatten.length ≤ 50000) :
    (∀ (k : Nat) (i : Int) (f : Nat), (k : Int) = n - i → 0 ≤ i → k < f → ref09_CheckEvening_4 n ev f i = some (if anyN (fun x => decide ((ev.flatten.count x : Int) > 1)) k i then .inr 5 else .inl ())) ∧
    (∀ (k : Nat) (i : Int) (f : Nat), (k : Int) = n - i → 0 ≤ i → k < f → ref09_CheckEvening_5 n ev f i = some (if anyN (fun x => ((ev.flatten.count x : Int) == 0)) k i then .inr 2 else .inl ())) := by
  constructor
  · intro k
    induction k with
    | zero =>
      intro i f hk hi hf'
      obtain ⟨f, rfl⟩ : ∃ g, f = g + 1 := ⟨f - 1, by omega⟩
      unfold ref09_CheckEvening_4
      rw [if_neg (by simp; omega)]
      rfl
    | succ k ih =>
      intro i f hk hi hf'
      obtain ⟨f, rfl⟩ : ∃ g, f = g + 1 := ⟨f - 1, by omega⟩
      unfold ref09_CheckEvening_4
      rw [if_pos (by simp; omega), times_eq ev i hl hf]
      simp only [Option.bind_some, anyN]
      rw [wr_i (by omega) (by omega), ih (i + 1) f (by omega) (by omega) (by omega)]
      exact or_if _ _
  · intro k
    induction k with
    | zero =>
      intro i f hk hi hf'
      obtain ⟨f, rfl⟩ : ∃ g, f = g + 1 := ⟨f - 1, by omega⟩
      unfold ref09_CheckEvening_5
      rw [if_neg (by simp; omega)]
      rfl
    | succ k ih =>
      intro i f hk hi hf'
      obtain ⟨f, rfl⟩ : ∃ g, f = g + 1 := ⟨f - 1, by omega⟩
      unfold ref09_CheckEvening_5
      rw [if_pos (by simp; omega), times_eq ev i hl hf]
      simp only [Option.bind_some, anyN]
      rw [wr_i (by omega) (by omega), ih (i + 1) f (by omega) (by omega) (by omega)]
      exact or_if _ _
theorem ref09_CheckEvening_eq (n : Int) (hn0 : 0 ≤ n) (hn : n ≤ 64) (sizes : List Int) (ev : List (List Int)) (hl : ev.length ≤ 50000) (hf : ev.flatten.length ≤ 50000) : ref09_CheckEvening n sizes ev = some (chk n sizes ev) := by
  unfold ref09_CheckEvening chk
  by_cases hs : (decide ((sizes.length : Int) > 0) && ((sizes.length : Int) != (ev.length : Int))) = true
  · rw [if_pos hs]
    simp only [Bool.and_eq_true, decide_eq_true_eq] at hs
    rw [if_pos (by simpa using hs.1)]
    simp only [Option.bind_some, hs.2, if_true]
  · rw [if_neg hs]
    have hsz : (sizes.length : Int) > 0 → sizes.length = ev.length := fun h => by
      simp only [Bool.and_eq_true, decide_eq_true_eq, not_and, Bool.not_eq_true, bne_eq_false_iff_eq] at hs
      have := hs h; omega
    have e1 : (if (decide ((sizes.length : Int) > 0)) = true then some ((sizes.length : Int) != (ev.length : Int)) else some false) = some false := by
      by_cases h : (sizes.length : Int) > 0
      · have := hsz h; simp [this]
      · have h' : ¬ 0 < sizes.length := by omega
        simp [h']
    rw [e1]
    simp only [Option.bind_some, Bool.false_eq_true, if_false]
    have hm : ∀ t ∈ ev, t.length ≤ 50000 := fun t ht => by
      have := len_mem ht; omega
    have h1 := rCheck_1 n sizes ev hl hsz ev [] 100000 rfl (by omega)
    have h2 := rCheck_2 n ev hl hm ev [] 100000 rfl (by omega)
    rw [show ((([] : List (List Int)).length : Nat) : Int) = 0 from rfl] at h1 h2
    obtain ⟨h4, h5⟩ := rCheck_45 n hn ev hl hf
    have h4 := h4 n.toNat 0 100000 (by omega) (by omega) (by omega)
    have h5 := h5 n.toNat 0 100000 (by omega) (by omega) (by omega)
    rw [h1]
    simp only [Option.bind_some]
    cases sbad sizes ev 0 with
    | true => simp
    | false =>
      simp only [Bool.false_eq_true, if_false]
      rw [h2]
      simp only [Option.bind_some]
      cases ev.flatten.any (badV n) with
      | true => simp
      | false =>
        simp only [Bool.false_eq_true, if_false]
        rw [h4]
        simp only [Option.bind_some]
        cases anyN (fun x => decide ((ev.flatten.count x : Int) > 1)) n.toNat 0 with
        | true => simp
        | false =>
          simp only [Bool.false_eq_true, if_false]
          rw [h5]
          simp only [Option.bind_some]
          cases anyN (fun x => ((ev.flatten.count x : Int) == 0)) n.toNat 0 <;> simp
/-- The schedule's check, told by that of its evenings. -/
def chkS (n : Int) (sizes : List Int) : List (List (List Int)) → Int → Int × Int
  | [], _ => (0, 0)
  | ev :: r, i => if chk n sizes ev != 0 then (i, chk n sizes ev) else chkS n sizes r (i + 1)
def chkAll (n : Int) (sizes : List Int) (s : List (List (List Int))) : Int × Int :=
  if (decide (n < 1) || decide (n > 64) || (decide ((sizes.length : Int) > 0) && !fitP n sizes)) = true then (0, 90) else if s.length > 64 then (0, 7) else chkS n sizes s 0
theorem check_loop (n : Int) (hn0 : 0 ≤ n) (hn : n ≤ 64) (sizes : List Int) (s : List (List (List Int))) (hs : s.length ≤ 50000) (hl : ∀ ev ∈ s, ev.length ≤ 50000 ∧ ev.flatten.length ≤ 50000) : ∀ (r pre : List (List (List Int))) (f : Nat), s = pre ++ r → r.length < f →
    (∃ q, evening_Check_1 n sizes s f pre.length = some q ∧ ref09_Check_1 n sizes s f pre.length = some q ∧ (match q with | .inl _ => chkS n sizes r pre.length = (0, 0) | .inr w => chkS n sizes r pre.length = w))
  | [], pre, f + 1, h, _ => by
    subst h
    refine ⟨.inl (), ?_, ?_, rfl⟩
    · unfold evening_Check_1; rw [nlt_len]; rfl
    · unfold ref09_Check_1; rw [nlt_len]; rfl
  | ev :: r, pre, f + 1, h, hf => by
    obtain ⟨h1, h2⟩ := hl ev (by rw [h]; simp)
    obtain ⟨q, a1, a2, a3⟩ := check_loop n hn0 hn sizes s hs hl r (pre ++ [ev]) f (by rw [h]; simp) (by simp at hf; omega)
    have e1 := evening_check_eq n hn0 hn sizes ev h1 h2
    have e2 := ref09_CheckEvening_eq n hn0 hn sizes ev h1 h2
    rw [← snoc_len] at a3
    cases hc : (chk n sizes ev != 0) with
    | true =>
      refine ⟨.inr ((pre.length : Int), chk n sizes ev), ?_, ?_, by simp [chkS, hc]⟩
      · subst h
        unfold evening_Check_1
        rw [if_pos (lt_len pre ev r), idx_app]
        simp only [Option.bind_some]
        rw [e1]
        simp only [Option.bind_some, hc, if_true]
      · subst h
        unfold ref09_Check_1
        rw [if_pos (lt_len pre ev r), idx_app]
        simp only [Option.bind_some]
        rw [e2]
        simp only [Option.bind_some, hc, if_true]
    | false =>
      refine ⟨q, ?_, ?_, ?_⟩
      · subst h
        unfold evening_Check_1
        rw [if_pos (lt_len pre ev r), idx_app]
        simp only [Option.bind_some]
        rw [e1]
        simp only [Option.bind_some, hc, Bool.false_eq_true, if_false]
        rw [wr_snoc pre ev r (by omega)]
        exact a1
      · subst h
        unfold ref09_Check_1
        rw [if_pos (lt_len pre ev r), idx_app]
        simp only [Option.bind_some]
        rw [e2]
        simp only [Option.bind_some, hc, Bool.false_eq_true, if_false]
        rw [wr_snoc pre ev r (by omega)]
        exact a2
      · simp only [chkS, hc, Bool.false_eq_true, if_false]
        exact a3
theorem check_both (n : Int) (hn : in64 n) (sizes : List Int) (hsz : sizes.length ≤ 1000) (s : List (List (List Int))) (hs : s.length ≤ 50000) (hl : ∀ ev ∈ s, ev.length ≤ 50000 ∧ ev.flatten.length ≤ 50000) : evening_Check n sizes s = some (chkAll n sizes s) ∧ ref09_Check n sizes s = some (chkAll n sizes s) := by
  have hg : evening_guests n = some (decide (1 ≤ n) && decide (n ≤ 64)) := by
    unfold evening_guests
    by_cases h : 1 ≤ n
    · simp [h]
    · simp [h]
  unfold evening_Check ref09_Check chkAll
  rw [hg, evening_fit_eq n hn sizes hsz, ref09_Fit_eq n sizes hsz]
  simp only [Option.bind_some]
  by_cases h1 : n < 1
  · have h1' : ¬ 1 ≤ n := by omega
    simp [h1, h1']
  · by_cases h2 : n > 64
    · have h2' : ¬ n ≤ 64 := by omega
      simp [h1, h2, h2']
    · have h1' : 1 ≤ n := by omega
      have h2' : n ≤ 64 := by omega
      simp only [h1, h2, h1', h2', decide_true, decide_false, Bool.and_self, Bool.not_true, Bool.false_eq_true, if_false, Bool.false_or]
      by_cases h3 : (sizes.length : Int) > 0
      · cases hf : fitP n sizes with
        | false =>
          have h3' : 0 < sizes.length := by omega
          simp [h3']
        | true =>
          simp only [h3, decide_true, if_true, Bool.not_true, Option.bind_some, Bool.and_false, Bool.false_eq_true, if_false]
          by_cases h4 : s.length > 64
          · have h4' : decide ((s.length : Int) > 64) = true := by simp; omega
            simp only [h4', h4, if_true, and_self]
          · have h4' : decide ((s.length : Int) > 64) = false := by simp; omega
            simp only [h4', h4, if_false, Bool.false_eq_true]
            obtain ⟨q, a1, a2, a3⟩ := check_loop n (by omega) h2' sizes s hs hl s [] 100000 rfl (by omega)
            rw [show ((([] : List (List (List Int))).length : Nat) : Int) = 0 from rfl] at a1 a2 a3
            rw [a1, a2]
            cases q with
            | inl w => simp only at a3; simp [a3]
            | inr w => simp only at a3; simp [a3]
      · simp only [h3, decide_false, Bool.false_eq_true, if_false, Option.bind_some, Bool.false_and]
        by_cases h4 : s.length > 64
        · have h4' : decide ((s.length : Int) > 64) = true := by simp; omega
          simp only [h4', h4, if_true, and_self]
        · have h4' : decide ((s.length : Int) > 64) = false := by simp; omega
          simp only [h4', h4, if_false, Bool.false_eq_true]
          obtain ⟨q, a1, a2, a3⟩ := check_loop n (by omega) h2' sizes s hs hl s [] 100000 rfl (by omega)
          rw [show ((([] : List (List (List Int))).length : Nat) : Int) = 0 from rfl] at a1 a2 a3
          rw [a1, a2]
          cases q with
          | inl w => simp only at a3; simp [a3]
          | inr w => simp only at a3; simp [a3]
/- trestle/trestlelaw09.Few -/
/- trestle/trestlelaw09.Copy -/
/- trestle/trestlekit.SameInts -/
/- trestle/trestlekit.SameLists -/
/- trestle/trestlelaw09.Same$1 -/
/- slices.EqualFunc[[][][]int,[][][]int,[][]int,[][]int] -/
/- trestle/trestlelaw09.Same -/
def inc (cs : List Int) (i : Nat) : List Int := cs.set i (cs.getD i 0 + 1)
def incs (cs : List Int) (L : List Nat) : List Int := L.foldl inc cs
theorem inc_len (cs : List Int) (i : Nat) : (inc cs i).length = cs.length := by simp [inc]
theorem incs_len : ∀ (L : List Nat) (cs : List Int), (incs cs L).length = cs.length
  | [], _ => rfl
  | i :: L, cs => (incs_len L (inc cs i)).trans (inc_len cs i)
theorem incs_app (cs : List Int) (L L' : List Nat) : incs cs (L ++ L') = incs (incs cs L) L' := List.foldl_append
theorem incs_cons (cs : List Int) (i : Nat) (L : List Nat) : incs cs (i :: L) = incs (inc cs i) L := rfl
theorem inc_get (cs : List Int) (i j : Nat) (h : j < cs.length) : (inc cs i).getD j 0 = cs.getD j 0 + (if i = j then 1 else 0) := by
  unfold inc
  by_cases e : i = j
  · subst e
    simp [List.getD_eq_getElem?_getD, h]
  · simp [List.getD_eq_getElem?_getD, e]
theorem incs_get : ∀ (L : List Nat) (cs : List Int) (j : Nat), j < cs.length → (incs cs L).getD j 0 = cs.getD j 0 + (L.count j : Nat)
  | [], cs, j, _ => by simp [incs]
  | i :: L, cs, j, h => by
    rw [incs_cons, incs_get L (inc cs i) j (by rw [inc_len]; exact h), inc_get cs i j h, List.count_cons]
    by_cases e : i = j
    · simp [e]; omega
    · simp [e]
def zeros (n : Nat) : List Int := List.replicate n 0
theorem zeros_get (n j : Nat) : (zeros n).getD j 0 = 0 := by
  simp only [zeros, List.getD_eq_getElem?_getD, List.getElem?_replicate]
  split <;> rfl
theorem cnt_get (L : List Nat) (n j : Nat) (h : j < n) : (incs (zeros n) L).getD j 0 = (L.count j : Nat) := by
  rw [incs_get L (zeros n) j (by simpa [zeros] using h), zeros_get]; simp
/-- A bit of a number. -/
def tb (m i : Nat) : Bool := Nat.beq (Nat.mod (Nat.shiftRight m i) 2) 1
/-- The numbers of a list as bits; none if one stands there twice. -/
def bits : List Nat → Nat → Option Nat
  | [], m => some m
  | i :: L, m => bif tb m i then none else bits L (Nat.lor m (Nat.shiftLeft 1 i))
theorem cell_eq {n x y k l : Nat} (h1 : y < n) (h2 : l < n) (h : x * n + y = k * n + l) : x = k ∧ y = l := by
  have hn : 0 < n := by omega
  have e1 : (x * n + y) / n = x := by rw [Nat.mul_comm, Nat.mul_add_div hn, Nat.div_eq_of_lt h1]; rfl
  have e2 : (k * n + l) / n = k := by rw [Nat.mul_comm, Nat.mul_add_div hn, Nat.div_eq_of_lt h2]; rfl
  have : x = k := by rw [← e1, h, e2]
  subst this
  exact ⟨rfl, by omega⟩
theorem cell_lt {n x y : Nat} (h1 : x < n) (h2 : y < n) : x * n + y < n * n := by
  have : x * n + n ≤ n * n := by rw [← Nat.succ_mul]; exact Nat.mul_le_mul_right n h1
  omega
def toI1 (t : List Nat) : List Int := t.map Int.ofNat
def toI2 (ev : List (List Nat)) : List (List Int) := ev.map toI1
def toI3 (s : List (List (List Nat))) : List (List (List Int)) := s.map toI2
theorem toI1_len (t : List Nat) : (toI1 t).length = t.length := by simp [toI1]
theorem toI2_len (t : List (List Nat)) : (toI2 t).length = t.length := by simp [toI2]
theorem toI3_len (t : List (List (List Nat))) : (toI3 t).length = t.length := by simp [toI3]
theorem toI2_flat : ∀ (ev : List (List Nat)), (toI2 ev).flatten = toI1 ev.flatten
  | [] => rfl
  | t :: ev => by
    show toI1 t ++ (toI2 ev).flatten = toI1 (t ++ ev.flatten)
    rw [toI2_flat ev]; simp [toI1]
theorem toI1_count (L : List Nat) (x : Nat) : (toI1 L).count (x : Int) = L.count x := by
  induction L with
  | nil => rfl
  | cons v L ih =>
    show (Int.ofNat v :: toI1 L).count (x : Int) = _
    rw [List.count_cons, List.count_cons, ih]
    congr 1
    by_cases h : v = x
    · subst h; simp
    · have : ¬ (Int.ofNat v) = (x : Int) := fun e => h (Int.ofNat.inj e)
      simp [h]
      omega
theorem sbad_ok : ∀ (r : List (List Int)) (pre : List Int) (sz : List Int), (sz = [] ∨ sz = pre ++ r.map (fun t => (t.length : Int))) → (∀ t ∈ r, t.length ≠ 0) → sbad sz r pre.length = false
  | [], _, _, _, _ => rfl
  | t :: r, pre, sz, h, hne => by
    have h0 : ((t.length : Int) == 0) = false := by have := hne t (by simp); simp; intro h; subst h; simp at this
    have ih := sbad_ok r (pre ++ [(t.length : Int)]) sz (h.imp id fun h => by rw [h]; simp) (fun t ht => hne t (by simp [ht]))
    unfold sbad
    rw [h0, Bool.false_or]
    rw [← snoc_len] at ih
    rw [ih, Bool.or_false]
    rcases h with h | h
    · subst h; simp
    · rw [h, List.map_cons, idx_app]; simp
theorem mem_toI1 {L : List Nat} {v : Int} (h : v ∈ toI1 L) : ∃ j ∈ L, v = Int.ofNat j := by
  obtain ⟨j, h1, h2⟩ := List.mem_map.1 h
  exact ⟨j, h1, h2.symm⟩
theorem anyN_false (p : Int → Bool) (k : Nat) (h : ∀ x : Nat, x < k → p x = false) : anyN p k 0 = false := by
  cases e : anyN p k 0 with
  | false => rfl
  | true =>
    obtain ⟨x, h1, h2, h3⟩ := (anyN_iff p k 0).1 e
    have := h x.toNat (by omega)
    rw [show ((x.toNat : Nat) : Int) = x by omega, h3] at this
    cases this
theorem chkS_ok (n : Int) (sz : List Int) : ∀ (s : List (List (List Int))) (i : Int), (∀ ev ∈ s, chk n sz ev = 0) → chkS n sz s i = (0, 0)
  | [], _, _ => rfl
  | ev :: s, i, h => by
    unfold chkS
    rw [h ev (by simp)]
    exact chkS_ok n sz s (i + 1) fun e he => h e (by simp [he])
/-- The cells after some counts. -/
def celM (n : Nat) (L : List Nat) : List Int := incs (zeros (n * n)) L
theorem celM_len (n : Nat) (L : List Nat) : (celM n L).length = n * n := by rw [celM, incs_len]; simp [zeros]
theorem celM_wr {n x y : Nat} (hn : n ≤ 64) (hx : x < n) (hy : y < n) : wr .i64 (wr .i64 ((x : Int) * (n : Int)) + (y : Int)) = ((x * n + y : Nat) : Int) := by
  have h1 := cell_lt hx hy
  have h2 : n * n ≤ 64 * 64 := Nat.mul_le_mul hn hn
  have e : (x : Int) * (n : Int) = ((x * n : Nat) : Int) := by simp
  have q : wr .i64 ((x * n : Nat) : Int) = ((x * n : Nat) : Int) := wr_i (by omega) (by omega)
  rw [e, q, wr_i (by omega) (by omega)]
  simp
theorem celM_idx {n x y : Nat} (L : List Nat) (hx : x < n) (hy : y < n) : idx (celM n L) ((x * n + y : Nat) : Int) = some ((L.count (x * n + y) : Nat) : Int) := by
  have h1 := cell_lt hx hy
  have h2 : x * n + y < (celM n L).length := by rw [celM_len]; exact h1
  rw [idx_lt h2]
  have := cnt_get L (n * n) (x * n + y) h1
  rw [← this, List.getD_eq_getElem?_getD]
  show some _ = some ((celM n L)[x * n + y]?.getD 0)
  rw [List.getElem?_eq_getElem h2]
  rfl
theorem celM_set {n x y : Nat} (L : List Nat) (hL : L.length ≤ 10000000) (hx : x < n) (hy : y < n) : (celM n L).set (((x * n + y : Nat) : Int)).toNat (wr .i64 (((L.count (x * n + y) : Nat) : Int) + 1)) = celM n (L ++ [x * n + y]) := by
  have h1 := cell_lt hx hy
  have hc : L.count (x * n + y) ≤ L.length := List.count_le_length
  rw [wr_i (by omega) (by omega), Int.toNat_natCast]
  have h2 : celM n (L ++ [x * n + y]) = inc (celM n L) (x * n + y) := by rw [celM, incs_app]; rfl
  rw [h2, inc]
  have := cnt_get L (n * n) (x * n + y) h1
  rw [show (celM n L).getD (x * n + y) 0 = _ from this]
theorem toI1_app (a b : List Nat) : toI1 (a ++ b) = toI1 a ++ toI1 b := by simp [toI1]
theorem idx_toI1 (pre : List Nat) (x : Nat) (r : List Nat) : idx (toI1 (pre ++ x :: r)) (pre.length : Int) = some (x : Int) := by
  rw [toI1_app, ← toI1_len pre]
  exact idx_app _ _ _
theorem idx_toI2 (pre : List (List Nat)) (x : List Nat) (r : List (List Nat)) : idx (toI2 (pre ++ x :: r)) (pre.length : Int) = some (toI1 x) := by
  have : toI2 (pre ++ x :: r) = toI2 pre ++ toI1 x :: toI2 r := by simp [toI2]
  rw [this, ← toI2_len pre]
  exact idx_app _ _ _
theorem idx_toI3 (pre : List (List (List Nat))) (x : List (List Nat)) (r : List (List (List Nat))) : idx (toI3 (pre ++ x :: r)) (pre.length : Int) = some (toI2 x) := by
  have : toI3 (pre ++ x :: r) = toI3 pre ++ toI2 x :: toI3 r := by simp [toI3]
  rw [this, ← toI3_len pre]
  exact idx_app _ _ _
theorem wr_nat {k : Nat} (h : k ≤ 1000000000) : wr .i64 ((k : Int) + 1) = ((k + 1 : Nat) : Int) := by
  rw [wr_i (by omega) (by omega)]; simp
theorem beq_nat (x y : Nat) : ((x : Int) == (y : Int)) = Nat.beq x y := by
  rw [Bool.eq_iff_iff, Nat.beq_eq]
  simp
  omega
/-- Rows of a square. -/
def rowsC (n : Nat) (cs : List Int) : Nat → Nat → List (List Int)
  | 0, _ => []
  | k + 1, x => ((cs.take ((x + 1) * n)).drop (x * n)) :: rowsC n cs k (x + 1)
theorem rows_1 (n : Nat) (hn : n ≤ 64) (cs : List Int) (hcs : cs.length = n * n) : ∀ (k x f : Nat) (out : List (List Int)), x + k = n → k < f → out.length = x → evening_square_int_rows_1 ((n : Int), cs) f out x = some (out ++ rowsC n cs k x)
  | 0, x, f + 1, out, h, _, _ => by
    unfold evening_square_int_rows_1
    rw [if_neg (by simp; omega)]
    simp [rowsC]
  | k + 1, x, f + 1, out, h, hf, ho => by
    have h2 : n * n ≤ 64 * 64 := Nat.mul_le_mul hn hn
    have hle : (x + 1) * n ≤ n * n := Nat.mul_le_mul_right n (by omega)
    have hle2 : x * n ≤ (x + 1) * n := Nat.mul_le_mul_right n (by omega)
    have hcl : (x + 1) * n ≤ cs.length := by rw [hcs]; exact hle
    have hc4 : cs.length ≤ 50000 := by rw [hcs]; exact Nat.le_trans h2 (by decide)
    have hln : ((cs.take ((x + 1) * n)).drop (x * n)).length ≤ 50000 := Nat.le_trans (by rw [List.length_drop, List.length_take]; exact Nat.le_trans (Nat.sub_le _ _) (Nat.min_le_right _ _)) hc4
    have e1 : wr .i64 ((x : Int) * (n : Int)) = ((x * n : Nat) : Int) := by
      have e : (x : Int) * (n : Int) = ((x * n : Nat) : Int) := by simp
      rw [e, wr_i (by omega) (by omega)]
    have e2 : wr .i64 ((wr .i64 ((x : Int) + 1)) * (n : Int)) = (((x + 1) * n : Nat) : Int) := by
      have e : ((x + 1 : Nat) : Int) * (n : Int) = (((x + 1) * n : Nat) : Int) := by simp
      rw [wr_nat (by omega), e, wr_i (by omega) (by omega)]
    have ih := rows_1 n hn cs hcs k (x + 1) f (out ++ [(cs.take ((x + 1) * n)).drop (x * n)]) (by omega) (by omega) (by simp; omega)
    unfold evening_square_int_rows_1
    simp only
    rw [if_pos (by simp; omega), e1, e2]
    have hcut : cutOk ((x * n : Nat) : Int) (((x + 1) * n : Nat) : Int) cs.length = true := by
      simp only [cutOk, Bool.and_eq_true, decide_eq_true_eq]
      exact ⟨⟨Int.natCast_nonneg _, Int.ofNat_le.2 hle2⟩, Int.ofNat_le.2 hcl⟩
    rw [if_pos hcut, Int.toNat_natCast, Int.toNat_natCast, clone_self _ hln]
    simp only [Option.bind_some]
    rw [if_pos (capOk_le (by omega) (by omega)), wr_nat (by omega), ih]
    simp [rowsC]
theorem rows_eq (n : Nat) (hn : n ≤ 64) (cs : List Int) (hcs : cs.length = n * n) : evening_square_int_rows ((n : Int), cs) = some (rowsC n cs n 0) := by
  unfold evening_square_int_rows
  rw [show (0 : Int) = ((0 : Nat) : Int) from rfl, rows_1 n hn cs hcs n 0 100000 [] (by omega) (by omega) rfl]
  rfl
theorem row_at {n : Nat} {cs : List Int} (hcs : cs.length = n * n) {x y : Nat} (hx : x < n) (hy : y < n) : ((cs.take ((x + 1) * n)).drop (x * n)).length = n ∧ ((cs.take ((x + 1) * n)).drop (x * n))[y]? = some (cs.getD (x * n + y) 0) := by
  have hle : (x + 1) * n ≤ n * n := Nat.mul_le_mul_right n (by omega)
  have e : (x + 1) * n = x * n + n := Nat.succ_mul x n
  have hc := cell_lt hx hy
  refine ⟨by simp; omega, ?_⟩
  rw [List.getElem?_drop, List.getElem?_take, if_pos (by omega), List.getD_eq_getElem?_getD, List.getElem?_eq_getElem (by omega)]
  rfl
theorem mkOk_nn {n : Nat} (hn : n ≤ 64) : mkOk 8 (wr .i64 ((n : Int) * (n : Int))) = true ∧ List.replicate (wr .i64 ((n : Int) * (n : Int))).toNat (0 : Int) = celM n [] := by
  have h2 : n * n ≤ 64 * 64 := Nat.mul_le_mul hn hn
  have e : (n : Int) * (n : Int) = ((n * n : Nat) : Int) := by simp
  rw [e, wr_i (by omega) (by omega)]
  refine ⟨?_, by rw [Int.toNat_natCast]; rfl⟩
  simp only [mkOk, Bool.and_eq_true, decide_eq_true_eq]
  omega
/-- Small enough for all loops. -/
structure Sml (n : Nat) (s : List (List (List Nat))) : Prop where
  n64 : n ≤ 64
  mem : ∀ ev ∈ s, ∀ t ∈ ev, ∀ x ∈ t, x < n
  ev : ∀ ev ∈ s, ev.flatten.length ≤ 90000 ∧ ev.length ≤ 90000
  len : s.length ≤ 90000
  all : s.flatten.flatten.length ≤ 90000
/-- How many pairs are counted at most. -/
def sqs : List (List Nat) → Nat
  | [] => 0
  | t :: ev => t.length * t.length + sqs ev
def sqS : List (List (List Nat)) → Nat
  | [] => 0
  | ev :: s => sqs ev + sqS s
/-- Small enough for meetings. -/
structure SmM (n : Nat) (s : List (List (List Nat))) : Prop where
  n64 : n ≤ 64
  mem : ∀ ev ∈ s, ∀ t ∈ ev, ∀ x ∈ t, x < n
  ev : ∀ ev ∈ s, (∀ t ∈ ev, t.length ≤ 2000) ∧ ev.length ≤ 90000
  len : s.length ≤ 90000
  all : sqS s ≤ 9000000
theorem sqs_le : ∀ ev : List (List Nat), (∀ t ∈ ev, t.length ≤ 64) → sqs ev ≤ 64 * ev.flatten.length
  | [], _ => by simp [sqs]
  | t :: ev, h => by
    have a := sqs_le ev fun u hu => h u (by simp [hu])
    have c : t.length * t.length ≤ 64 * t.length := Nat.mul_le_mul_right _ (h t (by simp))
    simp only [sqs, List.flatten_cons, List.length_append, Nat.mul_add]; omega
theorem sqS_le : ∀ s : List (List (List Nat)), (∀ ev ∈ s, sqs ev ≤ 4096) → sqS s ≤ s.length * 4096
  | [], _ => by simp [sqS]
  | ev :: s, h => by
    have a := sqS_le s fun u hu => h u (by simp [hu])
    have b := h ev (by simp)
    simp only [sqS, List.length_cons, Nat.succ_mul]; omega
theorem flats_le : ∀ s : List (List (List Nat)), (∀ ev ∈ s, ev.flatten.length ≤ 64) → s.flatten.flatten.length ≤ s.length * 64
  | [], _ => by simp
  | ev :: s, h => by
    have a := flats_le s fun u hu => h u (by simp [hu])
    have b := h ev (by simp)
    rw [List.flatten_cons, List.flatten_append, List.length_append, List.length_cons, Nat.succ_mul]; omega
theorem len_flat {ev : List (List Nat)} (h : ∀ t ∈ ev, t.length ≠ 0) : ev.length ≤ ev.flatten.length := by
  induction ev with
  | nil => simp
  | cons t ev ih =>
    have := ih fun u hu => h u (by simp [hu])
    have := h t (by simp)
    simp only [List.flatten_cons, List.length_append, List.length_cons]; omega
/-- Where guests who meet are counted. -/
def meetT (n : Nat) : List Nat → List Nat → List Nat
  | _, [] => []
  | pre, x :: r => (pre ++ r).map (fun y => Nat.add (Nat.mul x n) y) ++ meetT n (pre ++ [x]) r
def meetE (n : Nat) : List (List Nat) → List Nat
  | [] => []
  | t :: ev => meetT n [] t ++ meetE n ev
def meetS (n : Nat) : List (List (List Nat)) → List Nat
  | [] => []
  | ev :: s => meetE n ev ++ meetS n s
/- Meetings. -/
def inner (n x i : Nat) : Nat → List Nat → List Nat
  | _, [] => []
  | k, y :: r => (if i = k then [] else [x * n + y]) ++ inner n x i (k + 1) r
def meetG (n : Nat) (t : List Nat) : Nat → List Nat → List Nat
  | _, [] => []
  | i, x :: r => inner n x i 0 t ++ meetG n t (i + 1) r
theorem inner_len (n x i : Nat) : ∀ (r : List Nat) (k : Nat), (inner n x i k r).length ≤ r.length
  | [], _ => by simp [inner]
  | y :: r, k => by
    have := inner_len n x i r (k + 1)
    simp only [inner, List.length_append, List.length_cons]
    split
    · simp only [List.length_nil]; omega
    · simp only [List.length_singleton]; omega
theorem inner_ge (n x i : Nat) : ∀ (r : List Nat) (k : Nat), i < k → inner n x i k r = r.map fun y => x * n + y
  | [], _, _ => rfl
  | y :: r, k, h => by
    simp only [inner, List.map_cons]
    rw [if_neg (by omega), inner_ge n x i r (k + 1) (by omega)]
    rfl
theorem inner_app (n x z : Nat) (r : List Nat) : ∀ (pre : List Nat) (k i : Nat), i = k + pre.length → inner n x i k (pre ++ z :: r) = (pre ++ r).map fun y => x * n + y
  | [], k, i, h => by
    simp only [List.nil_append, inner]
    rw [if_pos (by simpa using h), inner_ge n x i r (k + 1) (by simp at h; omega)]
    rfl
  | y :: pre, k, i, h => by
    simp only [List.cons_append, inner, List.map_cons]
    simp only [List.length_cons] at h
    rw [if_neg (by omega), inner_app n x z r pre (k + 1) i (by omega)]
    rfl
theorem meetG_T (n : Nat) (t : List Nat) : ∀ (r pre : List Nat), t = pre ++ r → meetG n t pre.length r = meetT n pre r
  | [], _, _ => rfl
  | x :: r, pre, h => by
    have ih := meetG_T n t r (pre ++ [x]) (by rw [h]; simp)
    simp only [meetG, meetT]
    rw [show pre.length + 1 = (pre ++ [x]).length by simp, ih]
    congr 1
    rw [h]
    exact inner_app n x x r pre 0 pre.length (by omega)
theorem meetG_len (n : Nat) (t : List Nat) : ∀ (r : List Nat) (i : Nat), (meetG n t i r).length ≤ t.length * r.length
  | [], _ => by simp [meetG]
  | x :: r, i => by
    have := meetG_len n t r (i + 1)
    have := inner_len n x i t 0
    simp only [meetG, List.length_append, List.length_cons, Nat.mul_succ]
    omega
theorem meetT_len (n : Nat) (t : List Nat) : (meetT n [] t).length ≤ t.length * t.length := by
  rw [← meetG_T n t t [] rfl]; exact meetG_len n t t 0
theorem mtg_y {n x y : Nat} {y0 y5 y6 : Int} {y3 : List (List Int)} {y4 : List (List (List Int))} (L : List Nat) (hn : n ≤ 64) (hL : L.length ≤ 10000000) (hx : x < n) (hy : y < n) : evening_meetings_k3_y y0 n (celM n L) y3 y4 y5 y6 x y = some (celM n (L ++ [x * n + y])) := by
  unfold evening_meetings_k3_y evening_meetings_k3_y_k1
  rw [celM_wr hn hx hy, celM_idx L hx hy]
  simp only [Option.bind_some]
  rw [celM_set L hL hx hy]
theorem mtg_3 (y0 : Int) (y3 : List (List Int)) (y4 : List (List (List Int))) (y5 y6 c1 : Int) (n : Nat) (hn : n ≤ 64) (t : List Nat) (ht : ∀ x ∈ t, x < n) (htl : t.length ≤ 2000) (i x : Nat) (hx : x < n) : ∀ (r pre : List Nat) (f : Nat) (L : List Nat), t = pre ++ r → r.length < f → L.length + r.length ≤ 10000000 →
    evening_meetings_k3_3 y0 n y3 y4 y5 y6 c1 (toI1 t) i x f pre.length (celM n L) = some (celM n (L ++ inner n x i pre.length r))
  | [], pre, f + 1, L, h, _, _ => by
    unfold evening_meetings_k3_3
    rw [if_neg (by rw [toI1_len, h]; simp)]
    simp [inner]
  | y :: r, pre, f + 1, L, h, hf, hL => by
    have hy : y < n := ht y (by rw [h]; simp)
    simp only [List.length_cons] at hf hL
    have hwr : wr .i64 ((pre.length : Int) + 1) = ((pre ++ [y]).length : Int) := by
      have : pre.length ≤ t.length := by rw [h]; simp
      rw [wr_nat (by omega)]; simp
    have rec_ := fun L' hL' => mtg_3 y0 y3 y4 y5 y6 c1 n hn t ht htl i x hx r (pre ++ [y]) f L' (by rw [h]; simp) (by omega) hL'
    unfold evening_meetings_k3_3
    rw [if_pos (by rw [toI1_len, h]; simp; omega), show idx (toI1 t) (pre.length : Int) = some (y : Int) by rw [h]; exact idx_toI1 pre y r]
    simp only [Option.bind_some, inner]
    by_cases e : i = pre.length
    · rw [if_neg (by simp [e]), if_pos e, hwr, rec_ L (by omega)]
      simp
    · rw [if_pos (by simp; omega), if_neg e, mtg_y L hn (by omega) hx hy]
      simp only [Option.bind_some]
      rw [hwr, rec_ _ (by simp; omega)]
      simp
theorem mtg_2 (y0 : Int) (y3 : List (List Int)) (y4 : List (List (List Int))) (y5 y6 c1 : Int) (n : Nat) (hn : n ≤ 64) (t : List Nat) (ht : ∀ x ∈ t, x < n) (htl : t.length ≤ 2000) : ∀ (r pre : List Nat) (f : Nat) (L : List Nat), t = pre ++ r → r.length < f → L.length + t.length * r.length ≤ 10000000 →
    evening_meetings_k3_2 y0 n y3 y4 y5 y6 c1 (toI1 t) f pre.length (celM n L) = some (celM n (L ++ meetG n t pre.length r))
  | [], pre, f + 1, L, h, _, _ => by
    unfold evening_meetings_k3_2
    rw [if_neg (by rw [toI1_len, h]; simp)]
    simp [meetG]
  | x :: r, pre, f + 1, L, h, hf, hL => by
    have hx : x < n := ht x (by rw [h]; simp)
    simp only [List.length_cons, Nat.mul_succ] at hf hL
    have hwr : wr .i64 ((pre.length : Int) + 1) = ((pre ++ [x]).length : Int) := by
      have : pre.length ≤ t.length := by rw [h]; simp
      rw [wr_nat (by omega)]; simp
    have h3 := mtg_3 y0 y3 y4 y5 y6 c1 n hn t ht htl pre.length x hx t [] 100000 L rfl (by omega) (by omega)
    rw [show ((([] : List Nat).length : Nat) : Int) = 0 from rfl, show ([] : List Nat).length = 0 from rfl] at h3
    have hin := inner_len n x pre.length t 0
    have ih := mtg_2 y0 y3 y4 y5 y6 c1 n hn t ht htl r (pre ++ [x]) f (L ++ inner n x pre.length 0 t) (by rw [h]; simp) (by omega) (by rw [List.length_append]; omega)
    unfold evening_meetings_k3_2
    rw [if_pos (by rw [toI1_len, h]; simp; omega), show idx (toI1 t) (pre.length : Int) = some (x : Int) by rw [h]; exact idx_toI1 pre x r]
    simp only [Option.bind_some]
    rw [h3]
    simp only [Option.bind_some]
    rw [hwr, ih]
    simp [meetG]
theorem meetE_len (n : Nat) : ∀ (ev : List (List Nat)), (meetE n ev).length ≤ sqs ev
  | [] => by simp [meetE]
  | t :: ev => by
    have := meetE_len n ev
    have := meetT_len n t
    simp only [meetE, sqs, List.length_append]; omega
theorem mtg_1 (y0 : Int) (y4 : List (List (List Int))) (y5 y6 : Int) (n : Nat) (hn : n ≤ 64) (ev : List (List Nat)) (hev : ∀ t ∈ ev, ∀ x ∈ t, x < n) (hel : ∀ t ∈ ev, t.length ≤ 2000) (hev2 : ev.length ≤ 90000) : ∀ (r pre : List (List Nat)) (f : Nat) (L : List Nat), ev = pre ++ r → r.length < f → L.length + sqs r ≤ 10000000 →
    evening_meetings_k3_1 y0 n (toI2 ev) y4 y5 y6 f pre.length (celM n L) = some (celM n (L ++ meetE n r))
  | [], pre, f + 1, L, h, _, _ => by
    unfold evening_meetings_k3_1
    rw [if_neg (by rw [toI2_len, h]; simp)]
    simp [meetE]
  | t :: r, pre, f + 1, L, h, hf, hL => by
    have htl : t.length ≤ 2000 := hel t (by rw [h]; simp)
    simp only [sqs] at hL
    have h3 := mtg_2 y0 (toI2 ev) y4 y5 y6 pre.length n hn t (hev t (by rw [h]; simp)) (by omega) t [] 100000 L rfl (by omega) (by omega)
    rw [show ((([] : List Nat).length : Nat) : Int) = 0 from rfl, meetG_T n t t [] rfl] at h3
    have hwr : wr .i64 ((pre.length : Int) + 1) = ((pre ++ [t]).length : Int) := by
      have : pre.length ≤ ev.length := by rw [h]; simp
      rw [wr_nat (by omega)]; simp
    have hb := meetT_len n t
    have ih := mtg_1 y0 y4 y5 y6 n hn ev hev hel hev2 r (pre ++ [t]) f (L ++ meetT n [] t) (by rw [h]; simp) (by simp at hf; omega) (by rw [List.length_append]; omega)
    unfold evening_meetings_k3_1
    rw [if_pos (by rw [toI2_len, h]; simp; omega), show idx (toI2 ev) (pre.length : Int) = some (toI1 t) by rw [h]; exact idx_toI2 pre t r]
    simp only [Option.bind_some]
    rw [h3]
    simp only [Option.bind_some]
    rw [hwr, ih]
    simp [meetE]
theorem mtg_0 (n : Nat) (hn : n ≤ 64) (s : List (List (List Nat))) (v1 : Int × Int × List Int) (hv1 : v1.1 = (n : Int)) (hs : ∀ ev ∈ s, ∀ t ∈ ev, ∀ x ∈ t, x < n) (hsl : ∀ ev ∈ s, (∀ t ∈ ev, t.length ≤ 2000) ∧ ev.length ≤ 90000) (hs2 : s.length ≤ 90000) : ∀ (r pre : List (List (List Nat))) (f : Nat) (L : List Nat), s = pre ++ r → r.length < f → L.length + sqS r ≤ 10000000 →
    evening_meetings_1 (toI3 s) v1 f (celM n L) pre.length = some (celM n (L ++ meetS n r))
  | [], pre, f + 1, L, h, _, _ => by
    unfold evening_meetings_1
    rw [if_neg (by rw [toI3_len, h]; simp)]
    simp [meetS]
  | ev :: r, pre, f + 1, L, h, hf, hL => by
    obtain ⟨hl1, hl2⟩ := hsl ev (by rw [h]; simp)
    simp only [sqS] at hL
    have h3 := mtg_1 0 (toI3 s) ((toI3 s).length : Int) pre.length n hn ev (hs ev (by rw [h]; simp)) hl1 hl2 ev [] 100000 L rfl (by omega) (by omega)
    rw [show ((([] : List (List Nat)).length : Nat) : Int) = 0 from rfl] at h3
    have hwr : wr .i64 ((pre.length : Int) + 1) = ((pre ++ [ev]).length : Int) := by
      have : pre.length ≤ s.length := by rw [h]; simp
      rw [wr_nat (by omega)]; simp
    have hb := meetE_len n ev
    have ih := mtg_0 n hn s v1 hv1 hs hsl hs2 r (pre ++ [ev]) f (L ++ meetE n ev) (by rw [h]; simp) (by simp at hf; omega) (by rw [List.length_append]; omega)
    unfold evening_meetings_1
    rw [if_pos (by rw [toI3_len, h]; simp; omega), show idx (toI3 s) (pre.length : Int) = some (toI2 ev) by rw [h]; exact idx_toI3 pre ev r]
    simp only [Option.bind_some, evening_meetings_k2, evening_meetings_k3, hv1]
    rw [h3]
    simp only [Option.bind_some]
    rw [hwr, ih]
    simp [meetS]
theorem meetings_eq {n : Nat} {s : List (List (List Nat))} (h : SmM n s) : evening_meetings n (toI3 s) = some ((n : Int), celM n (meetS n s)) := by
  unfold evening_meetings
  obtain ⟨m1, m2⟩ := mkOk_nn h.n64
  unfold evening_meetings_k1
  rw [if_pos m1, m2]
  simp only [Option.bind_some]
  have hl := h.len
  have h1 := mtg_0 n h.n64 s ((n : Int), (n : Int), celM n []) rfl h.mem h.ev h.len s [] 100000 [] rfl (by omega) (by have := h.all; simp at this ⊢; omega)
  rw [show ((([] : List (List (List Nat))).length : Nat) : Int) = 0 from rfl, List.nil_append] at h1
  rw [h1]
  rfl
theorem meet_eq {n : Nat} {s : List (List (List Nat))} (h : SmM n s) (hv : evening_valid n (toI3 s) = some true) : evening_Meet n (toI3 s) = some (rowsC n (celM n (meetS n s)) n 0) := by
  unfold evening_Meet
  rw [hv]
  simp only [Option.bind_some, Bool.not_true, Bool.false_eq_true, if_false]
  rw [meetings_eq h]
  simp only [Option.bind_some]
  rw [rows_eq n h.n64 _ (celM_len n _)]
  rfl
/- trestle/evening.Least -/
def evening_Least (x0 : Int) (x1 : (List (List (List Int)))) : Option (Int) :=
  (evening_valid x0 x1).bind fun v1 =>
  if (!v1) = true then
  some 0
  else
  (evening_extremes x0 x1).bind fun v3 =>
  some v3.1
end Go.Proofs.YtcmgmkepodbpkaaDoor
